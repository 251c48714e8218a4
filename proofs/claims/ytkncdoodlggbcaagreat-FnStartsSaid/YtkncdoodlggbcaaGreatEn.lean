/-
  Entrants: their words.
-/
import Derived.Test.YtkncdoodlggbcaaGreatSmall
import Derived.Test.YtkncdoodlggbcaaGreatIs0
namespace Go.Proofs.YtkncdoodlggbcaaGreat
open Go.RowKit

structure EntrantD where
  skater : Int
  rank : Int

def EntrantD.enc (x : EntrantD) : List Value := [.int .i64 x.skater, .int .i64 x.rank]
theorem EntrantD.enc_len (x : EntrantD) : x.enc.length = 2 := rfl
theorem EntrantD.enc_one (x : EntrantD) : ∀ u ∈ x.enc, u.oneCell' = true := by simp [EntrantD.enc, Value.oneCell']
theorem EntrantD.eq {x y : EntrantD} (h0 : x.skater = y.skater) (h1 : x.rank = y.rank) : x = y := by cases x; cases y; cases h0; cases h1; rfl

theorem RdS.entrant {w : World} {A : Option Addr} {xs : List EntrantD} (h : RdS EntrantD.enc 2 w A xs) {k : Nat} (hk : k < xs.length) :
    ∃ b off x, A = some ⟨b, off, none⟩ ∧ Hid (xs[k]? = some x) ∧ w.cell? ⟨b, off + k * 2, none⟩ = some (.int .i64 x.skater) ∧ w.cell? ⟨b, off + k * 2 + 1, none⟩ = some (.int .i64 x.rank) := by
  obtain ⟨b, off, x, hA, hx, hc⟩ := h.elem hk
  exact ⟨b, off, x, hA, hx, hc 0 _ rfl, hc 1 _ rfl⟩

theorem entrant_info : (Tryz.prog.info? 60).map (fun i => (i.zero, i.size, i.bytes)) = some (some (.agg #[Value.int IntKind.i64 0, Value.int IntKind.i64 0]), 2, 16) := by kernel_rfl
end Go.Proofs.YtkncdoodlggbcaaGreat
namespace Go.Proofs.YtkncdoodlggbcaaGreat
open Go.ChangeShapes Go.WideShapes Go.ChangeAt Go.RowKit Go.Deep

def EntrantD.dat (x : EntrantD) : List D := [.int .i64 x.skater, .int .i64 x.rank]
theorem EntrantD.dat_ok : EncOK EntrantD.enc EntrantD.dat 2 := by
  refine ⟨fun _ => rfl, fun _ => rfl, fun x j d u hd hu w X => ?_, fun x j d u hd hu w X v hv => ?_⟩
  · match j with
    | 0 => simp [EntrantD.dat, EntrantD.enc] at hd hu; subst hd hu; exact .int _ _
    | 1 => simp [EntrantD.dat, EntrantD.enc] at hd hu; subst hd hu; exact .int _ _
    | j + 2 => simp [EntrantD.dat] at hd
  · match j with
    | 0 => simp [EntrantD.dat, EntrantD.enc] at hd hu; subst hd hu; cases hv; rfl
    | 1 => simp [EntrantD.dat, EntrantD.enc] at hd hu; subst hd hu; cases hv; rfl
    | j + 2 => simp [EntrantD.dat] at hd
end Go.Proofs.YtkncdoodlggbcaaGreat
