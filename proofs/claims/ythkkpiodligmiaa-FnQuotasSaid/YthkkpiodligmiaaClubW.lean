/-
  Clubs: their words.
-/
import Derived.Test.YthkkpiodligmiaaSmall
namespace Go.Proofs.Ythkkpiodligmiaa
open Go.RowKit

structure ClubD where
  skater : Int
  club : Int

def ClubD.enc (x : ClubD) : List Value := [.int .i64 x.skater, .int .i64 x.club]
theorem ClubD.enc_len (x : ClubD) : x.enc.length = 2 := rfl
theorem ClubD.enc_one (x : ClubD) : ∀ u ∈ x.enc, u.oneCell' = true := by simp [ClubD.enc, Value.oneCell']
theorem ClubD.eq {x y : ClubD} (h0 : x.skater = y.skater) (h1 : x.club = y.club) : x = y := by cases x; cases y; cases h0; cases h1; rfl

theorem RdS.club {w : World} {A : Option Addr} {xs : List ClubD} (h : RdS ClubD.enc 2 w A xs) {k : Nat} (hk : k < xs.length) :
    ∃ b off x, A = some ⟨b, off, none⟩ ∧ Hid (xs[k]? = some x) ∧ w.cell? ⟨b, off + k * 2, none⟩ = some (.int .i64 x.skater) ∧ w.cell? ⟨b, off + k * 2 + 1, none⟩ = some (.int .i64 x.club) := by
  obtain ⟨b, off, x, hA, hx, hc⟩ := h.elem hk
  exact ⟨b, off, x, hA, hx, hc 0 _ rfl, hc 1 _ rfl⟩

theorem club_info : (Try.prog.info? 103).map (fun i => (i.zero, i.size, i.bytes)) = some (some (.agg #[Value.int IntKind.i64 0, Value.int IntKind.i64 0]), 2, 16) := by kernel_rfl
end Go.Proofs.Ythkkpiodligmiaa
