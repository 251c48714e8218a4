/-
  Notes: their words.
-/
import Derived.Test.YtjgpbbdapjjmiaaDoorSmall
namespace Go.Proofs.YtjgpbbdapjjmiaaDoor
open Go.RowKit

structure NoteD where
  skater : Int
  before : Int
  inn : Int

def NoteD.enc (x : NoteD) : List Value := [.int .i64 x.skater, .int .i64 x.before, .int .i64 x.inn]
theorem NoteD.enc_len (x : NoteD) : x.enc.length = 3 := rfl
theorem NoteD.enc_one (x : NoteD) : ∀ u ∈ x.enc, u.oneCell' = true := by simp [NoteD.enc, Value.oneCell']
theorem NoteD.eq {x y : NoteD} (h0 : x.skater = y.skater) (h1 : x.before = y.before) (h2 : x.inn = y.inn) : x = y := by cases x; cases y; cases h0; cases h1; cases h2; rfl

theorem RdS.note {w : World} {A : Option Addr} {xs : List NoteD} (h : RdS NoteD.enc 3 w A xs) {k : Nat} (hk : k < xs.length) :
    ∃ b off x, A = some ⟨b, off, none⟩ ∧ Hid (xs[k]? = some x) ∧ w.cell? ⟨b, off + k * 3, none⟩ = some (.int .i64 x.skater) ∧ w.cell? ⟨b, off + k * 3 + 1, none⟩ = some (.int .i64 x.before) ∧ w.cell? ⟨b, off + k * 3 + 2, none⟩ = some (.int .i64 x.inn) := by
  obtain ⟨b, off, x, hA, hx, hc⟩ := h.elem hk
  exact ⟨b, off, x, hA, hx, hc 0 _ rfl, hc 1 _ rfl, hc 2 _ rfl⟩

theorem note_info : (Tryd.prog.info? 46).map (fun i => (i.zero, i.size, i.bytes)) = some (some (.agg #[Value.int IntKind.i64 0, Value.int IntKind.i64 0, Value.int IntKind.i64 0]), 3, 24) := by kernel_rfl
end Go.Proofs.YtjgpbbdapjjmiaaDoor
