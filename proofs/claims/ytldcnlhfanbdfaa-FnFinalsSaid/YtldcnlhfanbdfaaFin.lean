/-
  Finishes: their words, and the walks of szFinishS, toFinish, toFinishS, eqFinish, eqFinishS, markFinishS.
-/
import Derived.Test.YtldcnlhfanbdfaaSmall
namespace Go.Proofs.Ytldcnlhfanbdfaa
open Go.RowKit

structure FinishD where
  team : Int
  place : Int

def FinishD.enc (x : FinishD) : List Value := [.int .i64 x.team, .int .i64 x.place]
theorem FinishD.enc_len (x : FinishD) : x.enc.length = 2 := rfl
theorem FinishD.enc_one (x : FinishD) : ∀ u ∈ x.enc, u.oneCell' = true := by simp [FinishD.enc, Value.oneCell']
theorem FinishD.eq {x y : FinishD} (h0 : x.team = y.team) (h1 : x.place = y.place) : x = y := by cases x; cases y; cases h0; cases h1; rfl

theorem RdS.finish {w : World} {A : Option Addr} {xs : List FinishD} (h : RdS FinishD.enc 2 w A xs) {k : Nat} (hk : k < xs.length) :
    ∃ b off x, A = some ⟨b, off, none⟩ ∧ Hid (xs[k]? = some x) ∧ w.cell? ⟨b, off + k * 2, none⟩ = some (.int .i64 x.team) ∧ w.cell? ⟨b, off + k * 2 + 1, none⟩ = some (.int .i64 x.place) := by
  obtain ⟨b, off, x, hA, hx, hc⟩ := h.elem hk
  exact ⟨b, off, x, hA, hx, hc 0 _ rfl, hc 1 _ rfl⟩

theorem finish_info : (Try.prog.info? 48).map (fun i => (i.zero, i.size, i.bytes)) = some (some (.agg #[Value.int IntKind.i64 0, Value.int IntKind.i64 0]), 2, 16) := by kernel_rfl

set_option maxHeartbeats 400000 in
theorem isTeam_yes {n : Int} (h1 : 1 ≤ n) (h2 : n ≤ 12) (w : World) :
    Calls Try.prog 43 #[.int .i64 n] w fun e w' => e = .returned (.bool true) ∧ w = w' := by
  go_enter Try.func43, Try.ntmps43
  go_wp2_with (go_at_call 50; refine (within_yes h1 h2 _).mono ?_; rintro e w' ⟨rfl, rfl⟩)
  go_ret
  exact ⟨rfl, rfl⟩
set_option maxHeartbeats 400000 in
theorem isTeam_no {n : Int} (h : ¬ (1 ≤ n ∧ n ≤ 12)) (w : World) :
    Calls Try.prog 43 #[.int .i64 n] w fun e w' => e = .returned (.bool false) ∧ w = w' := by
  go_enter Try.func43, Try.ntmps43
  go_wp2_with (go_at_call 50; refine (within_no h _).mono ?_; rintro e w' ⟨rfl, rfl⟩)
  go_ret
  exact ⟨rfl, rfl⟩

end Go.Proofs.Ytldcnlhfanbdfaa
