/- For all bytes, what the law FnNotes draws and asks holds: it returns true: the statement's card, proved. No conditions of ours; the card ties what five tables of the library hold to the program's text. -/
import Derived.Test.YthocihmhljmgdaaGreatDoorRows
import Derived.Test.YthocihmhljmgdaaGreatDoorCards
import Derived.Test.YthocihmhljmgdaaGreatDoorTie
import Derived.Test.YthocihmhljmgdaaGreatDoorZMa
import Derived.Test.YthocihmhljmgdaaGreatDoorZCq
import Derived.Test.YthocihmhljmgdaaGreatDoorZPm
import Derived.ProofKit
import Derived.OpenShut
import Derived.LaidMore
import Derived.Lay
import Derived.SevenTiedAt
import Derived.Stop.Joined
import Derived.Lib.LaidTab
import Derived.Stop.LaidErr
set_option linter.unusedSimpArgs false
set_option linter.unusedVariables false
set_option maxHeartbeats 2000000
set_option maxRecDepth 100000
namespace Go.Proofs.YthocihmhljmgdaaGreatDoor.lawNotes
open Go.ChangeShapes Go.WideShapes Go.ChangeAt Go.RowKit Go.Deep Go.ChangeMaps

theorem glW {W : World} (h : laidMetH Tryz.prog Rows.fnNotesRow.laid W) : GL W := by
  rw [MakeChecks.laidMetH_plain _ _ _ (by kernel_rfl)] at h
  obtain ⟨D, hD⟩ : ∃ D, Rows.fnNotesRow.laid.tail.tail = ("internal/strconv.uint64pow10", Lib.tabData .u64 Lib.pow10Tab) :: D := ⟨_, rfl⟩
  have h2 : laidMet Tryz.prog (Rows.fnNotesRow.laid.tail.tail) W := laidMet.tail (laidMet.tail h)
  rw [hD] at h2
  exact GL_tab (Lib.tabIs_of_head (t := 177) (e := 85) (n := 20) glP_glob (by kernel_rfl) (by kernel_rfl) (by kernel_rfl) (by kernel_rfl) (by kernel_rfl) h2)
theorem cut_at {P : Program} {x z : Code} {Q : Exit → AS → Prop} {s : AS} (base : AS) (h : ∀ K : AS → Prop, (∀ s', Fits s' base → K s') → PW P x (thenA K Q) s) (h2 : PW P z Q base) : PW P x (thenA (PW P z Q) Q) s := h _ fun _ hf => pw_fits hf h2
theorem resSc {l : List ResultD} (h : resL l) : ∀ r ∈ l, r.scores.length ≤ 1048576 := by
  intro r hr
  have := (h.2 r hr).2.2.1
  omega
theorem law_FnNotes_ok (xs0 : List Int) (m0 : xs0.length ≤ maxLen ∧ ∀ x ∈ xs0, 0 ≤ x ∧ x ≤ 255) (xs1 : List Int) (m1 : xs1.length ≤ maxLen ∧ ∀ x ∈ xs1, 0 ≤ x ∧ x ≤ 255) : FnEq Tryz.prog 3 [.d (.lst 1 (xs0.map datY)), .d (.lst 1 (xs1.map datY))] [.d (.bool true)] := by
  have hT : bP True = true := bP_true trivial
  have hm0 := m0.1
  have hm1 := m1.1
  have hbig := big_ok xs0 xs1 hm0 hm1
  unfold maxLen at hm0 hm1
  refine fn_ok G_ok Tryz.func3 rfl rfl ?_; simp only [Tryz.ntmps3, List.length_cons, List.length_nil, Nat.reduceAdd, Nat.reduceSub, enm]
  by_cases hb : 1048576 < xs0.length + xs1.length
  · rw [decide_eq_true hb] at hbig
    repeat' (first | ((with_reducible first | (refine hK _ ?_; clear hK K) | refine stq fun K' hK' => ?_ | refine stc ?_); try simp only [go_sem]) | (with_reducible first | refine stp ?_ | (refine hK' _ ?_; clear hK' K') | refine kN kl3 fun K hK => ?_ | refine kO fun K hK => ?_) | (refine xS rfl fun K' hK' => ?_; simp only [go_sem]) | ((with_reducible apply CallK.eq); (· with_reducible first | exact hbig); (· simp [RV.flat, D.sc, datI]); try simp only [go_sem]) | (with_reducible refine pK_mk ?_ ?_ <;> (intro hc; (try simp only [go_sem]); (try simp at hc); try (exfalso; omega))) | with_reducible refine And.intro (by first | omega | (unfold inI; omega)) ?_)
    all_goals first
      | (exfalso; omega)
      | (refine retQ_ret rfl rfl (by simp [rowsOf, lk]) ?_; rfl)
  · rw [decide_eq_false hb] at hbig
    repeat' (first | ((with_reducible first | (refine hK _ ?_; clear hK K) | refine stq fun K' hK' => ?_ | refine stc ?_); try simp only [go_sem]) | (with_reducible first | refine stp ?_ | (refine hK' _ ?_; clear hK' K') | refine kN kl3 fun K hK => ?_ | refine kO fun K hK => ?_) | (refine xS rfl fun K' hK' => ?_; simp only [go_sem]) | ((with_reducible apply CallK.eq); (· with_reducible first | exact hbig); (· simp [RV.flat, D.sc, datI]); try simp only [go_sem]) | (with_reducible refine pK_mk ?_ ?_ <;> (intro hc; (try simp only [go_sem]); (try simp at hc); try (exfalso; omega))) | with_reducible refine And.intro (by first | omega | (unfold inI; omega)) ?_)
    all_goals first
      | (exfalso; omega)
      | skip
    refine CallK.of (drawNotes_ok xs0 m0.2 (by omega)) ?_; rintro _ ⟨l, hl, rfl⟩; refine ⟨(fun h => by cases h), ?_⟩; try simp only [go_sem]
    have hl41 := hl.1
    obtain ⟨s, b, n1, n2, n3, n4⟩ := text_dat l hl41
    repeat' (first | with_reducible refine stop_seq (id := 8) ?_ | with_reducible refine stop_one (id := 8) ?_ | ((with_reducible first | (refine hK _ ?_; clear hK K) | refine stq fun K' hK' => ?_ | refine stc ?_); try simp only [go_sem, bne_self_eq_false]) | (with_reducible first | refine stp ?_ | (refine hK' _ ?_; clear hK' K') | refine kN kl3 fun K hK => ?_ | refine kO fun K hK => ?_) | (refine xS rfl fun K' hK' => ?_; simp only [go_sem, bne_self_eq_false]) | ((with_reducible apply CallK.eq); (· with_reducible first | exact n1 | exact n2 | exact n3); (· simp [RV.flat, D.sc, datI]); try simp only [go_sem, bne_self_eq_false]) | (with_reducible refine pK_mk ?_ ?_ <;> (intro hc; (try simp only [go_sem, bne_self_eq_false]); (try simp at hc); try (exfalso; omega))) | with_reducible refine And.intro (by first | omega | (unfold inI; omega)) ?_)
    refine cut_at ⟨⟨250, [(1, .d (.lst 1 (xs1.map datY)))]⟩, [], 0⟩ ?_ ?_
    · intro K hK
      cases b
      case' false =>
        repeat' (first | ((with_reducible first | (refine hK _ ?_; clear hK K) | refine stq fun K' hK' => ?_ | refine stc ?_); try simp only [go_sem]) | (with_reducible first | refine stp ?_ | (refine hK' _ ?_; clear hK' K') | refine kN kl3 fun K hK => ?_ | refine kO fun K hK => ?_) | (refine xS rfl fun K' hK' => ?_; simp only [go_sem]) | (with_reducible refine pK_mk ?_ ?_ <;> (intro hc; (try simp only [go_sem]); (try simp at hc); try (exfalso; omega))) | with_reducible refine And.intro (by first | omega | (unfold inI; omega)) ?_)
      case' true =>
        obtain ⟨hok, n5⟩ := n4 rfl
        obtain ⟨W, wb, w1, w2, w3, w4⟩ := wb_dat l 2 hl41
        have q1 := pSameNotes_ok l l (by omega) (by omega)
        have q2 := sameInts_ok W W (by omega) (by omega)
        rw [bP_true rfl] at q1 q2
        obtain ⟨rfl, hwl⟩ := w4 hok rfl
        clear n4 w4
        repeat' (first | ((with_reducible first | (refine hK _ ?_; clear hK K) | refine stq fun K' hK' => ?_ | refine stc ?_); try simp only [go_sem, bne_self_eq_false, hwl]) | (with_reducible first | refine stp ?_ | (refine hK' _ ?_; clear hK' K') | refine kN kl3 fun K hK => ?_ | refine kO fun K hK => ?_) | (refine xS rfl fun K' hK' => ?_; simp only [go_sem, bne_self_eq_false, hwl]) | ((with_reducible apply CallK.eq); (· with_reducible first | exact n5 | exact w1 | exact w2 | exact q1 | exact q2); (· simp [RV.flat, D.sc, datI]); try simp only [go_sem, bne_self_eq_false, hwl]) | (with_reducible refine pK_mk ?_ ?_ <;> (intro hc; (try simp only [go_sem, bne_self_eq_false, hwl]); (try simp at hc); try (exfalso; omega))) | with_reducible refine And.intro (by first | omega | (unfold inI; omega)) ?_)
      all_goals exact (fits_mk [] (by simp [renL_d, bdL_d, sg, over, wipe, wl, memN, ins, rm, lk, fitFr, fit1, ren, renL, bd, bdL, app, fitHp, hget, renB, bdB] <;> omega))
    clear n1 n2 n3 n4
    repeat' (first | ((with_reducible first | (refine hK _ ?_; clear hK K) | refine stq fun K' hK' => ?_ | refine stc ?_); try simp only [go_sem]) | (with_reducible first | refine stp ?_ | (refine hK' _ ?_; clear hK' K') | refine kN kl3 fun K hK => ?_ | refine kO fun K hK => ?_) | (refine xS rfl fun K' hK' => ?_; simp only [go_sem]) | (with_reducible refine pK_mk ?_ ?_ <;> (intro hc; (try simp only [go_sem]); (try simp at hc); try (exfalso; omega))) | with_reducible refine And.intro (by first | omega | (unfold inI; omega)) ?_)
    refine CallK.of (drawUndo_ok xs1 m1.2 (by omega)) ?_; rintro _ ⟨u, n, ⟨hu, hn1, hn2⟩, rfl⟩; refine ⟨(fun h => by cases h), ?_⟩; try simp only [go_sem]
    have hu41 := hu.1
    obtain ⟨U, ub, u1, u2, u3, u4⟩ := undo_dat u n hu41
    repeat' (first | with_reducible refine stop_seq (id := 17) ?_ | with_reducible refine stop_one (id := 17) ?_ | ((with_reducible first | (refine hK _ ?_; clear hK K) | refine stq fun K' hK' => ?_ | refine stc ?_); try simp only [go_sem]) | (with_reducible first | refine stp ?_ | (refine hK' _ ?_; clear hK' K') | refine kN kl3 fun K hK => ?_ | refine kO fun K hK => ?_) | (refine xS rfl fun K' hK' => ?_; simp only [go_sem]) | ((with_reducible apply CallK.eq); (· with_reducible first | exact u1 | exact u2); (· simp [RV.flat, D.sc, datI]); try simp only [go_sem]) | (with_reducible refine pK_mk ?_ ?_ <;> (intro hc; (try simp only [go_sem]); (try simp at hc); try (exfalso; omega))) | with_reducible refine And.intro (by first | omega | (unfold inI; omega)) ?_)
    refine cut_at ⟨⟨250, [(1, .d (.lst 1 (xs1.map datY)))]⟩, [], 0⟩ ?_ ?_
    · intro K hK
      have q3 := pSameNotes_ok U U (by omega) (by omega)
      rw [bP_true rfl] at q3
      cases ub
      case' false =>
        clear u4
        repeat' (first | ((with_reducible first | (refine hK _ ?_; clear hK K) | refine stq fun K' hK' => ?_ | refine stc ?_); try simp only [go_sem, bne_self_eq_false]) | (with_reducible first | refine stp ?_ | (refine hK' _ ?_; clear hK' K') | refine kN kl3 fun K hK => ?_ | refine kO fun K hK => ?_) | (refine xS rfl fun K' hK' => ?_; simp only [go_sem, bne_self_eq_false]) | ((with_reducible apply CallK.eq); (· with_reducible first | exact q3); (· simp [RV.flat, D.sc, datI]); try simp only [go_sem, bne_self_eq_false]) | (with_reducible refine pK_mk ?_ ?_ <;> (intro hc; (try simp only [go_sem, bne_self_eq_false]); (try simp at hc); try (exfalso; omega))) | with_reducible refine And.intro (by first | omega | (unfold inI; omega)) ?_)
      case' true =>
        obtain ⟨hU, hlU⟩ := u4 rfl
        have ua := AreNotes_in U (by omega)
        rw [bP_true hU] at ua
        have hlI : (u.length : Int) - 1 = (U.length : Int) := by omega
        clear u4
        repeat' (first | ((with_reducible first | (refine hK _ ?_; clear hK K) | refine stq fun K' hK' => ?_ | refine stc ?_); try simp only [go_sem, bne_self_eq_false, hlI]) | (with_reducible first | refine stp ?_ | (refine hK' _ ?_; clear hK' K') | refine kN kl3 fun K hK => ?_ | refine kO fun K hK => ?_) | (refine xS rfl fun K' hK' => ?_; simp only [go_sem, bne_self_eq_false, hlI]) | ((with_reducible apply CallK.eq); (· with_reducible first | exact q3 | exact ua); (· simp [RV.flat, D.sc, datI]); try simp only [go_sem, bne_self_eq_false, hlI]) | (with_reducible refine pK_mk ?_ ?_ <;> (intro hc; (try simp only [go_sem, bne_self_eq_false, hlI]); (try simp at hc); try (exfalso; omega))) | with_reducible refine And.intro (by first | omega | (unfold inI; omega)) ?_)
      all_goals exact (fits_mk [] (by simp [renL_d, bdL_d, sg, over, wipe, wl, memN, ins, rm, lk, fitFr, fit1, ren, renL, bd, bdL, app, fitHp, hget, renB, bdB] <;> omega))
    clear u1 u2 u4
    repeat' (first | ((with_reducible first | (refine hK _ ?_; clear hK K) | refine stq fun K' hK' => ?_ | refine stc ?_); try simp only [go_sem]) | (with_reducible first | refine stp ?_ | (refine hK' _ ?_; clear hK' K') | refine kN kl3 fun K hK => ?_ | refine kO fun K hK => ?_) | (refine xS rfl fun K' hK' => ?_; simp only [go_sem]) | (with_reducible refine pK_mk ?_ ?_ <;> (intro hc; (try simp only [go_sem]); (try simp at hc); try (exfalso; omega))) | with_reducible refine And.intro (by first | omega | (unfold inI; omega)) ?_)
    refine CallK.of (drawResAfter_ok xs1 m1.2 (by omega)) ?_; rintro _ ⟨r, N, ⟨hr, hN⟩, rfl⟩; refine ⟨(fun h => by cases h), ?_⟩; try simp only [go_sem]
    have hr41 := hr.1
    have hN41 := hN.1
    obtain ⟨A, tb, a1, a2, a3, a4, a5⟩ := after_dat r N hr41 (resSc hr) hN41
    have q4 := pSameResults_ok A A (by omega) (by omega) a4 a4
    rw [bP_true rfl] at q4
    repeat' (first | with_reducible refine stop_seq (id := 24) ?_ | with_reducible refine stop_one (id := 24) ?_ | ((with_reducible first | (refine hK _ ?_; clear hK K) | refine stq fun K' hK' => ?_ | refine stc ?_); try simp only [go_sem, bne_self_eq_false]) | (with_reducible first | refine stp ?_ | (refine hK' _ ?_; clear hK' K') | refine kN kl3 fun K hK => ?_ | refine kO fun K hK => ?_) | (refine xS rfl fun K' hK' => ?_; simp only [go_sem, bne_self_eq_false]) | ((with_reducible apply CallK.eq); (· with_reducible first | exact a1 | exact a2 | exact q4); (· simp [RV.flat, D.sc, datI]); try simp only [go_sem, bne_self_eq_false]) | (with_reducible refine pK_mk ?_ ?_ <;> (intro hc; (try simp only [go_sem, bne_self_eq_false]); (try simp at hc); try (exfalso; omega))) | with_reducible refine And.intro (by first | omega | (unfold inI; omega)) ?_)
    refine cut_at ⟨⟨250, [(1, .d (.lst 1 (xs1.map datY)))]⟩, [], 0⟩ ?_ ?_
    · intro K hK
      cases tb
      case' false =>
        repeat' (first | ((with_reducible first | (refine hK _ ?_; clear hK K) | refine stq fun K' hK' => ?_ | refine stc ?_); try simp only [go_sem]) | (with_reducible first | refine stp ?_ | (refine hK' _ ?_; clear hK' K') | refine kN kl3 fun K hK => ?_ | refine kO fun K hK => ?_) | (refine xS rfl fun K' hK' => ?_; simp only [go_sem]) | (with_reducible refine pK_mk ?_ ?_ <;> (intro hc; (try simp only [go_sem]); (try simp at hc); try (exfalso; omega))) | with_reducible refine And.intro (by first | omega | (unfold inI; omega)) ?_)
      case' true =>
        obtain ⟨a6, hAr⟩ := a5 rfl
        have hA := AreResults_ok A (by omega) a4
        rw [bP_true hAr] at hA
        clear a5
        repeat' (first | ((with_reducible first | (refine hK _ ?_; clear hK K) | refine stq fun K' hK' => ?_ | refine stc ?_); try simp only [go_sem, bne_self_eq_false]) | (with_reducible first | refine stp ?_ | (refine hK' _ ?_; clear hK' K') | refine kN kl3 fun K hK => ?_ | refine kO fun K hK => ?_) | (refine xS rfl fun K' hK' => ?_; simp only [go_sem, bne_self_eq_false]) | ((with_reducible apply CallK.eq); (· with_reducible first | exact q4 | exact a6 | exact hA); (· simp [RV.flat, D.sc, datI]); try simp only [go_sem, bne_self_eq_false]) | (with_reducible refine pK_mk ?_ ?_ <;> (intro hc; (try simp only [go_sem, bne_self_eq_false]); (try simp at hc); try (exfalso; omega))) | with_reducible refine And.intro (by first | omega | (unfold inI; omega)) ?_)
      all_goals exact (fits_mk [] (by simp [renL_d, bdL_d, sg, over, wipe, wl, memN, ins, rm, lk, fitFr, fit1, ren, renL, bd, bdL, app, fitHp, hget, renB, bdB] <;> omega))
    clear a1 a2 q4 a5
    repeat' (first | ((with_reducible first | (refine hK _ ?_; clear hK K) | refine stq fun K' hK' => ?_ | refine stc ?_); try simp only [go_sem]) | (with_reducible first | refine stp ?_ | (refine hK' _ ?_; clear hK' K') | refine kN kl3 fun K hK => ?_ | refine kO fun K hK => ?_) | (refine xS rfl fun K' hK' => ?_; simp only [go_sem]) | (with_reducible refine pK_mk ?_ ?_ <;> (intro hc; (try simp only [go_sem]); (try simp at hc); try (exfalso; omega))) | with_reducible refine And.intro (by first | omega | (unfold inI; omega)) ?_)
    refine CallK.of (drawWB_ok xs1 m1.2 (by omega)) ?_; rintro _ ⟨v, z, ⟨hv, hz1, hz2⟩, rfl⟩; refine ⟨(fun h => by cases h), ?_⟩; try simp only [go_sem]
    have hv41 := hv.1
    obtain ⟨W2, b2, v1, v2, v3, v4⟩ := wb_dat v z hv41
    have q5 := sameInts_ok W2 W2 (by omega) (by omega)
    rw [bP_true rfl] at q5
    repeat' (first | ((with_reducible first | (refine hK _ ?_; clear hK K) | refine stq fun K' hK' => ?_ | refine stc ?_); try simp only [go_sem]) | (with_reducible first | refine stp ?_ | (refine hK' _ ?_; clear hK' K') | refine kN kl3 fun K hK => ?_ | refine kO fun K hK => ?_) | (refine xS rfl fun K' hK' => ?_; simp only [go_sem]) | ((with_reducible apply CallK.eq); (· with_reducible first | exact v1 | exact v2); (· simp [RV.flat, D.sc, datI]); try simp only [go_sem]) | (with_reducible refine pK_mk ?_ ?_ <;> (intro hc; (try simp only [go_sem]); (try simp at hc); try (exfalso; omega))) | with_reducible refine And.intro (by first | omega | (unfold inI; omega)) ?_)
    refine CallK.of (drawParse_ok xs1 m1.2 (by omega)) ?_; rintro _ ⟨y, hy, rfl⟩; refine ⟨(fun h => by cases h), ?_⟩; try simp only [go_sem]
    obtain ⟨P2, b3, p1, p2, p3⟩ := parse_dat y (by omega)
    have q6 := pSameNotes_ok P2 P2 (by omega) (by omega)
    rw [bP_true rfl] at q6
    repeat' (first | ((with_reducible first | (refine hK _ ?_; clear hK K) | refine stq fun K' hK' => ?_ | refine stc ?_); try simp only [go_sem, beq_self_eq_true]) | (with_reducible first | refine stp ?_ | (refine hK' _ ?_; clear hK' K') | refine kN kl3 fun K hK => ?_ | refine kO fun K hK => ?_) | (refine xS rfl fun K' hK' => ?_; simp only [go_sem, beq_self_eq_true]) | ((with_reducible apply CallK.eq); (· with_reducible first | exact p1 | exact p2 | exact q5 | exact q6); (· simp [RV.flat, D.sc, datI]); try simp only [go_sem, beq_self_eq_true]) | (with_reducible refine pK_mk ?_ ?_ <;> (intro hc; (try simp only [go_sem, beq_self_eq_true]); (try simp at hc); try (exfalso; omega))) | with_reducible refine And.intro (by first | omega | (unfold inI; omega)) ?_)
    refine retQ_ret rfl rfl (by simp [rowsOf, lk]) ?_
    rfl

theorem own : ownKnob Tryz.prog.godebug = none := by kernel_rfl
theorem laidOut : laidOutB Tryz.prog = true := by kernel_rfl
set_option linter.unusedVariables false in
set_option maxRecDepth 100000 in
theorem lifted (os : Os) (started : os.Started) (H : Type) (enc : TypeId × Value → H) :
    ReturnsInHanded {} Tryz.checked os 3 .any (fun w args => (Rows.fnNotesSpec.pre enc Tryz.prog Tryz.f3 [] false w args ∧ laidMetH Tryz.prog Rows.fnNotesRow.laid w) ∧ sizedMet enc Tryz.prog Tryz.f3 (OpenSpec.ofChange Rows.fnNotesSpec) false w args) (Rows.fnNotesSpec.post enc Tryz.prog Tryz.f3 false true false false) := by
  refine returnsInHanded_of_change_and (C := Tryz.checked) (X := fun w _ => laidMetH Tryz.prog Rows.fnNotesRow.laid w) (fun _ _ _ hh h => h.of_heap hh) own started (by kernel_rfl) Tryz.func3
    (ChangeSpec.witness_shaped (enc := enc) (C := Tryz.checked) (os := os) (X := fun w _ => laidMetH Tryz.prog Rows.fnNotesRow.laid w) false (World.laidAll Tryz.prog os Rows.fnNotesRow.laid) #[.slice none 0 0, .slice none 0 0] 8 (World.laidAll_os _ _ _)
      (World.shaped_of_ZipB (by kernel_rfl) (by kernel_rfl)) (by kernel_rfl) (by kernel_rfl) (by kernel_rfl)
      (by rw [MakeChecks.laidMetH_plain _ _ _ (by kernel_rfl)]; exact laidMet_laidAll _ (by kernel_rfl) (by kernel_rfl))) ?_
  intro W base args ds gs before hval0 hW _ _ hL _
  have hval : ∀ (j : Nat) t v, Tryz.f3.params[j]? = some t → args[j]? = some v → Value.okWide Tryz.prog W .any base t v := hval0
  have hW' := hW
  obtain ⟨p, q, hA0, hV, rfl, hfz, hnd⟩ := hW
  have hA : DataW.TrodAll enc Tryz.prog W 0 (fun _ => true) true Tryz.f3.params.toList args.toList ds p := hA0
  rw [Tryz.params3] at hA hval
  obtain ⟨v0, vs0, d0, ds0, p0, q0, hargs, rfl, rfl, h0, r0⟩ := trodAll_cons hA
  obtain ⟨v1, vs1, d1, ds1, p1, q1, rfl, rfl, rfl, h1, r1⟩ := trodAll_cons r0
  obtain ⟨rfl, rfl, rfl⟩ := trodAll_nil r1
  obtain rfl : args = #[v0, v1] := by cases args; simp_all
  obtain ⟨rfl, rfl⟩ := trodVars_none hV
  have k0 := h0
  have lt0 := below_lt k0
  obtain ⟨s0, len0, cap0, rfl⟩ := okWide_slice Tryz.underlying22 (hval 0 22 v0 rfl rfl)
  obtain ⟨fuel0, hf0⟩ := h0
  obtain ⟨x0, m0, rd0⟩ := open_bytes.2 _ _ _ hf0
  have R0 := R_of_crd1 rfl rd0
  clear hf0
  have k1 := h1
  have lt1 := below_lt k1
  obtain ⟨s1, len1, cap1, rfl⟩ := okWide_slice Tryz.underlying22 (hval 1 22 v1 rfl rfl)
  obtain ⟨fuel1, hf1⟩ := h1
  obtain ⟨x1, m1, rd1⟩ := open_bytes.2 _ _ _ hf1
  have R1 := R_of_crd1 rfl rd1
  clear hf1
  clear hA0 hval0
  refine (mwalk (law_FnNotes_ok x0 m0 x1 m1) W (glW hL) _ rfl (args2 R0 R1)).mono fun e W' ⟨he, bel⟩ => ?_
  subst he
  exact ⟨_, rfl, _, _, _, [], _, [], hW', trodAll_mk1 (shut_bool Tryz.underlying4 _), (trodAll_cons_mk (Below.trod laidOut (by kernel_rfl) (of_decide_eq_true (by kernel_rfl)) k0 bel lt0) (trodAll_cons_mk (Below.trod laidOut (by kernel_rfl) (of_decide_eq_true (by kernel_rfl)) k1 bel lt1) trodAll_mk0)), rfl, bel.frame _, fun h => by cases h⟩
theorem over : Rows.fnNotesRow.holds Tryz.pinned (OpenSpec.ofChange Rows.fnNotesSpec) :=
  OpenClaim.holds_of_wide 3 Tryz.f3 rfl rfl rfl rfl rfl rfl rfl ⟨rfl, rfl, rfl, rfl, rfl⟩ rfl rfl rfl rfl rfl (by kernel_rfl) Tryz.func3 (by kernel_rfl)
    (of_decide_eq_true (by kernel_rfl)) (by unfold Func.isWrapper; first | (rw [if_pos (by decide +kernel)]; kernel_rfl) | (rw [if_neg (by decide +kernel)]; exact ⟨rfl, rfl⟩))
    (fun os started H enc _ => lifted os started H enc)
theorem proved : Rows.FnNotesCardSaid :=
  Claim7.holds_tied_plain_at .later [] [.data, .data, .data, .data, .pinned] true (true, "0fa1573e9eaae1a0e503c3d40fc940c5dffe2ce7be3fd555e4ced14202a02b66") false over (fun _ h => by cases h) (by kernel_rfl) (fun _ h => by cases h) fnNotes_row_tie rfl ⟨rfl, rfl⟩ (by kernel_rfl) rfl
    (fun f fn hf hfn => by
      obtain rfl : f = 3 := Option.some.inj ((show Tryz.prog.funcNamed "loop.example/g00912/laws.FnNotes" = some 3 by kernel_rfl).symm.trans hf) |>.symm
      obtain rfl : fn = Tryz.f3 := (Option.some.inj (Tryz.func3.symm.trans hfn)).symm
      exact ⟨by kernel_rfl, fun j t ht => by
        rw [Tryz.params3] at ht
        have hm : t ∈ [22, 22] := by simpa using Array.mem_of_getElem? ht
        have hall : ([22, 22].all fun u => !Tryz.prog.wantsStandIn u) = true := by kernel_rfl
        exact (show Tryz.prog.wantsStandIn t = false by simpa using List.all_eq_true.1 hall t hm)⟩)
    (by kernel_rfl)
end Go.Proofs.YthocihmhljmgdaaGreatDoor.lawNotes
