
/-
  What the law FnStarts draws.
-/
import Derived.Test.YthocihmhljmgdaaGreatDoorZCe
import Derived.Test.YthocihmhljmgdaaGreatDoorZPl
import Derived.Test.YthocihmhljmgdaaGreatDoorZNt
import Derived.Test.YthocihmhljmgdaaGreatDoorZOrd
import Derived.Test.YthocihmhljmgdaaGreatDoorZNp
import Derived.Test.YthocihmhljmgdaaGreatDoorZEo
set_option linter.unusedSimpArgs false
set_option linter.unusedVariables false
set_option maxHeartbeats 2000000
set_option maxRecDepth 100000
namespace Go.Proofs.YthocihmhljmgdaaGreatDoor
open Go.RowKit

theorem ansSt_len (ks : List Int) (l : List EntrantD) (s : Int) : ((ansStartOrder ks l s).getD []).length ≤ 320 := by
  by_cases h : StOk ks l s
  · have h1 := stTo_len (ks := ks) (gs := gsE l s) (grpE_bd h.1.1 _) (gsE l s).length (Nat.le_refl _)
    have h2 : (gsE l s).length ≤ 8 := by unfold gsE; rw [grpE_len]; exact h.1.2.2.2
    rw [show ansStartOrder ks l s = some _ from optP_pos h, Option.getD_some]
    omega
  · rw [show ansStartOrder ks l s = none from optP_neg h]; simp
/-- entrants, a size and an order, as drawn -/
def stOk (q : List EntrantD × Int × List Int) : Prop := q.1.length ≤ 41 ∧ (∀ x ∈ q.1, entOk x) ∧ (0 ≤ q.2.1 ∧ q.2.1 ≤ 9) ∧ q.2.2.length ≤ 400
abbrev stRV (q : List EntrantD × Int × List Int) : List RV := [.d (.lst 2 (q.1.map EntrantD.dat)), .d (.int .i64 q.2.1), .d (.lst 1 (q.2.2.map datI))]
/-- an answer whose data are out of a class -/
def PostD {α : Type} (k : Nat) (p : α → Prop) (f : α → List RV) : List D → List RV → Prop := fun cs' rs => ∃ x, p x ∧ rs.map RV.data = f x ∧ Cur k cs'
theorem PostD.ok {α : Type} {P : Program} {fid : FuncId} {n k : Nat} {p : α → Prop} {f : α → List RV} {args cs : List D} (h : FnC P fid n args cs (PostD k p f)) : FnC P fid n args cs (PostX k p f) := FnC.data h
end Go.Proofs.YthocihmhljmgdaaGreatDoor
namespace Go.Proofs.YthocihmhljmgdaaGreatDoor
open Go.RowKit

end Go.Proofs.YthocihmhljmgdaaGreatDoor

/-
  Entrants, a size and an order, as drawn: the order's numbers are small (draw).
-/
set_option linter.unusedSimpArgs false
set_option linter.unusedVariables false
set_option maxHeartbeats 2000000
set_option maxRecDepth 100000
namespace Go.Proofs.YthocihmhljmgdaaGreatDoor
open Go.RowKit

def inO (o : List Int) : Prop := ∀ x ∈ o, 0 ≤ x ∧ x ≤ 1000
theorem inO.snoc {o : List Int} {x : Int} (h : inO o) (hx : 0 ≤ x ∧ x ≤ 1000) : inO (o ++ [x]) := mem_app1 (p := fun x => 0 ≤ x ∧ x ≤ 1000) h hx
theorem inO.set {o : List Int} {i : Nat} {x : Int} (h : inO o) (hx : 0 ≤ x ∧ x ≤ 1000) : inO (o.set i x) := fun y hy => (List.mem_or_eq_of_mem_set hy).elim (h y) fun e => e ▸ hx
theorem inO.drop {o : List Int} {i : Nat} (h : inO o) : inO (o.drop i) := fun y hy => h y (List.mem_of_mem_drop hy)
theorem amg {x z : Int} (h : x ∈ [0, 999, 1000, z]) (hz : 0 ≤ z ∧ z ≤ 1000) : 0 ≤ x ∧ x ≤ 1000 := by
  simp at h
  omega
theorem ansSt_rng (ks : List Int) (l : List EntrantD) (s : Int) : inO ((ansStartOrder ks l s).getD []) := by
  by_cases h : StOk ks l s
  · rw [show ansStartOrder ks l s = some _ from optP_pos h, Option.getD_some]
    have h2 : (gsE l s).length ≤ 8 := by unfold gsE; rw [grpE_len]; exact h.1.2.2.2
    have hp := st_perm (ks := ks) (gs := gsE l s) h.2.1 h.2.2 h2 (grpE_bd h.1.1 _) (gsE l s).length (Nat.le_refl _)
    rw [List.take_length] at hp
    intro x hx
    have hm := (gs_perm h.1).mem_iff.1 (hp.mem_iff.1 hx)
    obtain ⟨e, he, rfl⟩ := List.mem_map.1 hm
    have := h.1.1.rng he
    omega
  · rw [show ansStartOrder ks l s = none from optP_neg h]
    intro x hx
    simp at hx
def stOk2 (q : List EntrantD × Int × List Int) : Prop := stOk q ∧ inO q.2.2
theorem starting2_ok {k : Nat} {cs : List D} (hC : Cur k cs) (hk : k ≤ 100000000000) : FnC Tryz.prog 70 3 [] cs (PostX (k + 600) stOk2 stRV) := by
  refine PostD.ok ?_
  refine fn_okC G_ok Tryz.func70 rfl rfl hC.len fun ty => ?_; simp only [Tryz.ntmps70, List.length_cons, List.length_nil, Nat.reduceAdd, Nat.reduceSub, List.map_cons, List.map_nil, List.length_map, enm]
  repeat' (first | ((with_reducible first | (refine hK _ ?_; clear hK K) | refine stq fun K' hK' => ?_ | refine stc ?_); try simp only [go_sem]) | (with_reducible first | refine stp ?_ | (refine hK' _ ?_; clear hK' K') | refine kN kl70 fun K hK => ?_ | refine kO fun K hK => ?_) | refine iB ?_ | (with_reducible refine pK_mk ?_ ?_ <;> (intro hc; (try simp only [go_sem]); (try simp at hc); try (exfalso; omega))) | with_reducible refine And.intro (by first | omega | (unfold inI; omega)) ?_)
  refine CallK.cur (some 0) (entrants_ok (by assumption) (by omega)) rfl rfl rfl rfl rfl rfl ?_; rintro c2 _ ⟨x, hx, rfl, hC⟩; try simp only [mkB, go_sem]
  rename List EntrantD => l
  repeat' (first | ((with_reducible first | (refine hK _ ?_; clear hK K) | refine stq fun K' hK' => ?_ | refine stc ?_); try simp only [go_sem]) | (with_reducible first | refine stp ?_ | (refine hK' _ ?_; clear hK' K') | refine kN kl70 fun K hK => ?_ | refine kO fun K hK => ?_) | refine iB ?_ | (with_reducible refine pK_mk ?_ ?_ <;> (intro hc; (try simp only [go_sem]); (try simp at hc); try (exfalso; omega))) | with_reducible refine And.intro (by first | omega | (unfold inI; omega)) ?_)
  refine CallK.cur (some 0) (groupSize_ok (by assumption) (by omega)) rfl rfl rfl rfl rfl rfl ?_; rintro c2 _ ⟨x, hx, rfl, hC⟩; try simp only [mkB, go_sem]
  rename Int => s
  repeat' (first | ((with_reducible first | (refine hK _ ?_; clear hK K) | refine stq fun K' hK' => ?_ | refine stc ?_); try simp only [go_sem]) | (with_reducible first | refine stp ?_ | (refine hK' _ ?_; clear hK' K') | refine kN kl70 fun K hK => ?_ | refine kO fun K hK => ?_) | refine iB ?_ | (with_reducible refine pK_mk ?_ ?_ <;> (intro hc; (try simp only [go_sem]); (try simp at hc); try (exfalso; omega))) | with_reducible refine And.intro (by first | omega | (unfold inI; omega)) ?_)
  refine CallK.cur (some 0) (pick_ok (by assumption) (by omega)) rfl rfl rfl rfl rfl rfl ?_; rintro c2 _ ⟨x, hx, rfl, hC⟩; try simp only [mkB, go_sem]
  rename Int => y
  rename_i _ hl hCa _ hs hCb
  have hlen := ansSt_len [y] l s
  have hor := ansSt_rng [y] l s
  have hso := spec_StartOrder_ok [y] l s (by simp) (by omega)
  generalize (ansStartOrder [y] l s).isSome = b at hso
  generalize (ansStartOrder [y] l s).getD [] = o at hso hlen hor
  simp only [List.map_cons, List.map_nil, datI] at hso
  cases b
  · have hbf : false = false := rfl
    repeat' (first | ((with_reducible first | (refine hK _ ?_; clear hK K) | refine stq fun K' hK' => ?_ | refine stc ?_); try simp only [go_sem]) | (with_reducible first | refine stp ?_ | (refine hK' _ ?_; clear hK' K') | refine kN kl70 fun K hK => ?_ | refine kO fun K hK => ?_) | ((with_reducible apply CallK.eq); (· with_reducible first | exact hso); (· simp [RV.flat, D.sc, datI]); try simp only [go_sem]) | refine iB ?_ | (with_reducible refine pK_mk ?_ ?_ <;> (intro hc; (try simp only [go_sem]); (try simp at hc); try (exfalso; omega))) | with_reducible refine And.intro (by first | omega | (unfold inI; omega)) ?_)
    refine pw_loop_over [2, 3, 4, 7, 10, 32, 33, 34, 35, 36, 37, 38, 39, 40, 41] (fun q : List Int => [(0, .bptr 0 0), (5, .row 1 l.length), (6, .d (.int .i64 s)), (30, .row 1 l.length), (31, .d (.int .i64 (l.length : Int))), (32, .d (.int .i64 (q.length : Int))), (7, .row 2 q.length)]) (fun q => [(0, .pbox 0 ty (c2.map .d)), (1, .row 53 2 (l.map EntrantD.dat)), (2, .row 3 1 (q.map datI))]) 30 (fun q => q.length ≤ l.length ∧ inO q) (fun q => l.length - q.length) [] ⟨by simp, by simp [inO]⟩ (fits_mk [] (by simp [renL_d, bdL_d, sg, over, wipe, wl, memN, ins, rm, lk, fitFr, fit1, ren, renL, bd, bdL, app, fitHp, hget, renB, bdB] <;> omega)) ?_
    rintro q ⟨hq, hqr⟩; simp only [over, wipe, wl, memN, ins, rm, if_true, if_false, Nat.reduceEqDiff, Bool.false_eq_true, reduceCtorEq]
    by_cases hlt : q.length < l.length
    · have hlt' : (q.length : Int) < (l.length : Int) := by omega
      have hx := List.getElem?_eq_getElem hlt
      have hem := hl.2 _ (List.getElem_mem hlt)
      generalize l[q.length] = e at hx hem
      repeat' (first | ((with_reducible first | (refine hK _ ?_; clear hK K) | refine stq fun K' hK' => ?_ | refine stc ?_); try simp only [go_sem, hlt', hlt, List.getElem?_map, hx, Option.map_some, EntrantD.dat]) | (with_reducible first | refine stp ?_ | (refine hK' _ ?_; clear hK' K') | refine kN kl70 fun K hK => ?_ | refine kO fun K hK => ?_) | refine iB ?_ | (with_reducible refine pK_mk ?_ ?_ <;> (intro hc; (try simp only [go_sem, hlt', hlt, List.getElem?_map, hx, Option.map_some, EntrantD.dat]); (try simp at hc); try (exfalso; omega))) | with_reducible refine And.intro (by first | omega | (unfold inI; omega)) ?_)
      exact ⟨q ++ [e.skater], ⟨by simp; omega, hqr.snoc (by unfold entOk at hem; omega)⟩, by simp; omega, (fits_mk [] (by simp [renL_d, bdL_d, sg, over, wipe, wl, memN, ins, rm, lk, fitFr, fit1, ren, renL, bd, bdL, app, fitHp, hget, renB, bdB, datI] <;> omega))⟩
    · have hlt' : ¬ (q.length : Int) < (l.length : Int) := by omega
      clear hlen hso hor o
      have hlen : q.length ≤ 320 := by omega
      have hor := hqr
      clear hqr
      generalize q = o at hlen hq hlt hlt' hor ⊢
      repeat' (first | ((with_reducible first | (refine hK _ ?_; clear hK K) | refine stq fun K' hK' => ?_ | refine stc ?_); try simp only [go_sem, hlt']) | (with_reducible first | refine stp ?_ | (refine hK' _ ?_; clear hK' K') | refine kN kl70 fun K hK => ?_ | refine kO fun K hK => ?_) | refine iB ?_ | (with_reducible refine pK_mk ?_ ?_ <;> (intro hc; (try simp only [go_sem, hlt']); (try simp at hc); try (exfalso; omega))) | with_reducible refine And.intro (by first | omega | (unfold inI; omega)) ?_)
      · have hpos : 0 < o.length := hc
        refine CallK.cur (some 0) (pick_ok (by assumption) (by omega)) rfl rfl rfl rfl rfl rfl ?_; rintro c2 _ ⟨x, hx, rfl, hC⟩; try simp only [mkB, go_sem]
        by_cases hx0 : x = 0
        · subst hx0
          repeat' (first | ((with_reducible first | (refine hK _ ?_; clear hK K) | refine stq fun K' hK' => ?_ | refine stc ?_); try simp only [go_sem]) | (with_reducible first | refine stp ?_ | (refine hK' _ ?_; clear hK' K') | refine kN kl70 fun K hK => ?_ | refine kO fun K hK => ?_) | refine iB ?_ | (with_reducible refine pK_mk ?_ ?_ <;> (intro hc; (try simp only [go_sem]); (try simp at hc); try (exfalso; omega))) | with_reducible refine And.intro (by first | omega | (unfold inI; omega)) ?_)
          refine CallK.cur (some 0) (pick_ok (by assumption) (by omega)) rfl rfl rfl rfl rfl rfl ?_; rintro c2 _ ⟨x, hx, rfl, hC⟩; try simp only [mkB, go_sem]
          obtain ⟨i, rfl⟩ : ∃ i : Nat, x = i := ⟨x.toNat, by omega⟩
          have hi : i < o.length := by omega
          repeat' (first | ((with_reducible first | (refine hK _ ?_; clear hK K) | refine stq fun K' hK' => ?_ | refine stc ?_); try simp only [go_sem]) | (with_reducible first | refine stp ?_ | (refine hK' _ ?_; clear hK' K') | refine kN kl70 fun K hK => ?_ | refine kO fun K hK => ?_) | refine iB ?_ | (with_reducible refine pK_mk ?_ ?_ <;> (intro hc; (try simp only [go_sem]); (try simp at hc); try (exfalso; omega))) | with_reducible refine And.intro (by first | omega | (unfold inI; omega)) ?_)
          refine CallK.cur (some 0) (pick_ok (by assumption) (by omega)) rfl rfl rfl rfl rfl rfl ?_; rintro c2 _ ⟨x, hx, rfl, hC⟩; try simp only [mkB, go_sem]
          obtain ⟨j, rfl⟩ : ∃ j : Nat, x = j := ⟨x.toNat, by omega⟩
          have hj : j < o.length := by omega
          have hoi := List.getElem?_eq_getElem hi
          have hoj := List.getElem?_eq_getElem hj
          have har := hor _ (List.getElem_mem hi)
          generalize o[i] = a at hoi har
          have hbr := hor _ (List.getElem_mem hj)
          generalize o[j] = b at hoj hbr
          have hset1 : (List.map datI o).set i [D.int .i64 b] = List.map datI (o.set i b) := by rw [List.map_set]; rfl
          have hset2 : (List.map datI (o.set i b)).set j [D.int .i64 a] = List.map datI ((o.set i b).set j a) := by simp only [List.map_set, datI]
          have hj2 : j < (o.set i b).length := by simpa using hj
          have hq2 := List.getElem?_eq_getElem hj2
          generalize (o.set i b)[j] = q2 at hq2
          repeat' (first | ((with_reducible first | (refine hK _ ?_; clear hK K) | refine stq fun K' hK' => ?_ | refine stc ?_); try simp only [go_sem, hi, hj, List.getElem?_map, hoi, hoj, Option.map_some, datI, hset1, hq2, List.length_set]) | (with_reducible first | refine stp ?_ | (refine hK' _ ?_; clear hK' K') | refine kN kl70 fun K hK => ?_ | refine kO fun K hK => ?_) | refine iB ?_ | (with_reducible refine pK_mk ?_ ?_ <;> (intro hc; (try simp only [go_sem, hi, hj, List.getElem?_map, hoi, hoj, Option.map_some, datI, hset1, hq2, List.length_set]); (try simp at hc); try (exfalso; omega))) | with_reducible refine And.intro (by first | omega | (unfold inI; omega)) ?_)
          refine retC_ret (id := 0) _ rfl (by simp only [retL, ret1, hget, lk, List.length_map, List.length_nil, List.length_append, List.length_take, List.length_cons, if_true, if_false, Nat.reduceEqDiff, Nat.reduceBEq, Bool.false_eq_true, Option.some.injEq, RV.data, hset2, List.length_set]; rfl) (by simp [rowsOf, lk]) rfl (Cur.len (by assumption)) ⟨(l, s, (o.set i b).set j a), ?_, (by simp [datI, RV.data, hset2, List.length_set]), Cur.mono (by assumption) (by omega)⟩
          exact ⟨⟨hl.1, hl.2, hs, by simp; omega⟩, (hor.set hbr).set har⟩
        · by_cases hx1 : x = 1
          · subst hx1
            have hv1 : 1 + (o.length - 1) = o.length := by omega
            have hdr : List.take (o.length - 1) (List.drop 1 (List.map datI o)) = List.map datI (o.drop 1) := by rw [List.map_drop]; exact List.take_of_length_le (by simp)
            repeat' (first | ((with_reducible first | (refine hK _ ?_; clear hK K) | refine stq fun K' hK' => ?_ | refine stc ?_); try simp only [go_sem]) | (with_reducible first | refine stp ?_ | (refine hK' _ ?_; clear hK' K') | refine kN kl70 fun K hK => ?_ | refine kO fun K hK => ?_) | refine iB ?_ | (with_reducible refine pK_mk ?_ ?_ <;> (intro hc; (try simp only [go_sem]); (try simp at hc); try (exfalso; omega))) | with_reducible refine And.intro (by first | omega | (unfold inI; omega)) ?_)
            refine retC_ret (id := 0) _ rfl (by simp only [retL, ret1, hget, lk, List.length_map, List.length_nil, List.length_append, List.length_take, List.length_cons, if_true, if_false, Nat.reduceEqDiff, Nat.reduceBEq, Bool.false_eq_true, Option.some.injEq, RV.data, Int.toNat_one, hv1, Nat.le_refl, and_self, hdr]; rfl) (by simp [rowsOf, lk]) rfl (Cur.len (by assumption)) ⟨(l, s, o.drop 1), ?_, (by simp [datI, RV.data, Int.toNat_one, hv1, Nat.le_refl, and_self, hdr]), Cur.mono (by assumption) (by omega)⟩
            exact ⟨⟨hl.1, hl.2, hs, by simp; omega⟩, hor.drop⟩
          · by_cases hx2 : x = 2
            · subst hx2
              have hlt2 : ((o.length : Int) - 1).toNat < o.length := by omega
              have hz := List.getElem?_eq_getElem hlt2
              have h00 := List.getElem?_eq_getElem hpos
              generalize o[0] = z0 at h00
              have hzr := hor _ (List.getElem_mem hlt2)
              generalize o[((o.length : Int) - 1).toNat] = z at hz hzr
              repeat' (first | ((with_reducible first | (refine hK _ ?_; clear hK K) | refine stq fun K' hK' => ?_ | refine stc ?_); try simp only [go_sem, hlt2, List.getElem?_map, hz, h00, Option.map_some, datI, hpos]) | (with_reducible first | refine stp ?_ | (refine hK' _ ?_; clear hK' K') | refine kN kl70 fun K hK => ?_ | refine kO fun K hK => ?_) | ((first | refine CallK.cur (some 0) (onec_ok (by assumption) (by omega)) rfl rfl rfl rfl rfl rfl ?_ | refine CallK.cur (some 0) (among_ok (l := [0, 999, 1000, z]) (by assumption) (by omega) (by simp) (by simp)) rfl rfl rfl rfl rfl rfl ?_); rintro c2 _ ⟨x, hx, rfl, hC⟩; try simp only [mkB, go_sem, hlt2, List.getElem?_map, hz, h00, Option.map_some, datI, hpos]) | ((first | refine CallK.cur (some 0) (onec_ok (by assumption) (by omega)) rfl rfl rfl rfl rfl rfl ?_ | refine CallK.cur (some 0) (among_ok (l := [0, 999, 1000, z]) (by assumption) (by omega) (by simp) (by simp)) rfl rfl rfl rfl rfl rfl ?_); rintro c2 _ ⟨x, hx, rfl, hC⟩; try simp only [mkB, go_sem, hlt2, List.getElem?_map, hz, h00, Option.map_some, datI, hpos]) | refine iB ?_ | (with_reducible refine pK_mk ?_ ?_ <;> (intro hc; (try simp only [go_sem, hlt2, List.getElem?_map, hz, h00, Option.map_some, datI, hpos]); (try simp at hc); try (exfalso; omega))) | with_reducible refine And.intro (by first | omega | (unfold inI; omega)) ?_)
              · refine retC_ret (id := 0) _ rfl (by simp only [retL, ret1, hget, lk, List.length_map, List.length_nil, List.length_append, List.length_take, List.length_cons, if_true, if_false, Nat.reduceEqDiff, Nat.reduceBEq, Bool.false_eq_true, Option.some.injEq, RV.data, List.length_set]; rfl) (by simp [rowsOf, lk]) rfl (Cur.len (by assumption)) ⟨(l, s, o.set 0 x), ?_, (by simp [datI, RV.data, List.length_set]), Cur.mono (by assumption) (by omega)⟩
                exact ⟨⟨hl.1, hl.2, hs, by simp; omega⟩, hor.set (amg hx hzr)⟩
              · refine retC_ret (id := 0) _ rfl (by simp only [retL, ret1, hget, lk, List.length_map, List.length_nil, List.length_append, List.length_take, List.length_cons, if_true, if_false, Nat.reduceEqDiff, Nat.reduceBEq, Bool.false_eq_true, Option.some.injEq, RV.data]; rfl) (by simp [rowsOf, lk]) rfl (Cur.len (by assumption)) ⟨(l, s, o), ?_, (by simp [datI, RV.data]), Cur.mono (by assumption) (by omega)⟩
                exact ⟨⟨hl.1, hl.2, hs, by simp; omega⟩, hor⟩
            · repeat' (first | ((with_reducible first | (refine hK _ ?_; clear hK K) | refine stq fun K' hK' => ?_ | refine stc ?_); try simp only [go_sem, hx0, hx1, hx2]) | (with_reducible first | refine stp ?_ | (refine hK' _ ?_; clear hK' K') | refine kN kl70 fun K hK => ?_ | refine kO fun K hK => ?_) | refine iB ?_ | (with_reducible refine pK_mk ?_ ?_ <;> (intro hc; (try simp only [go_sem, hx0, hx1, hx2]); (try simp at hc); try (exfalso; omega))) | with_reducible refine And.intro (by first | omega | (unfold inI; omega)) ?_)
              refine retC_ret (id := 0) _ rfl (by simp only [retL, ret1, hget, lk, List.length_map, List.length_nil, List.length_append, List.length_take, List.length_cons, if_true, if_false, Nat.reduceEqDiff, Nat.reduceBEq, Bool.false_eq_true, Option.some.injEq, RV.data]; rfl) (by simp [rowsOf, lk]) rfl (Cur.len (by assumption)) ⟨(l, s, o), ?_, (by simp [datI, RV.data]), Cur.mono (by assumption) (by omega)⟩
              exact ⟨⟨hl.1, hl.2, hs, by simp; omega⟩, hor⟩
      · refine retC_ret (id := 0) _ rfl (by simp only [retL, ret1, hget, lk, List.length_map, List.length_nil, List.length_append, List.length_take, List.length_cons, if_true, if_false, Nat.reduceEqDiff, Nat.reduceBEq, Bool.false_eq_true, Option.some.injEq, RV.data]; rfl) (by simp [rowsOf, lk]) rfl (Cur.len (by assumption)) ⟨(l, s, o), ?_, (by simp [datI, RV.data]), Cur.mono (by assumption) (by omega)⟩
        exact ⟨⟨hl.1, hl.2, hs, by simp; omega⟩, hor⟩
  · repeat' (first | ((with_reducible first | (refine hK _ ?_; clear hK K) | refine stq fun K' hK' => ?_ | refine stc ?_); try simp only [go_sem]) | (with_reducible first | refine stp ?_ | (refine hK' _ ?_; clear hK' K') | refine kN kl70 fun K hK => ?_ | refine kO fun K hK => ?_) | ((with_reducible apply CallK.eq); (· with_reducible first | exact hso); (· simp [RV.flat, D.sc, datI]); try simp only [go_sem]) | refine iB ?_ | (with_reducible refine pK_mk ?_ ?_ <;> (intro hc; (try simp only [go_sem]); (try simp at hc); try (exfalso; omega))) | with_reducible refine And.intro (by first | omega | (unfold inI; omega)) ?_)
    · have hpos : 0 < o.length := hc
      refine CallK.cur (some 0) (pick_ok (by assumption) (by omega)) rfl rfl rfl rfl rfl rfl ?_; rintro c2 _ ⟨x, hx, rfl, hC⟩; try simp only [mkB, go_sem]
      by_cases hx0 : x = 0
      · subst hx0
        repeat' (first | ((with_reducible first | (refine hK _ ?_; clear hK K) | refine stq fun K' hK' => ?_ | refine stc ?_); try simp only [go_sem]) | (with_reducible first | refine stp ?_ | (refine hK' _ ?_; clear hK' K') | refine kN kl70 fun K hK => ?_ | refine kO fun K hK => ?_) | refine iB ?_ | (with_reducible refine pK_mk ?_ ?_ <;> (intro hc; (try simp only [go_sem]); (try simp at hc); try (exfalso; omega))) | with_reducible refine And.intro (by first | omega | (unfold inI; omega)) ?_)
        refine CallK.cur (some 0) (pick_ok (by assumption) (by omega)) rfl rfl rfl rfl rfl rfl ?_; rintro c2 _ ⟨x, hx, rfl, hC⟩; try simp only [mkB, go_sem]
        obtain ⟨i, rfl⟩ : ∃ i : Nat, x = i := ⟨x.toNat, by omega⟩
        have hi : i < o.length := by omega
        repeat' (first | ((with_reducible first | (refine hK _ ?_; clear hK K) | refine stq fun K' hK' => ?_ | refine stc ?_); try simp only [go_sem]) | (with_reducible first | refine stp ?_ | (refine hK' _ ?_; clear hK' K') | refine kN kl70 fun K hK => ?_ | refine kO fun K hK => ?_) | refine iB ?_ | (with_reducible refine pK_mk ?_ ?_ <;> (intro hc; (try simp only [go_sem]); (try simp at hc); try (exfalso; omega))) | with_reducible refine And.intro (by first | omega | (unfold inI; omega)) ?_)
        refine CallK.cur (some 0) (pick_ok (by assumption) (by omega)) rfl rfl rfl rfl rfl rfl ?_; rintro c2 _ ⟨x, hx, rfl, hC⟩; try simp only [mkB, go_sem]
        obtain ⟨j, rfl⟩ : ∃ j : Nat, x = j := ⟨x.toNat, by omega⟩
        have hj : j < o.length := by omega
        have hoi := List.getElem?_eq_getElem hi
        have hoj := List.getElem?_eq_getElem hj
        have har := hor _ (List.getElem_mem hi)
        generalize o[i] = a at hoi har
        have hbr := hor _ (List.getElem_mem hj)
        generalize o[j] = b at hoj hbr
        have hset1 : (List.map datI o).set i [D.int .i64 b] = List.map datI (o.set i b) := by rw [List.map_set]; rfl
        have hset2 : (List.map datI (o.set i b)).set j [D.int .i64 a] = List.map datI ((o.set i b).set j a) := by simp only [List.map_set, datI]
        have hj2 : j < (o.set i b).length := by simpa using hj
        have hq2 := List.getElem?_eq_getElem hj2
        generalize (o.set i b)[j] = q2 at hq2
        repeat' (first | ((with_reducible first | (refine hK _ ?_; clear hK K) | refine stq fun K' hK' => ?_ | refine stc ?_); try simp only [go_sem, hi, hj, List.getElem?_map, hoi, hoj, Option.map_some, datI, hset1, hq2, List.length_set]) | (with_reducible first | refine stp ?_ | (refine hK' _ ?_; clear hK' K') | refine kN kl70 fun K hK => ?_ | refine kO fun K hK => ?_) | refine iB ?_ | (with_reducible refine pK_mk ?_ ?_ <;> (intro hc; (try simp only [go_sem, hi, hj, List.getElem?_map, hoi, hoj, Option.map_some, datI, hset1, hq2, List.length_set]); (try simp at hc); try (exfalso; omega))) | with_reducible refine And.intro (by first | omega | (unfold inI; omega)) ?_)
        refine retC_ret (id := 0) _ rfl (by simp only [retL, ret1, hget, lk, List.length_map, List.length_nil, List.length_append, List.length_take, List.length_cons, if_true, if_false, Nat.reduceEqDiff, Nat.reduceBEq, Bool.false_eq_true, Option.some.injEq, RV.data, hset2, List.length_set]; rfl) (by simp [rowsOf, lk]) rfl (Cur.len (by assumption)) ⟨(l, s, (o.set i b).set j a), ?_, (by simp [datI, RV.data, hset2, List.length_set]), Cur.mono (by assumption) (by omega)⟩
        exact ⟨⟨hl.1, hl.2, hs, by simp; omega⟩, (hor.set hbr).set har⟩
      · by_cases hx1 : x = 1
        · subst hx1
          have hv1 : 1 + (o.length - 1) = o.length := by omega
          have hdr : List.take (o.length - 1) (List.drop 1 (List.map datI o)) = List.map datI (o.drop 1) := by rw [List.map_drop]; exact List.take_of_length_le (by simp)
          repeat' (first | ((with_reducible first | (refine hK _ ?_; clear hK K) | refine stq fun K' hK' => ?_ | refine stc ?_); try simp only [go_sem]) | (with_reducible first | refine stp ?_ | (refine hK' _ ?_; clear hK' K') | refine kN kl70 fun K hK => ?_ | refine kO fun K hK => ?_) | refine iB ?_ | (with_reducible refine pK_mk ?_ ?_ <;> (intro hc; (try simp only [go_sem]); (try simp at hc); try (exfalso; omega))) | with_reducible refine And.intro (by first | omega | (unfold inI; omega)) ?_)
          refine retC_ret (id := 0) _ rfl (by simp only [retL, ret1, hget, lk, List.length_map, List.length_nil, List.length_append, List.length_take, List.length_cons, if_true, if_false, Nat.reduceEqDiff, Nat.reduceBEq, Bool.false_eq_true, Option.some.injEq, RV.data, Int.toNat_one, hv1, Nat.le_refl, and_self, hdr]; rfl) (by simp [rowsOf, lk]) rfl (Cur.len (by assumption)) ⟨(l, s, o.drop 1), ?_, (by simp [datI, RV.data, Int.toNat_one, hv1, Nat.le_refl, and_self, hdr]), Cur.mono (by assumption) (by omega)⟩
          exact ⟨⟨hl.1, hl.2, hs, by simp; omega⟩, hor.drop⟩
        · by_cases hx2 : x = 2
          · subst hx2
            have hlt2 : ((o.length : Int) - 1).toNat < o.length := by omega
            have hz := List.getElem?_eq_getElem hlt2
            have h00 := List.getElem?_eq_getElem hpos
            generalize o[0] = z0 at h00
            have hzr := hor _ (List.getElem_mem hlt2)
            generalize o[((o.length : Int) - 1).toNat] = z at hz hzr
            repeat' (first | ((with_reducible first | (refine hK _ ?_; clear hK K) | refine stq fun K' hK' => ?_ | refine stc ?_); try simp only [go_sem, hlt2, List.getElem?_map, hz, h00, Option.map_some, datI, hpos]) | (with_reducible first | refine stp ?_ | (refine hK' _ ?_; clear hK' K') | refine kN kl70 fun K hK => ?_ | refine kO fun K hK => ?_) | ((first | refine CallK.cur (some 0) (onec_ok (by assumption) (by omega)) rfl rfl rfl rfl rfl rfl ?_ | refine CallK.cur (some 0) (among_ok (l := [0, 999, 1000, z]) (by assumption) (by omega) (by simp) (by simp)) rfl rfl rfl rfl rfl rfl ?_); rintro c2 _ ⟨x, hx, rfl, hC⟩; try simp only [mkB, go_sem, hlt2, List.getElem?_map, hz, h00, Option.map_some, datI, hpos]) | ((first | refine CallK.cur (some 0) (onec_ok (by assumption) (by omega)) rfl rfl rfl rfl rfl rfl ?_ | refine CallK.cur (some 0) (among_ok (l := [0, 999, 1000, z]) (by assumption) (by omega) (by simp) (by simp)) rfl rfl rfl rfl rfl rfl ?_); rintro c2 _ ⟨x, hx, rfl, hC⟩; try simp only [mkB, go_sem, hlt2, List.getElem?_map, hz, h00, Option.map_some, datI, hpos]) | refine iB ?_ | (with_reducible refine pK_mk ?_ ?_ <;> (intro hc; (try simp only [go_sem, hlt2, List.getElem?_map, hz, h00, Option.map_some, datI, hpos]); (try simp at hc); try (exfalso; omega))) | with_reducible refine And.intro (by first | omega | (unfold inI; omega)) ?_)
            · refine retC_ret (id := 0) _ rfl (by simp only [retL, ret1, hget, lk, List.length_map, List.length_nil, List.length_append, List.length_take, List.length_cons, if_true, if_false, Nat.reduceEqDiff, Nat.reduceBEq, Bool.false_eq_true, Option.some.injEq, RV.data, List.length_set]; rfl) (by simp [rowsOf, lk]) rfl (Cur.len (by assumption)) ⟨(l, s, o.set 0 x), ?_, (by simp [datI, RV.data, List.length_set]), Cur.mono (by assumption) (by omega)⟩
              exact ⟨⟨hl.1, hl.2, hs, by simp; omega⟩, hor.set (amg hx hzr)⟩
            · refine retC_ret (id := 0) _ rfl (by simp only [retL, ret1, hget, lk, List.length_map, List.length_nil, List.length_append, List.length_take, List.length_cons, if_true, if_false, Nat.reduceEqDiff, Nat.reduceBEq, Bool.false_eq_true, Option.some.injEq, RV.data]; rfl) (by simp [rowsOf, lk]) rfl (Cur.len (by assumption)) ⟨(l, s, o), ?_, (by simp [datI, RV.data]), Cur.mono (by assumption) (by omega)⟩
              exact ⟨⟨hl.1, hl.2, hs, by simp; omega⟩, hor⟩
          · repeat' (first | ((with_reducible first | (refine hK _ ?_; clear hK K) | refine stq fun K' hK' => ?_ | refine stc ?_); try simp only [go_sem, hx0, hx1, hx2]) | (with_reducible first | refine stp ?_ | (refine hK' _ ?_; clear hK' K') | refine kN kl70 fun K hK => ?_ | refine kO fun K hK => ?_) | refine iB ?_ | (with_reducible refine pK_mk ?_ ?_ <;> (intro hc; (try simp only [go_sem, hx0, hx1, hx2]); (try simp at hc); try (exfalso; omega))) | with_reducible refine And.intro (by first | omega | (unfold inI; omega)) ?_)
            refine retC_ret (id := 0) _ rfl (by simp only [retL, ret1, hget, lk, List.length_map, List.length_nil, List.length_append, List.length_take, List.length_cons, if_true, if_false, Nat.reduceEqDiff, Nat.reduceBEq, Bool.false_eq_true, Option.some.injEq, RV.data]; rfl) (by simp [rowsOf, lk]) rfl (Cur.len (by assumption)) ⟨(l, s, o), ?_, (by simp [datI, RV.data]), Cur.mono (by assumption) (by omega)⟩
            exact ⟨⟨hl.1, hl.2, hs, by simp; omega⟩, hor⟩
    · refine retC_ret (id := 0) _ rfl (by simp only [retL, ret1, hget, lk, List.length_map, List.length_nil, List.length_append, List.length_take, List.length_cons, if_true, if_false, Nat.reduceEqDiff, Nat.reduceBEq, Bool.false_eq_true, Option.some.injEq, RV.data]; rfl) (by simp [rowsOf, lk]) rfl (Cur.len (by assumption)) ⟨(l, s, o), ?_, (by simp [datI, RV.data]), Cur.mono (by assumption) (by omega)⟩
      exact ⟨⟨hl.1, hl.2, hs, by simp; omega⟩, hor⟩
end Go.Proofs.YthocihmhljmgdaaGreatDoor

/-
  Orders as texts: plain facts.
-/
namespace Go.Proofs.YthocihmhljmgdaaGreatDoor
open Go.RowKit

theorem ordRng {o : List Int} (h : OrdOk o) : ∀ x ∈ o, 1 ≤ x ∧ x ≤ 999 := by
  intro x hx
  obtain ⟨i, hi⟩ := List.getElem?_of_mem hx
  have := h.2 i x (List.getElem?_eq_some_iff.1 hi).1 hi
  exact ⟨this.1, this.2.1⟩
def textO (o : List Int) : List UInt8 := joinL 32 (o.map numI)
theorem textO_nil : textO [] = [] := rfl
theorem joinL_split {c : UInt8} : ∀ {ws : List (List UInt8)}, ws ≠ [] → (∀ w ∈ ws, c ∉ w) → splL c (joinL c ws) = ws
  | [], h, _ => absurd rfl h
  | [p], _, h => splL_no (h p (by simp))
  | p :: q :: r, _, h => by
    rw [joinL, splL_app _ (h p (by simp)), joinL_split (by simp) fun w hw => h w (List.mem_cons_of_mem _ hw)]
theorem textO_split {o : List Int} (h : o ≠ []) : splL 32 (textO o) = o.map numI := by
  refine joinL_split (by simpa using h) fun w hw => ?_
  obtain ⟨n, _, rfl⟩ := List.mem_map.1 hw
  exact no_dig (by decide) n
theorem textO_ne {o : List Int} (h : o ≠ []) : textO o ≠ [] := by
  intro e
  have h1 := textO_split h
  rw [e] at h1
  cases o with
  | nil => exact h rfl
  | cons x r =>
    have h2 : numI x = [] := by
      have : splL 32 [] = [[]] := rfl
      rw [this, List.map_cons] at h1
      exact (List.cons.inj h1).1.symm
    have h3 := numL_pos x.toNat
    unfold numI at h2
    rw [h2] at h3
    simp at h3
/-- the reference's reading of a text -/
noncomputable def rdO (s : List UInt8) : List Int := (splL 32 s).map rdS
theorem rdO_text {o : List Int} (h0 : o ≠ []) (h : ∀ x ∈ o, 1 ≤ x ∧ x ≤ 999) : rdO (textO o) = o := by
  unfold rdO
  rw [textO_split h0, List.map_map]
  conv => rhs; rw [← List.map_id o]
  refine List.map_congr_left fun x hx => ?_
  have := h x hx
  exact rdS_num (by omega) (by omega)
theorem textO_inj {o o' : List Int} (h : ∀ x ∈ o, 1 ≤ x ∧ x ≤ 999) (h' : ∀ x ∈ o', 1 ≤ x ∧ x ≤ 999) (e : textO o = textO o') : o = o' := by
  by_cases h0 : o = []
  · subst h0
    by_cases h1 : o' = []
    · exact h1.symm
    · exact absurd (e.symm.trans textO_nil) (textO_ne h1)
  · by_cases h1 : o' = []
    · subst h1
      exact absurd (e.trans textO_nil) (textO_ne h0)
    · rw [← rdO_text h0 h, ← rdO_text h1 h', e]
/-- the order that a text tells -/
noncomputable def ansO (s : List UInt8) : Option (List Int) := by
  classical exact if h : ∃ o, OrdOk o ∧ textO o = s then some h.choose else none
theorem ansO_some {s : List UInt8} {o : List Int} (h : OrdOk o) (e : textO o = s) : ansO s = some o := by
  have hx : ∃ o, OrdOk o ∧ textO o = s := ⟨o, h, e⟩
  unfold ansO
  rw [dif_pos hx]
  have hc := hx.choose_spec
  rw [textO_inj (ordRng hc.1) (ordRng h) (hc.2.trans e.symm)]
theorem ansO_none {s : List UInt8} (h : ∀ o, OrdOk o → textO o ≠ s) : ansO s = none := by
  unfold ansO
  rw [dif_neg fun ⟨o, h1, h2⟩ => h o h1 h2]
theorem ansO_len (s : List UInt8) : ((ansO s).getD []).length ≤ 40 := by
  unfold ansO
  split
  · rename_i h
    exact h.choose_spec.1.1
  · simp
theorem ordOk_nil : OrdOk [] := ⟨by simp, fun j x h => absurd h (by simp)⟩
theorem ansO_nil : ansO [] = some [] := ansO_some ordOk_nil rfl
/-- the reference's answer -/
theorem ansO_spec {s : List UInt8} (h0 : s ≠ []) (h : ¬ (OrdOk (rdO s) ∧ textO (rdO s) = s)) : ansO s = none := ansO_none fun o ho e => by
  have hne : o ≠ [] := fun e2 => h0 (by rw [← e, e2]; rfl)
  have h1 := rdO_text hne (ordRng ho)
  rw [e] at h1
  exact h (by rw [h1]; exact ⟨ho, e⟩)
theorem intsV_text {o : List Int} (h : ∀ x ∈ o, 1 ≤ x ∧ x ≤ 999) : intsV (o.map numI) = some o := by
  have hv : ∀ w ∈ o.map numI, (intV w).isSome = true := by
    intro w hw
    obtain ⟨n, hn, rfl⟩ := List.mem_map.1 hw
    have := h n hn
    rw [intV_num (by omega) (by omega)]
    rfl
  unfold intsV
  rw [optP_pos hv, List.map_map]
  congr 1
  conv => rhs; rw [← List.map_id o]
  refine List.map_congr_left fun x hx => ?_
  have := h x hx
  show (intV (numI x)).getD 0 = x
  rw [intV_num (by omega) (by omega)]
  rfl
theorem ansO_impl {s : List UInt8} (h0 : s ≠ []) (h : ∀ o, intsV (splL 32 s) = some o → ¬ OrdOk o) : ansO s = none := ansO_none fun o ho e => by
  have hne : o ≠ [] := fun e2 => h0 (by rw [← e, e2]; rfl)
  exact h o (by rw [← e, textO_split hne]; exact intsV_text (ordRng ho)) ho
theorem ansO_impl_yes {s : List UInt8} {o : List Int} (h : intsV (splL 32 s) = some o) (ho : OrdOk o) : ansO s = some o := by
  refine ansO_some ho ?_
  have hv : ∀ w ∈ splL 32 s, (intV w).isSome = true := by
    by_cases hv : ∀ w ∈ splL 32 s, (intV w).isSome = true
    · exact hv
    · unfold intsV at h
      rw [optP_neg hv] at h
      cases h
  unfold intsV at h
  rw [optP_pos hv] at h
  have e := Option.some.inj h
  have hm : o.map numI = splL 32 s := by
    rw [← e, List.map_map]
    conv => rhs; rw [← List.map_id (splL 32 s)]
    refine List.map_congr_left fun w hw => ?_
    obtain ⟨n, hn⟩ := Option.isSome_iff_exists.1 (hv w hw)
    have hno : n ∈ o := by
      rw [← e]
      exact List.mem_map.2 ⟨w, hw, by rw [hn]; rfl⟩
    have h1 := ordRng ho n hno
    show numI ((intV w).getD 0) = w
    rw [hn]
    exact (intV_bd hn).2.2 (by show 0 ≤ n; omega)
  unfold textO
  rw [hm, join_splL]
/-- as the reference writes an order -/
theorem joinL_snoc {c : UInt8} : ∀ {ws : List (List UInt8)} {w : List UInt8}, joinL c (ws ++ [w]) = if ws = [] then w else joinL c ws ++ [c] ++ w
  | [], w => rfl
  | [p], w => by simp [joinL]
  | p :: q :: r, w => by
    have ih := joinL_snoc (c := c) (ws := q :: r) (w := w)
    rw [if_neg (by simp)] at ih ⊢
    rw [List.cons_append, List.cons_append, joinL, ← List.cons_append, ih, joinL]
    simp
theorem textO_snoc {o : List Int} {k : Nat} {x : Int} (h : o[k]? = some x) : textO (o.take (k + 1)) = if k = 0 then numI x else textO (o.take k) ++ [32] ++ numI x := by
  have hk := (List.getElem?_eq_some_iff.1 h).1
  unfold textO
  rw [take_snoc h, List.map_append, List.map_cons, List.map_nil, joinL_snoc]
  have : (o.take k).map numI = [] ↔ k = 0 := by
    rw [List.map_eq_nil_iff, List.take_eq_nil_iff]
    constructor
    · rintro (h1 | h1)
      · exact h1
      · subst h1; simp at hk
    · exact .inl
  by_cases h0 : k = 0
  · rw [if_pos h0, if_pos (this.2 h0)]
  · rw [if_neg h0, if_neg fun h1 => h0 (this.1 h1)]
end Go.Proofs.YthocihmhljmgdaaGreatDoor

/-
  The lines at which two texts differ: the reference's functions, in the abstract machine.
-/
set_option linter.unusedSimpArgs false
set_option linter.unusedVariables false
set_option maxHeartbeats 2000000
set_option maxRecDepth 100000
namespace Go.Proofs.YthocihmhljmgdaaGreatDoor
open Go.RowKit

theorem l1Split_ok (c : UInt8) (s : ByteArray) (hs : s.size ≤ 1048576) : FnEq Tryz.prog 68 [.d (.str s), .d (.int .u8 c.toNat)] [.row 9 1 ((splB c s).map datS)] := by
  refine fn_ok G_ok Tryz.func68 rfl rfl ?_; simp only [Tryz.ntmps68, List.length_cons, List.length_nil, Nat.reduceAdd, Nat.reduceSub, enm]
  repeat' (first | ((with_reducible first | (refine hK _ ?_; clear hK K) | refine stq fun K' hK' => ?_ | refine stc ?_); try simp only [go_sem]) | (with_reducible first | refine stp ?_ | (refine hK' _ ?_; clear hK' K') | refine kN kl68 fun K hK => ?_ | refine kO fun K hK => ?_) | refine iB ?_ | (with_reducible refine pK_mk ?_ ?_ <;> (intro hc; (try simp only [go_sem]); (try simp at hc); try (exfalso; omega))) | with_reducible refine And.intro (by first | omega | (unfold inI; omega)) ?_)
  refine pw_loop_over [4, 5, 6, 7, 8, 9, 10, 11, 12, 13, 14, 15, 16, 17, 18, 19, 20, 21, 22, 23, 24, 25, 26, 27] (fun k : Nat => [(7, .d (.int .i64 (k : Int))), (6, .d (.int .i64 (spF c s k : Int))), (5, .row 0 (spO c s k).length)]) (fun k : Nat => [(0, .row 9 1 ((spO c s k).map datS))]) 1 (fun k : Nat => k ≤ s.size) (fun k : Nat => s.size - k) 0 (Nat.zero_le _) (fits_mk [] (by simp [renL_d, bdL_d, sg, over, wipe, wl, memN, ins, rm, lk, fitFr, fit1, ren, renL, bd, bdL, app, fitHp, hget, renB, bdB, spF_zero, spO_zero] <;> omega)) ?_
  intro k hk
  have hL := spO_len c s k
  have hF := spF_le c s k
  simp only [over, wipe, wl, memN, ins, rm, if_true, if_false, Nat.reduceEqDiff, Bool.false_eq_true, reduceCtorEq]
  by_cases hlt : k < s.size
  · have hx : s[k]? = some s[k] := getElem?_pos s k hlt
    generalize s[k] = x at hx
    by_cases he : x = c
    · subst he
      obtain ⟨e1, e2⟩ := sp_yes hx
      repeat' (first | ((with_reducible first | (refine hK _ ?_; clear hK K) | refine stq fun K' hK' => ?_ | refine stc ?_); try simp only [go_sem, hx]) | (with_reducible first | refine stp ?_ | (refine hK' _ ?_; clear hK' K') | refine kN kl68 fun K hK => ?_ | refine kO fun K hK => ?_) | refine iB ?_ | (with_reducible refine pK_mk ?_ ?_ <;> (intro hc; (try simp only [go_sem, hx]); (try simp at hc); try (exfalso; omega))) | with_reducible refine And.intro (by first | omega | (unfold inI; omega)) ?_)
      all_goals exact ⟨k + 1, by omega, by omega, (fits_mk [] (by simp [renL_d, bdL_d, sg, over, wipe, wl, memN, ins, rm, lk, fitFr, fit1, ren, renL, bd, bdL, app, fitHp, hget, renB, bdB, e1, e2, datS] <;> omega))⟩
    · obtain ⟨e1, e2⟩ := sp_no (c := c) (s := s) (k := k) (by rw [hx]; simpa using he)
      repeat' (first | ((with_reducible first | (refine hK _ ?_; clear hK K) | refine stq fun K' hK' => ?_ | refine stc ?_); try simp only [go_sem, hx]) | (with_reducible first | refine stp ?_ | (refine hK' _ ?_; clear hK' K') | refine kN kl68 fun K hK => ?_ | refine kO fun K hK => ?_) | refine iB ?_ | (with_reducible refine pK_mk ?_ ?_ <;> (intro hc; (try simp only [go_sem, hx]); (try simp at hc); try (exfalso; omega))) | with_reducible refine And.intro (by first | omega | (unfold inI; omega)) ?_)
      all_goals first
        | (exfalso; apply he; apply UInt8.toNat_inj.1; omega)
        | exact ⟨k + 1, by omega, by omega, (fits_mk [] (by simp [renL_d, bdL_d, sg, over, wipe, wl, memN, ins, rm, lk, fitFr, fit1, ren, renL, bd, bdL, app, fitHp, hget, renB, bdB, e1, e2] <;> omega))⟩
  · obtain rfl : k = s.size := by omega
    have e := sp_end c s
    have e2 : (spO c s s.size).map datS ++ [[.str (s.extract (spF c s s.size) s.size)]] = (splB c s).map datS := by rw [← e]; simp [datS]
    have e3 : (spO c s s.size).length + 1 = (splB c s).length := by rw [← e]; simp
    repeat' (first | ((with_reducible first | (refine hK _ ?_; clear hK K) | refine stq fun K' hK' => ?_ | refine stc ?_); try simp only [go_sem, e2, e3]) | (with_reducible first | refine stp ?_ | (refine hK' _ ?_; clear hK' K') | refine kN kl68 fun K hK => ?_ | refine kO fun K hK => ?_) | refine iB ?_ | (with_reducible refine pK_mk ?_ ?_ <;> (intro hc; (try simp only [go_sem, e2, e3]); (try simp at hc); try (exfalso; omega))) | with_reducible refine And.intro (by first | omega | (unfold inI; omega)) ?_)
    refine retQ_ret rfl (by simp only [retL, ret1, hget, lk, List.length_map, List.length_nil, List.length_append, List.length_take, if_true, if_false, Nat.reduceEqDiff, Nat.reduceBEq, Bool.false_eq_true, Option.some.injEq]; rfl) (by simp [rowsOf, lk]) ?_; rfl
theorem l1Split_ok32 (s : ByteArray) (hs : s.size ≤ 1048576) : FnEq Tryz.prog 68 [.d (.str s), .d (.int .u8 32)] [.row 9 1 ((splB 32 s).map datS)] := l1Split_ok 32 s hs
end Go.Proofs.YthocihmhljmgdaaGreatDoor
