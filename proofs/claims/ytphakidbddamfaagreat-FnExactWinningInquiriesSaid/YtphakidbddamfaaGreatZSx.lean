/-
  Scores of items: the program's functions and the reference's, in the abstract machine.
-/
import Derived.Test.YtphakidbddamfaaGreatZSs
import Derived.Test.YtphakidbddamfaaGreatZGw
set_option linter.unusedSimpArgs false
set_option linter.unusedVariables false
set_option maxHeartbeats 2000000
set_option maxRecDepth 100000
namespace Go.Proofs.YtphakidbddamfaaGreat
open Go.RowKit

theorem sum_small {A : Int} {g : List Int} (hA : A ≤ 1000) (h9 : g.length ≤ 9) (h0 : 0 ≤ A) (h : ∀ x ∈ g, -A ≤ x ∧ x ≤ A) : -9000 ≤ g.sum ∧ g.sum ≤ 9000 := by
  have h1 := sum_bd h
  have h2 := mul_nn (a := A) (b := (g.length : Int)) (A := 1000) (B := 9) h0 hA (by omega) (by omega)
  omega
theorem trimmedSum_ok (g : List Int) (A : Int) (hA : A ≤ 1000) (hA0 : 0 ≤ A) (h0 : 0 < g.length) (h9 : g.length ≤ 9) (h : ∀ x ∈ g, -A ≤ x ∧ x ≤ A) : FnEq Tryz.prog 244 [.d (.lst 1 (g.map datI))] [.d (.int .i64 (trimW g)), .d (.int .i64 (cntW g))] := by
  have hs := sum_small hA h9 hA0 h
  have h1 := maxW_bd h0 h
  have h2 := minW_bd h0 h
  have hc1 := sumInts_ok g A (by omega) hA0 h (by omega)
  have hc2 := maxI_ok g h0 (by omega)
  have hc3 := minI_ok g h0 (by omega)
  have e1 : trimW g = if g.length < 5 then g.sum else g.sum - maxW g - minW g := rfl
  have e2 : cntW g = if g.length < 5 then (g.length : Int) else (g.length : Int) - 2 := rfl
  rw [e1, e2]
  refine fn_ok G_ok Tryz.func244 rfl rfl ?_; simp only [Tryz.ntmps244, List.length_cons, List.length_nil, Nat.reduceAdd, Nat.reduceSub, enm]
  generalize g.sum = s at hs hc1
  generalize maxW g = a at h1 hc2
  generalize minW g = b at h2 hc3
  by_cases h5 : g.length < 5
  · rw [if_pos h5, if_pos h5]
    repeat' (first | ((with_reducible first | (refine hK _ ?_; clear hK K) | refine stq fun K' hK' => ?_ | refine stc ?_); try simp only [go_sem]) | (with_reducible first | refine stp ?_ | (refine hK' _ ?_; clear hK' K') | refine kN kl244 fun K hK => ?_ | refine kO fun K hK => ?_) | ((with_reducible apply CallK.eq); (· with_reducible first | exact hc1 | exact hc2 | exact hc3); (· simp [RV.flat, D.sc, datI]); try simp only [go_sem]) | (with_reducible refine pK_mk ?_ ?_ <;> (intro hc; (try simp only [go_sem]); (try simp at hc); try (exfalso; omega))) | with_reducible refine And.intro (by first | omega | (unfold inI; omega)) ?_)
    all_goals first
      | (exfalso; omega)
      | (refine retQ_ret rfl rfl (by simp [rowsOf, lk]) ?_; rfl)
  · rw [if_neg h5, if_neg h5]
    repeat' (first | ((with_reducible first | (refine hK _ ?_; clear hK K) | refine stq fun K' hK' => ?_ | refine stc ?_); try simp only [go_sem]) | (with_reducible first | refine stp ?_ | (refine hK' _ ?_; clear hK' K') | refine kN kl244 fun K hK => ?_ | refine kO fun K hK => ?_) | ((with_reducible apply CallK.eq); (· with_reducible first | exact hc1 | exact hc2 | exact hc3); (· simp [RV.flat, D.sc, datI]); try simp only [go_sem]) | (with_reducible refine pK_mk ?_ ?_ <;> (intro hc; (try simp only [go_sem]); (try simp at hc); try (exfalso; omega))) | with_reducible refine And.intro (by first | omega | (unfold inI; omega)) ?_)
    all_goals first
      | (exfalso; omega)
      | (refine retQ_ret rfl rfl (by simp [rowsOf, lk]) ?_; rfl)
theorem tmMean_ok (g : List Int) (A : Int) (hA : A ≤ 1000) (hA0 : 0 ≤ A) (h0 : 0 < g.length) (h9 : g.length ≤ 9) (h : ∀ x ∈ g, -A ≤ x ∧ x ≤ A) : FnEq Tryz.prog 241 [.d (.lst 1 (g.map datI))] [.d (.int .i64 (trimW g)), .d (.int .i64 (cntW g))] := by
  have hs := sum_small hA h9 hA0 h
  have h1 := maxW_bd h0 h
  have h2 := minW_bd h0 h
  have hc1 := poSum_ok g A (by omega) hA0 h (by omega)
  have hc2 := poSorted_ok g (by omega)
  have hs0 := sortD_head h0
  have hs1 := sortD_last h0
  have hsl := sortD_len g
  have e1 : trimW g = if g.length < 5 then g.sum else g.sum - maxW g - minW g := rfl
  have e2 : cntW g = if g.length < 5 then (g.length : Int) else (g.length : Int) - 2 := rfl
  rw [e1, e2]
  refine fn_ok G_ok Tryz.func241 rfl rfl ?_; simp only [Tryz.ntmps241, List.length_cons, List.length_nil, Nat.reduceAdd, Nat.reduceSub, enm]
  generalize g.sum = s at hs hc1
  generalize maxW g = a at h1 hs0
  generalize minW g = b at h2 hs1
  generalize sortD g = q at hc2 hs0 hs1 hsl
  have hkt : ((g.length : Int) - 1).toNat = g.length - 1 := by omega
  have hlt : g.length - 1 < g.length := by omega
  by_cases h5 : g.length < 5
  · rw [if_pos h5, if_pos h5]
    repeat' (first | ((with_reducible first | (refine hK _ ?_; clear hK K) | refine stq fun K' hK' => ?_ | refine stc ?_); try simp only [go_sem]) | (with_reducible first | refine stp ?_ | (refine hK' _ ?_; clear hK' K') | refine kN kl241 fun K hK => ?_ | refine kO fun K hK => ?_) | ((with_reducible first | apply CallK.eq | apply CallQ.eqs); (· with_reducible first | exact hc1 | exact hc2); (· first | exact rfl | (simp [RV.flat, D.sc, datI]; done)); try simp only [go_sem]) | (with_reducible refine pw_seq_drawK kl241 G_ok mixed (by kernel_rfl) (fun K hK => ?_)) | (with_reducible refine pw_draw G_ok mixed (by kernel_rfl) ?_) | (with_reducible refine pK_mk ?_ ?_ <;> (intro hc; (try simp only [go_sem]); (try simp at hc); try (exfalso; omega))) | with_reducible refine And.intro (by first | omega | (unfold inI; omega)) ?_)
    all_goals first
      | (exfalso; omega)
      | (refine retQ_ret rfl rfl (by simp [rowsOf, lk]) ?_; rfl)
  · rw [if_neg h5, if_neg h5]
    repeat' (first | ((with_reducible first | (refine hK _ ?_; clear hK K) | refine stq fun K' hK' => ?_ | refine stc ?_); try simp only [go_sem, List.getElem?_map, hs0, hs1, Option.map_some, datI, hsl, hkt, hlt, h0]) | (with_reducible first | refine stp ?_ | (refine hK' _ ?_; clear hK' K') | refine kN kl241 fun K hK => ?_ | refine kO fun K hK => ?_) | ((with_reducible first | apply CallK.eq | apply CallQ.eqs); (· with_reducible first | exact hc1 | exact hc2); (· first | exact rfl | (simp [RV.flat, D.sc, datI]; done)); try simp only [go_sem, List.getElem?_map, hs0, hs1, Option.map_some, datI, hsl, hkt, hlt, h0]) | (with_reducible refine pw_seq_drawK kl241 G_ok mixed (by kernel_rfl) (fun K hK => ?_)) | (with_reducible refine pw_draw G_ok mixed (by kernel_rfl) ?_) | (with_reducible refine pK_mk ?_ ?_ <;> (intro hc; (try simp only [go_sem, List.getElem?_map, hs0, hs1, Option.map_some, datI, hsl, hkt, hlt, h0]); (try simp at hc); try (exfalso; omega))) | with_reducible refine And.intro (by first | omega | (unfold inI; omega)) ?_)
    all_goals first
      | (exfalso; omega)
      | (refine retQ_ret rfl rfl (by simp [rowsOf, lk]) ?_; rfl)
theorem itemBase_ok (c : CodeD) (l : List ItemD) (k : Nat) (hc : CodeOk c) (hl : ItsOk l) (hk : KnownL c l) (hlt : k < l.length) : FnEq Tryz.prog 228 [.agg c.cs, .d (.lst 3 (l.map ItemD.dat)), .d (.int .i64 (k : Int))] [.d (.int .i64 (itemW c l k))] := by
  have h14 := hl.1
  have hx := List.getElem?_eq_getElem hlt
  generalize l[k] = x at hx
  have hio := hl.at_ hx
  have hkx : KnownI c x := hk k x hx
  have hfb := fullW_bd hc hio hkx
  have hfu := fullBase_ok c x hc hio hkx
  have hre := repeatsOf_ok l k hl hlt
  have hrb := repW_bd l k
  have e := itemW_of (c := c) hx
  have hq := tdiv_bd (fullW c x * 7) 10 14000000 (by omega) (by omega)
  refine fn_ok G_ok Tryz.func228 rfl rfl ?_; simp only [Tryz.ntmps228, List.length_cons, List.length_nil, Nat.reduceAdd, Nat.reduceSub, enm]
  generalize fullW c x = fu at hfb hfu hq e
  generalize repW l k = rp at hre hrb e
  by_cases h1 : (rp : Int) < c.repeats
  · rw [e, if_pos h1]
    repeat' (first | ((with_reducible first | (refine hK _ ?_; clear hK K) | refine stq fun K' hK' => ?_ | refine stc ?_); try simp only [go_sem, List.getElem?_map, hx, Option.map_some, ItemD.dat, hlt]) | (with_reducible first | refine stp ?_ | (refine hK' _ ?_; clear hK' K') | refine kN kl228 fun K hK => ?_ | refine kO fun K hK => ?_) | ((with_reducible first | apply CallK.eq | apply CallQ.eqs); (· with_reducible first | exact hre | exact hfu); (· first | exact rfl | (simp [RV.flat, D.sc, datI]; done)); try simp only [go_sem, List.getElem?_map, hx, Option.map_some, ItemD.dat, hlt]) | (with_reducible refine pw_seq_drawK kl228 G_ok mixed (by kernel_rfl) (fun K hK => ?_)) | (with_reducible refine pw_draw G_ok mixed (by kernel_rfl) ?_) | (with_reducible refine pK_mk ?_ ?_ <;> (intro hc; (try simp only [go_sem, List.getElem?_map, hx, Option.map_some, ItemD.dat, hlt]); (try simp at hc); try (exfalso; omega))) | with_reducible refine And.intro (by first | omega | (unfold inI; omega)) ?_)
    all_goals first
      | (exfalso; omega)
      | (refine retQ_ret rfl rfl (by simp [rowsOf, lk]) ?_; rfl)
  · rw [if_neg h1] at e
    by_cases h2 : (rp : Int) = c.repeats
    · rw [e, if_pos h2]
      generalize hp : fu * 7 = p at hq
      generalize hq0 : p.tdiv 10 = q at hq
      repeat' (first | ((with_reducible first | (refine hK _ ?_; clear hK K) | refine stq fun K' hK' => ?_ | refine stc ?_); try simp only [go_sem, List.getElem?_map, hx, Option.map_some, ItemD.dat, hlt, hp, hq0]) | (with_reducible first | refine stp ?_ | (refine hK' _ ?_; clear hK' K') | refine kN kl228 fun K hK => ?_ | refine kO fun K hK => ?_) | ((with_reducible first | apply CallK.eq | apply CallQ.eqs); (· with_reducible first | exact hre | exact hfu); (· first | exact rfl | (simp [RV.flat, D.sc, datI]; done)); try simp only [go_sem, List.getElem?_map, hx, Option.map_some, ItemD.dat, hlt, hp, hq0]) | (with_reducible refine pw_seq_drawK kl228 G_ok mixed (by kernel_rfl) (fun K hK => ?_)) | (with_reducible refine pw_draw G_ok mixed (by kernel_rfl) ?_) | (with_reducible refine pK_mk ?_ ?_ <;> (intro hc; (try simp only [go_sem, List.getElem?_map, hx, Option.map_some, ItemD.dat, hlt, hp, hq0]); (try simp at hc); try (exfalso; omega))) | with_reducible refine And.intro (by first | omega | (unfold inI; omega)) ?_)
      all_goals first
        | (exfalso; omega)
        | (refine retQ_ret rfl rfl (by simp [rowsOf, lk]) ?_; rfl)
    · rw [e, if_neg h2]
      repeat' (first | ((with_reducible first | (refine hK _ ?_; clear hK K) | refine stq fun K' hK' => ?_ | refine stc ?_); try simp only [go_sem, List.getElem?_map, hx, Option.map_some, ItemD.dat, hlt]) | (with_reducible first | refine stp ?_ | (refine hK' _ ?_; clear hK' K') | refine kN kl228 fun K hK => ?_ | refine kO fun K hK => ?_) | ((with_reducible first | apply CallK.eq | apply CallQ.eqs); (· with_reducible first | exact hre | exact hfu); (· first | exact rfl | (simp [RV.flat, D.sc, datI]; done)); try simp only [go_sem, List.getElem?_map, hx, Option.map_some, ItemD.dat, hlt]) | (with_reducible refine pw_seq_drawK kl228 G_ok mixed (by kernel_rfl) (fun K hK => ?_)) | (with_reducible refine pw_draw G_ok mixed (by kernel_rfl) ?_) | (with_reducible refine pK_mk ?_ ?_ <;> (intro hc; (try simp only [go_sem, List.getElem?_map, hx, Option.map_some, ItemD.dat, hlt]); (try simp at hc); try (exfalso; omega))) | with_reducible refine And.intro (by first | omega | (unfold inI; omega)) ?_)
      all_goals first
        | (exfalso; omega)
        | (refine retQ_ret rfl rfl (by simp [rowsOf, lk]) ?_; rfl)
theorem bsItem_ok (c : CodeD) (l : List ItemD) (k : Nat) (hc : CodeOk c) (hl : ItsOk l) (hk : KnownL c l) (hlt : k < l.length) : FnEq Tryz.prog 239 [.agg c.cs, .d (.lst 3 (l.map ItemD.dat)), .d (.int .i64 (k : Int))] [.d (.int .i64 (itemW c l k))] := by
  have h14 := hl.1
  have hx := List.getElem?_eq_getElem hlt
  generalize l[k] = x at hx
  have hio := hl.at_ hx
  have hkx : KnownI c x := hk k x hx
  have hfb := fullW_bd hc hio hkx
  have hfu := bsFull_ok c x hc hio hkx
  have hre := bsRepeats_ok l k hl hlt
  have hrb := repW_bd l k
  have e := itemW_of (c := c) hx
  have hq := tdiv_bd (fullW c x * 7) 10 14000000 (by omega) (by omega)
  refine fn_ok G_ok Tryz.func239 rfl rfl ?_; simp only [Tryz.ntmps239, List.length_cons, List.length_nil, Nat.reduceAdd, Nat.reduceSub, enm]
  generalize fullW c x = fu at hfb hfu hq e
  generalize repW l k = rp at hre hrb e
  by_cases h1 : (rp : Int) < c.repeats
  · rw [e, if_pos h1]
    repeat' (first | ((with_reducible first | (refine hK _ ?_; clear hK K) | refine stq fun K' hK' => ?_ | refine stc ?_); try simp only [go_sem, List.getElem?_map, hx, Option.map_some, ItemD.dat, hlt]) | (with_reducible first | refine stp ?_ | (refine hK' _ ?_; clear hK' K') | refine kN kl239 fun K hK => ?_ | refine kO fun K hK => ?_) | ((with_reducible first | apply CallK.eq | apply CallQ.eqs); (· with_reducible first | exact hre | exact hfu); (· first | exact rfl | (simp [RV.flat, D.sc, datI]; done)); try simp only [go_sem, List.getElem?_map, hx, Option.map_some, ItemD.dat, hlt]) | (with_reducible refine pw_seq_drawK kl239 G_ok mixed (by kernel_rfl) (fun K hK => ?_)) | (with_reducible refine pw_draw G_ok mixed (by kernel_rfl) ?_) | (with_reducible refine pK_mk ?_ ?_ <;> (intro hc; (try simp only [go_sem, List.getElem?_map, hx, Option.map_some, ItemD.dat, hlt]); (try simp at hc); try (exfalso; omega))) | with_reducible refine And.intro (by first | omega | (unfold inI; omega)) ?_)
    all_goals first
      | (exfalso; omega)
      | (refine retQ_ret rfl rfl (by simp [rowsOf, lk]) ?_; rfl)
  · rw [if_neg h1] at e
    by_cases h2 : (rp : Int) = c.repeats
    · rw [e, if_pos h2]
      generalize hp : fu * 7 = p at hq
      generalize hq0 : p.tdiv 10 = q at hq
      repeat' (first | ((with_reducible first | (refine hK _ ?_; clear hK K) | refine stq fun K' hK' => ?_ | refine stc ?_); try simp only [go_sem, List.getElem?_map, hx, Option.map_some, ItemD.dat, hlt, hp, hq0]) | (with_reducible first | refine stp ?_ | (refine hK' _ ?_; clear hK' K') | refine kN kl239 fun K hK => ?_ | refine kO fun K hK => ?_) | ((with_reducible first | apply CallK.eq | apply CallQ.eqs); (· with_reducible first | exact hre | exact hfu); (· first | exact rfl | (simp [RV.flat, D.sc, datI]; done)); try simp only [go_sem, List.getElem?_map, hx, Option.map_some, ItemD.dat, hlt, hp, hq0]) | (with_reducible refine pw_seq_drawK kl239 G_ok mixed (by kernel_rfl) (fun K hK => ?_)) | (with_reducible refine pw_draw G_ok mixed (by kernel_rfl) ?_) | (with_reducible refine pK_mk ?_ ?_ <;> (intro hc; (try simp only [go_sem, List.getElem?_map, hx, Option.map_some, ItemD.dat, hlt, hp, hq0]); (try simp at hc); try (exfalso; omega))) | with_reducible refine And.intro (by first | omega | (unfold inI; omega)) ?_)
      all_goals first
        | (exfalso; omega)
        | (refine retQ_ret rfl rfl (by simp [rowsOf, lk]) ?_; rfl)
    · rw [e, if_neg h2]
      repeat' (first | ((with_reducible first | (refine hK _ ?_; clear hK K) | refine stq fun K' hK' => ?_ | refine stc ?_); try simp only [go_sem, List.getElem?_map, hx, Option.map_some, ItemD.dat, hlt]) | (with_reducible first | refine stp ?_ | (refine hK' _ ?_; clear hK' K') | refine kN kl239 fun K hK => ?_ | refine kO fun K hK => ?_) | ((with_reducible first | apply CallK.eq | apply CallQ.eqs); (· with_reducible first | exact hre | exact hfu); (· first | exact rfl | (simp [RV.flat, D.sc, datI]; done)); try simp only [go_sem, List.getElem?_map, hx, Option.map_some, ItemD.dat, hlt]) | (with_reducible refine pw_seq_drawK kl239 G_ok mixed (by kernel_rfl) (fun K hK => ?_)) | (with_reducible refine pw_draw G_ok mixed (by kernel_rfl) ?_) | (with_reducible refine pK_mk ?_ ?_ <;> (intro hc; (try simp only [go_sem, List.getElem?_map, hx, Option.map_some, ItemD.dat, hlt]); (try simp at hc); try (exfalso; omega))) | with_reducible refine And.intro (by first | omega | (unfold inI; omega)) ?_)
      all_goals first
        | (exfalso; omega)
        | (refine retQ_ret rfl rfl (by simp [rowsOf, lk]) ?_; rfl)
theorem unitOf_ok (c : CodeD) (it : ItemD) (hc : CodeOk c) (hi : ItOk it) (hk : KnownI c it) : FnEq Tryz.prog 245 [.agg c.cs, .agg [.d (.lst 1 (it.names.map datS)), .d (.lst 1 (it.marks.map datI)), .d (.bool it.late)]] [.d (.int .i64 (unitW c it))] := by
  have hwl := worthsW_len (c := c) hi
  have hi1 := hi.2.1
  have hi2 := hi.2.2.1
  have hmx := maxI_ok (worthsW c it) (by omega) (by omega)
  have hwo := worths_ok c it hc hi hk
  refine fn_ok G_ok Tryz.func245 rfl rfl ?_; simp only [Tryz.ntmps245, List.length_cons, List.length_nil, Nat.reduceAdd, Nat.reduceSub, enm]
  repeat' (first | ((with_reducible first | (refine hK _ ?_; clear hK K) | refine stq fun K' hK' => ?_ | refine stc ?_); try simp only [go_sem]) | (with_reducible first | refine stp ?_ | (refine hK' _ ?_; clear hK' K') | refine kN kl245 fun K hK => ?_ | refine kO fun K hK => ?_) | ((with_reducible apply CallK.eq); (· with_reducible first | exact hwo | exact hmx); (· simp [RV.flat, D.sc, datI]); try simp only [go_sem]) | (with_reducible refine pK_mk ?_ ?_ <;> (intro hc; (try simp only [go_sem]); (try simp at hc); try (exfalso; omega))) | with_reducible refine And.intro (by first | omega | (unfold inI; omega)) ?_)
  all_goals first
    | (exfalso; omega)
    | (refine retQ_ret rfl rfl (by simp [rowsOf, lk]) ?_; rfl)
def uT (c : CodeD) (it : ItemD) (k : Nat) : Int := ((worthsW c it).take k).foldl max 0
theorem uT_zero (c : CodeD) (it : ItemD) : uT c it 0 = 0 := rfl
theorem uT_succ {c : CodeD} {it : ItemD} {k : Nat} {x : Int} (hx : (worthsW c it)[k]? = some x) : uT c it (k + 1) = max (uT c it k) x := by unfold uT; rw [take_snoc hx, List.foldl_append]; rfl
theorem uT_end {c : CodeD} {it : ItemD} (hc : CodeOk c) (hi : ItOk it) (hk : KnownI c it) {k : Nat} (h : it.names.length ≤ k) : uT c it k = unitW c it := by
  have hwl := worthsW_len (c := c) hi
  have hi1 := hi.2.1
  have hb := worthsW_bd hc hk
  unfold uT unitW maxW
  rw [List.take_of_length_le (by omega)]
  cases hw : worthsW c it with
  | nil => rw [hw] at hwl; simp at hwl; omega
  | cons a r =>
    have ha := hb a (by rw [hw]; simp)
    simp only [List.foldl_cons, List.drop_succ_cons, List.drop_zero, List.headD_cons]
    congr 1
    omega
theorem elUnit_ok (c : CodeD) (it : ItemD) (hc : CodeOk c) (hi : ItOk it) (hk : KnownI c it) : FnEq Tryz.prog 254 [.agg c.cs, .agg [.d (.lst 1 (it.names.map datS)), .d (.lst 1 (it.marks.map datI)), .d (.bool it.late)]] [.d (.int .i64 (unitW c it))] := by
  have hwl := worthsW_len (c := c) hi
  have hi1 := hi.2.1
  have hi2 := hi.2.2.1
  have hi3 := hi.2.2.2.1
  refine fn_ok G_ok Tryz.func254 rfl rfl ?_; simp only [Tryz.ntmps254, List.length_cons, List.length_nil, Nat.reduceAdd, Nat.reduceSub, enm]
  repeat' (first | ((with_reducible first | (refine hK _ ?_; clear hK K) | refine stq fun K' hK' => ?_ | refine stc ?_); try simp only [go_sem]) | (with_reducible first | refine stp ?_ | (refine hK' _ ?_; clear hK' K') | refine kN kl254 fun K hK => ?_ | refine kO fun K hK => ?_) | refine iB ?_ | (with_reducible refine pK_mk ?_ ?_ <;> (intro hc; (try simp only [go_sem]); (try simp at hc); try (exfalso; omega))) | with_reducible refine And.intro (by first | omega | (unfold inI; omega)) ?_)
  refine pw_loop_over [4, 5, 6, 7, 11, 12, 13, 14, 15, 16, 17, 18, 19, 20, 21, 22, 23, 24, 25, 26] (fun k : Nat => [(11, .d (.int .i64 (k : Int))), (5, .d (.int .i64 (uT c it k)))]) (fun k : Nat => [(0, .box 42 [.d (.lst 4 (c.elements.map ElementD.dat)), .d (.lst 1 (c.limits.map datI)), .d (.int .i64 c.repeats), .d (.int .i64 c.bonus), .d (.int .i64 c.keeps), .d (.int .i64 c.fall)]), (1, .box 143 [.d (.lst 1 (it.names.map datS)), .d (.lst 1 (it.marks.map datI)), .d (.bool it.late)])]) 2 (fun k : Nat => k ≤ it.names.length) (fun k : Nat => it.names.length - k) 0 (Nat.zero_le _) (fits_mk [] (by simp [renL_d, bdL_d, sg, over, wipe, wl, memN, ins, rm, lk, fitFr, fit1, ren, renL, bd, bdL, app, fitHp, hget, renB, bdB, uT_zero] <;> omega)) ?_
  intro k hkl
  simp only [over, wipe, wl, memN, ins, rm, if_true, if_false, Nat.reduceEqDiff, Bool.false_eq_true, reduceCtorEq]
  by_cases hlt : k < it.names.length
  · have hx := List.getElem?_eq_getElem hlt
    generalize it.names[k] = y at hx
    have hm := List.getElem?_eq_getElem (show k < it.marks.length by omega)
    generalize it.marks[k] = m at hm
    have hg := worthsW_get (c := c) hx hm
    have hsn := uT_succ hg
    have hbw := bsWorth_ok c y m hc
    generalize worthN c y m = wv at hsn hbw
    repeat' (first | ((with_reducible first | (refine hK _ ?_; clear hK K) | refine stq fun K' hK' => ?_ | refine stc ?_); try simp only [go_sem, List.getElem?_map, hx, hm, Option.map_some, datS, datI]) | (with_reducible first | refine stp ?_ | (refine hK' _ ?_; clear hK' K') | refine kN kl254 fun K hK => ?_ | refine kO fun K hK => ?_) | ((with_reducible first | apply CallK.eq | apply CallQ.eqs); (· with_reducible first | exact hbw | exact l1Most_ok _ _); (· first | exact rfl | (simp [RV.flat, D.sc, datI]; done)); try simp only [go_sem, List.getElem?_map, hx, hm, Option.map_some, datS, datI]) | refine iB ?_ | (with_reducible refine pw_seq_drawK kl254 G_ok mixed (by kernel_rfl) (fun K hK => ?_)) | (with_reducible refine pw_draw G_ok mixed (by kernel_rfl) ?_) | (with_reducible refine pK_mk ?_ ?_ <;> (intro hc; (try simp only [go_sem, List.getElem?_map, hx, hm, Option.map_some, datS, datI]); (try simp at hc); try (exfalso; omega))) | with_reducible refine And.intro (by first | omega | (unfold inI; omega)) ?_)
    all_goals first
      | (exfalso; omega)
      | exact ⟨k + 1, by omega, by omega, (fits_mk [] (by simp [renL_d, bdL_d, sg, over, wipe, wl, memN, ins, rm, lk, fitFr, fit1, ren, renL, bd, bdL, app, fitHp, hget, renB, bdB, hsn] <;> omega))⟩
  · rw [← uT_end hc hi hk (show it.names.length ≤ k by omega)]
    repeat' (first | ((with_reducible first | (refine hK _ ?_; clear hK K) | refine stq fun K' hK' => ?_ | refine stc ?_); try simp only [go_sem]) | (with_reducible first | refine stp ?_ | (refine hK' _ ?_; clear hK' K') | refine kN kl254 fun K hK => ?_ | refine kO fun K hK => ?_) | refine iB ?_ | (with_reducible refine pw_seq_drawK kl254 G_ok mixed (by kernel_rfl) (fun K hK => ?_)) | (with_reducible refine pw_draw G_ok mixed (by kernel_rfl) ?_) | (with_reducible refine pK_mk ?_ ?_ <;> (intro hc; (try simp only [go_sem]); (try simp at hc); try (exfalso; omega))) | with_reducible refine And.intro (by first | omega | (unfold inI; omega)) ?_)
    all_goals first
      | (exfalso; omega)
      | (refine retQ_ret rfl rfl (by simp [rowsOf, lk]) ?_; rfl)
theorem pointsFor_ok (c : CodeD) (l : List ItemD) (k : Nat) (g : List Int) (hc : CodeOk c) (hl : ItsOk l) (hk : KnownL c l) (hlt : k < l.length) (hg : GrOk g) : FnEq Tryz.prog 229 [.agg c.cs, .d (.lst 3 (l.map ItemD.dat)), .d (.int .i64 (k : Int)), .d (.lst 1 (g.map datI))] [.d (.int .i64 (ptsW c l k g))] := by
  have h14 := hl.1
  have hx := List.getElem?_eq_getElem hlt
  generalize l[k] = x at hx
  have hio := hl.at_ hx
  have hkx : KnownI c x := hk k x hx
  have hib := itemBase_ok c l k hc hl hk hlt
  have htr := trimmedSum_ok g 5 (by omega) (by omega) hg.1 hg.2.1 hg.2.2
  have hun := unitOf_ok c x hc hio hkx
  have hpb := prod_bd hc hio hkx hg
  have hcb := cntW_bd hg.1 hg.2.1
  have htb := trimW_bd (A := 5) (by omega) hg.1 hg.2.1 hg.2.2
  have hub := unitW_bd hc hio hkx
  have hro := roundDiv_ok (trimW g * unitW c x) (10 * cntW g) (by omega) (by omega) (by omega) (by omega)
  have e := ptsW_of (c := c) (g := g) hx
  refine fn_ok G_ok Tryz.func229 rfl rfl ?_; simp only [Tryz.ntmps229, List.length_cons, List.length_nil, Nat.reduceAdd, Nat.reduceSub, enm]
  generalize itemW c l k = iw at hib e
  generalize hp : trimW g * unitW c x = p at hpb hro e
  generalize hcn : 10 * cntW g = q at hro e
  generalize trimW g = tr at htr hp htb
  generalize unitW c x = un at hun hp hub
  generalize cntW g = cw at htr hcb hcn
  by_cases h0 : iw = 0
  · rw [e, if_pos h0]
    repeat' (first | ((with_reducible first | (refine hK _ ?_; clear hK K) | refine stq fun K' hK' => ?_ | refine stc ?_); try simp only [go_sem, List.getElem?_map, hx, Option.map_some, ItemD.dat, hlt, hp, hcn]) | (with_reducible first | refine stp ?_ | (refine hK' _ ?_; clear hK' K') | refine kN kl229 fun K hK => ?_ | refine kO fun K hK => ?_) | ((with_reducible first | apply CallK.eq | apply CallQ.eqs); (· with_reducible first | exact hib | exact htr | exact hun | exact hro); (· first | exact rfl | (simp [RV.flat, D.sc, datI]; done)); try simp only [go_sem, List.getElem?_map, hx, Option.map_some, ItemD.dat, hlt, hp, hcn]) | (with_reducible refine pw_seq_drawK kl229 G_ok mixed (by kernel_rfl) (fun K hK => ?_)) | (with_reducible refine pw_draw G_ok mixed (by kernel_rfl) ?_) | (with_reducible refine pK_mk ?_ ?_ <;> (intro hc; (try simp only [go_sem, List.getElem?_map, hx, Option.map_some, ItemD.dat, hlt, hp, hcn]); (try simp at hc); try (exfalso; omega))) | with_reducible refine And.intro (by first | omega | (unfold inI; omega)) ?_)
    all_goals first
      | (exfalso; omega)
      | (refine retQ_ret rfl rfl (by simp [rowsOf, lk]) ?_; rfl)
  · rw [e, if_neg h0]
    repeat' (first | ((with_reducible first | (refine hK _ ?_; clear hK K) | refine stq fun K' hK' => ?_ | refine stc ?_); try simp only [go_sem, List.getElem?_map, hx, Option.map_some, ItemD.dat, hlt, hp, hcn]) | (with_reducible first | refine stp ?_ | (refine hK' _ ?_; clear hK' K') | refine kN kl229 fun K hK => ?_ | refine kO fun K hK => ?_) | ((with_reducible first | apply CallK.eq | apply CallQ.eqs); (· with_reducible first | exact hib | exact htr | exact hun | exact hro); (· first | exact rfl | (simp [RV.flat, D.sc, datI]; done)); try simp only [go_sem, List.getElem?_map, hx, Option.map_some, ItemD.dat, hlt, hp, hcn]) | (with_reducible refine pw_seq_drawK kl229 G_ok mixed (by kernel_rfl) (fun K hK => ?_)) | (with_reducible refine pw_draw G_ok mixed (by kernel_rfl) ?_) | (with_reducible refine pK_mk ?_ ?_ <;> (intro hc; (try simp only [go_sem, List.getElem?_map, hx, Option.map_some, ItemD.dat, hlt, hp, hcn]); (try simp at hc); try (exfalso; omega))) | with_reducible refine And.intro (by first | omega | (unfold inI; omega)) ?_)
    all_goals first
      | (exfalso; omega)
      | (refine retQ_ret rfl rfl (by simp [rowsOf, lk]) ?_; rfl)
theorem elPoints_ok (c : CodeD) (l : List ItemD) (k : Nat) (g : List Int) (hc : CodeOk c) (hl : ItsOk l) (hk : KnownL c l) (hlt : k < l.length) (hg : GrOk g) : FnEq Tryz.prog 240 [.agg c.cs, .d (.lst 3 (l.map ItemD.dat)), .d (.int .i64 (k : Int)), .d (.lst 1 (g.map datI))] [.d (.int .i64 (ptsW c l k g))] := by
  have h14 := hl.1
  have hx := List.getElem?_eq_getElem hlt
  generalize l[k] = x at hx
  have hio := hl.at_ hx
  have hkx : KnownI c x := hk k x hx
  have hib := bsItem_ok c l k hc hl hk hlt
  have htr := tmMean_ok g 5 (by omega) (by omega) hg.1 hg.2.1 hg.2.2
  have hun := elUnit_ok c x hc hio hkx
  have hpb := prod_bd hc hio hkx hg
  have hcb := cntW_bd hg.1 hg.2.1
  have htb := trimW_bd (A := 5) (by omega) hg.1 hg.2.1 hg.2.2
  have hub := unitW_bd hc hio hkx
  have hro := poRound_ok (trimW g * unitW c x) (10 * cntW g) (by omega) (by omega) (by omega) (by omega)
  have e := ptsW_of (c := c) (g := g) hx
  refine fn_ok G_ok Tryz.func240 rfl rfl ?_; simp only [Tryz.ntmps240, List.length_cons, List.length_nil, Nat.reduceAdd, Nat.reduceSub, enm]
  generalize itemW c l k = iw at hib e
  generalize hp : trimW g * unitW c x = p at hpb hro e
  generalize hcn : 10 * cntW g = q at hro e
  generalize trimW g = tr at htr hp htb
  generalize unitW c x = un at hun hp hub
  generalize cntW g = cw at htr hcb hcn
  by_cases h0 : iw = 0
  · rw [e, if_pos h0]
    repeat' (first | ((with_reducible first | (refine hK _ ?_; clear hK K) | refine stq fun K' hK' => ?_ | refine stc ?_); try simp only [go_sem, List.getElem?_map, hx, Option.map_some, ItemD.dat, hlt, hp, hcn]) | (with_reducible first | refine stp ?_ | (refine hK' _ ?_; clear hK' K') | refine kN kl240 fun K hK => ?_ | refine kO fun K hK => ?_) | ((with_reducible first | apply CallK.eq | apply CallQ.eqs); (· with_reducible first | exact hib | exact htr | exact hun | exact hro); (· first | exact rfl | (simp [RV.flat, D.sc, datI]; done)); try simp only [go_sem, List.getElem?_map, hx, Option.map_some, ItemD.dat, hlt, hp, hcn]) | (with_reducible refine pw_seq_drawK kl240 G_ok mixed (by kernel_rfl) (fun K hK => ?_)) | (with_reducible refine pw_draw G_ok mixed (by kernel_rfl) ?_) | (with_reducible refine pK_mk ?_ ?_ <;> (intro hc; (try simp only [go_sem, List.getElem?_map, hx, Option.map_some, ItemD.dat, hlt, hp, hcn]); (try simp at hc); try (exfalso; omega))) | with_reducible refine And.intro (by first | omega | (unfold inI; omega)) ?_)
    all_goals first
      | (exfalso; omega)
      | (refine retQ_ret rfl rfl (by simp [rowsOf, lk]) ?_; rfl)
  · rw [e, if_neg h0]
    repeat' (first | ((with_reducible first | (refine hK _ ?_; clear hK K) | refine stq fun K' hK' => ?_ | refine stc ?_); try simp only [go_sem, List.getElem?_map, hx, Option.map_some, ItemD.dat, hlt, hp, hcn]) | (with_reducible first | refine stp ?_ | (refine hK' _ ?_; clear hK' K') | refine kN kl240 fun K hK => ?_ | refine kO fun K hK => ?_) | ((with_reducible first | apply CallK.eq | apply CallQ.eqs); (· with_reducible first | exact hib | exact htr | exact hun | exact hro); (· first | exact rfl | (simp [RV.flat, D.sc, datI]; done)); try simp only [go_sem, List.getElem?_map, hx, Option.map_some, ItemD.dat, hlt, hp, hcn]) | (with_reducible refine pw_seq_drawK kl240 G_ok mixed (by kernel_rfl) (fun K hK => ?_)) | (with_reducible refine pw_draw G_ok mixed (by kernel_rfl) ?_) | (with_reducible refine pK_mk ?_ ?_ <;> (intro hc; (try simp only [go_sem, List.getElem?_map, hx, Option.map_some, ItemD.dat, hlt, hp, hcn]); (try simp at hc); try (exfalso; omega))) | with_reducible refine And.intro (by first | omega | (unfold inI; omega)) ?_)
    all_goals first
      | (exfalso; omega)
      | (refine retQ_ret rfl rfl (by simp [rowsOf, lk]) ?_; rfl)
end Go.Proofs.YtphakidbddamfaaGreat
