/-
  Words on lists that the walks use: what is chosen and counted up to a place, the first place, bounds that hold up to a place. No program is named here.
-/
import Derived.Test.YtjgpbbdapjjmiaaDoorBr
set_option linter.unusedSimpArgs false
set_option linter.unusedVariables false
set_option maxHeartbeats 2000000
set_option maxRecDepth 100000
namespace Go.Proofs.YtjgpbbdapjjmiaaDoor

section
variable {α β : Type}
/-- those of a list that are chosen, as f has them -/
def fm (p : α → Bool) (f : α → β) (l : List α) : List β := (l.filter p).map f
theorem fm_nil (p : α → Bool) (f : α → β) : fm p f [] = [] := rfl
theorem fm_yes {p : α → Bool} {f : α → β} {l : List α} {k : Nat} {x : α} (hx : l[k]? = some x) (h : p x = true) : fm p f (l.take (k + 1)) = fm p f (l.take k) ++ [f x] := by
  unfold fm; rw [take_snoc hx, List.filter_append]; simp [h]
theorem fm_no {p : α → Bool} {f : α → β} {l : List α} {k : Nat} {x : α} (hx : l[k]? = some x) (h : p x = false) : fm p f (l.take (k + 1)) = fm p f (l.take k) := by
  unfold fm; rw [take_snoc hx, List.filter_append]; simp [h]
theorem fm_len (p : α → Bool) (f : α → β) (l : List α) : (fm p f l).length ≤ l.length := by unfold fm; rw [List.length_map]; exact List.length_filter_le _ _
theorem fm_take_len (p : α → Bool) (f : α → β) (l : List α) (k : Nat) : (fm p f (l.take k)).length ≤ k := Nat.le_trans (fm_len _ _ _) (List.length_take_le _ _)
theorem fm_mem {p : α → Bool} {f : α → β} {l : List α} {y : β} : y ∈ fm p f l ↔ ∃ x ∈ l, p x = true ∧ f x = y := by
  unfold fm; simp [and_assoc]
theorem map_snoc {f : α → β} {l : List α} {k : Nat} {x : α} (hx : l[k]? = some x) : (l.take (k + 1)).map f = (l.take k).map f ++ [f x] := by rw [take_snoc hx]; simp
/-- the numbers below n that are chosen -/
def ixN (p : Nat → Bool) (n : Nat) : List Int := fm p (fun i : Nat => (i : Int)) (List.range n)
theorem ixN_zero (p : Nat → Bool) : ixN p 0 = [] := rfl
theorem ixN_yes {p : Nat → Bool} {n : Nat} (h : p n = true) : ixN p (n + 1) = ixN p n ++ [(n : Int)] := by
  unfold ixN fm; rw [List.range_succ, List.filter_append]; simp [h]
theorem ixN_no {p : Nat → Bool} {n : Nat} (h : p n = false) : ixN p (n + 1) = ixN p n := by
  unfold ixN fm; rw [List.range_succ, List.filter_append]; simp [h]
theorem ixN_len (p : Nat → Bool) (n : Nat) : (ixN p n).length ≤ n := Nat.le_trans (fm_len _ _ _) (by simp)
/-- p holds of the element at a place -/
def atB (p : α → Bool) (l : List α) (i : Nat) : Bool := match l[i]? with
  | some x => p x
  | none => false
theorem atB_of {p : α → Bool} {l : List α} {i : Nat} {x : α} (h : l[i]? = some x) : atB p l i = p x := by unfold atB; rw [h]
/-- how many are chosen -/
def cn (p : α → Bool) (l : List α) : Nat := l.countP p
theorem cn_nil (p : α → Bool) : cn p [] = 0 := rfl
theorem cn_yes {p : α → Bool} {l : List α} {k : Nat} {x : α} (hx : l[k]? = some x) (h : p x = true) : cn p (l.take (k + 1)) = cn p (l.take k) + 1 := by
  unfold cn; rw [take_snoc hx, List.countP_append]; simp [h]
theorem cn_no {p : α → Bool} {l : List α} {k : Nat} {x : α} (hx : l[k]? = some x) (h : p x = false) : cn p (l.take (k + 1)) = cn p (l.take k) := by
  unfold cn; rw [take_snoc hx, List.countP_append]; simp [h]
theorem cn_le (p : α → Bool) (l : List α) : cn p l ≤ l.length := List.countP_le_length
theorem cn_take_le (p : α → Bool) (l : List α) (k : Nat) : cn p (l.take k) ≤ k := Nat.le_trans (cn_le _ _) (List.length_take_le _ _)
/-- the first place where p holds, or -1 -/
def fIx (p : α → Bool) : List α → Nat → Int
  | [], _ => -1
  | x :: r, i => if p x = true then (i : Int) else fIx p r (i + 1)
theorem fIx_at {p : α → Bool} : ∀ {l : List α} {k : Nat} {x : α} {i : Nat}, l[k]? = some x → p x = true → (∀ y ∈ l.take k, p y = false) → fIx p l i = ((k + i : Nat) : Int)
  | [], k, x, i, h, _, _ => by simp at h
  | y :: r, 0, x, i, h, hp, _ => by simp at h; subst h; simp [fIx, hp]
  | y :: r, k + 1, x, i, h, hp, hn => by
    have h1 : p y = false := hn y (by simp)
    have h2 := fIx_at (i := i + 1) (l := r) (by simpa using h) hp (fun z hz => hn z (by rw [List.take_succ_cons]; exact List.mem_cons_of_mem _ hz))
    rw [fIx, if_neg (by rw [h1]; simp), h2]
    congr 1; omega
theorem fIx_none {p : α → Bool} : ∀ {l : List α} {i : Nat}, (∀ y ∈ l, p y = false) → fIx p l i = -1
  | [], i, _ => rfl
  | y :: r, i, h => by
    rw [fIx, if_neg (by rw [h y (by simp)]; simp)]
    exact fIx_none fun z hz => h z (List.mem_cons_of_mem _ hz)
theorem fIx_inv {p : α → Bool} : ∀ (l : List α) (i : Nat), (fIx p l i = -1 ∧ ∀ y ∈ l, p y = false) ∨ ∃ k x, fIx p l i = ((k + i : Nat) : Int) ∧ l[k]? = some x ∧ p x = true ∧ ∀ y ∈ l.take k, p y = false
  | [], i => .inl ⟨rfl, fun y h => by simp at h⟩
  | z :: r, i => by
    by_cases hz : p z = true
    · exact .inr ⟨0, z, by simp [fIx, hz], rfl, hz, fun y h => by simp at h⟩
    · have hz' : p z = false := by simpa using hz
      rcases fIx_inv r (i + 1) with ⟨h1, h2⟩ | ⟨k, x, h1, h2, h3, h4⟩
      · exact .inl ⟨by rw [fIx, if_neg hz, h1], fun y hy => by rcases List.mem_cons.1 hy with rfl | hy; exact hz'; exact h2 y hy⟩
      · refine .inr ⟨k + 1, x, by rw [fIx, if_neg hz, h1]; congr 1; omega, by simpa using h2, h3, fun y hy => ?_⟩
        rw [List.take_succ_cons] at hy
        rcases List.mem_cons.1 hy with rfl | hy
        · exact hz'
        · exact h4 y hy
theorem fIx_any (p : α → Bool) (l : List α) : decide (0 ≤ fIx p l 0) = l.any p := by
  rcases fIx_inv (p := p) l 0 with ⟨h1, h2⟩ | ⟨k, x, h1, h2, h3, _⟩
  · rw [h1]
    have : l.any p = false := by rw [List.any_eq_false]; intro x hx; simp [h2 x hx]
    rw [this]; rfl
  · rw [h1]
    have : l.any p = true := List.any_eq_true.2 ⟨x, List.mem_of_getElem? h2, h3⟩
    rw [this]; simp
theorem none_snoc {p : α → Bool} {l : List α} {k : Nat} {x : α} (h : ∀ y ∈ l.take k, p y = false) (hx : l[k]? = some x) (hp : p x = false) : ∀ y ∈ l.take (k + 1), p y = false := by
  intro y hy
  rw [take_snoc hx] at hy
  rcases List.mem_append.1 hy with hy | hy
  · exact h y hy
  · rw [List.mem_singleton] at hy; subst hy; exact hp
theorem none_all {p : α → Bool} {l : List α} {k : Nat} (h : ∀ y ∈ l.take k, p y = false) (hk : l.length ≤ k) : ∀ y ∈ l, p y = false := by rwa [List.take_of_length_le hk] at h
/-- A holds at all places below k -/
def Upto (A : Nat → α → Prop) (l : List α) (k : Nat) : Prop := ∀ j x, j < k → l[j]? = some x → A j x
theorem Upto.zero (A : Nat → α → Prop) (l : List α) : Upto A l 0 := fun _ _ h => absurd h (by omega)
theorem Upto.succ {A : Nat → α → Prop} {l : List α} {k : Nat} {x : α} (h : Upto A l k) (hx : l[k]? = some x) (hf : A k x) : Upto A l (k + 1) := by
  intro j y hj hy
  by_cases e : j = k
  · subst e
    rw [hx] at hy
    cases hy
    exact hf
  · exact h j y (by omega) hy
def All (A : Nat → α → Prop) (l : List α) : Prop := ∀ j x, l[j]? = some x → A j x
theorem All.not_at {A : Nat → α → Prop} {l : List α} {k : Nat} {x : α} (hx : l[k]? = some x) (hf : ¬ A k x) : ¬ All A l := fun h => hf (h k x hx)
theorem Upto.all {A : Nat → α → Prop} {l : List α} {k : Nat} (h : Upto A l k) (hk : l.length ≤ k) : All A l := fun j x hx => h j x (Nat.lt_of_lt_of_le (List.getElem?_eq_some_iff.1 hx).1 hk) hx
end
/-- captured variables that are plain data -/
structure CapOK (caps : List PV) : Prop where
  t1 : ∀ hp, caps.map (ta1 hp) = caps
  t2 : ∀ hp, caps.map (ta2 hp) = caps
  ren : ∀ σ, renL σ caps = caps
  bd : ∀ nx, bdL nx caps = true
theorem eptrCap (ds : List D) : CapOK [.eptr ds] := ⟨fun _ => rfl, fun _ => rfl, fun _ => rfl, fun _ => rfl⟩
theorem noCap : CapOK [] := ⟨fun _ => rfl, fun _ => rfl, fun _ => rfl, fun _ => rfl⟩
theorem eptrCap2 (ds ds' : List D) : CapOK [.eptr ds, .eptr ds'] := ⟨fun _ => rfl, fun _ => rfl, fun _ => rfl, fun _ => rfl⟩
theorem eptrCap3 (ds ds' ds2 : List D) : CapOK [.eptr ds, .eptr ds', .eptr ds2] := ⟨fun _ => rfl, fun _ => rfl, fun _ => rfl, fun _ => rfl⟩
theorem of_bP {p : Prop} (h : bP p = true) : p := bP_iff.1 h
theorem not_bP {p : Prop} (h : bP p = false) : ¬ p := fun h' => Bool.noConfusion ((bP_true h').symm.trans h)
theorem bP_dec (p : Prop) [Decidable p] : bP p = decide p := by by_cases h : p <;> simp [h, bP_true, bP_false]
theorem bP_congr {p q : Prop} (h : p ↔ q) : bP p = bP q := by rw [propext h]
end Go.Proofs.YtjgpbbdapjjmiaaDoor
namespace Go.Proofs.YtjgpbbdapjjmiaaDoor
open Go.RowKit

theorem within_ok (n lo hi : Int) : FnEq Tryd.prog 40 [.d (.int .i64 n), .d (.int .i64 lo), .d (.int .i64 hi)] [.d (.bool (decide (lo ≤ n) && decide (n ≤ hi)))] := by
  refine fn_ok G_ok Tryd.func40 rfl rfl ?_; simp only [Tryd.ntmps40, List.length_cons, List.length_nil, Nat.reduceAdd, Nat.reduceSub, enm]
  repeat' (first | ((with_reducible first | (refine hK _ ?_; clear hK K) | refine stq fun K' hK' => ?_ | refine stc ?_); try simp only [go_sem]) | (with_reducible first | refine stp ?_ | (refine hK' _ ?_; clear hK' K') | refine kN kl40 fun K hK => ?_ | refine kO fun K hK => ?_) | (refine xS rfl fun K' hK' => ?_; simp only [go_sem]) | (with_reducible refine pK_mk ?_ ?_ <;> (intro hc; (try simp only [go_sem]); (try simp at hc); try (exfalso; omega))) | with_reducible refine And.intro (by first | omega | (unfold inI; omega)) ?_)
  · refine retQ_ret rfl rfl (by simp [rowsOf, lk]) ?_; simp [hc]
  · refine retQ_ret rfl rfl (by simp [rowsOf, lk]) ?_; simp; omega
theorem l1In_ok (n lo hi : Int) : FnEq Tryd.prog 35 [.d (.int .i64 n), .d (.int .i64 lo), .d (.int .i64 hi)] [.d (.bool (decide (lo ≤ n) && decide (n ≤ hi)))] := by
  refine fn_ok G_ok Tryd.func35 rfl rfl ?_; simp only [Tryd.ntmps35, List.length_cons, List.length_nil, Nat.reduceAdd, Nat.reduceSub, enm]
  repeat' (first | ((with_reducible first | (refine hK _ ?_; clear hK K) | refine stq fun K' hK' => ?_ | refine stc ?_); try simp only [go_sem]) | (with_reducible first | refine stp ?_ | (refine hK' _ ?_; clear hK' K') | refine kN kl35 fun K hK => ?_ | refine kO fun K hK => ?_) | (refine xS rfl fun K' hK' => ?_; simp only [go_sem]) | (with_reducible refine pK_mk ?_ ?_ <;> (intro hc; (try simp only [go_sem]); (try simp at hc); try (exfalso; omega))) | with_reducible refine And.intro (by first | omega | (unfold inI; omega)) ?_)
  · refine retQ_ret rfl rfl (by simp [rowsOf, lk]) ?_; simp [hc]
  · refine retQ_ret rfl rfl (by simp [rowsOf, lk]) ?_; simp; omega
theorem l1Has_ok (xs : List Int) (n : Int) (hn : xs.length ≤ 16777216) : FnEq Tryd.prog 36 [.d (.lst 1 (xs.map datI)), .d (.int .i64 n)] [.d (.bool (bP (n ∈ xs)))] := by
  refine fn_ok G_ok Tryd.func36 rfl rfl ?_; simp only [Tryd.ntmps36, List.length_cons, List.length_nil, Nat.reduceAdd, Nat.reduceSub, enm]
  repeat' (first | ((with_reducible first | (refine hK _ ?_; clear hK K) | refine stq fun K' hK' => ?_ | refine stc ?_); try simp only [go_sem]) | (with_reducible first | refine stp ?_ | (refine hK' _ ?_; clear hK' K') | refine kN kl36 fun K hK => ?_ | refine kO fun K hK => ?_) | refine iB ?_ | (with_reducible refine pK_mk ?_ ?_ <;> (intro hc; (try simp only [go_sem]); (try simp at hc); try (exfalso; omega))) | with_reducible refine And.intro (by first | omega | (unfold inI; omega)) ?_)
  refine pw_loop_over [4, 6, 9, 10, 11, 12, 13, 14, 15, 16] (fun k : Nat => [(9, .d (.int .i64 (k : Int)))]) (fun k : Nat => []) 0 (fun k : Nat => k ≤ xs.length ∧ n ∉ xs.take k) (fun k : Nat => xs.length - k) 0 ⟨Nat.zero_le _, by simp⟩ (fits_mk [] (by simp [renL_d, bdL_d, sg, over, wipe, wl, memN, ins, rm, lk, fitFr, fit1, ren, renL, bd, bdL, app, fitHp, hget, renB, bdB] <;> omega)) ?_
  rintro k ⟨hk, hJ⟩
  simp only [over, wipe, wl, memN, ins, rm, if_true, if_false, Nat.reduceEqDiff, Bool.false_eq_true, reduceCtorEq]
  by_cases hlt : k < xs.length
  · have hx := List.getElem?_eq_getElem hlt
    generalize xs[k] = x at hx
    repeat' (first | ((with_reducible first | (refine hK _ ?_; clear hK K) | refine stq fun K' hK' => ?_ | refine stc ?_); try simp only [go_sem, List.getElem?_map, hx, Option.map_some, datI]) | (with_reducible first | refine stp ?_ | (refine hK' _ ?_; clear hK' K') | refine kN kl36 fun K hK => ?_ | refine kO fun K hK => ?_) | refine iB ?_ | (with_reducible refine pK_mk ?_ ?_ <;> (intro hc; (try simp only [go_sem, List.getElem?_map, hx, Option.map_some, datI]); (try simp at hc); try (exfalso; omega))) | with_reducible refine And.intro (by first | omega | (unfold inI; omega)) ?_)
    · refine retQ_ret rfl rfl (by simp [rowsOf, lk]) ?_; rw [bP_true (hc ▸ List.mem_of_getElem? hx)]
    · exact ⟨k + 1, ⟨by omega, by rw [take_snoc hx]; simp [hJ, Ne.symm hc]⟩, by omega, (fits_mk [] (by simp [renL_d, bdL_d, sg, over, wipe, wl, memN, ins, rm, lk, fitFr, fit1, ren, renL, bd, bdL, app, fitHp, hget, renB, bdB] <;> omega))⟩
  · repeat' (first | ((with_reducible first | (refine hK _ ?_; clear hK K) | refine stq fun K' hK' => ?_ | refine stc ?_); try simp only [go_sem]) | (with_reducible first | refine stp ?_ | (refine hK' _ ?_; clear hK' K') | refine kN kl36 fun K hK => ?_ | refine kO fun K hK => ?_) | refine iB ?_ | (with_reducible refine pK_mk ?_ ?_ <;> (intro hc; (try simp only [go_sem]); (try simp at hc); try (exfalso; omega))) | with_reducible refine And.intro (by first | omega | (unfold inI; omega)) ?_)
    refine retQ_ret rfl rfl (by simp [rowsOf, lk]) ?_; rw [bP_false]; rwa [List.take_of_length_le (by omega)] at hJ
/-- the sign of a number -/
def sgn (n : Int) : Int := if 0 < n then 1 else if n < 0 then -1 else 0
/-- the sum of a list -/
def sm (xs : List Int) : Int := xs.foldl (fun a x => a + x) 0
theorem sm_nil : sm [] = 0 := rfl
theorem sm_snoc {xs : List Int} {k : Nat} {x : Int} (h : xs[k]? = some x) : sm (xs.take (k + 1)) = sm (xs.take k) + x := by
  unfold sm; rw [take_snoc h, List.foldl_append]; rfl
theorem sm_from (xs : List Int) (a : Int) : xs.foldl (fun a x => a + x) a = a + sm xs := by
  induction xs generalizing a with
  | nil => simp [sm]
  | cons x xs ih => unfold sm; rw [List.foldl_cons, List.foldl_cons, ih, ih (0 + x)]; omega
theorem sm_cons (x : Int) (xs : List Int) : sm (x :: xs) = x + sm xs := by
  have h : sm (x :: xs) = xs.foldl (fun a x => a + x) (0 + x) := rfl
  rw [h, sm_from]; omega
theorem sm_append (xs ys : List Int) : sm (xs ++ ys) = sm xs + sm ys := by
  have h : sm (xs ++ ys) = ys.foldl (fun a x => a + x) (xs.foldl (fun a x => a + x) 0) := List.foldl_append
  rw [h, sm_from]; rfl
theorem sm_perm {xs ys : List Int} (h : xs.Perm ys) : sm xs = sm ys := by
  induction h with
  | nil => rfl
  | cons x _ ih => rw [sm_cons, sm_cons, ih]
  | swap x y l => rw [sm_cons, sm_cons, sm_cons, sm_cons]; omega
  | trans _ _ h1 h2 => exact h1.trans h2
theorem sm_bd {M : Int} : ∀ {xs : List Int}, (∀ x ∈ xs, 0 ≤ x ∧ x ≤ M) → 0 ≤ sm xs ∧ sm xs ≤ M * xs.length
  | [], _ => by simp [sm]
  | x :: xs, h => by
    have h1 := h x (by simp)
    have h2 := sm_bd (xs := xs) fun y hy => h y (List.mem_cons_of_mem _ hy)
    rw [sm_cons, List.length_cons]
    have e : M * ((xs.length + 1 : Nat) : Int) = M * xs.length + M := by rw [Int.natCast_add]; simp [Int.mul_add]
    rw [e]
    omega
/-- the sum of what a walk has met, and bounds on it -/
theorem sm_take_bd {M : Int} {xs : List Int} (h : ∀ x ∈ xs, 0 ≤ x ∧ x ≤ M) (k : Nat) : 0 ≤ sm (xs.take k) ∧ sm (xs.take k) ≤ M * (xs.take k).length :=
  sm_bd fun x hx => h x (List.mem_of_mem_take hx)
end Go.Proofs.YtjgpbbdapjjmiaaDoor
