/-
  The abstract machine: library functions that rewrite a row of ints in place (slices.Sort, slices.Reverse).
-/
import Derived.Test.YtldcnlhfanbdfaaShelf
import Derived.Test.YtldcnlhfanbdfaaBr
import Derived.Test.YtldcnlhfanbdfaaTp
import Derived.Lib.OwnBridge
import Derived.Sort.OwnSortedInts
namespace Go.Proofs.Ytldcnlhfanbdfaa
open Go.RowKit

theorem hset_same : ∀ {hp : List (Nat × Blk)} {id : Nat} {b : Blk}, hget hp id = some b → hset hp id b = hp
  | [], _, _, h => by simp [hget] at h
  | (k, c) :: r, id, b, h => by
    simp only [hget] at h
    simp only [hset]
    split at h
    · rename_i e; subst e; cases h; simp
    · rename_i e; rw [if_neg e, hset_same h]
theorem flat_encI (xs : List Int) : xs.flatMap encI = xs.map (Value.int .i64) := by
  induction xs with
  | nil => rfl
  | cons x xs ih => simp only [List.flatMap_cons, List.map_cons, ih]; rfl
theorem cells_of_own {w : World} {g n c : Nat} {ty : TypeId} {xs : List Int} (h : OwnS encI 1 ty w g (.slice (some ⟨g, 0, none⟩) n c) xs) : ∃ arr, w.heap[g]? = some (.cells arr ty (0, 0)) ∧ ∀ m X, (Blk.row ty 1 (xs.map datI)).cellsOk m X w arr c := by
  rcases h.2 with ⟨hv, _⟩ | ⟨g', cap, cur, hv, hb, hh, hc, hm, hs, ht⟩
  · cases hv
  · cases hv
    refine ⟨cur, hh, fun m X => ⟨hs, by simpa using hc, hm, fun e he => ?_, fun k e j d u he hd hu => ?_⟩⟩
    · obtain ⟨x, _, rfl⟩ := List.mem_map.1 he; rfl
    · rw [List.getElem?_map] at he
      cases hk : xs[k]? with
      | none => rw [hk] at he; cases he
      | some x =>
        rw [hk] at he
        cases he
        cases j with
        | succ j => simp [datI] at hd
        | zero =>
          simp [datI] at hd
          subst hd
          have hklt := (List.getElem?_eq_some_iff.1 hk).1
          have h1 : (xs.flatMap encI)[k]? = some (.int .i64 x) := by rw [flat_encI, List.getElem?_map, hk]; rfl
          rw [← ht, List.getElem?_take_of_lt (by omega)] at h1
          have h2 : cur[k]? = some u := by simpa using hu
          have h3 : cur[k]? = some (.int .i64 x) := by simpa using h1
          rw [h3] at h2
          cases h2
          exact .int _ _
theorem po_rewrite {P : Program} {o : Oper} {s : AS} {K : AS → Prop} {f x : Operand} {ts : Array TypeId} {fid : FuncId} {id n : Nat} {ty : TypeId} {xs ys : List Int} (ho : o.op = .call { callee := .value f, args := #[x], argTypes := ts }) (hf : s.get f = .fn fid []) (hx : s.get x = .row id n) (hg : hget s.hp id = some (.row ty 1 (xs.map datI))) (hn : n = xs.length) (hent : Enters P fid) (hy : ys.length = xs.length)
    (hc : ∀ (w : World) (g c : Nat), OwnS encI 1 ty w g (.slice (some ⟨g, 0, none⟩) n c) xs → Calls P fid #[.slice (some ⟨g, 0, none⟩) n c] w fun e w' => e = .returned (.tuple #[]) ∧ OwnS encI 1 ty w' g (.slice (some ⟨g, 0, none⟩) n c) ys ∧ w.grownBy w' (some g) ∧ w.drawn ≤ w'.drawn)
    (hc0 : ∀ (w : World), Calls P fid #[.slice none 0 0] w fun e w' => e = .returned (.tuple #[]) ∧ w' = w)
    (hK : K (AS.put ⟨s.fr, hset s.hp id (.row ty 1 (ys.map datI)), s.nx⟩ o.dst (.tup []))) : PO P o s K := by
  intro X0 w0 m a w Q hs
  obtain ⟨fn, e1, e2, e3⟩ := hent
  have hfv := hs.get f
  rw [hf] at hfv
  have hfe : a.eval f = .func (.func fid) #[] #[] := by
    generalize a.eval f = v at hfv
    cases hfv with
    | fn _ _ vs hl h => have : vs = #[] := Array.eq_empty_of_size_eq_zero hl; subst this; rfl
  have hrun : (execOp a.eval o).run P w = .ok (.enter fid #[a.eval x]) w := by
    have e2' : ¬ fn.name = "runtime.NumGoroutine" := by simpa using e2
    have e3' : ¬ fn.body = none := fun h => by rw [h] at e3; cases e3
    simp [execOp, ho, resolve, hfe, Deferred.ofValue, invoke, callFunc, e1]
    rw [if_neg e2', if_neg e3']
  unfold Oper.wp
  rw [hrun]
  simp only [Oper.upon_enter]
  have h1 := hs.get x
  rw [hx] at h1
  have htup : ∀ m' X' (w' : World), R m' X' w' (.tup []) (.tuple #[]) := fun m' X' w' => .tup _ _ rfl fun i x v h => by simp at h
  rcases h1.row_inv with ⟨q1, q2, q3⟩ | ⟨b, c, q1, q2, q3⟩
  · rw [q3]
    refine (hc0 w).mono ?_
    rintro e w' ⟨rfl, rfl⟩
    have hx0 : xs = [] := List.eq_nil_of_length_eq_zero (by omega)
    have hy0 : ys = [] := List.eq_nil_of_length_eq_zero (by omega)
    subst hx0 hy0
    rw [hset_same hg] at hK
    exact ⟨m, _, hK, hs.put (htup _ _ _) o.dst⟩
  · rw [q3]
    obtain ⟨arr, hh, hok⟩ := hs.blk hg q1
    have hown : OwnS encI 1 ty w b (.slice (some ⟨b, 0, none⟩) n c) xs := by
      have hrr : RR (Owned X0 m s.hp) b w (.row ty 1 (xs.map datI)) (.slice (some ⟨b, 0, none⟩) (xs.map datI).length c) _ := .row ty 1 _ b c arr (Nat.le_refl _) hh ⟨hok.1, hok.2.1, hok.2.2.1, hok.2.2.2.1, hok.2.2.2.2⟩
      have := own_of_rr datI_ok hrr
      rwa [List.length_map, ← hn] at this
    have hbe := hs.owns hg q1
    refine (hc w b c hown).mono ?_
    rintro e w' ⟨rfl, ho', hgr, hdr⟩
    obtain ⟨arr', hh', hok'⟩ := cells_of_own ho'
    refine ⟨upd m id (.blk b c), _, hK, Sim.put ?_ (htup _ _ _) o.dst⟩
    refine hs.change (i := id) (blk' := .row ty 1 (ys.map datI)) (l' := .blk b c) (fun k => k = b) (.inr q1) (by rw [hget_hset]; simp [hg]) rfl (fun id' hne blk hb' => by rw [hget_hset, if_neg hne] at hb'; exact hb') (fun id' q ty' sz' es2 hd => ?_) (Nat.le_refl _) (hs.lt_nx q1) ⟨hgr.os, hgr.tape, hgr.output, hgr.size, fun k hk hnc => hgr.block k (Nat.lt_of_lt_of_le hk hs.below.size) (fun e => by cases e; rcases hbe.1 with h | h; omega; exact hnc h), hdr⟩ (fun k hk hne => hgr.block k hk (fun e => by cases e; exact hne rfl)) ?_ ?_ ?_
    · have hne : id' ≠ id := fun e => by subst e; rw [hg] at hd; cases hd
      exact ⟨hne, by rw [hget_hset, if_neg hne]⟩
    · rintro k rfl
      exact ⟨id, _, hg, ⟨c, q1⟩, .inl rfl⟩
    · intro b' c' e
      cases e
      exact ⟨hbe.1, Nat.lt_of_lt_of_le hbe.2 hgr.size, .inr rfl⟩
    · intro _
      exact ⟨arr', hh', hok' _ _⟩
/-- a row rewritten in place, perhaps with new blocks behind it -/
theorem own_putRow {w : World} {g cap q : Nat} {E : TypeId} {zs ys : List Int} (os : Array Obj) (h : OwnS encI 1 E w g (.slice (some ⟨g, 0, none⟩) zs.length cap) zs) (hy : ys.length = zs.length) :
    OwnS encI 1 E (Go.Sort.grow (Go.Sort.putRow (Value.int .i64) (Go.Sort.ahead w q) g 0 ys.toArray) os) g (.slice (some ⟨g, 0, none⟩) zs.length cap) ys := by
  have h' : w.ownsRow g E 1 (.slice (some ⟨g, 0, none⟩) zs.length cap) zs.length (zs.map (Value.int .i64)) := by
    have := h
    unfold OwnS at this
    rwa [flat_encI] at this
  have h1 := Go.Lib.ownsRow_putRow (q := q) (k := zs.length) h' hy (Nat.le_refl _)
  rw [List.take_of_length_le (by omega)] at h1
  have hgb : ∀ W : World, Below W.heap.size W (Go.Sort.grow W os) := fun W => ⟨rfl, rfl, rfl, by simp [Go.Sort.grow], fun k hk => by simp [Go.Sort.grow, Array.getElem?_append_left hk]⟩
  have h2 : OwnS encI 1 E (Go.Sort.putRow (Value.int .i64) (Go.Sort.ahead w q) g 0 ys.toArray) g (.slice (some ⟨g, 0, none⟩) zs.length cap) ys := by
    unfold OwnS
    rw [flat_encI, hy]
    exact h1
  exact h2.ext (hgb _)
section
variable {o : Oper} {s : AS} {K : AS → Prop} {f x : Operand} {ts : Array TypeId} {id n : Nat} {xs : List Int}
theorem po_sort (ho : o.op = .call { callee := .value f, args := #[x], argTypes := ts }) (hf : s.get f = .fn 69 []) (hx : s.get x = .row id n) (hg : hget s.hp id = some (.row 3 1 (xs.map datI))) (hn : n = xs.length) (hl : xs.length ≤ 16777216)
    (hK : K (AS.put ⟨s.fr, hset s.hp id (.row 3 1 ((sortA xs).map datI)), s.nx⟩ o.dst (.tup []))) : PO Try.prog o s K := by
  refine po_rewrite ho hf hx hg hn ⟨_, Try.func69, rfl, rfl⟩ (sortA_len xs) (fun w g c h => ?_) (fun w => ?_) hK
  · subst hn
    have h' : w.ownsRow g 3 1 (.slice (some ⟨g, 0, none⟩) xs.length c) xs.length (xs.map (Value.int .i64)) := by
      have := h
      unfold OwnS at this
      rwa [flat_encI] at this
    obtain ⟨g', cap', hv', _, hlt, _, _, _, hH⟩ := Go.Lib.holds_of_ownsRow h' (by simp)
    cases hv'
    refine (Try.slices_Sort_int g 0 c xs w hH hlt (by omega)).mono fun e w' ⟨he, q, os, hw⟩ => ?_
    subst hw
    exact ⟨he, own_putRow os h (sortA_len xs), Go.grownBy_sortedI _, Nat.le_add_right _ _⟩
  · exact (Try.slices_Sort_int_none _ _ w).mono fun e w' ⟨he, hw⟩ => ⟨he, hw⟩
theorem po_reverse (ho : o.op = .call { callee := .value f, args := #[x], argTypes := ts }) (hf : s.get f = .fn 70 []) (hx : s.get x = .row id n) (hg : hget s.hp id = some (.row 3 1 (xs.map datI))) (hn : n = xs.length) (hl : xs.length ≤ 16777216)
    (hK : K (AS.put ⟨s.fr, hset s.hp id (.row 3 1 (xs.reverse.map datI)), s.nx⟩ o.dst (.tup []))) : PO Try.prog o s K := by
  refine po_rewrite ho hf hx hg hn ⟨_, Try.func70, rfl, rfl⟩ (by simp) (fun w g c h => ?_) (fun w => ?_) hK
  · subst hn
    have h' : w.ownsRow g 3 1 (.slice (some ⟨g, 0, none⟩) xs.length c) xs.length (xs.map (Value.int .i64)) := by
      have := h
      unfold OwnS at this
      rwa [flat_encI] at this
    obtain ⟨g', cap', hv', _, hlt, _, _, _, hH⟩ := Go.Lib.holds_of_ownsRow h' (by simp)
    cases hv'
    refine (Try.slices_Reverse_int g 0 c xs w hH (by omega)).mono fun e w' ⟨he, q, hw⟩ => ?_
    subst hw
    have h2 := own_putRow (q := q) (ys := xs.reverse) #[] h (by simp)
    have h3 := Go.grownBy_sortedI (w := w) (g := g) (n := q) (os := #[]) xs.reverse.toArray
    simp only [Go.Sort.grow_empty] at h2 h3
    exact ⟨he, h2, h3, Nat.le_add_right _ _⟩
  · exact (Try.slices_Reverse_int_empty _ _ w).mono fun e w' ⟨he, hw⟩ => ⟨he, hw⟩
end
end Go.Proofs.Ytldcnlhfanbdfaa
