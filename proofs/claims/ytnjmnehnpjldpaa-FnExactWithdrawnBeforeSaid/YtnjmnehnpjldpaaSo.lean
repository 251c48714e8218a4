/-
  The abstract machine: slices.Sort on a row of numbers.
-/
import Derived.Test.YtnjmnehnpjldpaaShelf
import Derived.Test.YtnjmnehnpjldpaaSf
import Derived.Sort.OwnSortedInts
namespace Go.Proofs.Ytnjmnehnpjldpaa
open Go.RowKit Go.Sort

def sortUp (xs : List Int) : List Int := xs.mergeSort fun x y => decide (x ≤ y)
theorem sortUp_len (xs : List Int) : (sortUp xs).length = xs.length := List.length_mergeSort _
theorem sortUp_perm (xs : List Int) : (sortUp xs).Perm xs := List.mergeSort_perm _ _
theorem sortUp_sorted (xs : List Int) : (sortUp xs).Pairwise (· ≤ ·) := by
  have h := List.pairwise_mergeSort (le := fun x y : Int => decide (x ≤ y)) (by simp; omega) (by simp; omega) xs
  exact h.imp (by simp)
theorem po_rewriteS {P : Program} {o : Oper} {s : AS} {K : AS → Prop} {f x : Operand} {ts : Array TypeId} {fid : FuncId} {id n : Nat} {ty : TypeId} {xs ys : List Int} (ho : o.op = .call { callee := .value f, args := #[x], argTypes := ts }) (hf : s.get f = .fn fid []) (hx : s.get x = .row id n) (hg : hget s.hp id = some (.row ty 1 (xs.map datI))) (hn : n = xs.length) (hent : Enters P fid) (hy : ys.length = xs.length)
    (hc : ∀ (w : World) (g c : Nat), OwnS encI 1 ty w g (.slice (some ⟨g, 0, none⟩) n c) xs → Calls P fid #[.slice (some ⟨g, 0, none⟩) n c] w fun e w' => e = .returned (.tuple #[]) ∧ OwnS encI 1 ty w' g (.slice (some ⟨g, 0, none⟩) n c) ys ∧ w.grownBy w' (some g) ∧ w.drawn ≤ w'.drawn)
    (hc0 : ∀ (w : World), Calls P fid #[.slice none 0 0] w fun e w' => e = .returned (.tuple #[]) ∧ w' = w)
    (hK : K (AS.put ⟨s.fr, hset s.hp id (.row ty 1 (ys.map datI)), s.nx⟩ o.dst (.tup []))) : PO P o s K := by
  intro X0 w0 m a w Q hs
  obtain ⟨fn, e1, e2, e3⟩ := hent
  have hfv := hs.get f
  rw [hf] at hfv
  have hfe : a.eval f = .func (.func fid) #[] #[] := by
    generalize a.eval f = v at hfv
    cases hfv with
    | fn _ _ vs hl h => have : vs = #[] := Array.eq_empty_of_size_eq_zero hl; subst this; rfl
  have hrun : (execOp a.eval o).run P w = .ok (.enter fid #[a.eval x]) w := by
    have e2' : ¬ fn.name = "runtime.NumGoroutine" := by simpa using e2
    have e3' : ¬ fn.body = none := fun h => by rw [h] at e3; cases e3
    simp [execOp, ho, resolve, hfe, Deferred.ofValue, invoke, callFunc, e1]
    rw [if_neg e2', if_neg e3']
  unfold Oper.wp
  rw [hrun]
  simp only [Oper.upon_enter]
  have h1 := hs.get x
  rw [hx] at h1
  have htup : ∀ m' X' (w' : World), R m' X' w' (.tup []) (.tuple #[]) := fun m' X' w' => .tup _ _ rfl fun i x v h => by simp at h
  rcases h1.row_inv with ⟨q1, q2, q3⟩ | ⟨b, c, q1, q2, q3⟩
  · rw [q3]
    refine (hc0 w).mono ?_
    rintro e w' ⟨rfl, rfl⟩
    have hx0 : xs = [] := List.eq_nil_of_length_eq_zero (by omega)
    have hy0 : ys = [] := List.eq_nil_of_length_eq_zero (by omega)
    subst hx0 hy0
    rw [hset_same2 hg] at hK
    exact ⟨m, _, hK, hs.put (htup _ _ _) o.dst⟩
  · rw [q3]
    obtain ⟨arr, hh, hok⟩ := hs.blk hg q1
    have hown : OwnS encI 1 ty w b (.slice (some ⟨b, 0, none⟩) n c) xs := by
      have hrr : RR (Owned X0 m s.hp) b w (.row ty 1 (xs.map datI)) (.slice (some ⟨b, 0, none⟩) (xs.map datI).length c) _ := .row ty 1 _ b c arr (Nat.le_refl _) hh ⟨hok.1, hok.2.1, hok.2.2.1, hok.2.2.2.1, hok.2.2.2.2⟩
      have := own_of_rr datI_ok hrr
      rwa [List.length_map, ← hn] at this
    have hbe := hs.owns hg q1
    refine (hc w b c hown).mono ?_
    rintro e w' ⟨rfl, ho', hgr, hdr⟩
    obtain ⟨arr', hh', hok'⟩ := cells_of_own2 ho'
    refine ⟨upd m id (.blk b c), _, hK, Sim.put ?_ (htup _ _ _) o.dst⟩
    refine hs.change (i := id) (blk' := .row ty 1 (ys.map datI)) (l' := .blk b c) (fun k => k = b) (.inr q1) (by rw [hget_hset]; simp [hg]) rfl (fun id' hne blk hb' => by rw [hget_hset, if_neg hne] at hb'; exact hb') (fun id' q ty' sz' es2 hd => ?_) (Nat.le_refl _) (hs.lt_nx q1) ⟨hgr.os, hgr.tape, hgr.output, hgr.size, fun k hk hnc => hgr.block k (Nat.lt_of_lt_of_le hk hs.below.size) (fun e => by cases e; rcases hbe.1 with h | h; omega; exact hnc h), hdr⟩ (fun k hk hne => hgr.block k hk (fun e => by cases e; exact hne rfl)) ?_ ?_ ?_
    · have hne : id' ≠ id := fun e => by subst e; rw [hg] at hd; cases hd
      exact ⟨hne, by rw [hget_hset, if_neg hne]⟩
    · rintro k rfl
      exact ⟨id, _, hg, ⟨c, q1⟩, .inl rfl⟩
    · intro b' c' e
      cases e
      exact ⟨hbe.1, Nat.lt_of_lt_of_le hbe.2 hgr.size, .inr rfl⟩
    · intro _
      exact ⟨arr', hh', hok' _ _⟩
theorem po_sortUp {o : Oper} {s : AS} {K : AS → Prop} {f x : Operand} {ts : Array TypeId} {id n : Nat} {xs : List Int} (ho : o.op = .call { callee := .value f, args := #[x], argTypes := ts }) (hf : s.get f = .fn 54 []) (hx : s.get x = .row id n) (hg : hget s.hp id = some (.row 3 1 (xs.map datI))) (hn : n = xs.length) (hl : xs.length ≤ 16777216)
    (hK : K (AS.put ⟨s.fr, hset s.hp id (.row 3 1 ((sortUp xs).map datI)), s.nx⟩ o.dst (.tup []))) : PO Try.prog o s K := by
  refine po_rewriteS ho hf hx hg hn ⟨_, Try.func54, rfl, rfl⟩ (sortUp_len xs) (fun w g c h => ?_) (fun w => ?_) hK
  · subst hn
    have h' : w.ownsRow g 3 1 (.slice (some ⟨g, 0, none⟩) xs.length c) xs.length (xs.map (Value.int .i64)) := by
      have := h
      unfold OwnS at this
      rwa [flat_encI2] at this
    obtain ⟨g', cap', hv', _, hlt, _, _, _, hH⟩ := Go.Lib.holds_of_ownsRow h' (by simp)
    cases hv'
    refine (Try.slices_Sort_int g 0 c xs w hH hlt (by omega)).mono fun e w' ⟨he, q, os, hw⟩ => ?_
    subst hw
    refine ⟨he, ?_, Go.grownBy_sortedI _, Nat.le_add_right _ _⟩
    have h1 := Go.Lib.ownsRow_putRow (q := q) (k := xs.length) h' (sortUp_len xs) (Nat.le_refl _)
    rw [List.take_of_length_le (by rw [sortUp_len]; exact Nat.le_refl _)] at h1
    have hgb : ∀ W : World, Go.RowKit.Below W.heap.size W (Go.Sort.grow W os) := fun W => ⟨rfl, rfl, rfl, by simp [Go.Sort.grow], fun k hk => by simp [Go.Sort.grow, Array.getElem?_append_left hk]⟩
    have h2 : OwnS encI 1 3 (Go.Sort.putRow (Value.int .i64) (Go.Sort.ahead w q) g 0 (sortUp xs).toArray) g (.slice (some ⟨g, 0, none⟩) xs.length c) (sortUp xs) := by
      unfold OwnS
      rw [flat_encI2, sortUp_len]
      exact h1
    exact h2.ext (hgb _)
  · exact (Try.slices_Sort_int_none _ _ w).mono fun e w' ⟨he, hw⟩ => ⟨he, hw⟩
end Go.Proofs.Ytnjmnehnpjldpaa
