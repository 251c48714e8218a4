/-
  The abstract machine: slices.SortFunc on a row of places, with a closure that has captured one variable.
-/
import Derived.Test.YtnjmnehnpjldpaaSfs
import Derived.Test.YtnjmnehnpjldpaaBr
import Derived.Lib.OwnBridge
namespace Go.Proofs.Ytnjmnehnpjldpaa
open Go.RowKit Go.Sort

theorem hset_same2 : ∀ {hp : List (Nat × Blk)} {id : Nat} {b : Blk}, hget hp id = some b → hset hp id b = hp
  | [], _, _, h => by simp [hget] at h
  | (k, c) :: r, id, b, h => by
    simp only [hget] at h
    simp only [hset]
    split at h
    · rename_i e; subst e; cases h; simp
    · rename_i e; rw [if_neg e, hset_same2 h]
theorem flat_encI2 (xs : List Int) : xs.flatMap encI = xs.map (Value.int .i64) := by
  induction xs with
  | nil => rfl
  | cons x xs ih => simp only [List.flatMap_cons, List.map_cons, ih]; rfl
theorem cells_of_own2 {w : World} {g n c : Nat} {ty : TypeId} {xs : List Int} (h : OwnS encI 1 ty w g (.slice (some ⟨g, 0, none⟩) n c) xs) : ∃ arr, w.heap[g]? = some (.cells arr ty (0, 0)) ∧ ∀ m X, (Blk.row ty 1 (xs.map datI)).cellsOk m X w arr c := by
  rcases h.2 with ⟨hv, _⟩ | ⟨g', cap, cur, hv, hb, hh, hc, hm, hs, ht⟩
  · cases hv
  · cases hv
    refine ⟨cur, hh, fun m X => ⟨hs, by simpa using hc, hm, fun e he => ?_, fun k e j d u he hd hu => ?_⟩⟩
    · obtain ⟨x, _, rfl⟩ := List.mem_map.1 he; rfl
    · rw [List.getElem?_map] at he
      cases hk : xs[k]? with
      | none => rw [hk] at he; cases he
      | some x =>
        rw [hk] at he
        cases he
        cases j with
        | succ j => simp [datI] at hd
        | zero =>
          simp [datI] at hd
          subst hd
          have hklt := (List.getElem?_eq_some_iff.1 hk).1
          have h1 : (xs.flatMap encI)[k]? = some (.int .i64 x) := by rw [flat_encI2, List.getElem?_map, hk]; rfl
          rw [← ht, List.getElem?_take_of_lt (by omega)] at h1
          have h2 : cur[k]? = some u := by simpa using hu
          have h3 : cur[k]? = some (.int .i64 x) := by simpa using h1
          rw [h3] at h2
          cases h2
          exact .int _ _
theorem po_rewriteF {P : Program} {o : Oper} {s : AS} {K : AS → Prop} {f x y : Operand} {ts : Array TypeId} {fid gid : FuncId} {id bid n : Nat} {ty bty : TypeId} {d : D} {xs ys : List Int} (ho : o.op = .call { callee := .value f, args := #[x, y], argTypes := ts }) (hf : s.get f = .fn fid []) (hx : s.get x = .row id n) (hyv : s.get y = .fn gid [.bptr bid 0]) (hg : hget s.hp id = some (.row ty 1 (xs.map datI))) (hgb : hget s.hp bid = some (.box bty [.d d])) (hn : n = xs.length) (hent : Enters P fid) (hy : ys.length = xs.length)
    (hc : ∀ (w : World) (g c : Nat) (cb : Value), OwnS encI 1 ty w g (.slice (some ⟨g, 0, none⟩) n c) xs → R (fun _ => none) (fun k => k = g) w (.eptr [d]) cb → Calls P fid #[.slice (some ⟨g, 0, none⟩) n c, .func (.func gid) #[] #[cb]] w fun e w' => e = .returned (.tuple #[]) ∧ OwnS encI 1 ty w' g (.slice (some ⟨g, 0, none⟩) n c) ys ∧ w.grownBy w' (some g) ∧ w.drawn ≤ w'.drawn)
    (hc0 : ∀ (w : World) (fv : Value), Calls P fid #[.slice none 0 0, fv] w fun e w' => e = .returned (.tuple #[]) ∧ w' = w)
    (hK : K (AS.put ⟨s.fr, hset s.hp id (.row ty 1 (ys.map datI)), s.nx⟩ o.dst (.tup []))) : PO P o s K := by
  intro X0 w0 m a w Q hs
  obtain ⟨fn, e1, e2, e3⟩ := hent
  have hfv := hs.get f
  rw [hf] at hfv
  have hfe : a.eval f = .func (.func fid) #[] #[] := by
    generalize a.eval f = v at hfv
    cases hfv with
    | fn _ _ vs hl h => have : vs = #[] := Array.eq_empty_of_size_eq_zero hl; subst this; rfl
  have hrun : (execOp a.eval o).run P w = .ok (.enter fid #[a.eval x, a.eval y]) w := by
    have e2' : ¬ fn.name = "runtime.NumGoroutine" := by simpa using e2
    have e3' : ¬ fn.body = none := fun h => by rw [h] at e3; cases e3
    simp [execOp, ho, resolve, hfe, Deferred.ofValue, invoke, callFunc, e1]
    rw [if_neg e2', if_neg e3']
  unfold Oper.wp
  rw [hrun]
  simp only [Oper.upon_enter]
  have h1 := hs.get x
  rw [hx] at h1
  have h2 := hs.get y
  rw [hyv] at h2
  have htup : ∀ m' X' (w' : World), R m' X' w' (.tup []) (.tuple #[]) := fun m' X' w' => .tup _ _ rfl fun i x v h => by simp at h
  rcases h1.row_inv with ⟨q1, q2, q3⟩ | ⟨b, c, q1, q2, q3⟩
  · rw [q3]
    refine (hc0 w _).mono ?_
    rintro e w' ⟨rfl, rfl⟩
    have hx0 : xs = [] := List.eq_nil_of_length_eq_zero (by omega)
    have hy0 : ys = [] := List.eq_nil_of_length_eq_zero (by omega)
    subst hx0 hy0
    rw [hset_same2 hg] at hK
    exact ⟨m, _, hK, hs.put (htup _ _ _) o.dst⟩
  · rw [q3]
    obtain ⟨arr, hh, hok⟩ := hs.blk hg q1
    have hown : OwnS encI 1 ty w b (.slice (some ⟨b, 0, none⟩) n c) xs := by
      have hrr : RR (Owned X0 m s.hp) b w (.row ty 1 (xs.map datI)) (.slice (some ⟨b, 0, none⟩) (xs.map datI).length c) _ := .row ty 1 _ b c arr (Nat.le_refl _) hh ⟨hok.1, hok.2.1, hok.2.2.1, hok.2.2.2.1, hok.2.2.2.2⟩
      have := own_of_rr datI_ok hrr
      rwa [List.length_map, ← hn] at this
    have hbe := hs.owns hg q1
    have hOb : Owned X0 m s.hp b := .inr ⟨id, _, hg, c, q1⟩
    obtain ⟨cb, hcbe, hcb⟩ : ∃ cb, a.eval y = .func (.func gid) #[] #[cb] ∧ R (fun _ => none) (fun k => k = b) w (.eptr [d]) cb := by
      generalize a.eval y = v at h2
      cases h2 with
      | fn _ _ vs hl h =>
        have hl1 : vs.size = 1 := hl
        have h3 := h 0 _ vs[0] rfl (by simp [hl1])
        have hvs : vs = #[vs[0]] := by
          apply Array.ext
          · simpa using hl1
          · intro i hi hi'
            have : i = 0 := by simp at hi'; omega
            subst this
            rfl
        refine ⟨vs[0], by rw [← hvs], ?_⟩
        generalize vs[0] = u at h3
        cases h3 with
        | bptr _ _ bb cc hm =>
          obtain ⟨arr2, hh2, hok2⟩ := hs.blk hgb hm
          have hne : bb ≠ b := fun e => by
            subst e
            have := hs.inj bid id _ _ bb hgb hg ⟨cc, hm⟩ ⟨c, q1⟩
            subst this
            rw [hg] at hgb
            cases hgb
          refine .eptr _ _ _ fun j d' hd' => ⟨hne, ?_⟩
          match j with
          | j + 1 => simp at hd'
          | 0 =>
            simp only [List.getElem?_cons_zero, Option.some.injEq] at hd'
            subst hd'
            have hsz : 0 < arr2.size := by rw [hok2.1]; simp
            have h5 := (hok2.2 0 _ arr2[0] rfl (by simp [hsz])).1
            refine ⟨arr2[0], by simp [World.cell?, hh2, hsz], ?_⟩
            cases h5 with
            | d _ _ h6 => exact h6.mono fun k _ hk => ⟨rfl, fun e => hk (e ▸ hOb)⟩
    rw [hcbe]
    refine (hc w b c cb hown hcb).mono ?_
    rintro e w' ⟨rfl, ho', hgr, hdr⟩
    obtain ⟨arr', hh', hok'⟩ := cells_of_own2 ho'
    refine ⟨upd m id (.blk b c), _, hK, Sim.put ?_ (htup _ _ _) o.dst⟩
    refine hs.change (i := id) (blk' := .row ty 1 (ys.map datI)) (l' := .blk b c) (fun k => k = b) (.inr q1) (by rw [hget_hset]; simp [hg]) rfl (fun id' hne blk hb' => by rw [hget_hset, if_neg hne] at hb'; exact hb') (fun id' q ty' sz' es2 hd => ?_) (Nat.le_refl _) (hs.lt_nx q1) ⟨hgr.os, hgr.tape, hgr.output, hgr.size, fun k hk hnc => hgr.block k (Nat.lt_of_lt_of_le hk hs.below.size) (fun e => by cases e; rcases hbe.1 with h | h; omega; exact hnc h), hdr⟩ (fun k hk hne => hgr.block k hk (fun e => by cases e; exact hne rfl)) ?_ ?_ ?_
    · have hne : id' ≠ id := fun e => by subst e; rw [hg] at hd; cases hd
      exact ⟨hne, by rw [hget_hset, if_neg hne]⟩
    · rintro k rfl
      exact ⟨id, _, hg, ⟨c, q1⟩, .inl rfl⟩
    · intro b' c' e
      cases e
      exact ⟨hbe.1, Nat.lt_of_lt_of_le hbe.2 hgr.size, .inr rfl⟩
    · intro _
      exact ⟨arr', hh', hok' _ _⟩
theorem Res.oneB {X : Nat → Prop} {w : World} {r : RV} {e : Ending} {w' : World} (h : Res X w [r] e w') : ∃ Y v g, e = .returned v ∧ RR Y w.heap.size w' r v g ∧ Bel w.heap.size w w' := by
  obtain ⟨vs, gs, h1, h2, h3, _, h5⟩ := h
  have h1' : vs.size = 1 := h2
  exact ⟨_, vs[0], gs 0, by rw [h1]; simp only [retV, h1', dif_pos], h5 0 r vs[0] rfl (by simp [h1']), h3⟩
/-- slices.SortFunc of a row of places of a list, by a comparison that parts them -/
theorem sortf_calls {L : Nat} (h0 : 0 < L) (cf : Fin L → Fin L → Int) (hO : SWO (ltOf cf)) (hT : ∀ x y, ltOf cf x y = false → ltOf cf y x = false → x = y) (gid : Nat) (d : D)
    (hcmp : ∀ x y : Fin L, FnEq Try.prog gid [.d (.int .i64 (x.val : Int)), .d (.int .i64 (y.val : Int)), .eptr [d]] [.d (.int .i64 (cf x y))])
    (zs : List (Fin L)) (hl : zs.length ≤ 16777216) (w : World) (b c : Nat) (cb : Value)
    (how : OwnS encI 1 3 w b (.slice (some ⟨b, 0, none⟩) zs.length c) (zs.map fun i => (i.val : Int))) (hcb : R (fun _ => none) (fun k => k = b) w (.eptr [d]) cb) :
    Calls Try.prog 106 #[.slice (some ⟨b, 0, none⟩) zs.length c, .func (.func gid) #[] #[cb]] w fun e w' => e = .returned (.tuple #[]) ∧ OwnS encI 1 3 w' b (.slice (some ⟨b, 0, none⟩) zs.length c) ((zs.mergeSort fun x y => !(ltOf cf) y x).map fun i => (i.val : Int)) ∧ w.grownBy w' (some b) ∧ w.drawn ≤ w'.drawn := by
  haveI : Inhabited (Fin L) := ⟨⟨0, h0⟩⟩
  let enc : Fin L → Value := fun i => .int .i64 (i.val : Int)
  have hmap : ∀ ys : List (Fin L), (ys.map fun i => (i.val : Int)).map (Value.int .i64) = ys.map enc := fun ys => by rw [List.map_map]; rfl
  have h' : w.ownsRow b 3 1 (.slice (some ⟨b, 0, none⟩) zs.length c) zs.length (zs.map enc) := by
    have := how
    unfold OwnS at this
    rwa [flat_encI2, hmap, List.length_map] at this
  obtain ⟨g', cap', hv', _, hlt, _, _, _, hH⟩ := Go.Lib.holds_of_ownsRow h' (by simp)
  cases hv'
  have eg : ∀ args w, (callFunc gid args).run Try.prog w = .ok (.enter gid args) w := by
    intro args w
    obtain ⟨fn, e1, e2, e3⟩ := (hcmp ⟨0, h0⟩ ⟨0, h0⟩).1
    have e2' : ¬ fn.name = "runtime.NumGoroutine" := by simpa using e2
    have e3' : ¬ fn.body = none := fun h => by rw [h] at e3; cases e3
    simp [callFunc, e1]
    rw [if_neg e2', if_neg e3']
  have hcl : CmpLays1 Try.prog gid #[cb] enc cf b 0 zs.toArray.size w := by
    intro m os dk _ x y
    have hsz : w.heap.size ≤ (sortWorld enc w b 0 m dk os).heap.size := by simp [sortWorld, grow, putRow, mapBlock, Sort.ahead]
    have hst : Stay w (sortWorld enc w b 0 m dk os) (fun k => k = b) (fun k => k = b) := fun k hk hne => ⟨by
      unfold sortWorld
      rw [heap_grow_old _ _ (by simpa [putRow, mapBlock, Sort.ahead] using hk)]
      simp [putRow, mapBlock, Sort.ahead, Array.getElem?_modify, Ne.symm hne], hne⟩
    have hcb' := hcb.mono (fun _ _ h => h) hst
    refine ((hcmp x y).2 _ (fun k => k = b) #[enc x, enc y, cb] (by rintro k rfl; omega) rfl (args3 (.d _ _ (.int _ _)) (.d _ _ (.int _ _)) hcb')).mono ?_
    rintro e w' ⟨rs, rfl, hr⟩
    obtain ⟨Y, v, g, rfl, h1, h2⟩ := hr.oneB
    obtain ⟨q, os', hq⟩ := h2.grown
    exact ⟨by rw [rr_int h1], q, os', hq⟩
  have key := Any.slices_SortFunc_total Try.sortF enc (fun _ => rfl) cf hO gid #[cb] b 0 c zs.toArray w eg hcl hH hlt (by simp; omega) hT
  have hsz : zs.toArray.size = zs.length := by simp
  rw [hsz] at key
  refine Calls.mono key ?_
  rintro e w' ⟨he, n, os, hw⟩
  subst hw
  have hlen : (zs.toArray.toList.mergeSort fun x y => !(ltOf cf) y x).length = zs.length := by rw [List.length_mergeSort]
  refine ⟨he, ?_, ⟨rfl, rfl, rfl, by simp [sortWorld, grow, putRow, mapBlock, Sort.ahead], fun k hk hne => ?_⟩, Nat.le_add_right _ _⟩
  · have h1 := Go.Lib.ownsRow_putRow (q := n) (k := zs.length) h' hlen (Nat.le_refl _)
    rw [List.take_of_length_le (by omega)] at h1
    have hgb : ∀ W : World, Go.RowKit.Below W.heap.size W (Go.Sort.grow W os) := fun W => ⟨rfl, rfl, rfl, by simp [Go.Sort.grow], fun k hk => by simp [Go.Sort.grow, Array.getElem?_append_left hk]⟩
    have h2 : OwnS encI 1 3 (putRow enc (Sort.ahead w n) b 0 (zs.toArray.toList.mergeSort fun x y => !(ltOf cf) y x).toArray) b (.slice (some ⟨b, 0, none⟩) zs.length c) ((zs.mergeSort fun x y => !(ltOf cf) y x).map fun i => (i.val : Int)) := by
      unfold OwnS
      rw [flat_encI2, hmap, List.length_map, List.length_mergeSort]
      exact h1
    exact h2.ext (hgb _)
  · unfold sortWorld
    rw [heap_grow_old _ _ (by simpa [putRow, mapBlock, Sort.ahead] using hk)]
    have : b ≠ k := fun e => hne (by rw [e])
    simp [putRow, mapBlock, Sort.ahead, Array.getElem?_modify, this]
theorem sortf_none (p : Option Addr) (cap : Nat) (fv : Value) (w : World) : Calls Try.prog 106 #[.slice p 0 cap, fv] w fun e w' => e = .returned (.tuple #[]) ∧ w' = w :=
  AnyF.slices_SortFunc_none { Try.sortF with } p cap fv w
end Go.Proofs.Ytnjmnehnpjldpaa
