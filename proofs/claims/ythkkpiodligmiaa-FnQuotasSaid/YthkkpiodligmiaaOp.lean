/-
  The abstract machine: slices.SortFunc on a row of places, with a closure that has captured one variable.
-/
import Derived.Test.YthkkpiodligmiaaSfs
import Derived.Test.YthkkpiodligmiaaBr
import Derived.Lib.OwnBridge
import Derived.Test.YthkkpiodligmiaaOo
import Derived.Test.YthkkpiodligmiaaInd
set_option linter.unusedSimpArgs false
set_option linter.unusedVariables false
set_option maxHeartbeats 2000000
set_option maxRecDepth 100000
namespace Go.Proofs.Ythkkpiodligmiaa
open Go.RowKit Go.Sort

theorem hset_same2 : ∀ {hp : List (Nat × Blk)} {id : Nat} {b : Blk}, hget hp id = some b → hset hp id b = hp
  | [], _, _, h => by simp [hget] at h
  | (k, c) :: r, id, b, h => by
    simp only [hget] at h
    simp only [hset]
    split at h
    · rename_i e; subst e; cases h; simp
    · rename_i e; rw [if_neg e, hset_same2 h]
theorem flat_encI2 (xs : List Int) : xs.flatMap encI = xs.map (Value.int .i64) := by
  induction xs with
  | nil => rfl
  | cons x xs ih => simp only [List.flatMap_cons, List.map_cons, ih]; rfl
theorem cells_of_own2 {w : World} {g n c : Nat} {ty : TypeId} {xs : List Int} (h : OwnS encI 1 ty w g (.slice (some ⟨g, 0, none⟩) n c) xs) : ∃ arr, w.heap[g]? = some (.cells arr ty (0, 0)) ∧ ∀ m X, (Blk.row ty 1 (xs.map datI)).cellsOk m X w arr c := by
  rcases h.2 with ⟨hv, _⟩ | ⟨g', cap, cur, hv, hb, hh, hc, hm, hs, ht⟩
  · cases hv
  · cases hv
    refine ⟨cur, hh, fun m X => ⟨hs, by simpa using hc, hm, fun e he => ?_, fun k e j d u he hd hu => ?_⟩⟩
    · obtain ⟨x, _, rfl⟩ := List.mem_map.1 he; rfl
    · rw [List.getElem?_map] at he
      cases hk : xs[k]? with
      | none => rw [hk] at he; cases he
      | some x =>
        rw [hk] at he
        cases he
        cases j with
        | succ j => simp [datI] at hd
        | zero =>
          simp [datI] at hd
          subst hd
          have hklt := (List.getElem?_eq_some_iff.1 hk).1
          have h1 : (xs.flatMap encI)[k]? = some (.int .i64 x) := by rw [flat_encI2, List.getElem?_map, hk]; rfl
          rw [← ht, List.getElem?_take_of_lt (by omega)] at h1
          have h2 : cur[k]? = some u := by simpa using hu
          have h3 : cur[k]? = some (.int .i64 x) := by simpa using h1
          rw [h3] at h2
          cases h2
          exact .int _ _
theorem po_rewriteF {P : Program} {o : Oper} {s : AS} {K : AS → Prop} {f x y : Operand} {ts : Array TypeId} {fid gid : FuncId} {id bid n : Nat} {ty bty : TypeId} {d : D} {xs ys : List Int} (ho : o.op = .call { callee := .value f, args := #[x, y], argTypes := ts }) (hf : s.get f = .fn fid []) (hx : s.get x = .row id n) (hyv : s.get y = .fn gid [.bptr bid 0]) (hg : hget s.hp id = some (.row ty 1 (xs.map datI))) (hgb : hget s.hp bid = some (.box bty [.d d])) (hn : n = xs.length) (hent : Enters P fid) (hy : ys.length = xs.length)
    (hc : ∀ (w : World) (g c : Nat) (cb : Value), OwnS encI 1 ty w g (.slice (some ⟨g, 0, none⟩) n c) xs → R (fun _ => none) (fun k => k = g) w (.eptr [d]) cb → Calls P fid #[.slice (some ⟨g, 0, none⟩) n c, .func (.func gid) #[] #[cb]] w fun e w' => e = .returned (.tuple #[]) ∧ OwnS encI 1 ty w' g (.slice (some ⟨g, 0, none⟩) n c) ys ∧ w.grownBy w' (some g) ∧ w.drawn ≤ w'.drawn)
    (hc0 : ∀ (w : World) (fv : Value), Calls P fid #[.slice none 0 0, fv] w fun e w' => e = .returned (.tuple #[]) ∧ w' = w)
    (hK : K (AS.put ⟨s.fr, hset s.hp id (.row ty 1 (ys.map datI)), s.nx⟩ o.dst (.tup []))) : PO P o s K := by
  intro X0 w0 m a w Q hs
  obtain ⟨fn, e1, e2, e3⟩ := hent
  have hfv := hs.get f
  rw [hf] at hfv
  have hfe : a.eval f = .func (.func fid) #[] #[] := by
    generalize a.eval f = v at hfv
    cases hfv with
    | fn _ _ vs hl h => have : vs = #[] := Array.eq_empty_of_size_eq_zero hl; subst this; rfl
  have hrun : (execOp a.eval o).run P w = .ok (.enter fid #[a.eval x, a.eval y]) w := by
    have e2' : ¬ fn.name = "runtime.NumGoroutine" := by simpa using e2
    have e3' : ¬ fn.body = none := fun h => by rw [h] at e3; cases e3
    simp [execOp, ho, resolve, hfe, Deferred.ofValue, invoke, callFunc, e1]
    rw [if_neg e2', if_neg e3']
  unfold Oper.wp
  rw [hrun]
  simp only [Oper.upon_enter]
  have h1 := hs.get x
  rw [hx] at h1
  have h2 := hs.get y
  rw [hyv] at h2
  have htup : ∀ m' X' (w' : World), R m' X' w' (.tup []) (.tuple #[]) := fun m' X' w' => .tup _ _ rfl fun i x v h => by simp at h
  rcases h1.row_inv with ⟨q1, q2, q3⟩ | ⟨b, c, q1, q2, q3⟩
  · rw [q3]
    refine (hc0 w _).mono ?_
    rintro e w' ⟨rfl, rfl⟩
    have hx0 : xs = [] := List.eq_nil_of_length_eq_zero (by omega)
    have hy0 : ys = [] := List.eq_nil_of_length_eq_zero (by omega)
    subst hx0 hy0
    rw [hset_same2 hg] at hK
    exact ⟨m, _, hK, hs.put (htup _ _ _) o.dst⟩
  · rw [q3]
    obtain ⟨arr, hh, hok⟩ := hs.blk hg q1
    have hown : OwnS encI 1 ty w b (.slice (some ⟨b, 0, none⟩) n c) xs := by
      have hrr : RR (Owned X0 m s.hp) b w (.row ty 1 (xs.map datI)) (.slice (some ⟨b, 0, none⟩) (xs.map datI).length c) _ := .row ty 1 _ b c arr (Nat.le_refl _) hh ⟨hok.1, hok.2.1, hok.2.2.1, hok.2.2.2.1, hok.2.2.2.2⟩
      have := own_of_rr datI_ok hrr
      rwa [List.length_map, ← hn] at this
    have hbe := hs.owns hg q1
    have hOb : Owned X0 m s.hp b := .inr ⟨id, _, hg, c, q1⟩
    obtain ⟨cb, hcbe, hcb⟩ : ∃ cb, a.eval y = .func (.func gid) #[] #[cb] ∧ R (fun _ => none) (fun k => k = b) w (.eptr [d]) cb := by
      generalize a.eval y = v at h2
      cases h2 with
      | fn _ _ vs hl h =>
        have hl1 : vs.size = 1 := hl
        have h3 := h 0 _ vs[0] rfl (by simp [hl1])
        have hvs : vs = #[vs[0]] := by
          apply Array.ext
          · simpa using hl1
          · intro i hi hi'
            have : i = 0 := by simp at hi'; omega
            subst this
            rfl
        refine ⟨vs[0], by rw [← hvs], ?_⟩
        generalize vs[0] = u at h3
        cases h3 with
        | bptr _ _ bb cc hm =>
          obtain ⟨arr2, hh2, hok2⟩ := hs.blk hgb hm
          have hne : bb ≠ b := fun e => by
            subst e
            have := hs.inj bid id _ _ bb hgb hg ⟨cc, hm⟩ ⟨c, q1⟩
            subst this
            rw [hg] at hgb
            cases hgb
          refine .eptr _ _ _ fun j d' hd' => ⟨hne, ?_⟩
          match j with
          | j + 1 => simp at hd'
          | 0 =>
            simp only [List.getElem?_cons_zero, Option.some.injEq] at hd'
            subst hd'
            have hsz : 0 < arr2.size := by rw [hok2.1]; simp
            have h5 := (hok2.2 0 _ arr2[0] rfl (by simp [hsz])).1
            refine ⟨arr2[0], by simp [World.cell?, hh2, hsz], ?_⟩
            cases h5 with
            | d _ _ h6 => exact h6.mono fun k _ hk => ⟨rfl, fun e => hk (e ▸ hOb)⟩
    rw [hcbe]
    refine (hc w b c cb hown hcb).mono ?_
    rintro e w' ⟨rfl, ho', hgr, hdr⟩
    obtain ⟨arr', hh', hok'⟩ := cells_of_own2 ho'
    refine ⟨upd m id (.blk b c), _, hK, Sim.put ?_ (htup _ _ _) o.dst⟩
    refine hs.change (i := id) (blk' := .row ty 1 (ys.map datI)) (l' := .blk b c) (fun k => k = b) (.inr q1) (by rw [hget_hset]; simp [hg]) rfl (fun id' hne blk hb' => by rw [hget_hset, if_neg hne] at hb'; exact hb') (fun id' q ty' sz' es2 hd => ?_) (Nat.le_refl _) (hs.lt_nx q1) ⟨hgr.os, hgr.tape, hgr.output, hgr.size, fun k hk hnc => hgr.block k (Nat.lt_of_lt_of_le hk hs.below.size) (fun e => by cases e; rcases hbe.1 with h | h; omega; exact hnc h), hdr⟩ (fun k hk hne => hgr.block k hk (fun e => by cases e; exact hne rfl)) ?_ ?_ ?_
    · have hne : id' ≠ id := fun e => by subst e; rw [hg] at hd; cases hd
      exact ⟨hne, by rw [hget_hset, if_neg hne]⟩
    · rintro k rfl
      exact ⟨id, _, hg, ⟨c, q1⟩, .inl rfl⟩
    · intro b' c' e
      cases e
      exact ⟨hbe.1, Nat.lt_of_lt_of_le hbe.2 hgr.size, .inr rfl⟩
    · intro _
      exact ⟨arr', hh', hok' _ _⟩
theorem Res.oneB {X : Nat → Prop} {w : World} {r : RV} {e : Ending} {w' : World} (h : Res X w [r] e w') : ∃ Y v g, e = .returned v ∧ RR Y w.heap.size w' r v g ∧ Bel w.heap.size w w' := by
  obtain ⟨vs, gs, h1, h2, h3, _, h5⟩ := h
  have h1' : vs.size = 1 := h2
  exact ⟨_, vs[0], gs 0, by rw [h1]; simp only [retV, h1', dif_pos], h5 0 r vs[0] rfl (by simp [h1']), h3⟩
/-- slices.SortFunc of a row of places of a list, by a comparison that parts them -/
theorem sortf_calls {L : Nat} (h0 : 0 < L) (cf : Fin L → Fin L → Int) (hO : SWO (ltOf cf)) (hT : ∀ x y, ltOf cf x y = false → ltOf cf y x = false → x = y) (gid : Nat) (d : D)
    (hcmp : ∀ x y : Fin L, FnEq Try.prog gid [.d (.int .i64 (x.val : Int)), .d (.int .i64 (y.val : Int)), .eptr [d]] [.d (.int .i64 (cf x y))])
    (zs : List (Fin L)) (hl : zs.length ≤ 16777216) (w : World) (b c : Nat) (cb : Value)
    (how : OwnS encI 1 3 w b (.slice (some ⟨b, 0, none⟩) zs.length c) (zs.map fun i => (i.val : Int))) (hcb : R (fun _ => none) (fun k => k = b) w (.eptr [d]) cb) :
    Calls Try.prog 130 #[.slice (some ⟨b, 0, none⟩) zs.length c, .func (.func gid) #[] #[cb]] w fun e w' => e = .returned (.tuple #[]) ∧ OwnS encI 1 3 w' b (.slice (some ⟨b, 0, none⟩) zs.length c) ((zs.mergeSort fun x y => !(ltOf cf) y x).map fun i => (i.val : Int)) ∧ w.grownBy w' (some b) ∧ w.drawn ≤ w'.drawn := by
  haveI : Inhabited (Fin L) := ⟨⟨0, h0⟩⟩
  let enc : Fin L → Value := fun i => .int .i64 (i.val : Int)
  have hmap : ∀ ys : List (Fin L), (ys.map fun i => (i.val : Int)).map (Value.int .i64) = ys.map enc := fun ys => by rw [List.map_map]; rfl
  have h' : w.ownsRow b 3 1 (.slice (some ⟨b, 0, none⟩) zs.length c) zs.length (zs.map enc) := by
    have := how
    unfold OwnS at this
    rwa [flat_encI2, hmap, List.length_map] at this
  obtain ⟨g', cap', hv', _, hlt, _, _, _, hH⟩ := Go.Lib.holds_of_ownsRow h' (by simp)
  cases hv'
  have eg : ∀ args w, (callFunc gid args).run Try.prog w = .ok (.enter gid args) w := by
    intro args w
    obtain ⟨fn, e1, e2, e3⟩ := (hcmp ⟨0, h0⟩ ⟨0, h0⟩).1
    have e2' : ¬ fn.name = "runtime.NumGoroutine" := by simpa using e2
    have e3' : ¬ fn.body = none := fun h => by rw [h] at e3; cases e3
    simp [callFunc, e1]
    rw [if_neg e2', if_neg e3']
  have hcl : CmpLays1 Try.prog gid #[cb] enc cf b 0 zs.toArray.size w := by
    intro m os dk _ x y
    have hsz : w.heap.size ≤ (sortWorld enc w b 0 m dk os).heap.size := by simp [sortWorld, grow, putRow, mapBlock, Sort.ahead]
    have hst : Stay w (sortWorld enc w b 0 m dk os) (fun k => k = b) (fun k => k = b) := fun k hk hne => ⟨by
      unfold sortWorld
      rw [heap_grow_old _ _ (by simpa [putRow, mapBlock, Sort.ahead] using hk)]
      simp [putRow, mapBlock, Sort.ahead, Array.getElem?_modify, Ne.symm hne], hne⟩
    have hcb' := hcb.mono (fun _ _ h => h) hst
    refine ((hcmp x y).2 _ (fun k => k = b) #[enc x, enc y, cb] (by rintro k rfl; omega) rfl (args3 (.d _ _ (.int _ _)) (.d _ _ (.int _ _)) hcb')).mono ?_
    rintro e w' ⟨rs, rfl, hr⟩
    obtain ⟨Y, v, g, rfl, h1, h2⟩ := hr.oneB
    obtain ⟨q, os', hq⟩ := h2.grown
    exact ⟨by rw [rr_int h1], q, os', hq⟩
  have key := Any.slices_SortFunc_total Try.sortF enc (fun _ => rfl) cf hO gid #[cb] b 0 c zs.toArray w eg hcl hH hlt (by simp; omega) hT
  have hsz : zs.toArray.size = zs.length := by simp
  rw [hsz] at key
  refine Calls.mono key ?_
  rintro e w' ⟨he, n, os, hw⟩
  subst hw
  have hlen : (zs.toArray.toList.mergeSort fun x y => !(ltOf cf) y x).length = zs.length := by rw [List.length_mergeSort]
  refine ⟨he, ?_, ⟨rfl, rfl, rfl, by simp [sortWorld, grow, putRow, mapBlock, Sort.ahead], fun k hk hne => ?_⟩, Nat.le_add_right _ _⟩
  · have h1 := Go.Lib.ownsRow_putRow (q := n) (k := zs.length) h' hlen (Nat.le_refl _)
    rw [List.take_of_length_le (by omega)] at h1
    have hgb : ∀ W : World, Go.RowKit.Below W.heap.size W (Go.Sort.grow W os) := fun W => ⟨rfl, rfl, rfl, by simp [Go.Sort.grow], fun k hk => by simp [Go.Sort.grow, Array.getElem?_append_left hk]⟩
    have h2 : OwnS encI 1 3 (putRow enc (Sort.ahead w n) b 0 (zs.toArray.toList.mergeSort fun x y => !(ltOf cf) y x).toArray) b (.slice (some ⟨b, 0, none⟩) zs.length c) ((zs.mergeSort fun x y => !(ltOf cf) y x).map fun i => (i.val : Int)) := by
      unfold OwnS
      rw [flat_encI2, hmap, List.length_map, List.length_mergeSort]
      exact h1
    exact h2.ext (hgb _)
  · unfold sortWorld
    rw [heap_grow_old _ _ (by simpa [putRow, mapBlock, Sort.ahead] using hk)]
    have : b ≠ k := fun e => hne (by rw [e])
    simp [putRow, mapBlock, Sort.ahead, Array.getElem?_modify, this]
theorem sortf_none (p : Option Addr) (cap : Nat) (fv : Value) (w : World) : Calls Try.prog 130 #[.slice p 0 cap, fv] w fun e w' => e = .returned (.tuple #[]) ∧ w' = w :=
  AnyF.slices_SortFunc_none { Try.sortF with } p cap fv w
end Go.Proofs.Ythkkpiodligmiaa
namespace Go.Proofs.Ythkkpiodligmiaa
open Go.RowKit Go.Sort

theorem sgn_bd2 (n : Int) : -1 ≤ sgn n ∧ sgn n ≤ 1 := by unfold sgn; split <;> (try split) <;> omega
theorem cmpS_bd (la lb : List Int) : ∀ n, -1 ≤ cmpS la lb n ∧ cmpS la lb n ≤ 1
  | 0 => by simp [cmpS]
  | n + 1 => by
    unfold cmpS
    split
    · exact cmpS_bd la lb n
    · exact sgn_bd2 _
theorem cmpR_bd (a b : ResultD) : -1 ≤ cmpR a b ∧ cmpR a b ≤ 1 := by
  unfold cmpR
  split
  · split
    · exact cmpS_bd _ _ _
    · exact sgn_bd2 _
  · exact sgn_bd2 _
/-- the closure's own comparison on places -/
def cfF (l : List ResultD) (x y : Fin l.length) : Int := cfR l (x.val : Int) (y.val : Int)
theorem ltF_eq (l : List ResultD) (x y : Fin l.length) : ltOf (cfF l) x y = ltR l (x.val : Int) (y.val : Int) := rfl
theorem inF (l : List ResultD) (x : Fin l.length) : inL l (x.val : Int) := ⟨by omega, by have := x.isLt; omega⟩
theorem ltF_swo {l : List ResultD} (hv : ResultsOk l) : SWO (ltOf (cfF l)) := by
  have hT := ltR_tot hv
  refine ⟨fun x => ?_, fun x y z h1 h2 => hT.trans (inF l x) (inF l y) (inF l z) h1 h2, fun x y z h1 h2 => ?_⟩
  · cases h : ltOf (cfF l) x x with
    | false => rfl
    | true => exact absurd ((hT.asymm (inF l x) (inF l x) h).symm.trans h) (by simp)
  · rw [ltF_eq] at h1 h2 ⊢
    cases h3 : ltR l (x.val : Int) (z.val : Int) with
    | false => rfl
    | true =>
      cases h4 : ltR l (y.val : Int) (x.val : Int) with
      | true => rw [hT.trans (inF l y) (inF l x) (inF l z) h4 h3] at h2; cases h2
      | false => rw [hT.total (inF l x) (inF l y) h1 h4, h2] at h3; cases h3
theorem ltF_one {l : List ResultD} (hv : ResultsOk l) (x y : Fin l.length) (h1 : ltOf (cfF l) x y = false) (h2 : ltOf (cfF l) y x = false) : x = y := by
  have := (ltR_tot hv).total (inF l x) (inF l y) h1 h2
  apply Fin.ext
  omega
theorem fin_lift {L : Nat} : ∀ {xs : List Int}, (∀ x ∈ xs, 0 ≤ x ∧ x < (L : Int)) → ∃ zs : List (Fin L), zs.map (fun i => (i.val : Int)) = xs
  | [], _ => ⟨[], rfl⟩
  | x :: xs, h => by
    obtain ⟨zs, hz⟩ := fin_lift (L := L) (xs := xs) fun y hy => h y (List.mem_cons_of_mem _ hy)
    have hx := h x (by simp)
    refine ⟨⟨x.toNat, by omega⟩ :: zs, ?_⟩
    rw [List.map_cons, hz]
    congr 1
    show ((x.toNat : Nat) : Int) = x
    omega
theorem ordZ_nodup {l : List ResultD} (hv : ResultsOk l) {m : Nat} (hm : m ≤ l.length) : (ordZ l m).Pairwise (· ≠ ·) := by
  have h := ordZ_sorted hv m hm
  refine List.Pairwise.imp_of_mem (fun {a b} ha hb hab e => ?_) h
  subst e
  exact absurd (((ltR_tot hv).asymm (ordZ_in hm a ha) (ordZ_in hm a hb) hab).symm.trans hab) (by simp)
theorem sortF_word {l : List ResultD} (hv : ResultsOk l) {zs : List (Fin l.length)} (hz : zs.map (fun i => (i.val : Int)) = ixN (fun _ => true) l.length) : (zs.mergeSort fun x y => !(ltOf (cfF l)) y x).map (fun i => (i.val : Int)) = ordZ l l.length := by
  have hS := ltF_swo hv
  have hperm := List.mergeSort_perm zs (fun x y => !(ltOf (cfF l)) y x)
  have hpz : ((zs.mergeSort fun x y => !(ltOf (cfF l)) y x).map (fun i => (i.val : Int))).Perm (ixN (fun _ => true) l.length) := by rw [← hz]; exact hperm.map _
  have hsort := List.pairwise_mergeSort (le := fun x y : Fin l.length => !(ltOf (cfF l)) y x) (fun x y z h1 h2 => by
    simp only [Bool.not_eq_true'] at h1 h2 ⊢
    exact hS.ntrans z y x h2 h1) (fun x y => by
    cases h : ltOf (cfF l) y x with
    | false => simp
    | true =>
      cases h2 : ltOf (cfF l) x y with
      | false => simp
      | true => exact absurd ((hS.trans x y x h2 h).symm.trans (hS.irrefl x)) (by simp)) zs
  have hnd : ((zs.mergeSort fun x y => !(ltOf (cfF l)) y x).map (fun i => (i.val : Int))).Pairwise (· ≠ ·) :=
    (hpz.trans (ordZ_perm l l.length).symm).symm.pairwise (ordZ_nodup hv (Nat.le_refl _)) (fun h => Ne.symm h)
  refine ordZ_one hv hpz ?_
  rw [List.pairwise_map] at hnd ⊢
  refine List.Pairwise.imp (fun {a b} h => ?_) (hsort.and hnd)
  obtain ⟨h1, h2⟩ := h
  simp only [Bool.not_eq_true'] at h1
  cases h3 : ltR l (a.val : Int) (b.val : Int) with
  | true => rfl
  | false => exact absurd ((ltR_tot hv).total (inF l a) (inF l b) h3 h1) h2
theorem orderOf2_ok (l : List ResultD) (hv : ResultsOk l) (i k : Nat) (hi : i < l.length) (hk : k < l.length) :
    FnEq Try.prog 131 [.d (.int .i64 (i : Int)), .d (.int .i64 (k : Int)), .eptr [.lst 2 (l.map ResultD.dat)]] [.d (.int .i64 (cfR l (i : Int) (k : Int)))] := by
  refine fn_ok G_ok Try.func131 rfl rfl ?_; simp only [Try.ntmps131, List.length_cons, List.length_nil, Nat.reduceAdd, Nat.reduceSub, enm]
  have h40 := hv.1
  have hx := List.getElem?_eq_getElem hi
  have hz := List.getElem?_eq_getElem hk
  generalize l[i] = x at hx
  generalize l[k] = z at hz
  have hvx := hv.at_ hx
  have hvz := hv.at_ hz
  have hva := hvx.1
  have hvb := hvz.1
  have hle : x.scores.length = z.scores.length := by omega
  have hbd := cmpR_bd x z
  have e : cfR l (i : Int) (k : Int) = if cmpR x z = 0 then x.skater - z.skater else - cmpR x z := by unfold cfR; rw [resAt_of hx, resAt_of hz]
  have hk1 := hva.2.1
  have hk2 := hva.2.2.1
  have hk3 := hvb.2.1
  have hk4 := hvb.2.2.1
  have hlx : i < (l.map ResultD.dat).length := by simpa using hi
  have hlz : k < (l.map ResultD.dat).length := by simpa using hk
  repeat' (first | ((with_reducible first | refine execL_step (fun K' hK' => ?_) | refine quietL_step (fun K' hK' => ?_)); (first | with_reducible refine s_none rfl ?_ | refine s_some2 rfl ?_); simp only [go_sem, List.getElem?_map, hx, hz, Option.map_some, ResultD.dat, hi, hk]) | (with_reducible refine hK' _ ?_; clear hK' K') | (with_reducible refine hK _ ?_; clear hK K; try simp only [go_sem, List.getElem?_map, hx, hz, Option.map_some, ResultD.dat, hi, hk]) | with_reducible (first | refine stp ?_ | refine pw_seq_opsK kl131 G_ok (fun K hK => ?_) | refine pw_ops G_ok (fun K hK => ?_)) | ((with_reducible first | apply CallK.eq | apply CallQ.eqs); (focus (with_reducible first | exact compareResults_ok x z hva hvb hle)); (focus (first | exact rfl | (simp [RV.flat, D.sc, datI]; done))); try simp only [go_sem, List.getElem?_map, hx, hz, Option.map_some, ResultD.dat, hi, hk]) | refine inBlockA_other (by decide) ?_ | (with_reducible refine pw_seq_drawK kl131 G_ok mixed (by kernel_rfl) (fun K hK => ?_)) | (with_reducible refine pw_draw G_ok mixed (by kernel_rfl) ?_) | (with_reducible refine pK_mk (fun hc => ?_) (fun hc => ?_) <;> (try simp only [go_sem, List.getElem?_map, hx, hz, Option.map_some, ResultD.dat, hi, hk]) <;> (try simp at hc) <;> (try (exfalso; omega))) | ((first | refine pw_seq (pw_cond rfl (fun hc => ?_) (fun hc => ?_)) | refine pw_cond rfl (fun hc => ?_) (fun hc => ?_)) <;> (try simp at hc) <;> (try (exfalso; omega))) | with_reducible refine And.intro (by first | omega | (unfold inI; omega) | exact andI_inI _) ?_)
  all_goals first
    | (refine retQ_ret rfl rfl (by simp [rowsOf, lk]) ?_; rw [e, if_pos (by assumption)])
    | (refine retQ_ret rfl rfl (by simp [rowsOf, lk]) ?_; rw [e, if_neg (by assumption), Int.zero_sub])
theorem orderOf1_ok (i : Nat) : FnEq Try.prog 129 [.d (.int .i64 (i : Int))] [.d (.bool true)] := by
  refine fn_ok G_ok Try.func129 rfl rfl ?_; simp only [Try.ntmps129, List.length_cons, List.length_nil, Nat.reduceAdd, Nat.reduceSub, enm]
  repeat' (first | ((with_reducible first | refine execL_step (fun K' hK' => ?_)); (first | with_reducible refine s_none rfl ?_ | refine s_some2 rfl ?_); simp only [go_sem]) | (with_reducible refine hK' _ ?_; clear hK' K') | (with_reducible refine hK _ ?_; clear hK K; try simp only [go_sem]) | with_reducible (first | refine stp ?_ | refine pw_seq_opsK kl129 G_ok (fun K hK => ?_) | refine pw_ops G_ok (fun K hK => ?_)) | refine inBlockA_other (by decide) ?_ | (with_reducible refine pK_mk (fun hc => ?_) (fun hc => ?_) <;> (try simp only [go_sem]) <;> (try simp at hc) <;> (try (exfalso; omega))) | ((first | refine pw_seq (pw_cond rfl (fun hc => ?_) (fun hc => ?_)) | refine pw_cond rfl (fun hc => ?_) (fun hc => ?_)) <;> (try simp at hc) <;> (try (exfalso; omega))) | with_reducible refine And.intro (by first | omega | (unfold inI; omega) | exact andI_inI _) ?_)
  refine retQ_ret rfl rfl (by simp [rowsOf, lk]) ?_; rfl
theorem sortR_calls (l : List ResultD) (hv : ResultsOk l) (w : World) (g c : Nat) (cb : Value) (how : OwnS encI 1 3 w g (.slice (some ⟨g, 0, none⟩) l.length c) (ixN (fun _ => true) l.length)) (hcb : R (fun _ => none) (fun k => k = g) w (.eptr [.lst 2 (l.map ResultD.dat)]) cb) :
    Calls Try.prog 130 #[.slice (some ⟨g, 0, none⟩) l.length c, .func (.func 131) #[] #[cb]] w fun e w' => e = .returned (.tuple #[]) ∧ OwnS encI 1 3 w' g (.slice (some ⟨g, 0, none⟩) l.length c) (ordZ l l.length) ∧ w.grownBy w' (some g) ∧ w.drawn ≤ w'.drawn := by
  by_cases h0 : 0 < l.length
  · obtain ⟨zs, hz⟩ := fin_lift (L := l.length) (xs := ixN (fun _ => true) l.length) fun x hx => mem_ixN.1 hx
    have hzl : zs.length = l.length := by have := congrArg List.length hz; rwa [List.length_map, ixN_all_len] at this
    have key := sortf_calls h0 (cfF l) (ltF_swo hv) (ltF_one hv) 131 (.lst 2 (l.map ResultD.dat)) (fun x y => orderOf2_ok l hv x.val y.val x.isLt y.isLt) zs (by have := hv.1; omega) w g c cb (by rw [hz, hzl]; exact how) hcb
    rw [hzl, sortF_word hv hz] at key
    exact key
  · have e : l = [] := List.eq_nil_of_length_eq_zero (by omega)
    subst e
    refine (sortf_none _ _ _ w).mono fun e w' ⟨he, hw⟩ => ?_
    subst hw
    exact ⟨he, how, ⟨rfl, rfl, rfl, Nat.le_refl _, fun _ _ _ => rfl⟩, Nat.le_refl _⟩
theorem orderOf_ok (l : List ResultD) (hv : ResultsOk l) : FnEq Try.prog 67 [.d (.lst 2 (l.map ResultD.dat))] [.row 3 1 ((ordZ l l.length).map datI)] := by
  refine fn_ok G_ok Try.func67 rfl rfl ?_; simp only [Try.ntmps67, List.length_cons, List.length_nil, Nat.reduceAdd, Nat.reduceSub, enm]
  have h40 := hv.1
  have hil := ixN_all_len l.length
  have hol := ordZ_len l l.length
  repeat' (first | ((with_reducible first | refine execL_step (fun K' hK' => ?_)); (first | with_reducible refine s_none rfl ?_ | refine s_some2 rfl ?_); simp only [go_sem, hil]) | (with_reducible refine hK' _ ?_; clear hK' K') | (with_reducible refine hK _ ?_; clear hK K; try simp only [go_sem, hil]) | with_reducible (first | refine stp ?_ | refine pw_seq_opsK kl67 G_ok (fun K hK => ?_) | refine pw_ops G_ok (fun K hK => ?_)) | ((with_reducible first | apply CallK.eq); (focus (with_reducible first | exact indicesOf_ok l.length _ _ (fun _ => true) (by omega) noCap (fun i _ => orderOf1_ok i))); (focus (first | exact rfl | (simp [RV.flat, D.sc, datI]; done))); try simp only [go_sem, hil]) | refine inBlockA_other (by decide) ?_ | (with_reducible refine pK_mk (fun hc => ?_) (fun hc => ?_) <;> (try simp only [go_sem, hil]) <;> (try simp at hc) <;> (try (exfalso; omega))) | ((first | refine pw_seq (pw_cond rfl (fun hc => ?_) (fun hc => ?_)) | refine pw_cond rfl (fun hc => ?_) (fun hc => ?_)) <;> (try simp at hc) <;> (try (exfalso; omega))) | with_reducible refine And.intro (by first | omega | (unfold inI; omega) | exact andI_inI _) ?_)
  refine CallK.po (po_rewriteF rfl rfl rfl rfl rfl rfl hil.symm ⟨_, Try.func130, rfl, rfl⟩ (hol.trans hil.symm) (fun w g c cb h1 h2 => sortR_calls l hv w g c cb h1 h2) (fun w fv => sortf_none _ _ _ w) ?_)
  repeat' (first | ((with_reducible first | refine execL_step (fun K' hK' => ?_)); (first | with_reducible refine s_none rfl ?_ | refine s_some2 rfl ?_); simp only [go_sem, hol]) | (with_reducible refine hK' _ ?_; clear hK' K') | (with_reducible refine hK _ ?_; clear hK K; try simp only [go_sem, hol]) | with_reducible (first | refine stp ?_ | refine pw_seq_opsK kl67 G_ok (fun K hK => ?_) | refine pw_ops G_ok (fun K hK => ?_)) | refine inBlockA_other (by decide) ?_ | (with_reducible refine pK_mk (fun hc => ?_) (fun hc => ?_) <;> (try simp only [go_sem, hol]) <;> (try simp at hc) <;> (try (exfalso; omega))) | ((first | refine pw_seq (pw_cond rfl (fun hc => ?_) (fun hc => ?_)) | refine pw_cond rfl (fun hc => ?_) (fun hc => ?_)) <;> (try simp at hc) <;> (try (exfalso; omega))) | with_reducible refine And.intro (by first | omega | (unfold inI; omega) | exact andI_inI _) ?_)
  refine retQ_ret rfl (by simp only [hol, retL, ret1, hget, lk, List.length_map, List.length_nil, List.length_append, List.length_take, if_true, if_false, Nat.reduceEqDiff, Nat.reduceBEq, Bool.false_eq_true, Option.some.injEq]; rfl) (by simp [rowsOf, lk]) ?_; rfl
end Go.Proofs.Ythkkpiodligmiaa
