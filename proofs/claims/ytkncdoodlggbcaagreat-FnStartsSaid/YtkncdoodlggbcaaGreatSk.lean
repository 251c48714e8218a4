/-
  The abstract machine: slices.SortFunc on a row of entrants, with a comparison that has captured nothing; slices.Sort on a row of numbers that lies in a row.
-/
import Derived.Test.YtkncdoodlggbcaaGreatSfk
import Derived.Test.YtkncdoodlggbcaaGreatBr
import Derived.Test.YtkncdoodlggbcaaGreatEb
import Derived.Lib.OwnBridge
namespace Go.Proofs.YtkncdoodlggbcaaGreat
open Go.RowKit Go.Sort

theorem hset_same3 : ∀ {hp : List (Nat × Blk)} {id : Nat} {b : Blk}, hget hp id = some b → hset hp id b = hp
  | [], _, _, h => by simp [hget] at h
  | (k, c) :: r, id, b, h => by
    simp only [hget] at h
    simp only [hset]
    split at h
    · rename_i e; subst e; cases h; simp
    · rename_i e; rw [if_neg e, hset_same3 h]
/-- a library function rewrites a row in place; the second argument is a plain function -/
theorem po_rewriteK {P : Program} {o : Oper} {s : AS} {K : AS → Prop} {f x y : Operand} {ts : Array TypeId} {fid gid : FuncId} {id n sz : Nat} {ty : TypeId} {es es' : List (List D)} (ho : o.op = .call { callee := .value f, args := #[x, y], argTypes := ts }) (hf : s.get f = .fn fid []) (hx : s.get x = .row id n) (hyv : s.get y = .fn gid []) (hg : hget s.hp id = some (.row ty sz es)) (hn : n = es.length) (hent : Enters P fid) (hy : es'.length = es.length)
    (hc : ∀ (w : World) (X : Nat → Prop) (g c : Nat) (arr : Array Value), w.heap[g]? = some (.cells arr ty (0, 0)) → (Blk.row ty sz es).cellsOk (fun _ => none) X w arr c → Calls P fid #[.slice (some ⟨g, 0, none⟩) n c, .func (.func gid) #[] #[]] w fun e w' => e = .returned (.tuple #[]) ∧ (∃ arr', w'.heap[g]? = some (.cells arr' ty (0, 0)) ∧ ∀ m' X', (Blk.row ty sz es').cellsOk m' X' w' arr' c) ∧ w.grownBy w' (some g) ∧ w.drawn ≤ w'.drawn)
    (hc0 : ∀ (w : World) (fv : Value), Calls P fid #[.slice none 0 0, fv] w fun e w' => e = .returned (.tuple #[]) ∧ w' = w)
    (hK : K (AS.put ⟨s.fr, hset s.hp id (.row ty sz es'), s.nx⟩ o.dst (.tup []))) : PO P o s K := by
  intro X0 w0 m a w Q hs
  obtain ⟨fn, e1, e2, e3⟩ := hent
  have hfe : ∀ (q : Operand) (g : FuncId), s.get q = .fn g [] → a.eval q = .func (.func g) #[] #[] := by
    intro q g hq
    have hfv := hs.get q
    rw [hq] at hfv
    generalize a.eval q = v at hfv
    cases hfv with
    | fn _ _ vs hl h => have : vs = #[] := Array.eq_empty_of_size_eq_zero hl; subst this; rfl
  have hrun : (execOp a.eval o).run P w = .ok (.enter fid #[a.eval x, a.eval y]) w := by
    have e2' : ¬ fn.name = "runtime.NumGoroutine" := by simpa using e2
    have e3' : ¬ fn.body = none := fun h => by rw [h] at e3; cases e3
    simp [execOp, ho, resolve, hfe f fid hf, Deferred.ofValue, invoke, callFunc, e1]
    rw [if_neg e2', if_neg e3']
  unfold Oper.wp
  rw [hrun]
  simp only [Oper.upon_enter]
  rw [hfe y gid hyv]
  have h1 := hs.get x
  rw [hx] at h1
  have htup : ∀ m' X' (w' : World), R m' X' w' (.tup []) (.tuple #[]) := fun m' X' w' => .tup _ _ rfl fun i x v h => by simp at h
  rcases h1.row_inv with ⟨q1, q2, q3⟩ | ⟨b, c, q1, q2, q3⟩
  · rw [q3]
    refine (hc0 w _).mono ?_
    rintro e w' ⟨rfl, rfl⟩
    have hx0 : es = [] := List.eq_nil_of_length_eq_zero (by omega)
    have hy0 : es' = [] := List.eq_nil_of_length_eq_zero (by omega)
    subst hx0 hy0
    rw [hset_same3 hg] at hK
    exact ⟨m, _, hK, hs.put (htup _ _ _) o.dst⟩
  · rw [q3]
    obtain ⟨arr, hh, hok⟩ := hs.blk hg q1
    have hbe := hs.owns hg q1
    refine (hc w (Owned X0 m s.hp) b c arr hh ⟨hok.1, hok.2.1, hok.2.2.1, hok.2.2.2.1, hok.2.2.2.2⟩).mono ?_
    rintro e w' ⟨rfl, ⟨arr', hh', hok'⟩, hgr, hdr⟩
    refine ⟨upd m id (.blk b c), _, hK, Sim.put ?_ (htup _ _ _) o.dst⟩
    refine hs.change (i := id) (blk' := .row ty sz es') (l' := .blk b c) (fun k => k = b) (.inr q1) (by rw [hget_hset]; simp [hg]) rfl (fun id' hne blk hb' => by rw [hget_hset, if_neg hne] at hb'; exact hb') (fun id' q ty' sz' es2 hd => ?_) (Nat.le_refl _) (hs.lt_nx q1) ⟨hgr.os, hgr.tape, hgr.output, hgr.size, fun k hk hnc => hgr.block k (Nat.lt_of_lt_of_le hk hs.below.size) (fun e => by cases e; rcases hbe.1 with h | h; omega; exact hnc h), hdr⟩ (fun k hk hne => hgr.block k hk (fun e => by cases e; exact hne rfl)) ?_ ?_ ?_
    · have hne : id' ≠ id := fun e => by subst e; rw [hg] at hd; cases hd
      exact ⟨hne, by rw [hget_hset, if_neg hne]⟩
    · rintro k rfl
      exact ⟨id, _, hg, ⟨c, q1⟩, .inl rfl⟩
    · intro b' c' e
      cases e
      exact ⟨hbe.1, Nat.lt_of_lt_of_le hbe.2 hgr.size, .inr rfl⟩
    · intro _
      exact ⟨arr', hh', hok' _ _⟩
theorem Res.oneC {X : Nat → Prop} {w : World} {r : RV} {e : Ending} {w' : World} (h : Res X w [r] e w') : ∃ Y v g, e = .returned v ∧ RR Y w.heap.size w' r v g ∧ Bel w.heap.size w w' := by
  obtain ⟨vs, gs, h1, h2, h3, _, h5⟩ := h
  have h1' : vs.size = 1 := h2
  exact ⟨_, vs[0], gs 0, by rw [h1]; simp only [retV, h1', dif_pos], h5 0 r vs[0] rfl (by simp [h1']), h3⟩
/-- the cells of an entrant -/
def encE (x : EntrantD) : List Value := [.int .i64 x.skater, .int .i64 x.rank]
theorem encE_len (x : EntrantD) : (encE x).length = 2 := rfl
/-- slices.SortFunc of a row of entrants of a list, by a comparison that parts them -/
theorem sortE_calls {l : List EntrantD} (h0 : 0 < l.length) (cf : Fin l.length → Fin l.length → Int) (hO : SWO (ltOf cf)) (hT : ∀ x y, ltOf cf x y = false → ltOf cf y x = false → x = y) (gid : Nat)
    (hcmp : ∀ x y : Fin l.length, FnEq Tryz.prog gid [.agg [.d (.int .i64 l[x].skater), .d (.int .i64 l[x].rank)], .agg [.d (.int .i64 l[y].skater), .d (.int .i64 l[y].rank)]] [.d (.int .i64 (cf x y))])
    (zs : List (Fin l.length)) (hl : zs.length ≤ 16777216) (w : World) (X : Nat → Prop) (b c : Nat) (arr : Array Value) (hh : w.heap[b]? = some (.cells arr 60 (0, 0)))
    (hok : (Blk.row 60 2 ((zs.map fun i => l[i]).map EntrantD.dat)).cellsOk (fun _ => none) X w arr c) :
    Calls Tryz.prog 61 #[.slice (some ⟨b, 0, none⟩) zs.length c, .func (.func gid) #[] #[]] w fun e w' => e = .returned (.tuple #[]) ∧ (∃ arr', w'.heap[b]? = some (.cells arr' 60 (0, 0)) ∧ ∀ m' X', (Blk.row 60 2 (((zs.mergeSort fun x y => !(ltOf cf) y x).map fun i => l[i]).map EntrantD.dat)).cellsOk m' X' w' arr' c) ∧ w.grownBy w' (some b) ∧ w.drawn ≤ w'.drawn := by
  haveI : Inhabited (Fin l.length) := ⟨⟨0, h0⟩⟩
  let enc : Fin l.length → List Value := fun i => encE l[i]
  obtain ⟨k1, k2, k3, k4, k5⟩ := hok
  simp only [List.length_map] at k2
  have hlt : b < w.heap.size := by
    rcases Nat.lt_or_ge b w.heap.size with h | h
    · exact h
    · rw [Array.getElem?_eq_none h] at hh; cases hh
  have hget : ∀ (k : Nat) (i : Fin l.length) (j : Nat), zs[k]? = some i → j < 2 → arr[k * 2 + j]? = some ((enc i)[j]!) := by
    intro k i j hk hj
    have hkz : k < zs.length := (List.getElem?_eq_some_iff.1 hk).1
    have hlt2 : k * 2 + j < arr.size := by rw [k1]; omega
    have hv := Array.getElem?_eq_getElem hlt2
    have he : ((zs.map fun i => l[i]).map EntrantD.dat)[k]? = some (EntrantD.dat l[i]) := by simp [hk]
    have hj2 : j = 0 ∨ j = 1 := by omega
    rcases hj2 with rfl | rfl
    · have := k5 k _ 0 (.int .i64 l[i].skater) _ he rfl hv
      rw [hv]
      generalize arr[k * 2 + 0] = u at this
      cases this
      rfl
    · have := k5 k _ 1 (.int .i64 l[i].rank) _ he rfl hv
      rw [hv]
      generalize arr[k * 2 + 1] = u at this
      cases this
      rfl
  have hH : HoldsK enc 2 w b 0 zs.toArray := by
    intro t ht
    rw [size_flatK] at ht
    have ht' : t < zs.length * 2 := by simpa using ht
    have hk : t / 2 < zs.length := by omega
    have hz := List.getElem?_eq_getElem hk
    have h1 := hget (t / 2) zs[t / 2] (t % 2) hz (by omega)
    rw [show t / 2 * 2 + t % 2 = t by omega] at h1
    have h2 : zs.toArray[t / 2]! = zs[t / 2] := by simp [hk]
    rw [get_flatK enc 2 _ t ht, h2]
    refine ⟨?_, ?_⟩
    · simp only [World.cell?, hh, Nat.zero_add]
      exact h1
    · simp [World.frozen?, hh]
  have eg : ∀ args w, (callFunc gid args).run Tryz.prog w = .ok (.enter gid args) w := by
    intro args w
    obtain ⟨fn, e1, e2, e3⟩ := (hcmp ⟨0, h0⟩ ⟨0, h0⟩).1
    have e2' : ¬ fn.name = "runtime.NumGoroutine" := by simpa using e2
    have e3' : ¬ fn.body = none := fun h => by rw [h] at e3; cases e3
    simp [callFunc, e1]
    rw [if_neg e2', if_neg e3']
  have hagg : ∀ (W : World) (i : Fin l.length), R (fun _ => none) (fun _ => False) W (.agg [.d (.int .i64 l[i].skater), .d (.int .i64 l[i].rank)]) (.agg (enc i).toArray) := fun W i => .agg _ _ rfl fun j x v hx hv => by
    match j with
    | 0 => simp [enc, encE] at hx hv; subst hx hv; exact .d _ _ (.int _ _)
    | 1 => simp [enc, encE] at hx hv; subst hx hv; exact .d _ _ (.int _ _)
    | j + 2 => simp at hx
  have hcl : CmpLays Tryz.prog gid #[] enc 2 cf b 0 zs.toArray.size w := by
    intro m os dk _ x y
    refine ((hcmp x y).2 _ (fun _ => False) #[.agg (enc x).toArray, .agg (enc y).toArray] (fun _ h => h.elim) rfl (args2 (hagg _ x) (hagg _ y))).mono ?_
    rintro e w' ⟨rs, rfl, hr⟩
    obtain ⟨Y, v, g, rfl, h1, h2⟩ := hr.oneC
    obtain ⟨q, os', hq⟩ := h2.grown
    exact ⟨by rw [rr_int h1], q, os', hq⟩
  have key := AnyQ.slices_SortFunc_total Tryz.sortE 2 (fun w => by kernel_rfl) (fun w => by kernel_rfl) enc (fun i => encE_len _) (fun i v hv => by simp [enc, encE] at hv; rcases hv with rfl | rfl <;> rfl) cf hO gid #[] b 0 c zs.toArray w eg hcl hH hlt (by simp; omega) hT
  have hsz : zs.toArray.size = zs.length := by simp
  rw [hsz] at key
  refine Calls.mono key ?_
  rintro e w' ⟨he, n, os, hw⟩
  subst hw
  have hlen : (zs.mergeSort fun x y => !(ltOf cf) y x).length = zs.length := by rw [List.length_mergeSort]
  generalize hys : (zs.mergeSort fun x y => !(ltOf cf) y x) = ys at hlen
  have hheap : (sortWorldK enc 2 w b 0 n ys.toArray os).heap[b]? = some (.cells (putCells id 0 (flatK enc 2 ys.toArray) arr) 60 (0, 0)) := by
    unfold sortWorldK putRowK
    rw [heap_grow_old _ _ (by simpa [putRow, mapBlock, Sort.ahead] using hlt)]
    simp only [putRow, mapBlock, Sort.ahead, Array.getElem?_modify, hh, if_true, Option.map_some, onCells]
  refine ⟨he, ⟨_, hheap, fun m' X' => ⟨by rw [← k1]; simp [putCells], by simp only [List.length_map]; omega, k3, fun e he => ?_, fun k e j d v he hd hv => ?_⟩⟩, ⟨rfl, rfl, rfl, by simp [sortWorldK, grow, putRowK, putRow, mapBlock, Sort.ahead], fun k hk hne => ?_⟩, Nat.le_add_right _ _⟩
  · obtain ⟨x, _, rfl⟩ := List.mem_map.1 he; rfl
  · rw [List.map_map, List.getElem?_map] at he
    cases hi : ys[k]? with
    | none => rw [hi] at he; cases he
    | some i =>
      rw [hi] at he
      have he' : EntrantD.dat l[i] = e := Option.some.inj he
      subst he'
      have hky : k < ys.length := (List.getElem?_eq_some_iff.1 hi).1
      have hj : j < 2 := (List.getElem?_eq_some_iff.1 hd).1
      have hlt3 : k * 2 + j < ys.toArray.size * 2 := by simp; omega
      have hv2 : v = (enc i)[j]! := by
        have hlt4 : k * 2 + j < arr.size := by rw [k1]; omega
        have h3 : (putCells id 0 (flatK enc 2 ys.toArray) arr)[k * 2 + j]? = some ((flatK enc 2 ys.toArray)[k * 2 + j]!) := by
          simp only [putCells, Array.getElem?_mapIdx, Array.getElem?_eq_getElem hlt4, Option.map_some]
          rw [if_pos ⟨Nat.zero_le _, by rw [size_flatK]; omega⟩]
          simp
        rw [h3, get_flatK enc 2 _ _ hlt3] at hv
        have h4 : ys.toArray[(k * 2 + j) / 2]! = i := by
          rw [show (k * 2 + j) / 2 = k by omega]
          simp [hky, (List.getElem?_eq_some_iff.1 hi).2]
        rw [h4, show (k * 2 + j) % 2 = j by omega] at hv
        exact (Option.some.inj hv).symm
      have hj2 : j = 0 ∨ j = 1 := by omega
      rcases hj2 with rfl | rfl
      · simp [EntrantD.dat] at hd; subst hd; rw [hv2]; exact .int _ _
      · simp [EntrantD.dat] at hd; subst hd; rw [hv2]; exact .int _ _
  · unfold sortWorldK putRowK
    rw [heap_grow_old _ _ (by simpa [putRow, mapBlock, Sort.ahead] using hk)]
    have : b ≠ k := fun e => hne (by rw [e])
    simp [putRow, mapBlock, Sort.ahead, Array.getElem?_modify, this]
theorem sortE_none (p : Option Addr) (cap : Nat) (fv : Value) (w : World) : Calls Tryz.prog 61 #[.slice p 0 cap, fv] w fun e w' => e = .returned (.tuple #[]) ∧ w' = w :=
  AnyF.slices_SortFunc_none Tryz.sortE p cap fv w
end Go.Proofs.YtkncdoodlggbcaaGreat
