/-
  A call of a cursor's function with constant nil rows among its arguments. No program is named here.
-/
import Derived.Test.YthocihmhljmgdaaGreatDoorZMc
import Derived.Test.YthocihmhljmgdaaGreatDoorZCn
import Derived.Test.YthocihmhljmgdaaGreatDoorZNu
namespace Go.Proofs.YthocihmhljmgdaaGreatDoor
open Go.RowKit

/-- an operand's place, a constant nil row read as an empty list of z-wide elements -/
def AS.getN (z : Nat) (s : AS) : Operand → PV
  | .const (.slice none 0 0) => .d (.lst z [])
  | y => s.get y
theorem Sim.getN {X0 : Nat → Prop} {w0 : Base} {m : Mp} {s : AS} {a : Act} {w : World} (h : Sim X0 w0 m s a w) (z : Nat) (o : Operand) : R m.loc (Owned X0 m s.hp) w (s.getN z o) (a.eval o) := by
  unfold AS.getN
  split
  · exact .d _ _ (.nil z none 0)
  · exact h.get o
attribute [go_sem] AS.getN
section rules
variable {P : Program} {o : Oper} {s : AS} {K : AS → Prop}
theorem po_callBN (z : Nat) {f x0 : Operand} {ys : List Operand} {args : Array Operand} {argTypes : Array TypeId} {fid : FuncId} {id n : Nat} {q : Option Nat} {ty : TypeId} {cs ds : List D} {Post : List D → List RV → Prop} {st : Bool}
    (ho : o.op = .call { callee := .value f, args := args, argTypes := argTypes }) (hf : s.get f = .fn fid []) (ha : args.toList = x0 :: ys) (hx : s.get x0 = .bptr id 0) (hg : hget s.hp id = some (mkB q ty (cs.map .d))) (hd : frzL s.hp (ys.map (s.getN z)) = some ds)
    (hok : FnC P fid n ds cs Post st)
    (hK : ∀ cs' rs, Post cs' rs → cs'.length = n → K (AS.put ⟨s.fr, hset (hps s.nx rs ++ hdels s.hp (rowIds (ys.map (s.getN z)))) id (mkB q ty (cs'.map .d)), s.nx + (rs.length + n)⟩ o.dst (bPV st s.nx rs))) : PO P o s K := by
  intro X0 w0 m a w Q hs
  obtain ⟨⟨⟨fn, e1, e2, e3⟩, hn⟩, hcall⟩ := hok
  have hfv := hs.get f
  rw [hf] at hfv
  have hfe : a.eval f = .func (.func fid) #[] #[] := by
    generalize a.eval f = v at hfv
    cases hfv with
    | fn _ _ vs hl h => have : vs = #[] := Array.eq_empty_of_size_eq_zero hl; subst this; rfl
  have hxv := hs.get x0
  rw [hx] at hxv
  obtain ⟨b, c, hm, hxe⟩ := hxv.bptr_inv
  have hvals : args.map a.eval = #[.pointer (some ⟨b, 0, none⟩)] ++ (ys.map a.eval).toArray := by
    apply Array.ext'
    rw [Array.toList_map, ha]
    simp [hxe]
  have hrun : (execOp a.eval o).run P w = .ok (.enter fid (args.map a.eval)) w := by
    have e2' : ¬ fn.name = "runtime.NumGoroutine" := by simpa using e2
    have e3' : ¬ fn.body = none := fun h => by rw [h] at e3; cases e3
    simp [execOp, ho, resolve, hfe, Deferred.ofValue, invoke, callFunc, e1]
    rw [if_neg e2', if_neg e3']
  unfold Oper.wp
  rw [hrun]
  simp only [Oper.upon_enter]
  rw [hvals]
  -- the given rows are let go
  let ids := rowIds (ys.map (s.getN z))
  have hidn : id ∉ ids := by
    intro hmem
    obtain ⟨ty', sz', es', h'⟩ := frzL_rows hd id hmem
    rw [h'] at hg
    cases q <;> cases hg
  have hgid : hget (hdels s.hp ids) id = some (mkB q ty (cs.map .d)) := by rw [hget_hdels, if_neg hidn]; exact hg
  have hs0 : Sim X0 w0 m ⟨s.fr, hdels s.hp ids, s.nx⟩ a w := hs.kill (hdels s.hp ids) (fun id blk hb => by rw [hget_hdels] at hb; split at hb; cases hb; exact hb) (fun id par k j ha => by
      rw [hget_hdels] at ha
      split at ha
      · cases ha
      · obtain ⟨q, ty, sz, es, _, _, _, _, _, _, a1, _⟩ := hs.al id par k j ha
        rw [hget_hdels]
        split
        · rename_i hmem
          obtain ⟨ty', sz', es', h'⟩ := frzL_rows hd par hmem
          rw [h'] at a1; cases a1
        · rfl)
  let s0 : AS := ⟨s.fr, hdels s.hp ids, s.nx⟩
  let X := Owned X0 m (hdels s.hp ids)
  have hXlt : ∀ x, X x → x < w.heap.size := fun x hx => hs0.lt_size hx
  have hXb : X b := .inr ⟨id, _, hgid, mkB_has.2 ⟨c, hm⟩⟩
  obtain ⟨arr, hh, hce⟩ := hs0.blk hgid hm (mkB_plain q ty _)
  rw [mkB_ty] at hh
  have hce' := mkB_cells.1 hce
  have hcs : ∀ (j : Nat) (d : D) (v : Value), cs[j]? = some d → arr[j]? = some v → Rd w X d v ∧ v.oneCell' = true := by
    intro j d v hj hv
    have := hce'.2 j (.d d) v (by rw [List.getElem?_map, hj]; rfl) hv
    exact ⟨this.1.rd, this.2⟩
  obtain ⟨f1, f2⟩ := frzL_get hd
  refine (hcall w X b ty arr _ ⟨hs.glob, hs.above (hs0.own id _ b hgid (mkB_has.2 ⟨c, hm⟩)).1⟩ hXlt hXb hh (by rw [hce'.1]; simpa using hn) hcs (by simp [f1]) fun i x v hi hv => ?_).mono ?_
  · have hlt : i < (ys.map (s.getN z)).length := by rw [← f1]; exact (List.getElem?_eq_some_iff.1 hi).1
    have hyl : i < ys.length := by simpa using hlt
    have hv' : v = a.eval ys[i] := by
      simp [hyl] at hv
      exact hv.symm
    subst hv'
    have hyg : (ys.map (s.getN z))[i]? = some (s.getN z ys[i]) := by rw [List.getElem?_map, List.getElem?_eq_getElem hyl]; rfl
    exact frz_R hs (f2 i _ x hyg hi) (fun id' n' hrow => rowIds_mem (n := n') (by rw [← hrow]; exact List.mem_of_getElem? hyg)) (hs.getN z _)
  · rintro e w' ⟨cs', rs, hp, vs, gs, arr', rfl, hvs, hk, hb', ha', hc', hone, hgi, hgl, hrr, hrd⟩
    let blk1 : Blk := mkB q ty (List.replicate n .und)
    have hs1 : Sim X0 w0 (upd m id (.blk b c)) ⟨s.fr, hset (hdels s.hp ids) id blk1, s.nx⟩ a (w.setRow b arr') :=
      hs0.restore hgid hm (blk' := blk1) (by rw [mkB_ty, mkB_ty]) (by rw [mkB_ty]; exact hh) (fun m' X' w'' _ _ => mkB_cells.2 ⟨by simp [ha'], fun j x v hx hv => by
        have : x = .und := List.eq_of_mem_replicate (List.mem_of_getElem? hx)
        subst this
        exact ⟨.und _, hone j v hv⟩⟩) (mkB_plain _ _ _) (mkB_plain _ _ _) (by rw [mkB_pin, mkB_pin])
    have hwsz : (w.setRow b arr').heap.size = w.heap.size := by simp [World.setRow]
    have hbl : Bel (w.setRow b arr').heap.size (w.setRow b arr') w' := by
      refine ⟨⟨hk.os, hk.tape, hk.output, by rw [hwsz]; exact hk.size, fun k hkk => ?_⟩, hk.drawn⟩
      rw [hwsz] at hkk
      by_cases e : k = b
      · subst e; rw [hb', setRow_heap w k arr _ _ _ hh]
      · rw [hk.block k hkk e, setRow_other w b k _ e]
    have hown1 : ∀ x, X x ↔ Owned X0 (upd m id (.blk b c)) (hset (hdels s.hp ids) id blk1) x := by
      intro x
      constructor
      · rintro (h | ⟨id', blk, h1, h2⟩)
        · exact .inl h
        · by_cases e : id' = id
          · subst e
            rw [hgid] at h1
            cases h1
            obtain ⟨c', hc'⟩ := mkB_has.1 h2
            rw [hm] at hc'
            cases hc'
            exact .inr ⟨id', blk1, by rw [hget_hset]; simp [hgid], mkB_has.2 ⟨c, upd_same _ _ _⟩⟩
          · exact .inr ⟨id', blk, by rw [hget_hset, if_neg e]; exact h1, (Blk.has_upd e).2 h2⟩
      · rintro (h | ⟨id', blk, h1, h2⟩)
        · exact .inl h
        · by_cases e : id' = id
          · subst e
            rw [hget_hset] at h1
            simp [hgid] at h1
            subst h1
            obtain ⟨c', hc'⟩ := mkB_has.1 h2
            rw [upd_same] at hc'
            cases hc'
            exact hXb
          · rw [hget_hset, if_neg e] at h1
            exact .inr ⟨id', blk, h1, (Blk.has_upd e).1 h2⟩
    obtain ⟨m', hS, hpv, hmm, hmn⟩ := hs1.takeW (rs := rs ++ cs'.map .d) (vs := vs ++ arr') (gs := gs) (X := X) (by simp [hvs, ha', hc']) hbl hgi (fun i r v hr hv => by
      rw [hwsz]
      by_cases hi : i < rs.length
      · rw [List.getElem?_append_left hi] at hr
        rw [Array.getElem?_append_left (by omega)] at hv
        exact hrr i r v hr hv
      · rw [List.getElem?_append_right (by omega), List.getElem?_map] at hr
        rw [Array.getElem?_append_right (by omega), hvs] at hv
        have hge : gs i = fun _ => False := by
          funext x
          exact propext ⟨fun h => hi (hgl i x h), fun h => h.elim⟩
        rw [hge]
        cases hj : cs'[i - rs.length]? with
        | none => rw [hj] at hr; cases hr
        | some d =>
          rw [hj] at hr
          cases hr
          exact .d _ _ (hrd _ d v hj hv)) (.inl hown1)
    rw [hps_d] at hS hpv
    have hnxid : id < s.nx := hs0.lt_nx hm
    have hgp : hget (hps s.nx rs ++ hset (hdels s.hp ids) id blk1) id = some blk1 := by
      rw [hps_get _ rs s.nx id (fun j hj => hs1.hget_none hj), if_pos hnxid, hget_hset]
      simp [hgid]
    -- the box takes its cells
    have hloc' : m'.loc id = some (.blk b c) := hmm _ _ (upd_same _ _ _)
    let hp2 := hps s.nx rs ++ hset (hdels s.hp ids) id blk1
    let blk2 : Blk := mkB q ty (cs'.map .d)
    have hS1 : Sim X0 w0 m' ⟨s.fr, hp2, s.nx + (rs.length + n)⟩ a w' := by
      have e5 : (rs ++ cs'.map RV.d).length = rs.length + n := by simp [hc']
      rw [e5] at hS
      exact hS
    have hgp2 : hget (hset hp2 id blk2) id = some blk2 := by rw [hget_hset]; simp [hp2, hgp]
    have hS2 : Sim X0 w0 (upd m' id (.blk b c)) ⟨s.fr, hset hp2 id blk2, s.nx + (rs.length + n)⟩ a w' := by
      refine hS1.change (i := id) (blk' := blk2) (l' := .blk b c) (hpin := fun p e => by rw [mkB_pin] at e; rw [← hm]; exact hs0.pin id _ p hgid (by rw [mkB_pin]; exact e)) (fun k => k = b) (.inr hloc') hgp2 (mkB_plain _ _ _) (fun id' hne blk hb' => by rw [hget_hset, if_neg hne] at hb'; exact hb') (fun id' q' ty' sz' es' hd' => ?_) (Nat.le_refl _) (hS1.lt_nx hloc') (KeepB.refl _ _) (fun k _ _ => rfl) ?_ ?_ ?_
      · have hne : id' ≠ id := fun e => by
          subst e
          have hd2 : hget hp2 id' = some (.deep q' ty' sz' es') := hd'
          rw [show hget hp2 id' = some blk1 from hgp] at hd2
          have hpl := mkB_plain q ty (List.replicate n .und)
          rw [show mkB q ty (List.replicate n .und) = .deep q' ty' sz' es' from Option.some.inj hd2] at hpl
          cases hpl
        exact ⟨hne, by rw [hget_hset, if_neg hne]⟩
      · rintro k rfl
        exact ⟨id, blk1, hgp, mkB_has.2 ⟨c, hloc'⟩, .inl rfl⟩
      · intro b' c' e
        cases e
        have := hS1.own id blk1 b hgp (mkB_has.2 ⟨c, hloc'⟩)
        exact ⟨this.1, this.2, .inr rfl⟩
      · intro hst
        refine ⟨arr', by rw [mkB_ty]; exact hb', mkB_cells.2 ⟨by simp [ha', hc'], fun j x v hx hv => ?_⟩⟩
        rw [List.getElem?_map] at hx
        cases hj : cs'[j]? with
        | none => rw [hj] at hx; cases hx
        | some d =>
          rw [hj] at hx
          cases hx
          refine ⟨?_, hone j v hv⟩
          have hjl : j < cs'.length := (List.getElem?_eq_some_iff.1 hj).1
          have := hpv (rs.length + j) (.d d) v (by rw [List.getElem?_append_right (by omega), Nat.add_sub_cancel_left, List.getElem?_map, hj]; rfl) (by rw [Array.getElem?_append_right (by omega), hvs, Nat.add_sub_cancel_left]; exact hv)
          exact this.mono (upd_mono m' _ _ (.inr hloc')) hst
    have hKK := hK cs' rs hp hc'
    have e6 : hset (hps s.nx rs ++ hdels s.hp ids) id blk2 = hset hp2 id blk2 := by
      have h7 : ∀ (l : List (Nat × Blk)) (i : Nat) (x y : Blk), hset (hset l i x) i y = hset l i y := by
        intro l i x y
        induction l with
        | nil => rfl
        | cons p r ih =>
          obtain ⟨k, z⟩ := p
          by_cases hk' : i = k <;> simp [hset, hk', ih]
      show _ = hset (hps s.nx rs ++ hset (hdels s.hp ids) id blk1) id blk2
      rw [hset_hps _ id s.nx blk2 hnxid rs s.nx (Nat.le_refl _), hset_hps _ id s.nx blk2 hnxid rs s.nx (Nat.le_refl _), h7]
    rw [e6] at hKK
    have hstay : Stay w' w' (Owned X0 m' hp2) (Owned X0 (upd m' id (.blk b c)) (hset hp2 id blk2)) := by
      intro x _ hx
      refine ⟨rfl, ?_⟩
      rintro (h | ⟨id', blk, h1, h2⟩)
      · exact hx (.inl h)
      · by_cases e : id' = id
        · subst e
          rw [hgp2] at h1
          cases h1
          obtain ⟨c', hc2⟩ := mkB_has.1 h2
          rw [upd_same] at hc2
          cases hc2
          exact hx (.inr ⟨id', blk1, hgp, mkB_has.2 ⟨c, hloc'⟩⟩)
        · rw [hget_hset, if_neg e] at h1
          exact hx (.inr ⟨id', blk, h1, (Blk.has_upd e).1 h2⟩)
    refine ⟨upd m' id (.blk b c), _, hKK, Sim.put hS2 ?_ o.dst⟩
    have hpvR : ∀ (i : Nat) (r : RV) (v : Value), rs[i]? = some r → vs[i]? = some v → R (upd m' id (.blk b c)).loc (Owned X0 (upd m' id (.blk b c)) (hset hp2 id blk2)) w' (pv1 (s.nx + i) r) v := by
      intro i r v hr hv
      have hi := (List.getElem?_eq_some_iff.1 hr).1
      have := hpv i r v (by rw [List.getElem?_append_left hi]; exact hr) (by rw [Array.getElem?_append_left (by omega)]; exact hv)
      exact this.mono (upd_mono m' _ _ (.inr hloc')) hstay
    have hl : (pvs s.nx rs).length = vs.size := by rw [pvs_len, hvs]
    have htup : R (upd m' id (.blk b c)).loc (Owned X0 (upd m' id (.blk b c)) (hset hp2 id blk2)) w' (.tup (pvs s.nx rs)) (.tuple vs) := by
      refine .tup _ _ hl.symm fun i y u hy hu => ?_
      rw [pvs_get] at hy
      cases hi : rs[i]? with
      | none => rw [hi] at hy; cases hy
      | some r =>
        rw [hi] at hy
        cases hy
        exact hpvR i r u hi hu
    cases st with
    | true =>
      refine .agg _ _ hl.symm fun i y u hy hu => ?_
      rw [pvs_get] at hy
      cases hi : rs[i]? with
      | none => rw [hi] at hy; cases hy
      | some r =>
        rw [hi] at hy
        cases hy
        exact hpvR i r u hi hu
    | false =>
      show R _ _ _ (resPV s.nx rs) (retV vs)
      match rs, hvs, htup, hpvR with
      | [], hvs, htup, _ =>
        have : ¬ vs.size = 1 := by rw [hvs]; simp
        simp only [retV, this, dif_neg, not_false_eq_true]
        exact htup
      | [r], hvs, _, hpvR =>
        have h1' : vs.size = 1 := by rw [hvs]; rfl
        simp only [retV, h1', dif_pos]
        exact hpvR 0 r vs[0] rfl (by simp [h1'])
      | r :: r2 :: rest, hvs, htup, _ =>
        have : ¬ vs.size = 1 := by rw [hvs]; simp
        simp only [retV, this, dif_neg, not_false_eq_true]
        exact htup
theorem CallK.curN (z : Nat) {f x0 : Operand} {ys : List Operand} {args : Array Operand} {argTypes : Array TypeId} {fid : FuncId} {id n : Nat} {ty : TypeId} {cs ds : List D} {Post : List D → List RV → Prop} {pvs : List PV} {refs : Bool} (q : Option Nat)
    (hok : FnC P fid n ds cs Post) (ho : o.op = .call { callee := .value f, args := args, argTypes := argTypes }) (hf : s.get f = .fn fid []) (ha : args.toList = x0 :: ys) (hx : s.get x0 = .bptr id 0) (hg : hget s.hp id = some (mkB q ty (cs.map .d))) (hd : frzL s.hp (ys.map (s.getN z)) = some ds)
    (hK : ∀ cs' rs, Post cs' rs → K (AS.put ⟨s.fr, hset (hps s.nx rs ++ hdels s.hp (rowIds (ys.map (s.getN z)))) id (mkB q ty (cs'.map .d)), s.nx + (rs.length + n)⟩ o.dst (resPV s.nx rs))) : CallK P o fid pvs refs s o.dst K :=
  .inr (po_callBN z ho hf ha hx hg hd hok fun cs' rs h _ => hK cs' rs h)
end rules
end Go.Proofs.YthocihmhljmgdaaGreatDoor

/-
  Spoilt texts (draw).
-/
set_option linter.unusedSimpArgs false
set_option linter.unusedVariables false
set_option maxHeartbeats 2000000
set_option maxRecDepth 100000
namespace Go.Proofs.YthocihmhljmgdaaGreatDoor
open Go.RowKit

theorem ofS_ok {k : Nat} {cs : List D} {l : List ByteArray} (hC : Cur k cs) (hk : k ≤ 1099511627775) (h0 : 0 < l.length) (hl : l.length ≤ 1048576) : FnC Tryz.prog 66 3 [.lst 1 (l.map datS)] cs (PostX (k + 2) (fun x => x ∈ l) fun x => [.d (.str x)]) := by
  refine fn_okC G_ok Tryz.func66 rfl rfl hC.len fun ty => ?_; simp only [Tryz.ntmps66, List.length_cons, List.length_nil, Nat.reduceAdd, Nat.reduceSub, List.map_cons, List.map_nil, List.length_map, enm]
  repeat' (first | ((with_reducible first | (refine hK _ ?_; clear hK K) | refine stq fun K' hK' => ?_ | refine stc ?_); try simp only [go_sem]) | (with_reducible first | refine stp ?_ | (refine hK' _ ?_; clear hK' K') | refine kN kl66 fun K hK => ?_ | refine kO fun K hK => ?_) | ((first | refine CallK.cur (some 0) (pick_ok (by assumption) (by omega)) rfl rfl rfl rfl rfl rfl ?_); rintro c2 _ ⟨x, hx, rfl, hC⟩; try simp only [mkB, go_sem]) | ((first | refine CallK.cur (some 0) (pick_ok (by assumption) (by omega)) rfl rfl rfl rfl rfl rfl ?_); rintro c2 _ ⟨x, hx, rfl, hC⟩; try simp only [mkB, go_sem]) | (with_reducible refine pK_mk ?_ ?_ <;> (intro hc; (try simp only [go_sem]); (try simp at hc); try (exfalso; omega))) | with_reducible refine And.intro (by first | omega | (unfold inI; omega)) ?_)
  obtain ⟨i, rfl⟩ : ∃ i : Nat, x = i := ⟨x.toNat, by omega⟩
  have hil : i < l.length := by omega
  have hi := List.getElem?_eq_getElem hil
  have hm := List.getElem_mem hil
  generalize l[i] = e at hi hm
  simp only [Int.toNat_natCast, List.getElem?_map, hi, Option.map_some, datS]
  repeat' (first | ((with_reducible first | (refine hK _ ?_; clear hK K) | refine stq fun K' hK' => ?_ | refine stc ?_); try simp only [go_sem]) | (with_reducible first | refine stp ?_ | (refine hK' _ ?_; clear hK' K') | refine kN kl66 fun K hK => ?_ | refine kO fun K hK => ?_) | (with_reducible refine pK_mk ?_ ?_ <;> (intro hc; (try simp only [go_sem]); (try simp at hc); try (exfalso; omega))) | with_reducible refine And.intro (by first | omega | (unfold inI; omega)) ?_)
  refine retC_ret (id := 0) _ rfl rfl (by simp [rowsOf, lk]) rfl (Cur.len (by assumption)) ⟨_, ?_, rfl, Cur.mono (by assumption) (by omega)⟩
  exact hm
theorem spoilt_ok {k : Nat} {cs : List D} {t w : ByteArray} (hC : Cur k cs) (hk : k ≤ 1000000000) (ht : t.size ≤ 1000000) (hw0 : 0 < w.size) (hw : w.size ≤ 1000) : FnC Tryz.prog 67 3 [.str t, .str w] cs (PostX (k + 20) (fun s : ByteArray => s.size ≤ 1000010) fun s => [.d (.str s)]) := by
  refine fn_okC G_ok Tryz.func67 rfl rfl hC.len fun ty => ?_; simp only [Tryz.ntmps67, List.length_cons, List.length_nil, Nat.reduceAdd, Nat.reduceSub, List.map_cons, List.map_nil, List.length_map, enm]
  repeat' (first | ((with_reducible first | (refine hK _ ?_; clear hK K) | refine stq fun K' hK' => ?_ | refine stc ?_); try simp only [go_sem]) | (with_reducible first | refine stp ?_ | (refine hK' _ ?_; clear hK' K') | refine kN kl67 fun K hK => ?_ | refine kO fun K hK => ?_) | (refine xS rfl fun K' hK' => ?_; simp only [go_sem]) | (refine qS rfl fun K' hK' => ?_; simp only [go_sem]) | refine iB ?_ | (with_reducible refine pw_seq_drawK kl67 G_ok mixed (by kernel_rfl) (fun K hK => ?_)) | (with_reducible refine pw_draw G_ok mixed (by kernel_rfl) ?_) | (with_reducible refine pK_mk ?_ ?_ <;> (intro hc; (try simp only [go_sem]); (try simp at hc); try (exfalso; omega))) | with_reducible refine And.intro (by first | omega | (unfold inI; omega)) ?_)
  refine CallK.cur (some 0) (pick_ok (by assumption) (by omega)) rfl rfl rfl rfl rfl rfl ?_; rintro c2 _ ⟨x, hx, rfl, hC⟩; try simp only [mkB, go_sem]
  obtain ⟨N, hN⟩ : ∃ N : Nat, 1 + x = (N : Int) := ⟨(1 + x).toNat, by omega⟩
  have hN2 : N ≤ 2 := by omega
  repeat' (first | ((with_reducible first | (refine hK _ ?_; clear hK K) | refine stq fun K' hK' => ?_ | refine stc ?_); try simp only [go_sem]) | (with_reducible first | refine stp ?_ | (refine hK' _ ?_; clear hK' K') | refine kN kl67 fun K hK => ?_ | refine kO fun K hK => ?_) | (refine xS rfl fun K' hK' => ?_; simp only [go_sem]) | (refine qS rfl fun K' hK' => ?_; simp only [go_sem]) | refine iB ?_ | (with_reducible refine pw_seq_drawK kl67 G_ok mixed (by kernel_rfl) (fun K hK => ?_)) | (with_reducible refine pw_draw G_ok mixed (by kernel_rfl) ?_) | (with_reducible refine pK_mk ?_ ?_ <;> (intro hc; (try simp only [go_sem]); (try simp at hc); try (exfalso; omega))) | with_reducible refine And.intro (by first | omega | (unfold inI; omega)) ?_)
  rw [hN]
  refine pw_loop_over [1, 6, 7, 8, 9, 13, 14, 15, 16, 17, 18, 19, 20, 21, 22, 23, 24, 25, 26, 27, 28, 29, 30, 31, 32, 33, 34, 35, 36, 37, 38, 39, 40, 41, 42, 43, 44, 45, 46, 47, 48, 49, 50, 51, 52, 53, 54, 55, 56, 57, 58, 59, 60, 61, 62, 63, 64, 65, 66] (fun q : Nat × ByteArray × List D => [(0, .bptr 0 0), (1, .d (.str q.2.1)), (2, .d (.str w)), (7, .d (.int .i64 (q.1 : Int))), (8, .und), (9, .und)]) (fun q => [(0, .pbox 0 ty (q.2.2.map .d))]) 7 (fun q => q.1 ≤ N ∧ q.2.1.size ≤ 1000000 + (N - q.1) ∧ Cur (k + 2 + 6 * (N - q.1)) q.2.2) (fun q => q.1) (N, t, c2) ⟨Nat.le_refl _, by simp only; omega, hC.mono (by omega)⟩ (fits_mk [] (by simp [renL_d, bdL_d, sg, over, wipe, wl, memN, ins, rm, lk, fitFr, fit1, ren, renL, bd, bdL, app, fitHp, hget, renB, bdB] <;> omega)) ?_
  rintro ⟨j, s, c⟩ ⟨h0, h1, hC⟩; simp only [over, wipe, wl, memN, ins, rm, if_true, if_false, Nat.reduceEqDiff, Bool.false_eq_true, reduceCtorEq]
  simp only at h0 h1 hC
  by_cases hj : 0 < j ∧ 0 < s.size
  · obtain ⟨hj0, hs0⟩ := hj
    have hjp : 0 < (j : Int) := by omega
    have hsp : 0 < (s.size : Int) := by omega
    have hj' : (j : Int) - 1 = ((j - 1 : Nat) : Int) := by omega
    repeat' (first | ((with_reducible first | (refine hK _ ?_; clear hK K) | refine stq fun K' hK' => ?_ | refine stc ?_); try simp only [go_sem, hjp, hsp]) | (with_reducible first | refine stp ?_ | (refine hK' _ ?_; clear hK' K') | refine kN kl67 fun K hK => ?_ | refine kO fun K hK => ?_) | (refine xS rfl fun K' hK' => ?_; simp only [go_sem, hjp, hsp]) | (refine qS rfl fun K' hK' => ?_; simp only [go_sem, hjp, hsp]) | ((first | refine CallK.cur (some 0) (pick_ok (by assumption) (by omega)) rfl rfl rfl rfl rfl rfl ?_); rintro c2 _ ⟨x, hx, rfl, hC⟩; try simp only [mkB, go_sem, hjp, hsp]) | ((first | refine CallK.cur (some 0) (pick_ok (by assumption) (by omega)) rfl rfl rfl rfl rfl rfl ?_); rintro c2 _ ⟨x, hx, rfl, hC⟩; try simp only [mkB, go_sem, hjp, hsp]) | refine iB ?_ | (with_reducible refine pw_seq_drawK kl67 G_ok mixed (by kernel_rfl) (fun K hK => ?_)) | (with_reducible refine pw_draw G_ok mixed (by kernel_rfl) ?_) | (with_reducible refine pK_mk ?_ ?_ <;> (intro hc; (try simp only [go_sem, hjp, hsp]); (try simp at hc); try (exfalso; omega))) | with_reducible refine And.intro (by first | omega | (unfold inI; omega)) ?_)
    rename_i p hp _
    obtain ⟨p, rfl⟩ : ∃ i : Nat, p = i := ⟨p.toNat, by omega⟩
    obtain ⟨i, rfl⟩ : ∃ i : Nat, x = i := ⟨x.toNat, by omega⟩
    have hp1 : (p : Int) + 1 = ((p + 1 : Nat) : Int) := by omega
    have e1 : (s.extract 0 p).size = p := by rw [ByteArray.size_extract]; omega
    have e2 : (s.extract p s.size).size = s.size - p := by rw [ByteArray.size_extract]; omega
    have e3 : (s.extract (p + 1) s.size).size = s.size - (p + 1) := by rw [ByteArray.size_extract]; omega
    have hiw : i < w.size := by omega
    obtain ⟨u, hu⟩ : ∃ u, w[i]? = some u := ⟨w[i], by simp [hiw]⟩
    simp only [Int.toNat_natCast, hu]
    repeat' (first | ((with_reducible first | (refine hK _ ?_; clear hK K) | refine stq fun K' hK' => ?_ | refine stc ?_); try simp only [go_sem]) | (with_reducible first | refine stp ?_ | (refine hK' _ ?_; clear hK' K') | refine kN kl67 fun K hK => ?_ | refine kO fun K hK => ?_) | (refine xS rfl fun K' hK' => ?_; simp only [go_sem]) | (refine qS rfl fun K' hK' => ?_; simp only [go_sem]) | ((first | refine CallK.cur (some 0) (pick_ok (by assumption) (by omega)) rfl rfl rfl rfl rfl rfl ?_); rintro c2 _ ⟨x, hx, rfl, hC⟩; try simp only [mkB, go_sem]) | ((first | refine CallK.cur (some 0) (pick_ok (by assumption) (by omega)) rfl rfl rfl rfl rfl rfl ?_); rintro c2 _ ⟨x, hx, rfl, hC⟩; try simp only [mkB, go_sem]) | refine iB ?_ | (with_reducible refine pw_seq_drawK kl67 G_ok mixed (by kernel_rfl) (fun K hK => ?_)) | (with_reducible refine pw_draw G_ok mixed (by kernel_rfl) ?_) | (with_reducible refine pK_mk ?_ ?_ <;> (intro hc; (try simp only [go_sem]); (try simp at hc); try (exfalso; omega))) | with_reducible refine And.intro (by first | omega | (unfold inI; omega)) ?_)
    refine pq_toStr (xs := [(u.toNat : Int)]) rfl (G_ok _ _ G22) Tryz.underlying5 (G_ok _ _ G9) rfl ?_
    have hws : (strOfNums [(u.toNat : Int)]).size = 1 := rfl
    generalize strOfNums [(u.toNat : Int)] = v at hws
    repeat' (first | ((with_reducible first | (refine hK _ ?_; clear hK K) | refine stq fun K' hK' => ?_ | refine stc ?_); try simp only [go_sem, hp1]) | (with_reducible first | refine stp ?_ | (refine hK' _ ?_; clear hK' K') | refine kN kl67 fun K hK => ?_ | refine kO fun K hK => ?_) | (refine xS rfl fun K' hK' => ?_; simp only [go_sem, hp1]) | (refine qS rfl fun K' hK' => ?_; simp only [go_sem, hp1]) | ((first | refine CallK.cur (some 0) (pick_ok (by assumption) (by omega)) rfl rfl rfl rfl rfl rfl ?_); rintro c2 _ ⟨x, hx, rfl, hC⟩; try simp only [mkB, go_sem, hp1]) | ((first | refine CallK.cur (some 0) (pick_ok (by assumption) (by omega)) rfl rfl rfl rfl rfl rfl ?_); rintro c2 _ ⟨x, hx, rfl, hC⟩; try simp only [mkB, go_sem, hp1]) | refine iB ?_ | (with_reducible refine pw_seq_drawK kl67 G_ok mixed (by kernel_rfl) (fun K hK => ?_)) | (with_reducible refine pw_draw G_ok mixed (by kernel_rfl) ?_) | (with_reducible refine pK_mk ?_ ?_ <;> (intro hc; (try simp only [go_sem, hp1]); (try simp at hc); try (exfalso; omega))) | with_reducible refine And.intro (by first | omega | (unfold inI; omega)) ?_)
    all_goals first
      | omega
      | skip
    · exact ⟨(j - 1, s.extract 0 p ++ v ++ s.extract p s.size, c2), ⟨by simp only; omega, by simp only [ByteArray.size_append, e1, e2, e3]; omega, Cur.mono (by assumption) (by simp only; omega)⟩, by simp only; omega, (fits_mk [] (by simp [renL_d, bdL_d, sg, over, wipe, wl, memN, ins, rm, lk, fitFr, fit1, ren, renL, bd, bdL, app, fitHp, hget, renB, bdB, hj', hp1] <;> omega))⟩
    · exact ⟨(j - 1, s.extract 0 p ++ v ++ s.extract (p + 1) s.size, c2), ⟨by simp only; omega, by simp only [ByteArray.size_append, e1, e2, e3]; omega, Cur.mono (by assumption) (by simp only; omega)⟩, by simp only; omega, (fits_mk [] (by simp [renL_d, bdL_d, sg, over, wipe, wl, memN, ins, rm, lk, fitFr, fit1, ren, renL, bd, bdL, app, fitHp, hget, renB, bdB, hj', hp1] <;> omega))⟩
    · exact ⟨(j - 1, s.extract 0 p ++ s.extract (p + 1) s.size, c2), ⟨by simp only; omega, by simp only [ByteArray.size_append, e1, e2, e3]; omega, Cur.mono (by assumption) (by simp only; omega)⟩, by simp only; omega, (fits_mk [] (by simp [renL_d, bdL_d, sg, over, wipe, wl, memN, ins, rm, lk, fitFr, fit1, ren, renL, bd, bdL, app, fitHp, hget, renB, bdB, hj', hp1] <;> omega))⟩
  · by_cases hj0 : 0 < (j : Int)
    · have hsp : ¬ 0 < (s.size : Int) := by omega
      repeat' (first | ((with_reducible first | (refine hK _ ?_; clear hK K) | refine stq fun K' hK' => ?_ | refine stc ?_); try simp only [go_sem, hj0, hsp]) | (with_reducible first | refine stp ?_ | (refine hK' _ ?_; clear hK' K') | refine kN kl67 fun K hK => ?_ | refine kO fun K hK => ?_) | (refine xS rfl fun K' hK' => ?_; simp only [go_sem, hj0, hsp]) | (refine qS rfl fun K' hK' => ?_; simp only [go_sem, hj0, hsp]) | refine iB ?_ | (with_reducible refine pw_seq_drawK kl67 G_ok mixed (by kernel_rfl) (fun K hK => ?_)) | (with_reducible refine pw_draw G_ok mixed (by kernel_rfl) ?_) | (with_reducible refine pK_mk ?_ ?_ <;> (intro hc; (try simp only [go_sem, hj0, hsp]); (try simp at hc); try (exfalso; omega))) | with_reducible refine And.intro (by first | omega | (unfold inI; omega)) ?_)
      refine retC_ret (id := 0) _ rfl rfl (by simp [rowsOf, lk]) rfl (Cur.len (by assumption)) ⟨_, ?_, rfl, Cur.mono (by assumption) (by omega)⟩
      omega
    · repeat' (first | ((with_reducible first | (refine hK _ ?_; clear hK K) | refine stq fun K' hK' => ?_ | refine stc ?_); try simp only [go_sem, hj0]) | (with_reducible first | refine stp ?_ | (refine hK' _ ?_; clear hK' K') | refine kN kl67 fun K hK => ?_ | refine kO fun K hK => ?_) | (refine xS rfl fun K' hK' => ?_; simp only [go_sem, hj0]) | (refine qS rfl fun K' hK' => ?_; simp only [go_sem, hj0]) | refine iB ?_ | (with_reducible refine pw_seq_drawK kl67 G_ok mixed (by kernel_rfl) (fun K hK => ?_)) | (with_reducible refine pw_draw G_ok mixed (by kernel_rfl) ?_) | (with_reducible refine pK_mk ?_ ?_ <;> (intro hc; (try simp only [go_sem, hj0]); (try simp at hc); try (exfalso; omega))) | with_reducible refine And.intro (by first | omega | (unfold inI; omega)) ?_)
      refine retC_ret (id := 0) _ rfl rfl (by simp [rowsOf, lk]) rfl (Cur.len (by assumption)) ⟨_, ?_, rfl, Cur.mono (by assumption) (by omega)⟩
      omega
end Go.Proofs.YthocihmhljmgdaaGreatDoor
