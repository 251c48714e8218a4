/-
  The abstract machine: rows that own their parts: parts named, read and written. No program is named here.
-/
import Derived.Test.YtphakidbddamfaaGreatZM8
namespace Go.Proofs.YtphakidbddamfaaGreat
open Go.RowKit
def D.scB:D→Bool
 |.lst _ _=>false
 |.hole=>false
 |.emap=>false
 |_=>true
theorem D.scB_sc {d:D} (h:d.scB = true):d.sc:=by cases d<;>first|trivial|cases h
theorem Rd.tr {w w':World} {X F:Nat→Prop} {d:D} {v:Value} (h:Rd w X d v) (hd:d.sc):Tr w' F d v:=by
 cases h with
 |int k n=>exact .int _ k n
 |bool b=>exact .bool _ b
 |str s=>exact .str _ s
 |nil=>exact hd.elim
 |lst=>exact hd.elim
 |hole=>exact hd.elim
 |emap=>exact hd.elim
def ce (es:List (List D)) (k j:Nat) (d:D):List (List D):=match es[k]? with
 |some e=>es.set k (e.set j d)
 |none=>es
section rules
variable {P:Program} {o:Oper} {s:AS} {K:AS→Prop} {KP:PV→Prop}
theorem Sim.alias_new {X0:Nat→Prop} {w0:Base} {m:Mp} {a:Act} {w:World} (hs:Sim X0 w0 m s a w) {id k j:Nat} {l:Loc} (hok:tP w (bN m s.nx l) ((s.nx,.al id k j)::s.hp) s.nx id k j):
  Sim X0 w0 (bN m s.nx l) ⟨s.fr,(s.nx,.al id k j)::s.hp,s.nx + 1⟩ a w:=by
 have hne:∀ i blk,ae s.hp i = some blk→i≠s.nx:=fun i blk h e=>by subst e;rw [hs.hget_nx] at h;cases h
 have hold:∀ i blk,i≠s.nx→(ae ((s.nx,.al id k j)::s.hp) i = some blk↔ae s.hp i = some blk):=fun i blk h=>by rw [ae,if_neg h]
 have hm:=gh (F:=fun _=>False) m s.nx l (.inl hs.hnx)
 have hinv:∀ i blk b,ae ((s.nx,.al id k j)::s.hp) i = some blk→blk.has (bN m s.nx l) i b→i≠s.nx∧ae s.hp i = some blk∧blk.has m i b:=by
  intro i blk b h1 h2
  by_cases e:i = s.nx
  ·subst e
   simp only [ae,if_true] at h1
   cases h1
   exact h2.elim
  ·exact ⟨e,(hold i blk e).1 h1,(Blk.has_upd e).1 h2⟩
 have hst:Stay w w (aU X0 m s.hp) (aU X0 (bN m s.nx l) ((s.nx,.al id k j)::s.hp)):=by
  intro b _ hb
  refine ⟨rfl,?_⟩
  rintro (hx|⟨i,blk,h1,h2⟩)
  ·exact hb (.inl hx)
  ·obtain ⟨_,h3,h4⟩:=hinv i blk b h1 h2
   exact hb (.inr ⟨i,blk,h3,h4⟩)
 refine hs.step hm (KeepB.refl _ _) hst (fun i blk hi=>?_) (fun i p ty sz es hi=>?_) (fun i par k' j' hi=>?_) (fun i blk p hi hpo=>?_) (fun i i' blk blk' b h1 h2 h3 h4=>?_) (fun i blk b h1 h2=>?_) (fun i hi=>?_)
 ·by_cases e:i = s.nx
  ·subst e
   simp only [ae,if_true] at hi
   cases hi
   exact ⟨l,bp m _ l,trivial⟩
  ·obtain ⟨l',h1,h2⟩:=hs.hp i blk ((hold i blk e).1 hi)
   exact ⟨l',hm _ _ h1,h2.mono hm hst fun _ _ _ _=>rfl⟩
 ·have e:i≠s.nx:=fun e=>by subst e;simp [ae] at hi
  rw [db m l e,j5 m l _ e]
  exact hs.dp i p ty sz es ((hold i _ e).1 hi)
 ·by_cases e:i = s.nx
  ·subst e
   simp only [ae,if_true] at hi
   cases hi
   exact hok
  ·obtain ⟨q,ty,sz,es,e0,sz',es',b,c,arr,a1,a2,a3,a4,a5,a6⟩:=hs.al i par k' j' ((hold i _ e).1 hi)
   have e2:=hne par _ a1
   exact ⟨q,ty,sz,es,e0,sz',es',b,c,arr,(hold par _ e2).2 a1,a2,a3,by rw [db m l e2];exact a4,a5,by rw [db m l e];exact a6⟩
 ·have e:i≠s.nx:=fun e=>by subst e;simp only [ae,if_true] at hi;cases hi;cases hpo
  rw [db m l e]
  exact hs.pin i blk p ((hold i _ e).1 hi) hpo
 ·obtain ⟨_,h5,h6⟩:=hinv i blk b h1 h3
  obtain ⟨_,h7,h8⟩:=hinv i' blk' b h2 h4
  exact hs.inj i i' blk blk' b h5 h7 h6 h8
 ·obtain ⟨_,h5,h6⟩:=hinv i blk b h1 h2
  exact hs.own i blk b h5 h6
 ·rw [db m l (by omega)]
  exact hs.nx i (by omega)
theorem s7 {t:TypeId} {x:Operand} {ti:TI} {id sz k off q ty sz':Nat} {es es':List (List D)} (ho:o.op = .load t x) (ht:cd P t ti = true) (hc:ti.cells = none) (hx:s.get x = .rptr id sz k off) (hg:ae s.hp id = some (.deep q ty sz es)) (hal:dd es k off = some (sz',es'))
  (hK:K (AS.put ⟨s.fr,(s.nx,.al id k off)::s.hp,s.nx + 1⟩ o.dst (.row s.nx es'.length))):PO P o s K:=
 PO.mk fun X0 w0 m a w hs=>by
  have h1:=hs.get x
  rw [hx] at h1
  obtain ⟨b,c,hm,he⟩:=h1.rptr_inv
  have hd:=hs.dp id q ty sz es hg
  rw [hm] at hd
  obtain ⟨_,arr,h2,h3,h4,h5,h6,Fp,h7,h8,h9⟩:=hd
  obtain ⟨e,g1,g2⟩:∃ e,es[k]? = some e∧e[off]? = some (.lst sz' es'):=by
   unfold dd at hal
   split at hal
   ·rename_i e he'
    split at hal
    ·rename_i he2;cases hal;exact ⟨e,he',he2⟩
    ·cases hal
   ·cases hal
  have hkl:=(List.getElem?_eq_some_iff.1 g1).1
  have hjl:off < sz:=by rw [←h6 e (List.mem_of_getElem? g1)];exact (List.getElem?_eq_some_iff.1 g2).1
  have hlt:k * sz + off < arr.size:=by rw [h3];exact cr (by omega) hjl
  have hv:arr[k * sz + off]? = some arr[k * sz + off]:=by simp [hlt]
  have htr:=h9 k e off _ _ g1 g2 hv
  obtain ⟨⟨d,hd1,hd2⟩,_⟩:=i6 ht hc
  have hcell:w.cell? ⟨b,k * sz + off,none⟩ = some arr[k * sz + off]:=by simp [World.cell?,h2,hlt]
  have hrun:(execOp a.eval o).run P w = .ok (.value arr[k * sz + off]) w:=by
   simp [execOp,ho,he,Instr.loadAt,Instr.sureAddr,loadVar,fK hd1,hd2,run_load,hcell]
  have hne:id≠s.nx:=fun e=>by subst e;rw [hs.hget_nx] at hg;cases hg
  have hpar:ae ((s.nx,.al id k off)::s.hp) id = some (.deep q ty sz es):=by rw [ae,if_neg hne];exact hg
  generalize hvv:arr[k * sz + off] = v at hv htr hrun
  have key:∀ l:Loc,((l = .nil∧v = .slice none 0 0)∨∃ b' c',l = .blk b' c'∧v = .slice (some ⟨b',0,none⟩) es'.length c')→Sim X0 w0 (bN m s.nx l) ⟨s.fr,(s.nx,.al id k off)::s.hp,s.nx + 1⟩ a w:=by
   intro l hl
   refine hs.alias_new ⟨q,ty,sz,es,e,sz',es',b,c,arr,hpar,g1,g2,by rw [db m l hne];exact hm,h2,?_⟩
   rw [hv]
   rcases hl with ⟨rfl,rfl⟩|⟨b',c',rfl,rfl⟩
   ·exact .inl ⟨bp _ _ _,rfl⟩
   ·exact .inr ⟨b',c',bp _ _ _,rfl⟩
  cases htr with
  |nil=>exact ⟨_,_,_,_,_,hrun,key .nil (.inl ⟨rfl,rfl⟩),.rowN _ (bp _ _ _),hK⟩
  |lst _ _ _ b' c' arr' ty' Fp' q1 q2 q3 q4=>exact ⟨_,_,_,_,_,hrun,key (.blk b' c') (.inr ⟨b',c',rfl,rfl⟩),.rowB _ _ _ _ (bp _ _ _) q4,hK⟩
theorem kj {arr vs:List Value} {es:List (List D)} {e ds:List D} {sz k off:Nat} (he:es[k]? = some e) (hz:∀ e,e ∈ es→e.length = sz) (hl:off + ds.length≤e.length) (hv:vs.length = ds.length) (hfit:k * sz + off + vs.length≤arr.length) {k' j:Nat} {e':List D} {d:D} {u:Value}
  (he':(es.set k (bx e off ds))[k']? = some e') (hd:e'[j]? = some d) (hu:(bx arr (k * sz + off) vs)[k' * sz + j]? = some u):
  (k' = k∧off≤j∧j < off + ds.length∧ds[j - off]? = some d∧vs[j - off]? = some u)∨(∃ e0,es[k']? = some e0∧e0[j]? = some d∧arr[k' * sz + j]? = some u∧¬ (k' = k∧off≤j∧j < off + ds.length)):=by
 rw [dg hfit,hv] at hu
 rw [List.getElem?_set] at he'
 have hesz:=hz e (List.mem_of_getElem? he)
 split at he'
 ·rename_i hkk
  subst hkk
  split at he'
  ·cases he'
   rw [dg hl] at hd
   split at hd
   ·rename_i hin
    rw [if_pos (by omega)] at hu
    exact .inl ⟨rfl,hin.1,hin.2,hd,by rw [show k * sz + j - (k * sz + off) = j - off by omega] at hu;exact hu⟩
   ·rename_i hin
    rw [if_neg (by omega)] at hu
    exact .inr ⟨e,he,hd,hu,fun h=>hin h.2⟩
  ·cases he'
 ·rename_i hne
  have hj:j < sz:=by rw [←hz e' (List.mem_of_getElem? he')];exact (List.getElem?_eq_some_iff.1 hd).1
  have hout:¬ (k * sz + off≤k' * sz + j∧k' * sz + j < k * sz + off + ds.length):=by
   rcases Nat.lt_or_gt_of_ne hne with h7|h7
   ·have h8:(k + 1) * sz≤k' * sz:=Nat.mul_le_mul_right _ h7
    rw [Nat.succ_mul] at h8
    omega
   ·have:=cr h7 hj
    omega
  rw [if_neg hout] at hu
  exact .inr ⟨e',he',hd,hu,fun h=>hne h.1.symm⟩
theorem iU {es:List (List D)} {e ds:List D} {sz k off:Nat} (he:es[k]? = some e) (hz:∀ e,e ∈ es→e.length = sz) (hl:off + ds.length≤e.length):∀ e',e' ∈ es.set k (bx e off ds)→e'.length = sz:=by
 intro e' he'
 obtain ⟨j,hj⟩:=List.getElem?_of_mem he'
 rw [List.getElem?_set] at hj
 split at hj
 ·split at hj
  ·cases hj
   rw [dr hl]
   exact hz e (List.mem_of_getElem? he)
  ·cases hj
 ·exact hz e' (List.mem_of_getElem? hj)
theorem jM {t:TypeId} {p x:Operand} {ti:TI} {id sz k off q ty:Nat} {es:List (List D)} {e ds:List D} (ho:o.op = .store t p x) (ht:cd P t ti = true) (hp:s.get p = .rptr id sz k off) (hg:ae s.hp id = some (.deep q ty sz es)) (hk:es[k]? = some e)
  (hd:kz (bg (s.get x)) = some ds) (hsc:ds.all D.scB = true) (hold:((e.drop off).take ds.length).all D.scB = true) (hn:ds.length = ti.size) (hl:off + ti.size≤e.length)
  (hK:K (AS.put ⟨s.fr,bj s.hp id (.deep q ty sz (es.set k (bx e off ds))),s.nx⟩ o.dst .und)):PO P o s K:=
 PO.skip fun X0 w0 m a w hs=>by
  have hd':=jz hd
  have h2:=(hs.get x).cellsOf (by rw [hd'];exact lS)
  rw [hd',List.length_map] at h2
  have h3:=hs.get p
  rw [hp] at h3
  obtain ⟨b,c,hm,he⟩:=h3.rptr_inv
  have hdp:=hs.dp id q ty sz es hg
  rw [hm] at hdp
  obtain ⟨g1,arr,hh,ha,hec,hcm,hes,Fp,f1,f2,f3⟩:=hdp
  obtain ⟨i,hi,hisz⟩:=fH ht
  have hesz:=hes e (List.mem_of_getElem? hk)
  have hklt:=(List.getElem?_eq_some_iff.1 hk).1
  have hbig:(k + 1) * sz≤c * sz:=Nat.mul_le_mul_right _ (by omega)
  rw [Nat.succ_mul] at hbig
  have hvl:k * sz + off + (a.eval x).cells.size≤arr.size:=by rw [h2.1,hn,ha];omega
  have hR:∀ (j:Nat) (d:D) (u:Value),ds[j]? = some d→(a.eval x).cells[j]? = some u→R m.loc (aU X0 m s.hp) w (.d d) u∧u.oneCell' = true:=fun j d u hj hu=>h2.2 j (.d d) u (by rw [List.getElem?_map,hj];rfl) hu
  have h6:∀ u ∈ (a.eval x).cells.toList,u.oneCell' = true:=by
   intro u hu
   obtain ⟨j,hj⟩:=List.getElem?_of_mem hu
   have hj':(a.eval x).cells[j]? = some u:=by simpa using hj
   have hlt:j < ds.length:=by rw [←h2.1];exact (Array.getElem?_eq_some_iff.1 hj').1
   exact (hR j _ u (List.getElem?_eq_getElem hlt) hj').2
  have hrun:=eW (P:=P) (t:=t) hi (by rw [h2.1,hn,hisz]) hh hvl h6
  have e1:(a.eval x).cells.toList.length = ds.length:=by simpa using h2.1
  have hown:=hs.own id _ b hg (.inl ⟨c,hm⟩)
  have hset_ne:∀ id',id'≠id→ae (bj s.hp id (.deep q ty sz (es.set k (bx e off ds)))) id' = ae s.hp id':=fun id' hne=>by rw [bq,if_neg hne]
  have hset_eq:ae (bj s.hp id (.deep q ty sz (es.set k (bx e off ds)))) id = some (.deep q ty sz (es.set k (bx e off ds))):=by rw [bq];simp [hg]
  have hoth:∀ y,y≠b→(w.setRow b (bx arr.toList (k * sz + off) (a.eval x).cells.toList).toArray).heap[y]? = w.heap[y]?:=fun y hy=>setRow_other w b y _ hy
  have hnewh:=setRow_heap w b arr (bx arr.toList (k * sz + off) (a.eval x).cells.toList).toArray ty _ hh
  have hcells:=fun {k' j:Nat} {e':List D} {d:D} {u:Value}=>kj (arr:=arr.toList) (vs:=(a.eval x).cells.toList) hk hes (by rw [hn];exact hl) e1 (by simpa using hvl) (k':=k') (j:=j) (e':=e') (d:=d) (u:=u)
  refine ⟨w.setRow b (bx arr.toList (k * sz + off) (a.eval x).cells.toList).toArray,bN m id (.blk b c) (m.ft id),⟨s.fr,bj s.hp id (.deep q ty sz (es.set k (bx e off ds))),s.nx⟩,?_,?_,hK⟩
  ·simp only [execOp,ho,he,Sem.run_bind,hrun,Result.andThen_ok,Sem.run_pure]
  ·refine hs.changeD (i:=id) (blk':=.deep q ty sz (es.set k (bx e off ds))) (F':=m.ft id) (fun y=>y = b∨m.ft id y) (.inr hm) hset_eq (fun id' hne blk hb=>by rw [hset_ne id' hne] at hb;exact hb) rfl (fun id' par k' j' hne ha'=>?_) (Nat.le_refl _) (hs.lt_nx hm) ?_ (fun y hy hne=>hoth y fun h=>hne (.inl h)) ?_ ?_ ?_ ?_ (fun _=>trivial)
   ·rw [hset_ne id' hne] at ha'
    by_cases e2:par = id
    ·subst e2
     refine .inr ?_
     obtain ⟨q',ty',sz',es',e0,sz2,es2,b',c',arr',a1,a2,a3,a4,a5,a6⟩:=hs.al id' par k' j' ha'
     rw [hg] at a1
     cases a1
     rw [hm] at a4
     cases a4
     rw [hh] at a5
     cases a5
     have hj':j' < sz:=by rw [←hes e0 (List.mem_of_getElem? a2)];exact (List.getElem?_eq_some_iff.1 a3).1
     have hnot:¬ (k' = k∧off≤j'∧j' < off + ds.length):=by
      rintro ⟨rfl,h7,h8⟩
      rw [hk] at a2
      cases a2
      have:=List.all_eq_true.1 hold (.lst sz2 es2) (List.mem_of_getElem? (i:=j' - off) (by rw [List.getElem?_take_of_lt (by omega),List.getElem?_drop,show off + (j' - off) = j' by omega];exact a3))
      cases this
     have hsame:(bx arr.toList (k * sz + off) (a.eval x).cells.toList).toArray[k' * sz + j']? = arr[k' * sz + j']?:=by
      have:(bx arr.toList (k * sz + off) (a.eval x).cells.toList)[k' * sz + j']? = arr.toList[k' * sz + j']?:=by
       rw [dg (by simpa using hvl),e1,if_neg]
       rintro ⟨h7,h8⟩
       have hkk:k' = k:=by
        rcases Nat.lt_trichotomy k' k with h9|h9|h9
        ·have:=cr h9 hj';omega
        ·exact h9
        ·have h10:(k + 1) * sz≤k' * sz:=Nat.mul_le_mul_right _ h9
         rw [Nat.succ_mul] at h10
         omega
       subst hkk
       exact hnot ⟨rfl,by omega,by omega⟩
      simpa using this
     obtain ⟨e3,a7,a8⟩:∃ e3,(es.set k (bx e off ds))[k']? = some e3∧e3[j']? = some (.lst sz2 es2):=by
      by_cases hkk:k' = k
      ·subst hkk
       rw [hk] at a2
       cases a2
       exact ⟨bx e off ds,by rw [List.getElem?_set];simp [hklt],by rw [dg (by rw [hn];exact hl),if_neg (fun h=>hnot ⟨rfl,h.1,h.2⟩)];exact a3⟩
      ·exact ⟨e0,by rw [List.getElem?_set,if_neg (Ne.symm hkk)];exact a2,a3⟩
     exact ⟨q,ty,sz,_,e3,sz2,es2,b,c,_,hset_eq,a7,a8,bp _ _ _,hnewh,by rw [hsame,db m _ hne];exact a6⟩
    ·exact .inl ⟨e2,hset_ne par e2⟩
   ·exact ⟨rfl,rfl,rfl,by simp [World.setRow],fun y hy hne=>hoth y (fun e2=>by subst e2;rcases hown.1 with h|h;omega;exact hne h),.of_le (Nat.le_refl _)⟩
   ·rintro y (rfl|hf)
    ·exact ⟨id,_,hg,.inl ⟨c,hm⟩,.inl rfl⟩
    ·exact ⟨id,_,hg,.inr hf,.inl rfl⟩
   ·intro y hy
    rcases hy with ⟨c',hc'⟩|hf
    ·rw [bp] at hc'
     cases hc'
     exact ⟨hown.1,by simpa [World.setRow] using hown.2,.inr (.inl rfl)⟩
    ·rw [fN] at hf
     have:=hs.own id _ y hg (.inr hf)
     exact ⟨this.1,by simpa [World.setRow] using this.2,.inr (.inr hf)⟩
   ·intro p' e2
    rw [←hm]
    exact hs.pin id _ p' hg (gL e2)
   ·intro p' ty' sz' es' e2
    cases e2
    refine ⟨g1,_,hnewh,?_,by simpa using hec,hcm,iU hk hes (by rw [hn];exact hl),Fp,f1,f2,fun k' e' j d u he' hd2 hu=>?_⟩
    ·rw [List.size_toArray,dr (by simpa using hvl)];simpa using ha
    ·rcases hcells he' hd2 (by simpa using hu) with ⟨_,_,_,h7,h8⟩|⟨e0,h7,h8,h9,_⟩
     ·exact (hR _ d u h7 (by simpa using h8)).1.rd.tr (D.scB_sc (List.all_eq_true.1 hsc d (List.mem_of_getElem? h7)))
     ·exact (f3 k' e0 j d u h7 h8 (by simpa using h9)).frame fun y hy=>hoth y fun e3=>g1 (by subst e3;exact f1 _ _ _ hy)
theorem rZ {es:List (List D)} {k j sz:Nat} {es':List (List D)} (h:dd es k j = some (sz,es')):∃ e,es[k]? = some e∧e[j]? = some (.lst sz es'):=by
 unfold dd at h
 split at h
 ·rename_i e he
  split at h
  ·rename_i he2;cases h;exact ⟨e,he,he2⟩
  ·cases h
 ·cases h
theorem pk {es:List (List D)} {k j:Nat} {e:List D} {d:D} (he:es[k]? = some e) {k' j':Nat} {e':List D} {d':D} (h1:(ce es k j d)[k']? = some e') (h2:e'[j']? = some d'):(k' = k∧j' = j∧d' = d)∨(¬ (k' = k∧j' = j)∧∃ e0,es[k']? = some e0∧e0[j']? = some d'):=by
 unfold ce at h1
 rw [he] at h1
 simp only [] at h1
 rw [List.getElem?_set] at h1
 split at h1
 ·rename_i hk
  subst hk
  split at h1
  ·cases h1
   rw [List.getElem?_set] at h2
   split at h2
   ·rename_i hj
    subst hj
    split at h2
    ·cases h2;exact .inl ⟨rfl,rfl,rfl⟩
    ·cases h2
   ·rename_i hj
    exact .inr ⟨fun h=>hj h.2.symm,e,he,h2⟩
  ·cases h1
 ·rename_i hk
  exact .inr ⟨fun h=>hk h.1.symm,e',h1,h2⟩
theorem ws {es:List (List D)} {k j:Nat} {e:List D} {d d0:D} (he:es[k]? = some e) (hd:e[j]? = some d0):∃ e',(ce es k j d)[k]? = some e'∧e'[j]? = some d:=by
 have h1:=(List.getElem?_eq_some_iff.1 he).1
 have h2:=(List.getElem?_eq_some_iff.1 hd).1
 refine ⟨e.set j d,?_,by rw [List.getElem?_set];simp [h2]⟩
 unfold ce
 rw [he]
 simp only []
 rw [List.getElem?_set]
 simp [h1]
theorem mn {es:List (List D)} {k j:Nat} {e:List D} {d:D} (he:es[k]? = some e) {k' j':Nat} {e0:List D} {d':D} (hne:¬ (k' = k∧j' = j)) (h1:es[k']? = some e0) (h2:e0[j']? = some d'):∃ e',(ce es k j d)[k']? = some e'∧e'[j']? = some d':=by
 have hk:=(List.getElem?_eq_some_iff.1 he).1
 unfold ce
 rw [he]
 simp only []
 by_cases hkk:k' = k
 ·subst hkk
  rw [he] at h1
  cases h1
  exact ⟨e.set j d,by rw [List.getElem?_set];simp [hk],by rw [List.getElem?_set,if_neg (fun h=>hne ⟨rfl,h.symm⟩)];exact h2⟩
 ·exact ⟨e0,by rw [List.getElem?_set,if_neg (Ne.symm hkk)];exact h1,h2⟩
theorem pn {es:List (List D)} {k j:Nat} {d:D}:(ce es k j d).length = es.length:=by unfold ce;split<;>simp
theorem pI {es:List (List D)} {k j sz:Nat} {d:D} (hz:∀ e,e ∈ es→e.length = sz):∀ e,e ∈ ce es k j d→e.length = sz:=by
 intro e' he'
 unfold ce at he'
 split at he'
 ·rename_i e he
  obtain ⟨i,hi⟩:=List.getElem?_of_mem he'
  rw [List.getElem?_set] at hi
  split at hi
  ·split at hi
   ·cases hi;rw [List.length_set];exact hz e (List.mem_of_getElem? he)
   ·cases hi
  ·exact hz e' (List.mem_of_getElem? hi)
 ·exact hz e' he'
theorem cU {t:TypeId} {p x:Operand} {ti:TI} {id par k j sz szp i off q ty:Nat} {es es':List (List D)} {e1 ds:List D} (ho:o.op = .store t p x) (ht:cd P t ti = true) (hp:s.get p = .rptr id sz i off) (hg:ae s.hp id = some (.al par k j)) (hgp:ae s.hp par = some (.deep q ty szp es)) (hal:dd es k j = some (sz,es')) (hk:es'[i]? = some e1)
  (hd:kz (bg (s.get x)) = some ds) (hsc:ds.all D.scB = true) (hn:ds.length = ti.size) (hl:off + ti.size≤e1.length)
  (hK:K (AS.put ⟨s.fr,bj s.hp par (.deep q ty szp (ce es k j (.lst sz (es'.set i (bx e1 off ds))))),s.nx⟩ o.dst .und)):PO P o s K:=
 PO.skip fun X0 w0 m a w hs=>by
  have hd':=jz hd
  have h2:=(hs.get x).cellsOf (by rw [hd'];exact lS)
  rw [hd',List.length_map] at h2
  have h3:=hs.get p
  rw [hp] at h3
  obtain ⟨b',c',hm',he⟩:=h3.rptr_inv
  obtain ⟨e,k1,k2⟩:=rZ hal
  obtain ⟨q0,ty0,sz0,es0,e0,sz2,es2,b,c,arr,a1,a2,a3,a4,a5,a6⟩:=hs.al id par k j hg
  rw [hgp] at a1
  cases a1
  rw [k1] at a2
  cases a2
  rw [k2] at a3
  cases a3
  have a6':arr[k * szp + j]? = some (.slice (some ⟨b',0,none⟩) es'.length c'):=by
   rcases a6 with ⟨a7,_⟩|⟨b2,c2,a7,a8⟩
   ·rw [hm'] at a7;cases a7
   ·rw [hm'] at a7;cases a7;exact a8
  have hdp:=hs.dp par q ty szp es hgp
  rw [a4] at hdp
  obtain ⟨g1,arr_,hh,ha,hec,hcm,hes,Fpp,f1,f2,f3⟩:=hdp
  rw [a5] at hh
  cases hh
  have htr:=f3 k e j _ _ k1 k2 a6'
  generalize hD:D.lst sz es' = D0 at htr
  generalize hV:Value.slice (some ⟨b',0,none⟩) es'.length c' = V0 at htr
  cases htr with
  |int=>cases hD
  |bool=>cases hD
  |str=>cases hD
  |hole=>cases hD
  |nil=>cases hV
  |lst _ sz_ es_ b_ c_ arr2 ty2 Fp2 q1 q2 q3 q4 q5 q6 q7 q8 q9=>
   cases hD
   cases hV
   have hbb:b'≠b:=fun e2=>g1 (by rw [←e2];exact f1 _ _ _ q1)
   obtain ⟨inf,hi,hisz⟩:=fH ht
   have hesz:=q6 e1 (List.mem_of_getElem? hk)
   have hklt:=(List.getElem?_eq_some_iff.1 hk).1
   have hbig:(i + 1) * sz≤c' * sz:=Nat.mul_le_mul_right _ (by omega)
   rw [Nat.succ_mul] at hbig
   have hvl:i * sz + off + (a.eval x).cells.size≤arr2.size:=by rw [h2.1,hn,q3];omega
   have hR:∀ (j:Nat) (d:D) (u:Value),ds[j]? = some d→(a.eval x).cells[j]? = some u→R m.loc (aU X0 m s.hp) w (.d d) u∧u.oneCell' = true:=fun j d u hj hu=>h2.2 j (.d d) u (by rw [List.getElem?_map,hj];rfl) hu
   have h6:∀ u ∈ (a.eval x).cells.toList,u.oneCell' = true:=by
    intro u hu
    obtain ⟨j,hj⟩:=List.getElem?_of_mem hu
    have hj':(a.eval x).cells[j]? = some u:=by simpa using hj
    have hlt:j < ds.length:=by rw [←h2.1];exact (Array.getElem?_eq_some_iff.1 hj').1
    exact (hR j _ u (List.getElem?_eq_getElem hlt) hj').2
   have hrun:=eW (P:=P) (t:=t) hi (by rw [h2.1,hn,hisz]) q2 hvl h6
   have e2:(a.eval x).cells.toList.length = ds.length:=by simpa using h2.1
   have hown:∀ y,m.ft par y→(w0.w.heap.size≤y∨w0.chg y)∧y < w.heap.size:=fun y hy=>hs.own par _ y hgp (.inr hy)
   have hfb:m.ft par b':=f1 _ _ _ q1
   let nd:Blk:=.deep q ty szp (ce es k j (.lst sz (es'.set i (bx e1 off ds))))
   have hset_ne:∀ id',id'≠par→ae (bj s.hp par nd) id' = ae s.hp id':=fun id' hne=>by rw [bq,if_neg hne]
   have hset_eq:ae (bj s.hp par nd) par = some nd:=by rw [bq];simp [hgp]
   have hoth:∀ y,y≠b'→(w.setRow b' (bx arr2.toList (i * sz + off) (a.eval x).cells.toList).toArray).heap[y]? = w.heap[y]?:=fun y hy=>setRow_other w b' y _ hy
   have hnewh:=setRow_heap w b' arr2 (bx arr2.toList (i * sz + off) (a.eval x).cells.toList).toArray ty2 _ q2
   have hcells:=fun {k' j:Nat} {e':List D} {d:D} {u:Value}=>kj (arr:=arr2.toList) (vs:=(a.eval x).cells.toList) hk q6 (by rw [hn];exact hl) e2 (by simpa using hvl) (k':=k') (j:=j) (e':=e') (d:=d) (u:=u)
   have hrootb:(w.setRow b' (bx arr2.toList (i * sz + off) (a.eval x).cells.toList).toArray).heap[b]? = some (.cells arr ty (0,0)):=(hoth b (Ne.symm hbb)).trans a5
   have hlen':(es'.set i (bx e1 off ds)).length = es'.length:=List.length_set
   have hinner:Tr (w.setRow b' (bx arr2.toList (i * sz + off) (a.eval x).cells.toList).toArray) (Fpp k j) (.lst sz (es'.set i (bx e1 off ds))) (.slice (some ⟨b',0,none⟩) es'.length c'):=by
    rw [←hlen']
    refine .lst _ sz _ b' c' _ ty2 Fp2 q1 hnewh ?_ (by rw [hlen'];exact q4) q5 (iU hk q6 (by rw [hn];exact hl)) q7 q8 fun k' e' j d u he' hd2 hu=>?_
    ·rw [List.size_toArray,dr (by simpa using hvl)];simpa using q3
    ·rcases hcells he' hd2 (by simpa using hu) with ⟨_,_,_,h7,h8⟩|⟨e0,h7,h8,h9,_⟩
     ·exact (hR _ d u h7 (by simpa using h8)).1.rd.tr (D.scB_sc (List.all_eq_true.1 hsc d (List.mem_of_getElem? h7)))
     ·exact (q9 k' e0 j d u h7 h8 (by simpa using h9)).frame fun y hy=>hoth y (q7 _ _ _ hy).2
   refine ⟨w.setRow b' (bx arr2.toList (i * sz + off) (a.eval x).cells.toList).toArray,bN m par (.blk b c) (m.ft par),⟨s.fr,bj s.hp par nd,s.nx⟩,?_,?_,hK⟩
   ·simp only [execOp,ho,he,Sem.run_bind,hrun,Result.andThen_ok,Sem.run_pure]
   ·refine hs.changeD (i:=par) (blk':=nd) (F':=m.ft par) (fun y=>y = b∨m.ft par y) (.inr a4) hset_eq (fun id' hne blk hb=>by rw [hset_ne id' hne] at hb;exact hb) rfl (fun id' par' k' j' hne ha'=>?_) (Nat.le_refl _) (hs.lt_nx a4) ?_ (fun y hy hne=>hoth y fun h=>hne (.inr (h ▸ hfb))) ?_ ?_ ?_ ?_ (fun _=>trivial)
    ·rw [hset_ne id' hne] at ha'
     by_cases e3:par' = par
     ·subst e3
      refine .inr ?_
      obtain ⟨q',ty',sz',es3,e0,sz3,es4,b3,c3,arr',r1,r2,r3,r4,r5,r6⟩:=hs.al id' par' k' j' ha'
      rw [hgp] at r1
      cases r1
      rw [a4] at r4
      cases r4
      rw [a5] at r5
      cases r5
      by_cases hkj:k' = k∧j' = j
      ·obtain ⟨rfl,rfl⟩:=hkj
       rw [k1] at r2
       cases r2
       rw [k2] at r3
       cases r3
       obtain ⟨e',s1,s2⟩:=ws (d:=.lst sz (es'.set i (bx e1 off ds))) k1 k2
       exact ⟨q,ty,szp,_,e',sz,_,b,c,arr,hset_eq,s1,s2,bp _ _ _,hrootb,by rw [db m _ hne,hlen'];exact r6⟩
      ·obtain ⟨e',s1,s2⟩:=mn (d:=.lst sz (es'.set i (bx e1 off ds))) k1 hkj r2 r3
       exact ⟨q,ty,szp,_,e',sz3,es4,b,c,arr,hset_eq,s1,s2,bp _ _ _,hrootb,by rw [db m _ hne];exact r6⟩
     ·exact .inl ⟨e3,hset_ne par' e3⟩
    ·exact ⟨rfl,rfl,rfl,by simp [World.setRow],fun y hy hne=>hoth y (fun e3=>by subst e3;rcases (hown y hfb).1 with h|h;omega;exact hne h),.of_le (Nat.le_refl _)⟩
    ·rintro y (rfl|hf)
     ·exact ⟨par,_,hgp,.inl ⟨c,a4⟩,.inl rfl⟩
     ·exact ⟨par,_,hgp,.inr hf,.inl rfl⟩
    ·intro y hy
     rcases hy with ⟨c2,hc2⟩|hf
     ·rw [bp] at hc2
      cases hc2
      have:=hs.own par _ b hgp (.inl ⟨c,a4⟩)
      exact ⟨this.1,by simpa [World.setRow] using this.2,.inr (.inl rfl)⟩
     ·rw [fN] at hf
      have:=hown y hf
      exact ⟨this.1,by simpa [World.setRow] using this.2,.inr (.inr hf)⟩
    ·intro p' e3
     have e4:(Blk.deep q ty szp (ce es k j (.lst sz (es'.set i (bx e1 off ds))))).pinOf = some p':=e3
     rw [←a4]
     exact hs.pin par _ p' hgp (gL e4)
    ·intro p' ty' sz' es3 e3
     have e4:Blk.deep q ty szp (ce es k j (.lst sz (es'.set i (bx e1 off ds)))) = _:=e3
     cases e4
     refine ⟨g1,arr,hrootb,ha,by rw [pn];exact hec,hcm,pI hes,Fpp,f1,f2,fun k' e' j' d u he' hd2 hu=>?_⟩
     rcases pk k1 he' hd2 with ⟨rfl,rfl,rfl⟩|⟨hne,e0,h7,h8⟩
     ·rw [a6'] at hu
      cases hu
      exact hinner
     ·exact (f3 k' e0 j' d u h7 h8 hu).frame fun y hy=>hoth y fun e3=>hne (by subst e3;exact f2 _ _ _ _ _ hy q1)
end rules
end Go.Proofs.YtphakidbddamfaaGreat
namespace Go.Proofs.YtphakidbddamfaaGreat
open Go.RowKit
def dL (hp:List (Nat × Blk)):PV→Option D
 |.d x=>if x.scB = true then some x else none
 |.row id n=>match ae hp id with
  |some (.row _ sz es)=>if es.length = n then some (.lst sz es) else none
  |some (.deep 0 _ sz es)=>if es.length = n then some (.lst sz es) else none
  |_=>none
 |_=>none
def dE (hp:List (Nat × Blk)):List PV→Option (List D)
 |[]=>some []
 |x::r=>match dL hp x,dE hp r with
  |some d,some l=>some (d::l)
  |_,_=>none
def iE (es:List (List D)):Prop:=∀ e,e ∈ es→∀ d,d ∈ e→d.sc
def cy (hp:List (Nat × Blk)):PV→Prop
 |.row id _=>(match ae hp id with
  |some (.row _ _ es)=>iE es
  |_=>True)
 |_=>True
def cY (hp:List (Nat × Blk)):List PV→Prop
 |[]=>True
 |x::r=>cy hp x∧cY hp r
theorem ju {hp:List (Nat × Blk)}:∀ {xs:List PV} {ds:List D},dE hp xs = some ds→ds.length = xs.length∧∀ (j:Nat) x d,xs[j]? = some x→ds[j]? = some d→dL hp x = some d
 |[],ds,h=>by cases h;simp
 |x::r,ds,h=>by
  simp only [dE] at h
  split at h
  ·rename_i d l hd hl
   cases h
   obtain ⟨h1,h2⟩:=ju hl
   refine ⟨by simp [h1],fun j y e hy he=>?_⟩
   cases j with
   |zero=>simp at hy he;subst hy he;exact hd
   |succ j=>exact h2 j y e (by simpa using hy) (by simpa using he)
  ·cases h
theorem jT {hp:List (Nat × Blk)}:∀ {xs:List PV},cY hp xs→∀ x,x ∈ xs→cy hp x
 |x::r,h,y,hy=>by
  rcases List.mem_cons.1 hy with e|hy
  ·subst e;exact h.1
  ·exact jT h.2 y hy
def et (m:Mp) (hp:List (Nat × Blk)):PV→Nat→Prop
 |.row id _,y=>∃ blk,ae hp id = some blk∧blk.has m id y
 |_,_=>False
section
variable {X0:Nat→Prop} {w0:Base} {m:Mp} {s:AS} {a:Act} {w:World}
theorem wz {b c sz:Nat} {ty:TypeId} {es:List (List D)} {arr:Array Value} {X F:Nat→Prop} {mm:Nat→Option Loc} (hF:F b) (hh:w.heap[b]? = some (.cells arr ty (0,0))) (hc:(Blk.row ty sz es).cellsOk mm X w arr c) (hfl:iE es):Tr w F (.lst sz es) (.slice (some ⟨b,0,none⟩) es.length c):=by
 obtain ⟨h1,h2,h3,h4,h5⟩:=hc
 exact .lst F sz es b c arr ty (fun _ _ _=>False) hF hh h1 h2 h3 h4 (fun _ _ _ h=>h.elim) (fun _ _ _ _ _ h=>h.elim) fun k e j d v he hd hv=>(h5 k e j d v he hd hv).tr (hfl e (List.mem_of_getElem? he) d (List.mem_of_getElem? hd))
theorem DpOk.tr {F G:Nat→Prop} {ty:TypeId} {sz b c:Nat} {es:List (List D)} (h:DpOk w F ty sz es (some (.blk b c))) (hb:G b) (hF:∀ x,F x→G x):Tr w G (.lst sz es) (.slice (some ⟨b,0,none⟩) es.length c):=by
 obtain ⟨h1,arr,h2,h3,h4,h5,h6,Fp,h7,h8,h9⟩:=h
 exact .lst G sz es b c arr ty Fp hb h2 h3 h4 h5 h6 (fun k j x hx=>⟨hF x (h7 k j x hx),fun e=>h1 (by subst e;exact h7 k j _ hx)⟩) h8 h9
theorem pP (hs:Sim X0 w0 m s a w) {x:PV} {d:D} {v:Value} (hx:dL s.hp x = some d) (hf:cy s.hp x) (hR:R m.loc (aU X0 m s.hp) w x v):Tr w (et m s.hp x) d v:=by
 cases x with
 |d x=>
  simp only [dL] at hx
  split at hx
  ·rename_i hsc
   cases hx
   exact hR.rd.tr (D.scB_sc hsc)
  ·cases hx
 |row id n=>
  simp only [dL] at hx
  split at hx
  ·rename_i ty sz es hg
   split at hx
   ·rename_i hl
    cases hx
    simp only [cy,hg] at hf
    rcases hR.row_inv with ⟨h1,h2,rfl⟩|⟨b,c,h1,h2,rfl⟩
    ·rw [List.eq_nil_of_length_eq_zero (show es.length = 0 by omega)]
     exact .nil _ _
    ·obtain ⟨arr,hh,hc⟩:=hs.blk hg h1
     rw [←hl]
     exact wz ⟨_,hg,c,h1⟩ hh hc hf
   ·cases hx
  ·rename_i ty sz es hg
   split at hx
   ·rename_i hl
    cases hx
    have hd:=hs.dp id 0 ty sz es hg
    rcases hR.row_inv with ⟨h1,h2,rfl⟩|⟨b,c,h1,h2,rfl⟩
    ·rw [List.eq_nil_of_length_eq_zero (show es.length = 0 by omega)]
     exact .nil _ _
    ·rw [h1] at hd
     rw [←hl]
     exact hd.tr ⟨_,hg,.inl ⟨c,h1⟩⟩ fun y hy=>⟨_,hg,.inr hy⟩
   ·cases hx
  ·cases hx
 |_=>cases hx
theorem gA {x:PV} {y:Nat} (h:et m s.hp x y):∃ id n blk,x = .row id n∧ae s.hp id = some blk∧blk.has m id y:=by
 cases x with
 |row id n=>obtain ⟨blk,h1,h2⟩:=h;exact ⟨id,n,blk,rfl,h1,h2⟩
 |_=>exact h.elim
theorem m4:∀ {xs:List PV},(bb xs).Nodup→∀ (i j:Nat) id n n',xs[i]? = some (.row id n)→xs[j]? = some (.row id n')→i = j
 |[],_,i,j,id,n,n',h,_=>by simp at h
 |x::r,hn,i,j,id,n,n',h,h'=>by
  have hr:(bb r).Nodup:=by
   cases x<;>simp only [bb] at hn<;>first|exact hn|exact (List.nodup_cons.1 hn).2
  have hx:∀ (k q q':Nat),r[k]? = some (PV.row id q)→x≠PV.row id q':=by
   intro k q q' hk e
   have hmem:=d8 (List.mem_of_getElem? hk)
   subst e
   simp only [bb,List.nodup_cons] at hn
   exact hn.1 hmem
  cases i with
  |zero=>
   cases j with
   |zero=>rfl
   |succ j=>simp at h h';exact absurd h (hx j n' n h')
  |succ i=>
   cases j with
   |zero=>simp at h h';exact absurd h' (hx i n n' h)
   |succ j=>rw [m4 hr i j id n n' (by simpa using h) (by simpa using h')]
theorem nI (hs:Sim X0 w0 m s a w) {xs:List PV} (hn:(bb xs).Nodup) {i j:Nat} {x x':PV} {y:Nat} (hi:xs[i]? = some x) (hj:xs[j]? = some x') (h:et m s.hp x y) (h':et m s.hp x' y):i = j:=by
 obtain ⟨id,n,blk,rfl,h1,h2⟩:=gA h
 obtain ⟨id',n',blk',rfl,h3,h4⟩:=gA h'
 have:=hs.inj id id' _ _ y h1 h3 h2 h4
 subst this
 exact m4 hn i j id n n' hi hj
end
def f9 (hp:List (Nat × Blk)) (ids:List Nat):List (Nat × Blk)→List Nat
 |[]=>[]
 |(k,_)::r=>match ae hp k with
  |some (.al par _ _)=>if bh par ids = true then k::f9 hp ids r else f9 hp ids r
  |_=>f9 hp ids r
def iQ (hp:List (Nat × Blk)) (ids:List Nat):List (Nat × Blk):=cp hp (ids++f9 hp ids hp)
theorem memN_iff {i:Nat}:∀ {l:List Nat},bh i l = true↔i ∈ l
 |[]=>by simp [bh]
 |k::r=>by
  simp only [bh,List.mem_cons]
  split
  ·rename_i e;simp [e]
  ·rename_i e;rw [memN_iff];simp [e]
theorem ia {hp:List (Nat × Blk)} {ids:List Nat}:∀ {l:List (Nat × Blk)} {k:Nat},k ∈ f9 hp ids l→∃ par i j,ae hp k = some (.al par i j)∧par ∈ ids
 |[],k,h=>by simp [f9] at h
 |(k0,b)::r,k,h=>by
  simp only [f9] at h
  split at h
  ·rename_i par i j hg
   split at h
   ·rename_i hp'
    rcases List.mem_cons.1 h with rfl|h
    ·exact ⟨par,i,j,hg,memN_iff.1 hp'⟩
    ·exact ia h
   ·exact ia h
  ·exact ia h
theorem lU {hp:List (Nat × Blk)} {ids:List Nat} {k par i j:Nat} (hk:ae hp k = some (.al par i j)) (hp':par ∈ ids):∀ {l:List (Nat × Blk)} {b:Blk},(k,b) ∈ l→k ∈ f9 hp ids l
 |(k0,b0)::r,b,h=>by
  simp only [f9]
  rcases List.mem_cons.1 h with e|h
  ·cases e
   rw [hk]
   simp only [memN_iff.2 hp',if_true]
   exact List.mem_cons_self
  ·have:=lU hk hp' h
   split
   ·split
    ·exact List.mem_cons_of_mem _ this
    ·exact this
   ·exact this
theorem i9 (hp:List (Nat × Blk)) (ids:List Nat) (j:Nat):ae (iQ hp ids) j = if j ∈ ids++f9 hp ids hp then none else ae hp j:=cM hp _ j
theorem gt {hp:List (Nat × Blk)} {ids:List Nat} {j:Nat} {b:Blk} (h:ae (iQ hp ids) j = some b):j ∉ ids∧ae hp j = some b:=by
 rw [i9] at h
 split at h
 ·cases h
 ·rename_i hn
  exact ⟨fun hm=>hn (List.mem_append.2 (.inl hm)),h⟩
theorem n6 {hp:List (Nat × Blk)} {ids:List Nat} {j:Nat} {b:Blk} (h:ae hp j = some b) (hj:j ∉ ids) (hb:b.isAl = false):ae (iQ hp ids) j = some b:=by
 rw [i9,if_neg]
 ·exact h
 ·intro hm
  rcases List.mem_append.1 hm with hm|hm
  ·exact hj hm
  ·obtain ⟨par,i,k,h2,_⟩:=ia hm
   rw [h] at h2
   cases h2
   cases hb
theorem rX {hp:List (Nat × Blk)} {ids:List Nat} {k par i j:Nat} (h:ae (iQ hp ids) k = some (.al par i j)):par ∉ ids:=by
 intro hp'
 have h2:=(gt h).2
 rw [i9,if_pos] at h
 ·cases h
 ·exact List.mem_append.2 (.inr (lU h2 hp' (jH h2)))
theorem jW {hp:List (Nat × Blk)} {ids:List Nat} {j:Nat} (hj:j ∈ ids):ae (iQ hp ids) j = none:=by
 rw [i9,if_pos (List.mem_append.2 (.inl hj))]
theorem vx {sz k j k' j':Nat} (hj:j < sz) (hj':j' < sz) (h:k * sz + j = k' * sz + j'):k = k'∧j = j':=by
 rcases Nat.lt_trichotomy k k' with h1|h1|h1
 ·have:=cr h1 hj;omega
 ·subst h1;exact ⟨rfl,by omega⟩
 ·have:=cr h1 hj';omega
section rules
variable {P:Program} {o:Oper} {s:AS} {K:AS→Prop} {KP:PV→Prop}
theorem bA {t e:TypeId} {sz bytes len:Nat} {z ds:List D} {parts:Array (Nat × Operand)} {cs:List PV} (ho:o.op = .buildSlice t len parts) (ht:cd P t (.slc e sz bytes z) = true) (hlen:len * sz≤16777216)
  (hf:ef (fun i=>some (i * sz,sz)) (List.replicate (len * sz) .und) (parts.toList.map fun p=>(p.1,s.get p.2)) = some cs) (hd:dE s.hp cs = some ds) (hnd:(bb cs).Nodup) (hfl:cY s.hp cs)
  (hK:K (AS.put ⟨s.fr,(s.nx,.deep 0 e sz (eO sz len ds))::iQ s.hp (bb cs),s.nx + 1⟩ o.dst (.row s.nx len))):PO P o s K:=
 PO.mk fun X0 w0 m a w hs=>by
  obtain ⟨h1,⟨i,v,h4,h5,h5b,h6,h7⟩,h8,h9,_⟩:=dS ht
  obtain ⟨arr',r1,r2,r3,r4⟩:=fE (m:=m.loc) (X:=aU X0 m s.hp) (w:=w) (fun i=>some (i * sz,sz)) _ (parts.toList.map fun p=>(p.1,a.eval p.2)) _ _ ((Array.range (len * sz)).map (v.cells[· % v.cells.size]!)) hf (by simp) (fun j x u hx hu=>by
   rw [List.getElem?_map] at hx hu
   cases hj:parts.toList[j]? with
   |none=>rw [hj] at hx;cases hx
   |some p=>
    rw [hj] at hx hu
    cases hx
    cases hu
    exact hs.get p.2) (by simp) (fun j x u hx hu=>by
   have hx':x = .und:=by
    have:=List.mem_of_getElem? hx
    exact List.eq_of_mem_replicate this
   subst hx'
   exact ⟨.und _,.inl rfl⟩)
  obtain ⟨f1,f2⟩:=ju hd
  have hsize:arr'.size = len * sz:=by rw [r2,r3];simp
  have hdl:ds.length = len * sz:=by rw [f1,←r2,hsize]
  have hcl:cs.length = len * sz:=by rw [←f1,hdl]
  have hlold:∀ y x,x ∈ cs→et m s.hp x y→(w0.w.heap.size≤y∨w0.chg y)∧y < w.heap.size:=by
   intro y x _ h
   obtain ⟨id,n,blk,_,h3,h4⟩:=gA h
   exact hs.own id blk y h3 h4
  have hmemid:∀ y x,x ∈ cs→et m s.hp x y→∃ id blk,id ∈ bb cs∧ae s.hp id = some blk∧blk.has m id y:=by
   intro y x hx h
   obtain ⟨id,n,blk,rfl,h3,h4⟩:=gA h
   exact ⟨id,blk,d8 hx,h3,h4⟩
  have hnnx:∀ id blk,ae s.hp id = some blk→id≠s.nx:=fun id blk h e2=>by subst e2;rw [hs.hget_nx] at h;cases h
  have hold:∀ y,y < w.heap.size→(w.alloc (.cells arr' e)).heap[y]? = w.heap[y]?:=fun y hy=>Below.heap_alloc w _ y hy
  let nd:Blk:=.deep 0 e sz (eO sz len ds)
  have hSim:Sim X0 w0 (bN m s.nx (.blk w.heap.size len) (fun y=>∃ x,x ∈ cs∧et m s.hp x y)) ⟨s.fr,(s.nx,nd)::iQ s.hp (bb cs),s.nx + 1⟩ a (w.alloc (.cells arr' e)):=by
   refine hs.changeD (i:=s.nx) (blk':=nd) (fun y=>∃ x,x ∈ cs∧et m s.hp x y) (.inl hs.hnx) (by simp [ae]) (fun id hne blk hb=>by rw [ae,if_neg hne] at hb;exact (gt hb).2) rfl (fun id par k j hne ha=>?_) (by omega) (by omega) (KeepB.of_below ((Bel.refl _ _).alloc hs.below.size _)) (fun y hy _=>hold y hy) (fun y hy=>?_) (fun y hy=>?_) (fun p e2=>by have e3:(none:Option Nat) = some p:=e2;cases e3) (fun p ty sz' es e2=>?_) (fun _=>trivial)
   ·rw [ae,if_neg hne] at ha
    have h2:=(gt ha).2
    obtain ⟨q,ty,sz',es,_,_,_,_,_,_,a1,_⟩:=hs.al id par k j h2
    have hn2:=hnnx par _ a1
    exact .inl ⟨hn2,by rw [ae,if_neg hn2,n6 a1 (rX ha) rfl,a1]⟩
   ·obtain ⟨x,hx,hc⟩:=hy
    obtain ⟨id,blk,h2,h3,h4⟩:=hmemid y x hx hc
    exact ⟨id,blk,h3,h4,.inr (by rw [ae,if_neg (hnnx id _ h3),jW h2])⟩
   ·rcases hy with ⟨c,hc⟩|hf
    ·rw [bp] at hc
     cases hc
     exact ⟨.inl hs.below.size,by simp,.inl (Nat.le_refl _)⟩
    ·have hxy:=hf
     rw [fN] at hxy
     obtain ⟨x,hx,hc⟩:=hxy
     have:=hlold y x hx hc
     exact ⟨this.1,by simp;omega,.inr ⟨x,hx,hc⟩⟩
   ·have e3:Blk.deep 0 e sz (eO sz len ds) = _:=e2
    cases e3
    refine ⟨fun ⟨x,hx,hc⟩=>by have:=(hlold _ x hx hc).2;omega,arr',heap_alloc_new w _,hsize,by rw [gv];exact Nat.le_refl _,?_,fun e' he'=>?_,fun k j y=>j < sz∧∃ x,cs[k * sz + j]? = some x∧et m s.hp x y,fun k j y ⟨_,x,hx,hc⟩=>⟨x,List.mem_of_getElem? hx,hc⟩,fun k j k' j' y ⟨hj,x,hx,hc⟩ ⟨hj',x',hx',hc'⟩=>vx hj hj' (nI hs hnd hx hx' hc hc'),fun k e' j d u hk hj hu=>?_⟩
    ·have:len≤len * sz:=Nat.le_mul_of_pos_right _ h9
     unfold maxLen;omega
    ·obtain ⟨k,hk⟩:=List.getElem?_of_mem he'
     have hkl:k < len:=by have:=(List.getElem?_eq_some_iff.1 hk).1;rwa [gv] at this
     rw [gx sz len ds k e' hk]
     have:(k + 1) * sz≤len * sz:=Nat.mul_le_mul_right _ hkl
     rw [Nat.succ_mul] at this
     simp;omega
    ·rw [gx sz len ds k e' hk,List.getElem?_take] at hj
     split at hj
     ·rename_i hjs
      rw [List.getElem?_drop] at hj
      have hlt:k * sz + j < cs.length:=by rw [←f1];exact (List.getElem?_eq_some_iff.1 hj).1
      have hx:=List.getElem?_eq_getElem hlt
      have hmem:=List.getElem_mem hlt
      have htr:=pP hs (f2 _ _ d hx hj) (jT hfl _ hmem) (r4 _ _ u hx hu).1
      exact (htr.sub fun y hy=>(⟨hjs,_,hx,hy⟩:j < sz∧∃ x,cs[k * sz + j]? = some x∧et m s.hp x y)).frame fun y ⟨_,x,hx,hc⟩=>hold y (hlold y x (List.mem_of_getElem? hx) hc).2
     ·cases hj
  refine ⟨.slice (some ⟨w.heap.size,0,none⟩) len len,_,_,_,.row s.nx len,?_,hSim,.rowB _ _ w.heap.size len (bp _ _ _) (Nat.le_refl _),hK⟩
  have e1:(parts.map fun p=>(p.1,a.eval p.2)).toList = parts.toList.map fun p=>(p.1,a.eval p.2):=by simp
  subst h5
  rcases Nat.eq_zero_or_pos (len * i.size) with h0|h0
  ·have hl0:len = 0:=by
    rcases Nat.eq_zero_or_pos len with h|h
    ·exact h
    ·have:=Nat.mul_pos h h9;omega
   subst hl0
   have hpn:parts.toList = []:=by
    cases hpp:parts.toList with
    |nil=>rfl
    |cons p r=>
     exfalso
     rw [hpp] at hf
     simp only [List.map_cons,ef] at hf
     split at hf
     ·rename_i hh
      have h3:=hh.2.1
      simp at h3
      omega
     ·cases hf
   have hpe:parts = #[]:=Array.ext' (by simpa using hpn)
   subst hpe
   have:arr' = #[]:=Array.eq_empty_of_size_eq_zero (by rw [hsize];exact h0)
   subst this
   simp [execOp,ho,Instr.buildSlice,run_underlying h1,sizeOf,typeInfo,h4,Instr.fill,newRow,Array.range_zero']
  ·have hsm:¬ len * i.size > 2 ^ 24:=by simp;omega
   have hpos:¬ len * i.size = 0:=by omega
   simp only [execOp,ho,Sem.run_bind]
   have hrun:(Instr.buildSlice t len (parts.map fun p=>(p.1,a.eval p.2))).run P w = .ok (.slice (some ⟨w.heap.size,0,none⟩) len len) (w.alloc (.cells arr' e)):=by
    have e2:=e1
    simp only [Instr.buildSlice,Sem.run_bind,run_underlying h1,Result.andThen_ok]
    simp [sizeOf,typeInfo,zeroValue,h4,h6,hsm,hpos,r1,newRow]
   rw [hrun]
   rfl
def pr (hp:List (Nat × Blk)) (id:Nat):Option (TypeId × Nat × List (List D)):=match ae hp id with
 |some (.row ty sz es)=>some (ty,sz,es)
 |some (.deep 0 ty sz es)=>some (ty,sz,es)
 |_=>none
theorem p_ {X0:Nat→Prop} {w0:Base} {m:Mp} {a:Act} {w:World} (hs:Sim X0 w0 m s a w) {id n sz:Nat} {ty:TypeId} {es:List (List D)} {v:Value} (hg:pr s.hp id = some (ty,sz,es)) (hn:es.length = n) (hf:cy s.hp (.row id n)) (hR:R m.loc (aU X0 m s.hp) w (.row id n) v):
  ∃ (l:Loc) (xs:List Value) (blk:Blk) (Fp:Nat→Nat→Nat→Prop),ae s.hp id = some blk∧blk.isAl = false∧m.loc id = some l∧(∀ b c,l = .blk b c→blk.has m id b)∧Lies w ty sz l v n xs∧(∀ e,e ∈ es→e.length = sz)∧(∀ k j y,Fp k j y→blk.has m id y∧∀ b c,l = .blk b c→y≠b)∧(∀ (k j k' j' y:Nat),Fp k j y→Fp k' j' y→k = k'∧j = j')∧
   (∀ u ∈ xs,u.oneCell' = true)∧∀ (k:Nat) (e:List D) (j:Nat) (d:D) (u:Value),es[k]? = some e→e[j]? = some d→xs[k * sz + j]? = some u→Tr w (Fp k j) d u:=by
 have one:∀ (xs:List Value) (Fp:Nat→Nat→Nat→Prop),xs.length = n * sz→(∀ e,e ∈ es→e.length = sz)→(∀ (k:Nat) (e:List D) (j:Nat) (d:D) (u:Value),es[k]? = some e→e[j]? = some d→xs[k * sz + j]? = some u→Tr w (Fp k j) d u)→∀ u ∈ xs,u.oneCell' = true:=by
  intro xs Fp hl hz hc u hu
  obtain ⟨i,hi⟩:=List.getElem?_of_mem hu
  have hil:=(List.getElem?_eq_some_iff.1 hi).1
  rw [hl] at hil
  have hsz:0 < sz:=by
   rcases Nat.eq_zero_or_pos sz with h0|h0
   ·subst h0;omega
   ·exact h0
  have hk:i / sz < es.length:=by rw [hn];exact (Nat.div_lt_iff_lt_mul hsz).2 hil
  have he:=List.getElem?_eq_getElem hk
  have hj:i % sz < (es[i / sz]).length:=by rw [hz _ (List.getElem_mem hk)];exact Nat.mod_lt _ hsz
  have hi':xs[i / sz * sz + i % sz]? = some u:=by rw [Nat.mul_comm,Nat.div_add_mod];exact hi
  exact (hc _ _ _ _ u he (List.getElem?_eq_getElem hj) hi').one
 unfold pr at hg
 split at hg
 ·rename_i ty' sz' es' hgt
  cases hg
  simp only [cy,hgt] at hf
  obtain ⟨l,xs,h1,h2,h3⟩:=l3 hs hgt hn hR
  have hz:∀ e,e ∈ es→e.length = sz:=by
   obtain ⟨lb,hlb,hok⟩:=hs.hp id _ hgt
   rw [h1] at hlb
   cases hlb
   intro e he
   cases l with
   |nil=>have h0:es = []:=hok;rw [h0] at he;cases he
   |blk b c=>obtain ⟨arr,_,hc⟩:=hok;exact hc.2.2.2.1 e he
  have hc:∀ (k:Nat) (e:List D) (j:Nat) (d:D) (u:Value),es[k]? = some e→e[j]? = some d→xs[k * sz + j]? = some u→Tr w ((fun _ _ _=>False:Nat→Nat→Nat→Prop) k j) d u:=fun k e j d u he hd hu=>(h3 k e j d u he hd hu).tr (hf e (List.mem_of_getElem? he) d (List.mem_of_getElem? hd))
  exact ⟨l,xs,_,fun _ _ _=>False,hgt,rfl,h1,fun b c e=>⟨c,by rw [h1,e]⟩,h2,hz,fun _ _ _ h=>h.elim,fun _ _ _ _ _ h=>h.elim,one xs _ h2.len hz hc,hc⟩
 ·rename_i ty' sz' es' hgt
  cases hg
  have hd:=hs.dp id 0 ty sz es hgt
  rcases hR.row_inv with ⟨h1,h2,rfl⟩|⟨b,c,h1,h2,rfl⟩
  ·have he0:es = []:=List.eq_nil_of_length_eq_zero (by omega)
   subst he0
   exact ⟨.nil,[],_,fun _ _ _=>False,hgt,rfl,h1,fun b c e=>(by cases e),⟨rfl,h2,rfl⟩,fun e he=>(by cases he),fun _ _ _ h=>h.elim,fun _ _ _ _ _ h=>h.elim,fun u hu=>(by cases hu),fun k e j d u he=>by simp at he⟩
  ·rw [h1] at hd
   obtain ⟨g1,arr,g2,g3,g4,g5,g6,Fp,g7,g8,g9⟩:=hd
   have hlies:Lies w ty sz (.blk b c) (.slice (some ⟨b,0,none⟩) n c) n (arr.toList.take (n * sz)):=⟨rfl,arr,g2,g3,h2,g5,rfl⟩
   have hc:∀ (k:Nat) (e:List D) (j:Nat) (d:D) (u:Value),es[k]? = some e→e[j]? = some d→(arr.toList.take (n * sz))[k * sz + j]? = some u→Tr w (Fp k j) d u:=by
    intro k e j d u he hd hu
    rw [List.getElem?_take] at hu
    split at hu
    ·exact g9 k e j d u he hd (by simpa using hu)
    ·cases hu
   exact ⟨.blk b c,_,_,Fp,hgt,rfl,h1,fun b' c' e=>by cases e;exact .inl ⟨c,h1⟩,hlies,g6,fun k j y hy=>⟨.inr (g7 k j y hy),fun b' c' e=>by cases e;exact fun e2=>g1 (by rw [←e2];exact g7 k j y hy)⟩,g8,one _ Fp hlies.len g6 hc,hc⟩
 ·cases hg
theorem bM {x y:Operand} {t e:TypeId} {sz bytes id id2 n n2 ty2:Nat} {z:List D} {es fs:List (List D)} (ho:o.op = .call {callee:=.builtin .append,args:=#[x,y],argTypes:=#[t,t]}) (ht:cd P t (.slc e sz bytes z) = true)
  (hx:s.get x = .row id n) (hy:s.get y = .row id2 n2) (hg:pr s.hp id = some (e,sz,es)) (hg2:pr s.hp id2 = some (ty2,sz,fs)) (hne:id≠id2) (hn:es.length = n) (hn2:fs.length = n2) (hf:cy s.hp (.row id n)) (hf2:cy s.hp (.row id2 n2)) (hlen:es.length + fs.length≤16777216)
  (hK:K (AS.put ⟨s.fr,(s.nx,.deep 0 e sz (es++fs))::iQ s.hp [id,id2],s.nx + 1⟩ o.dst (.row s.nx (n + n2)))):PO P o s K:=
 PO.mk fun X0 w0 m a w hs=>by
  have hRx:=hs.get x
  rw [hx] at hRx
  have hRy:=hs.get y
  rw [hy] at hRy
  obtain ⟨l,xs,blk,Fp,b1,b1a,b2,b3,b4,b5,b6,b7,b8,b9⟩:=p_ hs hg hn hf hRx
  obtain ⟨l2,news,blk2,Fp2,c1,c1a,c2,c3,c4,c5,c6,c7,c8,c9⟩:=p_ hs hg2 hn2 hf2 hRy
  obtain ⟨g1,⟨i,v,g2,g3,g4,g5,g6⟩,g7,g8,g9,_⟩:=dS ht
  have hzs:v.cells.size = sz:=by rw [(iG g6).1,g7]
  have hbig:(n + n2) * bytes≤140737488355328:=Nat.le_trans (Nat.mul_le_mul (show n + n2≤16777216 by omega) g9) (by decide)
  obtain ⟨A,c',hsl,hA,hnews⟩:∃ A c',a.eval y = .slice A n2 c'∧(A = none→n2 = 0)∧∀ ad,A = some ad→∀ (j:Nat) u,news[j]? = some u→w.cell? (ad.add j) = some u:=by
   cases l2 with
   |nil=>obtain ⟨q1,q2,q3⟩:=c4;subst q2;exact ⟨none,0,q1,fun _=>rfl,fun ad e=>by cases e⟩
   |blk b c=>
    obtain ⟨q1,arr,q2,q3,q4,q5,q6⟩:=c4
    refine ⟨_,c,q1,(fun e=>by cases e),fun ad e j u hu=>?_⟩
    cases e
    rw [←q6,List.getElem?_take] at hu
    split at hu
    ·rw [Addr.add_lit]
     simp only [World.cell?,q2,Nat.zero_add]
     simpa using hu
    ·cases hu
  obtain ⟨v',w',l',r1,r2,r3,r4,r5,r6,r7,r8⟩:=mL (P:=P) (ty:=o.type) (c':=c') g1 g2 g5 g3 g4 hzs b4 c4.len hA hnews c8 (by unfold maxLen;omega) hbig
  let FN:Nat→Nat→Nat→Prop:=fun k j u=>(k < n∧Fp k j u)∨(n≤k∧k - n < n2∧Fp2 (k - n) j u)
  let F':Nat→Prop:=fun u=>∃ k j,k < n + n2∧FN k j u
  let nd:Blk:=.deep 0 e sz (es++fs)
  have hFhas:∀ u,F' u→blk.has m id u∧(∀ b c,l = .blk b c→u≠b)∨blk2.has m id2 u:=by
   rintro u ⟨k,j,_,h|h⟩
   ·exact .inl (b6 k j u h.2)
   ·exact .inr (c6 _ j u h.2.2).1
  have hold:∀ u,u < w.heap.size→(∀ c,l≠.blk u c)→w'.heap[u]? = w.heap[u]?:=r7
  have hF:∀ u,F' u→u < w.heap.size∧w'.heap[u]? = w.heap[u]?:=by
   intro u hu
   rcases hFhas u hu with ⟨h1,h2⟩|h1
   ·have h3:=(hs.own id _ u b1 h1).2
    exact ⟨h3,hold u h3 fun c e2=>h2 u c e2 rfl⟩
   ·have h3:=(hs.own id2 _ u c1 h1).2
    exact ⟨h3,hold u h3 fun c e2=>hne (hs.inj id id2 _ _ u b1 c1 (b3 u c e2) h1)⟩
  have hnnx:∀ i blk,ae s.hp i = some blk→i≠s.nx:=fun i blk h e2=>by subst e2;rw [hs.hget_nx] at h;cases h
  have hSim:Sim X0 w0 (bN m s.nx l' F') ⟨s.fr,(s.nx,nd)::iQ s.hp [id,id2],s.nx + 1⟩ a w':=by
   refine hs.changeD (i:=s.nx) (blk':=nd) (fun u=>blk.has m id u∨blk2.has m id2 u) (.inl hs.hnx) (by simp [ae]) (fun i hne blk hb=>by rw [ae,if_neg hne] at hb;exact (gt hb).2) rfl (fun i par k j hne ha=>?_) (by omega) (by omega) ⟨r3,r4,r5,r6.1,fun k hk hn'=>hold k (by have:=hs.below.size;omega) (fun c e2=>by rcases (hs.own id _ k b1 (b3 k c e2)).1 with h|h;omega;exact hn' h),.of_le r6.2⟩ (fun u hu hnu=>hold u hu fun c e2=>hnu (.inl (b3 u c e2))) (fun u hu=>?_) (fun u hu=>?_) (fun p e2=>by have e3:(none:Option Nat) = some p:=e2;cases e3) (fun p ty sz' es' e2=>?_) (fun _=>trivial)
   ·rw [ae,if_neg hne] at ha
    have h2:=(gt ha).2
    obtain ⟨q,ty,sz',es,_,_,_,_,_,_,a1,_⟩:=hs.al i par k j h2
    have hn2:=hnnx par _ a1
    exact .inl ⟨hn2,by rw [ae,if_neg hn2,n6 a1 (rX ha) rfl,a1]⟩
   ·rcases hu with hu|hu
    ·exact ⟨id,_,b1,hu,.inr (by rw [ae,if_neg (hnnx id _ b1),jW (by simp)])⟩
    ·exact ⟨id2,_,c1,hu,.inr (by rw [ae,if_neg (hnnx id2 _ c1),jW (by simp)])⟩
   ·rcases hu with ⟨c,hc⟩|hfu
    ·rw [bp] at hc
     cases hc
     obtain ⟨q1,q2⟩:=r8 u c rfl
     rcases q2 with q2|q2
     ·exact ⟨.inl (Nat.le_trans hs.below.size q2),q1,.inl q2⟩
     ·exact ⟨(hs.own id _ u b1 (b3 u c q2)).1,q1,.inr (.inl (b3 u c q2))⟩
    ·rw [fN] at hfu
     have h1:=(hF u hfu).1
     rcases hFhas u hfu with ⟨h2,_⟩|h2
     ·exact ⟨(hs.own id _ u b1 h2).1,by omega,.inr (.inl h2)⟩
     ·exact ⟨(hs.own id2 _ u c1 h2).1,by omega,.inr (.inr h2)⟩
   ·have e3:Blk.deep 0 e sz (es++fs) = _:=e2
    cases e3
    cases l' with
    |nil=>
     obtain ⟨_,q2,_⟩:=r2
     refine ⟨List.eq_nil_of_length_eq_zero (by rw [List.length_append];omega),?_⟩
     rintro u ⟨k,j,hk,_⟩
     omega
    |blk g cc=>
     obtain ⟨_,arr,q2,q3,q4,q5,q6⟩:=r2
     refine ⟨fun hg'=>?_,arr,q2,q3,by simp;omega,q5,fun e' he'=>(List.mem_append.1 he').elim (b5 e') (c5 e'),fun k j u=>k < n + n2∧FN k j u,fun k j u ⟨hk,hu⟩=>⟨k,j,hk,hu⟩,?_,fun k e' j d u he' hd hu=>?_⟩
     ·rcases (r8 g cc rfl).2 with h|h
      ·have:=(hF g hg').1;omega
      ·rcases hFhas g hg' with ⟨_,h2⟩|h2
       ·exact h2 g cc h rfl
       ·exact hne (hs.inj id id2 _ _ g b1 c1 (b3 g cc h) h2)
     ·rintro k j k' j' u ⟨_,h1|h1⟩ ⟨_,h2|h2⟩
      ·exact b7 k j k' j' u h1.2 h2.2
      ·exact (hne (hs.inj id id2 _ _ u b1 c1 (b6 k j u h1.2).1 (c6 _ j' u h2.2.2).1)).elim
      ·exact (hne (hs.inj id id2 _ _ u b1 c1 (b6 k' j' u h2.2).1 (c6 _ j u h1.2.2).1)).elim
      ·have:=c7 _ _ _ _ u h1.2.2 h2.2.2
       omega
     ·have hxl:xs.length = n * sz:=b4.len
      have hkl:=(List.getElem?_eq_some_iff.1 he').1
      rw [List.length_append] at hkl
      have hesz:e'.length = sz:=(List.mem_append.1 (List.mem_of_getElem? he')).elim (b5 e') (c5 e')
      have hj:j < sz:=by rw [←hesz];exact (List.getElem?_eq_some_iff.1 hd).1
      have hu2:(xs++news)[k * sz + j]? = some u:=by
       rw [←q6,List.getElem?_take_of_lt (cr (by omega) hj)]
       simpa using hu
      have hkn:k < n + n2:=by omega
      by_cases hk:k < es.length
      ·rw [List.getElem?_append_left hk] at he'
       rw [List.getElem?_append_left (by rw [hxl];exact cr (by omega) hj)] at hu2
       refine ((b9 k e' j d u he' hd hu2).sub fun y hy=>(⟨hkn,.inl ⟨by omega,hy⟩⟩:k < n + n2∧FN k j y)).frame fun y hy=>(hF y ⟨k,j,hy⟩).2
      ·rw [List.getElem?_append_right (by omega)] at he'
       have e3:n * sz≤k * sz + j:=by
        have:n * sz≤k * sz:=Nat.mul_le_mul_right _ (by omega)
        omega
       rw [List.getElem?_append_right (by rw [hxl];exact e3),hxl] at hu2
       have e4:k * sz + j - n * sz = (k - es.length) * sz + j:=by
        rw [Nat.sub_mul,hn]
        have:n * sz≤k * sz:=Nat.mul_le_mul_right _ (by omega)
        omega
       rw [e4] at hu2
       refine ((c9 (k - es.length) e' j d u he' hd hu2).sub fun y hy=>(⟨hkn,.inr ⟨by omega,by omega,by rw [←hn];exact hy⟩⟩:k < n + n2∧FN k j y)).frame fun y hy=>(hF y ⟨k,j,hy⟩).2
  refine ⟨v',w',_,_,.row s.nx (n + n2),?_,hSim,pC r2 (bp _ _ _),hK⟩
  have e1:(execOp a.eval o) = (do let r←Builtin.append_ #[t,t] o.type #[a.eval x,a.eval y];pure (Next.value r)):=by
   simp [execOp,ho,resolve,invoke,builtin]
  rw [e1,Sem.run_bind,hsl,r1]
  rfl
theorem vm {hp:List (Nat × Blk)} {xs:List PV} {ds:List D} (h:dE hp xs = some ds):∀ y,y ∈ xs→eD y = true:=by
 intro y hy
 obtain ⟨j,hj⟩:=List.getElem?_of_mem hy
 obtain ⟨h1,h2⟩:=ju h
 have hlt:j < ds.length:=by rw [h1];exact (List.getElem?_eq_some_iff.1 hj).1
 have:=h2 j y _ hj (List.getElem?_eq_getElem hlt)
 cases y<;>first|rfl|cases this
def eb (hp:List (Nat × Blk)) (ids:List Nat) (id:Nat):List (Nat × Blk):=cp hp (ids++f9 hp (id::ids) hp)
theorem iD (hp:List (Nat × Blk)) (ids:List Nat) (id j:Nat):ae (eb hp ids id) j = if j ∈ ids++f9 hp (id::ids) hp then none else ae hp j:=cM hp _ j
theorem fb {hp:List (Nat × Blk)} {ids:List Nat} {id j:Nat} {b:Blk} (h:ae (eb hp ids id) j = some b):j ∉ ids∧ae hp j = some b:=by
 rw [iD] at h
 split at h
 ·cases h
 ·rename_i hn
  exact ⟨fun hm=>hn (List.mem_append.2 (.inl hm)),h⟩
theorem gH {hp:List (Nat × Blk)} {ids:List Nat} {id j:Nat} {b:Blk} (h:ae hp j = some b) (hj:j ∉ ids) (hb:b.isAl = false):ae (eb hp ids id) j = some b:=by
 rw [iD,if_neg]
 ·exact h
 ·intro hm
  rcases List.mem_append.1 hm with hm|hm
  ·exact hj hm
  ·obtain ⟨par,i,k,h2,_⟩:=ia hm
   rw [h] at h2
   cases h2
   cases hb
theorem qB {hp:List (Nat × Blk)} {ids:List Nat} {id k par i j:Nat} (h:ae (eb hp ids id) k = some (.al par i j)):par ∉ ids∧par≠id:=by
 have key:par ∉ id::ids:=by
  intro hp'
  have h2:=(fb h).2
  rw [iD,if_pos] at h
  ·cases h
  ·exact List.mem_append.2 (.inr (lU h2 hp' (jH h2)))
 exact ⟨fun h=>key (List.mem_cons_of_mem _ h),fun h=>key (by rw [h];exact List.mem_cons_self)⟩
theorem sn {hp:List (Nat × Blk)} {ids:List Nat} {id j:Nat} (hj:j ∈ ids):ae (eb hp ids id) j = none:=by
 rw [iD,if_pos (List.mem_append.2 (.inl hj))]
theorem j7 {t:TypeId} {p x:Operand} {ti:TI} {id sz k off q ty:Nat} {es:List (List D)} {e ds:List D} (ho:o.op = .store t p x) (ht:cd P t ti = true) (hp:s.get p = .rptr id sz k off) (hg:ae s.hp id = some (.deep q ty sz es)) (hk:es[k]? = some e)
  (hd:dE s.hp (bg (s.get x)) = some ds) (hnd:(bb (bg (s.get x))).Nodup) (hfl:cY s.hp (bg (s.get x))) (hni:id ∉ bb (bg (s.get x))) (hn:ds.length = ti.size) (hl:off + ti.size≤e.length)
  (hK:K (AS.put ⟨s.fr,bj (eb s.hp (bb (bg (s.get x))) id) id (.deep q ty sz (es.set k (bx e off ds))),s.nx⟩ o.dst .und)):PO P o s K:=
 PO.skip fun X0 w0 m a w hs=>by
  have h2:=(hs.get x).cellsOf (vm hd)
  generalize hcs:bg (s.get x) = cs at hd hnd hfl hni hK h2
  obtain ⟨f1',f2'⟩:=ju hd
  rw [←f1'] at h2
  have h3:=hs.get p
  rw [hp] at h3
  obtain ⟨b,c,hm,he⟩:=h3.rptr_inv
  have hdp:=hs.dp id q ty sz es hg
  rw [hm] at hdp
  obtain ⟨g1,arr,hh,ha,hec,hcm,hes,Fp,f1,f2,f3⟩:=hdp
  obtain ⟨i,hi,hisz⟩:=fH ht
  have hklt:=(List.getElem?_eq_some_iff.1 hk).1
  have hesz:=hes e (List.mem_of_getElem? hk)
  have hbig:(k + 1) * sz≤c * sz:=Nat.mul_le_mul_right _ (by omega)
  rw [Nat.succ_mul] at hbig
  have hvl:k * sz + off + (a.eval x).cells.size≤arr.size:=by rw [h2.1,hn,ha];omega
  have hcx:∀ j,j < ds.length→∃ xx,cs[j]? = some xx:=fun j hj=>⟨_,List.getElem?_eq_getElem (by rw [←f1'];exact hj)⟩
  have h6:∀ u ∈ (a.eval x).cells.toList,u.oneCell' = true:=by
   intro u hu
   obtain ⟨j,hj⟩:=List.getElem?_of_mem hu
   have hj':(a.eval x).cells[j]? = some u:=by simpa using hj
   have hlt:j < ds.length:=by rw [←h2.1];exact (Array.getElem?_eq_some_iff.1 hj').1
   obtain ⟨xx,hxx⟩:=hcx j hlt
   exact (h2.2 j xx u hxx hj').2
  have hrun:=eW (P:=P) (t:=t) hi (by rw [h2.1,hn,hisz]) hh hvl h6
  have e1:(a.eval x).cells.toList.length = ds.length:=by simpa using h2.1
  have hown:=hs.own id _ b hg (.inl ⟨c,hm⟩)
  have hcell:∀ y xx,xx ∈ cs→et m s.hp xx y→∃ id' blk,id' ∈ bb cs∧ae s.hp id' = some blk∧blk.has m id' y:=by
   intro y xx hx h
   obtain ⟨id',n,blk,rfl,h3,h4⟩:=gA h
   exact ⟨id',blk,d8 hx,h3,h4⟩
  have hcb:∀ y xx,xx ∈ cs→et m s.hp xx y→((w0.w.heap.size≤y∨w0.chg y)∧y < w.heap.size)∧y≠b∧¬ m.ft id y:=by
   intro y xx hx h
   obtain ⟨id',blk,h3,h4,h5⟩:=hcell y xx hx h
   have hne:id'≠id:=fun e2=>hni (by rw [←e2];exact h3)
   exact ⟨hs.own id' blk y h4 h5,fun e2=>hne (hs.inj id' id _ _ y h4 hg h5 (.inl ⟨c,by rw [e2];exact hm⟩)),fun hf=>hne (hs.inj id' id _ _ y h4 hg h5 (.inr hf))⟩
  let nd:Blk:=.deep q ty sz (es.set k (bx e off ds))
  let F':Nat→Prop:=fun y=>m.ft id y∨∃ xx,xx ∈ cs∧et m s.hp xx y
  have hgid:ae (eb s.hp (bb cs) id) id = some (.deep q ty sz es):=gH hg hni rfl
  have hset_ne:∀ id',id'≠id→ae (bj (eb s.hp (bb cs) id) id nd) id' = ae (eb s.hp (bb cs) id) id':=fun id' hne=>by rw [bq,if_neg hne]
  have hset_eq:ae (bj (eb s.hp (bb cs) id) id nd) id = some nd:=by rw [bq];simp [hgid]
  have hoth:∀ y,y≠b→(w.setRow b (bx arr.toList (k * sz + off) (a.eval x).cells.toList).toArray).heap[y]? = w.heap[y]?:=fun y hy=>setRow_other w b y _ hy
  have hnewh:=setRow_heap w b arr (bx arr.toList (k * sz + off) (a.eval x).cells.toList).toArray ty _ hh
  have hcells:=fun {k' j:Nat} {e':List D} {d:D} {u:Value}=>kj (arr:=arr.toList) (vs:=(a.eval x).cells.toList) hk hes (by rw [hn];exact hl) e1 (by simpa using hvl) (k':=k') (j:=j) (e':=e') (d:=d) (u:=u)
  refine ⟨w.setRow b (bx arr.toList (k * sz + off) (a.eval x).cells.toList).toArray,bN m id (.blk b c) F',⟨s.fr,bj (eb s.hp (bb cs) id) id nd,s.nx⟩,?_,?_,hK⟩
  ·simp only [execOp,ho,he,Sem.run_bind,hrun,Result.andThen_ok,Sem.run_pure]
  ·refine hs.changeD (i:=id) (blk':=nd) (F':=F') (fun y=>y = b∨F' y) (.inr hm) hset_eq (fun id' hne blk hb=>by rw [hset_ne id' hne] at hb;exact (fb hb).2) rfl (fun id' par k' j' hne ha'=>?_) (Nat.le_refl _) (hs.lt_nx hm) ?_ (fun y hy hne=>hoth y fun h=>hne (.inl h)) ?_ ?_ ?_ ?_ (fun _=>trivial)
   ·rw [hset_ne id' hne] at ha'
    have h7:=(fb ha').2
    obtain ⟨h8,h9⟩:=qB ha'
    obtain ⟨q',ty',sz',es',_,_,_,_,_,_,a1,_⟩:=hs.al id' par k' j' h7
    exact .inl ⟨h9,by rw [hset_ne par h9,gH a1 h8 rfl,a1]⟩
   ·exact ⟨rfl,rfl,rfl,by simp [World.setRow],fun y hy hne=>hoth y (fun e2=>by subst e2;rcases hown.1 with h|h;omega;exact hne h),.of_le (Nat.le_refl _)⟩
   ·rintro y (rfl|hf|⟨xx,hx,hc⟩)
    ·exact ⟨id,_,hg,.inl ⟨c,hm⟩,.inl rfl⟩
    ·exact ⟨id,_,hg,.inr hf,.inl rfl⟩
    ·obtain ⟨id',blk,h3,h4,h5⟩:=hcell y xx hx hc
     exact ⟨id',blk,h4,h5,.inr (by rw [hset_ne id' (fun e2=>hni (by rw [←e2];exact h3)),sn h3])⟩
   ·intro y hy
    rcases hy with ⟨c',hc'⟩|hf
    ·rw [bp] at hc'
     cases hc'
     exact ⟨hown.1,by simpa [World.setRow] using hown.2,.inr (.inl rfl)⟩
    ·rw [fN] at hf
     rcases hf with hf|⟨xx,hx,hc⟩
     ·have:=hs.own id _ y hg (.inr hf)
      exact ⟨this.1,by simpa [World.setRow] using this.2,.inr (.inr (.inl hf))⟩
     ·have:=(hcb y xx hx hc).1
      exact ⟨this.1,by simpa [World.setRow] using this.2,.inr (.inr (.inr ⟨xx,hx,hc⟩))⟩
   ·intro p' e2
    have e3:(Blk.deep q ty sz (es.set k (bx e off ds))).pinOf = some p':=e2
    rw [←hm]
    exact hs.pin id _ p' hg (gL e3)
   ·intro p' ty' sz' es' e2
    have e3:Blk.deep q ty sz (es.set k (bx e off ds)) = _:=e2
    cases e3
    refine ⟨fun hF=>?_,_,hnewh,?_,by simpa using hec,hcm,iU hk hes (by rw [hn];exact hl),
     fun k' j y=>(k' = k∧off≤j∧j < off + ds.length∧∃ xx,cs[j - off]? = some xx∧et m s.hp xx y)∨(¬ (k' = k∧off≤j∧j < off + ds.length)∧Fp k' j y),?_,?_,fun k' e' j d u he' hd2 hu=>?_⟩
    ·rcases hF with hf|⟨xx,hx,hc⟩
     ·exact g1 hf
     ·exact (hcb b xx hx hc).2.1 rfl
    ·rw [List.size_toArray,dr (by simpa using hvl)];simpa using ha
    ·rintro k' j y (⟨_,_,_,xx,hx,hc⟩|⟨_,hy⟩)
     ·exact .inr ⟨xx,List.mem_of_getElem? hx,hc⟩
     ·exact .inl (f1 _ _ _ hy)
    ·rintro k' j k2 j2 y (⟨p1,p2,p3,xx,hx,hc⟩|⟨p1,hy⟩) (⟨r1,r2,r3,xx',hx',hc'⟩|⟨r1,hy'⟩)
     ·have:=nI hs hnd hx hx' hc hc'
      omega
     ·exact ((hcb y xx (List.mem_of_getElem? hx) hc).2.2 (f1 _ _ _ hy')).elim
     ·exact ((hcb y xx' (List.mem_of_getElem? hx') hc').2.2 (f1 _ _ _ hy)).elim
     ·exact f2 _ _ _ _ _ hy hy'
    ·rcases hcells he' hd2 (by simpa using hu) with ⟨h7,h8,h9,h10,h11⟩|⟨e0,h7,h8,h9,h10⟩
     ·obtain ⟨xx,hxx⟩:=hcx (j - off) (List.getElem?_eq_some_iff.1 h10).1
      have hmem:=List.mem_of_getElem? hxx
      have htr:=pP hs (f2' _ _ d hxx h10) (jT hfl _ hmem) (h2.2 _ xx u hxx (by simpa using h11)).1
      exact (htr.sub fun y hy=>(.inl ⟨h7,h8,h9,xx,hxx,hy⟩:(k' = k∧off≤j∧j < off + ds.length∧∃ xx,cs[j - off]? = some xx∧et m s.hp xx y)∨(¬ (k' = k∧off≤j∧j < off + ds.length)∧Fp k' j y))).frame fun y hy=>hoth y (by
       rcases hy with ⟨_,_,_,xx',hx',hc'⟩|⟨_,hy⟩
       ·exact (hcb y xx' (List.mem_of_getElem? hx') hc').2.1
       ·exact fun e3=>g1 (by subst e3;exact f1 _ _ _ hy))
     ·exact ((f3 k' e0 j d u h7 h8 (by simpa using h9)).sub fun y hy=>(.inr ⟨h10,hy⟩:(k' = k∧off≤j∧j < off + ds.length∧∃ xx,cs[j - off]? = some xx∧et m s.hp xx y)∨(¬ (k' = k∧off≤j∧j < off + ds.length)∧Fp k' j y))).frame fun y hy=>hoth y (by
       rcases hy with ⟨_,_,_,xx',hx',hc'⟩|⟨_,hy⟩
       ·exact (hcb y xx' (List.mem_of_getElem? hx') hc').2.1
       ·exact fun e3=>g1 (by subst e3;exact f1 _ _ _ hy))
end rules
end Go.Proofs.YtphakidbddamfaaGreat
