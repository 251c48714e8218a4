/-
  The abstract machine: operations on memory. No program is named here.
-/
import Derived.Test.YtphakidbddamfaaGreatZM2
namespace Go.Proofs.YtphakidbddamfaaGreat
open Go.RowKit
def TI.cells:TI→Option Nat
 |.st n _ _=>some n
 |.arr l s _=>some (l * s)
 |_=>none
theorem i6 {P:Program} {t:TypeId} {ti:TI} (h:cd P t ti = true) (hc:ti.cells = none):(∃ d,P.underlying t = some d∧ib d = false)∧∃ i,P.info? t = some i∧i.size = 1:=by
 cases ti with
 |one z=>obtain ⟨h1,i,h2,h3,_⟩:=wJ h;exact ⟨h1,i,h2,h3⟩
 |bol=>exact ⟨⟨_,(nA h).1,rfl⟩,(nA h).2⟩
 |num k=>obtain ⟨h1,i,v,h2,h3,_⟩:=nn h;exact ⟨⟨_,h1,rfl⟩,i,h2,h3⟩
 |str=>exact ⟨⟨_,(iY h).1,rfl⟩,(iY h).2⟩
 |slc e sz b z=>have:=dS h;exact ⟨⟨_,this.1,rfl⟩,this.2.2.2.2.2⟩
 |st n fs z=>cases hc
 |arr l s z=>cases hc
theorem mB {P:Program} {t:TypeId} {ti:TI} {n:Nat} (h:cd P t ti = true) (hc:ti.cells = some n):(∃ d,P.underlying t = some d∧ib d = true)∧∃ i,P.info? t = some i∧i.size = n:=by
 cases ti with
 |st n' fs z=>cases hc;obtain ⟨⟨f,h1,_⟩,i,v,h2,h3,_⟩:=il h;exact ⟨⟨_,h1,rfl⟩,i,h2,h3⟩
 |arr l s z=>cases hc;obtain ⟨⟨e,i',h1,_⟩,i,v,h2,h3,_⟩:=i7 h;exact ⟨⟨_,h1,rfl⟩,i,h2,h3⟩
 |_=>cases hc
def TI.size (ti:TI):Nat:=ti.cells.getD 1
theorem fH {P:Program} {t:TypeId} {ti:TI} (h:cd P t ti = true):∃ i,P.info? t = some i∧i.size = ti.size:=by
 unfold TI.size
 cases hc:ti.cells with
 |none=>exact (i6 h hc).2
 |some n=>exact (mB h hc).2
theorem fK {P:Program} {t:TypeId} {d:TypeDesc} (h:P.underlying t = some d) (w:World):(isAgg t).run P w = .ok (ib d) w:=by
 simp only [isAgg,Sem.run_bind,run_underlying h,Result.andThen_ok]
 cases d<;>rfl
theorem eG {P:Program} {t:TypeId} {i:TypeInfo} (h:P.info? t = some i) (w:World):(sizeOf t).run P w = .ok i.size w:=by
 simp [sizeOf,typeInfo,h]
def eD:PV→Bool
 |.agg _|.tup _|.und=>false
 |_=>true
def bg:PV→List PV
 |.agg xs=>xs
 |x=>[x]
section
variable {m:Nat→Option Loc} {X:Nat→Prop} {w:World}
theorem R.one {x:PV} {v:Value} (h:R m X w x v) (h1:eD x = true):v.oneCell' = true∧v.cells = #[v]:=by
 cases h with
 |d x v h=>exact ⟨h.one,h.cells⟩
 |agg=>cases h1
 |tup=>cases h1
 |und=>cases h1
 |_=>exact ⟨rfl,rfl⟩
theorem R.cellsOf {x:PV} {v:Value} (h:R m X w x v) (h1:∀ y ∈ bg x,eD y = true):v.cells.size = (bg x).length∧∀ (j:Nat) (y:PV) (u:Value),(bg x)[j]? = some y→v.cells[j]? = some u→R m X w y u∧u.oneCell' = true:=by
 cases h with
 |agg xs vs hl h=>exact ⟨hl,fun j y u hy hu=>⟨h j y u hy hu,((h j y u hy hu).one (h1 y (List.mem_of_getElem? hy))).1⟩⟩
 |tup xs vs=>exact absurd (h1 (.tup xs) (by simp [bg])) (by simp [eD])
 |und=>exact absurd (h1 .und (by simp [bg])) (by simp [eD])
 |d y v h=>
  have hr:R m X w (.d y) v:=.d y v h
  have h2:=hr.one rfl
  refine ⟨by rw [h2.2];rfl,fun j z u hz hu=>?_⟩
  rw [h2.2] at hu
  cases j with
  |zero=>simp [bg] at hz hu;subst hz hu;exact ⟨hr,h2.1⟩
  |succ j=>simp [bg] at hz
 |_=>
  refine ⟨rfl,fun j z u hz hu=>?_⟩
  cases j with
  |zero=>
   simp [bg] at hz
   simp [Value.cells] at hu
   subst hz hu
   refine ⟨?_,rfl⟩
   first|exact .rowN _ ‹_›|exact .rowB _ _ _ _ ‹_› ‹_›|exact .view0 _ _ _ _ _|exact .viewB _ _ _ _ _ _ _ ‹_› ‹_›|exact .bptr _ _ _ _ ‹_›|exact .rptr _ _ _ _ _ _ ‹_›|exact .eptr _ _ _ ‹_›|exact .fn _ _ _ ‹_› ‹_›
  |succ j=>simp [bg] at hz
end
theorem cr {k k' sz j:Nat} (h:k' < k) (hj:j < sz):k' * sz + j < k * sz:=by
 have:(k' + 1) * sz≤k * sz:=Nat.mul_le_mul_right _ h
 rw [Nat.succ_mul] at this
 omega
def dd (es:List (List D)) (k j:Nat):Option (Nat × List (List D)):=match es[k]? with
 |some e=>(match e[j]? with
  |some (.lst sz es')=>some (sz,es')
  |_=>none)
 |none=>none
def cont (hp:List (Nat × Blk)) (id:Nat):Option (Nat × List (List D)):=match ae hp id with
 |some (.row _ sz es)=>some (sz,es)
 |some (.deep _ _ sz es)=>some (sz,es)
 |some (.al par k j)=>(match ae hp par with
  |some (.deep _ _ _ es)=>dd es k j
  |_=>none)
 |_=>none
def CellsRd (w:World) (b c sz:Nat) (es:List (List D)):Prop:=∃ arr ty,w.heap[b]? = some (.cells arr ty (0,0))∧arr.size = c * sz∧es.length≤c∧(∀ e,e ∈ es→e.length = sz)∧
 ∀ (k:Nat) (e:List D) (j:Nat) (d:D) (u:Value),es[k]? = some e→e[j]? = some d→arr[k * sz + j]? = some u→Rd w (fun _=>False) d u
theorem CellsRd.get {w:World} {b c sz:Nat} {es:List (List D)} (h:CellsRd w b c sz es) {k j:Nat} {e:List D} {d:D} (he:es[k]? = some e) (hd:e[j]? = some d):∃ u,w.cell? ⟨b,k * sz + j,none⟩ = some u∧Rd w (fun _=>False) d u:=by
 obtain ⟨arr,ty,h1,h2,h3,h4,h5⟩:=h
 have hk:=(List.getElem?_eq_some_iff.1 he).1
 have hj:j < sz:=by rw [←h4 e (List.mem_of_getElem? he)];exact (List.getElem?_eq_some_iff.1 hd).1
 have hlt:k * sz + j < arr.size:=by rw [h2];exact cr (by omega) hj
 exact ⟨arr[k * sz + j],by simp [World.cell?,h1,hlt],h5 k e j d _ he hd (by simp [hlt])⟩
theorem Rd.any {w:World} {X:Nat→Prop} {d:D} {v:Value} (h:Rd w X d v):Rd w (fun _=>False) d v:=h.mono fun _ _ _=>⟨rfl,fun h=>h⟩
theorem Tr.any {w:World} {F:Nat→Prop} {d:D} {v:Value} (h:Tr w F d v):Rd w (fun _=>False) d v:=h.rd fun _ _ h=>h
theorem DpOk.cells {w:World} {F:Nat→Prop} {ty:TypeId} {sz b c:Nat} {es:List (List D)} (h:DpOk w F ty sz es (some (.blk b c))):CellsRd w b c sz es:=by
 obtain ⟨_,arr,h2,h3,h4,h5,h6,Fp,h7,h8,h9⟩:=h
 exact ⟨arr,ty,h2,h3,h4,h6,fun k e j d u he hd hu=>(h9 k e j d u he hd hu).any⟩
section
variable {X0:Nat→Prop} {w0:Base} {m:Mp} {s:AS} {a:Act} {w:World}
theorem Sim.alias (h:Sim X0 w0 m s a w) {id par k j q:Nat} {ty:TypeId} {sz sz':Nat} {es es':List (List D)} (hg:ae s.hp id = some (.al par k j)) (hp:ae s.hp par = some (.deep q ty sz es)) (hc:dd es k j = some (sz',es')):
  ∃ e b c arr Fp v,es[k]? = some e∧e[j]? = some (.lst sz' es')∧m.loc par = some (.blk b c)∧w.heap[b]? = some (.cells arr ty (0,0))∧arr[k * sz + j]? = some v∧(∀ x,Fp x→m.ft par x)∧Tr w Fp (.lst sz' es') v∧
   ((m.loc id = some .nil∧v = .slice none 0 0)∨∃ b' c',m.loc id = some (.blk b' c')∧v = .slice (some ⟨b',0,none⟩) es'.length c'):=by
 obtain ⟨q2,ty2,sz2,es2,e,sz3,es3,b,c,arr,a1,a2,a3,a4,a5,a6⟩:=h.al id par k j hg
 rw [hp] at a1
 cases a1
 have hc':dd es k j = some (sz3,es3):=by unfold dd;rw [a2];simp only [a3]
 rw [hc] at hc'
 cases hc'
 have hd:=h.dp par q ty sz es hp
 rw [a4] at hd
 obtain ⟨_,arr2,h2,h3,h4,h5,h6,Fp,h7,h8,h9⟩:=hd
 rw [a5] at h2
 cases h2
 rcases a6 with ⟨a7,a8⟩|⟨b',c',a7,a8⟩
 ·exact ⟨e,b,c,arr,Fp k j,_,a2,a3,a4,a5,a8,h7 k j,h9 k e j _ _ a2 a3 a8,.inl ⟨a7,rfl⟩⟩
 ·exact ⟨e,b,c,arr,Fp k j,_,a2,a3,a4,a5,a8,h7 k j,h9 k e j _ _ a2 a3 a8,.inr ⟨b',c',a7,rfl⟩⟩
theorem Tr.cells {F:Nat→Prop} {sz b c n:Nat} {es:List (List D)} (h:Tr w F (.lst sz es) (.slice (some ⟨b,0,none⟩) n c)):n = es.length∧F b∧CellsRd w b c sz es:=by
 cases h with
 |lst _ sz es b c arr ty Fp h1 hh ha hn hm hz hsub hdis hc=>exact ⟨rfl,h1,arr,ty,hh,ha,hn,hz,fun k e j d u he hd hu=>(hc k e j d u he hd hu).any⟩
theorem Tr.nil_inv {F:Nat→Prop} {sz n c:Nat} {es:List (List D)} (h:Tr w F (.lst sz es) (.slice none n c)):es = []:=by
 cases h;rfl
theorem Sim.cont (h:Sim X0 w0 m s a w) {id sz:Nat} {es:List (List D)} (hc:cont s.hp id = some (sz,es)):(m.loc id = some .nil∧es = [])∨∃ b c,m.loc id = some (.blk b c)∧CellsRd w b c sz es:=by
 unfold Go.Proofs.YtphakidbddamfaaGreat.cont at hc
 split at hc
 ·rename_i ty sz1 es1 hg
  cases hc
  obtain ⟨l,h1,h2⟩:=h.hp id _ hg
  cases l with
  |nil=>exact .inl ⟨h1,h2⟩
  |blk b c=>
   obtain ⟨arr,h3,h4,h5,h6,h7,h8⟩:=h2
   exact .inr ⟨b,c,h1,arr,ty,h3,h4,h5,h7,fun k e j d u he hd hu=>(h8 k e j d u he hd hu).any⟩
 ·rename_i q ty sz1 es1 hg
  cases hc
  have hd:=h.dp id q ty sz es hg
  cases hl:m.loc id with
  |none=>rw [hl] at hd;exact hd.elim
  |some l=>
   rw [hl] at hd
   cases l with
   |nil=>exact .inl ⟨rfl,hd.1⟩
   |blk b c=>exact .inr ⟨b,c,rfl,hd.cells⟩
 ·rename_i par k j hg
  split at hc
  ·rename_i q ty sz1 es1 hp
   obtain ⟨e,b,c,arr,Fp,v,h1,h2,h3,h4,h5,h6,h7,h8⟩:=h.alias hg hp hc
   rcases h8 with ⟨h9,rfl⟩|⟨b',c',h9,rfl⟩
   ·exact .inl ⟨h9,h7.nil_inv⟩
   ·exact .inr ⟨b',c',h9,h7.cells.2.2⟩
  ·cases hc
 ·cases hc
end
def t0:D→PV
 |.lst _ _=>.und
 |.int k n=>.d (.int k n)
 |.bool b=>.d (.bool b)
 |.str s=>.d (.str s)
 |.hole=>.und
 |.emap=>.und
theorem x3 {m:Nat→Option Loc} {X X':Nat→Prop} {w:World} {d:D} {v:Value} (h:Rd w X' d v):R m X w (t0 d) v:=by
 cases h with
 |int k n=>exact .d _ _ (.int k n)
 |bool b=>exact .d _ _ (.bool b)
 |str s=>exact .d _ _ (.str s)
 |nil=>exact .und _
 |lst=>exact .und _
 |hole=>exact .und _
 |emap=>exact .und _
def fJ (s:AS):PV→Option (List PV)
 |.eptr cs=>some (cs.map .d)
 |.bptr id off=>match ae s.hp id with
  |some (.box _ cs)=>some (cs.drop off)
  |some (.pbox _ _ cs)=>some (cs.drop off)
  |_=>none
 |.rptr id sz k off=>match ae s.hp id with
  |some (.row _ sz' es)=>if sz' = sz then (match es[k]? with|some e=>some ((e.drop off).map .d)|none=>none) else none
  |some (.deep _ _ sz' es)=>if sz' = sz then (match es[k]? with|some e=>some ((e.drop off).map t0)|none=>none) else none
  |some (.al par i j)=>(match ae s.hp par with
   |some (.deep _ _ _ es)=>(match dd es i j with
    |some (sz',es')=>if sz' = sz then (match es'[k]? with|some e=>some ((e.drop off).map t0)|none=>none) else none
    |none=>none)
   |_=>none)
  |_=>none
 |_=>none
section
variable {X0:Nat→Prop} {w0:Base} {m:Mp} {s:AS} {a:Act} {w:World}
theorem CellsRd.scs {b c sz k off:Nat} {es:List (List D)} {e:List D} (h:CellsRd w b c sz es) (he:es[k]? = some e) {mm:Nat→Option Loc} {X:Nat→Prop}:∀ (j:Nat) (y:PV),((e.drop off).map t0)[j]? = some y→∃ u,w.cell? ⟨b,k * sz + off + j,none⟩ = some u∧R mm X w y u∧u.oneCell' = true:=by
 intro j y hy
 rw [List.getElem?_map,List.getElem?_drop] at hy
 cases hj:e[off + j]? with
 |none=>rw [hj] at hy;cases hy
 |some d=>
  rw [hj] at hy
  cases hy
  obtain ⟨u,h1,h2⟩:=h.get he hj
  exact ⟨u,by rw [Nat.add_assoc];exact h1,x3 h2,h2.one⟩
theorem Sim.cells (h:Sim X0 w0 m s a w) {x:PV} {cs:List PV} (hx:fJ s x = some cs) {v:Value} (hv:R m.loc (aU X0 m s.hp) w x v):
  ∃ b off,v = .pointer (some ⟨b,off,none⟩)∧∀ (j:Nat) (y:PV),cs[j]? = some y→∃ u,w.cell? ⟨b,off + j,none⟩ = some u∧R m.loc (aU X0 m s.hp) w y u∧u.oneCell' = true:=by
 cases hv with
 |eptr ds b off hd=>
  cases hx
  refine ⟨b,off,rfl,fun j y hy=>?_⟩
  rw [List.getElem?_map] at hy
  cases hj:ds[j]? with
  |none=>rw [hj] at hy;cases hy
  |some d=>
   rw [hj] at hy
   cases hy
   obtain ⟨_,u,h2,h3⟩:=hd j d hj
   exact ⟨u,h2,.d _ _ h3,h3.one⟩
 |bptr id off b c hm=>
  simp only [fJ] at hx
  split at hx
  ·rename_i ty cs' hg
   cases hx
   obtain ⟨arr,h3,h4,h5⟩:=h.blk hg hm
   refine ⟨b,off,rfl,fun j y hy=>?_⟩
   rw [List.getElem?_drop] at hy
   have hlt:off + j < arr.size:=by rw [h4];exact (List.getElem?_eq_some_iff.1 hy).1
   exact ⟨arr[off + j],by simp [World.cell?,h3,hlt],h5 _ _ _ hy (by simp [hlt])⟩
  ·rename_i q ty cs' hg
   cases hx
   obtain ⟨arr,h3,h4,h5⟩:=h.blk hg hm
   refine ⟨b,off,rfl,fun j y hy=>?_⟩
   rw [List.getElem?_drop] at hy
   have hlt:off + j < arr.size:=by rw [h4];exact (List.getElem?_eq_some_iff.1 hy).1
   exact ⟨arr[off + j],by simp [World.cell?,h3,hlt],h5 _ _ _ hy (by simp [hlt])⟩
  ·cases hx
 |rptr id sz k off b c hm=>
  have hcont:∀ es,Go.Proofs.YtphakidbddamfaaGreat.cont s.hp id = some (sz,es)→CellsRd w b c sz es:=by
   intro es hc
   rcases h.cont hc with ⟨h1,_⟩|⟨b',c',h1,h2⟩
   ·rw [hm] at h1;cases h1
   ·rw [hm] at h1;cases h1;exact h2
  simp only [fJ] at hx
  split at hx
  ·rename_i ty sz' es hg
   split at hx
   ·rename_i hsz
    subst hsz
    split at hx
    ·rename_i e he
     cases hx
     obtain ⟨arr,h3,h4,h5,h6,h7,h8⟩:=h.blk hg hm
     refine ⟨b,k * sz' + off,rfl,fun j y hy=>?_⟩
     rw [List.getElem?_map,List.getElem?_drop] at hy
     cases hj:e[off + j]? with
     |none=>rw [hj] at hy;cases hy
     |some d=>
      rw [hj] at hy
      cases hy
      have hle:=h7 e (List.mem_of_getElem? he)
      have hk:=(List.getElem?_eq_some_iff.1 he).1
      have hj2:=(List.getElem?_eq_some_iff.1 hj).1
      have hlt:k * sz' + off + j < arr.size:=by
       rw [h4]
       have:(k + 1) * sz'≤c * sz':=Nat.mul_le_mul_right _ (by omega)
       rw [Nat.succ_mul] at this
       omega
      have h9:=h8 k e (off + j) d arr[k * sz' + off + j] he hj (by rw [←Nat.add_assoc];simp [hlt])
      exact ⟨arr[k * sz' + off + j],by simp [World.cell?,h3,hlt],.d _ _ h9,h9.one⟩
    ·cases hx
   ·cases hx
  ·rename_i q ty sz' es hg
   split at hx
   ·rename_i hsz
    subst hsz
    split at hx
    ·rename_i e he
     cases hx
     exact ⟨b,k * sz' + off,rfl,(hcont es (by unfold Go.Proofs.YtphakidbddamfaaGreat.cont;rw [hg])).scs he⟩
    ·cases hx
   ·cases hx
  ·rename_i par i j hg
   split at hx
   ·rename_i q ty sz1 es1 hp
    split at hx
    ·rename_i sz' es' hal
     split at hx
     ·rename_i hsz
      subst hsz
      split at hx
      ·rename_i e he
       cases hx
       exact ⟨b,k * sz' + off,rfl,(hcont es' (by unfold Go.Proofs.YtphakidbddamfaaGreat.cont;rw [hg];simp only [hp];exact hal)).scs he⟩
      ·cases hx
     ·cases hx
    ·cases hx
   ·cases hx
  ·cases hx
 |_=>cases hx
end
section rules
variable {P:Program} {o:Oper} {s:AS} {K:AS→Prop} {KP:PV→Prop}
theorem qb {t:TypeId} {x:Operand} {ti:TI} {cs:List PV} {y:PV} (ho:o.op = .load t x) (ht:cd P t ti = true) (hc:ti.cells = none) (hx:fJ s (s.get x) = some cs) (hy:cs[0]? = some y) (hK:KP y):PQ P o s KP:=by
 refine ⟨y,fun X0 w0 m a wb hs=>?_,hK⟩
 obtain ⟨b,off,h1,h2⟩:=hs.cells hx (hs.get x)
 obtain ⟨v,h3,h4,_⟩:=h2 0 y hy
 obtain ⟨⟨d,hd,hda⟩,_⟩:=i6 ht hc
 simp only [Nat.add_zero] at h3
 refine ⟨v,fun w' hb=>?_,fun w' hb=>h4.mono (fun _ _ h=>h) fun b hb1 hb2=>⟨hb.block b hb1,hb2⟩⟩
 have h5:w'.cell? ⟨b,off,none⟩ = some v:=(hb.cell (p:=⟨b,off,none⟩) (jj h3)).trans h3
 have hrun:(execOp a.eval o).run P w' = .ok (.value v) w':=by
  simp [execOp,ho,h1,Instr.loadAt,Instr.sureAddr,loadVar,fK hd,hda,run_load,h5]
 unfold Oper.quietAt
 rw [hrun]
 exact ⟨rfl,rfl⟩
theorem vn {t:TypeId} {x:Operand} {ti:TI} {n:Nat} {cs:List PV} (ho:o.op = .load t x) (ht:cd P t ti = true) (hc:ti.cells = some n) (hx:fJ s (s.get x) = some cs) (hn:n≤cs.length) (hK:KP (.agg (cs.take n))):PQ P o s KP:=by
 refine ⟨_,fun X0 w0 m a w hs=>?_,hK⟩
 obtain ⟨b,off,h1,h2⟩:=hs.cells hx (hs.get x)
 obtain ⟨⟨d,hd,hda⟩,i,hi,hsz⟩:=mB ht hc
 have hcell:∀ j,j < n→w.cell? ((⟨b,off,none⟩:Addr).add j) = some ((w.cell? ⟨b,off + j,none⟩).getD undef):=by
  intro j hj
  obtain ⟨u,h3,_⟩:=h2 j cs[j] (List.getElem?_eq_getElem (by omega))
  rw [Addr.add_lit,h3]
  rfl
 refine ⟨.agg ((List.range n).map fun j=>(w.cell? ⟨b,off + j,none⟩).getD undef).toArray,fun w' hb=>?_,fun w' hb=>?_⟩
 ·have hl:=run_loadCells (P:=P) w' ⟨b,off,none⟩ n (fun j=>(w.cell? ⟨b,off + j,none⟩).getD undef) fun j hj=>(hb.cell (p:=(⟨b,off,none⟩:Addr).add j) (jj (hcell j hj))).trans (hcell j hj)
  have hrun:(execOp a.eval o).run P w' = .ok (.value (.agg ((List.range n).map fun j=>(w.cell? ⟨b,off + j,none⟩).getD undef).toArray)) w':=by
   simp [execOp,ho,h1,Instr.loadAt,Instr.sureAddr,loadVar,fK hd,hda,eG hi,hsz,hl]
  unfold Oper.quietAt
  rw [hrun]
  exact ⟨rfl,rfl⟩
 ·refine R.mono (fun _ _ h=>h) (fun b hb1 hb2=>⟨hb.block b hb1,hb2⟩) (w:=w) (X:=aU X0 m s.hp) (.agg _ _ (by simp;omega) fun j y u hy hu=>?_)
  rw [List.getElem?_take] at hy
  split at hy
  ·rename_i hj
   obtain ⟨u',h3,h4,_⟩:=h2 j y hy
   simp [hj,h3] at hu
   subst hu
   exact h4
  ·cases hy
theorem xg {t:TypeId} {x:Operand} (ho:o.op = .box t x) (h1:∀ y ∈ bg (s.get x),eD y = true) (hK:K (AS.put ⟨s.fr,(s.nx,.box t (bg (s.get x)))::s.hp,s.nx + 1⟩ o.dst (.bptr s.nx 0))):PO P o s K:=
 PO.mk fun X0 w0 m a w hs=>by
  have h2:=(hs.get x).cellsOf h1
  refine ⟨_,_,_,_,.bptr s.nx 0,?_,hs.alloc (blk:=.box t (bg (s.get x))) (arr:=(a.eval x).cells) (c:=1) h2,.bptr _ _ w.heap.size 1 (bp _ _ _),hK⟩
  simp [execOp,ho,Instr.box,newVar,newRow,Blk.ty]
theorem l4 {t:TypeId} {z:List D} (ho:o.op = .alloc t) (hz:(∃ i v,P.info? t = some i∧i.zero = some v∧zB z v = true)) (hK:K (AS.put ⟨s.fr,(s.nx,.box t (z.map .d))::s.hp,s.nx + 1⟩ o.dst (.bptr s.nx 0))):PO P o s K:=
 PO.mk fun X0 w0 m a w hs=>by
  obtain ⟨i,v,hi,hv,hb⟩:=hz
  obtain ⟨h1,h2⟩:=iG hb
  refine ⟨_,_,_,_,.bptr s.nx 0,?_,hs.alloc (blk:=.box t (z.map .d)) (arr:=v.cells) (c:=1) ⟨by simp [h1],fun j x u hx hu=>?_⟩,.bptr _ _ w.heap.size 1 (bp _ _ _),hK⟩
  ·simp [execOp,ho,Instr.alloc,zeroValue,typeInfo,hi,hv,newVar,newRow,Blk.ty]
  ·rw [List.getElem?_map] at hx
   cases hj:z[j]? with
   |none=>rw [hj] at hx;cases hx
   |some d=>
    rw [hj] at hx
    cases hx
    have:=h2 j d u hj hu w (aU X0 m s.hp)
    exact ⟨.d _ _ this,this.one⟩
def bx {α:Type} (cs:List α) (off:Nat) (xs:List α):List α:=cs.take off++xs++cs.drop (off + xs.length)
theorem dr {α:Type} {cs xs:List α} {off:Nat} (h:off + xs.length≤cs.length):(bx cs off xs).length = cs.length:=by
 simp [bx];omega
theorem dg {α:Type} {cs xs:List α} {off:Nat} (h:off + xs.length≤cs.length) (j:Nat):(bx cs off xs)[j]? = if off≤j∧j < off + xs.length then xs[j - off]? else cs[j]?:=by
 have hl:(cs.take off).length = off:=by simp;omega
 unfold bx
 by_cases h1:j < off
 ·rw [if_neg (by omega),List.append_assoc,List.getElem?_append_left (by omega),List.getElem?_take_of_lt h1]
 ·by_cases h2:j < off + xs.length
  ·rw [if_pos ⟨by omega,h2⟩,List.getElem?_append_left (by simp;omega),List.getElem?_append_right (by omega),hl]
  ·rw [if_neg (by omega),List.getElem?_append_right (by simp;omega),List.getElem?_drop]
   congr 1
   simp
   omega
theorem eW {t:TypeId} {b off:Nat} {v:Value} {i:TypeInfo} {w:World} {arr:Array Value} {ty:TypeId} (hi:P.info? t = some i) (hsz:v.cells.size = i.size) (hh:w.heap[b]? = some (.cells arr ty (0,0))) (hl:off + v.cells.size≤arr.size) (h1:∀ u ∈ v.cells.toList,u.oneCell' = true):
  (Instr.storeAt t (.pointer (some ⟨b,off,none⟩)) v).run P w = .ok () (w.setRow b (bx arr.toList off v.cells.toList).toArray):=by
 have hst:=run_storeCells_at P b off ty v.cells.toList 0 arr w hh (by simpa using hl) h1
 simp only [Nat.add_zero] at hst
 simp only [Instr.storeAt,Instr.sureAddr,storeVar,Sem.run_bind,Sem.run_pure,Result.andThen_ok,eG hi,hsz]
 simp only [ne_eq,not_true_eq_false,if_false,hst]
 rfl
theorem Sim.restore {X0:Nat→Prop} {w0:Base} {m:Mp} {a:Act} {w:World} (hs:Sim X0 w0 m s a w) {id b c:Nat} {blk blk':Blk} {arr arr':Array Value} (hg:ae s.hp id = some blk) (hm:m.loc id = some (.blk b c)) (hty:blk'.ty = blk.ty) (hh:w.heap[b]? = some (.cells arr blk.ty (0,0)))
  (hok:∀ (m':Nat→Option Loc) (X':Nat→Prop) (w':World),(∀ i l,m.loc i = some l→m' i = some l)→Stay w w' (aU X0 m s.hp) X'→blk'.cellsOk m' X' w' arr' c) (hpl:blk.plain = true:=by rfl) (hpl':blk'.plain = true:=by rfl) (hpo:blk'.pinOf = blk.pinOf:=by rfl):Sim X0 w0 (bN m id (.blk b c)) ⟨s.fr,bj s.hp id blk',s.nx⟩ a (w.setRow b arr'):=by
 have hb:=hs.owns hg hm hpl
 refine hs.change (i:=id) (blk':=blk') (l':=.blk b c) (hpin:=fun p e=>by rw [hpo] at e;rw [←hm];exact hs.pin id blk p hg e) (fun k=>k = b) (.inr hm) (by rw [bq];simp [hg]) hpl' (fun id' hne blk hb'=>by rw [bq,if_neg hne] at hb';exact hb') (fun id' q ty sz es hd=>?_) (Nat.le_refl _) (hs.lt_nx hm) ?_ (fun k hk hne=>setRow_other w b k _ hne) ?_ ?_ ?_
 ·have hne:id'≠id:=fun e=>by subst e;rw [hg] at hd;cases hd;cases hpl
  exact ⟨hne,by rw [bq,if_neg hne]⟩
 ·exact ⟨rfl,rfl,rfl,by simp [World.setRow],fun k hk hne=>setRow_other w b k _ (fun e=>by subst e;rcases hb.1 with h|h;omega;exact hne h),.of_le (Nat.le_refl _)⟩
 ·rintro k rfl
  exact ⟨id,_,hg,Blk.has_root hpl hm,.inl rfl⟩
 ·intro b' c' e
  cases e
  exact ⟨hb.1,by simpa [World.setRow] using hb.2,.inr rfl⟩
 ·intro hst
  exact ⟨_,by rw [hty];exact setRow_heap w b arr _ _ _ hh,hok _ _ _ (gh m _ _ (.inr hm)) hst⟩
theorem pz {t:TypeId} {p x:Operand} {ti:TI} {id off:Nat} {ty:TypeId} {cs:List PV} (ho:o.op = .store t p x) (ht:cd P t ti = true) (hp:s.get p = .bptr id off) (hg:ae s.hp id = some (.box ty cs))
  (h1:∀ y ∈ bg (s.get x),eD y = true) (hn:(bg (s.get x)).length = ti.size) (hl:off + ti.size≤cs.length)
  (hK:K (AS.put ⟨s.fr,bj s.hp id (.box ty (bx cs off (bg (s.get x)))),s.nx⟩ o.dst .und)):PO P o s K:=
 PO.skip fun X0 w0 m a w hs=>by
  have h2:=(hs.get x).cellsOf h1
  have h3:=hs.get p
  rw [hp] at h3
  obtain ⟨b,c,hm,he⟩:=h3.bptr_inv
  obtain ⟨arr,hh,ha,hc⟩:=hs.blk hg hm
  obtain ⟨i,hi,hisz⟩:=fH ht
  have hb:=hs.owns hg hm
  have hvl:off + (a.eval x).cells.size≤arr.size:=by rw [h2.1,hn,ha];exact hl
  have h6:∀ u ∈ (a.eval x).cells.toList,u.oneCell' = true:=by
   intro u hu
   obtain ⟨j,hj⟩:=List.getElem?_of_mem hu
   have hj':(a.eval x).cells[j]? = some u:=by simpa using hj
   have hlt:j < (bg (s.get x)).length:=by rw [←h2.1];exact (Array.getElem?_eq_some_iff.1 hj').1
   exact (h2.2 j _ u (List.getElem?_eq_getElem hlt) hj').2
  have hrun:=eW (P:=P) (t:=t) hi (by rw [h2.1,hn,hisz]) hh hvl h6
  refine ⟨w.setRow b (bx arr.toList off (a.eval x).cells.toList).toArray,bN m id (.blk b c),⟨s.fr,bj s.hp id (.box ty (bx cs off (bg (s.get x)))),s.nx⟩,?_,?_,hK⟩
  ·simp only [execOp,ho,he,Sem.run_bind,hrun,Result.andThen_ok,Sem.run_pure]
  ·refine hs.restore hg hm (blk':=.box ty (bx cs off (bg (s.get x)))) rfl hh fun m' X' w' hmm hst=>?_
   ·refine ⟨by rw [List.size_toArray,dr (by simpa using hvl),dr (by rw [hn];exact hl)];simpa using ha,fun j y u hy hu=>?_⟩
    have hu':(bx arr.toList off (a.eval x).cells.toList)[j]? = some u:=by simpa using hu
    rw [dg (by simpa using hvl)] at hu'
    rw [dg (by rw [hn];exact hl)] at hy
    have e1:(a.eval x).cells.toList.length = (bg (s.get x)).length:=by simpa using h2.1
    rw [e1] at hu'
    split at hy
    ·rename_i hin
     rw [if_pos hin] at hu'
     have:=h2.2 (j - off) y u hy (by simpa using hu')
     exact ⟨this.1.mono hmm hst,this.2⟩
    ·rename_i hin
     rw [if_neg hin] at hu'
     have:=hc j y u hy (by simpa using hu')
     exact ⟨this.1.mono hmm hst,this.2⟩
def kz:List PV→Option (List D)
 |[]=>some []
 |.d x::r=>match kz r with
  |some l=>some (x::l)
  |none=>none
 |_=>none
theorem oK {t:TypeId} {p x:Operand} {ti:TI} {id off:Nat} {q:Nat} {ty:TypeId} {cs:List PV} (ho:o.op = .store t p x) (ht:cd P t ti = true) (hp:s.get p = .bptr id off) (hg:ae s.hp id = some (.pbox q ty cs))
  (h1:∀ y ∈ bg (s.get x),eD y = true) (hn:(bg (s.get x)).length = ti.size) (hl:off + ti.size≤cs.length)
  (hK:K (AS.put ⟨s.fr,bj s.hp id (.pbox q ty (bx cs off (bg (s.get x)))),s.nx⟩ o.dst .und)):PO P o s K:=
 PO.skip fun X0 w0 m a w hs=>by
  have h2:=(hs.get x).cellsOf h1
  have h3:=hs.get p
  rw [hp] at h3
  obtain ⟨b,c,hm,he⟩:=h3.bptr_inv
  obtain ⟨arr,hh,ha,hc⟩:=hs.blk hg hm
  obtain ⟨i,hi,hisz⟩:=fH ht
  have hb:=hs.owns hg hm
  have hvl:off + (a.eval x).cells.size≤arr.size:=by rw [h2.1,hn,ha];exact hl
  have h6:∀ u ∈ (a.eval x).cells.toList,u.oneCell' = true:=by
   intro u hu
   obtain ⟨j,hj⟩:=List.getElem?_of_mem hu
   have hj':(a.eval x).cells[j]? = some u:=by simpa using hj
   have hlt:j < (bg (s.get x)).length:=by rw [←h2.1];exact (Array.getElem?_eq_some_iff.1 hj').1
   exact (h2.2 j _ u (List.getElem?_eq_getElem hlt) hj').2
  have hrun:=eW (P:=P) (t:=t) hi (by rw [h2.1,hn,hisz]) hh hvl h6
  refine ⟨w.setRow b (bx arr.toList off (a.eval x).cells.toList).toArray,bN m id (.blk b c),⟨s.fr,bj s.hp id (.pbox q ty (bx cs off (bg (s.get x)))),s.nx⟩,?_,?_,hK⟩
  ·simp only [execOp,ho,he,Sem.run_bind,hrun,Result.andThen_ok,Sem.run_pure]
  ·refine hs.restore hg hm (blk':=.pbox q ty (bx cs off (bg (s.get x)))) rfl hh fun m' X' w' hmm hst=>?_
   ·refine ⟨by rw [List.size_toArray,dr (by simpa using hvl),dr (by rw [hn];exact hl)];simpa using ha,fun j y u hy hu=>?_⟩
    have hu':(bx arr.toList off (a.eval x).cells.toList)[j]? = some u:=by simpa using hu
    rw [dg (by simpa using hvl)] at hu'
    rw [dg (by rw [hn];exact hl)] at hy
    have e1:(a.eval x).cells.toList.length = (bg (s.get x)).length:=by simpa using h2.1
    rw [e1] at hu'
    split at hy
    ·rename_i hin
     rw [if_pos hin] at hu'
     have:=h2.2 (j - off) y u hy (by simpa using hu')
     exact ⟨this.1.mono hmm hst,this.2⟩
    ·rename_i hin
     rw [if_neg hin] at hu'
     have:=hc j y u hy (by simpa using hu')
     exact ⟨this.1.mono hmm hst,this.2⟩
theorem jz:∀ {xs:List PV} {ds:List D},kz xs = some ds→xs = ds.map .d
 |[],ds,h=>by cases h;rfl
 |.d x::r,ds,h=>by
  simp only [kz] at h
  split at h
  ·rename_i l hl
   cases h
   rw [jz hl];rfl
  ·cases h
 |.agg _::_,_,h|.tup _::_,_,h|.row _ _::_,_,h|.view _ _ _ _::_,_,h|.bptr _ _::_,_,h|.rptr _ _ _ _::_,_,h|.eptr _::_,_,h|.fn _ _::_,_,h|.und::_,_,h=>by cases h
theorem lS {ds:List D}:∀ y ∈ ds.map PV.d,eD y = true:=by
 intro y hy
 obtain ⟨d,_,rfl⟩:=List.mem_map.1 hy
 rfl
theorem qA {t:TypeId} {p x:Operand} {ti:TI} {id sz k off:Nat} {ty:TypeId} {es:List (List D)} {e ds:List D} (ho:o.op = .store t p x) (ht:cd P t ti = true) (hp:s.get p = .rptr id sz k off) (hg:ae s.hp id = some (.row ty sz es)) (hk:es[k]? = some e)
  (hd:kz (bg (s.get x)) = some ds) (hn:ds.length = ti.size) (hl:off + ti.size≤e.length)
  (hK:K (AS.put ⟨s.fr,bj s.hp id (.row ty sz (es.set k (bx e off ds))),s.nx⟩ o.dst .und)):PO P o s K:=
 PO.skip fun X0 w0 m a w hs=>by
  have hd':=jz hd
  have h2:=(hs.get x).cellsOf (by rw [hd'];exact lS)
  rw [hd',List.length_map] at h2
  have h3:=hs.get p
  rw [hp] at h3
  obtain ⟨b,c,hm,he⟩:=h3.rptr_inv
  obtain ⟨arr,hh,ha,hec,hcm,hes,hc⟩:=hs.blk hg hm
  obtain ⟨i,hi,hisz⟩:=fH ht
  have hesz:=hes e (List.mem_of_getElem? hk)
  have hklt:=(List.getElem?_eq_some_iff.1 hk).1
  have hbig:(k + 1) * sz≤c * sz:=Nat.mul_le_mul_right _ (by omega)
  rw [Nat.succ_mul] at hbig
  have hvl:k * sz + off + (a.eval x).cells.size≤arr.size:=by rw [h2.1,hn,ha];omega
  have h6:∀ u ∈ (a.eval x).cells.toList,u.oneCell' = true:=by
   intro u hu
   obtain ⟨j,hj⟩:=List.getElem?_of_mem hu
   have hj':(a.eval x).cells[j]? = some u:=by simpa using hj
   have hlt:j < (ds.map PV.d).length:=by rw [List.length_map,←h2.1];exact (Array.getElem?_eq_some_iff.1 hj').1
   exact (h2.2 j _ u (List.getElem?_eq_getElem hlt) hj').2
  have hrun:=eW (P:=P) (t:=t) hi (by rw [h2.1,hn,hisz]) hh hvl h6
  refine ⟨w.setRow b (bx arr.toList (k * sz + off) (a.eval x).cells.toList).toArray,bN m id (.blk b c),⟨s.fr,bj s.hp id (.row ty sz (es.set k (bx e off ds))),s.nx⟩,?_,?_,hK⟩
  ·simp only [execOp,ho,he,Sem.run_bind,hrun,Result.andThen_ok,Sem.run_pure]
  ·refine hs.restore hg hm (blk':=.row ty sz (es.set k (bx e off ds))) rfl hh fun m' X' w' hmm hst=>?_
   have e1:(a.eval x).cells.toList.length = ds.length:=by simpa using h2.1
   refine ⟨by rw [List.size_toArray,dr (by simpa using hvl)];simpa using ha,by simpa using hec,hcm,?_,?_⟩
   ·intro e' he'
    obtain ⟨j,hj⟩:=List.getElem?_of_mem he'
    rw [List.getElem?_set] at hj
    split at hj
    ·cases hj
     rw [dr (by rw [hn];exact hl)]
     exact hesz
    ·exact hes e' (List.mem_of_getElem? hj)
   ·intro k' e' j d u he' hd2 hu
    have hu':(bx arr.toList (k * sz + off) (a.eval x).cells.toList)[k' * sz + j]? = some u:=by simpa using hu
    rw [dg (by simpa using hvl),e1] at hu'
    rw [List.getElem?_set] at he'
    split at he'
    ·rename_i hkk
     subst hkk
     cases he'
     rw [dg (by rw [hn];exact hl)] at hd2
     split at hd2
     ·rename_i hin
      rw [if_pos (by omega)] at hu'
      have h7:=(h2.2 (j - off) (.d d) u (by rw [List.getElem?_map,hd2];rfl) (by rw [show k * sz + j - (k * sz + off) = j - off by omega] at hu';simpa using hu')).1.rd
      exact h7.mono hst
     ·rename_i hin
      rw [if_neg (by omega)] at hu'
      exact (hc k e j d u hk hd2 (by simpa using hu')).mono hst
    ·rename_i hne
     have hj:j < sz:=by rw [←hes e' (List.mem_of_getElem? he')];exact (List.getElem?_eq_some_iff.1 hd2).1
     have hout:¬ (k * sz + off≤k' * sz + j∧k' * sz + j < k * sz + off + ds.length):=by
      rcases Nat.lt_or_gt_of_ne hne with h7|h7
      ·have h8:(k + 1) * sz≤k' * sz:=Nat.mul_le_mul_right _ h7
       rw [Nat.succ_mul] at h8
       omega
      ·have:=cr h7 hj
       omega
     rw [if_neg hout] at hu'
     exact (hc k' e' j d u he' hd2 (by simpa using hu')).mono hst
end rules
end Go.Proofs.YtphakidbddamfaaGreat
namespace Go.Proofs.YtphakidbddamfaaGreat
open Go.RowKit
def ic (k:Nat):PV→Option PV
 |.eptr cs=>some (.eptr (cs.drop k))
 |.bptr id off=>some (.bptr id (off + k))
 |.rptr id sz i off=>some (.rptr id sz i (off + k))
 |_=>none
theorem mf {m:Nat→Option Loc} {X:Nat→Prop} {w:World} {k:Nat} {x y:PV} {v:Value} (hp:ic k x = some y) (h:R m X w x v):∃ b off,v = .pointer (some ⟨b,off,none⟩)∧R m X w y (.pointer (some ⟨b,off + k,none⟩)):=by
 cases h with
 |eptr cs b off hd=>
  cases hp
  refine ⟨b,off,rfl,.eptr _ _ _ fun j d hj=>?_⟩
  rw [List.getElem?_drop] at hj
  obtain ⟨h1,u,h2,h3⟩:=hd _ d hj
  exact ⟨h1,u,by rw [Nat.add_assoc];exact h2,h3⟩
 |bptr id off b c hm=>cases hp;exact ⟨b,off,rfl,.bptr _ _ _ _ hm⟩
 |rptr id sz i off b c hm=>cases hp;exact ⟨b,_,rfl,by rw [Nat.add_assoc];exact .rptr _ _ _ _ _ _ hm⟩
 |_=>cases hp
def jr (sz:Nat) (i:Nat):PV→Option PV
 |.d (.lst sz' es)=>if sz' = sz then (match es[i]? with|some e=>some (.eptr e)|none=>none) else none
 |.row id n=>if i < n then some (.rptr id sz i 0) else none
 |.view id sz' lo n=>if sz' = sz∧i < n then some (.rptr id sz (lo + i) 0) else none
 |_=>none
theorem xl {m:Nat→Option Loc} {X:Nat→Prop} {w:World} {sz i:Nat} {x y:PV} {v:Value} (hp:jr sz i x = some y) (h:R m X w x v):∃ b off n c,v = .slice (some ⟨b,off,none⟩) n c∧i < n∧R m X w y (.pointer (some ⟨b,off + i * sz,none⟩)):=by
 cases h with
 |d x v h=>
  cases x with
  |lst sz' es=>
   simp only [jr] at hp
   split at hp
   ·rename_i e;subst e
    split at hp
    ·rename_i e he
     cases hp
     have hlt:=(List.getElem?_eq_some_iff.1 he).1
     rcases h.lst_inv with ⟨A,c,h1,_⟩|⟨b,off,c,h1,h2,h3,h4⟩
     ·subst h1;simp at he
     ·refine ⟨b,off,_,c,h1,hlt,.eptr _ _ _ fun j d hj=>?_⟩
      obtain ⟨g1,u,g2,g3⟩:=h4 i e j d he hj
      exact ⟨g1,u,by rw [Nat.add_assoc];exact g2,g3⟩
    ·cases hp
   ·cases hp
  |_=>cases hp
 |rowN id hm=>simp [jr] at hp
 |rowB id n b c hm hnc=>
  simp only [jr] at hp
  split at hp
  ·cases hp
   exact ⟨b,0,n,c,rfl,by assumption,by have:=R.rptr (m:=m) (X:=X) (w:=w) id sz i 0 b c hm;simpa using this⟩
  ·cases hp
 |view0 id sz' lo A c=>simp [jr] at hp
 |viewB id sz' lo n b c c' hm hc=>
  simp only [jr] at hp
  split at hp
  ·rename_i hh
   obtain ⟨rfl,hlt⟩:=hh
   cases hp
   exact ⟨b,lo * sz',n,c',rfl,hlt,by have:=R.rptr (m:=m) (X:=X) (w:=w) id sz' (lo + i) 0 b c hm;rwa [Nat.add_mul,Nat.add_zero] at this⟩
  ·cases hp
 |_=>cases hp
def jn:PV→Option Nat
 |.d (.lst _ es)=>some es.length
 |.row _ n=>some n
 |.view _ _ _ n=>some n
 |_=>none
theorem tU {m:Nat→Option Loc} {X:Nat→Prop} {w:World} {n:Nat} {x:PV} {v:Value} (hp:jn x = some n) (h:R m X w x v):∃ A c,v = .slice A n c:=by
 cases h with
 |d x v h=>
  cases x with
  |lst sz es=>
   cases hp
   rcases h.lst_inv with ⟨A,c,h1,h2⟩|⟨b,off,c,h1,_⟩
   ·subst h1;exact ⟨A,c,h2⟩
   ·exact ⟨_,c,h1⟩
  |_=>cases hp
 |rowN id hm=>cases hp;exact ⟨_,_,rfl⟩
 |rowB id n b c hm hnc=>cases hp;exact ⟨_,_,rfl⟩
 |view0 id sz' lo A c=>cases hp;exact ⟨_,_,rfl⟩
 |viewB id sz' lo n b c c' hm hc=>cases hp;exact ⟨_,_,rfl⟩
 |_=>cases hp
def ol (sz l h:Nat):PV→Option PV
 |.d (.lst sz' es)=>if sz' = sz then some (.d (.lst sz ((es.take h).drop l))) else none
 |.row id _=>some (.view id sz l (h - l))
 |.view id sz' lo _=>if sz' = sz then some (.view id sz (lo + l) (h - l)) else none
 |_=>none
theorem v_ {m:Nat→Option Loc} {X:Nat→Prop} {w:World} {sz l h n:Nat} {x y:PV} {v:Value} (hp:ol sz l h x = some y) (hn:jn x = some n) (hlh:l≤h) (hhn:h≤n) (hr:R m X w x v):
  ∃ A c,v = .slice A n c∧h≤c∧R m X w y (.slice (if c = l then A else A.map (·.add (l * sz))) (h - l) (c - l)):=by
 cases hr with
 |d x v hd=>
  cases x with
  |lst sz' es=>
   simp only [ol] at hp
   split at hp
   ·rename_i e;subst e
    cases hp
    cases hn
    rcases hd.lst_inv with ⟨A,c,h1,h2⟩|⟨b,off,c,h1,h2,h3,h4⟩
    ·subst h1
     have hh:h = 0:=by simpa using hhn
     subst hh
     have hl:l = 0:=by omega
     subst hl
     refine ⟨A,c,h2,by omega,.d _ _ ?_⟩
     have e1:(([]:List (List D)).take 0).drop 0 = []:=rfl
     rw [e1]
     exact Rd.nil _ _ _
    ·refine ⟨_,c,h1,by omega,.d _ _ ?_⟩
     have hlen:((es.take h).drop l).length = h - l:=by simp;omega
     by_cases hc:c = l
     ·have e1:(es.take h).drop l = []:=List.eq_nil_of_length_eq_zero (by omega)
      rw [e1,show h - l = 0 by omega]
      exact Rd.nil _ _ _
     ·rw [if_neg hc,←hlen]
      simp only [Option.map_some,Addr.add_lit]
      have ae:∀ (k:Nat) (e:List D),((es.take h).drop l)[k]? = some e→es[l + k]? = some e:=by
       intro k e he
       rw [List.getElem?_drop,List.getElem?_take] at he
       split at he
       ·exact he
       ·cases he
      have hadr:∀ k j:Nat,off + l * sz' + (k * sz' + j) = off + ((l + k) * sz' + j):=fun k j=>by rw [Nat.add_mul];omega
      refine Rd.lst _ _ _ _ _ (by omega) (fun e he=>h3 e (List.mem_of_mem_take (List.mem_of_mem_drop he))) (fun k e j d he hd'=>?_) (fun k e j d u he hd' hu=>?_)
      ·obtain ⟨g1,u,g2,_⟩:=h4 (l + k) e j d (ae k e he) hd'
       exact ⟨g1,u,by rw [hadr];exact g2⟩
      ·obtain ⟨g1,u',g2,g3⟩:=h4 (l + k) e j d (ae k e he) hd'
       rw [hadr,g2] at hu
       cases hu
       exact g3
   ·cases hp
  |_=>cases hp
 |rowN id hm=>
  cases hp;cases hn
  have hh:h = 0:=by omega
  subst hh
  have hl:l = 0:=by omega
  subst hl
  exact ⟨none,0,rfl,by omega,.view0 _ _ _ _ _⟩
 |rowB id n b c hm hnc=>
  cases hp;cases hn
  refine ⟨_,c,rfl,by omega,?_⟩
  by_cases hcl:c = l
  ·rw [show h - l = 0 by omega]
   exact .view0 _ _ _ _ _
  ·rw [if_neg hcl]
   simp only [Option.map_some,Addr.add_lit,Nat.zero_add]
   exact .viewB _ _ _ _ _ _ _ hm (by omega)
 |view0 id sz' lo A c=>
  simp only [ol] at hp
  split at hp
  ·cases hp;cases hn
   have hh:h = 0:=by omega
   subst hh
   have hl:l = 0:=by omega
   subst hl
   exact ⟨A,c,rfl,by omega,.view0 _ _ _ _ _⟩
  ·cases hp
 |viewB id sz' lo n b c c' hm hc=>
  simp only [ol] at hp
  split at hp
  ·rename_i e;subst e
   cases hp;cases hn
   refine ⟨_,c',rfl,by omega,?_⟩
   by_cases hcl:c' = l
   ·rw [show h - l = 0 by omega]
    exact .view0 _ _ _ _ _
   ·rw [if_neg hcl]
    simp only [Option.map_some,Addr.add_lit]
    have:=R.viewB (m:=m) (X:=X) (w:=w) id sz' (lo + l) (h - l) b c (c' - l) hm (by omega)
    rwa [Nat.add_mul] at this
  ·cases hp
 |_=>cases hp
section rules
variable {P:Program} {o:Oper} {s:AS} {K:AS→Prop} {KP:PV→Prop}
theorem vg {t:TypeId} {x:Operand} {f n:Nat} {fs:List (Nat × Nat)} {z:List D} {fo:Nat × Nat} {y:PV} (ho:o.op = .fieldAddr t x f) (ht:cd P t (.st n fs z) = true) (hf:fs[f]? = some fo) (hx:ic fo.1 (s.get x) = some y) (hK:KP y):PQ P o s KP:=
 PQ.pure _ hK fun m X w a hq=>by
  obtain ⟨b,off,h1,h2⟩:=mf hx (hq x)
  obtain ⟨⟨fields,h3,h4,h5⟩,_⟩:=il ht
  have hlt:f < fields.size:=by rw [h4];exact (List.getElem?_eq_some_iff.1 hf).1
  obtain ⟨h6,h7,i,h8,h9⟩:=h5 f fields[f] fo (by simp [hlt]) hf
  refine ⟨_,fun u=>?_,h2⟩
  have hne:¬ fo.2 = 0:=by omega
  simp [execOp,ho,h1,Instr.fieldAt,run_underlying h3,hlt,Instr.sureAddr,fieldPlace,eG h8,h9,hne,h6,Addr.add_lit]
theorem vz {t:TypeId} {x i:Operand} {e:TypeId} {sz bytes:Nat} {z:List D} {k:IntKind} {n:Int} {y:PV} (ho:o.op = .indexAddr t x i) (ht:cd P t (.slc e sz bytes z) = true) (hi:s.get i = .d (.int k n)) (h0:0≤n) (hx:jr sz n.toNat (s.get x) = some y) (hK:KP y):PQ P o s KP:=
 PQ.pure _ hK fun m X w a hq=>by
  obtain ⟨b,off,len,c,h1,h2,h3⟩:=xl hx (hq x)
  have h4:=hq i
  rw [hi] at h4
  obtain ⟨h5,⟨inf,v,h6,h7,_⟩,_⟩:=dS ht
  refine ⟨_,fun u=>?_,h3⟩
  have hb:0≤n∧n < (len:Int):=⟨h0,by omega⟩
  simp [execOp,ho,h1,h4.int,Instr.indexAt,run_underlying h5,asIntOf,hb,eG h6,h7,Addr.add_lit]
theorem qL {t:TypeId} {x i:Operand} {len sz:Nat} {z:List D} {k:IntKind} {n:Int} {y:PV} (ho:o.op = .indexAddr t x i) (ht:cd P t (.arr len sz z) = true) (hi:s.get i = .d (.int k n)) (h0:0≤n) (h1:n < len) (hx:ic (n.toNat * sz) (s.get x) = some y) (hK:KP y):PQ P o s KP:=
 PQ.pure _ hK fun m X w a hq=>by
  obtain ⟨b,off,h2,h3⟩:=mf hx (hq x)
  have h4:=hq i
  rw [hi] at h4
  obtain ⟨⟨e,inf,h5,h6,h7⟩,_⟩:=i7 ht
  refine ⟨_,fun u=>?_,h3⟩
  have hb:0≤n∧n < (len:Int):=⟨h0,h1⟩
  simp [execOp,ho,h2,h4.int,Instr.indexAt,run_underlying h5,asIntOf,Instr.sureAddr,hb,eG h6,h7,Addr.add_lit]
theorem xc {t:TypeId} {x:Operand} {e:TypeId} {sz bytes:Nat} {z:List D} {n:Nat} (ho:o.op = .call {callee:=.builtin .len,args:=#[x],argTypes:=#[t]}) (ht:cd P t (.slc e sz bytes z) = true) (hx:jn (s.get x) = some n) (hK:KP (.d (.int .i64 n))):PQ P o s KP:=
 PQ.pure _ hK fun m X w a hq=>by
  obtain ⟨A,c,h1⟩:=tU hx (hq x)
  refine ⟨.int .i64 n,fun u=>?_,.d _ _ (.int _ _)⟩
  simp [execOp,ho,resolve,invoke,builtin,Builtin.len_,h1,run_underlying (dS ht).1,goInt]
theorem tF {t:TypeId} {x:Operand} {b:ByteArray} (ho:o.op = .call {callee:=.builtin .len,args:=#[x],argTypes:=#[t]}) (ht:cd P t .str = true) (hx:s.get x = .d (.str b)) (hK:KP (.d (.int .i64 b.size))):PQ P o s KP:=
 PQ.pure _ hK fun m X w a hq=>by
  have h1:=hq x
  rw [hx] at h1
  refine ⟨.int .i64 b.size,fun u=>?_,.d _ _ (.int _ _)⟩
  simp [execOp,ho,resolve,invoke,builtin,Builtin.len_,h1.str,run_underlying (iY ht).1,goInt]
theorem tm {x:Operand} {i:Nat} {xs:List PV} {y:PV} (ho:o.op = .extract x i) (hx:s.get x = .tup xs) (hy:xs[i]? = some y) (hK:KP y):PQ P o s KP:=
 PQ.pure _ hK fun m X w a hq=>by
  have h1:=hq x
  rw [hx] at h1
  generalize hv:a.eval x = v at h1
  cases h1 with
  |tup _ vs hl h=>
   have hlt:i < vs.size:=by rw [hl];exact (List.getElem?_eq_some_iff.1 hy).1
   exact ⟨vs[i],fun u=>by simp [execOp,ho,hv,Instr.extract,hlt],h i y vs[i] hy (by simp [hlt])⟩
def sH:PV→Bool
 |.eptr _|.bptr _ _|.rptr _ _ _ _=>true
 |_=>false
theorem rb {x:Operand} (ho:o.op = .nilCheck x) (hx:sH (s.get x) = true) (hK:KP (s.get x)):PQ P o s KP:=
 PQ.pure _ hK fun m X w a hq=>by
  have h1:=hq x
  refine ⟨a.eval x,fun u=>?_,h1⟩
  have:∃ b,a.eval x = .pointer (some b):=by
   generalize a.eval x = v at h1
   generalize hg:s.get x = y at h1 hx
   cases h1<;>first|exact ⟨_,rfl⟩|cases hx
  obtain ⟨b,hb⟩:=this
  simp [execOp,ho,hb]
theorem wO {f:FuncId} {caps:Array Operand} (ho:o.op = .makeFunc (.func f) #[] caps) (hK:KP (.fn f (caps.toList.map s.get))):PQ P o s KP:=
 PQ.pure _ hK fun m X w a hq=>by
  refine ⟨.func (.func f) #[] (caps.map a.eval),fun u=>by simp [execOp,ho,Instr.makeFunc],.fn _ _ _ (by simp) fun i x v hx hv=>?_⟩
  rw [List.getElem?_map] at hx
  rw [Array.getElem?_map] at hv
  cases hc:caps[i]? with
  |none=>rw [hc] at hv;cases hv
  |some q=>
   rw [hc] at hv
   have hc':caps.toList[i]? = some q:=by simpa using hc
   rw [hc'] at hx
   cases hv
   cases hx
   exact hq q
def iV (s:AS) (d:Int):Option Operand→Option Int
 |none=>some d
 |some q=>match s.get q with
  |.d (.int _ n)=>some n
  |_=>none
theorem fd {m:Nat→Option Loc} {X:Nat→Prop} {w:World} {a:Act} (hq:∀ q,R m X w (s.get q) (a.eval q)) {q:Operand} {d n:Int} (h:iV s d (some q) = some n):∃ k,a.eval q = .int k n:=by
 simp only [iV] at h
 split at h
 ·rename_i k n' he
  cases h
  have:=hq q
  rw [he] at this
  exact ⟨k,this.int⟩
 ·cases h
theorem dh {P:Program} {w:World} {k:IntKind} {n:Int} {y:Nat} {code:BoundsCode} (h0:0≤n) (h1:n≤y):(Instr.sliceBound (.int k n) y code).run P w = .ok n.toNat w:=by
 have hb:0≤n∧n≤(y:Int):=⟨h0,h1⟩
 simp [Instr.sliceBound,asIntOf,hb]
theorem vi {t:TypeId} {x:Operand} {lo hi:Option Operand} {e:TypeId} {sz bytes n:Nat} {z:List D} {l h:Int} {y:PV} (ho:o.op = .slice t x lo hi none) (ht:cd P t (.slc e sz bytes z) = true) (hn:jn (s.get x) = some n)
  (hlo:iV s 0 lo = some l) (hhi:iV s n hi = some h) (h0:0≤l) (h1:l≤h) (h2:h≤n) (hx:ol sz l.toNat h.toNat (s.get x) = some y) (hK:KP y):PQ P o s KP:=
 PQ.pure _ hK fun m X w a hq=>by
  obtain ⟨A,c,h3,h4,h5⟩:=v_ hx hn (by omega) (by omega) (hq x)
  obtain ⟨g1,⟨inf,v,g2,g3,_⟩,_⟩:=dS ht
  refine ⟨_,fun u=>?_,h5⟩
  have key:(Instr.sliceBounds true n c (lo.map a.eval) (hi.map a.eval) none).run P u = .ok (l.toNat,h.toNat,c) u:=by
   cases hi with
   |none=>
    cases hhi
    cases lo with
    |none=>cases hlo;simp [Instr.sliceBounds]
    |some q=>
     obtain ⟨k,hk⟩:=fd hq hlo
     simp [Instr.sliceBounds,hk,dh h0 h1]
   |some q'=>
    obtain ⟨k',hk'⟩:=fd hq hhi
    have hb1:(h:Int)≤(c:Int):=by omega
    have e1:((h.toNat:Nat):Int) = h:=Int.toNat_of_nonneg (by omega)
    cases lo with
    |none=>cases hlo;simp [Instr.sliceBounds,hk',dh (show (0:Int)≤h by omega) hb1]
    |some q=>
     obtain ⟨k,hk⟩:=fd hq hlo
     simp [Instr.sliceBounds,hk,hk',dh (show (0:Int)≤h by omega) hb1,dh (y:=h.toNat) h0 (by omega)]
  simp [execOp,ho,h3,Instr.sliceAt,Instr.slice,run_underlying g1,key,eG g2,g3]
end rules
end Go.Proofs.YtphakidbddamfaaGreat
