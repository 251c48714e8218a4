/-
  The abstract machine: calls, code, loops, whole functions. No program is named here.
-/
import Derived.Test.YtphakidbddamfaaGreatZM6
namespace Go.Proofs.YtphakidbddamfaaGreat
open Go.RowKit
def D.sc:D→Prop
 |.lst _ _=>False
 |.hole=>False
 |.emap=>False
 |_=>True
theorem Rd.sc {w w':World} {X X':Nat→Prop} {d:D} {v:Value} (h:Rd w X d v) (hd:d.sc):Rd w' X' d v:=by
 cases h with
 |int k n=>exact .int k n
 |bool b=>exact .bool b
 |str s=>exact .str s
 |nil=>exact hd.elim
 |lst=>exact hd.elim
 |hole=>exact hd.elim
 |emap=>exact hd.elim
inductive RV where
 |d (x:D)
 |agg (ds:List D)
 |row (ty:TypeId) (sz:Nat) (es:List (List D))
 |deep (ty:TypeId) (sz:Nat) (es:List (List D))
def RV.flat:RV→Prop
 |.d x=>x.sc
 |.agg ds=>∀ d,d ∈ ds→d.sc
 |.row _ _ es=>∀ e,e ∈ es→∀ d,d ∈ e→d.sc
 |.deep _ _ _=>True
inductive RR (Y:Nat→Prop) (B:Nat) (w:World):RV→Value→(Nat→Prop)→Prop
 |d (x:D) (v:Value) (h:Rd w Y x v):RR Y B w (.d x) v (fun _=>False)
 |agg (ds:List D) (vs:Array Value) (hl:vs.size = ds.length) (h:∀ (i:Nat) (d:D) (v:Value),ds[i]? = some d→vs[i]? = some v→Rd w Y d v):RR Y B w (.agg ds) (.agg vs) (fun _=>False)
 |nil (ty:TypeId) (sz:Nat):RR Y B w (.row ty sz []) (.slice none 0 0) (fun _=>False)
 |row (ty:TypeId) (sz:Nat) (es:List (List D)) (g c:Nat) (arr:Array Value) (hB:B≤g) (hh:w.heap[g]? = some (.cells arr ty (0,0))) (hc:(Blk.row ty sz es).cellsOk (fun _=>none) Y w arr c):RR Y B w (.row ty sz es) (.slice (some ⟨g,0,none⟩) es.length c) (fun b=>b = g)
 |dnil (ty:TypeId) (sz:Nat):RR Y B w (.deep ty sz []) (.slice none 0 0) (fun _=>False)
 |deep (ty:TypeId) (sz:Nat) (es:List (List D)) (g c:Nat) (F:Nat→Prop) (hB:B≤g) (hF:∀ x,F x→B≤x∧x < w.heap.size) (hd:DpOk w F ty sz es (some (.blk g c))):RR Y B w (.deep ty sz es) (.slice (some ⟨g,0,none⟩) es.length c) (fun b=>b = g∨F b)
def cJ (vs:Array Value):Value:=if h:vs.size = 1 then vs[0] else .tuple vs
def Res (X:Nat→Prop) (w:World) (rs:List RV) (e:Ending) (w':World):Prop:=
 ∃ (vs:Array Value) (gs:Nat→Nat→Prop),e = .returned (cJ vs)∧vs.size = rs.length∧Bel w.heap.size w w'∧(∀ i j x,gs i x→gs j x→i = j)∧
  ∀ (i:Nat) (r:RV) (v:Value),rs[i]? = some r→vs[i]? = some v→RR (fun b=>X b∨∃ j,gs j b) w.heap.size w' r v (gs i)
def ql (P:Program) (f:FuncId):Prop:=∃ fn,P.funcs[f]? = some fn∧(fn.name == "runtime.NumGoroutine") = false∧fn.body.isNone = false
def FnOK (P:Program) (f:FuncId) (args:List PV) (Post:List RV→Prop):Prop:=
 ql P f∧∀ (w:World) (X:Nat→Prop) (vals:Array Value),GL w→(∀ b,X b→b < w.heap.size)→vals.size = args.length→(∀ (i:Nat) (x:PV) (v:Value),args[i]? = some x→vals[i]? = some v→R (fun _=>none) X w x v)→
  Calls P f vals w fun e w'=>∃ rs,Post rs∧Res X w rs e w'
theorem FnOK.mono {P:Program} {f:FuncId} {args:List PV} {Post Post':List RV→Prop} (h:FnOK P f args Post) (hp:∀ rs,Post rs→Post' rs):FnOK P f args Post':=
 ⟨h.1,fun w X vals h0 h1 h2 h3=>(h.2 w X vals h0 h1 h2 h3).mono fun _ _ ⟨rs,h4,h5⟩=>⟨rs,hp rs h4,h5⟩⟩
def iP (hp:List (Nat × Blk)):PV→Option (Nat × List (List D))
 |.d (.lst sz es)=>some (sz,es)
 |.row id n=>match cont hp id with
  |some (sz,es)=>if es.length = n then some (sz,es) else none
  |none=>none
 |.view id sz lo n=>match cont hp id with
  |some (sz',es)=>if sz' = sz∧lo + n≤es.length then some (sz,(es.drop lo).take n) else none
  |none=>none
 |_=>none
def pD (hp:List (Nat × Blk)):PV→Option D
 |.d x=>some x
 |.row id n=>match iP hp (.row id n) with
  |some (sz,es)=>some (.lst sz es)
  |none=>none
 |.view id sz lo n=>match iP hp (.view id sz lo n) with
  |some (sz,es)=>some (.lst sz es)
  |none=>none
 |_=>none
def ut (hp:List (Nat × Blk)):List PV→Option (List D)
 |[]=>some []
 |x::r=>match pD hp x,ut hp r with
  |some d,some l=>some (d::l)
  |_,_=>none
theorem rT {hp:List (Nat × Blk)}:∀ {xs:List PV} {ds:List D},ut hp xs = some ds→∀ (j:Nat) d,ds[j]? = some d→∃ x,xs[j]? = some x∧pD hp x = some d
 |[],ds,h,j,d,hj=>by cases h;simp at hj
 |x::r,ds,h,j,d,hj=>by
  simp only [ut] at h
  split at h
  ·rename_i e l he hl
   cases h
   cases j with
   |zero=>simp at hj;subst hj;exact ⟨x,rfl,he⟩
   |succ j=>simpa using rT hl j d (by simpa using hj)
  ·cases h
def qi (hp:List (Nat × Blk)):PV→PV
 |.d x=>.d x
 |.eptr cs=>.eptr cs
 |.bptr id off=>match ae hp id with
  |some (.box _ cs)=>(match ut hp (cs.drop off) with
   |some ds=>.eptr ds
   |none=>.und)
  |_=>.und
 |.row id n=>match iP hp (.row id n) with
  |some (sz,es)=>.d (.lst sz es)
  |none=>.und
 |.view id sz lo n=>match iP hp (.view id sz lo n) with
  |some (sz,es)=>.d (.lst sz es)
  |none=>.und
 |_=>.und
def uE (hp:List (Nat × Blk)):PV→PV
 |.agg xs=>.agg (xs.map (qi hp))
 |x=>qi hp x
def iy (hp:List (Nat × Blk)):PV→PV
 |.fn f caps=>.fn f (caps.map (uE hp))
 |x=>uE hp x
def mV:PV→Bool
 |.row _ _|.view _ _ _ _|.bptr _ _=>true
 |_=>false
def lm:PV→Bool
 |.agg xs=>xs.any mV
 |x=>mV x
def fp:PV→Bool
 |.fn _ caps=>caps.any lm
 |x=>lm x
section
variable {X0:Nat→Prop} {w0:Base} {m:Mp} {s:AS} {a:Act} {w:World} {X':Nat→Prop}
theorem kU (hs:Sim X0 w0 m s a w) {x:PV} {sz:Nat} {fs:List (List D)} {v:Value} (hx:iP s.hp x = some (sz,fs)) (hv:R m.loc (aU X0 m s.hp) w x v) (hn:∀ b,¬ X' b):Rd w X' (.lst sz fs) v:=by
 have any:∀ {d:D} {u:Value},Rd w (fun _=>False) d u→Rd w X' d u:=fun h=>h.mono fun b _ _=>⟨rfl,hn b⟩
 cases hv with
 |d x v h=>
  cases x with
  |lst sz' es=>cases hx;exact any h.any
  |_=>cases hx
 |rowN id hm=>
  simp only [iP] at hx
  split at hx
  ·split at hx
   ·rename_i hl
    cases hx
    rw [List.eq_nil_of_length_eq_zero hl]
    exact .nil _ _ _
   ·cases hx
  ·cases hx
 |rowB id n b c hm hn'=>
  simp only [iP] at hx
  split at hx
  ·rename_i sz1 es1 hc
   split at hx
   ·rename_i hl
    cases hx
    rcases hs.cont hc with ⟨h1,_⟩|⟨b',c',h1,h2⟩
    ·rw [hm] at h1;cases h1
    ·rw [hm] at h1
     cases h1
     have h2c:=h2
     obtain ⟨arr,ty,h3,h4,h5,h6,h7⟩:=h2c
     rw [←hl]
     refine .lst _ _ b 0 c h5 h6 (fun k e j d he hd=>?_) (fun k e j d u he hd hu=>?_)
     ·obtain ⟨u,q1,_⟩:=h2.get he hd
      exact ⟨hn b,u,by rw [Nat.zero_add];exact q1⟩
     ·obtain ⟨u',q1,q2⟩:=h2.get he hd
      rw [Nat.zero_add,q1] at hu
      cases hu
      exact any q2
   ·cases hx
  ·cases hx
 |view0 id sz' lo A c=>
  simp only [iP] at hx
  split at hx
  ·split at hx
   ·cases hx;exact .nil _ _ _
   ·cases hx
  ·cases hx
 |viewB id sz' lo n b c c' hm hc'=>
  simp only [iP] at hx
  split at hx
  ·rename_i sz1 es1 hc
   split at hx
   ·rename_i hl
    obtain ⟨rfl,hl⟩:=hl
    cases hx
    rcases hs.cont hc with ⟨h1,_⟩|⟨b',c2,h1,h2⟩
    ·rw [hm] at h1;cases h1
    ·rw [hm] at h1
     cases h1
     have h2c:=h2
     obtain ⟨arr,ty,h3,h4,h5,h6,h7⟩:=h2c
     have hlen:((es1.drop lo).take n).length = n:=by simp;omega
     have ae:∀ k e,((es1.drop lo).take n)[k]? = some e→es1[lo + k]? = some e:=by
      intro k e he
      rw [List.getElem?_take] at he
      split at he
      ·rw [List.getElem?_drop] at he;exact he
      ·cases he
     have hadr:∀ k j:Nat,lo * sz + (k * sz + j) = (lo + k) * sz + j:=fun k j=>by rw [Nat.add_mul];omega
     have:=Rd.lst (w:=w) (X:=X') sz ((es1.drop lo).take n) b (lo * sz) c' (by rw [hlen];exact hc') (fun e he=>h6 e (List.mem_of_mem_drop (List.mem_of_mem_take he))) (fun k e j d he hd=>by
      obtain ⟨u,q1,_⟩:=h2.get (ae k e he) hd
      exact ⟨hn b,u,by rw [hadr];exact q1⟩) (fun k e j d u he hd hu=>by
      obtain ⟨u',q1,q2⟩:=h2.get (ae k e he) hd
      rw [hadr,q1] at hu
      cases hu
      exact any q2)
     rwa [hlen] at this
   ·cases hx
  ·cases hx
 |_=>cases hx
theorem yF (hs:Sim X0 w0 m s a w) (hX:Stay w w (aU X0 m s.hp) X') (hn:∀ b,¬ X' b) {x:PV} {v:Value} {d:D} (h:R m (aU X0 m s.hp) w x v) (hd:pD s.hp x = some d):Rd w X' d v:=by
 cases x with
 |d x=>cases hd;exact h.rd.mono hX
 |row id n=>
  simp only [pD] at hd
  split at hd
  ·rename_i sz es he;cases hd;exact kU hs he h hn
  ·cases hd
 |view id sz lo n=>
  simp only [pD] at hd
  split at hd
  ·rename_i sz es he;cases hd;exact kU hs he h hn
  ·cases hd
 |_=>cases hd
theorem wa (hs:Sim X0 w0 m s a w) (hX:Stay w w (aU X0 m s.hp) X') {x:PV} {v:Value} (hr:mV x = true→∀ b,¬ X' b) (h:R m (aU X0 m s.hp) w x v):R (fun _=>none) X' w (qi s.hp x) v:=by
 cases x with
 |d x=>exact .d _ _ (h.rd.mono hX)
 |eptr cs=>
  obtain ⟨b,off,rfl,h2⟩:=h.eptr_inv
  refine .eptr _ _ _ fun j d hj=>?_
  obtain ⟨q1,u,q2,q3⟩:=h2 j d hj
  exact ⟨(hX.cell q1 q2).2,u,q2,q3.mono hX⟩
 |bptr id off=>
  obtain ⟨b,c,hm,rfl⟩:=h.bptr_inv
  simp only [qi]
  split
  ·rename_i ty cs hg
   split
   ·rename_i ds hd
    obtain ⟨arr,hh,ha,hc⟩:=hs.blk hg hm
    refine .eptr _ _ _ fun j d hj=>?_
    obtain ⟨x,hx,hp⟩:=rT hd j d hj
    rw [List.getElem?_drop] at hx
    have hlt:=(List.getElem?_eq_some_iff.1 hx).1
    have hja:off + j < arr.size:=by rw [ha];exact hlt
    have hu:arr[off + j]? = some arr[off + j]:=by simp [hja]
    exact ⟨hr rfl b,arr[off + j],by simp [World.cell?,hh,hja],yF hs hX (hr rfl) (hc _ _ _ hx hu).1 hp⟩
   ·exact .und _
  ·exact .und _
 |row id n=>
  simp only [qi]
  split
  ·rename_i sz es he;exact .d _ _ (kU hs he h (hr rfl))
  ·exact .und _
 |view id sz lo n=>
  simp only [qi]
  split
  ·rename_i sz es he;exact .d _ _ (kU hs he h (hr rfl))
  ·exact .und _
 |_=>exact .und _
theorem vX (hs:Sim X0 w0 m s a w) (hX:Stay w w (aU X0 m s.hp) X') {x:PV} {v:Value} (hr:lm x = true→∀ b,¬ X' b) (h:R m (aU X0 m s.hp) w x v):R (fun _=>none) X' w (uE s.hp x) v:=by
 cases x with
 |agg xs=>
  cases h with
  |agg _ vs hl h=>
   refine .agg _ _ (by simpa using hl) fun i y u hy hu=>?_
   rw [List.getElem?_map] at hy
   cases hi:xs[i]? with
   |none=>rw [hi] at hy;cases hy
   |some z=>
    rw [hi] at hy
    cases hy
    exact wa hs hX (fun hz=>hr (by simp only [lm,List.any_eq_true];exact ⟨z,List.mem_of_getElem? hi,hz⟩)) (h i z u hi hu)
 |_=>(refine wa hs hX ?_ h;exact hr)
theorem kV (hs:Sim X0 w0 m s a w) (hX:Stay w w (aU X0 m s.hp) X') {x:PV} {v:Value} (hr:fp x = true→∀ b,¬ X' b) (h:R m (aU X0 m s.hp) w x v):R (fun _=>none) X' w (iy s.hp x) v:=by
 cases x with
 |fn f caps=>
  cases h with
  |fn _ _ vs hl h=>
   refine .fn _ _ _ (by simpa using hl) fun i y u hy hu=>?_
   rw [List.getElem?_map] at hy
   cases hi:caps[i]? with
   |none=>rw [hi] at hy;cases hy
   |some z=>
    rw [hi] at hy
    cases hy
    exact vX hs hX (fun hz=>hr (by simp only [fp,List.any_eq_true];exact ⟨z,List.mem_of_getElem? hi,hz⟩)) (h i z u hi hu)
 |_=>(refine vX hs hX ?_ h;exact hr)
end
def mu (nx:Nat):RV→PV
 |.d x=>.d x
 |.agg ds=>.agg (ds.map .d)
 |.row _ _ es=>.row nx es.length
 |.deep _ _ es=>.row nx es.length
def lA:RV→Option Blk
 |.row ty sz es=>some (.row ty sz es)
 |.deep ty sz es=>some (.deep 0 ty sz es)
 |_=>none
def e8 (nx:Nat):List RV→List PV
 |[]=>[]
 |r::rs=>mu nx r::e8 (nx + 1) rs
def ci (nx:Nat):List RV→List (Nat × Blk)
 |[]=>[]
 |.row ty sz es::rs=>(nx,.row ty sz es)::ci (nx + 1) rs
 |.deep ty sz es::rs=>(nx,.deep 0 ty sz es)::ci (nx + 1) rs
 |_::rs=>ci (nx + 1) rs
def gr (nx:Nat):List RV→PV
 |[r]=>mu nx r
 |rs=>.tup (e8 nx rs)
theorem kL:∀ (rs:List RV) (nx i:Nat),(e8 nx rs)[i]? = (rs[i]?).map (mu (nx + i))
 |[],nx,i=>by simp [e8]
 |r::rs,nx,0=>by simp [e8]
 |r::rs,nx,i + 1=>by
  have:=kL rs (nx + 1) i
  rw [show nx + 1 + i = nx + (i + 1) by omega] at this
  simpa [e8] using this
theorem kP:∀ (rs:List RV) (nx:Nat),(e8 nx rs).length = rs.length
 |[],_=>rfl
 |r::rs,nx=>by rw [e8,List.length_cons,kP rs,List.length_cons]
theorem nc (hp:List (Nat × Blk)):∀ (rs:List RV) (nx id:Nat),(∀ j,nx≤j→ae hp j = none)→
  ae (ci nx rs++hp) id = if id < nx then ae hp id else (rs[id - nx]?).bind lA
 |[],nx,id,h=>by
  by_cases hid:id < nx
  ·simp [ci,hid]
  ·simp [ci,hid,h id (by omega)]
 |r::rs,nx,id,h=>by
  have ih:=nc hp rs (nx + 1) id (fun j hj=>h j (by omega))
  by_cases hid:id < nx
  ·rw [if_pos (by omega)] at ih
   rw [if_pos hid]
   cases r<;>simp only [ci,List.cons_append,ae]
   ·exact ih
   ·exact ih
   ·rw [if_neg (by omega)];exact ih
   ·rw [if_neg (by omega)];exact ih
  ·rw [if_neg hid]
   by_cases he:id = nx
   ·subst he
    rw [if_pos (by omega),h id (Nat.le_refl _)] at ih
    cases r<;>simp [ci,ae,ih,lA]
   ·rw [if_neg (by omega)] at ih
    rw [show id - nx = (id - (nx + 1)) + 1 by omega,List.getElem?_cons_succ]
    cases r<;>simp only [ci,List.cons_append,ae]
    ·exact ih
    ·exact ih
    ·rw [if_neg he];exact ih
    ·rw [if_neg he];exact ih
theorem Blk.has_congr {m m':Mp} {id b:Nat} {blk:Blk} (h1:m'.loc id = m.loc id) (h2:m'.ft id = m.ft id):blk.has m' id b↔blk.has m id b:=by
 cases blk<;>simp [Blk.has,h1,h2]
section rules
variable {P:Program} {o:Oper} {s:AS} {K:AS→Prop}
theorem Sim.takeW {X0:Nat→Prop} {w0:Base} {m:Mp} {a:Act} {w w':World} {X:Nat→Prop} {rs:List RV} {vs:Array Value} {gs:Nat→Nat→Prop} (hs:Sim X0 w0 m s a w) (h2:vs.size = rs.length) (h3:Bel w.heap.size w w') (h4:∀ i j x,gs i x→gs j x→i = j)
  (h5:∀ (i:Nat) (r:RV) (v:Value),rs[i]? = some r→vs[i]? = some v→RR (fun b=>X b∨∃ j,gs j b) w.heap.size w' r v (gs i)) (hX:(∀ b,X b↔aU X0 m s.hp b)∨∀ r ∈ rs,r.flat):
  ∃ m':Mp,Sim X0 w0 m' ⟨s.fr,ci s.nx rs++s.hp,s.nx + rs.length⟩ a w'∧(∀ (i:Nat) (r:RV) (v:Value),rs[i]? = some r→vs[i]? = some v→R m'.loc (aU X0 m' (ci s.nx rs++s.hp)) w' (mu (s.nx + i) r) v)∧(∀ i l,m.loc i = some l→m'.loc i = some l)∧∀ id,s.nx≤id→(rs[id - s.nx]?).bind lA = none→m'.loc id = none:=by
 have hnone:∀ j,s.nx≤j→ae s.hp j = none:=fun j hj=>hs.hget_none hj
 have hget':=fun id=>nc s.hp rs s.nx id hnone
 let lc:Nat→Option Loc:=fun id=>if id < s.nx then m.loc id else match vs[id - s.nx]?,(rs[id - s.nx]?).bind lA with
  |some (.slice (some ad) _ c),some _=>some (.blk ad.block c)
  |some (.slice none _ _),some _=>some .nil
  |_,_=>none
 let m':Mp:=⟨lc,fun id=>if id < s.nx then m.ft id else fun b=>gs (id - s.nx) b∧∀ c,lc id≠some (.blk b c)⟩
 have hmold:∀ id,id < s.nx→m'.loc id = m.loc id:=fun id hid=>if_pos hid
 have hfold:∀ id,id < s.nx→m'.ft id = m.ft id:=fun id hid=>if_pos hid
 have hfnew:∀ i b,m'.ft (s.nx + i) b↔(gs i b∧∀ c,m'.loc (s.nx + i)≠some (.blk b c)):=by
  intro i b
  show (if s.nx + i < s.nx then m.ft (s.nx + i) else fun b=>gs (s.nx + i - s.nx) b∧∀ c,lc (s.nx + i)≠some (.blk b c)) b↔_
  rw [if_neg (by omega),Nat.add_sub_cancel_left]
 have hm:∀ i l,m.loc i = some l→m'.loc i = some l:=fun i l h=>by rw [hmold i (hs.lt_nx h)];exact h
 have hidx:∀ i r,rs[i]? = some r→∃ v,vs[i]? = some v:=fun i r h=>by
  have hlt:=(List.getElem?_eq_some_iff.1 h).1
  exact ⟨_,Array.getElem?_eq_getElem (by omega)⟩
 have hlc:∀ (i:Nat) (r:RV) (v:Value),rs[i]? = some r→vs[i]? = some v→m'.loc (s.nx + i) = match some v,lA r with
   |some (.slice (some ad) _ c),some _=>some (.blk ad.block c)
   |some (.slice none _ _),some _=>some .nil
   |_,_=>none:=by
  intro i r v hi hv
  show (if s.nx + i < s.nx then m.loc (s.nx + i) else match vs[s.nx + i - s.nx]?,(rs[s.nx + i - s.nx]?).bind lA with
   |some (.slice (some ad) _ c),some _=>some (.blk ad.block c)
   |some (.slice none _ _),some _=>some .nil
   |_,_=>none) = _
  rw [if_neg (by omega),Nat.add_sub_cancel_left,hi,hv]
  rfl
 have hrow:∀ i ty sz es,rs[i]? = some (.row ty sz es)→∃ v,vs[i]? = some v∧((es = []∧v = .slice none 0 0∧m'.loc (s.nx + i) = some .nil∧∀ x,¬ gs i x)∨∃ g c arr,v = .slice (some ⟨g,0,none⟩) es.length c∧m'.loc (s.nx + i) = some (.blk g c)∧(∀ x,gs i x↔x = g)∧w.heap.size≤g∧w'.heap[g]? = some (.cells arr ty (0,0))∧(Blk.row ty sz es).cellsOk (fun _=>none) (fun b=>X b∨∃ j,gs j b) w' arr c):=by
  intro i ty sz es hi
  obtain ⟨v,hv⟩:=hidx i _ hi
  refine ⟨v,hv,?_⟩
  have hl:=hlc i _ v hi hv
  have:=h5 i _ v hi hv
  generalize hgi:gs i = g0 at this
  cases this with
  |nil=>exact .inl ⟨rfl,rfl,hl,fun x hx=>hx⟩
  |row _ _ _ g c arr hB hh hc=>exact .inr ⟨g,c,arr,rfl,hl,fun x=>Iff.rfl,hB,hh,hc⟩
 have hdeep:∀ i ty sz es,rs[i]? = some (.deep ty sz es)→∃ v,vs[i]? = some v∧((es = []∧v = .slice none 0 0∧m'.loc (s.nx + i) = some .nil∧∀ x,¬ gs i x)∨∃ g c F,v = .slice (some ⟨g,0,none⟩) es.length c∧m'.loc (s.nx + i) = some (.blk g c)∧(∀ x,gs i x↔(x = g∨F x))∧w.heap.size≤g∧g < w'.heap.size∧(∀ x,F x→w.heap.size≤x∧x < w'.heap.size)∧DpOk w' F ty sz es (some (.blk g c))):=by
  intro i ty sz es hi
  obtain ⟨v,hv⟩:=hidx i _ hi
  refine ⟨v,hv,?_⟩
  have hl:=hlc i _ v hi hv
  have:=h5 i _ v hi hv
  generalize hgi:gs i = g0 at this
  cases this with
  |dnil=>exact .inl ⟨rfl,rfl,hl,fun x hx=>hx⟩
  |deep _ _ _ g c F hB hF hd=>
   refine .inr ⟨g,c,F,rfl,hl,fun x=>Iff.rfl,hB,?_,hF,hd⟩
   obtain ⟨_,arr,hh,_⟩:=hd
   rcases Nat.lt_or_ge g w'.heap.size with h|h
   ·exact h
   ·rw [Array.getElem?_eq_none h] at hh;cases hh
 have hltw:∀ {g arr} {ty:TypeId},w'.heap[g]? = some (.cells arr ty (0,0))→g < w'.heap.size:=by
  intro g arr ty hh
  rcases Nat.lt_or_ge g w'.heap.size with h|h
  ·exact h
  ·rw [Array.getElem?_eq_none h] at hh;cases hh
 have hhas:∀ id blk b,ae (ci s.nx rs++s.hp) id = some blk→blk.has m' id b→(id < s.nx∧ae s.hp id = some blk∧blk.has m id b)∨(s.nx≤id∧id - s.nx < rs.length∧gs (id - s.nx) b∧w.heap.size≤b∧b < w'.heap.size):=by
  intro id blk b q1 q2
  rw [hget' id] at q1
  by_cases hlt:id < s.nx
  ·rw [if_pos hlt] at q1
   exact .inl ⟨hlt,q1,(Blk.has_congr (hmold id hlt) (hfold id hlt)).1 q2⟩
  ·rw [if_neg hlt] at q1
   refine .inr ?_
   obtain ⟨i,rfl⟩:∃ i,id = s.nx + i:=⟨id - s.nx,by omega⟩
   rw [Nat.add_sub_cancel_left] at q1 ⊢
   cases hi:rs[i]? with
   |none=>rw [hi] at q1;cases q1
   |some r=>
    rw [hi] at q1
    have hir:=(List.getElem?_eq_some_iff.1 hi).1
    cases r with
    |d x=>cases q1
    |agg ds=>cases q1
    |row ty sz es=>
     cases q1
     obtain ⟨c,hc⟩:=q2
     obtain ⟨v,_,h6⟩:=hrow i ty sz es hi
     rcases h6 with ⟨_,_,h7,_⟩|⟨g,c',arr,_,h7,h8,h9,h10,_⟩
     ·rw [hc] at h7;cases h7
     ·rw [hc] at h7
      cases h7
      exact ⟨by omega,hir,(h8 b).2 rfl,h9,hltw h10⟩
    |deep ty sz es=>
     cases q1
     obtain ⟨v,_,h6⟩:=hdeep i ty sz es hi
     rcases h6 with ⟨_,_,h7,h8⟩|⟨g,c',F,_,h7,h8,h9,h9',h10,_⟩
     ·rcases q2 with ⟨c,hc⟩|hf
      ·rw [hc] at h7;cases h7
      ·exact (h8 b ((hfnew i b).1 hf).1).elim
     ·rcases q2 with ⟨c,hc⟩|hf
      ·rw [hc] at h7
       cases h7
       exact ⟨by omega,hir,(h8 b).2 (.inl rfl),h9,h9'⟩
      ·have hg:=((hfnew i b).1 hf).1
       rcases (h8 b).1 hg with e|e
       ·subst e;exact ⟨by omega,hir,hg,h9,h9'⟩
       ·exact ⟨by omega,hir,hg,h10 b e⟩
 have hgs:∀ j b,gs j b→j < rs.length→w.heap.size≤b∧∃ blk,ae (ci s.nx rs++s.hp) (s.nx + j) = some blk∧blk.has m' (s.nx + j) b:=by
  intro j b q hj
  have hi:=List.getElem?_eq_getElem hj
  have hgt:ae (ci s.nx rs++s.hp) (s.nx + j) = lA rs[j]:=by rw [hget',if_neg (by omega),Nat.add_sub_cancel_left,hi];rfl
  rw [hgt]
  generalize rs[j] = r at hi
  cases r with
  |d x=>
   obtain ⟨v,hv⟩:=hidx j _ hi
   have h6:=h5 j _ v hi hv
   generalize gs j = g0 at h6 q
   cases h6;exact q.elim
  |agg ds=>
   obtain ⟨v,hv⟩:=hidx j _ hi
   have h6:=h5 j _ v hi hv
   generalize gs j = g0 at h6 q
   cases h6;exact q.elim
  |row ty sz es=>
   obtain ⟨v,_,h6⟩:=hrow j ty sz es hi
   rcases h6 with ⟨_,_,_,h8⟩|⟨g,c,arr,_,h7,h8,h9,_⟩
   ·exact (h8 b q).elim
   ·have e:=(h8 b).1 q
    subst e
    exact ⟨h9,_,rfl,c,h7⟩
  |deep ty sz es=>
   obtain ⟨v,_,h6⟩:=hdeep j ty sz es hi
   rcases h6 with ⟨_,_,_,h8⟩|⟨g,c,F,_,h7,h8,h9,h9',h10,h11⟩
   ·exact (h8 b q).elim
   ·rcases (h8 b).1 q with e|e
    ·subst e
     exact ⟨h9,_,rfl,.inl ⟨c,h7⟩⟩
    ·refine ⟨(h10 b e).1,_,rfl,.inr ((hfnew j b).2 ⟨q,fun c' hc'=>?_⟩)⟩
     rw [h7] at hc'
     cases hc'
     exact h11.1 e
 have hown':∀ b,aU X0 m' (ci s.nx rs++s.hp) b↔(aU X0 m s.hp b∨∃ j,j < rs.length∧gs j b):=by
  intro b
  constructor
  ·rintro (hx|⟨id,blk,q1,q2⟩)
   ·exact .inl (.inl hx)
   ·rcases hhas id blk b q1 q2 with ⟨_,q3,q4⟩|⟨_,q3,q4,_⟩
    ·exact .inl (.inr ⟨id,blk,q3,q4⟩)
    ·exact .inr ⟨_,q3,q4⟩
  ·rintro ((hx|⟨id,blk,q1,q2⟩)|⟨j,hj,q⟩)
   ·exact .inl hx
   ·obtain ⟨l,q3,_⟩:=hs.hp id blk q1
    have hid:=hs.lt_nx q3
    exact .inr ⟨id,blk,by rw [hget' id,if_pos hid];exact q1,(Blk.has_congr (hmold id hid) (hfold id hid)).2 q2⟩
   ·obtain ⟨_,blk,q1,q2⟩:=hgs j b q hj
    exact .inr ⟨_,blk,q1,q2⟩
 have hst:Stay w w' (aU X0 m s.hp) (aU X0 m' (ci s.nx rs++s.hp)):=by
  intro b hb hn
  refine ⟨h3.block b hb,fun ho=>?_⟩
  rcases (hown' b).1 ho with h6|⟨j,hj,h6⟩
  ·exact hn h6
  ·have:=(hgs j b h6 hj).1
   omega
 have hread:∀ (r:RV),r ∈ rs→∀ d v,(r.flat→d.sc)→Rd w' (fun b=>X b∨∃ j,gs j b) d v→Rd w' (aU X0 m' (ci s.nx rs++s.hp)) d v:=by
  intro r hr d v hf h
  rcases hX with hX|hX
  ·refine h.mono fun b _ hn=>⟨rfl,fun ho=>hn ?_⟩
   rcases (hown' b).1 ho with h6|⟨j,_,h6⟩
   ·exact .inl ((hX b).2 h6)
   ·exact .inr ⟨j,h6⟩
  ·exact h.sc (hf (hX r hr))
 have hrowok:∀ ty sz es arr c,RV.row ty sz es ∈ rs→(Blk.row ty sz es).cellsOk (fun _=>none) (fun b=>X b∨∃ j,gs j b) w' arr c→(Blk.row ty sz es).cellsOk m'.loc (aU X0 m' (ci s.nx rs++s.hp)) w' arr c:=by
  intro ty sz es arr c hm hc
  exact ⟨hc.1,hc.2.1,hc.2.2.1,hc.2.2.2.1,fun k e j d u he hd hu=>hread _ hm d u (fun hf=>hf e (List.mem_of_getElem? he) d (List.mem_of_getElem? hd)) (hc.2.2.2.2 k e j d u he hd hu)⟩
 have hpv:∀ i r v,rs[i]? = some r→vs[i]? = some v→R m'.loc (aU X0 m' (ci s.nx rs++s.hp)) w' (mu (s.nx + i) r) v:=by
  intro i r v hi hv
  have hmem:=List.mem_of_getElem? hi
  cases r with
  |d x=>
   have h6:=h5 i _ v hi hv
   generalize gs i = g0 at h6
   cases h6 with
   |d _ _ h=>exact .d _ _ (hread _ hmem x v (fun hf=>hf) h)
  |agg ds=>
   have h6:=h5 i _ v hi hv
   generalize gs i = g0 at h6
   cases h6 with
   |agg _ us hl h=>
    refine .agg _ _ (by simpa using hl) fun j y u hy hu=>?_
    rw [List.getElem?_map] at hy
    cases hj:ds[j]? with
    |none=>rw [hj] at hy;cases hy
    |some d=>
     rw [hj] at hy
     cases hy
     exact .d _ _ (hread _ hmem d u (fun hf=>hf d (List.mem_of_getElem? hj)) (h j d u hj hu))
  |row ty sz es=>
   obtain ⟨v',hv',h6⟩:=hrow i ty sz es hi
   rw [hv] at hv'
   cases hv'
   rcases h6 with ⟨rfl,rfl,h7,_⟩|⟨g,c,arr,rfl,h7,_,_,_,hc⟩
   ·exact .rowN _ h7
   ·exact .rowB _ _ _ _ h7 hc.2.1
  |deep ty sz es=>
   obtain ⟨v',hv',h6⟩:=hdeep i ty sz es hi
   rw [hv] at hv'
   cases hv'
   rcases h6 with ⟨rfl,rfl,h7,_⟩|⟨g,c,F,rfl,h7,_,_,_,_,hd⟩
   ·exact .rowN _ h7
   ·obtain ⟨_,arr,_,_,hle,_⟩:=hd
    exact .rowB _ _ _ _ h7 hle
 refine ⟨m',hs.step hm ⟨h3.os,h3.tape,h3.output,h3.size,fun k hk _=>h3.block k (by have:=hs.below.size;omega),h3.drawn⟩ hst ?_ ?_ ?_ ?_ ?_ ?_ ?_,hpv,hm,fun id hid h6=>?_⟩
 ·intro id blk hid
  rw [hget' id] at hid
  by_cases hlt:id < s.nx
  ·rw [if_pos hlt] at hid
   obtain ⟨l,q1,q2⟩:=hs.hp id blk hid
   refine ⟨l,by rw [hmold id hlt];exact q1,q2.mono hm hst fun b c hpl e=>?_⟩
   subst e
   exact h3.block b (hs.own id blk b hid (Blk.has_root hpl q1)).2
  ·rw [if_neg hlt] at hid
   obtain ⟨i,rfl⟩:∃ i,id = s.nx + i:=⟨id - s.nx,by omega⟩
   rw [Nat.add_sub_cancel_left] at hid
   cases hi:rs[i]? with
   |none=>rw [hi] at hid;cases hid
   |some r=>
    rw [hi] at hid
    cases r with
    |d x=>cases hid
    |agg ds=>cases hid
    |row ty sz es=>
     cases hid
     obtain ⟨v,_,h6⟩:=hrow i ty sz es hi
     rcases h6 with ⟨h7,_,h8,_⟩|⟨g,c,arr,_,h8,_,_,hh,hc⟩
     ·exact ⟨_,h8,h7⟩
     ·exact ⟨_,h8,arr,hh,hrowok ty sz es arr c (List.mem_of_getElem? hi) hc⟩
    |deep ty sz es=>
     cases hid
     obtain ⟨v,_,h6⟩:=hdeep i ty sz es hi
     rcases h6 with ⟨h7,_,h8,_⟩|⟨g,c,F,_,h8,_⟩
     ·exact ⟨_,h8,trivial⟩
     ·exact ⟨_,h8,trivial⟩
 ·intro id p ty sz es hid
  rw [hget' id] at hid
  by_cases hlt:id < s.nx
  ·rw [if_pos hlt] at hid
   rw [hmold id hlt,hfold id hlt]
   exact (hs.dp id p ty sz es hid).frame (fun x hx=>h3.block x (hs.own id _ x hid (.inr hx)).2) fun b c hbc=>h3.block b (hs.own id _ b hid (.inl ⟨c,hbc⟩)).2
  ·rw [if_neg hlt] at hid
   obtain ⟨i,rfl⟩:∃ i,id = s.nx + i:=⟨id - s.nx,by omega⟩
   rw [Nat.add_sub_cancel_left] at hid
   cases hi:rs[i]? with
   |none=>rw [hi] at hid;cases hid
   |some r=>
    rw [hi] at hid
    cases r with
    |d x=>cases hid
    |agg ds=>cases hid
    |row ty sz es=>cases hid
    |deep ty sz es=>
     cases hid
     obtain ⟨v,_,h6⟩:=hdeep i ty sz es hi
     rcases h6 with ⟨h7,_,h8,h9⟩|⟨g,c,F,_,h8,h9,_,_,_,hd⟩
     ·rw [h8];exact ⟨h7,fun x hx=>h9 x ((hfnew i x).1 hx).1⟩
     ·rw [h8]
      obtain ⟨q1,arr,q2,q3,q4,q5,q6,Fp,q7,q8,q9⟩:=hd
      refine ⟨fun hf=>((hfnew i g).1 hf).2 c h8,arr,q2,q3,q4,q5,q6,Fp,fun k j x hx=>(hfnew i x).2 ⟨(h9 x).2 (.inr (q7 k j x hx)),fun c' hc'=>?_⟩,q8,q9⟩
      rw [h8] at hc'
      cases hc'
      exact q1 (q7 k j g hx)
 ·intro id par k j hid
  rw [hget' id] at hid
  by_cases hlt:id < s.nx
  ·rw [if_pos hlt] at hid
   obtain ⟨q,ty,sz,es,e0,sz',es',b,c,arr,a1,a2,a3,a4,a5,a6⟩:=hs.al id par k j hid
   have hpl:=hs.lt_nx a4
   refine ⟨q,ty,sz,es,e0,sz',es',b,c,arr,by rw [hget' par,if_pos hpl];exact a1,a2,a3,by rw [hmold par hpl];exact a4,?_,by rw [hmold id hlt];exact a6⟩
   rw [h3.block b (hs.own par _ b a1 (.inl ⟨c,a4⟩)).2]
   exact a5
  ·rw [if_neg hlt] at hid
   cases hi:rs[id - s.nx]? with
   |none=>rw [hi] at hid;cases hid
   |some r=>
    rw [hi] at hid
    cases r<;>cases hid
 ·intro id blk p hid hpo
  rw [hget' id] at hid
  by_cases hlt:id < s.nx
  ·rw [if_pos hlt] at hid
   rw [hmold id hlt]
   exact hs.pin id blk p hid hpo
  ·rw [if_neg hlt] at hid
   cases hi:rs[id - s.nx]? with
   |none=>rw [hi] at hid;cases hid
   |some r=>
    rw [hi] at hid
    cases r<;>cases hid<;>cases hpo
 ·intro id id' blk blk' b q1 q2 q3 q4
  rcases hhas id blk b q1 q3 with ⟨a1,a2,a3⟩|⟨a1,a2,a3,a4,_⟩
  ·rcases hhas id' blk' b q2 q4 with ⟨b1,b2,b3⟩|⟨b1,b2,b3,b4,_⟩
   ·exact hs.inj id id' blk blk' b a2 b2 a3 b3
   ·have:=(hs.own id blk b a2 a3).2;omega
  ·rcases hhas id' blk' b q2 q4 with ⟨b1,b2,b3⟩|⟨b1,b2,b3,b4,_⟩
   ·have:=(hs.own id' blk' b b2 b3).2;omega
   ·have:=h4 _ _ b a3 b3
    omega
 ·intro id blk b q1 q2
  rcases hhas id blk b q1 q2 with ⟨a1,a2,a3⟩|⟨a1,a2,a3,a4,a5⟩
  ·have:=hs.own id blk b a2 a3
   exact ⟨this.1,Nat.lt_of_lt_of_le this.2 h3.size⟩
  ·exact ⟨.inl (Nat.le_trans hs.below.size a4),a5⟩
 ·intro id hid
  have h6:rs[id - s.nx]? = none:=List.getElem?_eq_none (by omega)
  show (if id < s.nx then m.loc id else match vs[id - s.nx]?,(rs[id - s.nx]?).bind lA with
   |some (.slice (some ad) _ c),some _=>some (.blk ad.block c)
   |some (.slice none _ _),some _=>some .nil
   |_,_=>none) = none
  rw [if_neg (by omega),h6]
  cases vs[id - s.nx]? with
  |none=>rfl
  |some v=>
   cases v<;>try rfl
   rename_i A _ _
   cases A<;>rfl
 ·show (if id < s.nx then m.loc id else match vs[id - s.nx]?,(rs[id - s.nx]?).bind lA with
   |some (.slice (some ad) _ c),some _=>some (.blk ad.block c)
   |some (.slice none _ _),some _=>some .nil
   |_,_=>none) = none
  rw [if_neg (by omega),h6]
  cases vs[id - s.nx]? with
  |none=>rfl
  |some v=>
   cases v<;>try rfl
   rename_i A _ _
   cases A<;>rfl
theorem Sim.takeV {X0:Nat→Prop} {w0:Base} {m:Mp} {a:Act} {w w':World} {X:Nat→Prop} {rs:List RV} {vs:Array Value} {gs:Nat→Nat→Prop} (hs:Sim X0 w0 m s a w) (h2:vs.size = rs.length) (h3:Bel w.heap.size w w') (h4:∀ i j x,gs i x→gs j x→i = j)
  (h5:∀ (i:Nat) (r:RV) (v:Value),rs[i]? = some r→vs[i]? = some v→RR (fun b=>X b∨∃ j,gs j b) w.heap.size w' r v (gs i)) (hX:(∀ b,X b↔aU X0 m s.hp b)∨∀ r ∈ rs,r.flat):
  ∃ m':Mp,Sim X0 w0 m' ⟨s.fr,ci s.nx rs++s.hp,s.nx + rs.length⟩ a w'∧∀ (i:Nat) (r:RV) (v:Value),rs[i]? = some r→vs[i]? = some v→R m'.loc (aU X0 m' (ci s.nx rs++s.hp)) w' (mu (s.nx + i) r) v:=by
 obtain ⟨m',q1,q2,_⟩:=hs.takeW h2 h3 h4 h5 hX
 exact ⟨m',q1,q2⟩
theorem Sim.take {X0:Nat→Prop} {w0:Base} {m:Mp} {a:Act} {w w':World} {X:Nat→Prop} {rs:List RV} {e:Ending} (hs:Sim X0 w0 m s a w) (hr:Res X w rs e w') (hX:(∀ b,X b↔aU X0 m s.hp b)∨∀ r ∈ rs,r.flat):
  ∃ m' v,e = .returned v∧Sim X0 w0 m' ⟨s.fr,ci s.nx rs++s.hp,s.nx + rs.length⟩ a w'∧R m'.loc (aU X0 m' (ci s.nx rs++s.hp)) w' (gr s.nx rs) v:=by
 obtain ⟨vs,gs,h1,h2,h3,h4,h5⟩:=hr
 obtain ⟨m',hS,hpv⟩:=hs.takeV h2 h3 h4 h5 hX
 refine ⟨m',cJ vs,h1,hS,?_⟩
 have hl:(e8 s.nx rs).length = vs.size:=by rw [kP,h2]
 have htup:R m'.loc (aU X0 m' (ci s.nx rs++s.hp)) w' (.tup (e8 s.nx rs)) (.tuple vs):=by
  refine .tup _ _ hl.symm fun i y u hy hu=>?_
  rw [kL] at hy
  cases hi:rs[i]? with
  |none=>rw [hi] at hy;cases hy
  |some r=>
   rw [hi] at hy
   cases hy
   exact hpv i r u hi hu
 cases rs with
 |nil=>
  have:¬ vs.size = 1:=by rw [h2];simp
  simp only [cJ,this,dif_neg,not_false_eq_true]
  exact htup
 |cons r rest=>
  cases rest with
  |nil=>
   have h1':vs.size = 1:=by rw [h2];rfl
   simp only [cJ,h1',dif_pos]
   exact hpv 0 r vs[0] rfl (by simp [h1'])
  |cons r2 rest=>
   have:¬ vs.size = 1:=by rw [h2];simp
   simp only [cJ,this,dif_neg,not_false_eq_true]
   exact htup
def ResA (X:Nat→Prop) (w:World) (rs:List RV) (e:Ending) (w':World):Prop:=
 ∃ (vs:Array Value) (gs:Nat→Nat→Prop),e = .returned (.agg vs)∧vs.size = rs.length∧Bel w.heap.size w w'∧(∀ i j x,gs i x→gs j x→i = j)∧
  ∀ (i:Nat) (r:RV) (v:Value),rs[i]? = some r→vs[i]? = some v→RR (fun b=>X b∨∃ j,gs j b) w.heap.size w' r v (gs i)
theorem Sim.takeA {X0:Nat→Prop} {w0:Base} {m:Mp} {a:Act} {w w':World} {X:Nat→Prop} {rs:List RV} {e:Ending} (hs:Sim X0 w0 m s a w) (hr:ResA X w rs e w') (hX:(∀ b,X b↔aU X0 m s.hp b)∨∀ r ∈ rs,r.flat):
  ∃ m' v,e = .returned v∧Sim X0 w0 m' ⟨s.fr,ci s.nx rs++s.hp,s.nx + rs.length⟩ a w'∧R m'.loc (aU X0 m' (ci s.nx rs++s.hp)) w' (.agg (e8 s.nx rs)) v:=by
 obtain ⟨vs,gs,h1,h2,h3,h4,h5⟩:=hr
 obtain ⟨m',hS,hpv⟩:=hs.takeV h2 h3 h4 h5 hX
 refine ⟨m',.agg vs,h1,hS,?_⟩
 have hl:(e8 s.nx rs).length = vs.size:=by rw [kP,h2]
 refine .agg _ _ hl.symm fun i y u hy hu=>?_
 rw [kL] at hy
 cases hi:rs[i]? with
 |none=>rw [hi] at hy;cases hy
 |some r=>
  rw [hi] at hy
  cases hy
  exact hpv i r u hi hu
theorem wR {f:Operand} {args:Array Operand} {argTypes:Array TypeId} {fid:FuncId} {caps:List PV} {Post:List RV→Prop} (ho:o.op = .call {callee:=.value f,args:=args,argTypes:=argTypes}) (hf:s.get f = .fn fid caps)
  (hok:FnOK P fid ((args.toList.map s.get++caps).map (iy s.hp)) Post)
  (hK:∀ rs,Post rs→((args.toList.map s.get++caps).any fp = true→∀ r ∈ rs,r.flat)∧K (AS.put ⟨s.fr,ci s.nx rs++s.hp,s.nx + rs.length⟩ o.dst (gr s.nx rs))):PO P o s K:=by
 intro X0 w0 m a w Q hs
 obtain ⟨⟨fn,e1,e2,e3⟩,hcall⟩:=hok
 have hfv:=hs.get f
 rw [hf] at hfv
 obtain ⟨vs,hl,hvs,hfe⟩:∃ vs:Array Value,vs.size = caps.length∧(∀ (i:Nat) (x:PV) (v:Value),caps[i]? = some x→vs[i]? = some v→R m (aU X0 m s.hp) w x v)∧a.eval f = .func (.func fid) #[] vs:=by
  generalize a.eval f = v at hfv
  cases hfv with
  |fn _ _ vs hl h=>exact ⟨vs,hl,h,rfl⟩
 have hrun:(execOp a.eval o).run P w = .ok (.enter fid (args.map a.eval++vs)) w:=by
  have e2':¬ fn.name = "runtime.NumGoroutine":=by simpa using e2
  have e3':¬ fn.body = none:=fun h=>by rw [h] at e3;cases e3
  simp [execOp,ho,resolve,hfe,Deferred.ofValue,invoke,callFunc,e1]
  rw [if_neg e2',if_neg e3']
 unfold Oper.wp
 rw [hrun]
 simp only [Oper.upon_enter]
 have hxb:∀ b,aU X0 m s.hp b→b < w.heap.size:=fun b hb=>hs.lt_size hb
 have hall:∀ (i:Nat) (x:PV) (v:Value),(args.toList.map s.get++caps)[i]? = some x→(args.map a.eval++vs)[i]? = some v→R m (aU X0 m s.hp) w x v:=by
  intro i x v hx hv
  by_cases hi:i < args.size
  ·rw [List.getElem?_append_left (by simpa using hi),List.getElem?_map] at hx
   rw [Array.getElem?_append_left (by simpa using hi),Array.getElem?_map] at hv
   have h6:args[i]? = some args[i]:=by simp [hi]
   have h7:args.toList[i]? = some args[i]:=by simp [hi]
   rw [h6] at hv
   rw [h7] at hx
   cases hv
   cases hx
   exact hs.get _
  ·rw [List.getElem?_append_right (by simp;omega)] at hx
   rw [Array.getElem?_append_right (by simp;omega)] at hv
   simp only [List.length_map,Array.length_toList] at hx
   simp only [Array.size_map] at hv
   exact hvs _ x v hx hv
 have key:∀ X',(∀ b,X' b→b < w.heap.size)→Stay w w (aU X0 m s.hp) X'→((args.toList.map s.get++caps).any fp = true→∀ b,¬ X' b)→Calls P fid (args.map a.eval++vs) w fun e w'=>∃ rs,Post rs∧Res X' w rs e w':=by
  intro X' h1 h2 h3
  refine hcall w X' _ hs.glob h1 (by simp [hl]) fun i x v hx hv=>?_
  rw [List.getElem?_map] at hx
  cases hi:(args.toList.map s.get++caps)[i]? with
  |none=>rw [hi] at hx;cases hx
  |some y=>
   rw [hi] at hx
   cases hx
   exact kV hs h2 (fun hr=>h3 (by rw [List.any_eq_true];exact ⟨y,List.mem_of_getElem? hi,hr⟩)) (hall i y v hi hv)
 cases hrf:(args.toList.map s.get++caps).any fp with
 |false=>
  refine (key (aU X0 m s.hp) hxb (Stay.refl _ _) (fun h=>by rw [hrf] at h;cases h)).mono ?_
  rintro e w' ⟨rs,h1,h2⟩
  obtain ⟨m',v,h3,h4,h5⟩:=hs.take h2 (.inl fun b=>Iff.rfl)
  subst h3
  exact ⟨m',_,(hK rs h1).2,h4.put h5 o.dst⟩
 |true=>
  refine (key (fun _=>False) (fun b h=>h.elim) (fun b _ _=>⟨rfl,fun h=>h⟩) (fun _ b h=>h)).mono ?_
  rintro e w' ⟨rs,h1,h2⟩
  obtain ⟨m',v,h3,h4,h5⟩:=hs.take h2 (.inr ((hK rs h1).1 hrf))
  subst h3
  exact ⟨m',_,(hK rs h1).2,h4.put h5 o.dst⟩
def FnAg (P:Program) (f:FuncId) (args:List PV) (rs:List RV):Prop:=
 ql P f∧∀ (w:World) (X:Nat→Prop) (vals:Array Value),GL w→(∀ b,X b→b < w.heap.size)→vals.size = args.length→(∀ (i:Nat) (x:PV) (v:Value),args[i]? = some x→vals[i]? = some v→R (fun _=>none) X w x v)→
  Calls P f vals w fun e w'=>ResA X w rs e w'
theorem jF {f:Operand} {args:Array Operand} {argTypes:Array TypeId} {fid:FuncId} {caps:List PV} {rs:List RV} (ho:o.op = .call {callee:=.value f,args:=args,argTypes:=argTypes}) (hf:s.get f = .fn fid caps)
  (hok:FnAg P fid ((args.toList.map s.get++caps).map (iy s.hp)) rs)
  (hK:((args.toList.map s.get++caps).any fp = true→∀ r ∈ rs,r.flat)∧K (AS.put ⟨s.fr,ci s.nx rs++s.hp,s.nx + rs.length⟩ o.dst (.agg (e8 s.nx rs)))):PO P o s K:=by
 intro X0 w0 m a w Q hs
 obtain ⟨⟨fn,e1,e2,e3⟩,hcall⟩:=hok
 have hfv:=hs.get f
 rw [hf] at hfv
 obtain ⟨vs,hl,hvs,hfe⟩:∃ vs:Array Value,vs.size = caps.length∧(∀ (i:Nat) (x:PV) (v:Value),caps[i]? = some x→vs[i]? = some v→R m (aU X0 m s.hp) w x v)∧a.eval f = .func (.func fid) #[] vs:=by
  generalize a.eval f = v at hfv
  cases hfv with
  |fn _ _ vs hl h=>exact ⟨vs,hl,h,rfl⟩
 have hrun:(execOp a.eval o).run P w = .ok (.enter fid (args.map a.eval++vs)) w:=by
  have e2':¬ fn.name = "runtime.NumGoroutine":=by simpa using e2
  have e3':¬ fn.body = none:=fun h=>by rw [h] at e3;cases e3
  simp [execOp,ho,resolve,hfe,Deferred.ofValue,invoke,callFunc,e1]
  rw [if_neg e2',if_neg e3']
 unfold Oper.wp
 rw [hrun]
 simp only [Oper.upon_enter]
 have hxb:∀ b,aU X0 m s.hp b→b < w.heap.size:=fun b hb=>hs.lt_size hb
 have hall:∀ (i:Nat) (x:PV) (v:Value),(args.toList.map s.get++caps)[i]? = some x→(args.map a.eval++vs)[i]? = some v→R m (aU X0 m s.hp) w x v:=by
  intro i x v hx hv
  by_cases hi:i < args.size
  ·rw [List.getElem?_append_left (by simpa using hi),List.getElem?_map] at hx
   rw [Array.getElem?_append_left (by simpa using hi),Array.getElem?_map] at hv
   have h6:args[i]? = some args[i]:=by simp [hi]
   have h7:args.toList[i]? = some args[i]:=by simp [hi]
   rw [h6] at hv
   rw [h7] at hx
   cases hv
   cases hx
   exact hs.get _
  ·rw [List.getElem?_append_right (by simp;omega)] at hx
   rw [Array.getElem?_append_right (by simp;omega)] at hv
   simp only [List.length_map,Array.length_toList] at hx
   simp only [Array.size_map] at hv
   exact hvs _ x v hx hv
 have key:∀ X',(∀ b,X' b→b < w.heap.size)→Stay w w (aU X0 m s.hp) X'→((args.toList.map s.get++caps).any fp = true→∀ b,¬ X' b)→Calls P fid (args.map a.eval++vs) w fun e w'=>ResA X' w rs e w':=by
  intro X' h1 h2 h3
  refine hcall w X' _ hs.glob h1 (by simp [hl]) fun i x v hx hv=>?_
  rw [List.getElem?_map] at hx
  cases hi:(args.toList.map s.get++caps)[i]? with
  |none=>rw [hi] at hx;cases hx
  |some y=>
   rw [hi] at hx
   cases hx
   exact kV hs h2 (fun hr=>h3 (by rw [List.any_eq_true];exact ⟨y,List.mem_of_getElem? hi,hr⟩)) (hall i y v hi hv)
 cases hrf:(args.toList.map s.get++caps).any fp with
 |false=>
  refine (key (aU X0 m s.hp) hxb (Stay.refl _ _) (fun h=>by rw [hrf] at h;cases h)).mono ?_
  intro e w' h2
  obtain ⟨m',v,h3,h4,h5⟩:=hs.takeA h2 (.inl fun b=>Iff.rfl)
  subst h3
  exact ⟨m',_,hK.2,h4.put h5 o.dst⟩
 |true=>
  refine (key (fun _=>False) (fun b h=>h.elim) (fun b _ _=>⟨rfl,fun h=>h⟩) (fun _ b h=>h)).mono ?_
  intro e w' h2
  obtain ⟨m',v,h3,h4,h5⟩:=hs.takeA h2 (.inr (hK.1 hrf))
  subst h3
  exact ⟨m',_,hK.2,h4.put h5 o.dst⟩
end rules
end Go.Proofs.YtphakidbddamfaaGreat
namespace Go.Proofs.YtphakidbddamfaaGreat
open Go.RowKit
def PW (P:Program) (c:Code) (Q:Exit→AS→Prop) (s:AS):Prop:=
 ∀ (X0:Nat→Prop) (w0:Base) (m:Mp) (a:Act) (w:World),Sim X0 w0 m s a w→c.wp P (fun e a' w'=>∃ m' s',Q e s'∧Sim X0 w0 m' s' a' w') a w
def ep (K:AS→Prop) (Q:Exit→AS→Prop):Exit→AS→Prop
 |.normal,s=>K s
 |e,s=>Q e s
def da (id:Nat) (Q:Exit→AS→Prop):Exit→AS→Prop
 |.exit id',s=>if id' = id then Q .normal s else Q (.exit id') s
 |e,s=>Q e s
section rules
variable {P:Program} {Q:Exit→AS→Prop} {s:AS}
theorem rM (h:Q .normal s):PW P .skip Q s:=fun _ _ m _ _ hs=>wp_skip ⟨m,s,h,hs⟩
theorem wE {id:Nat} (h:Q (.exit id) s):PW P (.exit id) Q s:=fun _ _ m _ _ hs=>wp_exit ⟨m,s,h,hs⟩
theorem xt (h:Q .ret s):PW P .ret Q s:=fun _ _ m _ _ hs=>wp_ret ⟨m,s,h,hs⟩
theorem cm {x y:Code} (h:PW P x (ep (PW P y Q) Q) s):PW P (.seq x y) Q s:=by
 intro X0 w0 m a w hs
 refine wp_seq (wp_mono (h X0 w0 m a w hs) ?_)
 rintro e a' w' ⟨m',s',h1,h2⟩
 cases e with
 |normal=>exact h1 X0 w0 m' a' w' h2
 |_=>exact ⟨m',s',h1,h2⟩
theorem pH {id:Nat} {c:Code} (h:PW P c (da id Q) s):PW P (.block id c) Q s:=by
 intro X0 w0 m a w hs
 refine wp_block (wp_mono (h X0 w0 m a w hs) ?_)
 rintro e a' w' ⟨m',s',h1,h2⟩
 cases e with
 |exit id'=>
  simp only [da] at h1
  simp only [Exit.inBlock]
  split
  ·rename_i e;rw [if_pos e] at h1;exact ⟨m',s',h1,h2⟩
  ·rename_i e;rw [if_neg e] at h1;exact ⟨m',s',h1,h2⟩
 |_=>exact ⟨m',s',h1,h2⟩
theorem rO {c:Operand} {x y:Code} {b:Bool} (hc:s.get c = .d (.bool b)) (ht:b = true→PW P x Q s) (hf:b = false→PW P y Q s):PW P (.cond c x y) Q s:=by
 intro X0 w0 m a w hs
 have h1:=hs.get c
 rw [hc] at h1
 exact wp_cond_split h1.bool (fun h=>ht h X0 w0 m a w hs) (fun h=>hf h X0 w0 m a w hs)
def yB (ops:Array Oper) (s:AS) (j:Nat):PV:=match (ops[j]?).bind (·.dst) with
 |some t=>lk s.fr.l t
 |none=>.und
def PL (P:Program) (ops:Array Oper):List Oper→(AS→Prop)→AS→Prop
 |[],K,s=>K s
 |o::rest,K,s=>match o.guard with
  |none=>PO P o s (PL P ops rest K)
  |some (j,want)=>(∃ b,yB ops s j = .d (.bool b)∧(b = want→PO P o s (PL P ops rest K))∧(b≠want→PL P ops rest K (s.put o.dst (.tup []))))∨(yB ops s j = .tup []∧PL P ops rest K (s.put o.dst (.tup [])))
theorem lT (m:Nat→Option Loc) (X:Nat→Prop) (w:World):R m X w (.tup []) undef:=.tup [] #[] rfl (fun i x v h=>by simp at h)
theorem ii {ops:Array Oper} {X0:Nat→Prop} {w0:Base} {Q':Exit→Act→World→Prop}:∀ (l:List Oper) (K:AS→Prop) (s:AS) (m:Mp) (a:Act) (w:World),PL P ops l K s→Sim X0 w0 m s a w→
  (∀ m' s' a' w',K s'→Sim X0 w0 m' s' a' w'→Q' .normal a' w')→wpList P ops Q' l a w
 |[],K,s,m,a,w,h,hs,hK=>hK m s a w h hs
 |o::rest,K,s,m,a,w,h,hs,hK=>by
  have step:PO P o s (PL P ops rest K)→o.wp P a w (wpList P ops Q' rest) Q':=by
   intro h1
   have:=h1 X0 w0 m a w Q' hs
   exact Oper.wp_mono (fun a' w' ⟨m',s',h2,h3⟩=>ii rest K s' m' a' w' h2 h3 hK) this
  unfold wpList
  simp only [PL] at h
  split at h
  ·rename_i hg
   simp only [Region.wanted,hg,if_true]
   exact .inl (step h)
  ·rename_i j want hg
   rcases h with ⟨b,h1,h2,h3⟩|⟨h1,h3⟩
   case inr=>
    have hy:yielded ops a.tmps j = none:=by
     unfold yB at h1
     cases hd:(ops[j]?).bind (·.dst) with
     |none=>rw [hd] at h1;cases h1
     |some t=>
      rw [hd] at h1
      have h4:=hs.get (.tmp t)
      have h1':lk s.fr.l t = .tup []:=h1
      simp only [AS.get] at h4
      rw [h1'] at h4
      have h5:∀ b,a.tmps.getD t undef≠.bool b:=by
       intro b he
       have h4':R m (aU X0 m s.hp) w (.tup []) (a.tmps.getD t undef):=h4
       rw [he] at h4'
       cases h4'
      unfold yielded
      rw [hd]
      simp only [Option.bind_some]
      split
      ·rename_i b hb
       exact absurd (by rw [Array.getD_eq_getD_getElem?,hb];rfl) (h5 b)
      ·rfl
    simp only [Region.wanted,hg,hy]
    have:((none:Option Bool) == some want) = false:=rfl
    simp only [this,Bool.false_eq_true,if_false]
    exact ii rest K _ m _ w h3 (hs.put (lT _ _ _) o.dst) hK
   have hy:yielded ops a.tmps j = some b:=by
    unfold yB at h1
    cases hd:(ops[j]?).bind (·.dst) with
    |none=>rw [hd] at h1;cases h1
    |some t=>
     rw [hd] at h1
     have h4:=hs.get (.tmp t)
     have h1':lk s.fr.l t = .d (.bool b):=h1
     simp only [AS.get] at h4
     rw [h1'] at h4
     have h5:a.tmps.getD t undef = .bool b:=h4.bool
     have h6:a.tmps[t]? = some (.bool b):=by
      rw [Array.getD_eq_getD_getElem?] at h5
      cases ht:a.tmps[t]? with
      |none=>rw [ht] at h5;cases h5
      |some u=>rw [ht] at h5;simp at h5;rw [h5]
     unfold yielded
     rw [hd]
     simp [h6]
   simp only [Region.wanted,hg,hy]
   by_cases hb:b = want
   ·subst hb
    simp only [beq_self_eq_true,if_true]
    exact .inl (step (h2 rfl))
   ·have:(some b == some want) = false:=by simpa using hb
    simp only [this,Bool.false_eq_true,if_false]
    exact ii rest K _ m _ w (h3 hb) (hs.put (lT _ _ _) o.dst) hK
theorem ck {id:Nat} {l:List Oper} (h:PL P l.toArray l (Q .normal) s):PW P (.region id l.toArray false) Q s:=by
 intro X0 w0 m a w hs
 refine wp_region_lit ?_
 exact ii l _ s m a w h hs fun m' s' a' w' h1 h2=>⟨m',s',h1,h2⟩
theorem sh {α:Type} {c:Code} {Q:Exit→Act→World→Prop} (I:α→Act→World→Prop) (μ:α→Nat)
  (round:∀ x a w,I x a w→c.wp P (Exit.then (fun a' w'=>∃ x',I x' a' w'∧μ x' < μ x) Q) a w) (x:α) (a:Act) (w:World) (h0:I x a w):(Code.loop c).wp P Q a w:=by
 intro b k cs
 have key:∀ n x a w,μ x = n→I x a w→∃ e a' w',Q e a' w'∧Arrives P (lone (b.at a (.code c::.inLoop c::k)) cs w) b k cs e a' w':=by
  intro n
  induction n using Nat.strongRecOn with
  |_ n ih=>
   intro x a w hn hI
   obtain ⟨e,a₁,w₁,hq,harr⟩:=round x a w hI b (.inLoop c::k) cs
   cases e with
   |normal=>
    obtain ⟨x',hI₁,hlt⟩:=hq
    obtain ⟨e₂,a₂,w₂,hq₂,harr₂⟩:=ih (μ x') (hn ▸ hlt) x' a₁ w₁ rfl hI₁
    exact ⟨e₂,a₂,w₂,hq₂,.of_steps (Steps.trans harr (.one step_inLoop)) harr₂⟩
   |exit id=>exact ⟨_,a₁,w₁,hq,.pass (x:=.inLoop c) rfl (fun _ _=>.inl (by simp)) harr⟩
   |goto l=>exact ⟨_,a₁,w₁,hq,.pass (x:=.inLoop c) rfl (fun _ _=>.inl (by simp)) harr⟩
   |ret=>exact ⟨_,a₁,w₁,hq,.pass (x:=.inLoop c) rfl (fun _ _=>.inl (by simp)) harr⟩
   |panic ch=>exact ⟨_,a₁,w₁,hq,.pass (x:=.inLoop c) rfl (fun _ _=>.inl (by simp)) harr⟩
   |outgrown=>exact ⟨_,a₁,w₁,hq,.pass (x:=.inLoop c) rfl (fun _ _=>.inl (by simp)) harr⟩
 obtain ⟨e,a',w',hq,harr⟩:=key _ x a w rfl h0
 exact ⟨e,a',w',hq,.of_steps (.one step_loop) harr⟩
end rules
def fj (σ:List (Nat × Nat)) (i:Nat):Nat:=match σ with
 |[]=>i
 |(k,j)::r=>if i = k then j else fj r i
mutual
def ren (σ:List (Nat × Nat)):PV→PV
 |.d x=>.d x
 |.agg xs=>.agg (fl σ xs)
 |.tup xs=>.tup (fl σ xs)
 |.row id n=>.row (fj σ id) n
 |.view id sz lo n=>.view (fj σ id) sz lo n
 |.bptr id off=>.bptr (fj σ id) off
 |.rptr id sz k off=>.rptr (fj σ id) sz k off
 |.eptr cs=>.eptr cs
 |.fn f caps=>.fn f (fl σ caps)
 |.und=>.und
def fl (σ:List (Nat × Nat)):List PV→List PV
 |[]=>[]
 |x::r=>ren σ x::fl σ r
end
mutual
def bd (nx:Nat):PV→Bool
 |.agg xs=>i3 nx xs
 |.tup xs=>i3 nx xs
 |.row id _=>decide (id < nx)
 |.view id _ _ _=>decide (id < nx)
 |.bptr id _=>decide (id < nx)
 |.rptr id _ _ _=>decide (id < nx)
 |.fn _ caps=>i3 nx caps
 |_=>true
def i3 (nx:Nat):List PV→Bool
 |[]=>true
 |x::r=>bd nx x && i3 nx r
end
theorem t3 (σ:List (Nat × Nat)):∀ ds:List D,fl σ (ds.map .d) = ds.map .d
 |[]=>rfl
 |d::r=>by rw [List.map_cons,fl,ren,t3 σ r]
theorem wc (nx:Nat):∀ ds:List D,i3 nx (ds.map .d) = true
 |[]=>rfl
 |d::r=>by simp [i3,bd,wc nx r]
theorem gb (σ:List (Nat × Nat)):∀ (xs:List PV) (i:Nat),(fl σ xs)[i]? = (xs[i]?).map (ren σ)
 |[],i=>by simp [fl]
 |x::r,0=>by simp [fl]
 |x::r,i + 1=>by simpa [fl] using gb σ r i
theorem f4 (σ:List (Nat × Nat)):∀ (xs:List PV),(fl σ xs).length = xs.length
 |[]=>rfl
 |x::r=>by rw [fl,List.length_cons,f4 σ r,List.length_cons]
theorem gX {nx:Nat}:∀ {xs:List PV},i3 nx xs = true→∀ (i:Nat) x,xs[i]? = some x→bd nx x = true
 |[],_,i,x,h=>by simp at h
 |y::r,hb,0,x,h=>by simp only [i3,Bool.and_eq_true] at hb;simp at h;subst h;exact hb.1
 |y::r,hb,i + 1,x,h=>by simp only [i3,Bool.and_eq_true] at hb;exact gX hb.2 i x (by simpa using h)
theorem tI {m m0:Nat→Option Loc} {X X':Nat→Prop} {w:World} {σ:List (Nat × Nat)} {nx:Nat} (hm:∀ i,i < nx→m0 i = m (fj σ i)) (hX:∀ b,X' b→X b) {y:PV} {v:Value} (h:R m X w y v):∀ x,ren σ x = y→bd nx x = true→R m0 X' w x v:=by
 have hst:Stay w w X X':=fun b _ hb=>⟨rfl,fun hx=>hb (hX b hx)⟩
 induction h with
 |d z v h=>
  intro x hx hb
  cases x<;>simp only [ren] at hx<;>cases hx
  exact .d _ _ (h.mono hst)
 |agg ys vs hl h ih=>
  intro x hx hb
  cases x<;>simp only [ren] at hx<;>cases hx
  rename_i xs
  simp only [bd] at hb
  refine .agg _ _ (by rw [hl,f4]) fun i z u hz hu=>?_
  exact ih i _ u (by rw [gb,hz];rfl) hu z rfl (gX hb i z hz)
 |tup ys vs hl h ih=>
  intro x hx hb
  cases x<;>simp only [ren] at hx<;>cases hx
  rename_i xs
  simp only [bd] at hb
  refine .tup _ _ (by rw [hl,f4]) fun i z u hz hu=>?_
  exact ih i _ u (by rw [gb,hz];rfl) hu z rfl (gX hb i z hz)
 |rowN id h=>
  intro x hx hb
  cases x<;>simp only [ren] at hx<;>cases hx
  exact .rowN _ (by rw [hm _ (by simpa [bd] using hb)];exact h)
 |rowB id n b c h hn=>
  intro x hx hb
  cases x<;>simp only [ren] at hx<;>cases hx
  exact .rowB _ _ _ _ (by rw [hm _ (by simpa [bd] using hb)];exact h) hn
 |view0 id sz lo A c=>
  intro x hx hb
  cases x<;>simp only [ren] at hx<;>cases hx
  exact .view0 _ _ _ _ _
 |viewB id sz lo n b c c' h hc=>
  intro x hx hb
  cases x<;>simp only [ren] at hx<;>cases hx
  exact .viewB _ _ _ _ _ _ _ (by rw [hm _ (by simpa [bd] using hb)];exact h) hc
 |bptr id off b c h=>
  intro x hx hb
  cases x<;>simp only [ren] at hx<;>cases hx
  exact .bptr _ _ _ _ (by rw [hm _ (by simpa [bd] using hb)];exact h)
 |rptr id sz k off b c h=>
  intro x hx hb
  cases x<;>simp only [ren] at hx<;>cases hx
  exact .rptr _ _ _ _ _ _ (by rw [hm _ (by simpa [bd] using hb)];exact h)
 |eptr cs b off h=>
  intro x hx hb
  cases x<;>simp only [ren] at hx<;>cases hx
  refine .eptr _ _ _ fun j d hj=>?_
  obtain ⟨q1,u,q2,q3⟩:=h j d hj
  exact ⟨fun hx=>q1 (hX _ hx),u,q2,q3.mono hst⟩
 |fn f caps vs hl h ih=>
  intro x hx hb
  cases x<;>simp only [ren] at hx<;>cases hx
  rename_i xs
  simp only [bd] at hb
  refine .fn _ _ _ (by rw [hl,f4]) fun i z u hz hu=>?_
  exact ih i _ u (by rw [gb,hz];rfl) hu z rfl (gX hb i z hz)
 |und v=>
  intro x hx hb
  cases x<;>simp only [ren] at hx<;>cases hx
  exact .und _
def vl (σ:List (Nat × Nat)) (nx:Nat) (x:PV):PV→Prop
 |.und=>True
 |y=>x = ren σ y∧bd nx y = true
def kZ (σ:List (Nat × Nat)) (nx:Nat) (f:List (Nat × PV)):List (Nat × PV)→Prop
 |[]=>True
 |(i,y)::r=>vl σ nx (lk f i) y∧kZ σ nx f r
def m8 (σ:List (Nat × Nat)):Blk→Blk
 |.box ty cs=>.box ty (fl σ cs)
 |.pbox p ty cs=>.pbox p ty (fl σ cs)
 |.row ty sz es=>.row ty sz es
 |.deep p ty sz es=>.deep p ty sz es
 |.al par k j=>.al par k j
def rR (nx:Nat):Blk→Bool
 |.box _ cs=>i3 nx cs
 |.pbox _ _ cs=>i3 nx cs
 |.row _ _ _=>true
 |.deep _ _ _ _=>true
 |.al _ _ _=>false
def mr (σ:List (Nat × Nat)) (nx:Nat) (hp:List (Nat × Blk)):List (Nat × Blk)→Prop
 |[]=>True
 |(id,b)::r=>ae hp (fj σ id) = some (m8 σ b)∧rR nx b = true∧id < nx∧mr σ nx hp r
def iM (s s0:AS):Prop:=∃ σ:List (Nat × Nat),(s.fr.n = s0.fr.n∧kZ σ s0.nx s.fr.l s0.fr.l)∧mr σ s0.nx s.hp s0.hp∧(s0.hp.map fun p=>fj σ p.1).Nodup
def sg (f:List (Nat × PV)):List (Nat × PV)→List (Nat × Nat)
 |[]=>[]
 |(i,.row a _)::r=>(match lk f i with
  |.row b _=>(a,b)::sg f r
  |_=>sg f r)
 |(i,.view a _ _ _)::r=>(match lk f i with
  |.view b _ _ _=>(a,b)::sg f r
  |_=>sg f r)
 |(i,.bptr a _)::r=>(match lk f i with
  |.bptr b _=>(a,b)::sg f r
  |_=>sg f r)
 |(_,.rptr _ _ _ _)::r=>sg f r
 |(_,.d _)::r=>sg f r
 |(_,.agg _)::r=>sg f r
 |(_,.tup _)::r=>sg f r
 |(_,.eptr _)::r=>sg f r
 |(_,.fn _ _)::r=>sg f r
 |(_,.und)::r=>sg f r
theorem ao {s s0:AS} (ex:List (Nat × Nat)) (h:(s.fr.n = s0.fr.n∧kZ (sg s.fr.l s0.fr.l++ex) s0.nx s.fr.l s0.fr.l)∧mr (sg s.fr.l s0.fr.l++ex) s0.nx s.hp s0.hp∧(s0.hp.map fun p=>fj (sg s.fr.l s0.fr.l++ex) p.1).Nodup):iM s s0:=⟨_,h⟩
theorem nN {σ:List (Nat × Nat)} {nx:Nat} {f:List (Nat × PV)}:∀ {ys:List (Nat × PV)},kZ σ nx f ys→∀ i y,(i,y) ∈ ys→y = .und∨(lk f i = ren σ y∧bd nx y = true)
 |[],_,i,y,h=>by simp at h
 |(k,z)::r,h,i,y,hm=>by
  obtain ⟨h1,h2⟩:=h
  rcases List.mem_cons.1 hm with e|e
  ·have e1:i = k:=congrArg Prod.fst e
   have e2:y = z:=congrArg Prod.snd e
   subst e1 e2
   cases y<;>simp only [vl] at h1
   case und=>exact .inl rfl
   all_goals exact .inr h1
  ·exact nN h2 i y e
theorem tW {σ:List (Nat × Nat)} {nx:Nat} {f ys:List (Nat × PV)} (h:kZ σ nx f ys) (i:Nat):lk ys i = .und∨(lk f i = ren σ (lk ys i)∧bd nx (lk ys i) = true):=by
 rcases uv ys i with e|e
 ·exact .inl e
 ·exact nN h i _ e
theorem ea {σ:List (Nat × Nat)} {nx:Nat} {hp:List (Nat × Blk)}:∀ {l:List (Nat × Blk)},mr σ nx hp l→∀ id b,ae l id = some b→ae hp (fj σ id) = some (m8 σ b)∧rR nx b = true∧id < nx
 |[],_,id,b,h=>by simp [ae] at h
 |(k,c)::r,hf,id,b,h=>by
  obtain ⟨h1,h2,h3,h4⟩:=hf
  simp only [ae] at h
  split at h
  ·rename_i e;subst e;cases h;exact ⟨h1,h2,h3⟩
  ·exact ea h4 id b h
theorem jH {l:List (Nat × Blk)} {id:Nat} {b:Blk} (h:ae l id = some b):(id,b) ∈ l:=by
 induction l with
 |nil=>simp [ae] at h
 |cons p r ih=>
  obtain ⟨k,c⟩:=p
  simp only [ae] at h
  split at h
  ·rename_i e;subst e;cases h;simp
  ·exact List.mem_cons_of_mem _ (ih h)
theorem nW {σ:List (Nat × Nat)}:∀ {l:List (Nat × Blk)},(l.map fun p=>fj σ p.1).Nodup→∀ id id' b b',ae l id = some b→ae l id' = some b'→fj σ id = fj σ id'→id = id'
 |[],_,id,id',b,b',h,_,_=>by simp [ae] at h
 |(k,c)::r,hn,id,id',b,b',h,h',e=>by
  simp only [List.map_cons,List.nodup_cons] at hn
  simp only [ae] at h h'
  split at h
  ·rename_i e1
   subst e1
   split at h'
   ·rename_i e2;exact e2.symm
   ·exact absurd (List.mem_map.2 ⟨(id',b'),jH h',e.symm⟩) hn.1
  ·split at h'
   ·rename_i e2
    subst e2
    exact absurd (List.mem_map.2 ⟨(id,b),jH h,e⟩) hn.1
   ·exact nW hn.2 id id' b b' h h' e
theorem Blk.has_ren {m m0:Mp} {σ:List (Nat × Nat)} {id b:Nat} {blk:Blk} (hl:m0.loc id = m.loc (fj σ id)) (hf:m0.ft id = m.ft (fj σ id)):blk.has m0 id b↔(m8 σ blk).has m (fj σ id) b:=by
 cases blk<;>simp [Blk.has,m8,hl,hf]
theorem Sim.fits {X0:Nat→Prop} {w0:Base} {m:Mp} {s s0:AS} {a:Act} {w:World} (hs:Sim X0 w0 m s a w) (hf:iM s s0):∃ m0,Sim X0 w0 m0 s0 a w:=by
 obtain ⟨σ,⟨g1,h1⟩,h2,h3⟩:=hf
 have g2:=tW h1
 let m0:Mp:=⟨fun i=>if i < s0.nx then m.loc (fj σ i) else none,fun i=>m.ft (fj σ i)⟩
 have hm:∀ i,i < s0.nx→m0.loc i = m.loc (fj σ i):=fun i hi=>if_pos hi
 have hh:∀ id blk b,id < s0.nx→(blk.has m0 id b↔(m8 σ blk).has m (fj σ id) b):=fun id blk b hid=>Blk.has_ren (hm id hid) rfl
 have hown:∀ b,aU X0 m0 s0.hp b→aU X0 m s.hp b:=by
  rintro b (hx|⟨id,blk,q1,q2⟩)
  ·exact .inl hx
  ·obtain ⟨r1,_,r3⟩:=ea h2 id blk q1
   exact .inr ⟨fj σ id,_,r1,(hh id blk b r3).1 q2⟩
 refine ⟨m0,hs.below,hs.x0,by rw [hs.size,g1],fun i=>?_,hs.df,fun id blk hid=>?_,fun id p ty sz es hid=>?_,fun id par k j hid=>?_,fun id blk p hid hpo=>?_,fun id id' blk blk' b q1 q2 q3 q4=>?_,fun id blk b q1 q2=>?_,fun id hid=>if_neg (by omega),hs.gl⟩
 ·rcases g2 i with q1|⟨q1,q2⟩
  ·rw [q1];exact .und _
  ·have q3:=hs.fr i
   rw [q1] at q3
   exact tI hm hown q3 _ rfl q2
 ·obtain ⟨r1,r2,r3⟩:=ea h2 id blk hid
  obtain ⟨l,q1,q2⟩:=hs.hp _ _ r1
  refine ⟨l,by rw [hm id r3];exact q1,?_⟩
  cases blk with
  |deep=>trivial
  |al=>trivial
  |box ty cs=>
   cases l with
   |nil=>exact q2
   |blk b c=>
    obtain ⟨arr,q3,q4⟩:=q2
    simp only [rR] at r2
    refine ⟨arr,q3,by rw [q4.1,f4],fun j x v hx hv=>?_⟩
    have:=q4.2 j (ren σ x) v (by rw [gb,hx];rfl) hv
    exact ⟨tI hm hown this.1 x rfl (gX r2 j x hx),this.2⟩
  |pbox p ty cs=>
   cases l with
   |nil=>exact q2
   |blk b c=>
    obtain ⟨arr,q3,q4⟩:=q2
    simp only [rR] at r2
    refine ⟨arr,q3,by rw [q4.1,f4],fun j x v hx hv=>?_⟩
    have:=q4.2 j (ren σ x) v (by rw [gb,hx];rfl) hv
    exact ⟨tI hm hown this.1 x rfl (gX r2 j x hx),this.2⟩
  |row ty sz es=>
   cases l with
   |nil=>exact q2
   |blk b c=>
    obtain ⟨arr,q3,q4⟩:=q2
    exact ⟨arr,q3,q4.1,q4.2.1,q4.2.2.1,q4.2.2.2.1,fun k e j d v he hd hv=>(q4.2.2.2.2 k e j d v he hd hv).mono fun b _ hb=>⟨rfl,fun hx=>hb (hown b hx)⟩⟩
 ·obtain ⟨r1,_,r3⟩:=ea h2 id _ hid
  rw [hm id r3]
  exact hs.dp _ p ty sz es r1
 ·obtain ⟨_,r2,_⟩:=ea h2 id _ hid
  simp [rR] at r2
 ·obtain ⟨r1,_,r3⟩:=ea h2 id _ hid
  rw [hm id r3]
  exact hs.pin _ _ p r1 (by cases blk<;>exact hpo)
 ·obtain ⟨r1,_,r3⟩:=ea h2 id blk q1
  obtain ⟨r4,_,r6⟩:=ea h2 id' blk' q2
  exact nW h3 id id' blk blk' q1 q2 (hs.inj _ _ _ _ b r1 r4 ((hh id blk b r3).1 q3) ((hh id' blk' b r6).1 q4))
 ·obtain ⟨r1,_,r3⟩:=ea h2 id blk q1
  exact hs.own _ _ b r1 ((hh id blk b r3).1 q2)
section loops
variable {P:Program} {Q:Exit→AS→Prop} {s:AS}
theorem i1 {c:Code} {s0:AS} (hf:iM s s0) (h:PW P c Q s0):PW P c Q s:=fun X0 w0 _ a w hs=>
 let ⟨m0,h0⟩:=hs.fits hf
 h X0 w0 m0 a w h0
theorem wy {α:Type} {c:Code} (I:α→AS) (J:α→Prop) (μ:α→Nat) (x0:α) (h0:J x0) (hf:iM s (I x0))
  (round:∀ x,J x→PW P c (ep (fun s'=>∃ x',J x'∧μ x' < μ x∧iM s' (I x')) Q) (I x)):PW P (.loop c) Q s:=by
 intro X0 w0 m a w hs
 obtain ⟨m0,hs0⟩:=hs.fits hf
 refine sh (fun x a w=>J x∧∃ m,Sim X0 w0 m (I x) a w) μ ?_ x0 a w ⟨h0,m0,hs0⟩
 rintro x a w ⟨hJ,m,hs⟩
 refine wp_mono (round x hJ X0 w0 m a w hs) ?_
 rintro e a' w' ⟨m',s',h1,h2⟩
 cases e with
 |normal=>
  obtain ⟨x',h3,h4,h5⟩:=h1
  obtain ⟨m2,h6⟩:=h2.fits h5
  exact ⟨x',⟨h3,m2,h6⟩,h4⟩
 |_=>exact ⟨m',s',h1,h2⟩
end loops
def bn (hp:List (Nat × Blk)):PV→Option RV
 |.d x=>some (.d x)
 |.agg xs=>match cX hp xs with
  |some ds=>some (.agg ds)
  |none=>none
 |.row id n=>match ae hp id with
  |some (.row ty sz es)=>if es.length = n then some (.row ty sz es) else none
  |some (.deep 0 ty sz es)=>if es.length = n then some (.deep ty sz es) else none
  |_=>none
 |.view id sz lo n=>match ae hp id with
  |some (.row _ sz' es)=>if sz' = sz∧lo + n≤es.length then some (.d (.lst sz ((es.drop lo).take n))) else none
  |_=>none
 |_=>none
def bl (hp:List (Nat × Blk)):List PV→Option (List RV)
 |[]=>some []
 |x::r=>match bn hp x,bl hp r with
  |some d,some l=>some (d::l)
  |_,_=>none
def dB (G:List (Nat × TI)) (s:AS):List ResultVar→Option (List PV)
 |[]=>some []
 |.tmp t::r=>match dB G s r with
  |some l=>some (lk s.fr.l t::l)
  |none=>none
 |.cell t ty::r=>match bt G ty,fJ s (lk s.fr.l t),dB G s r with
  |some ti,some cs,some l=>(match ti.cells with
   |none=>(match cs[0]? with|some x=>some (x::l)|none=>none)
   |some n=>if n≤cs.length then some (.agg (cs.take n)::l) else none)
  |_,_,_=>none
def am:List PV→List Nat
 |[]=>[]
 |.row id _::r=>id::am r
 |.view id _ _ _::r=>id::am r
 |.agg ys::r=>bb ys++am r
 |_::r=>am r
def vP (G:List (Nat × TI)) (fn:Func) (Post:List RV→Prop) (s:AS):Prop:=∃ xs rs,dB G s fn.results.toList = some xs∧bl s.hp xs = some rs∧(am xs).Nodup∧Post rs
def xa (G:List (Nat × TI)) (fn:Func) (Post:List RV→Prop):Exit→AS→Prop
 |.normal,s|.ret,s=>vP G fn Post s
 |_,_=>False
section fn
variable {P:Program} {G:List (Nat × TI)}
def ko (tmps:Array Value):ResultVar→Sem Value
 |.tmp t=>pure (tmps.getD t undef)
 |.cell q t=>do loadVar t (←asAddr (tmps.getD q undef))
theorem gZ {X0:Nat→Prop} {w0:Base} {m:Mp} {s:AS} {a:Act} {w:World} (hG:GOK P G) (hs:Sim X0 w0 m s a w):∀ (l:List ResultVar) (xs:List PV),dB G s l = some xs→
  ∃ vs:List Value,(l.mapM (ko a.tmps)).run P w = .ok vs w∧vs.length = xs.length∧∀ (i:Nat) x v,xs[i]? = some x→vs[i]? = some v→R m (aU X0 m s.hp) w x v
 |[],xs,h=>by cases h;exact ⟨[],by simp,rfl,fun i x v h=>by simp at h⟩
 |.tmp t::r,xs,h=>by
  simp only [dB] at h
  split at h
  ·rename_i l hl
   cases h
   obtain ⟨vs,h1,h2,h3⟩:=gZ hG hs r l hl
   refine ⟨a.tmps.getD t undef::vs,by simp only [List.mapM_cons,Sem.run_bind,ko,Sem.run_pure,Result.andThen_ok,h1],by simp [h2],fun i x v hx hv=>?_⟩
   cases i with
   |zero=>simp at hx;simp only [List.getElem?_cons_zero,Option.some.injEq] at hv;subst hx hv;exact hs.get (.tmp t)
   |succ i=>exact h3 i x v (by simpa using hx) (by simpa using hv)
  ·cases h
 |.cell q ty::r,xs,h=>by
  simp only [dB] at h
  split at h
  ·rename_i ti cs l ht hcs hl
   obtain ⟨vs,h1,h2,h3⟩:=gZ hG hs r l hl
   obtain ⟨b,off,g1,g2⟩:=hs.cells hcs (hs.get (.tmp q))
   have g1':a.tmps.getD q undef = .pointer (some ⟨b,off,none⟩):=g1
   have hti:=hG _ _ ht
   have key:∀ y,(∃ u,(loadVar ty ⟨b,off,none⟩).run P w = .ok u w∧R m (aU X0 m s.hp) w y u)→xs = y::l→∃ vs:List Value,((.cell q ty::r).mapM (ko a.tmps)).run P w = .ok vs w∧vs.length = xs.length∧∀ (i:Nat) x v,xs[i]? = some x→vs[i]? = some v→R m (aU X0 m s.hp) w x v:=by
    rintro y ⟨u,hu,hR⟩ rfl
    refine ⟨u::vs,by simp only [List.mapM_cons,Sem.run_bind,ko,g1',asAddr,Sem.run_pure,Result.andThen_ok,hu,h1],by simp [h2],fun i x v hx hv=>?_⟩
    cases i with
    |zero=>simp at hx hv;subst hx hv;exact hR
    |succ i=>exact h3 i x v (by simpa using hx) (by simpa using hv)
   split at h
   ·rename_i hc
    split at h
    ·rename_i y hy
     cases h
     obtain ⟨u,q1,q2,_⟩:=g2 0 y hy
     obtain ⟨⟨d,hd,hda⟩,_⟩:=i6 hti hc
     exact key y ⟨u,by simp only [Nat.add_zero] at q1;simp [loadVar,fK hd,hda,run_load,q1],q2⟩ rfl
    ·cases h
   ·rename_i n hc
    split at h
    ·rename_i hn
     cases h
     obtain ⟨⟨d,hd,hda⟩,i,hi,hsz⟩:=mB hti hc
     have hcell:∀ j,j < n→w.cell? ((⟨b,off,none⟩:Addr).add j) = some ((w.cell? ⟨b,off + j,none⟩).getD undef):=by
      intro j hj
      obtain ⟨u,q3,_⟩:=g2 j cs[j] (List.getElem?_eq_getElem (by omega))
      rw [Addr.add_lit,q3]
      rfl
     have hl:=run_loadCells (P:=P) w ⟨b,off,none⟩ n (fun j=>(w.cell? ⟨b,off + j,none⟩).getD undef) hcell
     refine key (.agg (cs.take n)) ⟨.agg ((List.range n).map fun j=>(w.cell? ⟨b,off + j,none⟩).getD undef).toArray,?_,?_⟩ rfl
     ·simp [loadVar,fK hd,hda,eG hi,hsz,hl]
     ·refine .agg _ _ (by simp;omega) fun j y u hy hu=>?_
      rw [List.getElem?_take] at hy
      split at hy
      ·rename_i hj
       obtain ⟨u',q3,q4,_⟩:=g2 j y hy
       simp [hj,q3] at hu
       subst hu
       exact q4
      ·cases hy
    ·cases h
  ·cases h
theorem pj {hp:List (Nat × Blk)}:∀ {xs:List PV} {rs:List RV},bl hp xs = some rs→rs.length = xs.length∧∀ (j:Nat) x r,xs[j]? = some x→rs[j]? = some r→bn hp x = some r
 |[],rs,h=>by cases h;simp
 |x::r,rs,h=>by
  simp only [bl] at h
  split at h
  ·rename_i d l hd hl
   cases h
   obtain ⟨h1,h2⟩:=pj hl
   refine ⟨by simp [h1],fun j y e hy he=>?_⟩
   cases j with
   |zero=>simp at hy he;subst hy he;exact hd
   |succ j=>exact h2 j y e (by simpa using hy) (by simpa using he)
  ·cases h
theorem gD {id n:Nat}:∀ {xs:List PV},PV.row id n ∈ xs→id ∈ am xs
 |x::r,h=>by
  rcases List.mem_cons.1 h with h|h
  ·subst h;simp [am]
  ·have:=gD h
   cases x<;>simp [am,this]
theorem ml:∀ {xs:List PV},(am xs).Nodup→∀ (i j:Nat) id n n',xs[i]? = some (.row id n)→xs[j]? = some (.row id n')→i = j
 |[],_,i,j,id,n,n',h,_=>by simp at h
 |x::r,hn,i,j,id,n,n',h,h'=>by
  have hr:(am r).Nodup:=by
   cases x<;>simp only [am] at hn<;>first|exact hn|exact (List.nodup_cons.1 hn).2|exact (List.nodup_append.1 hn).2.1
  have hx:∀ (k q q':Nat),r[k]? = some (PV.row id q)→x≠PV.row id q':=by
   intro k q q' hk e
   have hmem:=gD (List.mem_of_getElem? hk)
   subst e
   simp only [am,List.nodup_cons] at hn
   exact hn.1 hmem
  cases i with
  |zero=>
   cases j with
   |zero=>rfl
   |succ j=>simp at h h';exact absurd h (hx j n' n h')
  |succ i=>
   cases j with
   |zero=>simp at h h';exact absurd h' (hx i n n' h)
   |succ j=>rw [ml hr i j id n n' (by simpa using h) (by simpa using h')]
theorem lp {id n:Nat} {ys:List PV} (hy:PV.row id n ∈ ys):∀ {xs:List PV},PV.agg ys ∈ xs→id ∈ am xs
 |x::r,h=>by
  rcases List.mem_cons.1 h with h|h
  ·subst h;simp [am,d8 hy]
  ·have:=lp hy h
   cases x<;>simp [am,this]
theorem mI {id n n':Nat} {ys:List PV} (hy:PV.row id n ∈ ys):∀ {xs:List PV},(am xs).Nodup→∀ (i j:Nat),xs[i]? = some (.agg ys)→xs[j]? = some (.row id n')→False
 |[],_,i,j,h,_=>by simp at h
 |x::r,hn,i,j,h,h'=>by
  have hr:(am r).Nodup:=by
   cases x<;>simp only [am] at hn<;>first|exact hn|exact (List.nodup_cons.1 hn).2|exact (List.nodup_append.1 hn).2.1
  cases i with
  |zero=>
   cases j with
   |zero=>simp at h h';rw [h] at h';cases h'
   |succ j=>
    simp at h h'
    subst h
    simp only [am] at hn
    exact (List.nodup_append.1 hn).2.2 id (d8 hy) id (gD (List.mem_of_getElem? h')) rfl
  |succ i=>
   cases j with
   |zero=>
    simp at h h'
    subst h'
    simp only [am,List.nodup_cons] at hn
    exact hn.1 (lp hy (List.mem_of_getElem? h))
   |succ j=>exact mI hy hr i j (by simpa using h) (by simpa using h')
theorem lh {id sz lo n:Nat}:∀ {xs:List PV},PV.view id sz lo n ∈ xs→id ∈ am xs
 |x::r,h=>by
  rcases List.mem_cons.1 h with h|h
  ·subst h;simp [am]
  ·have:=lh h
   cases x<;>simp [am,this]
theorem ll {id sz lo n n':Nat}:∀ {xs:List PV},(am xs).Nodup→∀ (i j:Nat),xs[i]? = some (.view id sz lo n)→xs[j]? = some (.row id n')→False
 |[],_,i,j,h,_=>by simp at h
 |x::r,hn,i,j,h,h'=>by
  have hr:(am r).Nodup:=by
   cases x<;>simp only [am] at hn<;>first|exact hn|exact (List.nodup_cons.1 hn).2|exact (List.nodup_append.1 hn).2.1
  cases i with
  |zero=>
   cases j with
   |zero=>simp at h h';rw [h] at h';cases h'
   |succ j=>
    simp at h h'
    subst h
    simp only [am,List.nodup_cons] at hn
    exact hn.1 (gD (List.mem_of_getElem? h'))
  |succ i=>
   cases j with
   |zero=>
    simp at h h'
    subst h'
    simp only [am,List.nodup_cons] at hn
    exact hn.1 (lh (List.mem_of_getElem? h))
   |succ j=>exact ll hr i j (by simpa using h) (by simpa using h')
theorem ou {X Y:Nat→Prop} {w w':World} {w0:Base} {m:Mp} {s:AS} {a':Act} {xs:List PV} {rs:List RV} {vs:List Value} (hs':Sim X w0 m s a' w') (hY0:∀ b,Y b→aU X m s.hp b∧b < w.heap.size) (hnew:∀ id blk b,ae s.hp id = some blk→blk.pinOf = none→blk.has m id b→w.heap.size≤b∧b < w'.heap.size) (r3:∀ (i:Nat) x v,xs[i]? = some x→vs[i]? = some v→R m.loc (aU X m s.hp) w' x v) (h2:bl s.hp xs = some rs) (h3:(am xs).Nodup):
  ∃ gs:Nat→Nat→Prop,rs.length = xs.length∧(∀ i x,gs i x→i < xs.length∧aU X m s.hp x)∧(∀ i j x,gs i x→gs j x→i = j)∧∀ (i:Nat) (r:RV) (v:Value),rs[i]? = some r→vs[i]? = some v→RR (fun b=>Y b∨∃ j,gs j b) w.heap.size w' r v (gs i):=by
 obtain ⟨l1,l2⟩:=pj h2
 let gs:Nat→Nat→Prop:=fun i x=>match xs[i]? with
  |some (.row id _)=>∃ blk,ae s.hp id = some blk∧blk.has m id x
  |_=>False
 have hgs:∀ i x,gs i x→∃ id n blk,xs[i]? = some (.row id n)∧ae s.hp id = some blk∧blk.has m id x:=by
  intro i x hg
  simp only [gs] at hg
  split at hg
  ·rename_i id n hx
   obtain ⟨blk,h1,h2⟩:=hg
   exact ⟨id,n,blk,hx,h1,h2⟩
  ·exact hg.elim
 have hgsi:∀ i id n blk x,xs[i]? = some (.row id n)→ae s.hp id = some blk→(gs i x↔blk.has m id x):=by
  intro i id n blk x hx hb
  simp only [gs,hx]
  constructor
  ·rintro ⟨blk',h1,h2⟩
   rw [hb] at h1
   cases h1
   exact h2
  ·exact fun h=>⟨blk,hb,h⟩
 have hlive:∀ (i:Nat) id n,xs[i]? = some (.row id n)→(∃ ty sz es,ae s.hp id = some (.row ty sz es)∧es.length = n∧rs[i]? = some (.row ty sz es))∨(∃ ty sz es,ae s.hp id = some (.deep 0 ty sz es)∧es.length = n∧rs[i]? = some (.deep ty sz es)):=by
  intro i id n hx
  have hlt:i < rs.length:=by rw [l1];exact (List.getElem?_eq_some_iff.1 hx).1
  have:=l2 i _ rs[i] hx (List.getElem?_eq_getElem hlt)
  simp only [bn] at this
  split at this
  ·rename_i ty sz es hg
   split at this
   ·rename_i hn
    exact .inl ⟨ty,sz,es,hg,hn,by rw [List.getElem?_eq_getElem hlt,Option.some.inj this]⟩
   ·cases this
  ·rename_i ty sz es hg
   split at this
   ·rename_i hn
    exact .inr ⟨ty,sz,es,hg,hn,by rw [List.getElem?_eq_getElem hlt,Option.some.inj this]⟩
   ·cases this
  ·cases this
 have hY:Stay w' w' (aU X m s.hp) (fun b=>Y b∨∃ j,gs j b):=by
  intro b _ hb
  refine ⟨rfl,?_⟩
  rintro (hx|⟨j,hj⟩)
  ·exact hb (hY0 b hx).1
  ·obtain ⟨id,n,blk,h5,h6,h7⟩:=hgs j b hj
   exact hb (.inr ⟨id,blk,h6,h7⟩)
 refine ⟨gs,l1,fun i x hi=>?_,fun i j x hi hj=>?_,fun i r v hr hv=>?_⟩
 ·obtain ⟨id,n,blk,h5,h6,h7⟩:=hgs i x hi
  exact ⟨(List.getElem?_eq_some_iff.1 h5).1,.inr ⟨id,blk,h6,h7⟩⟩
 ·obtain ⟨id,n,blk,h5,h6,h7⟩:=hgs i x hi
  obtain ⟨id',n',blk',h8,h9,h10⟩:=hgs j x hj
  have:=hs'.inj id id' _ _ x h6 h9 h7 h10
  subst this
  exact ml h3 i j id n n' h5 h8
 ·have hlt:i < xs.length:=by rw [←l1];exact (List.getElem?_eq_some_iff.1 hr).1
  have hx:=List.getElem?_eq_getElem hlt
  have hR:=r3 i _ v hx hv
  have hr1:=l2 i _ r hx hr
  have hgno:(∀ id n,xs[i]≠.row id n)→gs i = fun _=>False:=by
   intro hne
   funext x
   simp only [gs,hx]
   split
   ·rename_i id n he
    exact absurd (Option.some.inj he) (hne id n)
   ·rfl
  have hgsi':=hgsi i
  rw [hx] at hgsi'
  generalize hxi:xs[i] = x at hR hr1 hx hgno hgsi'
  cases x with
  |d x=>cases hr1;rw [hgno (fun id n h=>by cases h)];exact .d _ _ (hR.rd.mono hY)
  |agg ys=>
   rw [hgno (fun id n h=>by cases h)]
   simp only [bn] at hr1
   split at hr1
   ·rename_i ds hd
    cases hr1
    obtain ⟨f1,f2⟩:=jx hd
    generalize v = v at hR
    cases hR with
    |agg _ us hl h=>
     refine .agg _ _ (by rw [hl,f1]) fun j d u hj hu=>?_
     have hjl:j < ys.length:=by rw [←f1];exact (List.getElem?_eq_some_iff.1 hj).1
     have hy:=List.getElem?_eq_getElem hjl
     have hf:=f2 j _ d hy hj
     have hRy:=h j _ u hy hu
     have hmem:ys[j] ∈ ys:=List.getElem_mem hjl
     generalize ys[j] = y at hf hRy hmem
     cases y with
     |d x=>cases hf;exact hRy.rd.mono hY
     |row id n=>
      simp only [dT] at hf
      split at hf
      ·rename_i ty sz es hg
       split at hf
       ·rename_i hn
        cases hf
        rcases hRy.row_inv with ⟨q1,q2,q3⟩|⟨b,c,q1,q2,q3⟩
        ·subst q3
         rw [List.eq_nil_of_length_eq_zero (show es.length = 0 by omega)]
         exact .nil _ _ _
        ·subst q3
         obtain ⟨arr,hh,hc⟩:=hs'.blk hg q1
         have hfree:¬ (Y b∨∃ j,gs j b):=by
          rintro (hx0|⟨k,hk⟩)
          ·have:b < w.heap.size:=(hY0 b hx0).2
           have:=(hnew id _ b hg rfl ⟨c,q1⟩).1
           omega
          ·obtain ⟨id',n',blk',h5,h6,h7⟩:=hgs k b hk
           have:=hs'.inj id id' _ _ b hg h6 ⟨c,q1⟩ h7
           subst this
           exact mI hmem h3 i k hx h5
         rw [←hn]
         refine .lst sz es b 0 c (by omega) hc.2.2.2.1 (fun k e j d he hd=>?_) (fun k e j d u he hd hu=>?_)
         ·obtain ⟨u,p1,_,_⟩:=cZ hc hh he hd
          exact ⟨hfree,u,by rw [Nat.zero_add];exact p1⟩
         ·obtain ⟨u',p1,_,p3⟩:=cZ hc hh he hd
          rw [Nat.zero_add,p1] at hu
          cases hu
          exact p3.mono hY
       ·cases hf
      ·cases hf
     |_=>cases hf
   ·cases hr1
  |row id n=>
   rcases hlive i id n hx with ⟨ty,sz,es,h5,h6,h7⟩|⟨ty,sz,es,h5,h6,h7⟩
   ·rw [hr] at h7
    cases h7
    have hgi:=fun x=>hgsi' id n _ x rfl h5
    rcases hR.row_inv with ⟨q1,q2,q3⟩|⟨b,c,q1,q2,q3⟩
    ·have e1:gs i = fun _=>False:=by
      funext x
      refine propext ⟨fun h=>?_,fun h=>h.elim⟩
      obtain ⟨c,hc⟩:=(hgi x).1 h
      rw [q1] at hc;cases hc
     rw [e1]
     subst q3
     have:es = []:=List.eq_nil_of_length_eq_zero (by omega)
     subst this
     exact .nil _ _
    ·have e1:gs i = fun x=>x = b:=by
      funext x
      refine propext ⟨fun h=>?_,fun h=>?_⟩
      ·obtain ⟨c',hc⟩:=(hgi x).1 h
       rw [q1] at hc;cases hc;rfl
      ·subst h;exact (hgi x).2 ⟨c,q1⟩
     rw [e1]
     subst q3
     obtain ⟨arr,hh,hc⟩:=hs'.blk h5 q1
     rw [←h6]
     exact .row _ _ _ _ _ arr (hnew id _ b h5 rfl ⟨c,q1⟩).1 hh ⟨hc.1,hc.2.1,hc.2.2.1,hc.2.2.2.1,fun k e j d u he hd hu=>(hc.2.2.2.2 k e j d u he hd hu).mono hY⟩
   ·rw [hr] at h7
    cases h7
    have hgi:=fun x=>hgsi' id n _ x rfl h5
    have hdp:=hs'.dp id 0 ty sz es h5
    rcases hR.row_inv with ⟨q1,q2,q3⟩|⟨b,c,q1,q2,q3⟩
    ·rw [q1] at hdp
     have hes:es = []:=hdp.1
     subst hes
     subst q3
     have e1:gs i = fun _=>False:=by
      funext x
      refine propext ⟨fun h=>?_,fun h=>h.elim⟩
      rcases (hgi x).1 h with ⟨c',hc⟩|hf
      ·rw [q1] at hc;cases hc
      ·exact hdp.2 x hf
     rw [e1]
     exact .dnil _ _
    ·have e1:gs i = fun x=>x = b∨m.ft id x:=by
      funext x
      refine propext ⟨fun h=>?_,fun h=>?_⟩
      ·rcases (hgi x).1 h with ⟨c',hc⟩|hf
       ·rw [q1] at hc;cases hc;exact .inl rfl
       ·exact .inr hf
      ·rcases h with e|hf
       ·subst e;exact (hgi x).2 (.inl ⟨c,q1⟩)
       ·exact (hgi x).2 (.inr hf)
     rw [e1]
     subst q3
     rw [q1] at hdp
     rw [←h6]
     exact .deep _ _ _ _ _ _ (hnew id _ b h5 rfl (.inl ⟨c,q1⟩)).1 (fun x hx=>hnew id _ x h5 rfl (.inr hx)) hdp
  |view id sz lo n=>
   rw [hgno (fun id n h=>by cases h)]
   simp only [bn] at hr1
   split at hr1
   ·rename_i ty sz' es hg
    split at hr1
    ·rename_i hl
     obtain ⟨rfl,hl⟩:=hl
     cases hr1
     refine .d _ _ ?_
     cases hR with
     |view0 _ _ _ A c=>rw [List.take_zero];exact .nil _ _ _
     |viewB _ _ _ _ b c c' hm hc'=>
      obtain ⟨arr,hh,hc⟩:=hs'.blk hg hm
      have hfree:¬ (Y b∨∃ j,gs j b):=by
       rintro (hx0|⟨k,hk⟩)
       ·have:b < w.heap.size:=(hY0 b hx0).2
        have:=(hnew id _ b hg rfl ⟨c,hm⟩).1
        omega
       ·obtain ⟨id',n',blk',h5,h6,h7⟩:=hgs k b hk
        have:=hs'.inj id id' _ _ b hg h6 ⟨c,hm⟩ h7
        subst this
        exact ll h3 i k hx h5
      have hlen:((es.drop lo).take n).length = n:=by simp;omega
      have ae:∀ k e,((es.drop lo).take n)[k]? = some e→es[lo + k]? = some e:=by
       intro k e he
       rw [List.getElem?_take] at he
       split at he
       ·rw [List.getElem?_drop] at he;exact he
       ·cases he
      have hadr:∀ k j:Nat,lo * sz' + (k * sz' + j) = (lo + k) * sz' + j:=fun k j=>by rw [Nat.add_mul];omega
      have:=Rd.lst (w:=w') (X:=fun b=>Y b∨∃ j,gs j b) sz' ((es.drop lo).take n) b (lo * sz') c' (by rw [hlen];exact hc') (fun e he=>hc.2.2.2.1 e (List.mem_of_mem_drop (List.mem_of_mem_take he))) (fun k e j d he hd=>by
       obtain ⟨u,p1,_,_⟩:=cZ hc hh (ae k e he) hd
       exact ⟨hfree,u,by rw [hadr];exact p1⟩) (fun k e j d u he hd hu=>by
       obtain ⟨u',p1,_,p3⟩:=cZ hc hh (ae k e he) hd
       rw [hadr,p1] at hu
       cases hu
       exact p3.mono hY)
      rwa [hlen] at this
    ·cases hr1
   ·cases hr1
  |_=>cases hr1
theorem pw {X:Nat→Prop} {w w':World} {m:Mp} {s:AS} {a':Act} {xs:List PV} {rs:List RV} {vs:List Value} (hs':Sim X ⟨w,fun _=>False,fun _=>none⟩ m s a' w') (r3:∀ (i:Nat) x v,xs[i]? = some x→vs[i]? = some v→R m.loc (aU X m s.hp) w' x v) (h2:bl s.hp xs = some rs) (h3:(am xs).Nodup):
  ∃ gs:Nat→Nat→Prop,rs.length = xs.length∧(∀ i j x,gs i x→gs j x→i = j)∧∀ (i:Nat) (r:RV) (v:Value),rs[i]? = some r→vs[i]? = some v→RR (fun b=>X b∨∃ j,gs j b) w.heap.size w' r v (gs i):=
 let ⟨gs,q1,_,q2⟩:=ou hs' (fun b hb=>⟨.inl hb,(hs'.x0 b hb).1⟩) (fun id blk b h5 _ h6=>⟨(hs'.own id blk b h5 h6).1.elim (fun h=>h) (fun h=>h.elim),(hs'.own id blk b h5 h6).2⟩) r3 h2 h3
 ⟨gs,q1,q2⟩
theorem aO (hG:GOK P G) {f:FuncId} {fn:Func} {c:Code} {args:List PV} {Post:List RV→Prop} (hf:P.funcs[f]? = some fn) (hnm:(fn.name == "runtime.NumGoroutine") = false) (hb:fn.body = some c)
  (h:PW P c (xa G fn Post) ⟨⟨args.length + (fn.ntmps - args.length),aW 0 args⟩,[],0⟩):FnOK P f args Post:=by
 refine ⟨⟨fn,hf,hnm,by rw [hb];rfl⟩,fun w X vals hGL hX hl hv=>?_⟩
 refine calls_of_wp hf hb ?_
 have hs:Sim X ⟨w,fun _=>False,fun _=>none⟩ ⟨fun _=>none,fun _ _=>False⟩ ⟨⟨args.length + (fn.ntmps - args.length),aW 0 args⟩,[],0⟩ {tmps:=vals++Array.replicate (fn.ntmps - vals.size) undef,defers:=[]} w:=by
  refine ⟨KeepB.refl _ _,fun b hb=>⟨hX b hb,fun h=>h⟩,by simp [hl],fun i=>?_,rfl,fun id blk h=>by simp [ae] at h,fun id p ty sz es h=>by simp [ae] at h,fun id par k j h=>by simp [ae] at h,fun id blk p h=>by simp [ae] at h,fun id id' blk blk' b h=>by simp [ae] at h,fun id blk b h=>by simp [ae] at h,fun _ _=>rfl,⟨hGL,fun _ h=>h.elim⟩⟩
  have hlk:lk (aW 0 args) i = args.getD i .und:=by rw [kx];simp
  show R _ _ _ (lk (aW 0 args) i) _
  rw [hlk]
  by_cases hi:i < args.length
  ·have hx':=List.getElem?_eq_getElem hi
   rw [List.getD_eq_getElem?_getD,hx',Option.getD_some]
   have hvi:i < vals.size:=by omega
   have e1:(vals++Array.replicate (fn.ntmps - vals.size) undef).getD i undef = vals[i]:=by
    rw [Array.getD_eq_getD_getElem?,Array.getElem?_append_left hvi]
    simp [hvi]
   rw [e1]
   refine (hv i _ vals[i] hx' (by simp [hvi])).mono (fun _ _ h=>by cases h) fun b _ hb=>⟨rfl,?_⟩
   rintro (h1|⟨id,blk,h1,_⟩)
   ·exact hb h1
   ·simp [ae] at h1
  ·rw [List.getD_eq_getElem?_getD,List.getElem?_eq_none (by omega)]
   exact .und _
 refine wp_mono (h X _ _ _ w hs) ?_
 rintro e a' w' ⟨m,s,hq,hs'⟩
 have key:vP G fn Post s→a'.defers = []∧∃ v,(results fn a'.tmps).run P w' = .ok v w'∧∃ rs,Post rs∧Res X w rs (.returned v) w':=by
  rintro ⟨xs,rs,h1,h2,h3,h4⟩
  refine ⟨hs'.df,?_⟩
  obtain ⟨vs,r1,r2,r3⟩:=gZ hG hs' fn.results.toList xs h1
  refine ⟨cJ vs.toArray,?_,rs,h4,?_⟩
  ·show (do let us←fn.results.mapM (ko a'.tmps);pure (cJ us):Sem Value).run P w' = _
   rw [Sem.run_bind,Array.mapM_eq_mapM_toList]
   simp [r1]
  ·obtain ⟨gs,l1,q1,q2⟩:=pw hs' r3 h2 h3
   exact ⟨vs.toArray,gs,rfl,by simp [r2,l1],⟨⟨hs'.below.os,hs'.below.tape,hs'.below.output,hs'.below.size,fun k hk=>hs'.below.block k hk (fun h=>h)⟩,hs'.below.drawn⟩,q1,fun i r v hr hv=>q2 i r v hr (by simpa using hv)⟩
 cases e with
 |normal=>exact key hq
 |ret=>exact key hq
 |_=>exact hq.elim
def yK (G:List (Nat × TI)) (fn:Func) (rs:List RV):Exit→AS→Prop
 |.normal,s|.ret,s=>∃ ys,dB G s fn.results.toList = some [.agg ys]∧bl s.hp ys = some rs∧(am ys).Nodup
 |_,_=>False
theorem mt (hG:GOK P G) {f:FuncId} {fn:Func} {c:Code} {args:List PV} {rs:List RV} (hf:P.funcs[f]? = some fn) (hnm:(fn.name == "runtime.NumGoroutine") = false) (hb:fn.body = some c)
  (h:PW P c (yK G fn rs) ⟨⟨args.length + (fn.ntmps - args.length),aW 0 args⟩,[],0⟩):FnAg P f args rs:=by
 refine ⟨⟨fn,hf,hnm,by rw [hb];rfl⟩,fun w X vals hGL hX hl hv=>?_⟩
 refine calls_of_wp hf hb ?_
 have hs:Sim X ⟨w,fun _=>False,fun _=>none⟩ ⟨fun _=>none,fun _ _=>False⟩ ⟨⟨args.length + (fn.ntmps - args.length),aW 0 args⟩,[],0⟩ {tmps:=vals++Array.replicate (fn.ntmps - vals.size) undef,defers:=[]} w:=by
  refine ⟨KeepB.refl _ _,fun b hb=>⟨hX b hb,fun h=>h⟩,by simp [hl],fun i=>?_,rfl,fun id blk h=>by simp [ae] at h,fun id p ty sz es h=>by simp [ae] at h,fun id par k j h=>by simp [ae] at h,fun id blk p h=>by simp [ae] at h,fun id id' blk blk' b h=>by simp [ae] at h,fun id blk b h=>by simp [ae] at h,fun _ _=>rfl,⟨hGL,fun _ h=>h.elim⟩⟩
  have hlk:lk (aW 0 args) i = args.getD i .und:=by rw [kx];simp
  show R _ _ _ (lk (aW 0 args) i) _
  rw [hlk]
  by_cases hi:i < args.length
  ·have hx':=List.getElem?_eq_getElem hi
   rw [List.getD_eq_getElem?_getD,hx',Option.getD_some]
   have hvi:i < vals.size:=by omega
   have e1:(vals++Array.replicate (fn.ntmps - vals.size) undef).getD i undef = vals[i]:=by
    rw [Array.getD_eq_getD_getElem?,Array.getElem?_append_left hvi]
    simp [hvi]
   rw [e1]
   refine (hv i _ vals[i] hx' (by simp [hvi])).mono (fun _ _ h=>by cases h) fun b _ hb=>⟨rfl,?_⟩
   rintro (h1|⟨id,blk,h1,_⟩)
   ·exact hb h1
   ·simp [ae] at h1
  ·rw [List.getD_eq_getElem?_getD,List.getElem?_eq_none (by omega)]
   exact .und _
 refine wp_mono (h X _ _ _ w hs) ?_
 rintro e a' w' ⟨m,s,hq,hs'⟩
 have key:(∃ ys,dB G s fn.results.toList = some [.agg ys]∧bl s.hp ys = some rs∧(am ys).Nodup)→a'.defers = []∧∃ v,(results fn a'.tmps).run P w' = .ok v w'∧ResA X w rs (.returned v) w':=by
  rintro ⟨ys,h1,h2,h3⟩
  refine ⟨hs'.df,?_⟩
  obtain ⟨vs,r1,r2,r3⟩:=gZ hG hs' fn.results.toList _ h1
  refine ⟨cJ vs.toArray,?_,?_⟩
  ·show (do let us←fn.results.mapM (ko a'.tmps);pure (cJ us):Sem Value).run P w' = _
   rw [Sem.run_bind,Array.mapM_eq_mapM_toList]
   simp [r1]
  ·match vs,r2,r3 with
   |[v],_,r3=>
    have hR:=r3 0 _ v rfl rfl
    cases hR with
    |agg _ us hl hu=>
     obtain ⟨gs,l1,q1,q2⟩:=pw (vs:=us.toList) hs' (fun i x v hx hv=>hu i x v hx (by simpa using hv)) h2 h3
     exact ⟨us,gs,rfl,by rw [hl,l1],⟨⟨hs'.below.os,hs'.below.tape,hs'.below.output,hs'.below.size,fun k hk=>hs'.below.block k hk (fun h=>h)⟩,hs'.below.drawn⟩,q1,fun i r v hr hv=>q2 i r v hr (by simpa using hv)⟩
 cases e with
 |normal=>exact key hq
 |ret=>exact key hq
 |_=>exact hq.elim
end fn
end Go.Proofs.YtphakidbddamfaaGreat
