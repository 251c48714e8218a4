/-
  Codes and performances: what the laws' helpers give (sizes, copies, comparisons), in the abstract machine; opened as arguments.
-/
import Derived.Test.YtphakidbddamfaaGreatZTkg
import Derived.Test.YtphakidbddamfaaGreatZMst
import Derived.Test.YtphakidbddamfaaGreatZMc
import Derived.Test.YtphakidbddamfaaGreatZOrd
import Derived.Test.YtphakidbddamfaaGreatZSg
import Derived.Test.YtphakidbddamfaaGreatZIq
import Derived.Test.YtphakidbddamfaaGreatZCw
set_option linter.unusedSimpArgs false
set_option linter.unusedVariables false
set_option maxHeartbeats 2000000
set_option maxRecDepth 100000
namespace Go.Proofs.YtphakidbddamfaaGreat
open Go.ChangeShapes Go.WideShapes Go.ChangeAt Go.RowKit Go.Deep
end Go.Proofs.YtphakidbddamfaaGreat
set_option linter.unusedSimpArgs false
set_option linter.unusedVariables false
set_option maxHeartbeats 2000000
set_option maxRecDepth 100000
namespace Go.Proofs.YtphakidbddamfaaGreat
open Go.ChangeShapes Go.WideShapes Go.ChangeAt Go.RowKit Go.Deep
def MarksD.dat (m:MarksD):List D:=[.lst 1 (m.grades.map (aF 1 ab)),.lst 1 (m.components.map (aF 1 ab))]
def SlipsD.dat (s:SlipsD):List D:=[.int .i64 s.falls,.int .i64 s.seconds,.int .i64 s.other]
def PerfD.dat (p:PerfD):List D:=[.lst 3 (p.items.map ItemD.dat),.lst 1 (p.marks.grades.map (aF 1 ab)),.lst 1 (p.marks.components.map (aF 1 ab)),.int .i64 p.slips.falls,.int .i64 p.slips.seconds,.int .i64 p.slips.other]
end Go.Proofs.YtphakidbddamfaaGreat
set_option linter.unusedSimpArgs false
set_option linter.unusedVariables false
set_option maxHeartbeats 2000000
set_option maxRecDepth 100000
namespace Go.Proofs.YtphakidbddamfaaGreat
open Go.ChangeShapes Go.WideShapes Go.ChangeAt Go.RowKit Go.Deep
section
variable {H:Type} {enc:TypeId × Value→H} {w:World} {base:Nat} {spare:Nat→Bool} {held:Bool}
end
end Go.Proofs.YtphakidbddamfaaGreat
namespace Go.Proofs.YtphakidbddamfaaGreat
open Go.RowKit
theorem wx {P:Program} {f:FuncId} {args:List PV} {rs:List RV} {ds:List D} (h:FnAg P f args rs) (hd:rs.map RV.data = ds.map RV.d):FnEq P f args [.agg ds]:=
 ⟨h.1,fun w X vals h0 h1 h2 h3=>(h.2 w X vals h0 h1 h2 h3).mono fun _ _ ⟨vs,gs,q1,q2,q3,_,q5⟩=>⟨_,rfl,#[.agg vs],fun _ _=>False,q1,rfl,q3,fun i j x h=>h.elim,fun i r v hr hv=>by
  cases i with
  |succ i=>simp at hr
  |zero=>
   cases hr
   cases hv
   have hl:=congrArg List.length hd
   simp only [an] at hl
   refine .agg _ _ (by omega) fun j d u hj hu=>?_
   have e:(rs.map RV.data)[j]? = some (.d d):=by rw [hd,ap,hj];rfl
   rw [ap] at e
   cases hi:rs[j]? with
   |none=>rw [hi] at e;cases e
   |some r0=>
    rw [hi] at e
    have e2:r0.data = .d d:=Option.some.inj e
    have h5:=(q5 j r0 u hi hu).data (Y':=fun b=>X b∨∃ _:Nat,False) (fun x h=>h.elim .inl fun ⟨_,h⟩=>h.elim) fun x h=>h.elim (h1 x) fun ⟨_,h⟩=>h.elim
    rw [e2] at h5
    cases h5 with
    |d _ _ h6=>exact h6⟩⟩
end Go.Proofs.YtphakidbddamfaaGreat
namespace Go.Proofs.YtphakidbddamfaaGreat
open Go.RowKit
def Grow (P:Program) (o:Oper) (s:AS) (x:PV):Prop:=∀ (X0:Nat→Prop) (w0:Base) (m:Mp) (a:Act) (w:World) (Q:Exit→Act→World→Prop) (A:Act→World→Prop),Sim X0 w0 m s a w→
 (∀ v w',Bel w.heap.size w w'→R m.loc (aU X0 m s.hp) w' x v→A (a.put o.dst v) w')→o.wp P a w A Q
theorem Grow.of_quiet {P:Program} {o:Oper} {s:AS} {x:PV} (h:QuietAt P o s x):Grow P o s x:=fun X0 w0 m a w Q A hs hA=>by
 obtain ⟨v,h3,h4⟩:=h X0 w0 m a w hs
 refine Oper.wp_of_quiet (C:=fun w'=>Bel w.heap.size w w') (K:=fun a'=>a' = a.put o.dst v) (Bel.refl _ _) (fun a' w' hb e=>?_) ⟨v,h3,rfl⟩
 subst e
 exact hA v w' hb (h4 w' hb)
theorem RR.dat {Y:Nat→Prop} {B:Nat} {w:World} {x:D} {v:Value} {g:Nat→Prop} (h:RR Y B w (.d x) v g):Rd w Y x v:=by
 cases h with
 |d _ _ h=>exact h
theorem RR.agg' {Y:Nat→Prop} {B:Nat} {w:World} {ds:List D} {v:Value} {g:Nat→Prop} (h:RR Y B w (.agg ds) v g):∃ vs:Array Value,vs.size = ds.length∧v = .agg vs∧∀ (i:Nat) (d:D) (u:Value),ds[i]? = some d→vs[i]? = some u→Rd w Y d u:=by
 cases h with
 |agg _ vs hl h=>exact ⟨vs,hl,rfl,h⟩
theorem Grow.call {P:Program} {o:Oper} {s:AS} {f:Operand} {args:Array Operand} {argTypes:Array TypeId} {fid:FuncId} {x:D} (ho:o.op = .call {callee:=.value f,args:=args,argTypes:=argTypes}) (hf:s.get f = .fn fid [])
  (hok:FnEq P fid ((args.toList.map s.get).map (iy s.hp)) [.d x]) (hr:(args.toList.map s.get).any fp = false):Grow P o s (.d x):=by
 intro X0 w0 m a w Q A hs hA
 obtain ⟨⟨fn,e1,e2,e3⟩,hcall⟩:=hok
 have hfv:=hs.get f
 rw [hf] at hfv
 have hfe:a.eval f = .func (.func fid) #[] #[]:=by
  generalize a.eval f = v at hfv
  cases hfv with
  |fn _ _ vs hl h=>have:vs = #[]:=Array.eq_empty_of_size_eq_zero hl;subst this;rfl
 have hrun:(execOp a.eval o).run P w = .ok (.enter fid (args.map a.eval)) w:=by
  have e2':¬ fn.name = "runtime.NumGoroutine":=by simpa using e2
  have e3':¬ fn.body = none:=fun h=>by rw [h] at e3;cases e3
  simp [execOp,ho,resolve,hfe,Deferred.ofValue,invoke,callFunc,e1]
  rw [if_neg e2',if_neg e3']
 unfold Oper.wp
 rw [hrun]
 simp only [Oper.upon_enter]
 refine (hcall w (aU X0 m s.hp) _ hs.glob (fun b hb=>hs.lt_size hb) (by simp) fun i x v hx hv=>?_).mono ?_
 ·rw [ap] at hx
  cases hi:(args.toList.map s.get)[i]? with
  |none=>rw [hi] at hx;cases hx
  |some y=>
   rw [hi] at hx
   cases hx
   have hi2:=hi
   rw [ap] at hi2
   rw [Array.getElem?_map] at hv
   cases ha:args[i]? with
   |none=>rw [ha] at hv;cases hv
   |some q=>
    have ha':args.toList[i]? = some q:=by simpa using ha
    rw [ha] at hv
    rw [ha'] at hi2
    cases hv
    cases hi2
    exact kV hs (Stay.refl _ _) (fun h=>by rw [List.any_eq_false] at hr;exact absurd h (hr _ (List.mem_of_getElem? hi))) (hs.get q)
 ·rintro e w' ⟨rs,rfl,vs,gs,h1,h2,h3,h4,h5⟩
  subst h1
  have h0:0 < vs.size:=by rw [h2];exact Nat.one_pos
  have e:cJ vs = vs[0]:=by unfold cJ;rw [dif_pos (show vs.size = 1 by rw [h2];rfl)]
  rw [e]
  have h6:=h5 0 (.d x) vs[0] rfl (by simp [h0])
  exact hA _ w' h3 (.d _ _ (h6.dat.mono fun b _ hb=>⟨rfl,fun h'=>hb (.inl h')⟩))
theorem Grow.callT {P:Program} {o:Oper} {s:AS} {f:Operand} {args:Array Operand} {argTypes:Array TypeId} {fid:FuncId} {d1 d2:D} {ds:List D} (ho:o.op = .call {callee:=.value f,args:=args,argTypes:=argTypes}) (hf:s.get f = .fn fid [])
  (hok:FnEq P fid ((args.toList.map s.get).map (iy s.hp)) ((d1::d2::ds).map .d)) (hr:(args.toList.map s.get).any fp = false):Grow P o s (.tup ((d1::d2::ds).map .d)):=by
 intro X0 w0 m a w Q A hs hA
 obtain ⟨⟨fn,e1,e2,e3⟩,hcall⟩:=hok
 have hfv:=hs.get f
 rw [hf] at hfv
 have hfe:a.eval f = .func (.func fid) #[] #[]:=by
  generalize a.eval f = v at hfv
  cases hfv with
  |fn _ _ vs hl h=>have:vs = #[]:=Array.eq_empty_of_size_eq_zero hl;subst this;rfl
 have hrun:(execOp a.eval o).run P w = .ok (.enter fid (args.map a.eval)) w:=by
  have e2':¬ fn.name = "runtime.NumGoroutine":=by simpa using e2
  have e3':¬ fn.body = none:=fun h=>by rw [h] at e3;cases e3
  simp [execOp,ho,resolve,hfe,Deferred.ofValue,invoke,callFunc,e1]
  rw [if_neg e2',if_neg e3']
 unfold Oper.wp
 rw [hrun]
 simp only [Oper.upon_enter]
 refine (hcall w (aU X0 m s.hp) _ hs.glob (fun b hb=>hs.lt_size hb) (by simp) fun i x v hx hv=>?_).mono ?_
 ·rw [ap] at hx
  cases hi:(args.toList.map s.get)[i]? with
  |none=>rw [hi] at hx;cases hx
  |some y=>
   rw [hi] at hx
   cases hx
   have hi2:=hi
   rw [ap] at hi2
   rw [Array.getElem?_map] at hv
   cases ha:args[i]? with
   |none=>rw [ha] at hv;cases hv
   |some q=>
    have ha':args.toList[i]? = some q:=by simpa using ha
    rw [ha] at hv
    rw [ha'] at hi2
    cases hv
    cases hi2
    exact kV hs (Stay.refl _ _) (fun h=>by rw [List.any_eq_false] at hr;exact absurd h (hr _ (List.mem_of_getElem? hi))) (hs.get q)
 ·rintro e w' ⟨rs,rfl,vs,gs,h1,h2,h3,h4,h5⟩
  subst h1
  have h0:vs.size = ds.length + 2:=by simpa using h2
  have e:cJ vs = .tuple vs:=by unfold cJ;rw [dif_neg (show ¬ vs.size = 1 by omega)]
  rw [e]
  refine hA _ w' h3 (.tup _ _ (by simpa using h0) fun i y u hy hu=>?_)
  rw [ap] at hy
  cases hi:(d1::d2::ds)[i]? with
  |none=>rw [hi] at hy;cases hy
  |some d=>
   rw [hi] at hy
   cases hy
   exact .d _ _ ((h5 i (.d d) u (by rw [ap,hi];rfl) hu).dat.mono fun b _ hb=>⟨rfl,fun h'=>hb (.inl h')⟩)
theorem Grow.callA {P:Program} {o:Oper} {s:AS} {f:Operand} {args:Array Operand} {argTypes:Array TypeId} {fid:FuncId} {ds:List D} (ho:o.op = .call {callee:=.value f,args:=args,argTypes:=argTypes}) (hf:s.get f = .fn fid [])
  (hok:FnEq P fid ((args.toList.map s.get).map (iy s.hp)) [.agg ds]) (hr:(args.toList.map s.get).any fp = false):Grow P o s (.agg (ds.map .d)):=by
 intro X0 w0 m a w Q A hs hA
 obtain ⟨⟨fn,e1,e2,e3⟩,hcall⟩:=hok
 have hfv:=hs.get f
 rw [hf] at hfv
 have hfe:a.eval f = .func (.func fid) #[] #[]:=by
  generalize a.eval f = v at hfv
  cases hfv with
  |fn _ _ vs hl h=>have:vs = #[]:=Array.eq_empty_of_size_eq_zero hl;subst this;rfl
 have hrun:(execOp a.eval o).run P w = .ok (.enter fid (args.map a.eval)) w:=by
  have e2':¬ fn.name = "runtime.NumGoroutine":=by simpa using e2
  have e3':¬ fn.body = none:=fun h=>by rw [h] at e3;cases e3
  simp [execOp,ho,resolve,hfe,Deferred.ofValue,invoke,callFunc,e1]
  rw [if_neg e2',if_neg e3']
 unfold Oper.wp
 rw [hrun]
 simp only [Oper.upon_enter]
 refine (hcall w (aU X0 m s.hp) _ hs.glob (fun b hb=>hs.lt_size hb) (by simp) fun i x v hx hv=>?_).mono ?_
 ·rw [ap] at hx
  cases hi:(args.toList.map s.get)[i]? with
  |none=>rw [hi] at hx;cases hx
  |some y=>
   rw [hi] at hx
   cases hx
   have hi2:=hi
   rw [ap] at hi2
   rw [Array.getElem?_map] at hv
   cases ha:args[i]? with
   |none=>rw [ha] at hv;cases hv
   |some q=>
    have ha':args.toList[i]? = some q:=by simpa using ha
    rw [ha] at hv
    rw [ha'] at hi2
    cases hv
    cases hi2
    exact kV hs (Stay.refl _ _) (fun h=>by rw [List.any_eq_false] at hr;exact absurd h (hr _ (List.mem_of_getElem? hi))) (hs.get q)
 ·rintro e w' ⟨rs,rfl,vs,gs,h1,h2,h3,h4,h5⟩
  subst h1
  have h0:0 < vs.size:=by rw [h2];exact Nat.one_pos
  have e:cJ vs = vs[0]:=by unfold cJ;rw [dif_pos (show vs.size = 1 by rw [h2];rfl)]
  rw [e]
  have h6:=h5 0 (.agg ds) vs[0] rfl (by simp [h0])
  obtain ⟨us,hl,he,hu⟩:=h6.agg'
  rw [he]
  refine hA _ w' h3 (.agg _ _ (by simpa using hl) fun i y u hy hu'=>?_)
  rw [ap] at hy
  cases hi:ds[i]? with
  |none=>rw [hi] at hy;cases hy
  |some d=>
   rw [hi] at hy
   cases hy
   exact .d _ _ ((hu i d u hi hu').mono fun b _ hb=>⟨rfl,fun h'=>hb (.inl h')⟩)
def cq (rd:List Nat) (s:AS):AS:=⟨⟨s.fr.n,rd.map fun i=>(i,lk s.fr.l i)⟩,s.hp,s.nx⟩
theorem qw (l:List (Nat × PV)) (i:Nat):∀ rd:List Nat,lk (rd.map fun i=>(i,lk l i)) i = .und∨(i ∈ rd∧lk (rd.map fun i=>(i,lk l i)) i = lk l i)
 |[]=>.inl rfl
 |k::rd=>by
  simp only [aJ,lk]
  split
  ·rename_i e;subst e;exact .inr ⟨by simp,rfl⟩
  ·exact (qw l i rd).imp id fun h=>⟨by simp [h.1],h.2⟩
def eN (P:Program):List Oper→List (List Nat)→(AS→Prop)→AS→Prop
 |[],_,K,s=>K s
 |o::l,rd::rds,K,s=>∃ x,Grow P o (cq rd s) x∧eN P l rds K (s.put o.dst x)
 |_::_,[],_,_=>False
def de (o:Oper):Nat:=match o.dst with
 |some d=>d
 |none=>0
def im (o:Oper):List Nat:=(o.after.toList.filter (Region.binds .any)).map (·.on)
def sV (n:Nat) (l:List Oper) (rds:List (List Nat)):Bool:=
 (l.all fun o=>o.guard.isNone && o.dst.isSome && decide (de o < n)) && decide ((l.map de).Nodup) && decide (rds.length = l.length) &&
  (List.range l.length).all fun j=>match l[j]?,rds[j]? with
   |some o,some rd=>(im o).all (fun k=>decide (k < j)) && rd.all fun i=>(List.range l.length).all fun k=>match l[k]? with
    |some p=>!(de p == i) || (im o).contains k
    |none=>true
   |_,_=>false
def dD:List Oper→List PV→AS→AS
 |o::l,x::xs,s=>dD l xs (s.put o.dst x)
 |_,_,s=>s
theorem nS {P:Program} {K:AS→Prop}:∀ {l:List Oper} {rds:List (List Nat)} {s:AS},eN P l rds K s→∃ xs:List PV,xs.length = l.length∧K (dD l xs s)∧∀ (j:Nat) (o:Oper) (rd:List Nat) (x:PV),l[j]? = some o→rds[j]? = some rd→xs[j]? = some x→Grow P o (cq rd (dD (l.take j) (xs.take j) s)) x
 |[],_,s,h=>⟨[],rfl,h,fun j o rd x h1=>by simp at h1⟩
 |o::l,rd::rds,s,⟨x,h1,h2⟩=>by
  obtain ⟨xs,h3,h4,h5⟩:=nS h2
  refine ⟨x::xs,by simp [h3],h4,fun j o' rd' x' g1 g2 g3=>?_⟩
  cases j with
  |zero=>cases g1;cases g2;cases g3;exact h1
  |succ j=>exact h5 j o' rd' x' (by simpa using g1) (by simpa using g2) (by simpa using g3)
theorem rI {s:AS} {o:Oper} {x:PV} (hd:o.dst.isSome = true) (hn:de o < s.fr.n) (i:Nat):lk (s.put o.dst x).fr.l i = if i = de o then x else lk s.fr.l i:=by
 cases h:o.dst with
 |none=>rw [h] at hd;cases hd
 |some d=>
  have e:de o = d:=by unfold de;rw [h]
  rw [e] at hn ⊢
  show lk (s.fr.put d x).l i = _
  unfold Fr.put
  rw [if_pos hn,uf]
theorem ka (s:AS) (d:Option Tmp) (x:PV):(s.put d x).hp = s.hp∧(s.put d x).nx = s.nx∧(s.put d x).fr.n = s.fr.n:=by
 cases d with
 |none=>exact ⟨rfl,rfl,rfl⟩
 |some d=>exact ⟨rfl,rfl,Fr.put_n _ _ _⟩
theorem fW:∀ (l:List Oper) (xs:List PV) (s:AS),(dD l xs s).hp = s.hp∧(dD l xs s).nx = s.nx∧(dD l xs s).fr.n = s.fr.n
 |[],xs,s=>⟨rfl,rfl,rfl⟩
 |o::l,[],s=>⟨rfl,rfl,rfl⟩
 |o::l,x::xs,s=>by
  obtain ⟨h1,h2,h3⟩:=fW l xs (s.put o.dst x)
  obtain ⟨g1,g2,g3⟩:=ka s o.dst x
  exact ⟨h1.trans g1,h2.trans g2,h3.trans g3⟩
theorem lQ:∀ (l:List Oper) (xs:List PV) (s:AS),(∀ o ∈ l,o.dst.isSome = true∧de o < s.fr.n)→(l.map de).Nodup→xs.length = l.length→∀ i,(∀ (k:Nat) (o:Oper) (x:PV),l[k]? = some o→xs[k]? = some x→de o = i→lk (dD l xs s).fr.l i = x)∧((∀ o ∈ l,de o≠i)→lk (dD l xs s).fr.l i = lk s.fr.l i)
 |[],xs,s,_,_,_,i=>⟨fun k o x h=>by simp at h,fun _=>rfl⟩
 |o::l,[],s,_,_,h,i=>by simp at h
 |o::l,x::xs,s,hd,hn,hl,i=>by
  obtain ⟨h1,h2⟩:=hd o (by simp)
  have hn':=List.nodup_cons.1 hn
  have ih:=lQ l xs (s.put o.dst x) (fun p hp=>⟨(hd p (by simp [hp])).1,by rw [(ka s o.dst x).2.2];exact (hd p (by simp [hp])).2⟩) hn'.2 (by simpa using hl) i
  have hp:=rI (x:=x) h1 h2 i
  refine ⟨fun k p y hk hy he=>?_,fun h=>?_⟩
  ·cases k with
   |zero=>
    cases hk
    cases hy
    show lk (dD l xs (s.put o.dst x)).fr.l i = x
    rw [ih.2 (fun q hq he2=>hn'.1 (by rw [he,←he2];exact List.mem_map_of_mem hq)),hp,if_pos he.symm]
   |succ k=>exact ih.1 k p y (by simpa using hk) (by simpa using hy) he
  ·show lk (dD l xs (s.put o.dst x)).fr.l i = _
   rw [ih.2 (fun q hq=>h q (by simp [hq])),hp,if_neg fun e=>h o (by simp) e.symm]
theorem Sim.sub {X0:Nat→Prop} {w0:Base} {m:Mp} {s s':AS} {a:Act} {w:World} (hs:Sim X0 w0 m s a w) (hn:s'.fr.n = s.fr.n) (hh:s'.hp = s.hp) (hx:s'.nx = s.nx) (hl:∀ i,lk s'.fr.l i = .und∨lk s'.fr.l i = lk s.fr.l i):Sim X0 w0 m s' a w:=by
 obtain ⟨fr',hp',nx'⟩:=s'
 simp only at hn hh hx hl
 subst hh hx
 exact ⟨hs.below,hs.x0,hs.size.trans hn.symm,fun i=>by
  rcases hl i with e|e
  ·simp only [e];exact .und _
  ·simp only [e];exact hs.fr i,hs.df,hs.hp,hs.dp,hs.al,hs.pin,hs.inj,hs.own,hs.nx,hs.gl⟩
theorem u5 {P:Program} {K:AS→Prop} {l:List Oper} {rds:List (List Nat)} {s:AS} (n:Nat) (hn:s.fr.n = n) (hB:sV n l rds = true) (h:eN P l rds K s):iS P l.toArray K l.length (Array.replicate l.length false) s:=by
 subst hn
 obtain ⟨xs,hxl,hK,hG⟩:=nS h
 simp only [sV,Bool.and_eq_true,List.all_eq_true,decide_eq_true_eq] at hB
 obtain ⟨⟨⟨hB1,hB2⟩,hB3⟩,hB4⟩:=hB
 have hdst:∀ o ∈ l,o.dst.isSome = true∧de o < s.fr.n:=fun o ho=>⟨(hB1 o ho).1.2,(hB1 o ho).2⟩
 have huniq:∀ (j k:Nat) (o p:Oper),l[j]? = some o→l[k]? = some p→de o = de p→j = k:=by
  intro j k o p hj hk he
  have h1:(l.map de)[j]? = some (de o):=by rw [ap,hj];rfl
  have h2:(l.map de)[k]? = some (de p):=by rw [ap,hk];rfl
  have hj':=(List.getElem?_eq_some_iff.1 h1).1
  exact (List.getElem?_inj hj' hB2).1 (by rw [h1,h2,he])
 have hdep:∀ (j:Nat) (o:Oper),l[j]? = some o→∀ k ∈ im o,k < j:=by
  intro j o ho k hk
  have hj:=(List.getElem?_eq_some_iff.1 ho).1
  have h1:=hB4 j (List.mem_range.2 hj)
  rw [ho] at h1
  cases hr:rds[j]? with
  |none=>rw [hr] at h1;cases h1
  |some rd=>
   rw [hr] at h1
   simp only [Bool.and_eq_true,List.all_eq_true,decide_eq_true_eq] at h1
   exact h1.1 k hk
 have hread:∀ (j:Nat) (o:Oper) (rd:List Nat),l[j]? = some o→rds[j]? = some rd→∀ i ∈ rd,∀ (k:Nat) (p:Oper),l[k]? = some p→de p = i→k ∈ im o:=by
  intro j o rd ho hr i hi k p hp he
  have hj:=(List.getElem?_eq_some_iff.1 ho).1
  have h1:=hB4 j (List.mem_range.2 hj)
  rw [ho,hr] at h1
  simp only [Bool.and_eq_true,List.all_eq_true] at h1
  have h2:=h1.2 i hi k (List.mem_range.2 (List.getElem?_eq_some_iff.1 hp).1)
  rw [hp] at h2
  simp only [he,beq_self_eq_true,Bool.not_true,Bool.false_or] at h2
  simpa using h2
 have hrdy:∀ (L:Array Bool) (j:Nat),j ∈ Region.ready .any l.toArray L→∃ o,l[j]? = some o∧L.getD j true = false∧∀ k ∈ im o,L.getD k false = true:=by
  intro L j hj
  unfold Region.ready at hj
  obtain ⟨h1,h2⟩:=List.mem_filter.1 hj
  have hlt:j < l.length:=by simpa using h1
  have ho:=List.getElem?_eq_getElem hlt
  simp only [Bool.and_eq_true,Bool.not_eq_true',List.getElem?_toArray,ho,aq,Option.getD_some] at h2
  refine ⟨l[j],ho,h2.1,fun k hk=>?_⟩
  unfold im at hk
  obtain ⟨e,he,rfl⟩:=List.mem_map.1 hk
  obtain ⟨he1,he2⟩:=List.mem_filter.1 he
  have h3:=Array.all_eq_true_iff_forall_mem.1 h2.2 e (by simpa using he1)
  simpa [he2] using h3
 have key:∀ (fuel:Nat) (L:Array Bool) (S:AS),L.size = l.length→L.toList.countP (fun b=>!b) = fuel→S.hp = s.hp→S.nx = s.nx→S.fr.n = s.fr.n→
   (∀ (k:Nat) (o:Oper) (x:PV),L[k]? = some true→l[k]? = some o→xs[k]? = some x→lk S.fr.l (de o) = x)→(∀ i,(∀ (k:Nat) (o:Oper),L[k]? = some true→l[k]? = some o→de o≠i)→lk S.fr.l i = lk s.fr.l i)→iS P l.toArray K fuel L S:=by
  intro fuel
  induction fuel with
  |zero=>
   intro L S hL hf h1 h2 h3 h4 h5
   have hall:∀ k,k < l.length→L[k]? = some true:=by
    intro k hk
    have hk2:k < L.size:=by omega
    have h7:=List.countP_eq_zero.1 hf L[k] (by simp)
    simp only [Bool.not_eq_true,Bool.not_eq_false'] at h7
    simp [hk2,h7]
   intro X0 w0 m a w Q' hQ hs
   refine ⟨?_,?_⟩
   ·refine List.eq_nil_iff_forall_not_mem.2 fun j hj=>?_
    obtain ⟨o,ho,h6,_⟩:=hrdy L j hj
    have h7:=hall j (List.getElem?_eq_some_iff.1 ho).1
    rw [Array.getD_eq_getD_getElem?,h7] at h6
    cases h6
   ·refine hQ m (dD l xs s) a w hK (hs.sub ?_ ?_ ?_ fun i=>?_)
    ·rw [(fW l xs s).2.2,h3]
    ·rw [(fW l xs s).1,h1]
    ·rw [(fW l xs s).2.1,h2]
    ·right
     have hp:=lQ l xs s hdst hB2 hxl i
     by_cases he:∃ (k:Nat) (o:Oper),l[k]? = some o∧de o = i
     ·obtain ⟨k,o,ho,he⟩:=he
      have hk:=(List.getElem?_eq_some_iff.1 ho).1
      have hx:=List.getElem?_eq_getElem (show k < xs.length by omega)
      rw [hp.1 k o _ ho hx he,←he,h4 k o _ (hall k hk) ho hx]
     ·rw [hp.2 fun o ho e=>he (by obtain ⟨k,hk⟩:=List.getElem?_of_mem ho;exact ⟨k,o,hk,e⟩),h5 i fun k o _ ho e=>he ⟨k,o,ho,e⟩]
  |succ fuel ih=>
   intro L S hL hf h1 h2 h3 h4 h5
   have hstep:∀ (j:Nat) (o:Oper) (x:PV),l[j]? = some o→xs[j]? = some x→L.getD j true = false→iS P l.toArray K fuel (L.setIfInBounds j true) (S.put o.dst x):=by
    intro j o x ho hx hjL
    have hj:=(List.getElem?_eq_some_iff.1 ho).1
    have hmem:=List.mem_of_getElem? ho
    obtain ⟨d1,d2⟩:=hdst o hmem
    have hlk:=rI (s:=S) (x:=x) d1 (by rw [h3];exact d2)
    obtain ⟨p1,p2,p3⟩:=ka S o.dst x
    refine ih _ _ (by simpa using hL) ?_ (p1.trans h1) (p2.trans h2) (p3.trans h3) (fun k p y hk hp hy=>?_) (fun i hi=>?_)
    ·have hj2:j < L.size:=by omega
     rw [Array.getD_eq_getD_getElem?,show L[j]? = some L[j] by simp [hj2]] at hjL
     have hjL':L[j] = false:=hjL
     rw [Array.toList_setIfInBounds,List.countP_set (by simpa using hj2),hf]
     simp only [Array.getElem_toList,hjL',Bool.not_false,if_true,Bool.not_true,Bool.false_eq_true,if_false]
     omega
    ·rw [hlk]
     by_cases e:j = k
     ·subst e
      rw [ho] at hp
      rw [hx] at hy
      cases hp
      cases hy
      rw [if_pos rfl]
     ·rw [if_neg fun e2=>e (huniq j k o p ho hp e2.symm)]
      rw [Array.getElem?_setIfInBounds_ne e] at hk
      exact h4 k p y hk hp hy
    ·have hj2:j < L.size:=by omega
     rw [hlk,if_neg fun e=>hi j o (by simp [hj2]) ho e.symm]
     refine h5 i fun k p hk hp=>hi k p ?_ hp
     by_cases e:j = k
     ·subst e;simp [hj2]
     ·rw [Array.getElem?_setIfInBounds_ne e];exact hk
   intro X0 w0 m a w Q' hQ hs
   refine ⟨fun h0=>?_,fun j hj=>?_⟩
   ·
    exfalso
    have hex:∃ j,j < l.length∧L.getD j true = false:=by
     have:0 < L.toList.countP fun b=>!b:=by omega
     obtain ⟨b,hb1,hb2⟩:=List.countP_pos_iff.1 this
     obtain ⟨k,hk⟩:=List.getElem?_of_mem hb1
     have hk':L[k]? = some b:=by simpa using hk
     have:=(Array.getElem?_eq_some_iff.1 hk').1
     refine ⟨k,by omega,?_⟩
     rw [Array.getD_eq_getD_getElem?,hk']
     simpa using hb2
    have hmin:∀ N,∀ j,j < N→j < l.length→L.getD j true = false→False:=by
     intro N
     induction N with
     |zero=>intro j h;omega
     |succ N ihN=>
      intro j hjN hjl hjL
      have ho:=List.getElem?_eq_getElem hjl
      have hin:j ∈ Region.ready .any l.toArray L:=by
       unfold Region.ready
       refine List.mem_filter.2 ⟨by simpa using hjl,?_⟩
       simp only [Bool.and_eq_true,Bool.not_eq_true',List.getElem?_toArray,ho,aq,Option.getD_some]
       refine ⟨hjL,Array.all_eq_true_iff_forall_mem.2 fun e he=>?_⟩
       cases hb:Region.binds .any e with
       |false=>rfl
       |true=>
        have hk:e.on ∈ im l[j]:=List.mem_map.2 ⟨e,List.mem_filter.2 ⟨by simpa using he,hb⟩,rfl⟩
        have hlt:=hdep j _ ho e.on hk
        cases hL2:L.getD e.on false with
        |true=>rfl
        |false=>
         exfalso
         have hlt2:e.on < L.size:=by omega
         refine ihN e.on (by omega) (by omega) ?_
         rw [Array.getD_eq_getD_getElem?,show L[e.on]? = some L[e.on] by simp [hlt2]] at hL2 ⊢
         exact hL2
      rw [h0] at hin
      cases hin
    obtain ⟨j,hj1,hj2⟩:=hex
    exact hmin (j + 1) j (by omega) hj1 hj2
   ·obtain ⟨o,ho,hjL,hdone⟩:=hrdy L j hj
    have hjl:=(List.getElem?_eq_some_iff.1 ho).1
    have hx:=List.getElem?_eq_getElem (show j < xs.length by omega)
    have hr:=List.getElem?_eq_getElem (show j < rds.length by omega)
    have hg:=hG j o _ _ ho hr hx
    have hSj:=fW (l.take j) (xs.take j) s
    have hsub:Sim X0 w0 m (cq rds[j] (dD (l.take j) (xs.take j) s)) a w:=by
     refine hs.sub ?_ ?_ ?_ fun i=>?_
     ·show (dD (l.take j) (xs.take j) s).fr.n = _;rw [hSj.2.2,h3]
     ·show (dD (l.take j) (xs.take j) s).hp = _;rw [hSj.1,h1]
     ·show (dD (l.take j) (xs.take j) s).nx = _;rw [hSj.2.1,h2]
     ·show lk (rds[j].map fun i=>(i,lk (dD (l.take j) (xs.take j) s).fr.l i)) i = .und∨_
      rcases qw (dD (l.take j) (xs.take j) s).fr.l i rds[j] with e|⟨hi,e⟩
      ·exact .inl e
      ·right
       show lk (rds[j].map fun i=>(i,lk (dD (l.take j) (xs.take j) s).fr.l i)) i = _
       rw [e]
       have hp:=lQ (l.take j) (xs.take j) s (fun o ho=>hdst o (List.mem_of_mem_take ho)) (by rw [List.map_take];exact (List.take_sublist _ _).nodup hB2) (by simp;omega) i
       by_cases he:∃ (k:Nat) (p:Oper),l[k]? = some p∧de p = i
       ·obtain ⟨k,p,hkp,he⟩:=he
        have hkd:=hread j o _ ho hr i hi k p hkp he
        have hkj:=hdep j o ho k hkd
        have hkx:=List.getElem?_eq_getElem (show k < xs.length by omega)
        have hkL:=hdone k hkd
        have hk2:k < L.size:=by omega
        rw [Array.getD_eq_getD_getElem?,show L[k]? = some L[k] by simp [hk2]] at hkL
        have hkL':L[k]? = some true:=by simp only [Option.getD_some] at hkL;simp [hk2,hkL]
        rw [hp.1 k p _ (by rw [List.getElem?_take_of_lt hkj];exact hkp) (by rw [List.getElem?_take_of_lt hkj];exact hkx) he,←he,h4 k p _ hkL' hkp hkx]
       ·rw [hp.2 fun q hq e=>he (by obtain ⟨k,hk⟩:=List.getElem?_of_mem (List.mem_of_mem_take hq);exact ⟨k,q,hk,e⟩),h5 i fun k p _ hkp e=>he ⟨k,p,hkp,e⟩]
    unfold wpOp
    simp only [List.getElem?_toArray,ho]
    have hgd:=(hB1 o (List.mem_of_getElem? ho)).1.1
    have hw:Region.wanted o (yielded l.toArray a.tmps) = true:=by
     unfold Region.wanted
     cases h8:o.guard with
     |none=>rfl
     |some q=>rw [h8] at hgd;cases hgd
    rw [if_pos hw]
    refine .inl (hg X0 w0 m a w Q' _ hsub fun v w' hb hR=>?_)
    refine hstep j o _ ho hx hjL X0 w0 m _ w' Q' hQ ((hs.later hb).put ?_ o.dst)
    have e:(cq rds[j] (dD (l.take j) (xs.take j) s)).hp = S.hp:=by show (dD (l.take j) (xs.take j) s).hp = _;rw [hSj.1,h1]
    rw [e] at hR
    exact hR
 refine key l.length _ s (by simp) ?_ rfl rfl rfl (fun k o x hk=>?_) fun i _=>rfl
 ·simp [List.countP_replicate]
 ·rw [Array.getElem?_replicate] at hk
  split at hk<;>cases hk
theorem rf {P:Program} (T:List (Nat × List Nat)) {Q:Exit→AS→Prop} {s:AS} {id:Nat} {l:List Oper} {y:Code} (hm:P.follows .mixedOrders = true) (rds:List (List Nat)) (n:Nat) (hn:s.fr.n = n) (hB:sV n l rds = true)
  (h:∀ K:AS→Prop,(∀ s',PW P y Q (eR T id s')→K s')→eN P l rds K s):PW P (.seq (.region id l.toArray true) y) Q s:=
 f6 fun _ hK=>eT hm (u5 n hn hB (h _ fun s' h'=>hK s' (fG T id h')))
section
variable {P:Program} {G:List (Nat × TI)} {o:Oper} {l:List Oper} {rd:List Nat} {rds:List (List Nat)} {K:AS→Prop} {s:AS}
theorem vA (h:K s):eN P [] rds K s:=h
theorem sE (hG:GOK P G) (h:∀ KP:PV→Prop,(∀ x,eN P l rds K (s.put o.dst x)→KP x)→eK P G o (cq rd s) KP):eN P (o::l) (rd::rds) K s:=by
 obtain ⟨x,h1,h2⟩:=go hG (h (fun x=>eN P l rds K (s.put o.dst x)) fun _ h=>h)
 exact ⟨x,Grow.of_quiet h1,h2⟩
theorem uF {f:Operand} {args:Array Operand} {argTypes:Array TypeId} {fid:FuncId} {x:D} (ho:o.op = .call {callee:=.value f,args:=args,argTypes:=argTypes}) (hf:(cq rd s).get f = .fn fid [])
  (hok:FnEq P fid ((args.toList.map (cq rd s).get).map (iy s.hp)) [.d x]) (hr:(args.toList.map (cq rd s).get).any fp = false) (hK:eN P l rds K (s.put o.dst (.d x))):eN P (o::l) (rd::rds) K s:=
 ⟨.d x,Grow.call ho hf hok hr,hK⟩
theorem sT {f:Operand} {args:Array Operand} {argTypes:Array TypeId} {fid:FuncId} {d1 d2:D} {ds:List D} (ho:o.op = .call {callee:=.value f,args:=args,argTypes:=argTypes}) (hf:(cq rd s).get f = .fn fid [])
  (hok:FnEq P fid ((args.toList.map (cq rd s).get).map (iy s.hp)) (.d d1::.d d2::ds.map .d)) (hr:(args.toList.map (cq rd s).get).any fp = false) (hK:eN P l rds K (s.put o.dst (.tup (.d d1::.d d2::ds.map .d)))):eN P (o::l) (rd::rds) K s:=
 ⟨_,Grow.callT (ds:=ds) ho hf hok hr,hK⟩
theorem tL {f:Operand} {args:Array Operand} {argTypes:Array TypeId} {fid:FuncId} {ds:List D} (ho:o.op = .call {callee:=.value f,args:=args,argTypes:=argTypes}) (hf:(cq rd s).get f = .fn fid [])
  (hok:FnEq P fid ((args.toList.map (cq rd s).get).map (iy s.hp)) [.agg ds]) (hr:(args.toList.map (cq rd s).get).any fp = false) (hK:eN P l rds K (s.put o.dst (.agg (ds.map .d)))):eN P (o::l) (rd::rds) K s:=
 ⟨_,Grow.callA ho hf hok hr,hK⟩
end
end Go.Proofs.YtphakidbddamfaaGreat
set_option linter.unusedSimpArgs false
set_option linter.unusedVariables false
set_option maxHeartbeats 2000000
set_option maxRecDepth 100000
namespace Go.Proofs.YtphakidbddamfaaGreat
open Go.RowKit
theorem p4 (c:CodeD) (p:PerfD) (f:Int) (l:List ItemD) (h:dK c (dz p l) f):FnEq Tryz.prog 74 [.agg c.cs,.agg p.cs,.d (.int .i64 f),.d (.lst 3 (l.map ItemD.dat))] [.d (.int .i64 (eh c (dz p l) f))]:=by
 have hs0:=iz c (dz p l) f h
 simp only [dz] at hs0
 refine aO aa Tryz.func74 rfl rfl ?_;simp only [Tryz.ntmps74,aR,aM,Nat.reduceAdd,Nat.reduceSub,aW]
 repeat' (first|((with_reducible first|(refine hK _ ?_;clear hK K)|refine aj fun U O=>?_|apply ah|(apply Z<;>(intro hc;try simp at hc;try omega)))<;>try simp only [go_sem])|(with_reducible first|apply ag|(refine O _ ?_;clear O U)|refine kN yM fun K hK=>?_|refine kO fun K hK=>?_|refine aI ?_)|((with_reducible apply CallK.eq);(· with_reducible first|exact hs0);(· simp [RV.flat,D.sc,ab]);try simp only [go_sem])|fail)
 all_goals first
  |(exfalso;omega)
  |(refine ak rfl rfl (by simp [am,lk]) ?_;rfl)
theorem j_ (c:CodeD) (p:PerfD) (f:Int) (q:List InquiryD) (hcf:CdFit 1048576 c) (hpf:PfFit 1048576 p) (hq:q.length≤1048576):FnEq Tryz.prog 21 [.agg c.cs,.agg p.cs,.d (.int .i64 f),.d (.lst 5 (q.map InquiryD.dat))] [.d (.int .i64 ((bG c p f q).getD 0)),.d (.bool (bG c p f q).isSome)]:=by
 have hs0:=lw c p f hcf hpf
 refine aO aa Tryz.func21 rfl rfl ?_;simp only [Tryz.ntmps21,aR,aM,Nat.reduceAdd,Nat.reduceSub,aW]
 by_cases hA:dK c p f
 ·have hb:=aQ hA
  have hd:=cf (je p.items q hpf.1.1 hpf.1.2 hA.1.2.1 (by omega))
  rw [iF] at hd
  by_cases hI:cz p.items q∧q.length≤20
  ·have hb2:=aQ hI
   rw [show bG c p f q = _ from cW ⟨hA,hI⟩]
   have hw:tX p.items q = bS p.items q q.length:=if_pos (aQ hI.1)
   rw [hw] at hd
   have hs1:=p4 c p f _ (lV hA hI.1)
   repeat' (first|((with_reducible first|(refine hK _ ?_;clear hK K)|refine aj fun U O=>?_|apply ah|(apply Z<;>(intro hc;try simp at hc;try omega)))<;>try simp only [go_sem,hb,hb2])|(with_reducible first|apply ag|(refine O _ ?_;clear O U)|refine kN va fun K hK=>?_|refine kO fun K hK=>?_|refine aI ?_)|((with_reducible apply CallK.eq);(· with_reducible first|exact hs0|exact hd|exact hs1);(· simp [RV.flat,D.sc,ab]);try simp only [go_sem,hb,hb2])|fail)
   all_goals first
    |(exfalso;omega)
    |(refine ak rfl rfl (by simp [am,lk]) ?_;rfl)
  ·have hb2:=aG hI
   rw [show bG c p f q = _ from dF fun h=>hI h.2]
   repeat' (first|((with_reducible first|(refine hK _ ?_;clear hK K)|refine aj fun U O=>?_|apply ah|(apply Z<;>(intro hc;try simp at hc;try omega)))<;>try simp only [go_sem,hb,hb2])|(with_reducible first|apply ag|(refine O _ ?_;clear O U)|refine kN va fun K hK=>?_|refine kO fun K hK=>?_|refine aI ?_)|((with_reducible apply CallK.eq);(· with_reducible first|exact hs0|exact hd);(· simp [RV.flat,D.sc,ab]);try simp only [go_sem,hb,hb2])|fail)
   all_goals first
    |(exfalso;omega)
    |(refine ak rfl rfl (by simp [am,lk]) ?_;rfl)
 ·have hb:=aG hA
  rw [show bG c p f q = _ from dF fun h=>hA h.1]
  repeat' (first|((with_reducible first|(refine hK _ ?_;clear hK K)|refine aj fun U O=>?_|apply ah|(apply Z<;>(intro hc;try simp at hc;try omega)))<;>try simp only [go_sem,hb])|(with_reducible first|apply ag|(refine O _ ?_;clear O U)|refine kN va fun K hK=>?_|refine kO fun K hK=>?_|refine aI ?_)|((with_reducible apply CallK.eq);(· with_reducible first|exact hs0);(· simp [RV.flat,D.sc,ab]);try simp only [go_sem,hb])|fail)
  all_goals first
   |(exfalso;omega)
   |(refine ak rfl rfl (by simp [am,lk]) ?_;rfl)
end Go.Proofs.YtphakidbddamfaaGreat
