/-
  The abstract machine: functions that change a row that they are given. No program is named here.
-/
import Derived.Test.YtphakidbddamfaaGreatZM9
import Derived.Test.YtphakidbddamfaaGreatZMe
namespace Go.Proofs.YtphakidbddamfaaGreat
open Go.RowKit
def Loc.at (l:Loc) (b:Nat):Prop:=∃ c,l = .blk b c
section rules
variable {P:Program} {o:Oper} {s:AS} {K:AS→Prop}
end rules
end Go.Proofs.YtphakidbddamfaaGreat
namespace Go.Proofs.YtphakidbddamfaaGreat
open Go.RowKit
def a_ (q:Option Nat) (ty:TypeId) (cs:List PV):Blk:=match q with
 |none=>.box ty cs
 |some p=>.pbox p ty cs
theorem gy (q:Option Nat) (ty:TypeId) (cs:List PV):(a_ q ty cs).plain = true:=by cases q<;>rfl
theorem kC (q:Option Nat) (ty:TypeId) (cs:List PV):(a_ q ty cs).ty = ty:=by cases q<;>rfl
theorem kS (q:Option Nat) (ty:TypeId) (cs:List PV):(a_ q ty cs).pinOf = q:=by cases q<;>rfl
theorem mkB_cells {m:Nat→Option Loc} {X:Nat→Prop} {w:World} {arr:Array Value} {c:Nat} {q:Option Nat} {ty:TypeId} {cs:List PV}:(a_ q ty cs).cellsOk m X w arr c↔(arr.size = cs.length∧∀ (j:Nat) (x:PV) (v:Value),cs[j]? = some x→arr[j]? = some v→R m X w x v∧v.oneCell' = true):=by cases q<;>exact Iff.rfl
theorem mkB_has {m:Mp} {id b:Nat} {q:Option Nat} {ty:TypeId} {cs:List PV}:(a_ q ty cs).has m id b↔∃ c,m.loc id = some (.blk b c):=by cases q<;>exact Iff.rfl
inductive St where
 |tup
 |agg
 |grp (l:List (Option Nat))
def gV:List (Option Nat)→List Value→List Value
 |[],_=>[]
 |none::l,v::vs=>v::gV l vs
 |none::_,[]=>[]
 |some k::l,vs=>.agg (vs.take k).toArray::gV l (vs.drop k)
def gP:List (Option Nat)→List PV→List PV
 |[],_=>[]
 |none::l,x::xs=>x::gP l xs
 |none::_,[]=>[]
 |some k::l,xs=>.agg (xs.take k)::gP l (xs.drop k)
def gN:List (Option Nat)→Nat
 |[]=>0
 |none::l=>gN l + 1
 |some k::l=>gN l + k
def dG:List PV→PV
 |[x]=>x
 |xs=>.tup xs
def bV (st:St) (vs:Array Value):Value:=match st with
 |.agg=>.agg vs
 |.tup=>cJ vs
 |.grp l=>cJ (gV l vs.toList).toArray
def yz (st:St) (nx:Nat) (rs:List RV):PV:=match st with
 |.agg=>.agg (e8 nx rs)
 |.tup=>gr nx rs
 |.grp l=>dG (gP l (e8 nx rs))
theorem gR {m:Nat→Option Loc} {X:Nat→Prop} {w:World}:∀ (l:List (Option Nat)) (xs:List PV) (vs:List Value),vs.length = xs.length→(∀ (i:Nat) x v,xs[i]? = some x→vs[i]? = some v→R m X w x v)→(gV l vs).length = (gP l xs).length∧∀ (i:Nat) x v,(gP l xs)[i]? = some x→(gV l vs)[i]? = some v→R m X w x v
 |[],_,_,_,_=>⟨rfl,fun i x v h=>by simp [gP] at h⟩
 |none::l,[],[],_,_=>⟨rfl,fun i x v h=>by simp [gP] at h⟩
 |none::l,x::xs,v::vs,hl,h=>by
  obtain ⟨h1,h2⟩:=gR l xs vs (by simpa using hl) fun i x v hx hv=>h (i + 1) x v (by simpa using hx) (by simpa using hv)
  refine ⟨by simp [gV,gP,h1],fun i y u hy hu=>?_⟩
  cases i with
  |zero=>simp [gP] at hy;simp [gV] at hu;subst hy hu;exact h 0 x v rfl rfl
  |succ i=>exact h2 i y u (by simpa [gP] using hy) (by simpa [gV] using hu)
 |some k::l,xs,vs,hl,h=>by
  obtain ⟨h1,h2⟩:=gR l (xs.drop k) (vs.drop k) (by simp [hl]) fun i x v hx hv=>h (k + i) x v (by simpa using hx) (by simpa using hv)
  refine ⟨by simp [gV,gP,h1],fun i y u hy hu=>?_⟩
  cases i with
  |zero=>
   simp [gP] at hy;simp [gV] at hu;subst hy hu
   refine .agg _ _ (by simp [hl]) fun j z q hz hq=>?_
   rw [List.getElem?_take] at hz
   split at hz
   ·rename_i hj
    refine h j z q hz ?_
    simp only [List.getElem?_toArray,List.getElem?_take,hj,if_true] at hq
    exact hq
   ·cases hz
  |succ i=>exact h2 i y u (by simpa [gP] using hy) (by simpa [gV] using hu)
theorem pM {m:Nat→Option Loc} {X:Nat→Prop} {w:World}:∀ (l:List (Option Nat)) (xs:List PV) (us:List Value),gN l = xs.length→us.length = (gP l xs).length→(∀ (i:Nat) x v,(gP l xs)[i]? = some x→us[i]? = some v→R m X w x v)→∃ vs:List Value,vs.length = xs.length∧(∀ (i:Nat) x v,xs[i]? = some x→vs[i]? = some v→R m X w x v)∧us = gV l vs
 |[],xs,us,hn,hl,_=>by
  have:xs = []:=List.length_eq_zero_iff.1 hn.symm
  subst this
  have:us = []:=List.length_eq_zero_iff.1 (by simpa [gP] using hl)
  subst this
  exact ⟨[],rfl,fun i x v h=>by simp at h,rfl⟩
 |none::l,xs,us,hn,hl,h=>by
  cases xs with
  |nil=>simp [gN] at hn
  |cons x xs=>
   cases us with
   |nil=>simp [gP] at hl
   |cons u us=>
    obtain ⟨vs,h1,h2,h3⟩:=pM l xs us (by simpa [gN] using hn) (by simpa [gP] using hl) fun i y v hy hv=>h (i + 1) y v (by simpa [gP] using hy) (by simpa using hv)
    refine ⟨u::vs,by simp [h1],fun i y v hy hv=>?_,by simp [gV,h3]⟩
    cases i with
    |zero=>simp at hy hv;subst hy hv;exact h 0 x u rfl rfl
    |succ i=>exact h2 i y v (by simpa using hy) (by simpa using hv)
 |some k::l,xs,us,hn,hl,h=>by
  cases us with
  |nil=>simp [gP] at hl
  |cons u us=>
   simp only [gN] at hn
   have hk:k≤xs.length:=by omega
   obtain ⟨vs,h1,h2,h3⟩:=pM l (xs.drop k) us (by rw [List.length_drop];omega) (by simpa [gP] using hl) fun i y v hy hv=>h (i + 1) y v (by simpa [gP] using hy) (by simpa using hv)
   have hR:=h 0 (.agg (xs.take k)) u rfl rfl
   cases hR with
   |agg _ as1 has hau=>
    have hsz:as1.toList.length = k:=by simp [has,hk]
    refine ⟨as1.toList++vs,by rw [List.length_append,h1,hsz,List.length_drop];omega,fun i y v hy hv=>?_,by simp only [gV];rw [List.take_left' hsz,List.drop_left' hsz,←h3]⟩
    by_cases hi:i < k
    ·exact hau i y v (by rw [List.getElem?_take_of_lt hi];exact hy) (by rw [List.getElem?_append_left (by omega)] at hv;simpa using hv)
    ·rw [List.getElem?_append_right (by omega),hsz] at hv
     exact h2 (i - k) y v (by rw [List.getElem?_drop];rw [show k + (i - k) = i by omega];exact hy) hv
theorem pF {m:Nat→Option Loc} {X:Nat→Prop} {w:World} {xs:List PV} {vs:List Value} (hl:vs.length = xs.length) (h:∀ (i:Nat) x v,xs[i]? = some x→vs[i]? = some v→R m X w x v):R m X w (dG xs) (cJ vs.toArray):=by
 have htup:R m X w (.tup xs) (.tuple vs.toArray):=.tup _ _ (by simpa using hl) fun i y u hy hu=>h i y u hy (by simpa using hu)
 match xs,vs,hl,htup,h with
 |[],[],_,htup,_=>exact htup
 |[x],[v],_,_,h=>exact h 0 x v rfl rfl
 |x::y::r,v::u::q,_,htup,_=>exact htup
theorem u4 (nx:Nat) (rs:List RV):gr nx rs = dG (e8 nx rs):=by
 match rs with
 |[]=>rfl
 |[r]=>rfl
 |r::r2::rest=>rfl
theorem bR {st:St} {m:Nat→Option Loc} {X:Nat→Prop} {w:World} {nx:Nat} {rs:List RV} {vs:Array Value} (hvs:vs.size = rs.length) (h:∀ (i:Nat) (r:RV) (v:Value),rs[i]? = some r→vs[i]? = some v→R m X w (mu (nx + i) r) v):R m X w (yz st nx rs) (bV st vs):=by
 have hl:vs.toList.length = (e8 nx rs).length:=by rw [kP];simpa using hvs
 have hp:∀ (i:Nat) x v,(e8 nx rs)[i]? = some x→vs.toList[i]? = some v→R m X w x v:=by
  intro i x v hx hv
  rw [kL] at hx
  cases hi:rs[i]? with
  |none=>rw [hi] at hx;cases hx
  |some r=>
   rw [hi] at hx
   cases hx
   exact h i r v hi (by simpa using hv)
 cases st with
 |agg=>exact .agg _ _ (by simpa using hl) fun i y u hy hu=>hp i y u hy (by simpa using hu)
 |tup=>
  show R _ _ _ (gr nx rs) (cJ vs)
  rw [u4]
  have:=pF hl hp
  simpa using this
 |grp l=>
  obtain ⟨h1,h2⟩:=gR l _ _ hl hp
  exact pF h1 h2
def ResC (X:Nat→Prop) (w:World) (b:Nat) (ty:TypeId) (n:Nat) (cs':List D) (rs:List RV) (e:Ending) (w':World) (st:St:=.tup):Prop:=
 ∃ (vs:Array Value) (gs:Nat→Nat→Prop) (arr':Array Value),e = .returned (bV st vs)∧vs.size = rs.length∧KeepB ⟨w,fun x=>x = b,fun _=>none⟩ w w'∧
  w'.heap[b]? = some (.cells arr' ty (0,0))∧arr'.size = n∧cs'.length = n∧(∀ (j:Nat) (v:Value),arr'[j]? = some v→v.oneCell' = true)∧
  (∀ i j x,gs i x→gs j x→i = j)∧(∀ i x,gs i x→i < rs.length)∧
  (∀ (i:Nat) (r:RV) (v:Value),rs[i]? = some r→vs[i]? = some v→RR (fun x=>X x∨∃ j,gs j x) w.heap.size w' r v (gs i))∧
  ∀ (j:Nat) (d:D) (v:Value),cs'[j]? = some d→arr'[j]? = some v→Rd w' (fun x=>X x∨∃ j,gs j x) d v
def FnC (P:Program) (f:FuncId) (n:Nat) (args:List D) (cs:List D) (Post:List D→List RV→Prop) (st:St:=.tup):Prop:=
 (ql P f∧cs.length = n)∧∀ (w:World) (X:Nat→Prop) (b:Nat) (ty:TypeId) (arr:Array Value) (vals:Array Value),GL w∧rL≤b→(∀ x,X x→x < w.heap.size)→X b→w.heap[b]? = some (.cells arr ty (0,0))→arr.size = n→
  (∀ (j:Nat) (d:D) (v:Value),cs[j]? = some d→arr[j]? = some v→Rd w X d v∧v.oneCell' = true)→vals.size = args.length→(∀ (i:Nat) (x:D) (v:Value),args[i]? = some x→vals[i]? = some v→Rd w X x v)→
  Calls P f (#[.pointer (some ⟨b,0,none⟩)]++vals) w fun e w'=>∃ cs' rs,Post cs' rs∧ResC X w b ty n cs' rs e w' st
theorem FnC.mono {P:Program} {f:FuncId} {n:Nat} {args cs:List D} {Post Post':List D→List RV→Prop} {st:St} (h:FnC P f n args cs Post st) (hp:∀ cs' rs,Post cs' rs→Post' cs' rs):FnC P f n args cs Post' st:=
 ⟨h.1,fun w X b ty arr vals h0 h1 h2 h3 h4 h5 h6 h7=>(h.2 w X b ty arr vals h0 h1 h2 h3 h4 h5 h6 h7).mono fun _ _ ⟨cs',rs,h9,h10⟩=>⟨cs',rs,hp _ _ h9,h10⟩⟩
def RV.data:RV→RV
 |.row _ sz es=>.d (.lst sz es)
 |.deep _ sz es=>.d (.lst sz es)
 |r=>r
theorem RR.data {Y Y':Nat→Prop} {B:Nat} {w:World} {r:RV} {v:Value} {g:Nat→Prop} (h:RR Y B w r v g) (hY:∀ x,Y' x→Y x) (hB:∀ x,Y' x→x < B):RR Y' B w r.data v (fun _=>False):=by
 have hst:Stay w w Y Y':=fun x _ hx=>⟨rfl,fun h'=>hx (hY x h')⟩
 cases h with
 |d x v h=>exact .d _ _ (h.mono hst)
 |agg ds vs hl h=>exact .agg _ _ hl fun i d v hd hv=>(h i d v hd hv).mono hst
 |nil ty sz=>exact .d _ _ (.nil _ _ _)
 |row ty sz es g c arr hg hh hc=>
  refine .d _ _ (.lst sz es g 0 c hc.2.1 hc.2.2.2.1 (fun k e j d he hd=>?_) (fun k e j d u he hd hu=>?_))
  ·obtain ⟨u,p1,_,_⟩:=cZ hc hh he hd
   exact ⟨fun h'=>by have:=hB g h';omega,u,by rw [Nat.zero_add];exact p1⟩
  ·obtain ⟨u',p1,_,p3⟩:=cZ hc hh he hd
   rw [Nat.zero_add,p1] at hu
   cases hu
   exact p3.mono hst
 |dnil ty sz=>exact .d _ _ (.nil _ _ _)
 |deep ty sz es g c F hg hF hd=>
  have ht:Tr w (fun x=>F x∨x = g) (.lst sz es) (.slice (some ⟨g,0,none⟩) es.length c):=hd.tr (.inr rfl) fun x hx=>.inl hx
  refine .d _ _ (ht.rd fun x hx h'=>?_)
  have:=hB x h'
  rcases hx with hx|rfl
  ·have:=(hF x hx).1;omega
  ·omega
theorem ResC.data {X:Nat→Prop} {w:World} {b:Nat} {ty:TypeId} {n:Nat} {cs':List D} {rs:List RV} {e:Ending} {w':World} {st:St} (hX:∀ x,X x→x < w.heap.size) (h:ResC X w b ty n cs' rs e w' st):ResC X w b ty n cs' (rs.map RV.data) e w' st:=by
 obtain ⟨vs,gs,arr',h1,h2,h3,h4,h5,h6,h7,h8,h9,h10,h11⟩:=h
 refine ⟨vs,fun _ _=>False,arr',h1,by simpa using h2,h3,h4,h5,h6,h7,fun i j x h=>h.elim,fun i x h=>h.elim,fun i r v hr hv=>?_,fun j d v hd hv=>?_⟩
 ·rw [List.getElem?_map] at hr
  cases hi:rs[i]? with
  |none=>rw [hi] at hr;cases hr
  |some r0=>
   rw [hi] at hr
   cases hr
   exact (h10 i r0 v hi hv).data (fun x h=>h.elim .inl fun ⟨_,h⟩=>h.elim) fun x h=>h.elim (hX x) fun ⟨_,h⟩=>h.elim
 ·exact (h11 j d v hd hv).mono fun x _ hx=>⟨rfl,fun h=>h.elim (fun h=>hx (.inl h)) fun ⟨_,h⟩=>h.elim⟩
theorem FnC.data {P:Program} {f:FuncId} {n:Nat} {args cs:List D} {Post:List D→List RV→Prop} {st:St} (h:FnC P f n args cs (fun cs' rs=>Post cs' (rs.map RV.data)) st):FnC P f n args cs Post st:=
 ⟨h.1,fun w X b ty arr vals h0 h1 h2 h3 h4 h5 h6 h7=>(h.2 w X b ty arr vals h0 h1 h2 h3 h4 h5 h6 h7).mono fun _ _ ⟨cs',_,h9,h10⟩=>⟨cs',_,h9,h10.data h1⟩⟩
theorem FnOK.data {P:Program} {f:FuncId} {args:List PV} {Post:List RV→Prop} (h:FnOK P f args fun rs=>Post (rs.map RV.data)):FnOK P f args Post:=
 ⟨h.1,fun w X vals h0 h1 h2 h3=>(h.2 w X vals h0 h1 h2 h3).mono fun _ _ ⟨rs,h9,vs,_,q1,q2,q3,_,q5⟩=>⟨_,h9,vs,fun _ _=>False,q1,by simpa using q2,q3,fun i j x h=>h.elim,fun i r v hr hv=>by
  rw [List.getElem?_map] at hr
  cases hi:rs[i]? with
  |none=>rw [hi] at hr;cases hr
  |some r0=>
   rw [hi] at hr
   cases hr
   exact (q5 i r0 v hi hv).data (fun x h=>h.elim .inl fun ⟨_,h⟩=>h.elim) fun x h=>h.elim (h1 x) fun ⟨_,h⟩=>h.elim⟩⟩
def xb (st:St) (xs:List PV):List PV:=match st with
 |.agg=>[.agg xs]
 |.tup=>xs
 |.grp l=>gP l xs
def yx (st:St) (xs:List PV):Prop:=match st with
 |.grp l=>gN l = xs.length
 |_=>True
def sX (G:List (Nat × TI)) (fn:Func) (ty n:Nat) (Post:List D→List RV→Prop) (st:St:=.tup):Exit→AS→Prop
 |.normal,s|.ret,s=>∃ xs rs cs' id,(dB G s fn.results.toList = some (xb st xs)∧yx st xs)∧bl s.hp xs = some rs∧(am xs).Nodup∧ae s.hp id = some (.pbox 0 ty (cs'.map .d))∧cs'.length = n∧Post cs' rs
 |_,_=>False
theorem co {P:Program} {G:List (Nat × TI)} (hG:GOK P G) {f:FuncId} {fn:Func} {c:Code} {n:Nat} {args cs:List D} {Post:List D→List RV→Prop} {st:St} (hf:P.funcs[f]? = some fn) (hnm:(fn.name == "runtime.NumGoroutine") = false) (hb:fn.body = some c) (hcl:cs.length = n)
  (h:∀ ty,PW P c (sX G fn ty n Post st) ⟨⟨(args.length + 1) + (fn.ntmps - (args.length + 1)),aW 0 (.bptr 0 0::args.map .d)⟩,[(0,.pbox 0 ty (cs.map .d))],1⟩):FnC P f n args cs Post st:=by
 refine ⟨⟨⟨fn,hf,hnm,by rw [hb];rfl⟩,hcl⟩,fun w X b ty arr vals hGL hX hXb hh ha hcs hl hv=>?_⟩
 refine calls_of_wp hf hb ?_
 let m0:Mp:=⟨fun i=>if i = 0 then some (.blk b 0) else none,fun _ _=>False⟩
 have hm0:m0.loc 0 = some (.blk b 0):=rfl
 have hget0:∀ id blk,ae [(0,Blk.pbox 0 ty (cs.map .d))] id = some blk→id = 0∧blk = .pbox 0 ty (cs.map .d):=by
  intro id blk h
  simp only [ae] at h
  split at h
  ·cases h;exact ⟨by assumption,rfl⟩
  ·cases h
 let X0:Nat→Prop:=fun x=>X x∧x≠b
 have hown:∀ x,aU X0 m0 [(0,Blk.pbox 0 ty (cs.map .d))] x↔X x:=by
  intro x
  constructor
  ·rintro (h|⟨id,blk,h1,h2⟩)
   ·exact h.1
   ·obtain ⟨rfl,rfl⟩:=hget0 id blk h1
    obtain ⟨c,hc⟩:=h2
    rw [hm0] at hc
    cases hc
    exact hXb
  ·intro h
   by_cases e:x = b
   ·subst e;exact .inr ⟨0,_,rfl,⟨0,hm0⟩⟩
   ·exact .inl ⟨h,e⟩
 have hst:Stay w w X (aU X0 m0 [(0,Blk.pbox 0 ty (cs.map .d))]):=fun x _ h=>⟨rfl,fun h'=>h ((hown x).1 h')⟩
 have hs:Sim X0 ⟨w,fun x=>x = b,fun p=>if p = 0 then some (.blk b 0) else none⟩ m0 ⟨⟨(args.length + 1) + (fn.ntmps - (args.length + 1)),aW 0 (.bptr 0 0::args.map .d)⟩,[(0,.pbox 0 ty (cs.map .d))],1⟩
   {tmps:=(#[.pointer (some ⟨b,0,none⟩)]++vals)++Array.replicate (fn.ntmps - (#[Value.pointer (some ⟨b,0,none⟩)]++vals).size) undef,defers:=[]} w:=by
  refine ⟨KeepB.refl _ _,fun x hx=>⟨hX x hx.1,fun e=>hx.2 e⟩,by simp [hl];omega,fun i=>?_,rfl,fun id blk h=>?_,fun id p ty' sz' es2 h=>?_,fun id par k j h=>?_,fun id blk p h hpo=>?_,fun id id' blk blk' x h h'=>?_,fun id blk x h hb=>?_,fun id hid=>?_,⟨hGL.1,fun x h=>Nat.le_trans hGL.2 (Nat.le_of_eq (Eq.symm h))⟩⟩
  ·have hlk:lk (aW 0 (PV.bptr 0 0::args.map .d)) i = (PV.bptr 0 0::args.map .d).getD i .und:=by rw [kx];simp
   show R _ _ _ (lk (aW 0 (PV.bptr 0 0::args.map .d)) i) _
   rw [hlk]
   by_cases hi:i < args.length + 1
   ·have e1:((#[Value.pointer (some ⟨b,0,none⟩)]++vals)++Array.replicate (fn.ntmps - (#[Value.pointer (some ⟨b,0,none⟩)]++vals).size) undef).getD i undef = (Value.pointer (some ⟨b,0,none⟩)::vals.toList).getD i undef:=by
     rw [Array.getD_eq_getD_getElem?,Array.getElem?_append_left (by simp;omega),List.getD_eq_getElem?_getD]
     congr 1
     cases i with
     |zero=>rw [Array.getElem?_append_left (by simp)];rfl
     |succ i=>rw [Array.getElem?_append_right (by simp)];simp
    rw [e1]
    cases i with
    |zero=>simp only [List.getD_cons_zero];exact .bptr _ _ _ _ hm0
    |succ i=>
     simp only [List.getD_cons_succ]
     have hil:i < args.length:=by omega
     have hiv:i < vals.size:=by omega
     have e2:vals.toList.getD i undef = vals[i]:=by rw [List.getD_eq_getElem?_getD];simp [hiv]
     rw [e2,List.getD_eq_getElem?_getD,List.getElem?_map,List.getElem?_eq_getElem hil]
     exact .d _ _ ((hv i _ _ (List.getElem?_eq_getElem hil) (by simp [hiv])).mono hst)
   ·rw [List.getD_eq_getElem?_getD,List.getElem?_eq_none (by simp;omega)]
    exact .und _
  ·obtain ⟨rfl,rfl⟩:=hget0 id blk h
   refine ⟨_,hm0,Blk.ok_of ⟨arr,hh,by simp [ha,hcl],fun j x v hx hv=>?_⟩⟩
   rw [List.getElem?_map] at hx
   cases hj:cs[j]? with
   |none=>rw [hj] at hx;cases hx
   |some d=>
    rw [hj] at hx
    cases hx
    exact ⟨.d _ _ ((hcs j d v hj hv).1.mono hst),(hcs j d v hj hv).2⟩
  ·obtain ⟨_,e⟩:=hget0 id _ h
   cases e
  ·obtain ⟨_,e⟩:=hget0 id _ h
   cases e
  ·obtain ⟨rfl,rfl⟩:=hget0 id blk h
   cases hpo
   rfl
  ·intro _ _;rw [(hget0 id blk h).1,(hget0 id' blk' h').1]
  ·obtain ⟨rfl,rfl⟩:=hget0 id blk h
   obtain ⟨c,hc⟩:=hb
   rw [hm0] at hc
   cases hc
   exact ⟨.inr rfl,hX _ hXb⟩
  ·have hid':1≤id:=hid
   exact if_neg (by omega)
 refine wp_mono (h ty _ _ _ _ w hs) ?_
 rintro e a' w' ⟨m,s,hq,hs'⟩
 have key:(∃ xs rs cs' id,(dB G s fn.results.toList = some (xb st xs)∧yx st xs)∧bl s.hp xs = some rs∧(am xs).Nodup∧ae s.hp id = some (.pbox 0 ty (cs'.map .d))∧cs'.length = n∧Post cs' rs)→a'.defers = []∧∃ v,(results fn a'.tmps).run P w' = .ok v w'∧∃ cs' rs,Post cs' rs∧ResC X w b ty n cs' rs (.returned v) w' st:=by
  rintro ⟨xs,rs,cs',id,⟨h1,hg⟩,h2,h3,h4,h5,h6⟩
  refine ⟨hs'.df,?_⟩
  obtain ⟨us,r1',r2',r3'⟩:=gZ hG hs' fn.results.toList _ h1
  obtain ⟨vs,r2,r3,r1⟩:∃ vs:List Value,vs.length = xs.length∧(∀ (i:Nat) x v,xs[i]? = some x→vs[i]? = some v→R m.loc (aU X0 m s.hp) w' x v)∧cJ us.toArray = bV st vs.toArray:=by
   cases st with
   |tup=>exact ⟨us,r2',r3',rfl⟩
   |agg=>
    match us,r2',r3' with
    |[v],_,r3'=>
     have hR:=r3' 0 _ v rfl rfl
     cases hR with
     |agg _ vs hl hu=>exact ⟨vs.toList,by simpa using hl,fun i x v hx hv=>hu i x v hx (by simpa using hv),rfl⟩
   |grp l=>
    obtain ⟨vs,q1,q2,q3⟩:=pM l xs us hg r2' r3'
    exact ⟨vs,q1,q2,by rw [q3];rfl⟩
  have hloc:m.loc id = some (.blk b 0):=hs'.pin id _ 0 h4 rfl
  have hsub:∀ x,X x→aU X0 m s.hp x:=by
   intro x hx
   by_cases e:x = b
   ·subst e;exact .inr ⟨id,_,h4,⟨0,hloc⟩⟩
   ·exact .inl ⟨hx,e⟩
  obtain ⟨gs,l1,l2,q1,q2⟩:=ou (Y:=X) hs' (fun x hx=>⟨hsub x hx,hX x hx⟩) (fun id' blk b' h7 h8 h9=>by
   have h10:=hs'.own id' blk b' h7 h9
   refine ⟨?_,h10.2⟩
   rcases h10.1 with h11|h11
   ·exact h11
   ·have h11':b' = b:=h11
    subst h11'
    have:=hs'.inj id' id _ _ b' h7 h4 h9 ⟨0,hloc⟩
    subst this
    rw [h4] at h7
    cases h7
    cases h8) r3 h2 h3
  obtain ⟨arr',hh',hsz,hce⟩:=hs'.blk h4 hloc
  refine ⟨cJ us.toArray,?_,cs',rs,h6,vs.toArray,gs,arr',by rw [r1],by simp [r2,l1],⟨hs'.below.os,hs'.below.tape,hs'.below.output,hs'.below.size,hs'.below.block,hs'.below.drawn⟩,hh',by rw [hsz];simpa using h5,h5,fun j v hv=>?_,q1,fun i x hi=>by rw [l1];exact (l2 i x hi).1,fun i r v hr hv=>q2 i r v hr (by simpa using hv),fun j d v hd hv=>?_⟩
  ·show (do let us←fn.results.mapM (ko a'.tmps);pure (cJ us):Sem Value).run P w' = _
   rw [Sem.run_bind,Array.mapM_eq_mapM_toList]
   simp [r1']
  ·have hj:j < cs'.length:=by have:=(Array.getElem?_eq_some_iff.1 hv).1;rw [hsz] at this;simpa using this
   exact (hce j _ v (by rw [List.getElem?_map,List.getElem?_eq_getElem hj];rfl) hv).2
  ·have:=(hce j _ v (by rw [List.getElem?_map,hd];rfl) hv).1.rd
   refine this.mono fun x _ hx=>⟨rfl,?_⟩
   rintro (h7|⟨j',h7⟩)
   ·exact hx (hsub x h7)
   ·exact hx ((l2 j' x h7).2)
 cases e with
 |normal=>exact key hq
 |ret=>exact key hq
 |_=>exact hq.elim
section rules
variable {P:Program} {o:Oper} {s:AS} {K:AS→Prop}
theorem lG (hp:List (Nat × Blk)) (id nx:Nat) (b:Blk) (hid:id < nx):∀ rs:List RV,∀ j,nx≤j→bj (ci j rs++hp) id b = ci j rs++bj hp id b
 |[],j,_=>rfl
 |r::rs,j,hj=>by
  have ih:=lG hp id nx b hid rs (j + 1) (by omega)
  have hne:¬ id = j:=by omega
  cases r<;>simp [ci,bj,ih,hne]
theorem tv (nx:Nat):∀ (rs:List RV) (ds:List D),ci nx (rs++ds.map .d) = ci nx rs
 |[],[]=>rfl
 |[],d::ds=>by
  have:=tv (nx + 1) [] ds
  simpa [ci] using this
 |r::rs,ds=>by
  have:=tv (nx + 1) rs ds
  cases r<;>simp [ci,this]
theorem l9 {f x0:Operand} {ys:List Operand} {args:Array Operand} {argTypes:Array TypeId} {fid:FuncId} {id n:Nat} {q:Option Nat} {ty:TypeId} {cs ds:List D} {Post:List D→List RV→Prop} {st:St}
  (ho:o.op = .call {callee:=.value f,args:=args,argTypes:=argTypes}) (hf:s.get f = .fn fid []) (ha:args.toList = x0::ys) (hx:s.get x0 = .bptr id 0) (hg:ae s.hp id = some (a_ q ty (cs.map .d))) (hd:cX s.hp (ys.map s.get) = some ds)
  (hok:FnC P fid n ds cs Post st)
  (hK:∀ cs' rs,Post cs' rs→cs'.length = n→K (AS.put ⟨s.fr,bj (ci s.nx rs++cp s.hp (bb (ys.map s.get))) id (a_ q ty (cs'.map .d)),s.nx + (rs.length + n)⟩ o.dst (yz st s.nx rs))):PO P o s K:=by
 intro X0 w0 m a w Q hs
 obtain ⟨⟨⟨fn,e1,e2,e3⟩,hn⟩,hcall⟩:=hok
 have hfv:=hs.get f
 rw [hf] at hfv
 have hfe:a.eval f = .func (.func fid) #[] #[]:=by
  generalize a.eval f = v at hfv
  cases hfv with
  |fn _ _ vs hl h=>have:vs = #[]:=Array.eq_empty_of_size_eq_zero hl;subst this;rfl
 have hxv:=hs.get x0
 rw [hx] at hxv
 obtain ⟨b,c,hm,hxe⟩:=hxv.bptr_inv
 have hvals:args.map a.eval = #[.pointer (some ⟨b,0,none⟩)]++(ys.map a.eval).toArray:=by
  apply Array.ext'
  rw [Array.toList_map,ha]
  simp [hxe]
 have hrun:(execOp a.eval o).run P w = .ok (.enter fid (args.map a.eval)) w:=by
  have e2':¬ fn.name = "runtime.NumGoroutine":=by simpa using e2
  have e3':¬ fn.body = none:=fun h=>by rw [h] at e3;cases e3
  simp [execOp,ho,resolve,hfe,Deferred.ofValue,invoke,callFunc,e1]
  rw [if_neg e2',if_neg e3']
 unfold Oper.wp
 rw [hrun]
 simp only [Oper.upon_enter]
 rw [hvals]
 let ids:=bb (ys.map s.get)
 have hidn:id ∉ ids:=by
  intro hmem
  obtain ⟨ty',sz',es',h'⟩:=iC hd id hmem
  rw [h'] at hg
  cases q<;>cases hg
 have hgid:ae (cp s.hp ids) id = some (a_ q ty (cs.map .d)):=by rw [cM,if_neg hidn];exact hg
 have hs0:Sim X0 w0 m ⟨s.fr,cp s.hp ids,s.nx⟩ a w:=hs.kill (cp s.hp ids) (fun id blk hb=>by rw [cM] at hb;split at hb;cases hb;exact hb) (fun id par k j ha=>by
   rw [cM] at ha
   split at ha
   ·cases ha
   ·obtain ⟨q,ty,sz,es,_,_,_,_,_,_,a1,_⟩:=hs.al id par k j ha
    rw [cM]
    split
    ·rename_i hmem
     obtain ⟨ty',sz',es',h'⟩:=iC hd par hmem
     rw [h'] at a1;cases a1
    ·rfl)
 let s0:AS:=⟨s.fr,cp s.hp ids,s.nx⟩
 let X:=aU X0 m (cp s.hp ids)
 have hXlt:∀ x,X x→x < w.heap.size:=fun x hx=>hs0.lt_size hx
 have hXb:X b:=.inr ⟨id,_,hgid,mkB_has.2 ⟨c,hm⟩⟩
 obtain ⟨arr,hh,hce⟩:=hs0.blk hgid hm (gy q ty _)
 rw [kC] at hh
 have hce':=mkB_cells.1 hce
 have hcs:∀ (j:Nat) (d:D) (v:Value),cs[j]? = some d→arr[j]? = some v→Rd w X d v∧v.oneCell' = true:=by
  intro j d v hj hv
  have:=hce'.2 j (.d d) v (by rw [List.getElem?_map,hj];rfl) hv
  exact ⟨this.1.rd,this.2⟩
 obtain ⟨f1,f2⟩:=jx hd
 refine (hcall w X b ty arr _ ⟨hs.glob,hs.above (hs0.own id _ b hgid (mkB_has.2 ⟨c,hm⟩)).1⟩ hXlt hXb hh (by rw [hce'.1];simpa using hn) hcs (by simp [f1]) fun i x v hi hv=>?_).mono ?_
 ·have hlt:i < (ys.map s.get).length:=by rw [←f1];exact (List.getElem?_eq_some_iff.1 hi).1
  have hyl:i < ys.length:=by simpa using hlt
  have hv':v = a.eval ys[i]:=by
   simp [hyl] at hv
   exact hv.symm
  subst hv'
  have hyg:(ys.map s.get)[i]? = some (s.get ys[i]):=by rw [List.getElem?_map,List.getElem?_eq_getElem hyl];rfl
  exact vL hs (f2 i _ x hyg hi) (fun id' n' hrow=>d8 (n:=n') (by rw [←hrow];exact List.mem_of_getElem? hyg)) (hs.get _)
 ·rintro e w' ⟨cs',rs,hp,vs,gs,arr',rfl,hvs,hk,hb',ha',hc',hone,hgi,hgl,hrr,hrd⟩
  let blk1:Blk:=a_ q ty (List.replicate n .und)
  have hs1:Sim X0 w0 (bN m id (.blk b c)) ⟨s.fr,bj (cp s.hp ids) id blk1,s.nx⟩ a (w.setRow b arr'):=
   hs0.restore hgid hm (blk':=blk1) (by rw [kC,kC]) (by rw [kC];exact hh) (fun m' X' w'' _ _=>mkB_cells.2 ⟨by simp [ha'],fun j x v hx hv=>by
    have:x = .und:=List.eq_of_mem_replicate (List.mem_of_getElem? hx)
    subst this
    exact ⟨.und _,hone j v hv⟩⟩) (gy _ _ _) (gy _ _ _) (by rw [kS,kS])
  have hwsz:(w.setRow b arr').heap.size = w.heap.size:=by simp [World.setRow]
  have hbl:Bel (w.setRow b arr').heap.size (w.setRow b arr') w':=by
   refine ⟨⟨hk.os,hk.tape,hk.output,by rw [hwsz];exact hk.size,fun k hkk=>?_⟩,hk.drawn⟩
   rw [hwsz] at hkk
   by_cases e:k = b
   ·subst e;rw [hb',setRow_heap w k arr _ _ _ hh]
   ·rw [hk.block k hkk e,setRow_other w b k _ e]
  have hown1:∀ x,X x↔aU X0 (bN m id (.blk b c)) (bj (cp s.hp ids) id blk1) x:=by
   intro x
   constructor
   ·rintro (h|⟨id',blk,h1,h2⟩)
    ·exact .inl h
    ·by_cases e:id' = id
     ·subst e
      rw [hgid] at h1
      cases h1
      obtain ⟨c',hc'⟩:=mkB_has.1 h2
      rw [hm] at hc'
      cases hc'
      exact .inr ⟨id',blk1,by rw [bq];simp [hgid],mkB_has.2 ⟨c,bp _ _ _⟩⟩
     ·exact .inr ⟨id',blk,by rw [bq,if_neg e];exact h1,(Blk.has_upd e).2 h2⟩
   ·rintro (h|⟨id',blk,h1,h2⟩)
    ·exact .inl h
    ·by_cases e:id' = id
     ·subst e
      rw [bq] at h1
      simp [hgid] at h1
      subst h1
      obtain ⟨c',hc'⟩:=mkB_has.1 h2
      rw [bp] at hc'
      cases hc'
      exact hXb
     ·rw [bq,if_neg e] at h1
      exact .inr ⟨id',blk,h1,(Blk.has_upd e).1 h2⟩
  obtain ⟨m',hS,hpv,hmm,hmn⟩:=hs1.takeW (rs:=rs++cs'.map .d) (vs:=vs++arr') (gs:=gs) (X:=X) (by simp [hvs,ha',hc']) hbl hgi (fun i r v hr hv=>by
   rw [hwsz]
   by_cases hi:i < rs.length
   ·rw [List.getElem?_append_left hi] at hr
    rw [Array.getElem?_append_left (by omega)] at hv
    exact hrr i r v hr hv
   ·rw [List.getElem?_append_right (by omega),List.getElem?_map] at hr
    rw [Array.getElem?_append_right (by omega),hvs] at hv
    have hge:gs i = fun _=>False:=by
     funext x
     exact propext ⟨fun h=>hi (hgl i x h),fun h=>h.elim⟩
    rw [hge]
    cases hj:cs'[i - rs.length]? with
    |none=>rw [hj] at hr;cases hr
    |some d=>
     rw [hj] at hr
     cases hr
     exact .d _ _ (hrd _ d v hj hv)) (.inl hown1)
  rw [tv] at hS hpv
  have hnxid:id < s.nx:=hs0.lt_nx hm
  have hgp:ae (ci s.nx rs++bj (cp s.hp ids) id blk1) id = some blk1:=by
   rw [nc _ rs s.nx id (fun j hj=>hs1.hget_none hj),if_pos hnxid,bq]
   simp [hgid]
  have hloc':m'.loc id = some (.blk b c):=hmm _ _ (bp _ _ _)
  let hp2:=ci s.nx rs++bj (cp s.hp ids) id blk1
  let blk2:Blk:=a_ q ty (cs'.map .d)
  have hS1:Sim X0 w0 m' ⟨s.fr,hp2,s.nx + (rs.length + n)⟩ a w':=by
   have e5:(rs++cs'.map RV.d).length = rs.length + n:=by simp [hc']
   rw [e5] at hS
   exact hS
  have hgp2:ae (bj hp2 id blk2) id = some blk2:=by rw [bq];simp [hp2,hgp]
  have hS2:Sim X0 w0 (bN m' id (.blk b c)) ⟨s.fr,bj hp2 id blk2,s.nx + (rs.length + n)⟩ a w':=by
   refine hS1.change (i:=id) (blk':=blk2) (l':=.blk b c) (hpin:=fun p e=>by rw [kS] at e;rw [←hm];exact hs0.pin id _ p hgid (by rw [kS];exact e)) (fun k=>k = b) (.inr hloc') hgp2 (gy _ _ _) (fun id' hne blk hb'=>by rw [bq,if_neg hne] at hb';exact hb') (fun id' q' ty' sz' es' hd'=>?_) (Nat.le_refl _) (hS1.lt_nx hloc') (KeepB.refl _ _) (fun k _ _=>rfl) ?_ ?_ ?_
   ·have hne:id'≠id:=fun e=>by
     subst e
     have hd2:ae hp2 id' = some (.deep q' ty' sz' es'):=hd'
     rw [show ae hp2 id' = some blk1 from hgp] at hd2
     have hpl:=gy q ty (List.replicate n .und)
     rw [show a_ q ty (List.replicate n .und) = .deep q' ty' sz' es' from Option.some.inj hd2] at hpl
     cases hpl
    exact ⟨hne,by rw [bq,if_neg hne]⟩
   ·rintro k rfl
    exact ⟨id,blk1,hgp,mkB_has.2 ⟨c,hloc'⟩,.inl rfl⟩
   ·intro b' c' e
    cases e
    have:=hS1.own id blk1 b hgp (mkB_has.2 ⟨c,hloc'⟩)
    exact ⟨this.1,this.2,.inr rfl⟩
   ·intro hst
    refine ⟨arr',by rw [kC];exact hb',mkB_cells.2 ⟨by simp [ha',hc'],fun j x v hx hv=>?_⟩⟩
    rw [List.getElem?_map] at hx
    cases hj:cs'[j]? with
    |none=>rw [hj] at hx;cases hx
    |some d=>
     rw [hj] at hx
     cases hx
     refine ⟨?_,hone j v hv⟩
     have hjl:j < cs'.length:=(List.getElem?_eq_some_iff.1 hj).1
     have:=hpv (rs.length + j) (.d d) v (by rw [List.getElem?_append_right (by omega),Nat.add_sub_cancel_left,List.getElem?_map,hj];rfl) (by rw [Array.getElem?_append_right (by omega),hvs,Nat.add_sub_cancel_left];exact hv)
     exact this.mono (gh m' _ _ (.inr hloc')) hst
  have hKK:=hK cs' rs hp hc'
  have e6:bj (ci s.nx rs++cp s.hp ids) id blk2 = bj hp2 id blk2:=by
   have h7:∀ (l:List (Nat × Blk)) (i:Nat) (x y:Blk),bj (bj l i x) i y = bj l i y:=by
    intro l i x y
    induction l with
    |nil=>rfl
    |cons p r ih=>
     obtain ⟨k,z⟩:=p
     by_cases hk':i = k<;>simp [bj,hk',ih]
   show _ = bj (ci s.nx rs++bj (cp s.hp ids) id blk1) id blk2
   rw [lG _ id s.nx blk2 hnxid rs s.nx (Nat.le_refl _),lG _ id s.nx blk2 hnxid rs s.nx (Nat.le_refl _),h7]
  rw [e6] at hKK
  have hstay:Stay w' w' (aU X0 m' hp2) (aU X0 (bN m' id (.blk b c)) (bj hp2 id blk2)):=by
   intro x _ hx
   refine ⟨rfl,?_⟩
   rintro (h|⟨id',blk,h1,h2⟩)
   ·exact hx (.inl h)
   ·by_cases e:id' = id
    ·subst e
     rw [hgp2] at h1
     cases h1
     obtain ⟨c',hc2⟩:=mkB_has.1 h2
     rw [bp] at hc2
     cases hc2
     exact hx (.inr ⟨id',blk1,hgp,mkB_has.2 ⟨c,hloc'⟩⟩)
    ·rw [bq,if_neg e] at h1
     exact hx (.inr ⟨id',blk,h1,(Blk.has_upd e).1 h2⟩)
  refine ⟨bN m' id (.blk b c),_,hKK,Sim.put hS2 ?_ o.dst⟩
  have hpvR:∀ (i:Nat) (r:RV) (v:Value),rs[i]? = some r→vs[i]? = some v→R (bN m' id (.blk b c)).loc (aU X0 (bN m' id (.blk b c)) (bj hp2 id blk2)) w' (mu (s.nx + i) r) v:=by
   intro i r v hr hv
   have hi:=(List.getElem?_eq_some_iff.1 hr).1
   have:=hpv i r v (by rw [List.getElem?_append_left hi];exact hr) (by rw [Array.getElem?_append_left (by omega)];exact hv)
   exact this.mono (gh m' _ _ (.inr hloc')) hstay
  exact bR hvs hpvR
theorem CallK.curA {f x0:Operand} {ys:List Operand} {args:Array Operand} {argTypes:Array TypeId} {fid:FuncId} {id n:Nat} {ty:TypeId} {cs ds:List D} {Post:List D→List RV→Prop} {pvl:List PV} {refs:Bool} (q:Option Nat)
  (hok:FnC P fid n ds cs Post .agg) (ho:o.op = .call {callee:=.value f,args:=args,argTypes:=argTypes}) (hf:s.get f = .fn fid []) (ha:args.toList = x0::ys) (hx:s.get x0 = .bptr id 0) (hg:ae s.hp id = some (a_ q ty (cs.map .d))) (hd:cX s.hp (ys.map s.get) = some ds)
  (hK:∀ cs' rs,Post cs' rs→K (AS.put ⟨s.fr,bj (ci s.nx rs++cp s.hp (bb (ys.map s.get))) id (a_ q ty (cs'.map .d)),s.nx + (rs.length + n)⟩ o.dst (.agg (e8 s.nx rs)))):CallK P o fid pvl refs s o.dst K:=
 .inr (l9 ho hf ha hx hg hd hok fun cs' rs h _=>hK cs' rs h)
theorem CallK.cur {f x0:Operand} {ys:List Operand} {args:Array Operand} {argTypes:Array TypeId} {fid:FuncId} {id n:Nat} {ty:TypeId} {cs ds:List D} {Post:List D→List RV→Prop} {e8:List PV} {refs:Bool} (q:Option Nat)
  (hok:FnC P fid n ds cs Post) (ho:o.op = .call {callee:=.value f,args:=args,argTypes:=argTypes}) (hf:s.get f = .fn fid []) (ha:args.toList = x0::ys) (hx:s.get x0 = .bptr id 0) (hg:ae s.hp id = some (a_ q ty (cs.map .d))) (hd:cX s.hp (ys.map s.get) = some ds)
  (hK:∀ cs' rs,Post cs' rs→K (AS.put ⟨s.fr,bj (ci s.nx rs++cp s.hp (bb (ys.map s.get))) id (a_ q ty (cs'.map .d)),s.nx + (rs.length + n)⟩ o.dst (gr s.nx rs))):CallK P o fid e8 refs s o.dst K:=
 .inr (l9 ho hf ha hx hg hd hok fun cs' rs h _=>hK cs' rs h)
theorem bQ {G:List (Nat × TI)} {fn:Func} {ty n:Nat} {Post:List D→List RV→Prop} {xs:List PV} {rs:List RV} (cs':List D) {id:Nat} (h1:dB G s fn.results.toList = some xs) (h2:bl s.hp xs = some rs) (h3:(am xs).Nodup) (h4:ae s.hp id = some (.pbox 0 ty (cs'.map .d))) (h5:cs'.length = n) (h6:Post cs' rs):sX G fn ty n Post .tup .ret s:=⟨xs,rs,cs',id,⟨h1,trivial⟩,h2,h3,h4,h5,h6⟩
theorem cE {G:List (Nat × TI)} {fn:Func} {ty n:Nat} {Post:List D→List RV→Prop} {xs:List PV} {rs:List RV} (cs':List D) {id:Nat} (h1:dB G s fn.results.toList = some [.agg xs]) (h2:bl s.hp xs = some rs) (h3:(am xs).Nodup) (h4:ae s.hp id = some (.pbox 0 ty (cs'.map .d))) (h5:cs'.length = n) (h6:Post cs' rs):sX G fn ty n Post .agg .ret s:=⟨xs,rs,cs',id,⟨h1,trivial⟩,h2,h3,h4,h5,h6⟩
theorem CallK.curG {l:List (Option Nat)} {f x0:Operand} {ys:List Operand} {args:Array Operand} {argTypes:Array TypeId} {fid:FuncId} {id n:Nat} {ty:TypeId} {cs ds:List D} {Post:List D→List RV→Prop} {pvl:List PV} {refs:Bool} (q:Option Nat)
  (hok:FnC P fid n ds cs Post (.grp l)) (ho:o.op = .call {callee:=.value f,args:=args,argTypes:=argTypes}) (hf:s.get f = .fn fid []) (ha:args.toList = x0::ys) (hx:s.get x0 = .bptr id 0) (hg:ae s.hp id = some (a_ q ty (cs.map .d))) (hd:cX s.hp (ys.map s.get) = some ds)
  (hK:∀ cs' rs,Post cs' rs→K (AS.put ⟨s.fr,bj (ci s.nx rs++cp s.hp (bb (ys.map s.get))) id (a_ q ty (cs'.map .d)),s.nx + (rs.length + n)⟩ o.dst (dG (gP l (e8 s.nx rs))))):CallK P o fid pvl refs s o.dst K:=
 .inr (l9 ho hf ha hx hg hd hok fun cs' rs h _=>hK cs' rs h)
theorem t6 {G:List (Nat × TI)} {fn:Func} {ty n:Nat} {Post:List D→List RV→Prop} {xs:List PV} {rs:List RV} {l:List (Option Nat)} (cs':List D) {id:Nat} (h1:dB G s fn.results.toList = some (gP l xs)) (hg:gN l = xs.length) (h2:bl s.hp xs = some rs) (h3:(am xs).Nodup) (h4:ae s.hp id = some (.pbox 0 ty (cs'.map .d))) (h5:cs'.length = n) (h6:Post cs' rs):sX G fn ty n Post (.grp l) .ret s:=⟨xs,rs,cs',id,⟨h1,hg⟩,h2,h3,h4,h5,h6⟩
theorem w5 (x y z:D):[PV.d x,PV.d y,PV.d z] = List.map PV.d [x,y,z]:=rfl
end rules
end Go.Proofs.YtphakidbddamfaaGreat
