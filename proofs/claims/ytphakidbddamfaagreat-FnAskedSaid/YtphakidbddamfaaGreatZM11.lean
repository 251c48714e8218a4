/-
  The small functions on numbers.
-/
import Derived.Test.YtphakidbddamfaaGreatProg
import Derived.Test.YtphakidbddamfaaGreatZBase
import Derived.ProofKit
import Derived.OpenShut
import Derived.ShutString
import Derived.ChangeOld
import Derived.Deep.Slices
import Derived.Deep.Fields
import Derived.Test.YtphakidbddamfaaGreatZM9
namespace Go.Proofs.YtphakidbddamfaaGreat
open Go.RowKit
end Go.Proofs.YtphakidbddamfaaGreat
namespace Go.Proofs.YtphakidbddamfaaGreat
open Go.RowKit
def RdL {α:Type} (enc:α→List Value) (sz:Nat) (w:World) (A:Option Addr) (xss:List (List α)):Prop:=
 ∃ b off,(0 < xss.length→A = some ⟨b,off,none⟩)∧∀ (k:Nat) (xs:List α),xss[k]? = some xs→∃ A' c,w.cell? ⟨b,off + k,none⟩ = some (.slice A' xs.length c)∧RdS enc sz w A' xs
section
variable {α:Type} {enc:α→List Value} {sz:Nat} {w w':World} {A:Option Addr} {xss:List (List α)}
theorem RdL.ext (h:RdL enc sz w A xss) (hb:Below w.heap.size w w'):RdL enc sz w' A xss:=by
 obtain ⟨b,off,hA,hc⟩:=h
 exact ⟨b,off,hA,fun k xs hx=>by
  obtain ⟨A',c,h1,h2⟩:=hc k xs hx
  exact ⟨A',c,nU h1 hb,h2.ext hb⟩⟩
theorem RdL.nil_:RdL enc sz w A []:=⟨0,0,by simp,by simp⟩
theorem RdL.at_ (h:RdL enc sz w A xss) {k:Nat} (hk:k < xss.length):
  ∃ b off xs A' c,A = some ⟨b,off,none⟩∧Hid (xss[k]? = some xs)∧w.cell? ⟨b,off + k,none⟩ = some (.slice A' xs.length c)∧RdS enc sz w A' xs:=by
 obtain ⟨b,off,hA,hc⟩:=h
 obtain ⟨A',c,h1,h2⟩:=hc k _ (List.getElem?_eq_getElem hk)
 exact ⟨b,off,xss[k],A',c,hA (by omega),List.getElem?_eq_getElem hk,h1,h2⟩
end
def Sep (vs:List Value):Prop:=vs.Pairwise fun a b=>∀ g,a.ownBlock = some g→b.ownBlock≠some g
theorem Sep.ne {vs:List Value} (h:Sep vs) {i j:Nat} {a b:Value} (ha:vs[i]? = some a) (hb:vs[j]? = some b) (hij:i≠j):a.ownBlock = none∨a.ownBlock≠b.ownBlock:=by
 obtain ⟨hi,rfl⟩:=List.getElem?_eq_some_iff.1 ha
 obtain ⟨hj,rfl⟩:=List.getElem?_eq_some_iff.1 hb
 rcases Nat.lt_or_gt_of_ne hij with hlt|hlt
 ·have:=List.pairwise_iff_getElem.1 h i j hi hj hlt
  cases e:(vs[i]).ownBlock with
  |none=>exact .inl rfl
  |some g=>exact .inr (this g e).symm
 ·have:=List.pairwise_iff_getElem.1 h j i hj hi hlt
  cases e:(vs[i]).ownBlock with
  |none=>exact .inl rfl
  |some g=>exact .inr (fun e2=>this g e2.symm e)
theorem Sep.snoc {vs:List Value} {u:Value} {B:Nat} (h:Sep vs) (hold:∀ a ∈ vs,∀ g,a.ownBlock = some g→g < B) (hnew:∀ g,u.ownBlock = some g→B≤g):Sep (vs++[u]):=by
 refine List.pairwise_append.2 ⟨h,by simp,fun a ha b hb g hg=>?_⟩
 have:b = u:=by simpa using hb
 subst this
 intro e
 have h1:=hold a ha g hg
 have h2:=hnew g e
 omega
theorem OwnS.other {α:Type} {enc:α→List Value} {sz:Nat} {E EO:TypeId} {w:World} {B g i:Nat} {v u:Value} {xs:List α} {cs:List Value} (h:OwnS enc sz E w B v xs) (hr:Row w g EO cs) (hne:E≠EO):OwnS enc sz E (w.setCell ⟨g,i,none⟩ u) B v xs:=by
 rcases h.2 with hv|⟨g',cap,cur,hv,hb,hh,hc,hm,hs,ht⟩
 ·exact ⟨h.1,.inl hv⟩
 ·have hgg:g'≠g:=by
   rintro rfl
   unfold Row at hr
   rw [hh] at hr
   injection hr with hr
   injection hr with _ hE
   exact hne hE
  exact ⟨h.1,.inr ⟨g',cap,cur,hv,hb,(Below.heap_setCell w ⟨g,i,none⟩ u g' hgg).trans hh,hc,hm,hs,ht⟩⟩
theorem OwnS.kept {α:Type} {enc:α→List Value} {sz:Nat} {E:TypeId} {w w':World} {B:Nat} {v:Value} {xs:List α} {row:Option Nat} (h:OwnS enc sz E w B v xs) (hg:w.grownBy w' row) (hne:v.ownBlock = none∨v.ownBlock≠row):OwnS enc sz E w' B v xs:=World.ownsRow.kept h hg hne
def OwnL {α:Type} (enc:α→List Value) (sz:Nat) (E EO:TypeId) (w:World) (B:Nat) (v:Value) (xss:List (List α)):Prop:=
 ∃ vs:List Value,w.ownsRow B EO 1 v xss.length vs∧(∀ (k:Nat) (xs:List α),xss[k]? = some xs→∃ u,vs[k]? = some u∧OwnS enc sz E w B u xs)∧Sep vs
section
variable {α:Type} {enc:α→List Value} {sz:Nat} {E EO:TypeId} {w w':World} {B:Nat} {v:Value} {xss:List (List α)}
theorem OwnL.ext (h:OwnL enc sz E EO w B v xss) (hb:Below w.heap.size w w'):OwnL enc sz E EO w' B v xss:=by
 obtain ⟨vs,h1,h2,h3⟩:=h
 exact ⟨vs,World.ownsRow.kept (row:=none) h1 ⟨hb.os,hb.tape,hb.output,hb.size,fun k hk _=>hb.block k hk⟩ (by cases hv:v.ownBlock<;>simp),fun k xs hx=>by
  obtain ⟨u,e,h⟩:=h2 k xs hx
  exact ⟨u,e,h.ext hb⟩,h3⟩
theorem OwnL.slice (henc:∀ x,(enc x).length = sz) (h:OwnL enc sz E EO w B v xss):∃ A c,v = .slice A xss.length c∧RdL enc sz w A xss:=by
 obtain ⟨vs,h1,h2,_⟩:=h
 rcases h1.2 with ⟨rfl,hn⟩|⟨g,cap,cur,rfl,hb,hh,hc,hm,hs,ht⟩
 ·have:xss = []:=List.eq_nil_of_length_eq_zero hn
  subst this
  exact ⟨none,0,rfl,RdL.nil_⟩
 ·refine ⟨_,cap,rfl,g,0,fun _=>rfl,fun k xs hx=>?_⟩
  obtain ⟨u,hu,ho⟩:=h2 k xs hx
  obtain ⟨A',c,rfl,hr⟩:=ho.slice henc
  refine ⟨A',c,?_,hr⟩
  have hk:k < xss.length:=(List.getElem?_eq_some_iff.1 hx).1
  rw [Nat.mul_one] at ht
  rw [←ht,List.getElem?_take_of_lt hk] at hu
  simp only [World.cell?,hh,Nat.zero_add]
  simpa using hu
theorem OwnL.low {B':Nat} (h:OwnL enc sz E EO w B v xss) (hB:B'≤B):OwnL enc sz E EO w B' v xss:=by
 obtain ⟨vs,h1,h2,h3⟩:=h
 exact ⟨vs,World.ownsRow.mono h1 hB,fun k xs hx=>by
  obtain ⟨u,e,h⟩:=h2 k xs hx
  exact ⟨u,e,h.low hB⟩,h3⟩
end
def MadeL {α:Type} (enc:α→List Value) (sz:Nat) (E EO:TypeId) (B g:Nat) (xss:List (List α)) (k:Nat) (w:World):Prop:=
 ∃ cs,Row w g EO cs∧cs.length = xss.length∧(∀ (j:Nat) (xs:List α),j < k→xss[j]? = some xs→∃ u,cs[j]? = some u∧OwnS enc sz E w B u xs)∧Sep (cs.take k)
section
variable {α:Type} {enc:α→List Value} {sz:Nat} {E EO:TypeId} {w w':World} {B g:Nat} {xss:List (List α)} {k:Nat}
theorem MadeL.start {cs:List Value} (h:Row w g EO cs) (hl:cs.length = xss.length):MadeL enc sz E EO B g xss 0 w:=⟨cs,h,hl,fun _ _ h=>absurd h (by omega),by simp [Sep]⟩
theorem MadeL.row (h:MadeL enc sz E EO B g xss k w):∃ cs,Row w g EO cs∧Hid (cs.length = xss.length):=
 let ⟨cs,h1,h2,_⟩:=h
 ⟨cs,h1,h2⟩
theorem MadeL.next (h:MadeL enc sz E EO B g xss k w) (hb:Below w.heap.size w w') {u:Value} {xs:List α} (hx:xss[k]? = some xs) (ho:OwnS enc sz E w' w.heap.size u xs) (hB:B≤w.heap.size) (hne:E≠EO):
  MadeL enc sz E EO B g xss (k + 1) (w'.setCell ⟨g,k,none⟩ u):=by
 obtain ⟨cs,h1,h2,h3,h4⟩:=h
 have hk:k < xss.length:=(List.getElem?_eq_some_iff.1 hx).1
 have hr':=h1.ext hb
 refine ⟨cs.set k u,hr'.set_ k u,by simpa using h2,fun j ys hj hy=>?_,?_⟩
 ·by_cases e:j = k
  ·subst e
   rw [hx] at hy
   cases hy
   exact ⟨u,by rw [List.getElem?_set_self (by omega)],(ho.low hB).other hr' hne⟩
  ·obtain ⟨u',e1,o1⟩:=h3 j ys (by omega) hy
   exact ⟨u',by rw [List.getElem?_set_ne (by omega)];exact e1,(o1.ext hb).other hr' hne⟩
 ·have e:(cs.set k u).take (k + 1) = cs.take k++[u]:=by
   rw [List.take_succ_eq_append_getElem (by simp;omega),List.take_set_of_le (by omega)]
   simp
  rw [e]
  refine h4.snoc (B:=w.heap.size) (fun a ha gg hg=>?_) (fun gg hg=>(ho.blocks gg hg).1)
  obtain ⟨j,hj⟩:=List.getElem?_of_mem ha
  have hjk:j < k:=by
   have:=(List.getElem?_eq_some_iff.1 hj).1
   simp at this
   omega
  rw [List.getElem?_take_of_lt hjk] at hj
  obtain ⟨u',e1,o1⟩:=h3 j xss[j] hjk (List.getElem?_eq_getElem (by omega))
  rw [hj] at e1
  cases e1
  exact (o1.blocks gg hg).2
theorem MadeL.done (h:MadeL enc sz E EO B g xss xss.length w) (hB:B≤g) (hn:xss.length≤maxLen):OwnL enc sz E EO w B (.slice (some ⟨g,0,none⟩) xss.length xss.length) xss:=by
 obtain ⟨cs,h1,h2,h3,h4⟩:=h
 exact ⟨cs,h1.own hB (by omega) hn,fun k xs hx=>h3 k xs (List.getElem?_eq_some_iff.1 hx).1 hx,by rwa [List.take_of_length_le (by omega)] at h4⟩
end
def MarkL {α:Type} (enc:α→List Value) (sz:Nat) (E EO:TypeId) (w0:World) (B hi g:Nat) (vs:List Value) (xss:List (List α)) (w:World):Prop:=
 Marked B hi w0 w∧(∃ cur,w.heap[g]? = some (.cells cur EO (0,0))∧vs.length≤cur.size∧cur.toList.take vs.length = vs)∧(∀ (k:Nat) (xs:List α),xss[k]? = some xs→∃ u xs',vs[k]? = some u∧xs'.length = xs.length∧OwnS enc sz E w B u xs')∧Sep vs∧
  ∀ a ∈ vs,∀ g',a.ownBlock = some g'→g' < hi
section
variable {α:Type} {enc:α→List Value} {sz:Nat} {E EO:TypeId} {w0 w w':World} {B hi g:Nat} {vs:List Value} {xss:List (List α)}
theorem OwnL.mark {w1:World} {A:Option Addr} {n c:Nat} (h:OwnL enc sz E EO w1 B (.slice A n c) xss) (hb:Below w1.heap.size w1 w) (hn:0 < n):∃ g vs,A = some ⟨g,0,none⟩∧n = xss.length∧MarkL enc sz E EO w B w1.heap.size g vs xss w:=by
 obtain ⟨vs,h1,h2,h3⟩:=h
 rcases h1.2 with ⟨hv,_⟩|⟨g,cap,cur,hv,hbg,hh,hc,hm,hs,ht⟩
 ·cases hv;omega
 ·have hl:=h1.1
  rw [Nat.mul_one] at hl ht
  cases hv
  have hgl:g < w1.heap.size:=Row.lt (cs:=cur.toList) hh
  refine ⟨g,vs,rfl,rfl,Marked.refl _ _ _,⟨cur,(hb.block g hgl).trans hh,by rw [hl];omega,by rw [hl];exact ht⟩,fun k xs hx=>?_,h3,fun a ha g' hg'=>?_⟩
  ·obtain ⟨u,e,o⟩:=h2 k xs hx
   exact ⟨u,xs,e,rfl,o.ext hb⟩
  ·obtain ⟨k,hk⟩:=List.getElem?_of_mem ha
   have hkl:k < xss.length:=by rw [←hl];exact (List.getElem?_eq_some_iff.1 hk).1
   obtain ⟨u,e,o⟩:=h2 k xss[k] (List.getElem?_eq_getElem hkl)
   rw [hk] at e
   cases e
   exact (o.blocks g' hg').2
theorem MarkL.at_ (h:MarkL enc sz E EO w0 B hi g vs xss w) {k:Nat} (hk:k < xss.length):∃ xs u xs',Hid (xss[k]? = some xs)∧Hid (vs[k]? = some u)∧Hid (xs'.length = xs.length)∧w.cell? ⟨g,k,none⟩ = some u∧OwnS enc sz E w B u xs':=by
 obtain ⟨_,⟨cur,hh,hc,ht⟩,h3,_⟩:=h
 obtain ⟨u,xs',hu,hl,ho⟩:=h3 k xss[k] (List.getElem?_eq_getElem hk)
 refine ⟨xss[k],u,xs',List.getElem?_eq_getElem hk,hu,hl,?_,ho⟩
 have hkv:k < vs.length:=(List.getElem?_eq_some_iff.1 hu).1
 rw [←ht,List.getElem?_take_of_lt hkv] at hu
 simp only [World.cell?,hh]
 simpa using hu
theorem MarkL.next (h:MarkL enc sz E EO w0 B hi g vs xss w) (hne:E≠EO) {k:Nat} {u:Value} {xs zs:List α} (hu:vs[k]? = some u) (hx:xss[k]? = some xs) (hl:zs.length = xs.length) (ho:OwnS enc sz E w B u zs) {ys:List α} (hy:ys.length = zs.length) (ho':OwnS enc sz E w' B u ys) (hg:w.grownBy w' u.ownBlock):MarkL enc sz E EO w0 B hi g vs xss w':=by
 obtain ⟨h1,⟨cur,hh,hc,ht⟩,h3,h4,h5⟩:=h
 refine ⟨h1.trans (Marked.of_grown hg fun g' e=>⟨(ho.blocks g' e).1,h5 u (List.mem_of_getElem? hu) g' e⟩),⟨cur,?_,hc,ht⟩,fun j zs' hz=>?_,h4,h5⟩
 ·have hgl:g < w.heap.size:=Row.lt (cs:=cur.toList) hh
  refine (hg.block g hgl fun e=>?_).trans hh
  rcases ho.2 with ⟨hv,_⟩|⟨g',cap,cur',hv,_,hh',_⟩
  ·rw [hv] at e;simp [Value.ownBlock] at e
  ·rw [hv] at e
   have:g = g':=by simpa [Value.ownBlock] using e
   subst this
   rw [hh] at hh'
   injection hh' with hh'
   injection hh' with _ hE
   exact hne hE.symm
 ·obtain ⟨u',xs',e1,l1,o1⟩:=h3 j zs' hz
  by_cases e:j = k
  ·subst e
   rw [hx] at hz
   cases hz
   exact ⟨u,ys,hu,by omega,ho'⟩
  ·exact ⟨u',xs',e1,l1,o1.kept hg (h4.ne e1 hu e)⟩
end
end Go.Proofs.YtphakidbddamfaaGreat
namespace Go.Proofs.YtphakidbddamfaaGreat
open Go.RowKit
def yN (x:Int):List Value:=[.int .i64 x]
theorem RdS.int {w:World} {A:Option Addr} {xs:List Int} (h:RdS yN 1 w A xs) {k:Nat} (hk:k < xs.length):
  ∃ b off x,A = some ⟨b,off,none⟩∧Hid (xs[k]? = some x)∧w.cell? ⟨b,off + k,none⟩ = some (.int .i64 x):=by
 obtain ⟨b,off,x,hA,hx,hc⟩:=h.elem hk
 exact ⟨b,off,x,hA,hx,by simpa using hc 0 _ rfl⟩
end Go.Proofs.YtphakidbddamfaaGreat
namespace Go.Proofs.YtphakidbddamfaaGreat
open Go.ChangeShapes Go.WideShapes Go.ChangeAt Go.RowKit Go.Deep
theorem lD {α:Type} {p:Nat→α→Prop}:∀ n:Nat,(∀ i,i < n→∃ x,p i x)→∃ xs:List α,xs.length = n∧∀ i x,xs[i]? = some x→p i x
 |0,_=>⟨[],rfl,fun i x h=>by simp at h⟩
 |n + 1,h=>by
  obtain ⟨xs,hl,hx⟩:=lD n fun i hi=>h i (by omega)
  obtain ⟨x,hp⟩:=h n (by omega)
  refine ⟨xs++[x],by simp [hl],fun i y hi=>?_⟩
  rcases Nat.lt_or_ge i xs.length with hlt|hge
  ·rw [List.getElem?_append_left hlt] at hi
   exact hx i y hi
  ·rw [List.getElem?_append_right hge] at hi
   have e:i = n:=by
    rcases Nat.lt_or_ge (i - xs.length) 1 with h1|h1
    ·omega
    ·rw [List.getElem?_eq_none (by simpa using h1)] at hi;cases hi
   subst e
   rw [hl,Nat.sub_self] at hi
   have:x = y:=by simpa using hi
   subst this
   exact hp
section
variable {H:Type} {enc:TypeId × Value→H} {P:Program} {w:World} {base:Nat} {spare:Nat→Bool} {held:Bool}
end
theorem pA {H:Type} {enc:TypeId × Value→H} {P:Program} {w:World} {t:TypeId} {v:Value} {d:DataW H} {p:List MemPlace} (h:DataW.Trod enc P w 0 (fun _=>true) true t v d p):∀ x ∈ p,x.block < w.heap.size:=by
 obtain ⟨m,hm⟩:=h
 exact DataW.trod_lt m _ _ _ hm
end Go.Proofs.YtphakidbddamfaaGreat
namespace Go.Proofs.YtphakidbddamfaaGreat
open Go.RowKit
def cL (P:Program) (G:List (Nat × TI)) (ops:Array Oper):List Oper→(AS→Prop)→AS→Prop
 |[],K,s=>K s
 |o::rest,K,s=>match o.guard with
  |none=>eK P G o s fun v=>cL P G ops rest K (s.put o.dst v)
  |some (j,want)=>(match yB ops s j with
   |.d (.bool b)=>pK (b == want) (eK P G o (s.setB ops j want) fun v=>cL P G ops rest K ((s.setB ops j want).put o.dst v)) (cL P G ops rest K ((s.setB ops j !want).put o.dst (.tup [])))
   |.tup []=>cL P G ops rest K (s.put o.dst (.tup []))
   |_=>False)
theorem e_ {P:Program} {G:List (Nat × TI)} (hG:GOK P G) {ops:Array Oper} {X0:Nat→Prop} {w0:Base} {wb:World} {m:Mp}:∀ (l:List Oper) (K:AS→Prop) (s:AS) (a:Act),cL P G ops l K s→Sim X0 w0 m s a wb→
  wpQuiet P ops (fun w'=>Bel wb.heap.size wb w') (fun a'=>∃ s',K s'∧Sim X0 w0 m s' a' wb) l a
 |[],K,s,a,h,hs=>⟨s,h,hs⟩
 |o::rest,K,s,a,h,hs=>by
  have step:eK P G o s (fun v=>cL P G ops rest K (s.put o.dst v))→o.quiet P a (fun w'=>Bel wb.heap.size wb w') (wpQuiet P ops (fun w'=>Bel wb.heap.size wb w') (fun a'=>∃ s',K s'∧Sim X0 w0 m s' a' wb) rest):=by
   intro h1
   obtain ⟨x,h2,h3⟩:=go hG h1
   obtain ⟨v,h4,h5⟩:=h2 X0 w0 m a wb hs
   refine ⟨v,?_,e_ hG rest K _ _ h3 (hs.put (h5 wb (Bel.refl _ _)) o.dst)⟩
   intro w' hb
   have h6:=h4 w' hb
   unfold Oper.quietAt at h6 ⊢
   generalize (execOp a.eval o).run P w' = r at h6
   cases r with
   |ok n u=>
    cases n<;>simp only [Oper.quietUpon] at h6 ⊢<;>first|exact h6|skip
   |halt x u=>exact h6
  unfold wpQuiet
  simp only [cL] at h
  split at h
  ·rename_i hg
   simp only [Region.wanted,hg,if_true]
   exact step h
  ·rename_i j want hg
   split at h
   ·rename_i b h1
    have hy:yielded ops a.tmps j = some b:=by
     have h1c:=h1
     unfold yB at h1
     cases hd:(ops[j]?).bind (·.dst) with
     |none=>rw [hd] at h1;cases h1
     |some t=>
      rw [hd] at h1
      have h4:=hs.get (.tmp t)
      have h1':lk s.fr.l t = .d (.bool b):=h1
      simp only [AS.get] at h4
      rw [h1'] at h4
      have h5:a.tmps.getD t undef = .bool b:=h4.bool
      have h6:a.tmps[t]? = some (.bool b):=by
       rw [Array.getD_eq_getD_getElem?] at h5
       cases ht:a.tmps[t]? with
       |none=>rw [ht] at h5;cases h5
       |some u=>rw [ht] at h5;simp at h5;rw [h5]
      unfold yielded
      rw [hd]
      simp [h6]
    simp only [Region.wanted,hg,hy]
    obtain ⟨h2,h3⟩:=h
    by_cases hb:b = want
    ·subst hb
     rw [ix h1] at h2
     simp only [beq_self_eq_true,if_true]
     exact step (h2 (by simp))
    ·have e2:b = !want:=by cases b<;>cases want<;>simp_all
     rw [←e2,ix h1] at h3
     have:(some b == some want) = false:=by simpa using hb
     simp only [this,Bool.false_eq_true,if_false]
     exact e_ hG rest K _ _ (h3 (by simpa using hb)) (hs.put (lT _ _ _) o.dst)
   ·rename_i h1
    have hy:yielded ops a.tmps j = none:=by
     unfold yB at h1
     cases hd:(ops[j]?).bind (·.dst) with
     |none=>rw [hd] at h1;cases h1
     |some t=>
      rw [hd] at h1
      have h4:=hs.get (.tmp t)
      have h1':lk s.fr.l t = .tup []:=h1
      simp only [AS.get] at h4
      rw [h1'] at h4
      have h5:∀ b,a.tmps.getD t undef≠.bool b:=by
       intro b he
       have h4':R m (aU X0 m s.hp) wb (.tup []) (a.tmps.getD t undef):=h4
       rw [he] at h4'
       cases h4'
      unfold yielded
      rw [hd]
      simp only [Option.bind_some]
      split
      ·rename_i b hb
       exact absurd (by rw [Array.getD_eq_getD_getElem?,hb];rfl) (h5 b)
      ·rfl
    simp only [Region.wanted,hg,hy]
    have:((none:Option Bool) == some want) = false:=rfl
    simp only [this,Bool.false_eq_true,if_false]
    exact e_ hG rest K _ _ h (hs.put (lT _ _ _) o.dst)
   ·exact h.elim
section
variable {P:Program} {G:List (Nat × TI)} {Q:Exit→AS→Prop} {s:AS} {id:Nat} {l:List Oper} {y:Code}
theorem aN (hG:GOK P G) (hm:P.follows .mixedOrders = true) (hB:Region.lexB .any l.toArray = true) (h:cL P G l.toArray l (Q .normal) s):PW P (.region id l.toArray true) Q s:=by
 intro X0 w0 m a w hs
 have hq:=e_ hG (ops:=l.toArray) l _ s a h hs
 refine wp_region_quiet (C:=fun w'=>Bel w.heap.size w w') hm hB (Bel.refl _ _).drew ?_
 rw [List.toList_toArray]
 have mono:∀ (l':List Oper) (a:Act),wpQuiet P l.toArray (fun w'=>Bel w.heap.size w w') (fun a'=>∃ s',Q .normal s'∧Sim X0 w0 m s' a' w) l' a→wpQuiet P l.toArray (fun w'=>Bel w.heap.size w w') (fun a'=>∀ w',Bel w.heap.size w w'→∃ m' s',Q .normal s'∧Sim X0 w0 m' s' a' w') l' a:=by
  intro l'
  induction l' with
  |nil=>
   rintro a ⟨s',h1,h2⟩ w' hb
   exact ⟨m,s',h1,h2.later hb⟩
  |cons o rest ih=>
   intro a h
   unfold wpQuiet at h ⊢
   split
   ·rename_i hw;rw [if_pos hw] at h;exact Oper.quiet_mono (fun a h=>ih a h) h
   ·rename_i hw;rw [if_neg hw] at h;exact ih _ h
 exact mono l a hq
theorem dW (hG:GOK P G) (p n:Nat) (hm:P.follows .mixedOrders = true) (hB:mo l.toArray p n = true) (h:cL P G l.toArray (l.take n) (fun s'=>cC P G l.toArray (l.drop n) (Q .normal) s') s):PW P (.region id l.toArray true) Q s:=by
 intro X0 w0 m a w hs
 have hq:=e_ hG (ops:=l.toArray) (l.take n) _ s a h hs
 refine wp_mono (Q:=fun e a' w'=>(∀ c,e≠.panic c)∧∃ m' s',Q e s'∧Sim X0 w0 m' s' a' w') ?_ fun _ _ _ h=>h.2
 refine jp (C:=fun w'=>Bel w.heap.size w w') (Bel.refl _ _).drew p n hm hB (fun c a d v w h=>(h.1 c rfl).elim) ?_
 have mono:∀ (l':List Oper) (a:Act),wpQuiet P l.toArray (fun w'=>Bel w.heap.size w w') (fun a'=>∃ s',cC P G l.toArray (l.drop n) (Q .normal) s'∧Sim X0 w0 m s' a' w) l' a→wpQuiet P l.toArray (fun w'=>Bel w.heap.size w w') (fun a'=>∀ w',Bel w.heap.size w w'→wpList P l.toArray (fun e a' w'=>(∀ c,e≠.panic c)∧∃ m' s',Q e s'∧Sim X0 w0 m' s' a' w') (l.drop n) a' w') l' a:=by
  intro l'
  induction l' with
  |nil=>
   rintro a ⟨s',h1,h2⟩ w' hb
   exact ii (l.drop n) (Q .normal) s' m a w' (dN hG _ _ _ h1) (h2.later hb) fun m' s' a' w' h3 h4=>⟨(fun c e=>by cases e),m',s',h3,h4⟩
  |cons o rest ih=>
   intro a h
   unfold wpQuiet at h ⊢
   split
   ·rename_i hw;rw [if_pos hw] at h;exact Oper.quiet_mono (fun a h=>ih a h) h
   ·rename_i hw;rw [if_neg hw] at h;exact ih _ h
 exact mono (l.take n) a hq
theorem qV (hG:GOK P G) (hm:P.follows .mixedOrders = true) (hB:Region.lexB .any l.toArray = true) (h:∀ K:AS→Prop,(∀ s',PW P y Q s'→K s')→cL P G l.toArray l K s):PW P (.seq (.region id l.toArray true) y) Q s:=
 f6 fun K hK=>aN hG hm hB (h K fun s' h'=>hK s' h')
theorem qO (hG:GOK P G) (p n:Nat) (hm:P.follows .mixedOrders = true) (hB:mo l.toArray p n = true) (h:∀ K:AS→Prop,(∀ s',PW P y Q s'→K s')→cL P G l.toArray (l.take n) (cC P G l.toArray (l.drop n) K) s):PW P (.seq (.region id l.toArray true) y) Q s:=
 f6 fun K hK=>dW hG p n hm hB (h K fun s' h'=>hK s' h')
end
@[congr] theorem yE {b b':Bool} {A B:Prop} (h:b = b'):pK b A B = pK b' A B:=by subst h;rfl
theorem uN {P:Program} {G:List (Nat × TI)} {ops:Array Oper} {s:AS} {K:AS→Prop} (h:K s):cC P G ops [] K s:=h
end Go.Proofs.YtphakidbddamfaaGreat
namespace Go.Proofs.YtphakidbddamfaaGreat
open Go.RowKit
def mR (q:Bool) (P:Program) (G:List (Nat × TI)) (o:Oper) (s:AS) (K:AS→Prop):Prop:=
 match q with
 |true=>eK P G o s fun v=>K (s.put o.dst v)
 |false=>nE P G o s K
def fO (q:Bool) (P:Program) (G:List (Nat × TI)) (ops:Array Oper) (o:Oper) (s:AS) (K:AS→Prop):Prop:=match o.guard with
  |none=>mR q P G o s K
  |some (j,want)=>(match yB ops s j with
   |.d (.bool b)=>pK (b == want) (mR q P G o (s.setB ops j want) K) (K ((s.setB ops j !want).put o.dst (.tup [])))
   |.tup []=>K (s.put o.dst (.tup []))
   |_=>False)
section
variable {P:Program} {G:List (Nat × TI)} {ops:Array Oper} {o:Oper} {rest:List Oper} {s:AS} {K:AS→Prop} {q:Bool}
theorem gI (h:∀ U:AS→Prop,(∀ s',cC P G ops rest K s'→U s')→fO false P G ops o s U):cC P G ops (o::rest) K s:=h (cC P G ops rest K) fun _ h=>h
theorem li (h:∀ U:AS→Prop,(∀ s',cL P G ops rest K s'→U s')→fO true P G ops o s U):cL P G ops (o::rest) K s:=h (cL P G ops rest K) fun _ h=>h
theorem aX (hg:o.guard = none) (h:mR q P G o s K):fO q P G ops o s K:=by unfold fO;rw [hg];exact h
def vM (ops:Array Oper) (o:Oper):Option (Nat × Bool):=
 match o.guard with
 |none=>none
 |some (j,want)=>(match (ops[j]?).bind (·.dst) with
  |some t=>some (t,want)
  |none=>none)
def AS.upl (s:AS) (t:Nat) (b:Bool):AS:={s with fr:=⟨s.fr.n,Go.Proofs.YtphakidbddamfaaGreat.upl s.fr.l t (.d (.bool b))⟩}
def v5 (q:Bool) (P:Program) (G:List (Nat × TI)) (o:Oper) (s:AS) (K:AS→Prop) (t:Nat) (want:Bool) (y:PV):Prop:=
 match y with
 |.d (.bool b)=>pK (b == want) (mR q P G o (s.upl t want) K) (K ((s.upl t !want).put o.dst (.tup [])))
 |.tup []=>K (s.put o.dst (.tup []))
 |_=>False
theorem aP {t:Nat} {want:Bool} (hg:vM ops o = some (t,want)) (h:v5 q P G o s K t want (lk s.fr.l t)):fO q P G ops o s K:=by
 unfold vM at hg
 split at hg
 ·cases hg
 ·rename_i j w h1
  split at hg
  ·rename_i t' h2
   cases hg
   unfold fO
   rw [h1]
   have e:yB ops s j = lk s.fr.l t:=by unfold yB;rw [h2]
   have e2:∀ b,s.setB ops j b = s.upl t b:=fun b=>by unfold AS.setB;rw [h2];rfl
   simp only [e,e2]
   exact h
  ·cases hg
class Stp (a:Prop) (b:outParam Prop):Prop where
 mp:b→a
theorem ag {a b:Prop} [i:Stp a b] (h:b):a:=i.mp h
section
variable {P:Program} {G:List (Nat × TI)} {ops:Array Oper} {s:AS} {K:AS→Prop} {Q:Exit→AS→Prop} {x y z:Code} {id:Nat}
instance:Stp (cL P G ops [] K s) (K s):=⟨fun h=>h⟩
instance:Stp (cC P G ops [] K s) (K s):=⟨uN⟩
instance:Stp (PW P (.seq (.seq x y) z) Q s) (PW P (.seq x y) (ep (PW P z Q) Q) s):=⟨cm⟩
instance:Stp (PW P (.seq (.block id x) y) Q s) (PW P x (da id (ep (PW P y Q) Q)) s):=⟨fun h=>cm (pH h)⟩
instance:Stp (PW P (.seq .skip y) Q s) (PW P y Q s):=⟨fun h=>cm (rM (ba h))⟩
instance:Stp (PW P .skip Q s) (Q .normal s):=⟨rM⟩
instance:Stp (PW P (.exit id) Q s) (Q (.exit id) s):=⟨wE⟩
instance:Stp (PW P .ret Q s) (Q .ret s):=⟨xt⟩
instance:Stp (PW P (.block id x) Q s) (PW P x (da id Q) s):=⟨pH⟩
instance:Stp (ep K Q .normal s) (K s):=⟨ba⟩
instance:Stp (ep K Q (.exit id) s) (Q (.exit id) s):=⟨sp⟩
instance:Stp (ep K Q .ret s) (Q .ret s):=⟨uG⟩
instance:Stp (da id Q (.exit id) s) (Q .normal s):=⟨bm⟩
instance:Stp (da id Q .ret s) (Q .ret s):=⟨pG⟩
instance:Stp (da id Q .normal s) (Q .normal s):=⟨bc⟩
end
@[congr] theorem yA {s':AS} (h:s = s'):mR q P G o s K = mR q P G o s' K:=by subst h;rfl
end
attribute [go_sem_proc] Nat.reduceEqDiff Nat.reduceLT Nat.reduceAdd Nat.reduceSub Nat.reduceMul Nat.reduceLeDiff
attribute [go_sem] v5 AS.upl Int.toNat_zero Nat.sub_zero nE eK uA su oS mM sv mA kR h_ ss jY o6 sS wX vb AS.setB beq_true beq_false Bool.not_true Bool.not_false List.getElem?_toArray List.getElem?_cons_zero List.getElem?_cons_succ Option.bind_some List.map_cons List.map_nil List.append_nil List.nil_append List.cons_append List.any_cons List.any_nil List.toList_toArray beq_self_eq_true true_and exists_eq_left' Option.some.injEq Int.toNat_natCast Bool.or_false Bool.false_or if_true List.length_map List.length_cons List.length_nil if_false List.all_cons List.all_nil Bool.and_true Bool.and_self List.take_succ_cons List.take_zero List.drop_zero List.drop_succ_cons List.replicate_succ List.replicate_zero Option.getD_none Option.getD_some AS.get AS.put nq yB lk rm bw upl Fr.put ae bj dH cp fJ bg eD kz jr jn ol hH ic iV ef cX dT bb eO bx sH TI.cells TI.size pD ut qi uE iy mV lm fp fO mR wipe wl bh ci gr mu e8 Nat.add_zero Nat.zero_add BEq.rfl Bool.false_eq_true
attribute [go_sem] cont dd t0 iP ce D.scB dL dE pr cy cY iQ eb f9 lA nF bh
end Go.Proofs.YtphakidbddamfaaGreat
