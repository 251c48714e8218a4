/-
  The small functions on numbers.
-/
import Derived.Test.YtphakidbddamfaaGreatProg
import Derived.Test.YtphakidbddamfaaGreatZBase
import Derived.ProofKit
import Derived.OpenShut
import Derived.ShutString
import Derived.ChangeOld
import Derived.Deep.Slices
import Derived.Deep.Fields
import Derived.WalkKit
namespace Go.Proofs.YtphakidbddamfaaGreat
open Go.RowKit
end Go.Proofs.YtphakidbddamfaaGreat
namespace Go.Proofs.YtphakidbddamfaaGreat
open Go.RowKit
def RdL {α:Type} (enc:α→List Value) (sz:Nat) (w:World) (A:Option Addr) (xss:List (List α)):Prop:=
 ∃ b off,(0 < xss.length→A = some ⟨b,off,none⟩)∧∀ (k:Nat) (xs:List α),xss[k]? = some xs→∃ A' c,w.cell? ⟨b,off + k,none⟩ = some (.slice A' xs.length c)∧RdS enc sz w A' xs
section
variable {α:Type} {enc:α→List Value} {sz:Nat} {w w':World} {A:Option Addr} {xss:List (List α)}
theorem RdL.ext (h:RdL enc sz w A xss) (hb:Below w.heap.size w w'):RdL enc sz w' A xss:=by
 obtain ⟨b,off,hA,hc⟩:=h
 exact ⟨b,off,hA,fun k xs hx=>by
  obtain ⟨A',c,h1,h2⟩:=hc k xs hx
  exact ⟨A',c,nR h1 hb,h2.ext hb⟩⟩
theorem RdL.nil_:RdL enc sz w A []:=⟨0,0,by simp,by simp⟩
theorem RdL.at_ (h:RdL enc sz w A xss) {k:Nat} (hk:k < xss.length):
  ∃ b off xs A' c,A = some ⟨b,off,none⟩∧Hid (xss[k]? = some xs)∧w.cell? ⟨b,off + k,none⟩ = some (.slice A' xs.length c)∧RdS enc sz w A' xs:=by
 obtain ⟨b,off,hA,hc⟩:=h
 obtain ⟨A',c,h1,h2⟩:=hc k _ (List.getElem?_eq_getElem hk)
 exact ⟨b,off,xss[k],A',c,hA (by omega),List.getElem?_eq_getElem hk,h1,h2⟩
end
def Sep (vs:List Value):Prop:=vs.Pairwise fun a b=>∀ g,a.ownBlock = some g→b.ownBlock≠some g
theorem Sep.ne {vs:List Value} (h:Sep vs) {i j:Nat} {a b:Value} (ha:vs[i]? = some a) (hb:vs[j]? = some b) (hij:i≠j):a.ownBlock = none∨a.ownBlock≠b.ownBlock:=by
 obtain ⟨hi,rfl⟩:=List.getElem?_eq_some_iff.1 ha
 obtain ⟨hj,rfl⟩:=List.getElem?_eq_some_iff.1 hb
 rcases Nat.lt_or_gt_of_ne hij with hlt|hlt
 ·have:=List.pairwise_iff_getElem.1 h i j hi hj hlt
  cases e:(vs[i]).ownBlock with
  |none=>exact .inl rfl
  |some g=>exact .inr (this g e).symm
 ·have:=List.pairwise_iff_getElem.1 h j i hj hi hlt
  cases e:(vs[i]).ownBlock with
  |none=>exact .inl rfl
  |some g=>exact .inr (fun e2=>this g e2.symm e)
theorem Sep.snoc {vs:List Value} {u:Value} {B:Nat} (h:Sep vs) (hold:∀ a ∈ vs,∀ g,a.ownBlock = some g→g < B) (hnew:∀ g,u.ownBlock = some g→B≤g):Sep (vs++[u]):=by
 refine List.pairwise_append.2 ⟨h,by simp,fun a ha b hb g hg=>?_⟩
 have:b = u:=by simpa using hb
 subst this
 intro e
 have h1:=hold a ha g hg
 have h2:=hnew g e
 omega
theorem OwnS.other {α:Type} {enc:α→List Value} {sz:Nat} {E EO:TypeId} {w:World} {B g i:Nat} {v u:Value} {xs:List α} {cs:List Value} (h:OwnS enc sz E w B v xs) (hr:Row w g EO cs) (hne:E≠EO):OwnS enc sz E (w.setCell ⟨g,i,none⟩ u) B v xs:=by
 rcases h.2 with hv|⟨g',cap,cur,hv,hb,hh,hc,hm,hs,ht⟩
 ·exact ⟨h.1,.inl hv⟩
 ·have hgg:g'≠g:=by
   rintro rfl
   unfold Row at hr
   rw [hh] at hr
   injection hr with hr
   injection hr with _ hE
   exact hne hE
  exact ⟨h.1,.inr ⟨g',cap,cur,hv,hb,(Below.heap_setCell w ⟨g,i,none⟩ u g' hgg).trans hh,hc,hm,hs,ht⟩⟩
theorem OwnS.kept {α:Type} {enc:α→List Value} {sz:Nat} {E:TypeId} {w w':World} {B:Nat} {v:Value} {xs:List α} {row:Option Nat} (h:OwnS enc sz E w B v xs) (hg:w.grownBy w' row) (hne:v.ownBlock = none∨v.ownBlock≠row):OwnS enc sz E w' B v xs:=World.ownsRow.kept h hg hne
def OwnL {α:Type} (enc:α→List Value) (sz:Nat) (E EO:TypeId) (w:World) (B:Nat) (v:Value) (xss:List (List α)):Prop:=
 ∃ vs:List Value,w.ownsRow B EO 1 v xss.length vs∧(∀ (k:Nat) (xs:List α),xss[k]? = some xs→∃ u,vs[k]? = some u∧OwnS enc sz E w B u xs)∧Sep vs
section
variable {α:Type} {enc:α→List Value} {sz:Nat} {E EO:TypeId} {w w':World} {B:Nat} {v:Value} {xss:List (List α)}
theorem OwnL.ext (h:OwnL enc sz E EO w B v xss) (hb:Below w.heap.size w w'):OwnL enc sz E EO w' B v xss:=by
 obtain ⟨vs,h1,h2,h3⟩:=h
 exact ⟨vs,World.ownsRow.kept (row:=none) h1 ⟨hb.os,hb.tape,hb.output,hb.size,fun k hk _=>hb.block k hk⟩ (by cases hv:v.ownBlock<;>simp),fun k xs hx=>by
  obtain ⟨u,e,h⟩:=h2 k xs hx
  exact ⟨u,e,h.ext hb⟩,h3⟩
theorem OwnL.slice (henc:∀ x,(enc x).length = sz) (h:OwnL enc sz E EO w B v xss):∃ A c,v = .slice A xss.length c∧RdL enc sz w A xss:=by
 obtain ⟨vs,h1,h2,_⟩:=h
 rcases h1.2 with ⟨rfl,hn⟩|⟨g,cap,cur,rfl,hb,hh,hc,hm,hs,ht⟩
 ·have:xss = []:=List.eq_nil_of_length_eq_zero hn
  subst this
  exact ⟨none,0,rfl,RdL.nil_⟩
 ·refine ⟨_,cap,rfl,g,0,fun _=>rfl,fun k xs hx=>?_⟩
  obtain ⟨u,hu,ho⟩:=h2 k xs hx
  obtain ⟨A',c,rfl,hr⟩:=ho.slice henc
  refine ⟨A',c,?_,hr⟩
  have hk:k < xss.length:=(List.getElem?_eq_some_iff.1 hx).1
  rw [Nat.mul_one] at ht
  rw [←ht,List.getElem?_take_of_lt hk] at hu
  simp only [World.cell?,hh,Nat.zero_add]
  simpa using hu
theorem OwnL.low {B':Nat} (h:OwnL enc sz E EO w B v xss) (hB:B'≤B):OwnL enc sz E EO w B' v xss:=by
 obtain ⟨vs,h1,h2,h3⟩:=h
 exact ⟨vs,World.ownsRow.mono h1 hB,fun k xs hx=>by
  obtain ⟨u,e,h⟩:=h2 k xs hx
  exact ⟨u,e,h.low hB⟩,h3⟩
end
def MadeL {α:Type} (enc:α→List Value) (sz:Nat) (E EO:TypeId) (B g:Nat) (xss:List (List α)) (k:Nat) (w:World):Prop:=
 ∃ cs,Row w g EO cs∧cs.length = xss.length∧(∀ (j:Nat) (xs:List α),j < k→xss[j]? = some xs→∃ u,cs[j]? = some u∧OwnS enc sz E w B u xs)∧Sep (cs.take k)
section
variable {α:Type} {enc:α→List Value} {sz:Nat} {E EO:TypeId} {w w':World} {B g:Nat} {xss:List (List α)} {k:Nat}
theorem MadeL.start {cs:List Value} (h:Row w g EO cs) (hl:cs.length = xss.length):MadeL enc sz E EO B g xss 0 w:=⟨cs,h,hl,fun _ _ h=>absurd h (by omega),by simp [Sep]⟩
theorem MadeL.row (h:MadeL enc sz E EO B g xss k w):∃ cs,Row w g EO cs∧Hid (cs.length = xss.length):=
 let ⟨cs,h1,h2,_⟩:=h
 ⟨cs,h1,h2⟩
theorem MadeL.next (h:MadeL enc sz E EO B g xss k w) (hb:Below w.heap.size w w') {u:Value} {xs:List α} (hx:xss[k]? = some xs) (ho:OwnS enc sz E w' w.heap.size u xs) (hB:B≤w.heap.size) (hne:E≠EO):
  MadeL enc sz E EO B g xss (k + 1) (w'.setCell ⟨g,k,none⟩ u):=by
 obtain ⟨cs,h1,h2,h3,h4⟩:=h
 have hk:k < xss.length:=(List.getElem?_eq_some_iff.1 hx).1
 have hr':=h1.ext hb
 refine ⟨cs.set k u,hr'.set_ k u,by simpa using h2,fun j ys hj hy=>?_,?_⟩
 ·by_cases e:j = k
  ·subst e
   rw [hx] at hy
   cases hy
   exact ⟨u,by rw [List.getElem?_set_self (by omega)],(ho.low hB).other hr' hne⟩
  ·obtain ⟨u',e1,o1⟩:=h3 j ys (by omega) hy
   exact ⟨u',by rw [List.getElem?_set_ne (by omega)];exact e1,(o1.ext hb).other hr' hne⟩
 ·have e:(cs.set k u).take (k + 1) = cs.take k++[u]:=by
   rw [List.take_succ_eq_append_getElem (by simp;omega),List.take_set_of_le (by omega)]
   simp
  rw [e]
  refine h4.snoc (B:=w.heap.size) (fun a ha gg hg=>?_) (fun gg hg=>(ho.blocks gg hg).1)
  obtain ⟨j,hj⟩:=List.getElem?_of_mem ha
  have hjk:j < k:=by
   have:=(List.getElem?_eq_some_iff.1 hj).1
   simp at this
   omega
  rw [List.getElem?_take_of_lt hjk] at hj
  obtain ⟨u',e1,o1⟩:=h3 j xss[j] hjk (List.getElem?_eq_getElem (by omega))
  rw [hj] at e1
  cases e1
  exact (o1.blocks gg hg).2
theorem MadeL.done (h:MadeL enc sz E EO B g xss xss.length w) (hB:B≤g) (hn:xss.length≤maxLen):OwnL enc sz E EO w B (.slice (some ⟨g,0,none⟩) xss.length xss.length) xss:=by
 obtain ⟨cs,h1,h2,h3,h4⟩:=h
 exact ⟨cs,h1.own hB (by omega) hn,fun k xs hx=>h3 k xs (List.getElem?_eq_some_iff.1 hx).1 hx,by rwa [List.take_of_length_le (by omega)] at h4⟩
end
def MarkL {α:Type} (enc:α→List Value) (sz:Nat) (E EO:TypeId) (w0:World) (B hi g:Nat) (vs:List Value) (xss:List (List α)) (w:World):Prop:=
 Marked B hi w0 w∧(∃ cur,w.heap[g]? = some (.cells cur EO (0,0))∧vs.length≤cur.size∧cur.toList.take vs.length = vs)∧(∀ (k:Nat) (xs:List α),xss[k]? = some xs→∃ u xs',vs[k]? = some u∧xs'.length = xs.length∧OwnS enc sz E w B u xs')∧Sep vs∧
  ∀ a ∈ vs,∀ g',a.ownBlock = some g'→g' < hi
section
variable {α:Type} {enc:α→List Value} {sz:Nat} {E EO:TypeId} {w0 w w':World} {B hi g:Nat} {vs:List Value} {xss:List (List α)}
theorem OwnL.mark {w1:World} {A:Option Addr} {n c:Nat} (h:OwnL enc sz E EO w1 B (.slice A n c) xss) (hb:Below w1.heap.size w1 w) (hn:0 < n):∃ g vs,A = some ⟨g,0,none⟩∧n = xss.length∧MarkL enc sz E EO w B w1.heap.size g vs xss w:=by
 obtain ⟨vs,h1,h2,h3⟩:=h
 rcases h1.2 with ⟨hv,_⟩|⟨g,cap,cur,hv,hbg,hh,hc,hm,hs,ht⟩
 ·cases hv;omega
 ·have hl:=h1.1
  rw [Nat.mul_one] at hl ht
  cases hv
  have hgl:g < w1.heap.size:=Row.lt (cs:=cur.toList) hh
  refine ⟨g,vs,rfl,rfl,Marked.refl _ _ _,⟨cur,(hb.block g hgl).trans hh,by rw [hl];omega,by rw [hl];exact ht⟩,fun k xs hx=>?_,h3,fun a ha g' hg'=>?_⟩
  ·obtain ⟨u,e,o⟩:=h2 k xs hx
   exact ⟨u,xs,e,rfl,o.ext hb⟩
  ·obtain ⟨k,hk⟩:=List.getElem?_of_mem ha
   have hkl:k < xss.length:=by rw [←hl];exact (List.getElem?_eq_some_iff.1 hk).1
   obtain ⟨u,e,o⟩:=h2 k xss[k] (List.getElem?_eq_getElem hkl)
   rw [hk] at e
   cases e
   exact (o.blocks g' hg').2
theorem MarkL.at_ (h:MarkL enc sz E EO w0 B hi g vs xss w) {k:Nat} (hk:k < xss.length):∃ xs u xs',Hid (xss[k]? = some xs)∧Hid (vs[k]? = some u)∧Hid (xs'.length = xs.length)∧w.cell? ⟨g,k,none⟩ = some u∧OwnS enc sz E w B u xs':=by
 obtain ⟨_,⟨cur,hh,hc,ht⟩,h3,_⟩:=h
 obtain ⟨u,xs',hu,hl,ho⟩:=h3 k xss[k] (List.getElem?_eq_getElem hk)
 refine ⟨xss[k],u,xs',List.getElem?_eq_getElem hk,hu,hl,?_,ho⟩
 have hkv:k < vs.length:=(List.getElem?_eq_some_iff.1 hu).1
 rw [←ht,List.getElem?_take_of_lt hkv] at hu
 simp only [World.cell?,hh]
 simpa using hu
theorem MarkL.next (h:MarkL enc sz E EO w0 B hi g vs xss w) (hne:E≠EO) {k:Nat} {u:Value} {xs zs:List α} (hu:vs[k]? = some u) (hx:xss[k]? = some xs) (hl:zs.length = xs.length) (ho:OwnS enc sz E w B u zs) {ys:List α} (hy:ys.length = zs.length) (ho':OwnS enc sz E w' B u ys) (hg:w.grownBy w' u.ownBlock):MarkL enc sz E EO w0 B hi g vs xss w':=by
 obtain ⟨h1,⟨cur,hh,hc,ht⟩,h3,h4,h5⟩:=h
 refine ⟨h1.trans (Marked.of_grown hg fun g' e=>⟨(ho.blocks g' e).1,h5 u (List.mem_of_getElem? hu) g' e⟩),⟨cur,?_,hc,ht⟩,fun j zs' hz=>?_,h4,h5⟩
 ·have hgl:g < w.heap.size:=Row.lt (cs:=cur.toList) hh
  refine (hg.block g hgl fun e=>?_).trans hh
  rcases ho.2 with ⟨hv,_⟩|⟨g',cap,cur',hv,_,hh',_⟩
  ·rw [hv] at e;simp [Value.ownBlock] at e
  ·rw [hv] at e
   have:g = g':=by simpa [Value.ownBlock] using e
   subst this
   rw [hh] at hh'
   injection hh' with hh'
   injection hh' with _ hE
   exact hne hE.symm
 ·obtain ⟨u',xs',e1,l1,o1⟩:=h3 j zs' hz
  by_cases e:j = k
  ·subst e
   rw [hx] at hz
   cases hz
   exact ⟨u,ys,hu,by omega,ho'⟩
  ·exact ⟨u',xs',e1,l1,o1.kept hg (h4.ne e1 hu e)⟩
end
end Go.Proofs.YtphakidbddamfaaGreat
namespace Go.Proofs.YtphakidbddamfaaGreat
open Go.RowKit
def yW (x:Int):List Value:=[.int .i64 x]
theorem RdS.int {w:World} {A:Option Addr} {xs:List Int} (h:RdS yW 1 w A xs) {k:Nat} (hk:k < xs.length):
  ∃ b off x,A = some ⟨b,off,none⟩∧Hid (xs[k]? = some x)∧w.cell? ⟨b,off + k,none⟩ = some (.int .i64 x):=by
 obtain ⟨b,off,x,hA,hx,hc⟩:=h.elem hk
 exact ⟨b,off,x,hA,hx,by simpa using hc 0 _ rfl⟩
end Go.Proofs.YtphakidbddamfaaGreat
namespace Go.Proofs.YtphakidbddamfaaGreat
open Go.ChangeShapes Go.WideShapes Go.ChangeAt Go.RowKit Go.Deep
theorem lj {α:Type} {p:Nat→α→Prop}:∀ n:Nat,(∀ i,i < n→∃ x,p i x)→∃ xs:List α,xs.length = n∧∀ i x,xs[i]? = some x→p i x
 |0,_=>⟨[],rfl,fun i x h=>by simp at h⟩
 |n + 1,h=>by
  obtain ⟨xs,hl,hx⟩:=lj n fun i hi=>h i (by omega)
  obtain ⟨x,hp⟩:=h n (by omega)
  refine ⟨xs++[x],by simp [hl],fun i y hi=>?_⟩
  rcases Nat.lt_or_ge i xs.length with hlt|hge
  ·rw [List.getElem?_append_left hlt] at hi
   exact hx i y hi
  ·rw [List.getElem?_append_right hge] at hi
   have e:i = n:=by
    rcases Nat.lt_or_ge (i - xs.length) 1 with h1|h1
    ·omega
    ·rw [List.getElem?_eq_none (by simpa using h1)] at hi;cases hi
   subst e
   rw [hl,Nat.sub_self] at hi
   have:x = y:=by simpa using hi
   subst this
   exact hp
section
variable {H:Type} {enc:TypeId × Value→H} {P:Program} {w:World} {base:Nat} {spare:Nat→Bool} {held:Bool}
end
theorem py {H:Type} {enc:TypeId × Value→H} {P:Program} {w:World} {t:TypeId} {v:Value} {d:DataW H} {p:List MemPlace} (h:DataW.Trod enc P w 0 (fun _=>true) true t v d p):∀ x ∈ p,x.block < w.heap.size:=by
 obtain ⟨m,hm⟩:=h
 exact DataW.trod_lt m _ _ _ hm
end Go.Proofs.YtphakidbddamfaaGreat
namespace Go.Proofs.YtphakidbddamfaaGreat
def sn:Nat:=0
def xl (_:World):Prop:=True
theorem ve {w w':World} (_:∀ b,b < sn→w'.heap[b]? = w.heap[b]?) (_:xl w):xl w':=trivial
def DrLe (w w':World):Prop:=w.drawn≤w'.drawn
theorem DrLe.of_le {w w':World} (h:w.drawn≤w'.drawn):DrLe w w':=h
theorem DrLe.trans {a b c:World} (h:DrLe a b) (k:DrLe b c):DrLe a c:=Nat.le_trans h k
theorem DrLe.refl (w:World):DrLe w w:=.of_le (Nat.le_refl _)
theorem DrLe.drew {a w:World} (h:DrLe a w):DrLe a w.drew:=h.trans (.of_le (Nat.le_succ _))
theorem DrLe.alloc {a w:World} (h:DrLe a w) (o:Obj):DrLe a (w.alloc o):=h.trans (.of_le (Nat.le_refl _))
def GL (w:World):Prop:=sn≤w.heap.size∧xl w
theorem GL.keep {w w':World} (h:GL w) (hs:w.heap.size≤w'.heap.size) (hb:∀ b,b < sn→w'.heap[b]? = w.heap[b]?):GL w':=⟨Nat.le_trans h.1 hs,ve hb h.2⟩
theorem xH (w:World):GL w:=⟨Nat.zero_le _,trivial⟩
end Go.Proofs.YtphakidbddamfaaGreat
