/-
  Words for memory that all the texts of this seat share: slices that are read, rows that the call made, answers that are one bool. No program is named here.
-/
import Derived.WalkKit
import Derived.WalkSpells
import Derived.WalkLawsBesides
import Derived.Lib.Hide
import Derived.Laws.OwnMore
import Derived.Laws.MakeOwn
import Derived.Laws.Rows
import Derived.Deep.AppendLies
import Derived.Deep.Draws
import Derived.Deep.Onto
import Derived.StillTail
import Derived.BigQuiet
namespace Go.Proofs.YtphakidbddamfaaGreat
open Go.RowKit
theorem rP {w:World} {a:Addr} {v:Value} (h:w.cell? a = some v):a.block < w.heap.size:=by
 unfold World.cell? at h
 rcases Nat.lt_or_ge a.block w.heap.size with hlt|hge
 ·exact hlt
 ·rw [Array.getElem?_eq_none hge] at h;cases h
theorem nU {W w1:World} {a:Addr} {v:Value} (h:W.cell? a = some v) (hb:Below W.heap.size W w1):w1.cell? a = some v:=(hb.cell (rP h)).trans h
def RdS {α:Type} (enc:α→List Value) (sz:Nat) (w:World) (A:Option Addr) (xs:List α):Prop:=
 ∃ b off,(0 < xs.length→A = some ⟨b,off,none⟩)∧∀ k x,xs[k]? = some x→∀ j u,(enc x)[j]? = some u→w.cell? ⟨b,off + k * sz + j,none⟩ = some u
section
variable {α:Type} {enc:α→List Value} {sz:Nat} {w w':World} {A:Option Addr} {xs:List α}
theorem RdS.keep (h:RdS enc sz w A xs) (hk:∀ p:Addr,p.block < w.heap.size→w'.cell? p = w.cell? p):RdS enc sz w' A xs:=by
 obtain ⟨b,off,hA,hc⟩:=h
 exact ⟨b,off,hA,fun k x hx j u hu=>(hk _ (rP (hc k x hx j u hu))).trans (hc k x hx j u hu)⟩
theorem RdS.ext (h:RdS enc sz w A xs) (hb:Below w.heap.size w w'):RdS enc sz w' A xs:=h.keep fun _ hp=>hb.cell hp
theorem RdS.alloc (h:RdS enc sz w A xs) (o:Obj):RdS enc sz (w.alloc o) A xs:=h.keep fun p hp=>World.cell?_alloc_lt w o p hp
theorem RdS.drew (h:RdS enc sz w A xs):RdS enc sz w.drew A xs:=h
theorem RdS.nil_:RdS enc sz w A []:=⟨0,0,by simp,by simp⟩
theorem RdS.elem (h:RdS enc sz w A xs) {k:Nat} (hk:k < xs.length):∃ b off x,A = some ⟨b,off,none⟩∧xs[k]? = some x∧∀ j u,(enc x)[j]? = some u→w.cell? ⟨b,off + k * sz + j,none⟩ = some u:=by
 obtain ⟨b,off,hA,hc⟩:=h
 exact ⟨b,off,xs[k],hA (by omega),List.getElem?_eq_getElem hk,hc k _ (List.getElem?_eq_getElem hk)⟩
end
theorem ma {α:Type} {enc:α→List Value} {sz:Nat} (henc:∀ x,(enc x).length = sz):∀ xs:List α,(xs.flatMap enc).length = xs.length * sz
 |[]=>by simp
 |x::xs=>by rw [List.flatMap_cons,List.length_append,henc,ma henc xs,List.length_cons,Nat.succ_mul,Nat.add_comm]
theorem qq {α:Type} {enc:α→List Value} {sz:Nat} (henc:∀ x,(enc x).length = sz):∀ (xs:List α) (k:Nat) (x:α),xs[k]? = some x→∀ j u,(enc x)[j]? = some u→(xs.flatMap enc)[k * sz + j]? = some u
 |[],k,x,h,_,_,_=>by simp at h
 |y::xs,0,x,h,j,u,hu=>by
  have:y = x:=by simpa using h
  subst this
  have hj:j < (enc y).length:=(List.getElem?_eq_some_iff.1 hu).1
  rw [List.flatMap_cons,Nat.zero_mul,Nat.zero_add,List.getElem?_append_left hj]
  exact hu
 |y::xs,k + 1,x,h,j,u,hu=>by
  have h':xs[k]? = some x:=by simpa using h
  rw [List.flatMap_cons,List.getElem?_append_right (by rw [henc,Nat.succ_mul];omega),henc]
  have e:(k + 1) * sz + j - sz = k * sz + j:=by rw [Nat.succ_mul];omega
  rw [e]
  exact qq henc xs k x h' j u hu
theorem RdS.of_own {α:Type} {enc:α→List Value} {sz:Nat} {w:World} {base:Nat} {e:TypeId} {A:Option Addr} {n c:Nat} {xs:List α} (henc:∀ x,(enc x).length = sz)
  (h:w.ownsRow base e sz (.slice A n c) n (xs.flatMap enc)) (hn:xs.length = n):RdS enc sz w A xs:=by
 rcases h.2 with ⟨hv,hn0⟩|⟨g,cap,cur,hv,hb,hh,hc,hm,hs,ht⟩
 ·have:xs = []:=List.eq_nil_of_length_eq_zero (by omega)
  subst this
  exact RdS.nil_
 ·injection hv with hA _ _
  subst hA
  refine ⟨g,0,fun _=>rfl,fun k x hx j u hu=>?_⟩
  have hf:=qq henc xs k x hx j u hu
  have hl:k * sz + j < n * sz:=by
   have:=(List.getElem?_eq_some_iff.1 hf).1
   rw [ma henc,hn] at this
   exact this
  rw [←ht,List.getElem?_take_of_lt hl] at hf
  simp only [World.cell?,hh,Nat.zero_add]
  simpa using hf
def Row (w:World) (g:Nat) (E:TypeId) (cs:List Value):Prop:=w.heap[g]? = some (.cells cs.toArray E (0,0))
section
variable {w w':World} {g:Nat} {E:TypeId} {cs:List Value}
theorem Row.lt (h:Row w g E cs):g < w.heap.size:=by
 rcases Nat.lt_or_ge g w.heap.size with hlt|hge
 ·exact hlt
 ·unfold Row at h;rw [Array.getElem?_eq_none hge] at h;cases h
theorem Row.cell (h:Row w g E cs) (i:Nat):w.cell? ⟨g,i,none⟩ = cs[i]?:=by
 unfold Row at h
 simp [World.cell?,h]
theorem Row.new (w:World) (E:TypeId) (cs:Array Value):Row (w.alloc (.cells cs E)) w.heap.size E cs.toList:=by
 unfold Row
 exact heap_alloc_new w _
theorem Row.ext (h:Row w g E cs) (hb:Below w.heap.size w w'):Row w' g E cs:=(hb.block g h.lt).trans h
theorem Row.alloc (h:Row w g E cs) (o:Obj):Row (w.alloc o) g E cs:=(Below.heap_alloc w o g h.lt).trans h
theorem Row.set_ (h:Row w g E cs) (i:Nat) (u:Value):Row (w.setCell ⟨g,i,none⟩ u) g E (cs.set i u):=by
 unfold Row at h ⊢
 simp [World.setCell,Array.getElem?_modify,h]
theorem Row.own (h:Row w g E cs) {B sz n:Nat} (hB:B≤g) (hl:cs.length = n * sz) (hn:n≤maxLen):w.ownsRow B E sz (.slice (some ⟨g,0,none⟩) n n) n cs:=
 ⟨hl,.inr ⟨g,n,cs.toArray,rfl,hB,h,Nat.le_refl _,hn,by simpa using hl,by rw [←hl];simp⟩⟩
end
def j0:List Value→Nat→List Value→List Value
 |cs,_,[]=>cs
 |cs,off,u::us=>j0 (cs.set off u) (off + 1) us
def u7 (g:Nat):World→Nat→List Value→World
 |w,_,[]=>w
 |w,off,u::us=>u7 g (w.setCell ⟨g,off,none⟩ u) (off + 1) us
theorem qm:∀ (us:List Value) (cs:List Value) (off:Nat),(j0 cs off us).length = cs.length
 |[],_,_=>rfl
 |u::us,cs,off=>by rw [j0,qm us];simp
theorem Row.put {g:Nat} {E:TypeId}:∀ (us:List Value) {w:World} {cs:List Value} (off:Nat),Row w g E cs→Row (u7 g w off us) g E (j0 cs off us)
 |[],_,_,_,h=>h
 |u::us,_,_,off,h=>Row.put us (off + 1) (h.set_ off u)
theorem n8:∀ (us:List Value) (cs:List Value) (off:Nat),off + us.length≤cs.length→(j0 cs off us).take (off + us.length) = cs.take off++us
 |[],cs,off,_=>by simp [j0]
 |u::us,cs,off,h=>by
  simp only [List.length_cons] at h
  have e:off + (u::us).length = off + 1 + us.length:=by simp only [List.length_cons];omega
  rw [e,j0,n8 us _ (off + 1) (by simp only [List.length_set];omega)]
  rw [List.take_succ_eq_append_getElem (by simp only [List.length_set];omega),List.take_set_of_le (by omega)]
  simp
def OwnS {α:Type} (enc:α→List Value) (sz:Nat) (E:TypeId) (w:World) (B:Nat) (v:Value) (xs:List α):Prop:=w.ownsRow B E sz v xs.length (xs.flatMap enc)
section
variable {α:Type} {enc:α→List Value} {sz:Nat} {E:TypeId} {w w':World} {B:Nat} {v:Value} {xs:List α}
theorem OwnS.slice (henc:∀ x,(enc x).length = sz) (h:OwnS enc sz E w B v xs):∃ A c,v = .slice A xs.length c∧RdS enc sz w A xs:=by
 rcases h.2 with ⟨rfl,hn⟩|⟨g,cap,cur,rfl,_⟩
 ·exact ⟨none,0,by rw [hn],RdS.of_own (n:=0) (c:=0) henc (by unfold OwnS at h;rw [hn] at h;exact h) hn⟩
 ·exact ⟨_,cap,rfl,RdS.of_own henc h rfl⟩
theorem OwnS.rd {A:Option Addr} {n c:Nat} (h:OwnS enc sz E w B (.slice A n c) xs) (henc:∀ x,(enc x).length = sz):RdS enc sz w A xs:=by
 obtain ⟨A',c',hv,hr⟩:=h.slice henc
 injection hv with e _ _
 rw [e]
 exact hr
theorem OwnS.blocks (h:OwnS enc sz E w B v xs):∀ g,v.ownBlock = some g→B≤g∧g < w.heap.size:=World.ownsRow.lt h
theorem OwnS.ext (h:OwnS enc sz E w B v xs) (hb:Below w.heap.size w w'):OwnS enc sz E w' B v xs:=
 World.ownsRow.kept (row:=none) h ⟨hb.os,hb.tape,hb.output,hb.size,fun k hk _=>hb.block k hk⟩ (by cases hv:v.ownBlock<;>simp)
theorem OwnS.nil_:OwnS enc sz E w B (.slice none 0 0) ([]:List α):=⟨by simp,.inl ⟨rfl,rfl⟩⟩
theorem OwnS.low {B':Nat} (h:OwnS enc sz E w B v xs) (hB:B'≤B):OwnS enc sz E w B' v xs:=World.ownsRow.mono h hB
end
theorem OwnS.alloc {α:Type} {enc:α→List Value} {sz:Nat} {E:TypeId} {w:World} {B:Nat} {v:Value} {xs:List α} (h:OwnS enc sz E w B v xs) (o:Obj):OwnS enc sz E (w.alloc o) B v xs:=World.ownsRow.alloc h o
theorem OwnS.drew {α:Type} {enc:α→List Value} {sz:Nat} {E:TypeId} {w:World} {B:Nat} {v:Value} {xs:List α} (h:OwnS enc sz E w B v xs):OwnS enc sz E w.drew B v xs:=h
theorem OwnS.empty {α:Type} {enc:α→List Value} {sz:Nat} {E:TypeId} {w:World} {B:Nat} (hB:B≤w.heap.size):OwnS enc sz E (w.alloc (.cells #[] E)) B (.slice (some ⟨w.heap.size,0,none⟩) 0 0) ([]:List α):=
 ⟨by simp,.inr ⟨w.heap.size,0,#[],rfl,hB,heap_alloc_new w _,Nat.le_refl _,by simp [maxLen],by simp,by simp⟩⟩
theorem run_append_nil {P:Program} (w:World) (B:Nat) (t ty E:TypeId) (i:TypeInfo) (sz:Nat) (ht:P.underlying t = some (.slice E)) (hi:P.info? E = some i)
  (v:Value) (n:Nat) (xs:List Value) (hown:w.ownsRow B E sz v n xs) (c:Nat):(Builtin.append_ #[t,t] ty #[v,.slice none 0 c]).run P w = .ok v w:=by
 rcases hown.2 with ⟨rfl,rfl⟩|⟨g,cap,cur,rfl,_,_,hnc,_⟩
 ·simp [Builtin.append_,run_underlying ht,sizeOf,typeInfo,hi,Builtin.lenOf,Builtin.firstCells]
 ·simp [Builtin.append_,run_underlying ht,sizeOf,typeInfo,hi,Builtin.lenOf,Builtin.firstCells,hnc,storeCells]
theorem RdS.sub {α:Type} {enc:α→List Value} {sz:Nat} {w:World} {A:Option Addr} {xs:List α} (h:RdS enc sz w A xs) {lo hi:Nat} (hhi:hi≤xs.length) {A':Option Addr} (hA':∀ b off,A = some ⟨b,off,none⟩→lo < hi→A' = some ⟨b,off + lo * sz,none⟩):
  RdS enc sz w A' ((xs.take hi).drop lo):=by
 obtain ⟨b,off,hA,hc⟩:=h
 refine ⟨b,off + lo * sz,fun hl=>?_,fun k x hx j u hu=>?_⟩
 ·simp at hl
  exact hA' b off (hA (by omega)) (by omega)
 ·rw [List.getElem?_drop,List.getElem?_take] at hx
  split at hx
  ·have:=hc _ x hx j u hu
   rw [Nat.add_mul] at this
   rwa [show off + lo * sz + k * sz + j = off + (lo * sz + k * sz) + j by omega]
  ·cases hx
theorem OwnS.cap {α:Type} {enc:α→List Value} {sz:Nat} {E:TypeId} {w:World} {B:Nat} {A:Option Addr} {n c:Nat} {xs:List α} (h:OwnS enc sz E w B (.slice A n c) xs):n≤c:=by
 rcases h.2 with ⟨hv,_⟩|⟨g,cap,cur,hv,_,_,hc,_⟩
 ·cases hv;exact Nat.le_refl _
 ·cases hv;exact hc
theorem RdS.to_ {α:Type} {enc:α→List Value} {sz:Nat} {w:World} {A:Option Addr} {xs:List α} (h:RdS enc sz w A xs) {m:Nat} (hm:m≤xs.length):RdS enc sz w A (xs.take m):=by
 have:=h.sub (lo:=0) (hi:=m) hm (A':=A) (fun b off e _=>by rw [e];simp)
 simpa using this
theorem bW {α:Type} {xs:List α} {k:Nat} {x:α} (h:xs[k]? = some x):xs.take (k + 1) = xs.take k++[x]:=by
 obtain ⟨hk,rfl⟩:=List.getElem?_eq_some_iff.1 h
 rw [List.take_succ_eq_append_getElem hk]
def Made3 {α:Type} (g:Nat) (E:TypeId) (sz:Nat) (enc:α→List Value) (xs:List α) (N k:Nat) (w:World):Prop:=
 ∃ cs,Row w g E cs∧cs.length = N * sz∧cs.take (k * sz) = (xs.take k).flatMap enc
section
variable {α:Type} {g:Nat} {E:TypeId} {sz:Nat} {enc:α→List Value} {xs:List α} {N k:Nat} {w w':World}
theorem Made3.row (h:Made3 g E sz enc xs N k w):∃ cs,Row w g E cs∧Hid (cs.length = N * sz):=
 let ⟨cs,h1,h2,_⟩:=h
 ⟨cs,h1,h2⟩
theorem Made3.lt (h:Made3 g E sz enc xs N k w):g < w.heap.size:=
 let ⟨_,h1,_⟩:=h
 h1.lt
theorem Made3.ext (h:Made3 g E sz enc xs N k w) (hb:Below w.heap.size w w'):Made3 g E sz enc xs N k w':=
 let ⟨cs,h1,h2,h3⟩:=h
 ⟨cs,h1.ext hb,h2,h3⟩
theorem Made3.start {cs:List Value} (h:Row w g E cs) (hl:cs.length = N * sz):Made3 g E sz enc xs N 0 w:=⟨cs,h,hl,by simp⟩
theorem Made3.next (henc:∀ x,(enc x).length = sz) (h:Made3 g E sz enc xs N k w) {x:α} (hx:xs[k]? = some x) (hN:xs.length≤N):Made3 g E sz enc xs N (k + 1) (u7 g w (k * sz) (enc x)):=by
 obtain ⟨cs,hr,hl,ht⟩:=h
 have hk:k < xs.length:=(List.getElem?_eq_some_iff.1 hx).1
 have hle:(k + 1) * sz≤N * sz:=Nat.mul_le_mul_right sz (by omega)
 refine ⟨j0 cs (k * sz) (enc x),Row.put _ _ hr,by rw [qm,hl],?_⟩
 have e:(k + 1) * sz = k * sz + (enc x).length:=by rw [henc,Nat.succ_mul]
 rw [e,n8 _ _ _ (by rw [hl,←e];exact hle),ht,bW hx]
 simp
theorem Made3.done (henc:∀ x,(enc x).length = sz) {B:Nat} (h:Made3 g E sz enc xs N xs.length w) (hB:B≤g) (hN:xs.length≤N) (hm:N≤maxLen):OwnS enc sz E w B (.slice (some ⟨g,0,none⟩) xs.length N) xs:=by
 obtain ⟨cs,hr,hl,ht⟩:=h
 rw [List.take_length] at ht
 exact ⟨ma henc xs,.inr ⟨g,N,cs.toArray,rfl,hB,hr,hN,hm,by simpa using hl,by simpa using ht⟩⟩
end
theorem OwnS.zero {α β:Type} {enc:α→List Value} {enc':β→List Value} {sz:Nat} {E:TypeId} {w:World} {B:Nat} {A:Option Addr} {c:Nat} {xs:List α} (h:OwnS enc sz E w B (.slice A 0 c) xs):OwnS enc' sz E w B (.slice A 0 c) ([]:List β):=by
 refine ⟨by simp,?_⟩
 rcases h.2 with hv|⟨g,cap,cur,hv,hb,hh,hc,hm,hs,ht⟩
 ·exact .inl ⟨hv.1,rfl⟩
 ·injection hv with e1 e2 e3
  subst e1 e3
  exact .inr ⟨g,c,cur,rfl,hb,hh,Nat.zero_le _,hm,hs,by simp⟩
structure Marked (lo hi:Nat) (w w':World):Prop where
 os:w'.os = w.os
 tape:w'.tape = w.tape
 output:w'.output = w.output
 size:w.heap.size≤w'.heap.size
 block:∀ k,k < w.heap.size→(k < lo∨hi≤k)→w'.heap[k]? = w.heap[k]?
section
variable {lo hi:Nat} {w w1 w2:World}
theorem Marked.refl (lo hi:Nat) (w:World):Marked lo hi w w:=⟨rfl,rfl,rfl,Nat.le_refl _,fun _ _ _=>rfl⟩
theorem Marked.trans (h:Marked lo hi w w1) (k:Marked lo hi w1 w2):Marked lo hi w w2:=
 ⟨k.os.trans h.os,k.tape.trans h.tape,k.output.trans h.output,Nat.le_trans h.size k.size,fun i hi' ho=>(k.block i (Nat.lt_of_lt_of_le hi' h.size) ho).trans (h.block i hi' ho)⟩
theorem Marked.of_grown {row:Option Nat} (h:w.grownBy w1 row) (hr:∀ g,row = some g→lo≤g∧g < hi):Marked lo hi w w1:=
 ⟨h.os,h.tape,h.output,h.size,fun k hk ho=>h.block k hk (fun e=>by have:=hr k e.symm;omega)⟩
theorem Marked.of_below (h:Below w.heap.size w w1):Marked lo hi w w1:=⟨h.os,h.tape,h.output,h.size,fun k hk _=>h.block k hk⟩
theorem Marked.below {B:Nat} (h:Marked lo hi w w1) (hB:B≤lo) (hs:B≤w.heap.size):Below B w w1:=⟨h.os,h.tape,h.output,h.size,fun k hk=>h.block k (by omega) (.inl (by omega))⟩
theorem Marked.row {g:Nat} {E:TypeId} {cs:List Value} (h:Marked lo hi w w1) (hr:Row w g E cs) (ho:g < lo∨hi≤g):Row w1 g E cs:=(h.block g hr.lt ho).trans hr
theorem Marked.own {α:Type} {enc:α→List Value} {sz:Nat} {E:TypeId} {B:Nat} {v:Value} {xs:List α} (h:Marked lo hi w w1) (ho:OwnS enc sz E w B v xs) (hB:hi≤B):OwnS enc sz E w1 B v xs:=by
 rcases ho.2 with hv|⟨g,cap,cur,hv,hb,hh,hc,hm,hs,ht⟩
 ·exact ⟨ho.1,.inl hv⟩
 ·have hlt:g < w.heap.size:=Row.lt (cs:=cur.toList) hh
  exact ⟨ho.1,.inr ⟨g,cap,cur,hv,hb,(h.block g hlt (.inr (by omega))).trans hh,hc,hm,hs,ht⟩⟩
end
def Opt {β:Type} (V:Prop) (F:β) (r:Option β):Prop:=(V∧r = some F)∨(¬ V∧r = none)
theorem Opt.ex {β:Type} (V:Prop) (F:β):∃ r,Opt V F r:=by
 by_cases h:V
 ·exact ⟨_,.inl ⟨h,rfl⟩⟩
 ·exact ⟨_,.inr ⟨h,rfl⟩⟩
end Go.Proofs.YtphakidbddamfaaGreat
namespace Go.Proofs.YtphakidbddamfaaGreat
open Go.RowKit
def Later (w:World):Type:={w':World // Below w.heap.size w w'}
def Later.w {w:World} (i:Later w):World:=i.1
theorem Later.below {w:World} (i:Later w):Below w.heap.size w i.w:=i.2
theorem Later.ne (w:World):Nonempty (Later w):=⟨⟨w,Below.refl _ _⟩⟩
theorem Later.cell {w:World} {a:Addr} {v:Value} (h:w.cell? a = some v) (i:Later w):i.w.cell? a = some v:=nU h i.below
section
variable {P:Program} {ops:Array Oper} {md:Region.Mode} {C:World→Prop}
def iX (P:Program) (md:Region.Mode) (ops:Array Oper) (C:World→Prop) (n:Nat) (L:Array Bool→Act→Prop):Nat→Array Bool→Act→Prop
 |0,listed,a=>L listed a
 |f + 1,listed,a=>Region.ready md ops listed≠[]∧∀ i ∈ Region.ready md ops listed,i < n∧qOp P ops C i (iX P md ops C n L f (listed.setIfInBounds i true)) a
theorem ls {n g:Nat} {L:Array Bool→Act→Prop} {Q':Exit→Act→World→Prop} (hL:∀ listed a w,C w→L listed a→wpAny P md ops Q' g listed a w):
  ∀ (f:Nat) (listed:Array Bool) (a:Act) (w:World),C w→iX P md ops C n L f listed a→wpAny P md ops Q' (f + g) listed a w
 |0,listed,a,w,hC,h=>by rw [Nat.zero_add];exact hL _ _ _ hC h
 |f + 1,listed,a,w,hC,h=>by
  rw [show f + 1 + g = (f + g) + 1 by omega]
  exact ⟨fun h0=>absurd h0 h.1,fun i hi=>wpOp_of_qOp hC (fun a' w' hC' h'=>ls hL f _ a' w' hC' h') (h.2 i hi).2⟩
def jL (md:Region.Mode) (ops:Array Oper) (p n:Nat):Bool:=
 (List.range n).all fun i=>decide (i < p) || (List.range (n + 1)).any fun j=>decide (i < j) && Region.waitsFor md ops j i
def Taken (p:Nat) (listed:Array Bool):Prop:=∀ i,i < p→listed.getD i false = true
theorem Taken.set {p:Nat} {listed:Array Bool} (h:Taken p listed) (j:Nat):Taken p (listed.setIfInBounds j true):=fun i hi=>getD_set_true (h i hi)
theorem mj {p n:Nat} {listed:Array Bool} (hs:jL md ops p n = true) (hc:Region.chainB md ops n = true) (hn:n < ops.size) (inv:HeadInv md ops n listed) (hp:Taken p listed):
  ∀ (d i:Nat),n - i = d→i < n→listed.getD i true = false→∀ t,n≤t→t ∉ Region.ready md ops listed:=by
 intro d
 induction d using Nat.strongRecOn with
 |_ d ih=>
  intro i hd hi hun t ht hr
  obtain ⟨_,ot,hot,hall⟩:=mem_ready.1 hr
  have htlt:t < ops.size:=(Array.getElem?_eq_some_iff.1 hot).1
  by_cases htn:t = n
  ·subst htn
   have h1:=List.all_eq_true.1 hs i (List.mem_range.2 hi)
   simp only [Bool.or_eq_true,decide_eq_true_eq] at h1
   rcases h1 with h1|h1
   ·have h2:=hp i h1
    rw [getD_both hun] at h2
    cases h2
   obtain ⟨j,hj,hj2⟩:=List.any_eq_true.1 h1
   simp only [Bool.and_eq_true,decide_eq_true_eq] at hj2
   obtain ⟨oj,hoj,e,he,hb,hon⟩:=Region.waitsFor_spec hj2.2
   have hjle:j≤t:=by have:=List.mem_range.1 hj;omega
   by_cases hjt:j = t
   ·subst hjt
    have:oj = ot:=Option.some.inj (hoj.symm.trans hot)
    subst this
    have h2:=hall e he hb
    rw [hon,getD_both hun] at h2
    cases h2
   ·cases hl:listed.getD j false with
    |true=>
     have h2:=inv.closed j oj hoj hl e he hb
     rw [hon,getD_both hun] at h2
     cases h2
    |false=>
     have hjs:j < listed.size:=by rw [inv.size];omega
     exact ih (t - j) (by omega) j rfl (by omega) (getD_in hjs hl) t (Nat.le_refl _) hr
  ·have h1:=List.all_eq_true.1 hc t (List.mem_range.2 htlt)
   simp only [Bool.or_eq_true,decide_eq_true_eq] at h1
   rcases h1 with h1|h1
   ·omega
   ·obtain ⟨o',ho',e,he,hb,hon⟩:=Region.waitsFor_spec h1
    have:o' = ot:=Option.some.inj (ho'.symm.trans hot)
    subst this
    have h2:=hall e he hb
    rw [hon,getD_both (inv.tail (t - 1) (by omega) (by omega))] at h2
    cases h2
theorem sy {p n i:Nat} {oi:Oper} {v:Value} {L:Array Bool→Act→Prop} (hi:ops[i]? = some oi) (hsel:∀ (j:Nat) (o:Oper) cs b,ops[j]? = some o→o.op≠.select cs b)
  (hs:jL md ops p n = true) (hc:Region.chainB md ops n = true) (hn:n < ops.size) (hin:i < n)
  (hdone:∀ listed a,L listed a→∀ j ∈ Region.ready md ops listed,n≤j):
  ∀ (f:Nat) (listed:Array Bool) (a:Act),HeadInv md ops n listed→Taken p listed→
   (∀ j oj,ops[j]? = some oj→j≠i→listed.getD j true = false→(∀ e ∈ oj.after,Region.binds md e = true→e.on≠i)→oi.apart ops oj = true)→
   i ∈ Region.ready md ops listed→YieldsIn P ops C oi v a→
   iX P md ops C n L f (listed.setIfInBounds i true) (a.put oi.dst v)→iX P md ops C n L (f + 1) listed a:=by
 intro f
 induction f with
 |zero=>
  intro listed a inv hp _ hr hy H
  have hun:=(mem_ready.1 hr).1
  refine ⟨fun h=>(by rw [h] at hr;cases hr),fun j hj=>?_⟩
  have hjn:j < n:=Nat.lt_of_not_le fun h=>mj hs hc hn inv hp _ i rfl hin hun j h hj
  refine ⟨hjn,?_⟩
  by_cases hji:j = i
  ·subst hji;exact hy.qOp hi H
  ·have:=hdone _ _ H j (ready_mono hj hji)
   omega
 |succ f ih=>
  intro listed a inv hp hfree hr hy H
  have hun:=(mem_ready.1 hr).1
  refine ⟨fun h=>(by rw [h] at hr;cases hr),fun j hj=>?_⟩
  have hjn:j < n:=Nat.lt_of_not_le fun h=>mj hs hc hn inv hp _ i rfl hin hun j h hj
  refine ⟨hjn,?_⟩
  by_cases hji:j = i
  ·subst hji;exact hy.qOp hi H
  ·have h1:=(H.2 j (ready_mono hj hji)).2
   obtain ⟨hjun,oj,hoj,hall⟩:=mem_ready.1 hj
   have hnot:∀ e ∈ oj.after,Region.binds md e = true→e.on≠i:=fun e he hb heq=>by
    have h1:=hall e he hb
    rw [heq,getD_both hun] at h1
    cases h1
   have h2:=qOp_put hoj (hfree j oj hoj hji hjun hnot) (fun cs b=>hsel i oi cs b hi) (fun cs b=>hsel j oj cs b hoj) hy h1
   have hfree':∀ k ok,ops[k]? = some ok→k≠i→(listed.setIfInBounds j true).getD k true = false→
     (∀ e ∈ ok.after,Region.binds md e = true→e.on≠i)→oi.apart ops ok = true:=fun k ok hk hki hu hno=>by
    refine hfree k ok hk hki ?_ hno
    by_cases hjk:j = k
    ·subst hjk;exact hjun
    ·rw [getD_set_ne true hjk] at hu;exact hu
   refine qOp_mono (fun a' h3=>ih (listed.setIfInBounds j true) a' (inv.set hj hjn) (hp.set j) hfree' (ready_mono hr (Ne.symm hji)) h3.1 ?_) h2
   rw [Array.setIfInBounds_comm _ _ hji]
   exact h3.2
theorem pO {p n g:Nat} {Lq:Act→Prop} (hsel:Region.noSelect ops = true) (hs:jL md ops p n = true) (hc:Region.chainB md ops n = true) (hn:n < ops.size):
  ∀ (l:List Oper) (k:Nat) (listed:Array Bool) (a:Act),(∀ j,j < l.length→l[j]? = ops[k + j]?)→k + l.length = n→HeadInv md ops n listed→Taken p listed→
  Region.lexHead md ops g l.length k listed = true→wpQuiet P ops C Lq l a→
  iX P md ops C n (fun listed' a'=>Region.seqB md ops g n listed' = true∧Lq a') l.length listed a
 |[],k,listed,a,_,hk,_,_,hB,h=>by
  have:k = n:=by simpa using hk
  subst this
  exact ⟨by simpa [Region.lexHead] using hB,h⟩
 |o::l,k,listed,a,hl,hk,inv,hp,hB,h=>by
  have h0:ops[k]? = some o:=by simpa using (hl 0 (by simp)).symm
  simp only [List.length_cons,Region.lexHead,Bool.and_eq_true] at hB
  obtain ⟨⟨hr,hf⟩,hB'⟩:=hB
  have hkn:k < n:=by simp only [List.length_cons] at hk;omega
  have hr':k ∈ Region.ready md ops listed:=by simpa using hr
  have hst:qOp P ops C k (wpQuiet P ops C Lq l) a:=by unfold qOp;simp only [h0];exact h
  obtain ⟨v,hy,hK⟩:=yieldsIn_of_qOp h0 hst
  exact sy h0 (Region.noSelect_spec hsel) hs hc hn hkn (fun listed' a' hL=>seqB_ready hL.1) l.length listed a inv hp (Region.free_spec h0 hf) hr' hy
   (pO hsel hs hc hn l (k + 1) _ _ (fun j hj=>by have:=hl (j + 1) (by simp;omega);simpa [Nat.add_assoc,Nat.add_comm 1 j] using this) (by simp only [List.length_cons] at hk;omega) (inv.set hr' hkn) (hp.set k) hB' hK)
def uM (o:Oper):Bool:=(match o.op with|.move _=>true|_=>false) && o.guard.isNone
def sZ (md:Region.Mode) (ops:Array Oper) (rest:Nat→Array Bool→Bool):Nat→Nat→Array Bool→Bool
 |0,k,listed=>rest k listed
 |p + 1,k,listed=>(match ops[k]? with|some o=>uM o|none=>false) && (Region.ready md ops listed).contains k && Region.free md ops listed k && sZ md ops rest p (k + 1) (listed.setIfInBounds k true)
theorem rV {Q':Exit→Act→World→Prop} {rest:Nat→Array Bool→Bool} {n:Nat} {Lq:Act→Prop} {w0 w:World} (hC0:C w0) (hQ:∀ c (a:Act) (d:Tmp) (v:Value) w,Q' (.panic c) (a.put (some d) v) w→Q' (.panic c) a w)
  (hsel:Region.noSelect ops = true) (hn:n < ops.size):
  ∀ (p:Nat) (l:List Oper) (k fuel:Nat) (listed:Array Bool) (a:Act),(∀ j,j < l.length→l[j]? = ops[k + j]?)→k + l.length = n→p≤l.length→HeadInv md ops n listed→Taken k listed→
  sZ md ops rest p k listed = true→wpQuiet P ops C Lq l a→
  (∀ (listed':Array Bool) (a':Act),HeadInv md ops n listed'→Taken (k + p) listed'→rest (k + p) listed' = true→wpQuiet P ops C Lq (l.drop p) a'→wpAny P md ops Q' fuel listed' a' w)→
  wpAny P md ops Q' (fuel + p) listed a w
 |0,l,k,fuel,listed,a,_,_,_,inv,ht,hB,h,H=>H listed a inv ht hB h
 |p + 1,[],k,fuel,listed,a,_,_,hp,_,_,_,_,_=>by simp at hp
 |p + 1,o::l,k,fuel,listed,a,hl,hk,hp,inv,ht,hB,h,H=>by
  have h0:ops[k]? = some o:=by simpa using (hl 0 (by simp)).symm
  simp only [sZ,h0,Bool.and_eq_true] at hB
  obtain ⟨⟨⟨hmv,hr⟩,hf⟩,hB'⟩:=hB
  have hkn:k < n:=by simp only [List.length_cons] at hk;omega
  have hr':k ∈ Region.ready md ops listed:=by simpa using hr
  simp only [uM,Bool.and_eq_true,Option.isNone_iff_eq_none] at hmv
  obtain ⟨x,hx⟩:∃ x,o.op = .move x:=by
   cases ho:o.op<;>simp [ho] at hmv
   exact ⟨_,rfl⟩
  have hwant:Region.wanted o (yielded ops a.tmps) = true:=by simp [Region.wanted,hmv.2]
  have hrun:∀ w,(execOp a.eval o).run P w = .ok (.value (a.eval x)) w:=BigFrame.run_move x hx
  have hst:qOp P ops C k (wpQuiet P ops C Lq l) a:=by unfold qOp;simp only [h0];exact h
  obtain ⟨v,hy,hK⟩:=yieldsIn_of_qOp h0 hst
  have hv:a.eval x = v:=by
   rcases hy with ⟨_,hy⟩|⟨hw,_⟩
   ·have:=hy w0 hC0
    unfold Oper.quietAt at this
    rw [hrun] at this
    exact this.2
   ·rw [hwant] at hw;cases hw
  rw [show fuel + (p + 1) = (fuel + p) + 1 by omega]
  refine wpAny_take (v:=v) h0 hsel hf (by simpa using hr') (fun c a w=>by cases o.dst with|none=>exact fun h=>h|some d=>exact hQ c a d v w) (.inl ⟨hwant,fun w=>by rw [hrun,hv]⟩) ?_
  refine rV hC0 hQ hsel hn p l (k + 1) fuel _ _ (fun j hj=>by have:=hl (j + 1) (by simp;omega);simpa [Nat.add_assoc,Nat.add_comm 1 j] using this) (by simp only [List.length_cons] at hk;omega) (by simpa using hp) (inv.set hr' hkn) ?_ hB' hK ?_
  ·intro i hi
   by_cases e:i = k
   ·subst e
    have:i < listed.size:=by rw [inv.size];omega
    simp [Array.getD,this]
   ·exact (ht.set k) i (by omega)
  ·intro listed' a' h1 h2 h3 h4
   exact H listed' a' h1 (by rwa [show k + 1 + p = k + (p + 1) by omega] at h2) (by rwa [show k + 1 + p = k + (p + 1) by omega] at h3) (by simpa using h4)
end
def mo (ops:Array Oper) (p n:Nat):Bool:=
 Region.noSelect ops && decide (n < ops.size) && decide (p≤n) && jL .any ops p n && Region.chainB .any ops n &&
  sZ .any ops (fun k listed=>Region.lexHead .any ops (ops.size - n) (n - p) k listed) p 0 (Array.replicate ops.size false)
theorem jp {P:Program} {C:World→Prop} {id:Nat} {Q:Exit→Act→World→Prop} {a:Act} {w:World} {l:List Oper} (hC0:C w.drew) (p n:Nat) (hm:P.follows .mixedOrders = true) (hB:mo l.toArray p n = true)
  (hQ:∀ c (a:Act) (d:Tmp) (v:Value) w,Q (.panic c) (a.put (some d) v) w→Q (.panic c) a w)
  (h:wpQuiet P l.toArray C (fun a'=>∀ w',C w'→wpList P l.toArray Q (l.drop n) a' w') (l.take n) a):(Code.region id l.toArray true).wp P Q a w:=by
 simp only [mo,Bool.and_eq_true,decide_eq_true_eq] at hB
 obtain ⟨⟨⟨⟨⟨hsel,hn⟩,hpn⟩,hs⟩,hc⟩,hpre⟩:=hB
 have hn':n < l.length:=by simpa using hn
 have htl:(l.take n).length = n:=by simp;omega
 have hdl:(l.drop n).length = l.toArray.size - n:=by simp
 have inv0:HeadInv .any l.toArray n (Array.replicate l.toArray.size false):=
  ⟨by simp,fun j oj _ hl=>(by rw [getD_replicate_false] at hl;cases hl),fun t _ ht=>getD_in (by simpa using ht) (getD_replicate_false _ _)⟩
 refine wp_region_any hm ?_
 have key:=rV (C:=C) (md:=.any) (w:=w.drew) (Q':=Q) hC0 hQ hsel hn p (l.take n) 0 (l.toArray.size - p) _ a (fun j hj=>by
  have hj':j < n:=by rw [htl] at hj;exact hj
  simp [hj']) (by simpa using htl) (by rw [htl];exact hpn) inv0 (fun i hi=>absurd hi (by omega)) hpre h (fun listed' a' inv' ht' hrest hq=>by
   rw [Nat.zero_add] at ht' hrest
   have hlen:((l.take n).drop p).length = n - p:=by simp;omega
   have H:=pO (md:=.any) (g:=l.toArray.size - n) hsel hs hc hn ((l.take n).drop p) p listed' a' (fun j hj=>by
    have hj':p + j < n:=by rw [hlen] at hj;omega
    rw [List.getElem?_drop,List.getElem?_take_of_lt hj']
    simp) (by rw [hlen];omega) inv' ht' (by rw [hlen];exact hrest) hq
   have:=ls (Q':=Q) (g:=l.toArray.size - n) (fun listed a' w' hC hL=>by
    have:=wpAny_of_seq (md:=.any) (Q':=Q) (l.drop n) n listed a' w' (fun j=>by simp [List.getElem?_drop]) (by rw [hdl];exact hL.1) (hL.2 w' hC)
    rwa [hdl] at this) _ _ _ w.drew hC0 H
   rwa [hlen,show n - p + (l.toArray.size - n) = l.toArray.size - p by omega] at this)
 rwa [show l.toArray.size - p + p = l.toArray.size by omega] at key
end Go.Proofs.YtphakidbddamfaaGreat
