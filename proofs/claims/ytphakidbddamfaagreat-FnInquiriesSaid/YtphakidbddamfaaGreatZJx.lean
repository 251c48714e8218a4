/-
  All calls that an inquiry can ask for; the best one, those that win: plain words. No program is named here.
-/
import Derived.Test.YtphakidbddamfaaGreatZIu
namespace Go.Proofs.YtphakidbddamfaaGreat
open Go.RowKit
def c1 (i k:Nat) (now:Int):Nat→List (List Int)
 |0=>[]
 |m + 1=>if (m:Int) = now then c1 i k now m else c1 i k now m++[[(i:Int),(k:Int),(m:Int)]]
def c2 (i:Nat) (ms:List Int):Nat→List (List Int)
 |0=>[]
 |k + 1=>c2 i ms k++c1 i k (ms.getD k 0) 4
def gU (l:List ItemD) (i:Nat):List Int:=((l[i]?).map ItemD.marks).getD []
def c3 (l:List ItemD):Nat→List (List Int)
 |0=>[]
 |i + 1=>c3 l i++c2 i (gU l i) (gU l i).length
def bI (l:List ItemD):List (List Int):=c3 l l.length
theorem nJ {l:List ItemD} {i:Nat} {x:ItemD} (h:l[i]? = some x):gU l i = x.marks:=by unfold gU;rw [h];rfl
theorem mz (i k:Nat) (now:Int):∀ m,(c1 i k now m).length≤m
 |0=>Nat.le_refl _
 |m + 1=>by
  have:=mz i k now m
  simp only [c1]
  split
  ·omega
  ·simp only [List.length_append,aP,aK];omega
theorem mQ (i:Nat) (ms:List Int):∀ k,(c2 i ms k).length≤4 * k
 |0=>Nat.le_refl _
 |k + 1=>by
  have:=mQ i ms k
  have:=mz i k (ms.getD k 0) 4
  simp only [c2,List.length_append];omega
theorem lX {l:List ItemD} (h:ItsOk l) {i:Nat} {x:ItemD} (hx:l[i]? = some x):x.marks.length≤3:=by
 obtain ⟨_,h4,h5,h6,_⟩:=h.at_ hx
 omega
theorem mx {l:List ItemD} (h:ItsOk l):∀ i,(c3 l i).length≤12 * i
 |0=>Nat.le_refl _
 |i + 1=>by
  have h1:=mx h i
  have h2:=mQ i (gU l i) (gU l i).length
  have h3:(gU l i).length≤3:=by
   unfold gU
   cases hx:l[i]? with
   |none=>simp
   |some x=>exact lX h hx
  simp only [c3,List.length_append];omega
theorem fO {l:List ItemD} (h:ItsOk l):(bI l).length≤168:=by
 have h1:=mx h l.length
 have h2:=h.1
 unfold bI;omega
def CallAt (l:List ItemD) (x:List Int):Prop:=∃ (i k m:Nat) (it:ItemD),x = [(i:Int),(k:Int),(m:Int)]∧l[i]? = some it∧k < it.marks.length∧m < 4∧(m:Int)≠it.marks.getD k 0
theorem qF {i k:Nat} {now:Int} {x:List Int}:∀ {m:Nat},x ∈ c1 i k now m→∃ j < m,x = [(i:Int),(k:Int),(j:Int)]∧(j:Int)≠now
 |0,h=>by cases h
 |m + 1,h=>by
  simp only [c1] at h
  split at h
  ·obtain ⟨j,h1,h2⟩:=qF h;exact ⟨j,by omega,h2⟩
  ·rename_i hne
   rcases List.mem_append.1 h with h|h
   ·obtain ⟨j,h1,h2⟩:=qF h;exact ⟨j,by omega,h2⟩
   ·rw [List.mem_singleton] at h;exact ⟨m,by omega,h,hne⟩
theorem tX {i:Nat} {ms:List Int} {x:List Int}:∀ {k:Nat},x ∈ c2 i ms k→∃ j < k,∃ m:Nat,m < 4∧x = [(i:Int),(j:Int),(m:Int)]∧(m:Int)≠ms.getD j 0
 |0,h=>by cases h
 |k + 1,h=>by
  simp only [c2] at h
  rcases List.mem_append.1 h with h|h
  ·obtain ⟨j,h1,h2⟩:=tX h;exact ⟨j,by omega,h2⟩
  ·obtain ⟨m,h1,h2⟩:=qF h;exact ⟨k,by omega,m,h1,h2⟩
theorem tW {l:List ItemD} {x:List Int}:∀ {i:Nat},x ∈ c3 l i→CallAt l x
 |0,h=>by cases h
 |i + 1,h=>by
  simp only [c3] at h
  rcases List.mem_append.1 h with h|h
  ·exact tW h
  ·obtain ⟨j,h1,m,h2,h3,h4⟩:=tX h
   cases hx:l[i]? with
   |none=>unfold gU at h1;rw [hx] at h1;simp at h1
   |some it=>
    rw [nJ hx] at h1 h4
    exact ⟨i,j,m,it,h3,hx,h1,h2,h4⟩
theorem eA {l:List ItemD} {x:List Int} (h:x ∈ bI l):CallAt l x:=tW h
theorem CallAt.nm {l:List ItemD} (hv:ItsOk l) {x:List Int} (h:CallAt l x):∃ i k m:Int,x = [i,k,m]∧HasNm l i k∧0≤m∧m≤3:=by
 obtain ⟨i,k,m,it,h1,h2,h3,h4,_⟩:=h
 have h5:=(hv.at_ h2).2.2.2.1
 exact ⟨i,k,m,h1,⟨by omega,by omega,it,by simpa using h2,by omega⟩,by omega,by omega⟩
def eV (c:CodeD) (p:PerfD) (f:Int) (x:List Int):Int:=bF c (cW p (cv p.items (dR (x.getD 0 0) (x.getD 1 0) (x.getD 2 0)))) f
def i_ (c:CodeD) (p:PerfD) (f:Int) (s:Int × List Int) (x:List Int):Int × List Int:=if s.1 < eV c p f x then (eV c p f x,x) else s
def cp (c:CodeD) (p:PerfD) (f:Int) (l:List (List Int)) (k:Nat):Int × List Int:=(l.take k).foldl (i_ c p f) (bF c p f,[])
theorem ld (c:CodeD) (p:PerfD) (f:Int) (l:List (List Int)):cp c p f l 0 = (bF c p f,[]):=rfl
theorem gu {c:CodeD} {p:PerfD} {f:Int} {l:List (List Int)} {k:Nat} {x:List Int} (hx:l[k]? = some x):cp c p f l (k + 1) = i_ c p f (cp c p f l k) x:=by unfold cp;rw [bJ hx,List.foldl_append];rfl
theorem i6 (c:CodeD) (p:PerfD) (f:Int) (l:List (List Int)) (k:Nat):(cp c p f l k = (bF c p f,[]))∨((cp c p f l k).2 ∈ l∧(cp c p f l k).1 = eV c p f (cp c p f l k).2∧bF c p f < (cp c p f l k).1):=by
 induction k with
 |zero=>exact .inl rfl
 |succ k ih=>
  cases hx:l[k]? with
  |none=>
   have e:cp c p f l (k + 1) = cp c p f l k:=by
    have h1:=List.getElem?_eq_none_iff.1 hx
    unfold cp;rw [List.take_of_length_le (by omega),List.take_of_length_le h1]
   rw [e];exact ih
  |some x=>
   rw [gu hx]
   unfold i_
   split
   ·rename_i hlt
    refine .inr ⟨List.mem_of_getElem? hx,rfl,?_⟩
    rcases ih with h|⟨_,_,h⟩
    ·rw [h] at hlt;exact hlt
    ·show bF c p f < eV c p f x
     omega
   ·exact ih
theorem rh (c:CodeD) (p:PerfD) (f:Int) (l:List (List Int)):∀ (k:Nat) (x:List Int),x ∈ l.take k→eV c p f x≤(cp c p f l k).1:=by
 intro k
 induction k with
 |zero=>intro x hx;simp at hx
 |succ k ih=>
  intro x hx
  cases hk:l[k]? with
  |none=>
   have h1:=List.getElem?_eq_none_iff.1 hk
   have e:cp c p f l (k + 1) = cp c p f l k:=by unfold cp;rw [List.take_of_length_le (by omega),List.take_of_length_le h1]
   rw [e]
   refine ih x ?_
   rw [List.take_of_length_le (by omega)] at hx ⊢
   exact hx
  |some y=>
   rw [gu hk]
   rw [bJ hk] at hx
   unfold i_
   rcases List.mem_append.1 hx with hx|hx
   ·have:=ih x hx
    split
    ·show _≤eV c p f y;omega
    ·exact this
   ·rw [List.mem_singleton] at hx
    subst hx
    split
    ·exact Int.le_refl _
    ·omega
def db (c:CodeD) (p:PerfD) (f:Int):List Int:=(cp c p f (bI p.items) (bI p.items).length).2
noncomputable def bg (c:CodeD) (p:PerfD) (f:Int):Option (Int × Int × Int):=ix (bO c p f∧db c p f≠[]) ((db c p f).getD 0 0,(db c p f).getD 1 0,(db c p f).getD 2 0)
def fV (c:CodeD) (a b:PerfD) (f:Int) (x:List Int):Bool:=decide (bF c b f < eV c a f x)
def dn (c:CodeD) (a b:PerfD) (f:Int) (l:List (List Int)) (k:Nat):List (List Int):=(l.take k).filter (fV c a b f)
theorem mA (c:CodeD) (a b:PerfD) (f:Int) (l:List (List Int)):dn c a b f l 0 = []:=rfl
theorem od {c:CodeD} {a b:PerfD} {f:Int} {l:List (List Int)} {k:Nat} {x:List Int} (hx:l[k]? = some x) (h:bF c b f < eV c a f x):dn c a b f l (k + 1) = dn c a b f l k++[x]:=by
 have e:fV c a b f x = true:=decide_eq_true h
 unfold dn;rw [bJ hx,List.filter_append,List.filter_cons,e];rfl
theorem qn {c:CodeD} {a b:PerfD} {f:Int} {l:List (List Int)} {k:Nat} {x:List Int} (hx:l[k]? = some x) (h:¬ bF c b f < eV c a f x):dn c a b f l (k + 1) = dn c a b f l k:=by
 have e:fV c a b f x = false:=decide_eq_false h
 unfold dn;rw [bJ hx,List.filter_append,List.filter_cons,e];simp
theorem km (c:CodeD) (a b:PerfD) (f:Int) (l:List (List Int)) (k:Nat):(dn c a b f l k).length≤l.length:=by
 unfold dn
 have h1:=List.length_filter_le (fV c a b f) (l.take k)
 have h2:=List.length_take_le k l
 have h3:=List.length_take_le' k l
 omega
theorem uu {c:CodeD} {a b:PerfD} {f:Int} {l:List (List Int)} {k:Nat} {x:List Int} (h:x ∈ dn c a b f l k):x ∈ l∧bF c b f < eV c a f x:=by
 unfold dn at h
 obtain ⟨h1,h2⟩:=List.mem_filter.1 h
 exact ⟨List.mem_of_mem_take h1,of_decide_eq_true h2⟩
def ny (c:CodeD) (a b:PerfD) (f:Int):List (List Int):=dn c a b f (bI a.items) (bI a.items).length
noncomputable def bp (c:CodeD) (a b:PerfD) (f:Int):Option (List (List Int)):=ix (bO c a f∧bO c b f) (ny c a b f)
end Go.Proofs.YtphakidbddamfaaGreat
namespace Go.Proofs.YtphakidbddamfaaGreat
open Go.RowKit
theorem qq {i k m:Nat} {now:Int} (h:(m:Int)≠now):∀ {n:Nat},m < n→[(i:Int),(k:Int),(m:Int)] ∈ c1 i k now n
 |0,hm=>absurd hm (Nat.not_lt_zero _)
 |n + 1,hm=>by
  simp only [c1]
  split
  ·rename_i hn
   have:m≠n:=fun e=>h (by rw [e];exact hn)
   exact qq h (by omega)
  ·by_cases e:m = n
   ·rw [e];exact List.mem_append_right _ (List.mem_singleton.2 rfl)
   ·exact List.mem_append_left _ (qq h (by omega))
theorem va {i k m:Nat} {ms:List Int} (h:(m:Int)≠ms.getD k 0) (hm:m < 4):∀ {n:Nat},k < n→[(i:Int),(k:Int),(m:Int)] ∈ c2 i ms n
 |0,hk=>absurd hk (Nat.not_lt_zero _)
 |n + 1,hk=>by
  simp only [c2]
  by_cases e:k = n
  ·rw [←e];exact List.mem_append_right _ (qq h hm)
  ·exact List.mem_append_left _ (va h hm (by omega))
theorem uy {l:List ItemD} {i k m:Nat} (hk:k < (gU l i).length) (h:(m:Int)≠(gU l i).getD k 0) (hm:m < 4):∀ {n:Nat},i < n→[(i:Int),(k:Int),(m:Int)] ∈ c3 l n
 |0,hi=>absurd hi (Nat.not_lt_zero _)
 |n + 1,hi=>by
  simp only [c3]
  by_cases e:i = n
  ·rw [←e];exact List.mem_append_right _ (va h hm hk)
  ·exact List.mem_append_left _ (uy hk h hm (by omega))
theorem vU {l:List ItemD} (hv:ItsOk l) {x:InquiryD} (h:eG l [x]):[x.item,x.name,x.mark] ∈ bI l:=by
 obtain ⟨_,_,_,⟨h1,h2,a,ha,h3⟩,h4,h5,h6⟩:=h 0 x rfl
 have h7:=(hv.at_ ha).2.2.2.1
 have hi:=(List.getElem?_eq_some_iff.1 ha).1
 rw [fE] at h6
 have hm:nf l x.item.toNat x.name.toNat = (gU l x.item.toNat).getD x.name.toNat 0:=rfl
 have hc:=uy (l:=l) (i:=x.item.toNat) (k:=x.name.toNat) (m:=x.mark.toNat) (by rw [nJ ha];omega) (by rw [←hm];intro e;exact h6 (by rw [←e];omega)) (by omega) hi
 rw [show ((x.item.toNat:Nat):Int) = x.item by omega,show ((x.name.toNat:Nat):Int) = x.name by omega,show ((x.mark.toNat:Nat):Int) = x.mark by omega] at hc
 exact hc
theorem vt {l:List ItemD} (hv:ItsOk l) {i k m:Int} (h:CallAt l [i,k,m]) (b:Bool):eG l [⟨0,i,k,m,b⟩]:=by
 obtain ⟨i',k',m',it,h1,h2,h3,h4,h5⟩:=h
 simp only [List.cons.injEq,and_true] at h1
 obtain ⟨rfl,rfl,rfl⟩:=h1
 have h7:=(hv.at_ h2).2.2.2.1
 intro j y hy
 cases j with
 |succ j=>simp at hy
 |zero=>
  cases hy
  refine ⟨Int.le_refl _,by simp only;omega,Int.le_refl _,⟨by simp,by simp,it,by simpa using h2,by simp only;omega⟩,by simp only;omega,by simp only;omega,?_⟩
  rw [fE]
  simp only [aD]
  unfold nf
  rw [h2]
  exact fun e=>h5 e.symm
theorem oh {l:List ItemD} {x:List Int} (h:CallAt l x):x = [x.getD 0 0,x.getD 1 0,x.getD 2 0]:=by
 obtain ⟨i,k,m,it,h1,_⟩:=h
 rw [h1];rfl
theorem kl {c:CodeD} {p:PerfD} {f:Int} (hA:bO c p f) {x:List Int} (hx:x ∈ bI p.items) (b:Bool):bm c p f ⟨0,x.getD 0 0,x.getD 1 0,x.getD 2 0,b⟩ = some (eV c p f x - bF c p f):=by
 have h1:=eA hx
 rw [oh h1] at h1
 exact cy ⟨hA,vt hA.1.2.1 h1 b⟩
theorem t8 {c:CodeD} {p:PerfD} {f:Int} {r:Int × Int × Int} (h:bg c p f = some r):∃ t,bm c p f ⟨0,r.1,r.2.1,r.2.2,false⟩ = some t∧0 < t:=by
 by_cases hA:bO c p f∧db c p f≠[]
 ·rw [show bg c p f = _ from cy hA] at h
  cases h
  rcases i6 c p f (bI p.items) (bI p.items).length with h1|⟨h1,h2,h3⟩
  ·exact absurd (by unfold db;rw [h1]) hA.2
  ·exact ⟨_,kl hA.1 h1 false,by unfold db at *;omega⟩
 ·rw [show bg c p f = _ from bZ hA] at h
  cases h
theorem u7 {c:CodeD} {p:PerfD} {f:Int} {x:InquiryD} {g:Int} (h:bm c p f x = some g) (hg:0 < g):∃ r,bg c p f = some r∧∃ t,bm c p f ⟨0,r.1,r.2.1,r.2.2,false⟩ = some t∧g≤t:=by
 by_cases hA:bO c p f∧eG p.items [x]
 ·rw [show bm c p f x = _ from cy hA] at h
  cases h
  have hc:=vU hA.1.1.2.1 hA.2
  have hm:=rh c p f (bI p.items) (bI p.items).length [x.item,x.name,x.mark] (by rw [List.take_length];exact hc)
  have hs:eV c p f [x.item,x.name,x.mark] = bF c (cW p (cv p.items (dR x.item x.name x.mark))) f:=rfl
  rcases i6 c p f (bI p.items) (bI p.items).length with h1|⟨h1,h2,h3⟩
  ·rw [h1] at hm
   simp only at hm
   omega
  ·have hne:db c p f≠[]:=by
    intro e
    have:=oh (eA h1)
    unfold db at e
    rw [e] at this
    cases this
   refine ⟨_,cy ⟨hA.1,hne⟩,_,kl hA.1 h1 false,?_⟩
   omega
 ·rw [show bm c p f x = _ from bZ hA] at h
  cases h
theorem vm {c:CodeD} {a b:PerfD} {f:Int} {W:List (List Int)} (h:bp c a b f = some W):(bO c a f∧bO c b f)∧W.length≤168∧∀ x ∈ W,x.length = 3∧∃ t,bm c a f ⟨0,x.getD 0 0,x.getD 1 0,x.getD 2 0,false⟩ = some t∧bF c b f < bF c a f + t∧bF c a f + t≤400000000:=by
 by_cases hA:bO c a f∧bO c b f
 ·rw [show bp c a b f = _ from cy hA] at h
  cases h
  refine ⟨hA,?_,fun x hx=>?_⟩
  ·have h1:=km c a b f (bI a.items) (bI a.items).length
   have h2:=fO hA.1.1.2.1
   unfold ny
   omega
  ·obtain ⟨h1,h2⟩:=uu hx
   have h3:=eA h1
   obtain ⟨i,k,m,h4,h5,h6,h7⟩:=h3.nm hA.1.1.2.1
   refine ⟨by rw [h4];rfl,_,kl hA.1 h1 false,by omega,?_⟩
   have h8:=gd (iu (i:=x.getD 0 0) (k:=x.getD 1 0) (m:=x.getD 2 0) hA.1 (by rw [h4];exact h6) (by rw [h4];exact h7))
   have:eV c a f x≤400000000:=h8.2
   omega
 ·rw [show bp c a b f = _ from bZ hA] at h
  cases h
end Go.Proofs.YtphakidbddamfaaGreat
