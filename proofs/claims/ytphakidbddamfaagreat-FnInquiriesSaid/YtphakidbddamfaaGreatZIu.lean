/-
  Codes of points: their words; when they are valid; what elements are worth. No program is named here.
-/
import Derived.Test.YtphakidbddamfaaGreatZAw
import Derived.Test.YtphakidbddamfaaGreatZGl
import Derived.Test.YtphakidbddamfaaGreatZM9
import Derived.Test.YtphakidbddamfaaGreatZMe
namespace Go.Proofs.YtphakidbddamfaaGreat
open Go.RowKit
structure ElementD where
 name:ByteArray
 family:Int
 level:Int
 base:Int
def ElementD.dat (x:ElementD):List D:=[.str x.name,.int .i64 x.family,.int .i64 x.level,.int .i64 x.base]
structure CodeD where
 elements:List ElementD
 limits:List Int
 repeats:Int
 bonus:Int
 keeps:Int
 fall:Int
@[reducible] def CodeD.cs (c:CodeD):List PV:=[.d (.lst 4 (c.elements.map ElementD.dat)),.d (.lst 1 (c.limits.map aa)),.d (.int .i64 c.repeats),.d (.int .i64 c.bonus),.d (.int .i64 c.keeps),.d (.int .i64 c.fall)]
def CodeD.dat (c:CodeD):List D:=[.lst 4 (c.elements.map ElementD.dat),.lst 1 (c.limits.map aa),.int .i64 c.repeats,.int .i64 c.bonus,.int .i64 c.keeps,.int .i64 c.fall]
@[reducible] def tD (m:Nat) (x:ElementD):Prop:=x.name.size≤m
def CdFit (m:Nat) (c:CodeD):Prop:=c.elements.length≤m∧(∀ x ∈ c.elements,tD m x)∧c.limits.length≤m
theorem CdFit.mono {m m':Nat} (h:m≤m') {c:CodeD} (hc:CdFit m c):CdFit m' c:=⟨Nat.le_trans hc.1 h,fun s hs=>Nat.le_trans (hc.2.1 s hs) h,Nat.le_trans hc.2.2 h⟩
def pg (l:List ElementD) (k:Nat):ByteArray:=((l[k - 1]?).map ElementD.name).getD ByteArray.empty
theorem jD {l:List ElementD} {k:Nat} {p:ElementD} (hp:l[k - 1]? = some p):pg l k = p.name:=by unfold pg;rw [hp];rfl
def ElAt (l:List ElementD) (k:Nat) (x:ElementD):Prop:=NameOk x.name∧0≤x.family∧x.family≤4∧0≤x.level∧x.level≤4∧1≤x.base∧x.base≤2000∧(0 < k→Op.bytesLess (pg l k).toList x.name.toList = true)
def dz (c:CodeD):Prop:=1≤c.elements.length∧c.elements.length≤24∧c.limits.length = 5∧1≤c.repeats∧c.repeats≤3∧0≤c.bonus∧c.bonus≤20∧50≤c.keeps∧c.keeps≤100∧0≤c.fall∧c.fall≤500
def CodeOk (c:CodeD):Prop:=All (ElAt c.elements) c.elements∧cB 0 9 c.limits∧dz c
def li (nm:ByteArray) (x:ElementD):Bool:=decide (x.name = nm)
def bS (c:CodeD) (nm:ByteArray):Int:=iL (li nm) c.elements 0
theorem gh {c:CodeD} {nm:ByteArray} (h:0≤bS c nm):∃ x,c.elements[(bS c nm).toNat]? = some x∧x.name = nm:=by
 rcases kM (p:=li nm) c.elements 0 with ⟨h1,_⟩|⟨k,x,h1,h2,h3,_⟩
 ·rw [bS,h1] at h;omega
 ·refine ⟨x,?_,by simpa [li] using h3⟩
  rw [bS,h1]
  simpa using h2
theorem pu (c:CodeD) (nm:ByteArray):bS c nm < (c.elements.length:Int)∧-1≤bS c nm:=by
 rcases kM (p:=li nm) c.elements 0 with ⟨h1,_⟩|⟨k,x,h1,h2,_,_⟩
 ·rw [bS,h1];omega
 ·have:=(List.getElem?_eq_some_iff.1 h2).1
  rw [bS,h1];omega
def fU (c:CodeD) (x:ElementD) (m:Int):Int:=if m = 1 then (x.base * c.keeps).tdiv 100 else if m = 2 then (x.base * 9).tdiv 10 else if m = 3 then 0 else x.base
def eX (c:CodeD) (nm:ByteArray) (m:Int):Int:=match c.elements[(bS c nm).toNat]? with
 |some x=>if bS c nm < 0 then -1 else fU c x m
 |none=>-1
theorem kA {c:CodeD} {nm:ByteArray} {m:Int} {x:ElementD} (h:0≤bS c nm) (hx:c.elements[(bS c nm).toNat]? = some x):eX c nm m = fU c x m:=by
 unfold eX;rw [hx];simp only;rw [if_neg (by omega)]
theorem sJ {c:CodeD} {nm:ByteArray} {m:Int} (h:bS c nm < 0):eX c nm m = -1:=by
 unfold eX
 split
 ·rw [if_pos h]
 ·rfl
theorem pS {a b A B:Int} (h1:-A≤a) (h2:a≤A) (h3:0≤b) (h4:b≤B):-(A * B)≤a * b∧a * b≤A * B:=by
 have hA:0≤A:=by omega
 have h5:a * b≤A * b:=Int.mul_le_mul_of_nonneg_right h2 h3
 have h6:A * b≤A * B:=Int.mul_le_mul_of_nonneg_left h4 hA
 have h7:-A * b≤a * b:=Int.mul_le_mul_of_nonneg_right h1 h3
 have h8:-A * b = -(A * b):=Int.neg_mul A b
 omega
theorem fN {a b A B:Int} (h1:0≤a) (h2:a≤A) (h3:0≤b) (h4:b≤B):0≤a * b∧a * b≤A * B:=
 ⟨Int.mul_nonneg h1 h3,(pS (by omega) h2 h3 h4).2⟩
theorem ElAt.worth {c:CodeD} (hc:dz c) {k:Nat} {x:ElementD} (hx:ElAt c.elements k x) (m:Int):0≤fU c x m∧fU c x m≤2000:=by
 obtain ⟨_,_,_,_,_,h1,h2,_⟩:=hx
 obtain ⟨_,_,_,_,_,_,_,h3,h4,_⟩:=hc
 have hm:=fN (a:=x.base) (b:=c.keeps) (A:=2000) (B:=100) (by omega) h2 (by omega) h4
 unfold fU
 split
 ·rw [Int.tdiv_eq_ediv_of_nonneg hm.1];omega
 ·split
  ·rw [Int.tdiv_eq_ediv_of_nonneg (by omega)];omega
  ·split<;>omega
theorem u6 {c:CodeD} (hc:CodeOk c) {nm:ByteArray} (m:Int) (h:0≤bS c nm):0≤eX c nm m∧eX c nm m≤2000:=by
 obtain ⟨x,hx,_⟩:=gh h
 rw [kA h hx]
 exact (hc.1 _ _ hx).worth hc.2.2 m
end Go.Proofs.YtphakidbddamfaaGreat
namespace Go.Proofs.YtphakidbddamfaaGreat
open Go.RowKit
def nQ (a b:Int):Int:=if a.tmod b < 0 then a.tdiv b - 1 else a.tdiv b
def dT (a b:Int):Int:=nQ (2 * a + b) (2 * b)
theorem dZ (a b A:Int) (h1:-A≤a) (h2:a≤A):-A≤a.tdiv b∧a.tdiv b≤A:=by
 have h:=Int.natAbs_tdiv_le_natAbs a b
 omega
theorem xF {a b A:Int} (h1:-A≤a) (h2:a≤A):-A - 1≤nQ a b∧nQ a b≤A:=by
 have h:=dZ a b A h1 h2
 unfold nQ
 split<;>omega
theorem nh {a b A:Int} (h1:-A≤a) (h2:a≤A):-A≤a.tmod b∧a.tmod b≤A:=by
 have h:(a.tmod b).natAbs≤a.natAbs:=by rw [Int.natAbs_tmod];exact Nat.mod_le _ _
 omega
theorem iV {a b A B:Int} (h1:-A≤a) (h2:a≤A) (h3:0≤b) (h4:b≤B):-(2 * A + B) - 1≤dT a b∧dT a b≤2 * A + B:=
 xF (by omega) (by omega)
theorem jr {A:Int}:∀ {l:List Int},(∀ x ∈ l,-A≤x∧x≤A)→-(A * (l.length:Int))≤l.sum∧l.sum≤A * (l.length:Int)
 |[],_=>by simp
 |x::l,h=>by
  have h1:=h x (by simp)
  have h2:=jr (l:=l) fun y hy=>h y (List.mem_cons_of_mem _ hy)
  have h3:A * ((l.length + 1:Nat):Int) = A * (l.length:Int) + A:=by rw [Int.natCast_add,Int.mul_add];simp
  rw [List.sum_cons,aP,h3]
  omega
theorem uQ {A:Int}:∀ {l:List Int},(∀ x ∈ l,0≤x∧x≤A)→0≤l.sum∧l.sum≤A * (l.length:Int)
 |[],_=>by simp
 |x::l,h=>by
  have h1:=h x (by simp)
  have h2:=uQ (l:=l) fun y hy=>h y (List.mem_cons_of_mem _ hy)
  have h3:A * ((l.length + 1:Nat):Int) = A * (l.length:Int) + A:=by rw [Int.natCast_add,Int.mul_add];simp
  rw [List.sum_cons,aP,h3]
  omega
theorem gf {l:List Int} {k:Nat} {x:Int} (hx:l[k]? = some x):(l.take (k + 1)).sum = (l.take k).sum + x:=by rw [bJ hx];simp
def ew (xs:List Int):Int:=(xs.drop 1).foldl max (xs.headD 0)
def eJ (xs:List Int):Int:=(xs.drop 1).foldl min (xs.headD 0)
def cx (c:CodeD) (it:ItemD):Prop:=All (fun _ nm=>0≤bS c nm) it.names
def bX (c:CodeD) (l:List ItemD):Prop:=All (fun _ it=>cx c it) l
def bE (c:CodeD) (it:ItemD):List Int:=(it.names.zip it.marks).map fun p=>eX c p.1 p.2
theorem dN {c:CodeD} {it:ItemD} (h:ItOk it):(bE c it).length = it.names.length:=by unfold bE;rw [ao,List.length_zip,h.2.2.2.1];simp
theorem jf {c:CodeD} {it:ItemD} {k:Nat} {nm:ByteArray} {m:Int} (h1:it.names[k]? = some nm) (h2:it.marks[k]? = some m):(bE c it)[k]? = some (eX c nm m):=by
 unfold bE
 rw [ap,List.getElem?_zip_eq_some (z:=(nm,m)).2 ⟨h1,h2⟩]
 rfl
theorem fT {c:CodeD} {it:ItemD} (hc:CodeOk c) (hk:cx c it):∀ x ∈ bE c it,0≤x∧x≤2000:=by
 intro x hx
 unfold bE at hx
 obtain ⟨⟨nm,m⟩,hp,rfl⟩:=List.mem_map.1 hx
 obtain ⟨i,hi⟩:=List.getElem?_of_mem (List.of_mem_zip hp).1
 exact u6 hc m (hk i nm hi)
def du (c:CodeD) (it:ItemD):Int:=if it.late = true then dT ((bE c it).sum * (100 + c.bonus)) 100 else (bE c it).sum
theorem jS {c:CodeD} {it:ItemD} (hc:CodeOk c) (hi:ItOk it) (hk:cx c it):0≤(bE c it).sum∧(bE c it).sum≤6000:=by
 have h1:=uQ (fT hc hk)
 rw [dN hi] at h1
 have h2:=hi.2.2.1
 omega
theorem lu {c:CodeD} {it:ItemD} (hc:CodeOk c) (hi:ItOk it) (hk:cx c it):-2000000≤du c it∧du c it≤2000000:=by
 have h1:=jS hc hi hk
 have h2:=hc.2.2
 unfold du
 split
 ·have h3:=fN (a:=(bE c it).sum) (b:=100 + c.bonus) (A:=6000) (B:=120) h1.1 h1.2 (by have:=h2.2.2.2.2.2.1;omega) (by have:=h2.2.2.2.2.2.2.1;omega)
  have h4:=iV (a:=(bE c it).sum * (100 + c.bonus)) (b:=100) (A:=720000) (B:=100) (by omega) (by omega) (by omega) (by omega)
  omega
 ·omega
def cg (it:ItemD):ByteArray:=it.names.headD ByteArray.empty
def jQ (it:ItemD):Int:=it.marks.headD 0
def ef (nm:ByteArray) (it:ItemD):Bool:=decide (cg it = nm) && decide (jQ it≠3)
def f7 (l:List ItemD) (k:Nat):Nat:=cn (ef (((l[k]?).map cg).getD ByteArray.empty)) (l.take k)
theorem i5 {it:ItemD} (h:ItOk it):it.names[0]? = some (cg it):=by
 have h1:=h.2.1
 unfold cg
 cases hn:it.names with
 |nil=>rw [hn] at h1;simp at h1
 |cons a b=>rfl
theorem oB {it:ItemD} (h:ItOk it):it.marks[0]? = some (jQ it):=by
 have h1:=h.2.1
 have h2:=h.2.2.2.1
 unfold jQ
 cases hn:it.marks with
 |nil=>rw [hn] at h2;simp at h2;omega
 |cons a b=>rfl
def d7 (c:CodeD) (l:List ItemD) (k:Nat):Int:=match l[k]? with
 |some it=>if (f7 l k:Int) < c.repeats then du c it else if (f7 l k:Int) = c.repeats then (du c it * 7).tdiv 10 else 0
 |none=>0
theorem lG {c:CodeD} {l:List ItemD} {k:Nat} {it:ItemD} (hx:l[k]? = some it):d7 c l k = if (f7 l k:Int) < c.repeats then du c it else if (f7 l k:Int) = c.repeats then (du c it * 7).tdiv 10 else 0:=by unfold d7;rw [hx]
theorem l9 {c:CodeD} {l:List ItemD} (hc:CodeOk c) (hl:ItsOk l) (hk:bX c l) (k:Nat):-14000000≤d7 c l k∧d7 c l k≤14000000:=by
 cases hx:l[k]? with
 |none=>unfold d7;rw [hx];simp
 |some it=>
  rw [lG hx]
  have h1:=lu hc (hl.at_ hx) (hk k it hx)
  have h2:=dZ (du c it * 7) 10 14000000 (by omega) (by omega)
  split
  ·omega
  ·split<;>omega
def ed (c:CodeD) (it:ItemD):Int:=ew (bE c it)
def cH (xs:List Int):Int:=if xs.length < 5 then xs.sum else xs.sum - ew xs - eJ xs
def dX (xs:List Int):Int:=if xs.length < 5 then (xs.length:Int) else (xs.length:Int) - 2
theorem ko {A B:Int}:∀ {l:List Int} {a:Int},(A≤a∧a≤B)→(∀ x ∈ l,A≤x∧x≤B)→A≤l.foldl max a∧l.foldl max a≤B
 |[],_,h,_=>h
 |x::l,a,h,hl=>by
  have h1:=hl x (by simp)
  exact ko (l:=l) (a:=max a x) (by omega) fun y hy=>hl y (List.mem_cons_of_mem _ hy)
theorem kv {A B:Int}:∀ {l:List Int} {a:Int},(A≤a∧a≤B)→(∀ x ∈ l,A≤x∧x≤B)→A≤l.foldl min a∧l.foldl min a≤B
 |[],_,h,_=>h
 |x::l,a,h,hl=>by
  have h1:=hl x (by simp)
  exact kv (l:=l) (a:=min a x) (by omega) fun y hy=>hl y (List.mem_cons_of_mem _ hy)
theorem kX {A B:Int} {l:List Int} (h0:0 < l.length) (h:∀ x ∈ l,A≤x∧x≤B):A≤ew l∧ew l≤B:=by
 cases l with
 |nil=>simp at h0
 |cons a l=>exact ko (h a (by simp)) fun y hy=>h y (List.mem_cons_of_mem _ hy)
theorem nu {A B:Int} {l:List Int} (h0:0 < l.length) (h:∀ x ∈ l,A≤x∧x≤B):A≤eJ l∧eJ l≤B:=by
 cases l with
 |nil=>simp at h0
 |cons a l=>exact kv (h a (by simp)) fun y hy=>h y (List.mem_cons_of_mem _ hy)
theorem lU {c:CodeD} {it:ItemD} (hc:CodeOk c) (hi:ItOk it) (hk:cx c it):0≤ed c it∧ed c it≤2000:=
 kX (by rw [dN hi];have:=hi.2.1;omega) (fT hc hk)
theorem iI {A:Int} {l:List Int} (hA:0≤A) (h0:0 < l.length) (h9:l.length≤9) (h:∀ x ∈ l,-A≤x∧x≤A):-(11 * A)≤cH l∧cH l≤11 * A:=by
 have h1:=jr h
 have h2:=kX h0 h
 have h3:=nu h0 h
 have h4:A * (l.length:Int)≤A * 9:=Int.mul_le_mul_of_nonneg_left (by omega) hA
 unfold cH
 split<;>omega
theorem iv {l:List Int} (h0:0 < l.length) (h9:l.length≤9):1≤dX l∧dX l≤9:=by
 unfold dX
 split<;>omega
def gr (c:CodeD) (l:List ItemD) (k:Nat) (g:List Int):Int:=match l[k]? with
 |some it=>if d7 c l k = 0 then 0 else dT (cH g * ed c it) (10 * dX g)
 |none=>0
theorem nw {c:CodeD} {l:List ItemD} {k:Nat} {g:List Int} {it:ItemD} (hx:l[k]? = some it):gr c l k g = if d7 c l k = 0 then 0 else dT (cH g * ed c it) (10 * dX g):=by unfold gr;rw [hx]
def ge (g:List Int):Prop:=0 < g.length∧g.length≤9∧∀ x ∈ g,-5≤x∧x≤5
theorem nP {c:CodeD} {it:ItemD} (hc:CodeOk c) (hi:ItOk it) (hk:cx c it) {g:List Int} (hg:ge g):-110000≤cH g * ed c it∧cH g * ed c it≤110000:=by
 have h1:=iI (A:=5) (by omega) hg.1 hg.2.1 hg.2.2
 have h2:=lU hc hi hk
 have h3:=pS (a:=cH g) (b:=ed c it) (A:=55) (B:=2000) (by omega) (by omega) h2.1 h2.2
 omega
theorem nA {c:CodeD} {l:List ItemD} (hc:CodeOk c) (hl:ItsOk l) (hk:bX c l) {k:Nat} {g:List Int} (hg:ge g):-300000≤gr c l k g∧gr c l k g≤300000:=by
 cases hx:l[k]? with
 |none=>unfold gr;rw [hx];simp
 |some it=>
  rw [nw hx]
  have h1:=nP hc (hl.at_ hx) (hk k it hx) hg
  have h2:=iv hg.1 hg.2.1
  have h3:=iV (b:=10 * dX g) (B:=90) h1.1 h1.2 (by omega) (by omega)
  split<;>omega
def eW (c:CodeD) (l:List ItemD) (G:List (List Int)) (k:Nat):Int:=d7 c l k + gr c l k (G.getD k [])
def cj (c:CodeD) (l:List ItemD) (G:List (List Int)):List Int:=(List.range l.length).map (eW c l G)
end Go.Proofs.YtphakidbddamfaaGreat
namespace Go.Proofs.YtphakidbddamfaaGreat
open Go.RowKit
structure MarksD where
 grades:List (List Int)
 components:List (List Int)
structure SlipsD where
 falls:Int
 seconds:Int
 other:Int
structure PerfD where
 items:List ItemD
 marks:MarksD
 slips:SlipsD
@[reducible] def MarksD.cs (m:MarksD):List PV:=[.d (.lst 1 (m.grades.map (ax 1 aa))),.d (.lst 1 (m.components.map (ax 1 aa)))]
@[reducible] def SlipsD.cs (s:SlipsD):List PV:=[.d (.int .i64 s.falls),.d (.int .i64 s.seconds),.d (.int .i64 s.other)]
@[reducible] def PerfD.cs (p:PerfD):List PV:=[.d (.lst 3 (p.items.map ItemD.dat)),.d (.lst 1 (p.marks.grades.map (ax 1 aa))),.d (.lst 1 (p.marks.components.map (ax 1 aa))),.d (.int .i64 p.slips.falls),.d (.int .i64 p.slips.seconds),.d (.int .i64 p.slips.other)]
def LsFit (m:Nat) (l:List (List Int)):Prop:=l.length≤m∧∀ g ∈ l,g.length≤m
def MkFit (m:Nat) (x:MarksD):Prop:=LsFit m x.grades∧LsFit m x.components
def PfFit (m:Nat) (p:PerfD):Prop:=(p.items.length≤m∧∀ x ∈ p.items,ItFit m x)∧MkFit m p.marks
theorem LsFit.mono {m m':Nat} (h:m≤m') {l:List (List Int)} (hl:LsFit m l):LsFit m' l:=⟨Nat.le_trans hl.1 h,fun g hg=>Nat.le_trans (hl.2 g hg) h⟩
theorem MkFit.mono {m m':Nat} (h:m≤m') {x:MarksD} (hx:MkFit m x):MkFit m' x:=⟨hx.1.mono h,hx.2.mono h⟩
theorem PfFit.mono {m m':Nat} (h:m≤m') {p:PerfD} (hp:PfFit m p):PfFit m' p:=⟨⟨Nat.le_trans hp.1.1 h,fun x hx=>(hp.1.2 x hx).mono h⟩,hp.2.mono h⟩
def cd (m:MarksD):Nat:=(m.components.headD []).length
def jP (n:Nat) (_:Nat) (g:List Int):Prop:=g.length = n∧cB (-5) 5 g
def oq (_:Nat) (x:Int):Prop:=x.tmod 25 = 0
def iN (n:Nat) (_:Nat) (g:List Int):Prop:=g.length = n∧cB 0 1000 g∧All oq g
def MarksOk (m:MarksD):Prop:=m.components.length = 3∧m.grades.length≤14∧3≤cd m∧cd m≤9∧All (jP (cd m)) m.grades∧All (iN (cd m)) m.components
def eF (m:MarksD) (n:Int):Prop:=MarksOk m∧(m.grades.length:Int) = n
theorem MarksOk.grade {m:MarksD} (h:MarksOk m) {k:Nat} {g:List Int} (hg:m.grades[k]? = some g):ge g:=by
 obtain ⟨_,_,h1,h2,h3,_⟩:=h
 obtain ⟨h4,h5⟩:=h3 k g hg
 refine ⟨by omega,by omega,fun x hx=>?_⟩
 obtain ⟨i,hi⟩:=List.getElem?_of_mem hx
 exact h5 i x hi
def jc (g:List Int):Prop:=0 < g.length∧g.length≤9∧∀ x ∈ g,-1000≤x∧x≤1000
theorem MarksOk.comp {m:MarksD} (h:MarksOk m) {k:Nat} {g:List Int} (hg:m.components[k]? = some g):jc g:=by
 obtain ⟨_,_,h1,h2,_,h3⟩:=h
 obtain ⟨h4,h5,_⟩:=h3 k g hg
 refine ⟨by omega,by omega,fun x hx=>?_⟩
 obtain ⟨i,hi⟩:=List.getElem?_of_mem hx
 have:=h5 i x hi
 exact ⟨by have:=this.1;omega,this.2⟩
def eh (g:List Int):Int:=dT (cH g) (dX g)
theorem jK {g:List Int} (h:jc g):-30000≤eh g∧eh g≤30000:=by
 have h1:=iI (A:=1000) (by omega) h.1 h.2.1 h.2.2
 have h2:=iv h.1 h.2.1
 have h3:=iV (a:=cH g) (b:=dX g) (A:=11000) (B:=9) (by omega) (by omega) (by omega) h2.2
 unfold eh
 omega
def fB (falls:Int):Int:=if falls = 0 then 1000 else if falls = 1 then 950 else 900
def dB (m:MarksD) (top:Int):List Int:=m.components.map fun g=>min (eh g) top
def fS (m:MarksD) (falls:Int):Int:=(dB m (fB falls)).sum
theorem nM (falls:Int):900≤fB falls∧fB falls≤1000:=by
 unfold fB
 split
 ·omega
 ·split<;>omega
theorem nH {m:MarksD} (h:MarksOk m) {top:Int} (h1:900≤top) (h2:top≤1000):∀ x ∈ dB m top,-30000≤x∧x≤30000:=by
 intro x hx
 unfold dB at hx
 obtain ⟨g,hg,rfl⟩:=List.mem_map.1 hx
 obtain ⟨i,hi⟩:=List.getElem?_of_mem hg
 have:=jK (h.comp hi)
 omega
theorem qh {m:MarksD} (h:MarksOk m) (falls:Int):-90000≤fS m falls∧fS m falls≤90000:=by
 have h1:=nM falls
 have h2:=jr (nH h h1.1 h1.2)
 have h3:(dB m (fB falls)).length = 3:=by unfold dB;rw [ao,h.1]
 rw [h3] at h2
 unfold fS
 omega
def ez (f:Int):Prop:=10≤f∧f≤400
def dq (m:MarksD) (f falls:Int):Int:=dT (fS m falls * f) 100
theorem lS {m:MarksD} (h:MarksOk m) {f:Int} (hf:ez f) (falls:Int):-36000000≤fS m falls * f∧fS m falls * f≤36000000:=by
 have h1:=qh h falls
 have h2:=pS (a:=fS m falls) (b:=f) (A:=90000) (B:=400) (by omega) (by omega) (by have:=hf.1;omega) hf.2
 omega
theorem lC {m:MarksD} (h:MarksOk m) {f:Int} (hf:ez f) (falls:Int):-73000000≤dq m f falls∧dq m f falls≤73000000:=by
 have h1:=lS h hf falls
 have h2:=iV (b:=100) (B:=100) h1.1 h1.2 (by omega) (by omega)
 unfold dq
 omega
def ey (s:SlipsD):Prop:=0≤s.falls∧s.falls≤9∧0≤s.seconds∧s.seconds≤60∧0≤s.other∧s.other≤500
def eE (fall falls:Int):Int:=fall * (falls + max (falls - 2) 0 + max (falls - 4) 0)
def eN (s:Int):Int:=(s + 4).tdiv 5 * 100
def dV (c:CodeD) (s:SlipsD):Int:=eE c.fall s.falls + eN s.seconds + s.other
theorem f_ {fall falls:Int} (h1:0≤fall) (h2:fall≤500) (h3:0≤falls) (h4:falls≤9):0≤eE fall falls∧eE fall falls≤15000:=by
 have h:=fN (a:=fall) (b:=falls + max (falls - 2) 0 + max (falls - 4) 0) (A:=500) (B:=21) h1 h2 (by omega) (by omega)
 unfold eE
 omega
theorem lE {s:Int} (h1:0≤s) (h2:s≤60):0≤eN s∧eN s≤1200:=by
 unfold eN
 rw [Int.tdiv_eq_ediv_of_nonneg (by omega)]
 omega
theorem nN {c:CodeD} (hc:dz c) {s:SlipsD} (hs:ey s):0≤dV c s∧dV c s≤20000:=by
 obtain ⟨h1,h2,h3,h4,h5,h6⟩:=hs
 have h7:=hc.2.2.2.2.2.2.2.2.2
 have h8:=f_ h7.1 h7.2 h1 h2
 have h9:=lE h3 h4
 unfold dV
 omega
def h_ (fall:Int) (n:Nat):Int:=((List.range n).map fun k:Nat=>fall * min 3 ((k:Int) / 2 + 1)).sum
theorem mU (fall:Int) (n:Nat):h_ fall (n + 1) = h_ fall n + fall * min 3 ((n:Int) / 2 + 1):=by unfold h_;rw [List.range_succ];simp
theorem pI (fall:Int):∀ n:Nat,n≤9→h_ fall n = eE fall (n:Int):=by
 intro n hn
 have h:∀ n:Nat,h_ fall n = fall * ((List.range n).map fun k:Nat=>min 3 ((k:Int) / 2 + 1)).sum:=by
  intro n
  induction n with
  |zero=>simp [h_]
  |succ n ih=>rw [mU,ih,List.range_succ];simp [Int.mul_add]
 rw [h,eE]
 congr 1
 match n,hn with
 |0,_|1,_|2,_|3,_|4,_|5,_|6,_|7,_|8,_|9,_=>decide
def di (c:CodeD) (p:PerfD):Prop:=CodeOk c∧ItsOk p.items∧bX c p.items∧MarksOk p.marks∧p.marks.grades.length = p.items.length∧ey p.slips
def bO (c:CodeD) (p:PerfD) (f:Int):Prop:=di c p∧ez f
def dt (c:CodeD) (p:PerfD):Int:=(cj c p.items p.marks.grades).sum
def bF (c:CodeD) (p:PerfD) (f:Int):Int:=max (dt c p + dq p.marks f p.slips.falls - dV c p.slips) 0
theorem uN {c:CodeD} {p:PerfD} (h:di c p) {k:Nat} (hk:k < p.items.length):-15000000≤eW c p.items p.marks.grades k∧eW c p.items p.marks.grades k≤15000000:=by
 obtain ⟨hc,hi,hn,hm,hl,_⟩:=h
 have h1:=l9 hc hi hn k
 have hg:=List.getElem?_eq_getElem (show k < p.marks.grades.length by omega)
 have h2:=nA hc hi hn (k:=k) (hm.grade hg)
 unfold eW
 rw [List.getD_eq_getElem?_getD,hg,Option.getD_some]
 omega
theorem lh (c:CodeD) (l:List ItemD) (G:List (List Int)):(cj c l G).length = l.length:=by simp [cj]
theorem jx {c:CodeD} {p:PerfD} (h:di c p):∀ x ∈ cj c p.items p.marks.grades,-15000000≤x∧x≤15000000:=by
 intro x hx
 unfold cj at hx
 obtain ⟨k,hk,rfl⟩:=List.mem_map.1 hx
 exact uN h (by simpa using hk)
theorem l6 {c:CodeD} {p:PerfD} (h:di c p):-210000000≤dt c p∧dt c p≤210000000:=by
 have h1:=jr (jx h)
 rw [lh] at h1
 have h2:=h.2.1.1
 unfold dt
 omega
theorem gd {c:CodeD} {p:PerfD} {f:Int} (h:bO c p f):0≤bF c p f∧bF c p f≤400000000:=by
 have h1:=l6 h.1
 have h2:=lC h.1.2.2.2.1 h.2 p.slips.falls
 have h3:=nN h.1.1.2.2 h.1.2.2.2.2.2
 unfold bF
 omega
end Go.Proofs.YtphakidbddamfaaGreat
namespace Go.Proofs.YtphakidbddamfaaGreat
open Go.RowKit
structure InquiryD where
 tick:Int
 item:Int
 name:Int
 mark:Int
 acc:Bool
def InquiryD.enc (x:InquiryD):List Value:=[.int .i64 x.tick,.int .i64 x.item,.int .i64 x.name,.int .i64 x.mark,.bool x.acc]
theorem InquiryD.eq {x y:InquiryD} (h0:x.tick = y.tick) (h1:x.item = y.item) (h2:x.name = y.name) (h3:x.mark = y.mark) (h4:x.acc = y.acc):x = y:=by cases x;cases y;cases h0;cases h1;cases h2;cases h3;cases h4;rfl
end Go.Proofs.YtphakidbddamfaaGreat
namespace Go.Proofs.YtphakidbddamfaaGreat
open Go.RowKit
def Loc.at (l:Loc) (b:Nat):Prop:=∃ c,l = .blk b c
section rules
variable {P:Program} {o:Oper} {s:AS} {K:AS→Prop}
end rules
end Go.Proofs.YtphakidbddamfaaGreat
set_option linter.unusedSimpArgs false
set_option linter.unusedVariables false
set_option maxHeartbeats 2000000
set_option maxRecDepth 100000
namespace Go.Proofs.YtphakidbddamfaaGreat
open Go.ChangeShapes Go.WideShapes Go.ChangeAt Go.RowKit Go.Deep
theorem wK {xs:List Int} {e:List D} (he:e ∈ xs.map aa) {d:D} (hd:d ∈ e):d.sc:=by
 obtain ⟨x,_,rfl⟩:=List.mem_map.1 he
 rw [show aa x = [.int .i64 x] from rfl,List.mem_singleton] at hd
 subst hd
 simp [D.sc]
theorem bU (xs:List Int):i7 (xs.map aa):=fun _ he _ hd=>wK he hd
section
variable {H:Type} {enc:TypeId × Value→H} {w:World} {base:Nat} {spare:Nat→Bool} {held:Bool}
end
end Go.Proofs.YtphakidbddamfaaGreat
set_option linter.unusedSimpArgs false
set_option linter.unusedVariables false
set_option maxHeartbeats 2000000
set_option maxRecDepth 100000
namespace Go.Proofs.YtphakidbddamfaaGreat
open Go.ChangeShapes Go.WideShapes Go.ChangeAt Go.RowKit Go.Deep
def InquiryD.dat (x:InquiryD):List D:=[.int .i64 x.tick,.int .i64 x.item,.int .i64 x.name,.int .i64 x.mark,.bool x.acc]
section
variable {H:Type} {enc:TypeId × Value→H} {w:World} {base:Nat} {spare:Nat→Bool} {held:Bool}
end
end Go.Proofs.YtphakidbddamfaaGreat
namespace Go.Proofs.YtphakidbddamfaaGreat
open Go.RowKit
def i8 (x:ItemD) (j:Nat) (m:Int):ItemD:=⟨x.names,x.marks.set j m,x.late⟩
def cv (l:List ItemD) (x:InquiryD):List ItemD:=if x.acc = true then (match l[x.item.toNat]? with
 |some it=>l.set x.item.toNat (i8 it x.name.toNat x.mark)
 |none=>l) else l
def de (l:List ItemD) (q:List InquiryD) (k:Nat):List ItemD:=(q.take k).foldl cv l
theorem fE (l:List ItemD) (q:List InquiryD):de l q 0 = l:=rfl
theorem oD {l:List ItemD} {q:List InquiryD} {k:Nat} {x:InquiryD} (hx:q[k]? = some x):de l q (k + 1) = cv (de l q k) x:=by unfold de;rw [bJ hx,List.foldl_append];rfl
theorem gH (l:List ItemD) (x:InquiryD):(cv l x).length = l.length:=by
 unfold cv
 split
 ·split<;>simp
 ·rfl
theorem gi (l:List ItemD) (q:List InquiryD):∀ k,(de l q k).length = l.length:=by
 intro k
 unfold de
 generalize q.take k = r
 induction r generalizing l with
 |nil=>rfl
 |cons x r ih=>rw [List.foldl_cons,ih,gH]
def wo (a b:ItemD):Prop:=a.names = b.names∧a.marks.length = b.marks.length∧a.late = b.late
theorem mN {l:List ItemD} {x:InquiryD} {i:Nat} {a:ItemD} (ha:l[i]? = some a):∃ b,(cv l x)[i]? = some b∧wo b a:=by
 unfold cv
 split
 ·split
  ·rename_i it hit
   by_cases e:x.item.toNat = i
   ·subst e
    have hlt:=(List.getElem?_eq_some_iff.1 hit).1
    rw [hit] at ha
    cases ha
    exact ⟨i8 a x.name.toNat x.mark,by rw [List.getElem?_set,if_pos rfl,if_pos hlt],rfl,by simp [i8],rfl⟩
   ·exact ⟨a,by rw [List.getElem?_set,if_neg e];exact ha,rfl,rfl,rfl⟩
  ·exact ⟨a,ha,rfl,rfl,rfl⟩
 ·exact ⟨a,ha,rfl,rfl,rfl⟩
theorem uY {l:List ItemD} {q:List InquiryD} {i:Nat} {a:ItemD} (ha:l[i]? = some a) (k:Nat):∃ b,(de l q k)[i]? = some b∧wo b a:=by
 unfold de
 generalize q.take k = r
 induction r generalizing l a with
 |nil=>exact ⟨a,ha,rfl,rfl,rfl⟩
 |cons x r ih=>
  obtain ⟨b,hb,h1,h2,h3⟩:=mN (x:=x) ha
  obtain ⟨c,hc,h4,h5,h6⟩:=ih hb
  exact ⟨c,hc,h4.trans h1,h5.trans h2,h6.trans h3⟩
def HasNm (l:List ItemD) (i j:Int):Prop:=0≤i∧0≤j∧∃ x,l[i.toNat]? = some x∧j < (x.names.length:Int)
def ij (q:List InquiryD) (k:Nat):Int:=if k = 0 then 0 else (q.getD (k - 1) ⟨0,0,0,0,false⟩).tick
def nf (l:List ItemD) (i j:Nat):Int:=((l[i]?.map ItemD.marks).getD []).getD j 0
def e_ (l:List ItemD) (q:List InquiryD) (k:Nat) (x:InquiryD):Prop:=0≤x.tick∧x.tick≤100000∧ij q k≤x.tick∧HasNm l x.item x.name∧0≤x.mark∧x.mark≤3∧nf (de l q k) x.item.toNat x.name.toNat≠x.mark
def eG (l:List ItemD) (q:List InquiryD):Prop:=All (e_ l q) q
theorem HasNm.there {l:List ItemD} {q:List InquiryD} (hv:ItsOk l) {i j:Int} (h:HasNm l i j) (k:Nat):∃ a b m,l[i.toNat]? = some a∧(de l q k)[i.toNat]? = some b∧b.names = a.names∧b.marks.length = a.marks.length∧j.toNat < a.names.length∧a.marks.length = a.names.length∧b.marks[j.toNat]? = some m∧nf (de l q k) i.toNat j.toNat = m:=by
 obtain ⟨h1,h2,a,ha,h3⟩:=h
 obtain ⟨b,hb,h4,h5,h6⟩:=uY (q:=q) ha k
 have h7:=(hv.at_ ha).2.2.2.1
 have h8:j.toNat < b.marks.length:=by omega
 refine ⟨a,b,b.marks[j.toNat],ha,hb,h4,h5,by omega,h7,List.getElem?_eq_getElem h8,?_⟩
 unfold nf
 rw [hb,ar,Option.getD_some,List.getD_eq_getElem?_getD,List.getElem?_eq_getElem h8]
 rfl
end Go.Proofs.YtphakidbddamfaaGreat
namespace Go.Proofs.YtphakidbddamfaaGreat
open Go.RowKit
theorem vl {x:ItemD} (h:ItOk x) (j:Nat) {m:Int} (h1:0≤m) (h2:m≤3):ItOk (i8 x j m):=by
 obtain ⟨a1,a2,a3,a4,a5⟩:=h
 refine ⟨a1,a2,a3,by simp [i8];exact a4,fun i y hy=>?_⟩
 simp only [i8,List.getElem?_set] at hy
 split at hy
 ·split at hy
  ·cases hy;exact ⟨h1,h2⟩
  ·cases hy
 ·exact a5 i y hy
theorem vc {l:List ItemD} {x:InquiryD} (h:ItsOk l) (h1:0≤x.mark) (h2:x.mark≤3):ItsOk (cv l x):=by
 refine ⟨by rw [gH];exact h.1,fun i y hy=>?_⟩
 unfold cv at hy
 split at hy
 ·split at hy
  ·rename_i it hit
   rw [List.getElem?_set] at hy
   split at hy
   ·split at hy
    ·cases hy;exact vl (h.at_ hit) _ h1 h2
    ·cases hy
   ·exact h.2 i y hy
  ·exact h.2 i y hy
 ·exact h.2 i y hy
def cW (p:PerfD) (l:List ItemD):PerfD:=⟨l,p.marks,p.slips⟩
theorem vJ {c:CodeD} {p:PerfD} {f:Int} (h:bO c p f) {l:List ItemD} (hl:ItsOk l) (hn:l.length = p.items.length) (hk:∀ (i:Nat) (a:ItemD),p.items[i]? = some a→∃ b:ItemD,l[i]? = some b∧b.names = a.names):bO c (cW p l) f:=by
 obtain ⟨⟨h1,h2,h3,h4,h5,h6⟩,h7⟩:=h
 refine ⟨⟨h1,hl,fun i x hx=>?_,h4,by simp only [cW];omega,h6⟩,h7⟩
 have hi:=(List.getElem?_eq_some_iff.1 hx).1
 have hi2:i < p.items.length:=by simp only [cW] at hi;omega
 have ha:=List.getElem?_eq_getElem hi2
 obtain ⟨b,hb,hbn⟩:=hk i _ ha
 have e:x = b:=by
  simp only [cW] at hx
  rw [hb] at hx
  cases hx
  rfl
 subst e
 have h8:cx c p.items[i]:=h3 i _ ha
 show cx c x
 unfold cx at h8 ⊢
 rw [hbn]
 exact h8
def dR (i k m:Int):InquiryD:=⟨0,i,k,m,true⟩
theorem iu {c:CodeD} {p:PerfD} {f:Int} (h:bO c p f) {i k m:Int} (h1:0≤m) (h2:m≤3):bO c (cW p (cv p.items (dR i k m))) f:=
 vJ h (vc h.1.2.1 h1 h2) (gH _ _) fun j a ha=>by
  obtain ⟨b,hb,hl,_⟩:=mN (x:=dR i k m) ha
  exact ⟨b,hb,hl⟩
noncomputable def bm (c:CodeD) (p:PerfD) (f:Int) (x:InquiryD):Option Int:=ix (bO c p f∧eG p.items [x]) (bF c (cW p (cv p.items (dR x.item x.name x.mark))) f - bF c p f)
end Go.Proofs.YtphakidbddamfaaGreat
