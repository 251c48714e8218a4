/-
  Scores of items: their words, with bounds. No program is named here.
-/
import Derived.Test.YtphakidbddamfaaGreatZCw
import Derived.Test.YtphakidbddamfaaGreatZIq
import Derived.Test.YtphakidbddamfaaGreatZOrd
namespace Go.Proofs.YtphakidbddamfaaGreat
open Go.RowKit
def oo (a b:Int):Int:=if a.tmod b < 0 then a.tdiv b - 1 else a.tdiv b
def dX (a b:Int):Int:=oo (2 * a + b) (2 * b)
theorem d6 (a b A:Int) (h1:-A≤a) (h2:a≤A):-A≤a.tdiv b∧a.tdiv b≤A:=by
 have h:=Int.natAbs_tdiv_le_natAbs a b
 omega
theorem xf {a b A:Int} (h1:-A≤a) (h2:a≤A):-A - 1≤oo a b∧oo a b≤A:=by
 have h:=d6 a b A h1 h2
 unfold oo
 split<;>omega
theorem nz {a b A:Int} (h1:-A≤a) (h2:a≤A):-A≤a.tmod b∧a.tmod b≤A:=by
 have h:(a.tmod b).natAbs≤a.natAbs:=by rw [Int.natAbs_tmod];exact Nat.mod_le _ _
 omega
theorem iA {a b A B:Int} (h1:-A≤a) (h2:a≤A) (h3:0≤b) (h4:b≤B):-(2 * A + B) - 1≤dX a b∧dX a b≤2 * A + B:=
 xf (by omega) (by omega)
theorem i4 {A:Int}:∀ {l:List Int},(∀ x ∈ l,-A≤x∧x≤A)→-(A * (l.length:Int))≤l.sum∧l.sum≤A * (l.length:Int)
 |[],_=>by simp
 |x::l,h=>by
  have h1:=h x (by simp)
  have h2:=i4 (l:=l) fun y hy=>h y (List.mem_cons_of_mem _ hy)
  have h3:A * ((l.length + 1:Nat):Int) = A * (l.length:Int) + A:=by rw [Int.natCast_add,Int.mul_add];simp
  rw [List.sum_cons,aR,h3]
  omega
theorem ub {A:Int}:∀ {l:List Int},(∀ x ∈ l,0≤x∧x≤A)→0≤l.sum∧l.sum≤A * (l.length:Int)
 |[],_=>by simp
 |x::l,h=>by
  have h1:=h x (by simp)
  have h2:=ub (l:=l) fun y hy=>h y (List.mem_cons_of_mem _ hy)
  have h3:A * ((l.length + 1:Nat):Int) = A * (l.length:Int) + A:=by rw [Int.natCast_add,Int.mul_add];simp
  rw [List.sum_cons,aR,h3]
  omega
theorem gc {l:List Int} {k:Nat} {x:Int} (hx:l[k]? = some x):(l.take (k + 1)).sum = (l.take k).sum + x:=by rw [bW hx];simp
def ey (xs:List Int):Int:=(xs.drop 1).foldl max (xs.headD 0)
def eL (xs:List Int):Int:=(xs.drop 1).foldl min (xs.headD 0)
def cu (c:CodeD) (it:ItemD):Prop:=All (fun _ nm=>0≤bL c nm) it.names
def bU (c:CodeD) (l:List ItemD):Prop:=All (fun _ it=>cu c it) l
def bC (c:CodeD) (it:ItemD):List Int:=(it.names.zip it.marks).map fun p=>eX c p.1 p.2
theorem dQ {c:CodeD} {it:ItemD} (h:ItOk it):(bC c it).length = it.names.length:=by unfold bC;rw [an,List.length_zip,h.2.2.2.1];simp
theorem iT {c:CodeD} {it:ItemD} {k:Nat} {nm:ByteArray} {m:Int} (h1:it.names[k]? = some nm) (h2:it.marks[k]? = some m):(bC c it)[k]? = some (eX c nm m):=by
 unfold bC
 rw [ap,List.getElem?_zip_eq_some (z:=(nm,m)).2 ⟨h1,h2⟩]
 rfl
theorem fL {c:CodeD} {it:ItemD} (hc:CodeOk c) (hk:cu c it):∀ x ∈ bC c it,0≤x∧x≤2000:=by
 intro x hx
 unfold bC at hx
 obtain ⟨⟨nm,m⟩,hp,rfl⟩:=List.mem_map.1 hx
 obtain ⟨i,hi⟩:=List.getElem?_of_mem (List.of_mem_zip hp).1
 exact uu hc m (hk i nm hi)
def dm (c:CodeD) (it:ItemD):Int:=if it.late = true then dX ((bC c it).sum * (100 + c.bonus)) 100 else (bC c it).sum
theorem jD {c:CodeD} {it:ItemD} (hc:CodeOk c) (hi:ItOk it) (hk:cu c it):0≤(bC c it).sum∧(bC c it).sum≤6000:=by
 have h1:=ub (fL hc hk)
 rw [dQ hi] at h1
 have h2:=hi.2.2.1
 omega
theorem lM {c:CodeD} {it:ItemD} (hc:CodeOk c) (hi:ItOk it) (hk:cu c it):-2000000≤dm c it∧dm c it≤2000000:=by
 have h1:=jD hc hi hk
 have h2:=hc.2.2
 unfold dm
 split
 ·have h3:=fY (a:=(bC c it).sum) (b:=100 + c.bonus) (A:=6000) (B:=120) h1.1 h1.2 (by have:=h2.2.2.2.2.2.1;omega) (by have:=h2.2.2.2.2.2.2.1;omega)
  have h4:=iA (a:=(bC c it).sum * (100 + c.bonus)) (b:=100) (A:=720000) (B:=100) (by omega) (by omega) (by omega) (by omega)
  omega
 ·omega
def bZ (it:ItemD):ByteArray:=it.names.headD ByteArray.empty
def jm (it:ItemD):Int:=it.marks.headD 0
def ek (nm:ByteArray) (it:ItemD):Bool:=decide (bZ it = nm) && decide (jm it≠3)
def f8 (l:List ItemD) (k:Nat):Nat:=cn (ek (((l[k]?).map bZ).getD ByteArray.empty)) (l.take k)
theorem iL {it:ItemD} (h:ItOk it):it.names[0]? = some (bZ it):=by
 have h1:=h.2.1
 unfold bZ
 cases hn:it.names with
 |nil=>rw [hn] at h1;simp at h1
 |cons a b=>rfl
theorem n9 {it:ItemD} (h:ItOk it):it.marks[0]? = some (jm it):=by
 have h1:=h.2.1
 have h2:=h.2.2.2.1
 unfold jm
 cases hn:it.marks with
 |nil=>rw [hn] at h2;simp at h2;omega
 |cons a b=>rfl
def d7 (c:CodeD) (l:List ItemD) (k:Nat):Int:=match l[k]? with
 |some it=>if (f8 l k:Int) < c.repeats then dm c it else if (f8 l k:Int) = c.repeats then (dm c it * 7).tdiv 10 else 0
 |none=>0
theorem mc {c:CodeD} {l:List ItemD} {k:Nat} {it:ItemD} (hx:l[k]? = some it):d7 c l k = if (f8 l k:Int) < c.repeats then dm c it else if (f8 l k:Int) = c.repeats then (dm c it * 7).tdiv 10 else 0:=by unfold d7;rw [hx]
theorem l6 {c:CodeD} {l:List ItemD} (hc:CodeOk c) (hl:ItsOk l) (hk:bU c l) (k:Nat):-14000000≤d7 c l k∧d7 c l k≤14000000:=by
 cases hx:l[k]? with
 |none=>unfold d7;rw [hx];simp
 |some it=>
  rw [mc hx]
  have h1:=lM hc (hl.at_ hx) (hk k it hx)
  have h2:=d6 (dm c it * 7) 10 14000000 (by omega) (by omega)
  split
  ·omega
  ·split<;>omega
def ee (c:CodeD) (it:ItemD):Int:=ey (bC c it)
def cG (xs:List Int):Int:=if xs.length < 5 then xs.sum else xs.sum - ey xs - eL xs
def d5 (xs:List Int):Int:=if xs.length < 5 then (xs.length:Int) else (xs.length:Int) - 2
theorem j6 {A B:Int}:∀ {l:List Int} {a:Int},(A≤a∧a≤B)→(∀ x ∈ l,A≤x∧x≤B)→A≤l.foldl max a∧l.foldl max a≤B
 |[],_,h,_=>h
 |x::l,a,h,hl=>by
  have h1:=hl x (by simp)
  exact j6 (l:=l) (a:=max a x) (by omega) fun y hy=>hl y (List.mem_cons_of_mem _ hy)
theorem kl {A B:Int}:∀ {l:List Int} {a:Int},(A≤a∧a≤B)→(∀ x ∈ l,A≤x∧x≤B)→A≤l.foldl min a∧l.foldl min a≤B
 |[],_,h,_=>h
 |x::l,a,h,hl=>by
  have h1:=hl x (by simp)
  exact kl (l:=l) (a:=min a x) (by omega) fun y hy=>hl y (List.mem_cons_of_mem _ hy)
theorem kQ {A B:Int} {l:List Int} (h0:0 < l.length) (h:∀ x ∈ l,A≤x∧x≤B):A≤ey l∧ey l≤B:=by
 cases l with
 |nil=>simp at h0
 |cons a l=>exact j6 (h a (by simp)) fun y hy=>h y (List.mem_cons_of_mem _ hy)
theorem m_ {A B:Int} {l:List Int} (h0:0 < l.length) (h:∀ x ∈ l,A≤x∧x≤B):A≤eL l∧eL l≤B:=by
 cases l with
 |nil=>simp at h0
 |cons a l=>exact kl (h a (by simp)) fun y hy=>h y (List.mem_cons_of_mem _ hy)
theorem lE {c:CodeD} {it:ItemD} (hc:CodeOk c) (hi:ItOk it) (hk:cu c it):0≤ee c it∧ee c it≤2000:=
 kQ (by rw [dQ hi];have:=hi.2.1;omega) (fL hc hk)
theorem g_ {A:Int} {l:List Int} (hA:0≤A) (h0:0 < l.length) (h9:l.length≤9) (h:∀ x ∈ l,-A≤x∧x≤A):-(11 * A)≤cG l∧cG l≤11 * A:=by
 have h1:=i4 h
 have h2:=kQ h0 h
 have h3:=m_ h0 h
 have h4:A * (l.length:Int)≤A * 9:=Int.mul_le_mul_of_nonneg_left (by omega) hA
 unfold cG
 split<;>omega
theorem gW {l:List Int} (h0:0 < l.length) (h9:l.length≤9):1≤d5 l∧d5 l≤9:=by
 unfold d5
 split<;>omega
def f5 (c:CodeD) (l:List ItemD) (k:Nat) (g:List Int):Int:=match l[k]? with
 |some it=>if d7 c l k = 0 then 0 else dX (cG g * ee c it) (10 * d5 g)
 |none=>0
theorem no {c:CodeD} {l:List ItemD} {k:Nat} {g:List Int} {it:ItemD} (hx:l[k]? = some it):f5 c l k g = if d7 c l k = 0 then 0 else dX (cG g * ee c it) (10 * d5 g):=by unfold f5;rw [hx]
def kt (g:List Int):Prop:=0 < g.length∧g.length≤9∧∀ x ∈ g,-5≤x∧x≤5
theorem nl {c:CodeD} {it:ItemD} (hc:CodeOk c) (hi:ItOk it) (hk:cu c it) {g:List Int} (hg:kt g):-110000≤cG g * ee c it∧cG g * ee c it≤110000:=by
 have h1:=g_ (A:=5) (by omega) hg.1 hg.2.1 hg.2.2
 have h2:=lE hc hi hk
 have h3:=pS (a:=cG g) (b:=ee c it) (A:=55) (B:=2000) (by omega) (by omega) h2.1 h2.2
 omega
theorem nj {c:CodeD} {l:List ItemD} (hc:CodeOk c) (hl:ItsOk l) (hk:bU c l) {k:Nat} {g:List Int} (hg:kt g):-300000≤f5 c l k g∧f5 c l k g≤300000:=by
 cases hx:l[k]? with
 |none=>unfold f5;rw [hx];simp
 |some it=>
  rw [no hx]
  have h1:=nl hc (hl.at_ hx) (hk k it hx) hg
  have h2:=gW hg.1 hg.2.1
  have h3:=iA (b:=10 * d5 g) (B:=90) h1.1 h1.2 (by omega) (by omega)
  split<;>omega
def eU (c:CodeD) (l:List ItemD) (G:List (List Int)) (k:Nat):Int:=d7 c l k + f5 c l k (G.getD k [])
def cb (c:CodeD) (l:List ItemD) (G:List (List Int)):List Int:=(List.range l.length).map (eU c l G)
end Go.Proofs.YtphakidbddamfaaGreat
namespace Go.Proofs.YtphakidbddamfaaGreat
open Go.RowKit
structure MarksD where
 grades:List (List Int)
 components:List (List Int)
structure SlipsD where
 falls:Int
 seconds:Int
 other:Int
structure PerfD where
 items:List ItemD
 marks:MarksD
 slips:SlipsD
@[reducible] def MarksD.cs (m:MarksD):List PV:=[.d (.lst 1 (m.grades.map (aF 1 ab))),.d (.lst 1 (m.components.map (aF 1 ab)))]
@[reducible] def SlipsD.cs (s:SlipsD):List PV:=[.d (.int .i64 s.falls),.d (.int .i64 s.seconds),.d (.int .i64 s.other)]
@[reducible] def PerfD.cs (p:PerfD):List PV:=[.d (.lst 3 (p.items.map ItemD.dat)),.d (.lst 1 (p.marks.grades.map (aF 1 ab))),.d (.lst 1 (p.marks.components.map (aF 1 ab))),.d (.int .i64 p.slips.falls),.d (.int .i64 p.slips.seconds),.d (.int .i64 p.slips.other)]
def LsFit (m:Nat) (l:List (List Int)):Prop:=l.length≤m∧∀ g ∈ l,g.length≤m
def MkFit (m:Nat) (x:MarksD):Prop:=LsFit m x.grades∧LsFit m x.components
def PfFit (m:Nat) (p:PerfD):Prop:=(p.items.length≤m∧∀ x ∈ p.items,ItFit m x)∧MkFit m p.marks
theorem LsFit.mono {m m':Nat} (h:m≤m') {l:List (List Int)} (hl:LsFit m l):LsFit m' l:=⟨Nat.le_trans hl.1 h,fun g hg=>Nat.le_trans (hl.2 g hg) h⟩
theorem MkFit.mono {m m':Nat} (h:m≤m') {x:MarksD} (hx:MkFit m x):MkFit m' x:=⟨hx.1.mono h,hx.2.mono h⟩
theorem PfFit.mono {m m':Nat} (h:m≤m') {p:PerfD} (hp:PfFit m p):PfFit m' p:=⟨⟨Nat.le_trans hp.1.1 h,fun x hx=>(hp.1.2 x hx).mono h⟩,hp.2.mono h⟩
def bX (m:MarksD):Nat:=(m.components.headD []).length
def jd (n:Nat) (_:Nat) (g:List Int):Prop:=g.length = n∧cv (-5) 5 g
def nT (_:Nat) (x:Int):Prop:=x.tmod 25 = 0
def ig (n:Nat) (_:Nat) (g:List Int):Prop:=g.length = n∧cv 0 1000 g∧All nT g
def MarksOk (m:MarksD):Prop:=m.components.length = 3∧m.grades.length≤14∧3≤bX m∧bX m≤9∧All (jd (bX m)) m.grades∧All (ig (bX m)) m.components
def eJ (m:MarksD) (n:Int):Prop:=MarksOk m∧(m.grades.length:Int) = n
theorem MarksOk.grade {m:MarksD} (h:MarksOk m) {k:Nat} {g:List Int} (hg:m.grades[k]? = some g):kt g:=by
 obtain ⟨_,_,h1,h2,h3,_⟩:=h
 obtain ⟨h4,h5⟩:=h3 k g hg
 refine ⟨by omega,by omega,fun x hx=>?_⟩
 obtain ⟨i,hi⟩:=List.getElem?_of_mem hx
 exact h5 i x hi
def pv (g:List Int):Prop:=0 < g.length∧g.length≤9∧∀ x ∈ g,-1000≤x∧x≤1000
theorem MarksOk.comp {m:MarksD} (h:MarksOk m) {k:Nat} {g:List Int} (hg:m.components[k]? = some g):pv g:=by
 obtain ⟨_,_,h1,h2,_,h3⟩:=h
 obtain ⟨h4,h5,_⟩:=h3 k g hg
 refine ⟨by omega,by omega,fun x hx=>?_⟩
 obtain ⟨i,hi⟩:=List.getElem?_of_mem hx
 have:=h5 i x hi
 exact ⟨by have:=this.1;omega,this.2⟩
def ev (g:List Int):Int:=dX (cG g) (d5 g)
theorem jt {g:List Int} (h:pv g):-30000≤ev g∧ev g≤30000:=by
 have h1:=g_ (A:=1000) (by omega) h.1 h.2.1 h.2.2
 have h2:=gW h.1 h.2.1
 have h3:=iA (a:=cG g) (b:=d5 g) (A:=11000) (B:=9) (by omega) (by omega) (by omega) h2.2
 unfold ev
 omega
def fD (falls:Int):Int:=if falls = 0 then 1000 else if falls = 1 then 950 else 900
def dt (m:MarksD) (top:Int):List Int:=m.components.map fun g=>min (ev g) top
def fU (m:MarksD) (falls:Int):Int:=(dt m (fD falls)).sum
theorem nb (falls:Int):900≤fD falls∧fD falls≤1000:=by
 unfold fD
 split
 ·omega
 ·split<;>omega
theorem m5 {m:MarksD} (h:MarksOk m) {top:Int} (h1:900≤top) (h2:top≤1000):∀ x ∈ dt m top,-30000≤x∧x≤30000:=by
 intro x hx
 unfold dt at hx
 obtain ⟨g,hg,rfl⟩:=List.mem_map.1 hx
 obtain ⟨i,hi⟩:=List.getElem?_of_mem hg
 have:=jt (h.comp hi)
 omega
theorem qz {m:MarksD} (h:MarksOk m) (falls:Int):-90000≤fU m falls∧fU m falls≤90000:=by
 have h1:=nb falls
 have h2:=i4 (m5 h h1.1 h1.2)
 have h3:(dt m (fD falls)).length = 3:=by unfold dt;rw [an,h.1]
 rw [h3] at h2
 unfold fU
 omega
def ez (f:Int):Prop:=10≤f∧f≤400
def dj (m:MarksD) (f falls:Int):Int:=dX (fU m falls * f) 100
theorem l8 {m:MarksD} (h:MarksOk m) {f:Int} (hf:ez f) (falls:Int):-36000000≤fU m falls * f∧fU m falls * f≤36000000:=by
 have h1:=qz h falls
 have h2:=pS (a:=fU m falls) (b:=f) (A:=90000) (B:=400) (by omega) (by omega) (by have:=hf.1;omega) hf.2
 omega
theorem pR {m:MarksD} (h:MarksOk m) {f:Int} (hf:ez f) (falls:Int):-73000000≤dj m f falls∧dj m f falls≤73000000:=by
 have h1:=l8 h hf falls
 have h2:=iA (b:=100) (B:=100) h1.1 h1.2 (by omega) (by omega)
 unfold dj
 omega
def ew (s:SlipsD):Prop:=0≤s.falls∧s.falls≤9∧0≤s.seconds∧s.seconds≤60∧0≤s.other∧s.other≤500
def eE (fall falls:Int):Int:=fall * (falls + max (falls - 2) 0 + max (falls - 4) 0)
def eQ (s:Int):Int:=(s + 4).tdiv 5 * 100
def d4 (c:CodeD) (s:SlipsD):Int:=eE c.fall s.falls + eQ s.seconds + s.other
theorem gf {fall falls:Int} (h1:0≤fall) (h2:fall≤500) (h3:0≤falls) (h4:falls≤9):0≤eE fall falls∧eE fall falls≤15000:=by
 have h:=fY (a:=fall) (b:=falls + max (falls - 2) 0 + max (falls - 4) 0) (A:=500) (B:=21) h1 h2 (by omega) (by omega)
 unfold eE
 omega
theorem l5 {s:Int} (h1:0≤s) (h2:s≤60):0≤eQ s∧eQ s≤1200:=by
 unfold eQ
 rw [Int.tdiv_eq_ediv_of_nonneg (by omega)]
 omega
theorem rH {c:CodeD} (hc:dx c) {s:SlipsD} (hs:ew s):0≤d4 c s∧d4 c s≤20000:=by
 obtain ⟨h1,h2,h3,h4,h5,h6⟩:=hs
 have h7:=hc.2.2.2.2.2.2.2.2.2
 have h8:=gf h7.1 h7.2 h1 h2
 have h9:=l5 h3 h4
 unfold d4
 omega
def gE (fall:Int) (n:Nat):Int:=((List.range n).map fun k:Nat=>fall * min 3 ((k:Int) / 2 + 1)).sum
theorem mv (fall:Int) (n:Nat):gE fall (n + 1) = gE fall n + fall * min 3 ((n:Int) / 2 + 1):=by unfold gE;rw [List.range_succ];simp
theorem qu (fall:Int):∀ n:Nat,n≤9→gE fall n = eE fall (n:Int):=by
 intro n hn
 have h:∀ n:Nat,gE fall n = fall * ((List.range n).map fun k:Nat=>min 3 ((k:Int) / 2 + 1)).sum:=by
  intro n
  induction n with
  |zero=>simp [gE]
  |succ n ih=>rw [mv,ih,List.range_succ];simp [Int.mul_add]
 rw [h,eE]
 congr 1
 match n,hn with
 |0,_|1,_|2,_|3,_|4,_|5,_|6,_|7,_|8,_|9,_=>decide
def cB (c:CodeD) (p:PerfD):Prop:=CodeOk c∧ItsOk p.items∧bU c p.items∧MarksOk p.marks∧p.marks.grades.length = p.items.length∧ew p.slips
def dK (c:CodeD) (p:PerfD) (f:Int):Prop:=cB c p∧ez f
def dk (c:CodeD) (p:PerfD):Int:=(cb c p.items p.marks.grades).sum
def eh (c:CodeD) (p:PerfD) (f:Int):Int:=max (dk c p + dj p.marks f p.slips.falls - d4 c p.slips) 0
theorem uL {c:CodeD} {p:PerfD} (h:cB c p) {k:Nat} (hk:k < p.items.length):-15000000≤eU c p.items p.marks.grades k∧eU c p.items p.marks.grades k≤15000000:=by
 obtain ⟨hc,hi,hn,hm,hl,_⟩:=h
 have h1:=l6 hc hi hn k
 have hg:=List.getElem?_eq_getElem (show k < p.marks.grades.length by omega)
 have h2:=nj hc hi hn (k:=k) (hm.grade hg)
 unfold eU
 rw [List.getD_eq_getElem?_getD,hg,Option.getD_some]
 omega
theorem lu (c:CodeD) (l:List ItemD) (G:List (List Int)):(cb c l G).length = l.length:=by simp [cb]
theorem jk {c:CodeD} {p:PerfD} (h:cB c p):∀ x ∈ cb c p.items p.marks.grades,-15000000≤x∧x≤15000000:=by
 intro x hx
 unfold cb at hx
 obtain ⟨k,hk,rfl⟩:=List.mem_map.1 hx
 exact uL h (by simpa using hk)
theorem pW {c:CodeD} {p:PerfD} (h:cB c p):-210000000≤dk c p∧dk c p≤210000000:=by
 have h1:=i4 (jk h)
 rw [lu] at h1
 have h2:=h.2.1.1
 unfold dk
 omega
end Go.Proofs.YtphakidbddamfaaGreat
namespace Go.Proofs.YtphakidbddamfaaGreat
open Go.RowKit
theorem u_ {x:ItemD} (h:ItOk x) (j:Nat) {m:Int} (h1:0≤m) (h2:m≤3):ItOk (jf x j m):=by
 obtain ⟨a1,a2,a3,a4,a5⟩:=h
 refine ⟨a1,a2,a3,by simp [jf];exact a4,fun i y hy=>?_⟩
 simp only [jf,List.getElem?_set] at hy
 split at hy
 ·split at hy
  ·cases hy;exact ⟨h1,h2⟩
  ·cases hy
 ·exact a5 i y hy
theorem vB {l:List ItemD} {x:InquiryD} (h:ItsOk l) (h1:0≤x.mark) (h2:x.mark≤3):ItsOk (fz l x):=by
 refine ⟨by rw [nJ];exact h.1,fun i y hy=>?_⟩
 unfold fz at hy
 split at hy
 ·split at hy
  ·rename_i it hit
   rw [List.getElem?_set] at hy
   split at hy
   ·split at hy
    ·cases hy;exact u_ (h.at_ hit) _ h1 h2
    ·cases hy
   ·exact h.2 i y hy
  ·exact h.2 i y hy
 ·exact h.2 i y hy
theorem lO {l:List ItemD} {q:List InquiryD} (h:ItsOk l) (hq:cz l q):∀ k,k≤q.length→ItsOk (bS l q k)
 |0,_=>h
 |k + 1,hk=>by
  have hx:=List.getElem?_eq_getElem (show k < q.length by omega)
  have ha:=hq k _ hx
  rw [j9 hx]
  exact vB (lO h hq k (by omega)) ha.2.2.2.2.1 ha.2.2.2.2.2.1
def dz (p:PerfD) (l:List ItemD):PerfD:=⟨l,p.marks,p.slips⟩
theorem vF {c:CodeD} {p:PerfD} {f:Int} (h:dK c p f) {l:List ItemD} (hl:ItsOk l) (hn:l.length = p.items.length) (hk:∀ (i:Nat) (a:ItemD),p.items[i]? = some a→∃ b:ItemD,l[i]? = some b∧b.names = a.names):dK c (dz p l) f:=by
 obtain ⟨⟨h1,h2,h3,h4,h5,h6⟩,h7⟩:=h
 refine ⟨⟨h1,hl,fun i x hx=>?_,h4,by simp only [dz];omega,h6⟩,h7⟩
 have hi:=(List.getElem?_eq_some_iff.1 hx).1
 have hi2:i < p.items.length:=by simp only [dz] at hi;omega
 have ha:=List.getElem?_eq_getElem hi2
 obtain ⟨b,hb,hbn⟩:=hk i _ ha
 have e:x = b:=by
  simp only [dz] at hx
  rw [hb] at hx
  cases hx
  rfl
 subst e
 have h8:cu c p.items[i]:=h3 i _ ha
 show cu c x
 unfold cu at h8 ⊢
 rw [hbn]
 exact h8
theorem lV {c:CodeD} {p:PerfD} {f:Int} (h:dK c p f) {q:List InquiryD} (hq:cz p.items q):dK c (dz p (bS p.items q q.length)) f:=
 vF h (lO h.1.2.1 hq _ (Nat.le_refl _)) (dq _ _ _) fun i a ha=>by
  obtain ⟨b,hb,h1,_⟩:=fI (q:=q) ha q.length
  exact ⟨b,hb,h1⟩
theorem kq {m:Nat} {p:PerfD} (h:PfFit m p) {l:List ItemD} (hn:l.length≤m) (hl:∀ x ∈ l,ItFit m x):PfFit m (dz p l):=⟨⟨hn,hl⟩,h.2⟩
noncomputable def bG (c:CodeD) (p:PerfD) (f:Int) (q:List InquiryD):Option Int:=lY (dK c p f∧cz p.items q∧q.length≤20) (eh c (dz p (bS p.items q q.length)) f)
end Go.Proofs.YtphakidbddamfaaGreat
namespace Go.Proofs.YtphakidbddamfaaGreat
open Go.RowKit
def jC (t:Int) (x:ChangeD):InquiryD:=⟨x.tick,x.item,x.name,x.mark,decide (x.tick≤t)⟩
def eI (t:Int) (l:List ItemD) (h:List ChangeD) (k:Nat):List ItemD:=bS l (h.map (jC t)) k
theorem uc (t:Int) (l:List ItemD) (h:List ChangeD):eI t l h 0 = l:=rfl
theorem lR (t:Int) (l:List ItemD) (h:List ChangeD) (k:Nat):(eI t l h k).length = l.length:=dq _ _ _
def x_ (l:List ItemD) (h:List ChangeD) (k:Nat) (x:ChangeD):Prop:=0≤x.tick∧x.tick≤100000∧(∀ y,0 < k→h[k - 1]? = some y→y.tick≤x.tick)∧(1≤x.caller∧x.caller≤9)∧HasNm l x.item x.name∧(0≤x.mark∧x.mark≤3)∧x.review = false
def i5 (l:List ItemD) (h:List ChangeD):Prop:=All (x_ l h) h∧h.length≤60
theorem vt {m:Nat} {l:List ItemD} (hs:∀ r ∈ l,ItFit m r) (hm:∀ (i:Nat) (a b:ItemD),l[i]? = some a→b.names = a.names→b.marks.length = a.marks.length→ItFit m a→ItFit m b) (q:List InquiryD) (k:Nat):∀ r ∈ bS l q k,ItFit m r:=by
 intro r hr
 obtain ⟨i,hi,he⟩:=List.mem_iff_getElem.1 hr
 have hil:=dq l q k
 have hl:i < l.length:=by omega
 obtain ⟨b,hb,h1,h2,_⟩:=fI (q:=q) (List.getElem?_eq_getElem hl) k
 rw [List.getElem?_eq_getElem hi,he] at hb
 cases hb
 exact hm i _ _ (List.getElem?_eq_getElem hl) h1 h2 (hs _ (List.getElem_mem hl))
theorem ItFit.like {m:Nat} {a b:ItemD} (h1:b.names = a.names) (h2:b.marks.length = a.marks.length) (h:ItFit m a):ItFit m b:=⟨by rw [h1];exact h.1,by rw [h1];exact h.2.1,by rw [h2];exact h.2.2⟩
theorem kD {m:Nat} {l:List ItemD} (hs:∀ r ∈ l,ItFit m r) (q:List InquiryD) (k:Nat):∀ r ∈ bS l q k,ItFit m r:=vt hs (fun _ _ _ _ h1 h2 h=>h.like h1 h2) q k
theorem HasNm.to {l:List ItemD} {i j:Int} (h:HasNm l i j) (q:List InquiryD) (k:Nat):HasNm (bS l q k) i j:=by
 obtain ⟨h1,h2,a,ha,h3⟩:=h
 obtain ⟨b,hb,h4,_⟩:=fI (q:=q) ha k
 exact ⟨h1,h2,b,hb,by rw [h4];exact h3⟩
theorem u9 {l:List ItemD} {q:List InquiryD} (h:cz l q):q.Pairwise fun a b=>a.tick≤b.tick:=by
 rw [List.pairwise_iff_getElem]
 intro i j hi hj hij
 obtain ⟨d,rfl⟩:∃ d,j = i + 1 + d:=⟨j - i - 1,by omega⟩
 induction d with
 |zero=>
  have:=(h (i + 1) _ (List.getElem?_eq_getElem hj)).2.2.1
  rw [gu (by omega) (by rw [Nat.add_sub_cancel];exact List.getElem?_eq_getElem hi)] at this
  exact this
 |succ d ih=>
  have h1:=ih (by omega) (by omega)
  have:=(h (i + 1 + (d + 1)) _ (List.getElem?_eq_getElem hj)).2.2.1
  rw [gu (p:=q[i + 1 + d]) (by omega) (by rw [show i + 1 + (d + 1) - 1 = i + 1 + d by omega];exact List.getElem?_eq_getElem (by omega))] at this
  exact Int.le_trans h1 this
theorem sr {q:List InquiryD} {y:ChangeD} (h:y ∈ ca q):∃ x ∈ q,gQ x = y:=by
 obtain ⟨x,h1,_,h2⟩:=fm_mem.1 h
 exact ⟨x,h1,h2⟩
theorem wS {l:List ItemD} {q:List InquiryD} (h:cz l q) (hq:q.length≤20):i5 l (ca q):=by
 have hl:(ca q).length≤q.length:=qk _ _ _
 refine ⟨fun k x hx=>?_,by omega⟩
 obtain ⟨z,hz,rfl⟩:=sr (List.mem_of_getElem? hx)
 obtain ⟨i,hi,rfl⟩:=List.mem_iff_getElem.1 hz
 obtain ⟨h1,h2,_,h4,h5,h6,_⟩:=h i _ (List.getElem?_eq_getElem hi)
 refine ⟨h1,h2,fun y hk hy=>?_,⟨by simp [gQ],by simp [gQ]⟩,h4,⟨h5,h6⟩,rfl⟩
 have hp:(ca q).Pairwise fun a b=>a.tick≤b.tick:=by
  unfold ca fm
  rw [List.pairwise_map]
  exact (u9 h).filter _
 obtain ⟨e1,e2⟩:=List.getElem?_eq_some_iff.1 hx
 obtain ⟨e3,e4⟩:=List.getElem?_eq_some_iff.1 hy
 have:=List.pairwise_iff_getElem.1 hp (k - 1) k e3 e1 (by omega)
 rw [e2,e4] at this
 exact this
theorem vy {l:List ItemD} {q:List InquiryD} {t:Int} (h:∀ x ∈ q,x.tick≤t):eI t l (ca q) (ca q).length = bS l q q.length:=by
 unfold eI bS ca fm
 rw [List.take_of_length_le (by simp),List.take_length]
 induction q generalizing l with
 |nil=>rfl
 |cons x q ih=>
  have ih':=fun l=>ih (l:=l) fun y hy=>h y (List.mem_cons_of_mem _ hy)
  have hx:=h x (by simp)
  cases ha:x.acc with
  |true=>
   rw [List.filter_cons_of_pos (by simpa using ha),aJ,aJ,List.foldl_cons,List.foldl_cons]
   have e:jC t (gQ x) = x:=by
    cases x
    simp only at ha hx
    simp [jC,gQ,ha,hx]
   rw [e]
   exact ih' _
  |false=>
   rw [List.filter_cons_of_neg (by simp [ha]),List.foldl_cons]
   have e:fz l x = l:=by unfold fz;rw [if_neg (by rw [ha];simp)]
   rw [e]
   exact ih' _
theorem lF {t:Int} {l:List ItemD} {h:List ChangeD} {k:Nat} {x:ChangeD} {b:ItemD} (hx:h[k]? = some x) (hb:(eI t l h k)[x.item.toNat]? = some b) (ht:x.tick≤t):((eI t l h k).map ItemD.dat).set x.item.toNat [.lst 1 (b.names.map aZ),.lst 1 ((b.marks.map ab).set x.name.toNat [.int .i64 x.mark]),.bool b.late] = (eI t l h (k + 1)).map ItemD.dat:=
 jK (x:=jC t x) (by rw [ap,hx];rfl) hb (by simp [jC,ht])
theorem px {t:Int} {l:List ItemD} {h:List ChangeD} {k:Nat} {x:ChangeD} (hx:h[k]? = some x) (ht:¬ x.tick≤t):eI t l h (k + 1) = eI t l h k:=
 jI (x:=jC t x) (by rw [ap,hx];rfl) (by simp [jC];omega)
end Go.Proofs.YtphakidbddamfaaGreat
namespace Go.Proofs.YtphakidbddamfaaGreat
open Go.RowKit
theorem kv {X0:Nat→Prop} {w0:Base} {m:Mp} {s:AS} {a:Act} {w:World} (hs:Sim X0 w0 m s a w) {ops:Array Oper} {j:Nat} {b:Bool} (h1:yB ops s j = .d (.bool b)):yielded ops a.tmps j = some b:=by
 unfold yB at h1
 cases hd:(ops[j]?).bind (·.dst) with
 |none=>rw [hd] at h1;cases h1
 |some t=>
  rw [hd] at h1
  have h4:=hs.get (.tmp t)
  have h1':lk s.fr.l t = .d (.bool b):=h1
  simp only [AS.get] at h4
  rw [h1'] at h4
  have h5:a.tmps.getD t undef = .bool b:=h4.bool
  have h6:a.tmps[t]? = some (.bool b):=by
   rw [Array.getD_eq_getD_getElem?] at h5
   cases ht:a.tmps[t]? with
   |none=>rw [ht] at h5;cases h5
   |some u=>rw [ht] at h5;simp at h5;rw [h5]
  unfold yielded
  rw [hd]
  simp [h6]
section
variable {P:Program} {ops:Array Oper} {K:AS→Prop} {fuel:Nat} {listed:Array Bool} {s:AS}
theorem dA (i j:Nat) {o:Oper} {x:PV} {d:Tmp} {want:Bool} (hi:ops[i]? = some o) (hg:o.guard = some (j,want)) (hd:o.dst = some d) (hr:(Region.ready .any ops listed).contains i = true) (hy:yB ops s j = .d (.bool want)) (hs:Region.noSelect ops = true) (hf:Region.free .any ops listed i = true)
  (hp:fZ P o s x) (h:eB P ops K fuel (listed.setIfInBounds i true) (s.put (some d) x)):eB P ops K (fuel + 1) listed s:=by
 rw [←hd] at h
 intro X0 w0 m a w Q' hN hQ hs'
 obtain ⟨v,h1,h2⟩:=hp m.loc _ w a hs'.get
 exact wpAny_take hi hs hf hr (fun c a w h=>absurd h (hN c _ _)) (.inl ⟨by simp [Region.wanted,hg,kv hs' hy],h1⟩) (h X0 w0 m (a.put o.dst v) w Q' hN hQ (hs'.put h2 o.dst))
theorem eg (i j:Nat) {o:Oper} {d:Tmp} {want b:Bool} (hi:ops[i]? = some o) (hg:o.guard = some (j,want)) (hd:o.dst = some d) (hr:(Region.ready .any ops listed).contains i = true) (hy:yB ops s j = .d (.bool b)) (hb:b≠want) (hs:Region.noSelect ops = true) (hf:Region.free .any ops listed i = true)
  (h:eB P ops K fuel (listed.setIfInBounds i true) (s.put (some d) (.tup []))):eB P ops K (fuel + 1) listed s:=by
 rw [←hd] at h
 intro X0 w0 m a w Q' hN hQ hs'
 exact wpAny_take hi hs hf hr (fun c a w h=>absurd h (hN c _ _)) (.inr ⟨by simp [Region.wanted,hg,kv hs' hy,hb],rfl⟩) (h X0 w0 m (a.put o.dst undef) w Q' hN hQ (hs'.put (lT _ _ _) o.dst))
end
end Go.Proofs.YtphakidbddamfaaGreat
