/-
  The inquiries that win: the program's function and the reference's, in the abstract machine.
-/
import Derived.Test.YtphakidbddamfaaGreatZMh
set_option linter.unusedSimpArgs false
set_option linter.unusedVariables false
set_option maxHeartbeats 2000000
set_option maxRecDepth 100000
namespace Go.Proofs.YtphakidbddamfaaGreat
open Go.RowKit
def wH (c:CodeD) (a b:PerfD) (f:Int) (w:List (List Int)) (k:Nat):List (List D):=((w.take k).map fun x=>if fV c a b f x = true then [D.hole] else ax 1 aa x)++(w.drop k).map (ax 1 aa)
theorem rL (c:CodeD) (a b:PerfD) (f:Int) (w:List (List Int)):wH c a b f w 0 = w.map (ax 1 aa):=by simp [wH]
theorem uM (c:CodeD) (a b:PerfD) (f:Int) {w:List (List Int)} {k:Nat} (hk:k≤w.length):(wH c a b f w k).length = w.length:=by simp [wH];omega
theorem uU (c:CodeD) (a b:PerfD) (f:Int) {w:List (List Int)} {k:Nat} {x:List Int} (hx:w[k]? = some x):(wH c a b f w k)[k]? = some (ax 1 aa x):=by
 have hk:=(List.getElem?_eq_some_iff.1 hx).1
 unfold wH
 rw [List.getElem?_append_right (by simp;omega)]
 simp [hx,Nat.min_eq_left (Nat.le_of_lt hk)]
theorem qM (c:CodeD) (a b:PerfD) (f:Int) {w:List (List Int)} {k:Nat} {x:List Int} (hx:w[k]? = some x):wH c a b f w (k + 1) = ((w.take k).map fun x=>if fV c a b f x = true then [D.hole] else ax 1 aa x)++(if fV c a b f x = true then [D.hole] else ax 1 aa x)::(w.drop (k + 1)).map (ax 1 aa):=by
 unfold wH;rw [bJ hx];simp
theorem sf (c:CodeD) (a b:PerfD) (f:Int) {w:List (List Int)} {k:Nat} {x:List Int} (hx:w[k]? = some x):wH c a b f w k = ((w.take k).map fun x=>if fV c a b f x = true then [D.hole] else ax 1 aa x)++ax 1 aa x::(w.drop (k + 1)).map (ax 1 aa):=by
 have hk:=(List.getElem?_eq_some_iff.1 hx).1
 have e:w[k] = x:=by rw [List.getElem?_eq_getElem hk] at hx;exact Option.some.inj hx
 unfold wH;rw [List.drop_eq_getElem_cons hk,e];rfl
theorem uz {c:CodeD} {a b:PerfD} {f:Int} {w:List (List Int)} {k:Nat} {x:List Int} (hx:w[k]? = some x) (h:fV c a b f x = true):(wH c a b f w k).set k [.hole] = wH c a b f w (k + 1):=by
 have hk:=(List.getElem?_eq_some_iff.1 hx).1
 rw [sf c a b f hx,qM c a b f hx,if_pos h,List.set_append_right _ _ (by simp;omega)]
 simp [Nat.min_eq_left (Nat.le_of_lt hk)]
theorem vX {c:CodeD} {a b:PerfD} {f:Int} {w:List (List Int)} {k:Nat} {x:List Int} (hx:w[k]? = some x) (h:fV c a b f x = false):wH c a b f w (k + 1) = wH c a b f w k:=by
 rw [sf c a b f hx,qM c a b f hx,if_neg (by rw [h];simp)]
theorem mZ (c:CodeD) (a b:PerfD) (f:Int) (hcf:CdFit 1048576 c) (haf:PfFit 1048576 a) (hbf:PfFit 1048576 b) (hA:¬ (bO c a f∧bO c b f)):FnEq Tryz.prog 26 [.agg c.cs,.agg a.cs,.agg b.cs,.d (.int .i64 f)] [.row 23 1 [],.d (.bool false)]:=by
 have hs0:=ee c a f hcf haf
 have hs1:=ee c b f hcf hbf
 refine aN ae Tryz.func26 rfl rfl ?_;simp only [Tryz.ntmps26,aP,aK,Nat.reduceAdd,Nat.reduceSub,aV]
 by_cases h1:bO c a f
 ·have hb1:=aW h1
  have hb2:=aL fun h2:bO c b f=>hA ⟨h1,h2⟩
  rw [hb1] at hs0
  rw [hb2] at hs1
  repeat' (first|((with_reducible first|(apply hK;clear hK K)|refine ah fun U O=>?_|apply ag|(apply Z<;>(intro hc;try simp at hc;try omega)))<;>try simp only [go_sem])|(with_reducible first|apply aj|(apply O;clear O U)|refine kN gT fun K hK=>?_|refine kO fun K hK=>?_|refine aI ?_)|(refine xS rfl fun U O=>?_;simp only [go_sem])|((with_reducible apply CallK.eq);(· with_reducible first|exact hs0|exact hs1);(· simp [RV.flat,D.sc,aa]);try simp only [go_sem])|apply iB)
  all_goals first
   |(exfalso;omega)
   |(refine ak rfl (by simp only [bj,bn,ab,lk,ao,aK,List.length_append,List.length_take,if_true,if_false,Nat.reduceEqDiff,Nat.reduceBEq,Bool.false_eq_true,Option.some.injEq];rfl) (by simp [am,lk]) ?_;rfl)
 ·have hb1:=aL h1
  rw [hb1] at hs0
  repeat' (first|((with_reducible first|(apply hK;clear hK K)|refine ah fun U O=>?_|apply ag|(apply Z<;>(intro hc;try simp at hc;try omega)))<;>try simp only [go_sem])|(with_reducible first|apply aj|(apply O;clear O U)|refine kN gT fun K hK=>?_|refine kO fun K hK=>?_|refine aI ?_)|(refine xS rfl fun U O=>?_;simp only [go_sem])|((with_reducible apply CallK.eq);(· with_reducible first|exact hs0|exact hs1);(· simp [RV.flat,D.sc,aa]);try simp only [go_sem])|apply iB)
  all_goals first
   |(exfalso;omega)
   |(refine ak rfl (by simp only [bj,bn,ab,lk,ao,aK,List.length_append,List.length_take,if_true,if_false,Nat.reduceEqDiff,Nat.reduceBEq,Bool.false_eq_true,Option.some.injEq];rfl) (by simp [am,lk]) ?_;rfl)
theorem lN (c:CodeD) (a b:PerfD) (f:Int) (hcf:CdFit 1048576 c) (haf:PfFit 1048576 a) (hbf:PfFit 1048576 b) (hA:bO c a f∧bO c b f):FnEq Tryz.prog 26 [.agg c.cs,.agg a.cs,.agg b.cs,.d (.int .i64 f)] [.deep 23 1 ((ny c a b f).map (ax 1 aa)),.d (.bool true)]:=by
 have hs0:=ee c a f hcf haf
 have hs0b:=ee c b f hcf hbf
 rw [aW hA.1] at hs0
 rw [aW hA.2] at hs0b
 have hs2b:=d8 c b f hA.2
 have hv:=hA.1.1.2.1
 have ho:=jZ a.items hv
 have hlen:=fO hv
 have hmem:∀ x ∈ bI a.items,∃ i k m:Int,x = [i,k,m]∧HasNm a.items i k∧0≤m∧m≤3:=fun x hx=>(eA hx).nm hv
 have hww:ny c a b f = dn c a b f (bI a.items) (bI a.items).length:=rfl
 rw [hww]
 generalize bI a.items = w at ho hlen hmem
 refine aN ae Tryz.func26 rfl rfl ?_;simp only [Tryz.ntmps26,aP,aK,Nat.reduceAdd,Nat.reduceSub,aV]
 repeat' (first|((with_reducible first|(apply hK;clear hK K)|refine ah fun U O=>?_|apply ag|(apply Z<;>(intro hc;try simp at hc;try omega)))<;>try simp only [go_sem])|(with_reducible first|apply aj|(apply O;clear O U)|refine kN gT fun K hK=>?_|refine kO fun K hK=>?_|refine aI ?_)|(refine xS rfl fun U O=>?_;simp only [go_sem])|((with_reducible apply CallK.eq);(· with_reducible first|exact hs0|exact hs0b|exact hs2b|exact ho);(· simp [RV.flat,D.sc,aa]);try simp only [go_sem])|apply iB)
 all_goals first
  |(exfalso;omega)
  |skip
 refine cS 6 rfl (fun _ h=>by cases h) ?_
 simp only [go_sem]
 refine aA [8,9,10,13,35,36,37,38,39,40,41,42,43,44,45,46,47,48,49,50,51,52,53,54,55,56,57,58,59,60,61] (fun k:Nat=>[(35,.d (.int .i64 (k:Int))),(10,.row 1 (dn c a b f w k).length),(33,.row 0 w.length),(26,.und),(4,.bptr 2 0),(5,.bptr 3 0),(6,.bptr 4 0)]) (fun k=>[(0,.deep 0 23 1 (wH c a b f w k)),(1,.deep 0 23 1 ((dn c a b f w k).map (ax 1 aa))),(2,.box 42 c.cs),(3,.box 48 a.cs),(4,.box 48 b.cs)]) 5 (fun k=>k≤w.length) (fun k=>w.length - k) 0 (Nat.zero_le _) (an [] (by simp [lk,ab,mA,rL]<;>omega)) ?_
 intro k hk;simp only [bc,wipe,wl,bb,bx,rm,if_true,if_false,Nat.reduceEqDiff,Bool.false_eq_true,reduceCtorEq]
 have ht1:Int.toNat 1 = 1:=rfl
 have ht2:Int.toNat 2 = 2:=rfl
 have hwl:=uM c a b f hk
 have hwt:=km c a b f w k
 by_cases hlt:k < w.length
 ·have hx:=List.getElem?_eq_getElem hlt
  have hxm:=List.getElem_mem hlt
  generalize w[k] = x at hx hxm
  obtain ⟨i,n,m,rfl,hN,hm1,hm2⟩:=hmem x hxm
  have hg:=uU c a b f hx
  have hsc:eV c a f [i,n,m] = bF c (cW a (cv a.items (dR i n m))) f:=rfl
  have hc1:=dS (jd a.items i n m haf.1.1 haf.1.2 hv hN)
  simp only [aH,aG,RV.data] at hc1
  have hs1:=iQ c a f _ (iu (i:=i) (k:=n) hA.1 hm1 hm2)
  generalize bF c (cW a (cv a.items (dR i n m))) f = v at hs1 hsc
  by_cases hgt:bF c b f < v
  ·have hwin:bF c b f < eV c a f [i,n,m]:=by rw [hsc];exact hgt
   have hto:=od hx hwin
   have hH:=uz hx (show fV c a b f [i,n,m] = true from decide_eq_true hwin)
   have hsl:ce (wH c a b f w k) k 0 .hole = wH c a b f w (k + 1):=by rw [←hH];unfold ce;rw [hg];rfl
   repeat' (first|((with_reducible first|(apply hK;clear hK K)|refine ah fun U O=>?_|apply ag|(apply Z<;>(intro hc;try simp at hc;try omega)))<;>try simp only [go_sem,ap,hg,ar,ax,aa,hlt,hwl,aH,aG])|(with_reducible first|apply aj|(apply O;clear O U)|refine kN gT fun K hK=>?_|refine kO fun K hK=>?_|refine aI ?_)|(refine xS rfl fun U O=>?_;simp only [go_sem,ap,hg,ar,ax,aa,hlt,hwl,aH,aG])|apply iB)
   refine fk gT ay [[4],[5],[3],[5],[42],[13],[44],[45],[13],[47],[48],[13],[50],[51],[43,46,49,52],[39,40,41,53],[11],[54,55]] 63 rfl (by decide +kernel) (fun K hK=>?_)
   repeat (first|(apply iY rfl rfl;(· simp only [go_sem,bk,aB,aD,aE,aa,ax,ht1,ht2,hg,hwl,hlt,aH,aG];with_reducible first|exact hc1|exact hs1);(· first|rfl|simp [bk,AS.get,lk,dM,fl,fC]);try simp only [go_sem,bk,aB,aD,aE,aa,ax,ht1,ht2,hg,hwl,hlt,aH,aG])|(apply io rfl rfl;(· simp only [go_sem,bk,aB,aD,aE,aa,ax,ht1,ht2,hg,hwl,hlt,aH,aG];with_reducible first|exact hc1|exact hs1);(· first|rfl|simp [bk,AS.get,lk,dM,fl,fC]);try simp only [go_sem,bk,aB,aD,aE,aa,ax,ht1,ht2,hg,hwl,hlt,aH,aG])|(apply hU (ds:=[]) rfl rfl;(· simp only [go_sem,bk,aB,aD,aE,aa,ax,ht1,ht2,hg,hwl,hlt,aH,aG];with_reducible first|exact hc1|exact hs1);(· first|rfl|simp [bk,AS.get,lk,dM,fl,fC]);try simp only [go_sem,bk,aB,aD,aE,aa,ax,ht1,ht2,hg,hwl,hlt,aH,aG])|(refine fJ ae fun KP hKP=>?_;simp only [go_sem,bk,aB,aD,aE,aa,ax,ht1,ht2,hg,hwl,hlt,aH,aG];repeat (first|(with_reducible refine hKP _ ?_;clear hKP KP)|((with_reducible apply CallQ.eqs);(· with_reducible first|exact hc1|exact hs1);(· first|exact rfl|(simp [RV.flat,D.sc,aa];done));try simp only [go_sem,bk,aB,aD,aE,aa,ax,ht1,ht2,hg,hwl,hlt,aH,aG])|with_reducible refine aI ?_|(with_reducible refine Z ?_ ?_<;>(intro hc;(try simp only [go_sem,bk,aB,aD,aE,aa,ax,ht1,ht2,hg,hwl,hlt,aH,aG]);(try simp at hc);try (exfalso;omega))));try simp only [go_sem,bk,aB,aD,aE,aa,ax,ht1,ht2,hg,hwl,hlt,aH,aG]))
   refine iG ?_
   refine hK _ ?_
   clear hK K
   try simp only [go_sem,bk,aB,aD,aE,aa,ax,ht1,ht2,hg,hwl,hlt,aH,aG]
   repeat' (first|((with_reducible first|(apply hK;clear hK K)|refine ah fun U O=>?_|apply ag|(apply Z<;>(intro hc;try simp at hc;try omega)))<;>try simp only [go_sem,hgt])|(with_reducible first|apply aj|(apply O;clear O U)|refine kN gT fun K hK=>?_|refine kO fun K hK=>?_|refine aI ?_)|(refine xS rfl fun U O=>?_;simp only [go_sem,hgt])|apply iB)
   all_goals first
    |(exfalso;omega)
    |skip
   refine kL (id:=5) (par:=0) (k:=k) (j:=0) rfl rfl (show cU _ _ _ = some (1,[i,n,m].map aa) by simp [cU,hg,ax]) (by simp [fK]) fun ty2=>?_
   simp only [bf,hsl,if_true,if_false,Nat.reduceEqDiff,reduceCtorEq,Nat.zero_ne_one]
   refine bq (cs:=[.row 5 3]) (ds:=ax 1 aa [i,n,m]) rfl (ae _ _ gK) (by decide) rfl (by simp [dm,dA,ab,D.scB,ax,aa]) (by simp [a9]) (by simp only [cD,cr,ab,if_true,if_false,Nat.reduceEqDiff];exact ⟨trivial,trivial⟩) ?_
   repeat' (first|((with_reducible first|(apply hK;clear hK K)|refine ah fun U O=>?_|apply ag|(apply Z<;>(intro hc;try simp at hc;try omega)))<;>try simp only [go_sem,ax])|(with_reducible first|apply aj|(apply O;clear O U)|refine kN gT fun K hK=>?_|refine kO fun K hK=>?_|refine aI ?_)|(refine xS rfl fun U O=>?_;simp only [go_sem,ax])|apply iB)
   refine bG (es:=(dn c a b f w k).map (ax 1 aa)) (fs:=[ax 1 aa [i,n,m]]) (n:=(dn c a b f w k).length) (n2:=1) rfl (ae _ _ gK) rfl rfl rfl rfl (by decide) (by simp) rfl (by exact True.intro) (by exact True.intro) (by simp<;>omega) ?_
   repeat' (first|((with_reducible first|(apply hK;clear hK K)|refine ah fun U O=>?_|apply ag|(apply Z<;>(intro hc;try simp at hc;try omega)))<;>try simp only [go_sem,ax])|(with_reducible first|apply aj|(apply O;clear O U)|refine kN gT fun K hK=>?_|refine kO fun K hK=>?_|refine aI ?_)|(refine xS rfl fun U O=>?_;simp only [go_sem,ax])|apply iB)
   exact ⟨k + 1,by omega,by omega,(an [] (by simp [lk,ab,hto,ax]<;>omega))⟩
  ·have hno:¬ bF c b f < eV c a f [i,n,m]:=by rw [hsc];exact hgt
   have hto:=qn hx hno
   have hH:=vX hx (show fV c a b f [i,n,m] = false from decide_eq_false hno)
   repeat' (first|((with_reducible first|(apply hK;clear hK K)|refine ah fun U O=>?_|apply ag|(apply Z<;>(intro hc;try simp at hc;try omega)))<;>try simp only [go_sem,ap,hg,ar,ax,aa,hlt,hwl,aH,aG])|(with_reducible first|apply aj|(apply O;clear O U)|refine kN gT fun K hK=>?_|refine kO fun K hK=>?_|refine aI ?_)|(refine xS rfl fun U O=>?_;simp only [go_sem,ap,hg,ar,ax,aa,hlt,hwl,aH,aG])|apply iB)
   refine fk gT ay [[4],[5],[3],[5],[42],[13],[44],[45],[13],[47],[48],[13],[50],[51],[43,46,49,52],[39,40,41,53],[11],[54,55]] 63 rfl (by decide +kernel) (fun K hK=>?_)
   repeat (first|(apply iY rfl rfl;(· simp only [go_sem,bk,aB,aD,aE,aa,ax,ht1,ht2,hg,hwl,hlt,aH,aG];with_reducible first|exact hc1|exact hs1);(· first|rfl|simp [bk,AS.get,lk,dM,fl,fC]);try simp only [go_sem,bk,aB,aD,aE,aa,ax,ht1,ht2,hg,hwl,hlt,aH,aG])|(apply io rfl rfl;(· simp only [go_sem,bk,aB,aD,aE,aa,ax,ht1,ht2,hg,hwl,hlt,aH,aG];with_reducible first|exact hc1|exact hs1);(· first|rfl|simp [bk,AS.get,lk,dM,fl,fC]);try simp only [go_sem,bk,aB,aD,aE,aa,ax,ht1,ht2,hg,hwl,hlt,aH,aG])|(apply hU (ds:=[]) rfl rfl;(· simp only [go_sem,bk,aB,aD,aE,aa,ax,ht1,ht2,hg,hwl,hlt,aH,aG];with_reducible first|exact hc1|exact hs1);(· first|rfl|simp [bk,AS.get,lk,dM,fl,fC]);try simp only [go_sem,bk,aB,aD,aE,aa,ax,ht1,ht2,hg,hwl,hlt,aH,aG])|(refine fJ ae fun KP hKP=>?_;simp only [go_sem,bk,aB,aD,aE,aa,ax,ht1,ht2,hg,hwl,hlt,aH,aG];repeat (first|(with_reducible refine hKP _ ?_;clear hKP KP)|((with_reducible apply CallQ.eqs);(· with_reducible first|exact hc1|exact hs1);(· first|exact rfl|(simp [RV.flat,D.sc,aa];done));try simp only [go_sem,bk,aB,aD,aE,aa,ax,ht1,ht2,hg,hwl,hlt,aH,aG])|with_reducible refine aI ?_|(with_reducible refine Z ?_ ?_<;>(intro hc;(try simp only [go_sem,bk,aB,aD,aE,aa,ax,ht1,ht2,hg,hwl,hlt,aH,aG]);(try simp at hc);try (exfalso;omega))));try simp only [go_sem,bk,aB,aD,aE,aa,ax,ht1,ht2,hg,hwl,hlt,aH,aG]))
   refine iG ?_
   refine hK _ ?_
   clear hK K
   try simp only [go_sem,bk,aB,aD,aE,aa,ax,ht1,ht2,hg,hwl,hlt,aH,aG]
   repeat' (first|((with_reducible first|(apply hK;clear hK K)|refine ah fun U O=>?_|apply ag|(apply Z<;>(intro hc;try simp at hc;try omega)))<;>try simp only [go_sem,hgt])|(with_reducible first|apply aj|(apply O;clear O U)|refine kN gT fun K hK=>?_|refine kO fun K hK=>?_|refine aI ?_)|(refine xS rfl fun U O=>?_;simp only [go_sem,hgt])|apply iB)
   all_goals first
    |(exfalso;omega)
    |exact ⟨k + 1,by omega,by omega,(an [] (by simp [lk,ab,hto,←hH]<;>omega))⟩
 ·obtain rfl:k = w.length:=by omega
  repeat' (first|((with_reducible first|(apply hK;clear hK K)|refine ah fun U O=>?_|apply ag|(apply Z<;>(intro hc;try simp at hc;try omega)))<;>try simp only [go_sem])|(with_reducible first|apply aj|(apply O;clear O U)|refine kN gT fun K hK=>?_|refine kO fun K hK=>?_|refine aI ?_)|(refine xS rfl fun U O=>?_;simp only [go_sem])|apply iB)
  all_goals first
   |(exfalso;omega)
   |(refine ak rfl (by simp only [bj,bn,ab,lk,ao,aK,List.length_append,List.length_take,if_true,if_false,Nat.reduceEqDiff,Nat.reduceBEq,Bool.false_eq_true,Option.some.injEq];rfl) (by simp [am,lk]) ?_;rfl)
theorem mO (c:CodeD) (a b:PerfD) (f:Int) (hcf:CdFit 1048576 c) (haf:PfFit 1048576 a) (hbf:PfFit 1048576 b) (hA:¬ (bO c a f∧bO c b f)):FnEq Tryz.prog 25 [.agg c.cs,.agg a.cs,.agg b.cs,.d (.int .i64 f)] [.row 23 1 [],.d (.bool false)]:=by
 have hs0:=e9 c a f hcf haf
 have hs1:=e9 c b f hcf hbf
 refine aN ae Tryz.func25 rfl rfl ?_;simp only [Tryz.ntmps25,aP,aK,Nat.reduceAdd,Nat.reduceSub,aV]
 by_cases h1:bO c a f
 ·have hb1:=aW h1
  have hb2:=aL fun h2:bO c b f=>hA ⟨h1,h2⟩
  rw [hb1] at hs0
  rw [hb2] at hs1
  repeat' (first|((with_reducible first|(apply hK;clear hK K)|refine ah fun U O=>?_|apply ag|(apply Z<;>(intro hc;try simp at hc;try omega)))<;>try simp only [go_sem])|(with_reducible first|apply aj|(apply O;clear O U)|refine kN fh fun K hK=>?_|refine kO fun K hK=>?_|refine aI ?_)|(refine xS rfl fun U O=>?_;simp only [go_sem])|(refine qS rfl fun U O=>?_;simp only [go_sem])|((with_reducible first|apply CallK.eq|apply CallQ.eqs);(· with_reducible first|exact hs0|exact hs1);(· first|exact rfl|(simp [RV.flat,D.sc,aa];done));try simp only [go_sem])|(with_reducible refine az fh ae ay (by kernel_rfl) (fun K hK=>?_))|(with_reducible refine aO ae ay (by kernel_rfl) ?_)|apply iB)
  all_goals first
   |(exfalso;omega)
   |(refine ak rfl (by simp only [bj,bn,ab,lk,ao,aK,List.length_append,List.length_take,if_true,if_false,Nat.reduceEqDiff,Nat.reduceBEq,Bool.false_eq_true,Option.some.injEq];rfl) (by simp [am,lk]) ?_;rfl)
 ·have hb1:=aL h1
  rw [hb1] at hs0
  repeat' (first|((with_reducible first|(apply hK;clear hK K)|refine ah fun U O=>?_|apply ag|(apply Z<;>(intro hc;try simp at hc;try omega)))<;>try simp only [go_sem])|(with_reducible first|apply aj|(apply O;clear O U)|refine kN fh fun K hK=>?_|refine kO fun K hK=>?_|refine aI ?_)|(refine xS rfl fun U O=>?_;simp only [go_sem])|(refine qS rfl fun U O=>?_;simp only [go_sem])|((with_reducible first|apply CallK.eq|apply CallQ.eqs);(· with_reducible first|exact hs0|exact hs1);(· first|exact rfl|(simp [RV.flat,D.sc,aa];done));try simp only [go_sem])|(with_reducible refine az fh ae ay (by kernel_rfl) (fun K hK=>?_))|(with_reducible refine aO ae ay (by kernel_rfl) ?_)|apply iB)
  all_goals first
   |(exfalso;omega)
   |(refine ak rfl (by simp only [bj,bn,ab,lk,ao,aK,List.length_append,List.length_take,if_true,if_false,Nat.reduceEqDiff,Nat.reduceBEq,Bool.false_eq_true,Option.some.injEq];rfl) (by simp [am,lk]) ?_;rfl)
theorem lQ (c:CodeD) (a b:PerfD) (f:Int) (hcf:CdFit 1048576 c) (haf:PfFit 1048576 a) (hbf:PfFit 1048576 b) (hA:bO c a f∧bO c b f):FnEq Tryz.prog 25 [.agg c.cs,.agg a.cs,.agg b.cs,.d (.int .i64 f)] [.deep 23 1 ((ny c a b f).map (ax 1 aa)),.d (.bool true)]:=by
 have hs0:=e9 c a f hcf haf
 have hs0b:=e9 c b f hcf hbf
 rw [aW hA.1] at hs0
 rw [aW hA.2] at hs0b
 have hs2b:=ii c b f hA.2
 have hv:=hA.1.1.2.1
 have ho:=pT a.items hv
 have hlen:=fO hv
 have hmem:∀ x ∈ bI a.items,∃ i k m:Int,x = [i,k,m]∧HasNm a.items i k∧0≤m∧m≤3:=fun x hx=>(eA hx).nm hv
 have hww:ny c a b f = dn c a b f (bI a.items) (bI a.items).length:=rfl
 rw [hww]
 generalize bI a.items = w at ho hlen hmem
 refine aN ae Tryz.func25 rfl rfl ?_;simp only [Tryz.ntmps25,aP,aK,Nat.reduceAdd,Nat.reduceSub,aV]
 repeat' (first|((with_reducible first|(apply hK;clear hK K)|refine ah fun U O=>?_|apply ag|(apply Z<;>(intro hc;try simp at hc;try omega)))<;>try simp only [go_sem])|(with_reducible first|apply aj|(apply O;clear O U)|refine kN fh fun K hK=>?_|refine kO fun K hK=>?_|refine aI ?_)|(refine xS rfl fun U O=>?_;simp only [go_sem])|(refine qS rfl fun U O=>?_;simp only [go_sem])|((with_reducible first|apply CallK.eq|apply CallQ.eqs);(· with_reducible first|exact hs0|exact hs0b|exact hs2b|exact ho);(· first|exact rfl|(simp [RV.flat,D.sc,aa];done));try simp only [go_sem])|(with_reducible refine az fh ae ay (by kernel_rfl) (fun K hK=>?_))|(with_reducible refine aO ae ay (by kernel_rfl) ?_)|apply iB)
 all_goals first
  |(exfalso;omega)
  |skip
 refine cS 6 rfl (fun _ h=>by cases h) ?_
 simp only [go_sem]
 refine aA [8,9,10,12,29,30,31,32,33,34,35,36,37,38,39,40,41,42,43,44,45,46,47,48,49,50,51,52,53,54,55] (fun k:Nat=>[(29,.d (.int .i64 (k:Int))),(10,.row 1 (dn c a b f w k).length),(27,.row 0 w.length),(4,.bptr 2 0),(5,.bptr 3 0),(6,.bptr 4 0)]) (fun k=>[(0,.deep 0 23 1 (wH c a b f w k)),(1,.deep 0 23 1 ((dn c a b f w k).map (ax 1 aa))),(2,.box 42 c.cs),(3,.box 48 a.cs),(4,.box 48 b.cs)]) 5 (fun k=>k≤w.length) (fun k=>w.length - k) 0 (Nat.zero_le _) (an [] (by simp [lk,ab,mA,rL]<;>omega)) ?_
 intro k hk;simp only [bc,wipe,wl,bb,bx,rm,if_true,if_false,Nat.reduceEqDiff,Bool.false_eq_true,reduceCtorEq]
 have ht1:Int.toNat 1 = 1:=rfl
 have ht2:Int.toNat 2 = 2:=rfl
 have hwl:=uM c a b f hk
 have hwt:=km c a b f w k
 by_cases hlt:k < w.length
 ·have hx:=List.getElem?_eq_getElem hlt
  have hxm:=List.getElem_mem hlt
  generalize w[k] = x at hx hxm
  obtain ⟨i,n,m,rfl,hN,hm1,hm2⟩:=hmem x hxm
  have hg:=uU c a b f hx
  have hsc:eV c a f [i,n,m] = bF c (cW a (cv a.items (dR i n m))) f:=rfl
  have hs1:=kq c a f i n m haf hA.1 hN hm1 hm2
  generalize bF c (cW a (cv a.items (dR i n m))) f = v at hs1 hsc
  by_cases hgt:bF c b f < v
  ·have hwin:bF c b f < eV c a f [i,n,m]:=by rw [hsc];exact hgt
   have hto:=od hx hwin
   have hH:=uz hx (show fV c a b f [i,n,m] = true from decide_eq_true hwin)
   have hsl:ce (wH c a b f w k) k 0 .hole = wH c a b f w (k + 1):=by rw [←hH];unfold ce;rw [hg];rfl
   repeat' (first|((with_reducible first|(apply hK;clear hK K)|refine ah fun U O=>?_|apply ag|(apply Z<;>(intro hc;try simp at hc;try omega)))<;>try simp only [go_sem,ap,hg,ar,ax,aa,hlt,hwl,aH,aG,ht1,ht2,hgt])|(with_reducible first|apply aj|(apply O;clear O U)|refine kN fh fun K hK=>?_|refine kO fun K hK=>?_|refine aI ?_)|(refine xS rfl fun U O=>?_;simp only [go_sem,ap,hg,ar,ax,aa,hlt,hwl,aH,aG,ht1,ht2,hgt])|(refine qS rfl fun U O=>?_;simp only [go_sem,ap,hg,ar,ax,aa,hlt,hwl,aH,aG,ht1,ht2,hgt])|((with_reducible first|apply CallK.eq|apply CallQ.eqs);(· with_reducible first|exact hs1|exact hs2b);(· first|exact rfl|(simp [RV.flat,D.sc,aa];done));try simp only [go_sem,ap,hg,ar,ax,aa,hlt,hwl,aH,aG,ht1,ht2,hgt])|(with_reducible refine az fh ae ay (by kernel_rfl) (fun K hK=>?_))|(with_reducible refine aO ae ay (by kernel_rfl) ?_)|apply iB)
   all_goals first
    |(exfalso;omega)
    |skip
   refine kL (id:=5) (par:=0) (k:=k) (j:=0) rfl rfl (show cU _ _ _ = some (1,[i,n,m].map aa) by simp [cU,hg,ax]) (by simp [fK]) fun ty2=>?_
   simp only [bf,hsl,if_true,if_false,Nat.reduceEqDiff,reduceCtorEq,Nat.zero_ne_one]
   refine bq (cs:=[.row 5 3]) (ds:=ax 1 aa [i,n,m]) rfl (ae _ _ gK) (by decide) rfl (by simp [dm,dA,ab,D.scB,ax,aa]) (by simp [a9]) (by simp only [cD,cr,ab,if_true,if_false,Nat.reduceEqDiff];exact ⟨trivial,trivial⟩) ?_
   repeat' (first|((with_reducible first|(apply hK;clear hK K)|refine ah fun U O=>?_|apply ag|(apply Z<;>(intro hc;try simp at hc;try omega)))<;>try simp only [go_sem,ax])|(with_reducible first|apply aj|(apply O;clear O U)|refine kN fh fun K hK=>?_|refine kO fun K hK=>?_|refine aI ?_)|(refine xS rfl fun U O=>?_;simp only [go_sem,ax])|(refine qS rfl fun U O=>?_;simp only [go_sem,ax])|(with_reducible refine az fh ae ay (by kernel_rfl) (fun K hK=>?_))|(with_reducible refine aO ae ay (by kernel_rfl) ?_)|apply iB)
   refine bG (es:=(dn c a b f w k).map (ax 1 aa)) (fs:=[ax 1 aa [i,n,m]]) (n:=(dn c a b f w k).length) (n2:=1) rfl (ae _ _ gK) rfl rfl rfl rfl (by decide) (by simp) rfl (by exact True.intro) (by exact True.intro) (by simp<;>omega) ?_
   repeat' (first|((with_reducible first|(apply hK;clear hK K)|refine ah fun U O=>?_|apply ag|(apply Z<;>(intro hc;try simp at hc;try omega)))<;>try simp only [go_sem,ax])|(with_reducible first|apply aj|(apply O;clear O U)|refine kN fh fun K hK=>?_|refine kO fun K hK=>?_|refine aI ?_)|(refine xS rfl fun U O=>?_;simp only [go_sem,ax])|(refine qS rfl fun U O=>?_;simp only [go_sem,ax])|(with_reducible refine az fh ae ay (by kernel_rfl) (fun K hK=>?_))|(with_reducible refine aO ae ay (by kernel_rfl) ?_)|apply iB)
   exact ⟨k + 1,by omega,by omega,(an [] (by simp [lk,ab,hto,ax]<;>omega))⟩
  ·have hno:¬ bF c b f < eV c a f [i,n,m]:=by rw [hsc];exact hgt
   have hto:=qn hx hno
   have hH:=vX hx (show fV c a b f [i,n,m] = false from decide_eq_false hno)
   repeat' (first|((with_reducible first|(apply hK;clear hK K)|refine ah fun U O=>?_|apply ag|(apply Z<;>(intro hc;try simp at hc;try omega)))<;>try simp only [go_sem,ap,hg,ar,ax,aa,hlt,hwl,aH,aG,ht1,ht2,hgt])|(with_reducible first|apply aj|(apply O;clear O U)|refine kN fh fun K hK=>?_|refine kO fun K hK=>?_|refine aI ?_)|(refine xS rfl fun U O=>?_;simp only [go_sem,ap,hg,ar,ax,aa,hlt,hwl,aH,aG,ht1,ht2,hgt])|(refine qS rfl fun U O=>?_;simp only [go_sem,ap,hg,ar,ax,aa,hlt,hwl,aH,aG,ht1,ht2,hgt])|((with_reducible first|apply CallK.eq|apply CallQ.eqs);(· with_reducible first|exact hs1|exact hs2b);(· first|exact rfl|(simp [RV.flat,D.sc,aa];done));try simp only [go_sem,ap,hg,ar,ax,aa,hlt,hwl,aH,aG,ht1,ht2,hgt])|(with_reducible refine az fh ae ay (by kernel_rfl) (fun K hK=>?_))|(with_reducible refine aO ae ay (by kernel_rfl) ?_)|apply iB)
   all_goals first
    |(exfalso;omega)
    |exact ⟨k + 1,by omega,by omega,(an [] (by simp [lk,ab,hto,←hH]<;>omega))⟩
 ·obtain rfl:k = w.length:=by omega
  repeat' (first|((with_reducible first|(apply hK;clear hK K)|refine ah fun U O=>?_|apply ag|(apply Z<;>(intro hc;try simp at hc;try omega)))<;>try simp only [go_sem])|(with_reducible first|apply aj|(apply O;clear O U)|refine kN fh fun K hK=>?_|refine kO fun K hK=>?_|refine aI ?_)|(refine xS rfl fun U O=>?_;simp only [go_sem])|(refine qS rfl fun U O=>?_;simp only [go_sem])|(with_reducible refine az fh ae ay (by kernel_rfl) (fun K hK=>?_))|(with_reducible refine aO ae ay (by kernel_rfl) ?_)|apply iB)
  all_goals first
   |(exfalso;omega)
   |(refine ak rfl (by simp only [bj,bn,ab,lk,ao,aK,List.length_append,List.length_take,if_true,if_false,Nat.reduceEqDiff,Nat.reduceBEq,Bool.false_eq_true,Option.some.injEq];rfl) (by simp [am,lk]) ?_;rfl)
end Go.Proofs.YtphakidbddamfaaGreat
