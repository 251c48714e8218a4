/-
  Drawn inquiries.
-/
import Derived.Test.YtphakidbddamfaaGreatZDa
import Derived.Test.YtphakidbddamfaaGreatZDd
import Derived.Test.YtphakidbddamfaaGreatZJc
import Derived.Test.YtphakidbddamfaaGreatZDj
import Derived.Test.YtphakidbddamfaaGreatZMsh
import Derived.Test.YtphakidbddamfaaGreatZSq
set_option linter.unusedSimpArgs false
set_option linter.unusedVariables false
set_option maxHeartbeats 2000000
set_option maxRecDepth 100000
namespace Go.Proofs.YtphakidbddamfaaGreat
open Go.RowKit
theorem FnEq.deepen2 {P:Program} {f:FuncId} {args:List PV} {ty:TypeId} {sz:Nat} {r2:RV} (h:FnEq P f args [.row ty sz [],r2]):FnEq P f args [.deep ty sz [],r2]:=
 ⟨h.1,fun w X vals h0 h1 h2 h3=>(h.2 w X vals h0 h1 h2 h3).mono fun e w' ⟨rs,e1,vs,gs,q1,q2,q3,q4,q5⟩=>by
  subst e1
  refine ⟨_,rfl,vs,gs,q1,q2,q3,q4,fun i r v hr hv=>?_⟩
  cases i with
  |succ i=>exact q5 (i + 1) r v hr hv
  |zero=>
   cases hr
   exact (q5 0 _ v rfl hv).empty⟩
theorem ud (l:List ItemD) (q:List InquiryD) (hn:l.length≤1048576) (hs:∀ r ∈ l,ItFit 1048576 r) (hv:ItsOk l) (hq:q.length≤9223372036854775807):∃ es b,FnEq Tryz.prog 64 [.d (.lst 3 (l.map ItemD.dat)),.d (.lst 5 (q.map InquiryD.dat))] [.deep 143 3 es,.d (.bool b)]:=by
 have h:=p4 l q hn hs hv hq
 by_cases h1:eG l q
 ·rw [fy h1] at h
  unfold eg at h
  split at h
  ·exact ⟨[],_,h.deepen2⟩
  ·exact ⟨_,_,h⟩
 ·rw [d4 h1] at h
  exact ⟨[],_,h.deepen2⟩
theorem pB {k:Nat} {cs:List D} {l:List ItemD} (hC:Cur k cs) (hk:k≤800000000) (hl:l.length≤1048576) (hs:∀ r ∈ l,ItFit 1048576 r) (hv:ItsOk l):FnC Tryz.prog 96 3 [.lst 3 (l.map ItemD.dat)] cs (dd (k + 3000) (fun q:List InquiryD=>q.length≤21) fun q=>[.row 50 5 (q.map InquiryD.dat)]):=by
 refine cq ae Tryz.func96 rfl rfl hC.len fun ty=>?_;simp only [Tryz.ntmps96,aP,aK,Nat.reduceAdd,Nat.reduceSub,aH,aG,ao,aV]
 repeat' (first|((with_reducible first|(apply hK;clear hK K)|refine ah fun U O=>?_|apply ag|(apply Z<;>(intro hc;try simp at hc;try omega)))<;>try simp only [go_sem])|(with_reducible first|apply aj|(apply O;clear O U)|refine kN dI fun K hK=>?_|refine kO fun K hK=>?_|refine aI ?_)|(refine xS rfl fun U O=>?_;simp only [go_sem])|apply iB)
 refine CallK.cur (some 0) (a_ hC (by omega)) rfl rfl rfl rfl rfl rfl ?_;rintro c2 _ ⟨x,hx,rfl,hC⟩;try simp only [aU,go_sem]
 have htk:0≤x∧x < 9:=by omega
 generalize x = tk at htk ⊢
 clear hx
 repeat' (first|((with_reducible first|(apply hK;clear hK K)|refine ah fun U O=>?_|apply ag|(apply Z<;>(intro hc;try simp at hc;try omega)))<;>try simp only [go_sem])|(with_reducible first|apply aj|(apply O;clear O U)|refine kN dI fun K hK=>?_|refine kO fun K hK=>?_|refine aI ?_)|(refine xS rfl fun U O=>?_;simp only [go_sem])|apply iB)
 refine CallK.cur (some 0) (a_ hC (by omega)) rfl rfl rfl rfl rfl rfl ?_;rintro c2 _ ⟨x,hx,rfl,hC⟩;try simp only [aU,go_sem]
 obtain ⟨n0,rfl⟩:∃ n:Nat,x = (n:Int):=⟨x.toNat,by omega⟩
 have hn0:n0≤21:=by omega
 clear hx
 repeat' (first|with_reducible refine bs (id:=4) ?_|with_reducible refine br (id:=4) ?_|((with_reducible first|(apply hK;clear hK K)|refine ah fun U O=>?_|apply ag|(apply Z<;>(intro hc;try simp at hc;try omega)))<;>try simp only [go_sem])|(with_reducible first|apply aj|(apply O;clear O U)|refine kN dI fun K hK=>?_|refine kO fun K hK=>?_|refine aI ?_)|(refine xS rfl fun U O=>?_;simp only [go_sem])|apply iB)
 refine dF (fun q:Nat × List D=>⟨⟨100,[(0,.bptr 0 0),(1,.d (.lst 3 (l.map ItemD.dat))),(5,.row 1 0),(6,.d (.int .i64 tk)),(7,.d (.int .i64 (q.1:Int)))]⟩,[(0,.pbox 0 ty (q.2.map .d)),(1,.row 50 5 [])],2⟩) (fun q=>q.1≤21∧Cur (k + 8) q.2) ?_ ?_
 ·intro K hK
  repeat' (first|((with_reducible first|(apply hK;clear hK K)|refine ah fun U O=>?_|apply ag|(apply Z<;>(intro hc;try simp at hc;try omega)))<;>try simp only [go_sem])|(with_reducible first|apply aj|(apply O;clear O U)|refine kN dI fun K hK=>?_|refine kO fun K hK=>?_|refine aI ?_)|(refine xS rfl fun U O=>?_;simp only [go_sem])|((first|refine CallK.cur (some 0) (bQ hC (by omega)) rfl rfl rfl rfl rfl rfl ?_);rintro c2 _ ⟨x,hx,rfl,hC⟩;try simp only [aU,go_sem])|((first|refine CallK.cur (some 0) (bQ hC (by omega)) rfl rfl rfl rfl rfl rfl ?_);rintro c2 _ ⟨x,hx,rfl,hC⟩;try simp only [aU,go_sem])|apply iB)
  ·repeat' (first|((with_reducible first|(apply hK;clear hK K)|refine ah fun U O=>?_|apply ag|(apply Z<;>(intro hc;try simp at hc;try omega)))<;>try simp only [go_sem])|(with_reducible first|apply aj|(apply O;clear O U)|refine kN dI fun K hK=>?_|refine kO fun K hK=>?_|refine aI ?_)|(refine xS rfl fun U O=>?_;simp only [go_sem])|apply iB)
   refine CallK.cur (some 0) (a_ hC (by omega)) rfl rfl rfl rfl rfl rfl ?_;rintro c2 _ ⟨x,hx,rfl,hC⟩;try simp only [aU,go_sem]
   obtain ⟨n1,hn1⟩:∃ n:Nat,20 + x = (n:Int):=⟨(20 + x).toNat,by omega⟩
   repeat' (first|((with_reducible first|(apply hK;clear hK K)|refine ah fun U O=>?_|apply ag|(apply Z<;>(intro hc;try simp at hc;try omega)))<;>try simp only [go_sem,hn1])|(with_reducible first|apply aj|(apply O;clear O U)|refine kN dI fun K hK=>?_|refine kO fun K hK=>?_|refine aI ?_)|(refine xS rfl fun U O=>?_;simp only [go_sem,hn1])|apply iB)
   exact hK (n1,c2) _ ⟨by simp only;omega,hC.mono (by omega)⟩ (an [(1,2)] (by simp [lk,ab]<;>omega))
  ·exact hK (n0,c2) _ ⟨hn0,hC.mono (by omega)⟩ (an [(1,2)] (by simp [lk,ab]<;>omega))
 ·rintro ⟨n,c0⟩ ⟨hn,hC0⟩
  simp only at hn hC0
  dsimp only
  refine cM ?_
  refine dF (fun q:List InquiryD × List D=>⟨⟨100,[(0,.bptr 0 0),(1,.d (.lst 3 (l.map ItemD.dat))),(5,.row 1 q.1.length)]⟩,[(0,.pbox 0 ty (q.2.map .d)),(1,.row 50 5 (q.1.map InquiryD.dat))],2⟩) (fun q=>q.1.length≤21∧Cur (k + 1688) q.2) ?_ ?_
  ·intro K hK0
   repeat' (first|((with_reducible first|(apply hK;clear hK K)|refine ah fun U O=>?_|apply ag|(apply Z<;>(intro hc;try simp at hc;try omega)))<;>try simp only [go_sem])|(with_reducible first|apply aj|(apply O;clear O U)|refine kN dI fun K hK=>?_|refine kO fun K hK=>?_|refine aI ?_)|(refine xS rfl fun U O=>?_;simp only [go_sem])|apply iB)
   refine aA [4,5,6,8,9,10,11,22,23,24,25,26,27,28,29,30,31,32,33,34,35,36,37,38,39,40,41,42,43,44,45,46,47,48,49,50,51,52,53,54,55,56,57,58,59,60,61] (fun q:Nat × List InquiryD × Int × List D=>[(0,.bptr 0 0),(1,.d (.lst 3 (l.map ItemD.dat))),(5,.row 1 q.2.1.length),(6,.d (.int .i64 q.2.2.1)),(7,.d (.int .i64 (n:Int))),(8,.d (.int .i64 (q.1:Int)))]) (fun q=>[(0,.pbox 0 ty (q.2.2.2.map .d)),(1,.row 50 5 (q.2.1.map InquiryD.dat))]) 2 (fun q=>q.1≤120∧q.2.1.length≤n∧(0≤q.2.2.1∧q.2.2.1≤8 + 3 * (q.1:Int))∧Cur (k + 8 + 14 * q.1) q.2.2.2) (fun q=>120 - q.1) (0,[],tk,c0) ⟨by simp,by simp,by simp only;omega,hC0⟩ (an [] (by simp [lk,ab]<;>omega)) ?_
   rintro ⟨t,q,tk2,c1⟩ ⟨ht,hq,htk2,hC1⟩;simp only [bc,wipe,wl,bb,bx,rm,if_true,if_false,Nat.reduceEqDiff,Bool.false_eq_true,reduceCtorEq]
   simp only at ht hq htk2 hC1
   by_cases hlt:q.length < n∧t < 120
   ·have h1:(q.length:Int) < (n:Int):=by omega
    have h2:(t:Int) < 120:=by omega
    repeat' (first|((with_reducible first|(apply hK;clear hK K)|refine ah fun U O=>?_|apply ag|(apply Z<;>(intro hc;try simp at hc;try omega)))<;>try simp only [go_sem,h1,h2,ao])|(with_reducible first|apply aj|(apply O;clear O U)|refine kN dI fun K hK=>?_|refine kO fun K hK=>?_|refine aI ?_)|(refine xS rfl fun U O=>?_;simp only [go_sem,h1,h2,ao])|apply iB)
    refine CallK.curA (some 0) (mX (t:=tk2) hC1 (by omega) hl hs) rfl rfl rfl rfl rfl rfl ?_
    rintro c3 _ ⟨x,hx,rfl,hC⟩
    try simp only [aU,go_sem]
    obtain ⟨es,b,hrun⟩:=ud l (q++[x]) hl hs hv (by simp;omega)
    have hap:q.map InquiryD.dat++[[.int .i64 x.tick,.int .i64 x.item,.int .i64 x.name,.int .i64 x.mark,.bool x.acc]] = (q++[x]).map InquiryD.dat:=by simp [InquiryD.dat]
    have hql:q.length + 1 = (q++[x]).length:=by simp
    have hqn:(q++[x]).length≤n:=by simp;omega
    generalize q++[x] = qx at hrun hap hql hqn
    clear hx
    cases b
    ·repeat' (first|((with_reducible first|(apply hK;clear hK K)|refine ah fun U O=>?_|apply ag|(apply Z<;>(intro hc;try simp at hc;try omega)))<;>try simp only [go_sem,hap,hql,ao])|(with_reducible first|apply aj|(apply O;clear O U)|refine kN dI fun K hK=>?_|refine kO fun K hK=>?_|refine aI ?_)|(refine xS rfl fun U O=>?_;simp only [go_sem,hap,hql,ao])|((with_reducible apply CallK.eq);(· with_reducible first|exact hrun);(· simp [RV.flat,D.sc,aa]);try simp only [go_sem,hap,hql,ao])|((first|refine CallK.cur (some 0) (bQ hC (by omega)) rfl rfl rfl rfl rfl rfl ?_);rintro c2 _ ⟨x,hx,rfl,hC⟩;try simp only [aU,go_sem,hap,hql,ao])|apply iB)
     ·refine CallK.cur (some 0) (a_ hC (by omega)) rfl rfl rfl rfl rfl rfl ?_;rintro c2 _ ⟨x,hx,rfl,hC⟩;try simp only [aU,go_sem]
      repeat' (first|((with_reducible first|(apply hK;clear hK K)|refine ah fun U O=>?_|apply ag|(apply Z<;>(intro hc;try simp at hc;try omega)))<;>try simp only [go_sem])|(with_reducible first|apply aj|(apply O;clear O U)|refine kN dI fun K hK=>?_|refine kO fun K hK=>?_|refine aI ?_)|(refine xS rfl fun U O=>?_;simp only [go_sem])|apply iB)
      exact ⟨(t + 1,qx,tk2 + x,c2),⟨by simp only;omega,by simp only;omega,by simp only;omega,hC.mono (by simp only;omega)⟩,by simp only;omega,(an [] (by simp [lk,ab]<;>omega))⟩
     ·refine CallK.cur (some 0) (a_ hC (by omega)) rfl rfl rfl rfl rfl rfl ?_;rintro c2 _ ⟨x,hx,rfl,hC⟩;try simp only [aU,go_sem]
      repeat' (first|((with_reducible first|(apply hK;clear hK K)|refine ah fun U O=>?_|apply ag|(apply Z<;>(intro hc;try simp at hc;try omega)))<;>try simp only [go_sem])|(with_reducible first|apply aj|(apply O;clear O U)|refine kN dI fun K hK=>?_|refine kO fun K hK=>?_|refine aI ?_)|(refine xS rfl fun U O=>?_;simp only [go_sem])|apply iB)
      exact ⟨(t + 1,q,tk2 + x,c2),⟨by simp only;omega,by simp only;omega,by simp only;omega,hC.mono (by simp only;omega)⟩,by simp only;omega,(an [] (by simp [lk,ab]<;>omega))⟩
     ·refine CallK.cur (some 0) (a_ hC (by omega)) rfl rfl rfl rfl rfl rfl ?_;rintro c2 _ ⟨x,hx,rfl,hC⟩;try simp only [aU,go_sem]
      repeat' (first|((with_reducible first|(apply hK;clear hK K)|refine ah fun U O=>?_|apply ag|(apply Z<;>(intro hc;try simp at hc;try omega)))<;>try simp only [go_sem])|(with_reducible first|apply aj|(apply O;clear O U)|refine kN dI fun K hK=>?_|refine kO fun K hK=>?_|refine aI ?_)|(refine xS rfl fun U O=>?_;simp only [go_sem])|apply iB)
      exact ⟨(t + 1,qx,tk2 + x,c2),⟨by simp only;omega,by simp only;omega,by simp only;omega,hC.mono (by simp only;omega)⟩,by simp only;omega,(an [] (by simp [lk,ab]<;>omega))⟩
    ·repeat' (first|((with_reducible first|(apply hK;clear hK K)|refine ah fun U O=>?_|apply ag|(apply Z<;>(intro hc;try simp at hc;try omega)))<;>try simp only [go_sem,hap,hql,ao])|(with_reducible first|apply aj|(apply O;clear O U)|refine kN dI fun K hK=>?_|refine kO fun K hK=>?_|refine aI ?_)|(refine xS rfl fun U O=>?_;simp only [go_sem,hap,hql,ao])|((with_reducible apply CallK.eq);(· with_reducible first|exact hrun);(· simp [RV.flat,D.sc,aa]);try simp only [go_sem,hap,hql,ao])|((first|refine CallK.cur (some 0) (bQ hC (by omega)) rfl rfl rfl rfl rfl rfl ?_);rintro c2 _ ⟨x,hx,rfl,hC⟩;try simp only [aU,go_sem,hap,hql,ao])|apply iB)
     ·refine CallK.cur (some 0) (a_ hC (by omega)) rfl rfl rfl rfl rfl rfl ?_;rintro c2 _ ⟨x,hx,rfl,hC⟩;try simp only [aU,go_sem]
      repeat' (first|((with_reducible first|(apply hK;clear hK K)|refine ah fun U O=>?_|apply ag|(apply Z<;>(intro hc;try simp at hc;try omega)))<;>try simp only [go_sem])|(with_reducible first|apply aj|(apply O;clear O U)|refine kN dI fun K hK=>?_|refine kO fun K hK=>?_|refine aI ?_)|(refine xS rfl fun U O=>?_;simp only [go_sem])|apply iB)
      exact ⟨(t + 1,qx,tk2 + x,c2),⟨by simp only;omega,by simp only;omega,by simp only;omega,hC.mono (by simp only;omega)⟩,by simp only;omega,(an [] (by simp [lk,ab]<;>omega))⟩
   ·by_cases h1:q.length < n
    ·have h1':(q.length:Int) < (n:Int):=by omega
     have h2:¬ (t:Int) < 120:=by omega
     repeat' (first|((with_reducible first|(apply hK;clear hK K)|refine ah fun U O=>?_|apply ag|(apply Z<;>(intro hc;try simp at hc;try omega)))<;>try simp only [go_sem,h1',h2,ao])|(with_reducible first|apply aj|(apply O;clear O U)|refine kN dI fun K hK=>?_|refine kO fun K hK=>?_|refine aI ?_)|(refine xS rfl fun U O=>?_;simp only [go_sem,h1',h2,ao])|apply iB)
     exact hK0 (q,c1) _ ⟨by simp only;omega,hC1.mono (by omega)⟩ (an [] (by simp [lk,ab]<;>omega))
    ·have h1':¬ (q.length:Int) < (n:Int):=by omega
     repeat' (first|((with_reducible first|(apply hK;clear hK K)|refine ah fun U O=>?_|apply ag|(apply Z<;>(intro hc;try simp at hc;try omega)))<;>try simp only [go_sem,h1',ao])|(with_reducible first|apply aj|(apply O;clear O U)|refine kN dI fun K hK=>?_|refine kO fun K hK=>?_|refine aI ?_)|(refine xS rfl fun U O=>?_;simp only [go_sem,h1',ao])|apply iB)
     exact hK0 (q,c1) _ ⟨by simp only;omega,hC1.mono (by omega)⟩ (an [] (by simp [lk,ab]<;>omega))
  ·rintro ⟨q,c0⟩ ⟨hq,hC0⟩
   simp only at hq hC0
   dsimp only
   by_cases h0:0 < q.length
   ·have h0':(0:Int) < (q.length:Int):=by omega
    repeat' (first|((with_reducible first|(apply hK;clear hK K)|refine ah fun U O=>?_|apply ag|(apply Z<;>(intro hc;try simp at hc;try omega)))<;>try simp only [go_sem,h0,h0',ao])|(with_reducible first|apply aj|(apply O;clear O U)|refine kN dI fun K hK=>?_|refine kO fun K hK=>?_|refine aI ?_)|(refine xS rfl fun U O=>?_;simp only [go_sem,h0,h0',ao])|apply iB)
    refine CallK.cur (some 0) (a_ hC0 (by omega)) rfl rfl rfl rfl rfl rfl ?_;rintro c2 _ ⟨x,hx,rfl,hC⟩;try simp only [aU,go_sem]
    obtain ⟨a,rfl⟩:∃ a:Nat,x = (a:Int):=⟨x.toNat,by omega⟩
    have haq:a < q.length:=by omega
    obtain ⟨e,he⟩:∃ e,q[a]? = some e:=⟨_,List.getElem?_eq_getElem haq⟩
    clear hx
    repeat' (first|((with_reducible first|(apply hK;clear hK K)|refine ah fun U O=>?_|apply ag|(apply Z<;>(intro hc;try simp at hc;try omega)))<;>try simp only [go_sem,ao,haq])|(with_reducible first|apply aj|(apply O;clear O U)|refine kN dI fun K hK=>?_|refine kO fun K hK=>?_|refine aI ?_)|(refine xS rfl fun U O=>?_;simp only [go_sem,ao,haq])|apply iB)
    refine CallK.cur (some 0) (a_ hC (by omega)) rfl rfl rfl rfl rfl rfl ?_;rintro c2 _ ⟨x,hx,rfl,hC⟩;try simp only [aU,go_sem]
    clear hx
    by_cases h1:x = 0
    ·subst h1
     repeat' (first|((with_reducible first|(apply hK;clear hK K)|refine ah fun U O=>?_|apply ag|(apply Z<;>(intro hc;try simp at hc;try omega)))<;>try simp only [go_sem,ao,ap,he,ar,InquiryD.dat,haq])|(with_reducible first|apply aj|(apply O;clear O U)|refine kN dI fun K hK=>?_|refine kO fun K hK=>?_|refine aI ?_)|(refine xS rfl fun U O=>?_;simp only [go_sem,ao,ap,he,ar,InquiryD.dat,haq])|apply iB)
     refine CallK.cur (some 0) (bv (l:=[-1,100000,100001]) hC (by omega) (by simp) (by simp)) rfl rfl rfl rfl rfl rfl ?_
     rintro c3 _ ⟨u,hu,rfl,hC3⟩
     try simp only [aU,go_sem]
     repeat' (first|((with_reducible first|(apply hK;clear hK K)|refine ah fun U O=>?_|apply ag|(apply Z<;>(intro hc;try simp at hc;try omega)))<;>try simp only [go_sem,ao,ap,he,ar,InquiryD.dat,haq])|(with_reducible first|apply aj|(apply O;clear O U)|refine kN dI fun K hK=>?_|refine kO fun K hK=>?_|refine aI ?_)|(refine xS rfl fun U O=>?_;simp only [go_sem,ao,ap,he,ar,InquiryD.dat,haq])|apply iB)
     refine bN (id:=0) (xs:=[.row _ _]) _ rfl (by simp only [bj,bn,ab,lk,ao,cf,if_true,if_false,Nat.reduceEqDiff,Nat.reduceBEq,Bool.false_eq_true,Option.some.injEq]<;>rfl) (by simp [am,lk]) rfl (Cur.len (by assumption)) ⟨q.set a ⟨u,e.item,e.name,e.mark,e.acc⟩,by simp only [cf];omega,(by simp [InquiryD.dat,List.map_set,bC]),Cur.mono (by assumption) (by omega)⟩
    by_cases h2:x = 1
    ·subst h2
     repeat' (first|((with_reducible first|(apply hK;clear hK K)|refine ah fun U O=>?_|apply ag|(apply Z<;>(intro hc;try simp at hc;try omega)))<;>try simp only [go_sem,ao,ap,he,ar,InquiryD.dat,haq])|(with_reducible first|apply aj|(apply O;clear O U)|refine kN dI fun K hK=>?_|refine kO fun K hK=>?_|refine aI ?_)|(refine xS rfl fun U O=>?_;simp only [go_sem,ao,ap,he,ar,InquiryD.dat,haq])|apply iB)
     refine CallK.cur (some 0) (bv (l:=[-1,4]) hC (by omega) (by simp) (by simp)) rfl rfl rfl rfl rfl rfl ?_
     rintro c3 _ ⟨u,hu,rfl,hC3⟩
     try simp only [aU,go_sem]
     repeat' (first|((with_reducible first|(apply hK;clear hK K)|refine ah fun U O=>?_|apply ag|(apply Z<;>(intro hc;try simp at hc;try omega)))<;>try simp only [go_sem,ao,ap,he,ar,InquiryD.dat,haq])|(with_reducible first|apply aj|(apply O;clear O U)|refine kN dI fun K hK=>?_|refine kO fun K hK=>?_|refine aI ?_)|(refine xS rfl fun U O=>?_;simp only [go_sem,ao,ap,he,ar,InquiryD.dat,haq])|apply iB)
     refine bN (id:=0) (xs:=[.row _ _]) _ rfl (by simp only [bj,bn,ab,lk,ao,cf,if_true,if_false,Nat.reduceEqDiff,Nat.reduceBEq,Bool.false_eq_true,Option.some.injEq]<;>rfl) (by simp [am,lk]) rfl (Cur.len (by assumption)) ⟨q.set a ⟨e.tick,e.item,e.name,u,e.acc⟩,by simp only [cf];omega,(by simp [InquiryD.dat,List.map_set,bC]),Cur.mono (by assumption) (by omega)⟩
    by_cases h3:x = 2
    ·subst h3
     repeat' (first|((with_reducible first|(apply hK;clear hK K)|refine ah fun U O=>?_|apply ag|(apply Z<;>(intro hc;try simp at hc;try omega)))<;>try simp only [go_sem,ao,ap,he,ar,InquiryD.dat,haq])|(with_reducible first|apply aj|(apply O;clear O U)|refine kN dI fun K hK=>?_|refine kO fun K hK=>?_|refine aI ?_)|(refine xS rfl fun U O=>?_;simp only [go_sem,ao,ap,he,ar,InquiryD.dat,haq])|apply iB)
     refine bN (id:=0) (xs:=[.row _ _]) _ rfl (by simp only [bj,bn,ab,lk,ao,cf,if_true,if_false,Nat.reduceEqDiff,Nat.reduceBEq,Bool.false_eq_true,Option.some.injEq]<;>rfl) (by simp [am,lk]) rfl (Cur.len (by assumption)) ⟨q.set a ⟨e.tick,e.item,e.name,e.mark,!e.acc⟩,by simp only [cf];omega,(by simp [InquiryD.dat,List.map_set,bC]),Cur.mono (by assumption) (by omega)⟩
    repeat' (first|((with_reducible first|(apply hK;clear hK K)|refine ah fun U O=>?_|apply ag|(apply Z<;>(intro hc;try simp at hc;try omega)))<;>try simp only [go_sem,h1,h2,h3,ao])|(with_reducible first|apply aj|(apply O;clear O U)|refine kN dI fun K hK=>?_|refine kO fun K hK=>?_|refine aI ?_)|(refine xS rfl fun U O=>?_;simp only [go_sem,h1,h2,h3,ao])|apply iB)
    refine bN (id:=0) (xs:=[.row _ _]) _ rfl (by simp only [bj,bn,ab,lk,ao,cf,if_true,if_false,Nat.reduceEqDiff,Nat.reduceBEq,Bool.false_eq_true,Option.some.injEq]<;>rfl) (by simp [am,lk]) rfl (Cur.len (by assumption)) ⟨q,by omega,(by simp [InquiryD.dat,List.map_set,bC]),Cur.mono (by assumption) (by omega)⟩
   ·have h0':¬ (0:Int) < (q.length:Int):=by omega
    repeat' (first|((with_reducible first|(apply hK;clear hK K)|refine ah fun U O=>?_|apply ag|(apply Z<;>(intro hc;try simp at hc;try omega)))<;>try simp only [go_sem,h0,h0',ao])|(with_reducible first|apply aj|(apply O;clear O U)|refine kN dI fun K hK=>?_|refine kO fun K hK=>?_|refine aI ?_)|(refine xS rfl fun U O=>?_;simp only [go_sem,h0,h0',ao])|apply iB)
    refine bN (id:=0) (xs:=[.row _ _]) _ rfl (by simp only [bj,bn,ab,lk,ao,cf,if_true,if_false,Nat.reduceEqDiff,Nat.reduceBEq,Bool.false_eq_true,Option.some.injEq]<;>rfl) (by simp [am,lk]) rfl (Cur.len (by assumption)) ⟨q,by omega,(by simp [InquiryD.dat,List.map_set,bC]),Cur.mono (by assumption) (by omega)⟩
end Go.Proofs.YtphakidbddamfaaGreat
set_option linter.unusedSimpArgs false
set_option linter.unusedVariables false
set_option maxHeartbeats 2000000
set_option maxRecDepth 100000
namespace Go.Proofs.YtphakidbddamfaaGreat
open Go.RowKit
theorem xA {xs:List Int} (h:∀ x ∈ xs,0≤x∧x≤255) (hn:xs.length≤9223372036854775807):Cur 0 [.lst 1 (xs.map dg),.int .i64 0,.int .u64 7]:=
 ⟨_,0,7,rfl,nW h,by simpa using hn,Int.le_refl _,Int.le_refl _⟩
theorem mS (xs:List Int) (hx:∀ x ∈ xs,0≤x∧x≤255) (hn:xs.length≤9223372036854775807):FnOK Tryz.prog 91 [.d (.lst 1 (xs.map dg))] (fun rs=>∃ (l:List ItemD) (q:List InquiryD),(vd l∧q.length≤21)∧rs = [.d (.lst 3 (l.map ItemD.dat)),.d (.lst 5 (q.map InquiryD.dat))]):=by
 refine FnOK.data ?_
 have hC:=tq hx hn
 refine aN ae Tryz.func91 rfl rfl ?_;simp only [Tryz.ntmps91,aP,aK,Nat.reduceAdd,Nat.reduceSub,aV]
 repeat' (first|((with_reducible first|(apply hK;clear hK K)|refine ah fun U O=>?_|apply ag|(apply Z<;>(intro hc;try simp at hc;try omega)))<;>try simp only [go_sem])|(with_reducible first|apply aj|(apply O;clear O U)|refine kN qD fun K hK=>?_|refine kO fun K hK=>?_|refine aI ?_)|fail)
 rw [nj (.lst 1 (xs.map dg)) (.int .i64 0) (.int .u64 0)]
 generalize [D.lst 1 (xs.map dg),D.int .i64 0,D.int .u64 0] = cs at hC ⊢
 refine CallK.cur (none) (k8 (by assumption) (by omega)) rfl rfl rfl rfl rfl rfl ?_;rintro c2 _ ⟨x,hx,rfl,hC⟩;try simp only [aU,go_sem]
 rename List ItemD=>l
 have hl:vd l:=hx
 clear hx
 have hs:∀ r ∈ l,ItFit 1048576 r:=fun r hr=>(hl.2 r hr).fit
 have hs63:∀ r ∈ l,ItFit 9223372036854775807 r:=fun r hr=>(hs r hr).mono (by decide)
 have hil:=kd l (by have:=hl.1;omega) hs63
 by_cases hv:ItsOk l
 ·rw [aW hv] at hil
  repeat' (first|with_reducible refine bs (id:=5) ?_|with_reducible refine br (id:=5) ?_|((with_reducible first|(apply hK;clear hK K)|refine ah fun U O=>?_|apply ag|(apply Z<;>(intro hc;try simp at hc;try omega)))<;>try simp only [go_sem,ao])|(with_reducible first|apply aj|(apply O;clear O U)|refine kN qD fun K hK=>?_|refine kO fun K hK=>?_|refine aI ?_)|((with_reducible apply CallK.eq);(· with_reducible first|exact hil);(· simp [RV.flat,D.sc,aa]);try simp only [go_sem,ao])|fail)
  refine d5 3 rfl ?_
  simp only [go_sem]
  refine i0 5 rfl rfl (by rw [ao]) ?_
  simp only [upl,dJ,ab,Nat.reduceEqDiff,if_true,if_false]
  repeat' (first|((with_reducible first|(apply hK;clear hK K)|refine ah fun U O=>?_|apply ag|(apply Z<;>(intro hc;try simp at hc;try omega)))<;>try simp only [go_sem])|(with_reducible first|apply aj|(apply O;clear O U)|refine kN qD fun K hK=>?_|refine kO fun K hK=>?_|refine aI ?_)|fail)
  refine CallK.cur (none) (pB hC (by omega) (by have:=hl.1;omega) hs hv) rfl rfl rfl rfl rfl rfl ?_;rintro c2 _ ⟨x,hx,rfl,hC⟩;try simp only [aU,go_sem]
  repeat' (first|((with_reducible first|(apply hK;clear hK K)|refine ah fun U O=>?_|apply ag|(apply Z<;>(intro hc;try simp at hc;try omega)))<;>try simp only [go_sem])|(with_reducible first|apply aj|(apply O;clear O U)|refine kN qD fun K hK=>?_|refine kO fun K hK=>?_|refine aI ?_)|fail)
  refine ak (rs:=[.d (.lst 3 (l.map ItemD.dat)),.row 50 5 (x.map InquiryD.dat)]) rfl (by simp [bj,bn,cJ,dD,ab,lk]) (by simp [am,a9,lk]) ?_
  exact ⟨l,x,⟨hl,hx⟩,rfl⟩
 ·rw [aL hv] at hil
  repeat' (first|((with_reducible first|(apply hK;clear hK K)|refine ah fun U O=>?_|apply ag|(apply Z<;>(intro hc;try simp at hc;try omega)))<;>try simp only [go_sem,ao])|(with_reducible first|apply aj|(apply O;clear O U)|refine kN qD fun K hK=>?_|refine kO fun K hK=>?_|refine aI ?_)|((with_reducible apply CallK.eq);(· with_reducible first|exact hil);(· simp [RV.flat,D.sc,aa]);try simp only [go_sem,ao])|fail)
  refine ak (rs:=[.deep 143 3 (l.map ItemD.dat),.row 50 5 []]) rfl (by simp [bj,bn,cJ,dD,ab,lk]) (by simp [am,a9,lk]) ?_
  exact ⟨l,[],⟨hl,by simp⟩,rfl⟩
theorem qV (xs:List Int) (hx:∀ x ∈ xs,0≤x∧x≤255) (hn:xs.length≤9223372036854775807):FnOK Tryz.prog 50 [.d (.lst 1 (xs.map dg))] (fun rs=>∃ (q:List InquiryD) (f:Int),(q.length≤21∧-1≤f∧f≤10001)∧rs = [.d (.lst 5 (q.map InquiryD.dat)),.d (.int .i64 f)]):=by
 have hC:=xA hx hn
 refine aN ae Tryz.func50 rfl rfl ?_;simp only [Tryz.ntmps50,aP,aK,Nat.reduceAdd,Nat.reduceSub,aV]
 repeat' (first|((with_reducible first|(apply hK;clear hK K)|refine ah fun U O=>?_|apply ag|(apply Z<;>(intro hc;try simp at hc;try omega)))<;>try simp only [go_sem])|(with_reducible first|apply aj|(apply O;clear O U)|refine kN vx fun K hK=>?_|refine kO fun K hK=>?_|refine aI ?_)|fail)
 refine CallK.of (mS xs hx hn) ?_;rintro _ ⟨l,q,hq,rfl⟩;refine ⟨(fun h=>by cases h),?_⟩;try simp only [go_sem]
 repeat' (first|((with_reducible first|(apply hK;clear hK K)|refine ah fun U O=>?_|apply ag|(apply Z<;>(intro hc;try simp at hc;try omega)))<;>try simp only [go_sem])|(with_reducible first|apply aj|(apply O;clear O U)|refine kN vx fun K hK=>?_|refine kO fun K hK=>?_|refine aI ?_)|fail)
 rw [nj (.lst 1 (xs.map dg)) (.int .i64 0) (.int .u64 7)]
 generalize [D.lst 1 (xs.map dg),D.int .i64 0,D.int .u64 7] = cs at hC ⊢
 refine CallK.cur (none) (bv (l:=[0,100,10000,10001,-1]) hC (by omega) (by simp) (by simp)) rfl rfl rfl rfl rfl rfl ?_;rintro c2 _ ⟨x,hx,rfl,hC⟩;try simp only [aU,go_sem]
 have hf:-1≤x∧x≤10001:=by simp at hx;omega
 repeat' (first|((with_reducible first|(apply hK;clear hK K)|refine ah fun U O=>?_|apply ag|(apply Z<;>(intro hc;try simp at hc;try omega)))<;>try simp only [go_sem])|(with_reducible first|apply aj|(apply O;clear O U)|refine kN vx fun K hK=>?_|refine kO fun K hK=>?_|refine aI ?_)|fail)
 refine ak (rs:=[.d (.lst 5 (q.map InquiryD.dat)),.d (.int .i64 x)]) rfl (by simp [bj,bn,cJ,dD,ab,lk]) (by simp [am,a9,lk]) ?_
 exact ⟨q,x,⟨hq.2,hf⟩,rfl⟩
theorem rA (xs:List Int) (hx:∀ x ∈ xs,0≤x∧x≤255) (hn:xs.length≤9223372036854775807):FnOK Tryz.prog 53 [.d (.lst 1 (xs.map dg))] (fun rs=>∃ (q:List InquiryD) (a b:Int),(q.length≤21∧(-1≤a∧a≤100001)∧0≤b∧b≤100001)∧rs = [.d (.lst 5 (q.map InquiryD.dat)),.d (.int .i64 a),.d (.int .i64 b)]):=by
 have hC:=xA hx hn
 refine aN ae Tryz.func53 rfl rfl ?_;simp only [Tryz.ntmps53,aP,aK,Nat.reduceAdd,Nat.reduceSub,aV]
 repeat' (first|((with_reducible first|(apply hK;clear hK K)|refine ah fun U O=>?_|apply ag|(apply Z<;>(intro hc;try simp at hc;try omega)))<;>try simp only [go_sem])|(with_reducible first|apply aj|(apply O;clear O U)|refine kN sW fun K hK=>?_|refine kO fun K hK=>?_|refine aI ?_)|fail)
 refine CallK.of (mS xs hx hn) ?_;rintro _ ⟨l,q,hq,rfl⟩;refine ⟨(fun h=>by cases h),?_⟩;try simp only [go_sem]
 repeat' (first|((with_reducible first|(apply hK;clear hK K)|refine ah fun U O=>?_|apply ag|(apply Z<;>(intro hc;try simp at hc;try omega)))<;>try simp only [go_sem])|(with_reducible first|apply aj|(apply O;clear O U)|refine kN sW fun K hK=>?_|refine kO fun K hK=>?_|refine aI ?_)|fail)
 rw [nj (.lst 1 (xs.map dg)) (.int .i64 0) (.int .u64 7)]
 generalize [D.lst 1 (xs.map dg),D.int .i64 0,D.int .u64 7] = cs at hC ⊢
 refine CallK.cur (none) (bv (l:=[0,3,100000,100001,-1]) hC (by omega) (by simp) (by simp)) rfl rfl rfl rfl rfl rfl ?_;rintro c2 _ ⟨x,hx,rfl,hC⟩;try simp only [aU,go_sem]
 have ha:-1≤x∧x≤100001:=by simp at hx;omega
 generalize x = a at ha ⊢
 clear hx
 repeat' (first|((with_reducible first|(apply hK;clear hK K)|refine ah fun U O=>?_|apply ag|(apply Z<;>(intro hc;try simp at hc;try omega)))<;>try simp only [go_sem])|(with_reducible first|apply aj|(apply O;clear O U)|refine kN sW fun K hK=>?_|refine kO fun K hK=>?_|refine aI ?_)|fail)
 refine CallK.cur (none) (bv (l:=[0,2,5,100000,100001]) hC (by omega) (by simp) (by simp)) rfl rfl rfl rfl rfl rfl ?_;rintro c2 _ ⟨x,hx,rfl,hC⟩;try simp only [aU,go_sem]
 have hb:0≤x∧x≤100001:=by simp at hx;omega
 repeat' (first|((with_reducible first|(apply hK;clear hK K)|refine ah fun U O=>?_|apply ag|(apply Z<;>(intro hc;try simp at hc;try omega)))<;>try simp only [go_sem])|(with_reducible first|apply aj|(apply O;clear O U)|refine kN sW fun K hK=>?_|refine kO fun K hK=>?_|refine aI ?_)|fail)
 refine ak (rs:=[.d (.lst 5 (q.map InquiryD.dat)),.d (.int .i64 a),.d (.int .i64 x)]) rfl (by simp [bj,bn,cJ,dD,ab,lk]) (by simp [am,a9,lk]) ?_
 exact ⟨q,a,x,⟨hq.2,ha,hb⟩,rfl⟩
end Go.Proofs.YtphakidbddamfaaGreat
