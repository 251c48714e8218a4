/-
  Drawn inquiries.
-/
import Derived.Test.YtphakidbddamfaaGreatZDa
import Derived.Test.YtphakidbddamfaaGreatZDh
import Derived.Test.YtphakidbddamfaaGreatZIr
import Derived.Test.YtphakidbddamfaaGreatZDj
import Derived.Test.YtphakidbddamfaaGreatZPg
import Derived.Test.YtphakidbddamfaaGreatZMz
set_option linter.unusedSimpArgs false
set_option linter.unusedVariables false
set_option maxHeartbeats 2000000
set_option maxRecDepth 100000
namespace Go.Proofs.YtphakidbddamfaaGreat
open Go.RowKit
theorem FnEq.deepen2 {P:Program} {f:FuncId} {args:List PV} {ty:TypeId} {sz:Nat} {r2:RV} (h:FnEq P f args [.row ty sz [],r2]):FnEq P f args [.deep ty sz [],r2]:=
 ⟨h.1,fun w X vals h0 h1 h2 h3=>(h.2 w X vals h0 h1 h2 h3).mono fun e w' ⟨rs,e1,vs,gs,q1,q2,q3,q4,q5⟩=>by
  subst e1
  refine ⟨_,rfl,vs,gs,q1,q2,q3,q4,fun i r v hr hv=>?_⟩
  cases i with
  |succ i=>exact q5 (i + 1) r v hr hv
  |zero=>
   cases hr
   exact (q5 0 _ v rfl hv).empty⟩
theorem uy (l:List ItemD) (q:List InquiryD) (hn:l.length≤1048576) (hs:∀ r ∈ l,ItFit 1048576 r) (hv:ItsOk l) (hq:q.length≤9223372036854775807):∃ es b,FnEq Tryz.prog 64 [.d (.lst 3 (l.map ItemD.dat)),.d (.lst 5 (q.map InquiryD.dat))] [.deep 143 3 es,.d (.bool b)]:=by
 have h:=jo l q hn hs hv hq
 by_cases h1:cz l q
 ·rw [eZ h1] at h
  unfold dO at h
  split at h
  ·exact ⟨[],_,h.deepen2⟩
  ·exact ⟨_,_,h⟩
 ·rw [dR h1] at h
  exact ⟨[],_,h.deepen2⟩
theorem j1 {k:Nat} {cs:List D} {l:List ItemD} (hC:Cur k cs) (hk:k≤800000000) (hl:l.length≤1048576) (hs:∀ r ∈ l,ItFit 1048576 r) (hv:ItsOk l):FnC Tryz.prog 96 3 [.lst 3 (l.map ItemD.dat)] cs (dn (k + 3000) (fun q:List InquiryD=>q.length≤21) fun q=>[.row 50 5 (q.map InquiryD.dat)]):=by
 refine co aa Tryz.func96 rfl rfl hC.len fun ty=>?_;simp only [Tryz.ntmps96,aR,aM,Nat.reduceAdd,Nat.reduceSub,aJ,aH,an,aW]
 repeat' (first|((with_reducible first|(refine hK _ ?_;clear hK K)|refine aj fun U O=>?_|apply ah|(apply Z<;>(intro hc;try simp at hc;try omega)))<;>try simp only [go_sem])|(with_reducible first|apply ag|(refine O _ ?_;clear O U)|refine kN dI fun K hK=>?_|refine kO fun K hK=>?_|refine aI ?_)|(refine xS rfl fun U O=>?_;simp only [go_sem])|apply iB)
 refine CallK.cur (some 0) (be hC (by omega)) rfl rfl rfl rfl rfl rfl ?_;rintro c2 _ ⟨x,hx,rfl,hC⟩;try simp only [a_,go_sem]
 have htk:0≤x∧x < 9:=by omega
 generalize x = tk at htk ⊢
 clear hx
 repeat' (first|((with_reducible first|(refine hK _ ?_;clear hK K)|refine aj fun U O=>?_|apply ah|(apply Z<;>(intro hc;try simp at hc;try omega)))<;>try simp only [go_sem])|(with_reducible first|apply ag|(refine O _ ?_;clear O U)|refine kN dI fun K hK=>?_|refine kO fun K hK=>?_|refine aI ?_)|(refine xS rfl fun U O=>?_;simp only [go_sem])|apply iB)
 refine CallK.cur (some 0) (be hC (by omega)) rfl rfl rfl rfl rfl rfl ?_;rintro c2 _ ⟨x,hx,rfl,hC⟩;try simp only [a_,go_sem]
 obtain ⟨n0,rfl⟩:∃ n:Nat,x = (n:Int):=⟨x.toNat,by omega⟩
 have hn0:n0≤21:=by omega
 clear hx
 repeat' (first|with_reducible refine bs (id:=4) ?_|with_reducible refine br (id:=4) ?_|((with_reducible first|(refine hK _ ?_;clear hK K)|refine aj fun U O=>?_|apply ah|(apply Z<;>(intro hc;try simp at hc;try omega)))<;>try simp only [go_sem])|(with_reducible first|apply ag|(refine O _ ?_;clear O U)|refine kN dI fun K hK=>?_|refine kO fun K hK=>?_|refine aI ?_)|(refine xS rfl fun U O=>?_;simp only [go_sem])|apply iB)
 refine ec (fun q:Nat × List D=>⟨⟨100,[(0,.bptr 0 0),(1,.d (.lst 3 (l.map ItemD.dat))),(5,.row 1 0),(6,.d (.int .i64 tk)),(7,.d (.int .i64 (q.1:Int)))]⟩,[(0,.pbox 0 ty (q.2.map .d)),(1,.row 50 5 [])],2⟩) (fun q=>q.1≤21∧Cur (k + 8) q.2) ?_ ?_
 ·intro K hK
  repeat' (first|((with_reducible first|(refine hK _ ?_;clear hK K)|refine aj fun U O=>?_|apply ah|(apply Z<;>(intro hc;try simp at hc;try omega)))<;>try simp only [go_sem])|(with_reducible first|apply ag|(refine O _ ?_;clear O U)|refine kN dI fun K hK=>?_|refine kO fun K hK=>?_|refine aI ?_)|(refine xS rfl fun U O=>?_;simp only [go_sem])|((first|refine CallK.cur (some 0) (bI hC (by omega)) rfl rfl rfl rfl rfl rfl ?_);rintro c2 _ ⟨x,hx,rfl,hC⟩;try simp only [a_,go_sem])|((first|refine CallK.cur (some 0) (bI hC (by omega)) rfl rfl rfl rfl rfl rfl ?_);rintro c2 _ ⟨x,hx,rfl,hC⟩;try simp only [a_,go_sem])|apply iB)
  ·repeat' (first|((with_reducible first|(refine hK _ ?_;clear hK K)|refine aj fun U O=>?_|apply ah|(apply Z<;>(intro hc;try simp at hc;try omega)))<;>try simp only [go_sem])|(with_reducible first|apply ag|(refine O _ ?_;clear O U)|refine kN dI fun K hK=>?_|refine kO fun K hK=>?_|refine aI ?_)|(refine xS rfl fun U O=>?_;simp only [go_sem])|apply iB)
   refine CallK.cur (some 0) (be hC (by omega)) rfl rfl rfl rfl rfl rfl ?_;rintro c2 _ ⟨x,hx,rfl,hC⟩;try simp only [a_,go_sem]
   obtain ⟨n1,hn1⟩:∃ n:Nat,20 + x = (n:Int):=⟨(20 + x).toNat,by omega⟩
   repeat' (first|((with_reducible first|(refine hK _ ?_;clear hK K)|refine aj fun U O=>?_|apply ah|(apply Z<;>(intro hc;try simp at hc;try omega)))<;>try simp only [go_sem,hn1])|(with_reducible first|apply ag|(refine O _ ?_;clear O U)|refine kN dI fun K hK=>?_|refine kO fun K hK=>?_|refine aI ?_)|(refine xS rfl fun U O=>?_;simp only [go_sem,hn1])|apply iB)
   exact hK (n1,c2) _ ⟨by simp only;omega,hC.mono (by omega)⟩ (ao [(1,2)] (by simp [lk,ae]<;>omega))
  ·exact hK (n0,c2) _ ⟨hn0,hC.mono (by omega)⟩ (ao [(1,2)] (by simp [lk,ae]<;>omega))
 ·rintro ⟨n,c0⟩ ⟨hn,hC0⟩
  simp only at hn hC0
  dsimp only
  refine cm ?_
  refine ec (fun q:List InquiryD × List D=>⟨⟨100,[(0,.bptr 0 0),(1,.d (.lst 3 (l.map ItemD.dat))),(5,.row 1 q.1.length)]⟩,[(0,.pbox 0 ty (q.2.map .d)),(1,.row 50 5 (q.1.map InquiryD.dat))],2⟩) (fun q=>q.1.length≤21∧Cur (k + 1688) q.2) ?_ ?_
  ·intro K hK0
   repeat' (first|((with_reducible first|(refine hK _ ?_;clear hK K)|refine aj fun U O=>?_|apply ah|(apply Z<;>(intro hc;try simp at hc;try omega)))<;>try simp only [go_sem])|(with_reducible first|apply ag|(refine O _ ?_;clear O U)|refine kN dI fun K hK=>?_|refine kO fun K hK=>?_|refine aI ?_)|(refine xS rfl fun U O=>?_;simp only [go_sem])|apply iB)
   refine aD [4,5,6,8,9,10,11,22,23,24,25,26,27,28,29,30,31,32,33,34,35,36,37,38,39,40,41,42,43,44,45,46,47,48,49,50,51,52,53,54,55,56,57,58,59,60,61] (fun q:Nat × List InquiryD × Int × List D=>[(0,.bptr 0 0),(1,.d (.lst 3 (l.map ItemD.dat))),(5,.row 1 q.2.1.length),(6,.d (.int .i64 q.2.2.1)),(7,.d (.int .i64 (n:Int))),(8,.d (.int .i64 (q.1:Int)))]) (fun q=>[(0,.pbox 0 ty (q.2.2.2.map .d)),(1,.row 50 5 (q.2.1.map InquiryD.dat))]) 2 (fun q=>q.1≤120∧q.2.1.length≤n∧(0≤q.2.2.1∧q.2.2.1≤8 + 3 * (q.1:Int))∧Cur (k + 8 + 14 * q.1) q.2.2.2) (fun q=>120 - q.1) (0,[],tk,c0) ⟨by simp,by simp,by simp only;omega,hC0⟩ (ao [] (by simp [lk,ae]<;>omega)) ?_
   rintro ⟨t,q,tk2,c1⟩ ⟨ht,hq,htk2,hC1⟩;simp only [bi,wipe,wl,bh,bw,rm,if_true,if_false,Nat.reduceEqDiff,Bool.false_eq_true,reduceCtorEq]
   simp only at ht hq htk2 hC1
   by_cases hlt:q.length < n∧t < 120
   ·have h1:(q.length:Int) < (n:Int):=by omega
    have h2:(t:Int) < 120:=by omega
    repeat' (first|((with_reducible first|(refine hK _ ?_;clear hK K)|refine aj fun U O=>?_|apply ah|(apply Z<;>(intro hc;try simp at hc;try omega)))<;>try simp only [go_sem,h1,h2,an])|(with_reducible first|apply ag|(refine O _ ?_;clear O U)|refine kN dI fun K hK=>?_|refine kO fun K hK=>?_|refine aI ?_)|(refine xS rfl fun U O=>?_;simp only [go_sem,h1,h2,an])|apply iB)
    refine CallK.curA (some 0) (sA (t:=tk2) hC1 (by omega) hl hs) rfl rfl rfl rfl rfl rfl ?_
    rintro c3 _ ⟨x,hx,rfl,hC⟩
    try simp only [a_,go_sem]
    obtain ⟨es,b,hrun⟩:=uy l (q++[x]) hl hs hv (by simp;omega)
    have hap:q.map InquiryD.dat++[[.int .i64 x.tick,.int .i64 x.item,.int .i64 x.name,.int .i64 x.mark,.bool x.acc]] = (q++[x]).map InquiryD.dat:=by simp [InquiryD.dat]
    have hql:q.length + 1 = (q++[x]).length:=by simp
    have hqn:(q++[x]).length≤n:=by simp;omega
    generalize q++[x] = qx at hrun hap hql hqn
    clear hx
    cases b
    ·repeat' (first|((with_reducible first|(refine hK _ ?_;clear hK K)|refine aj fun U O=>?_|apply ah|(apply Z<;>(intro hc;try simp at hc;try omega)))<;>try simp only [go_sem,hap,hql,an])|(with_reducible first|apply ag|(refine O _ ?_;clear O U)|refine kN dI fun K hK=>?_|refine kO fun K hK=>?_|refine aI ?_)|(refine xS rfl fun U O=>?_;simp only [go_sem,hap,hql,an])|((with_reducible apply CallK.eq);(· with_reducible first|exact hrun);(· simp [RV.flat,D.sc,ab]);try simp only [go_sem,hap,hql,an])|((first|refine CallK.cur (some 0) (bI hC (by omega)) rfl rfl rfl rfl rfl rfl ?_);rintro c2 _ ⟨x,hx,rfl,hC⟩;try simp only [a_,go_sem,hap,hql,an])|apply iB)
     ·refine CallK.cur (some 0) (be hC (by omega)) rfl rfl rfl rfl rfl rfl ?_;rintro c2 _ ⟨x,hx,rfl,hC⟩;try simp only [a_,go_sem]
      repeat' (first|((with_reducible first|(refine hK _ ?_;clear hK K)|refine aj fun U O=>?_|apply ah|(apply Z<;>(intro hc;try simp at hc;try omega)))<;>try simp only [go_sem])|(with_reducible first|apply ag|(refine O _ ?_;clear O U)|refine kN dI fun K hK=>?_|refine kO fun K hK=>?_|refine aI ?_)|(refine xS rfl fun U O=>?_;simp only [go_sem])|apply iB)
      exact ⟨(t + 1,qx,tk2 + x,c2),⟨by simp only;omega,by simp only;omega,by simp only;omega,hC.mono (by simp only;omega)⟩,by simp only;omega,(ao [] (by simp [lk,ae]<;>omega))⟩
     ·refine CallK.cur (some 0) (be hC (by omega)) rfl rfl rfl rfl rfl rfl ?_;rintro c2 _ ⟨x,hx,rfl,hC⟩;try simp only [a_,go_sem]
      repeat' (first|((with_reducible first|(refine hK _ ?_;clear hK K)|refine aj fun U O=>?_|apply ah|(apply Z<;>(intro hc;try simp at hc;try omega)))<;>try simp only [go_sem])|(with_reducible first|apply ag|(refine O _ ?_;clear O U)|refine kN dI fun K hK=>?_|refine kO fun K hK=>?_|refine aI ?_)|(refine xS rfl fun U O=>?_;simp only [go_sem])|apply iB)
      exact ⟨(t + 1,q,tk2 + x,c2),⟨by simp only;omega,by simp only;omega,by simp only;omega,hC.mono (by simp only;omega)⟩,by simp only;omega,(ao [] (by simp [lk,ae]<;>omega))⟩
     ·refine CallK.cur (some 0) (be hC (by omega)) rfl rfl rfl rfl rfl rfl ?_;rintro c2 _ ⟨x,hx,rfl,hC⟩;try simp only [a_,go_sem]
      repeat' (first|((with_reducible first|(refine hK _ ?_;clear hK K)|refine aj fun U O=>?_|apply ah|(apply Z<;>(intro hc;try simp at hc;try omega)))<;>try simp only [go_sem])|(with_reducible first|apply ag|(refine O _ ?_;clear O U)|refine kN dI fun K hK=>?_|refine kO fun K hK=>?_|refine aI ?_)|(refine xS rfl fun U O=>?_;simp only [go_sem])|apply iB)
      exact ⟨(t + 1,qx,tk2 + x,c2),⟨by simp only;omega,by simp only;omega,by simp only;omega,hC.mono (by simp only;omega)⟩,by simp only;omega,(ao [] (by simp [lk,ae]<;>omega))⟩
    ·repeat' (first|((with_reducible first|(refine hK _ ?_;clear hK K)|refine aj fun U O=>?_|apply ah|(apply Z<;>(intro hc;try simp at hc;try omega)))<;>try simp only [go_sem,hap,hql,an])|(with_reducible first|apply ag|(refine O _ ?_;clear O U)|refine kN dI fun K hK=>?_|refine kO fun K hK=>?_|refine aI ?_)|(refine xS rfl fun U O=>?_;simp only [go_sem,hap,hql,an])|((with_reducible apply CallK.eq);(· with_reducible first|exact hrun);(· simp [RV.flat,D.sc,ab]);try simp only [go_sem,hap,hql,an])|((first|refine CallK.cur (some 0) (bI hC (by omega)) rfl rfl rfl rfl rfl rfl ?_);rintro c2 _ ⟨x,hx,rfl,hC⟩;try simp only [a_,go_sem,hap,hql,an])|apply iB)
     ·refine CallK.cur (some 0) (be hC (by omega)) rfl rfl rfl rfl rfl rfl ?_;rintro c2 _ ⟨x,hx,rfl,hC⟩;try simp only [a_,go_sem]
      repeat' (first|((with_reducible first|(refine hK _ ?_;clear hK K)|refine aj fun U O=>?_|apply ah|(apply Z<;>(intro hc;try simp at hc;try omega)))<;>try simp only [go_sem])|(with_reducible first|apply ag|(refine O _ ?_;clear O U)|refine kN dI fun K hK=>?_|refine kO fun K hK=>?_|refine aI ?_)|(refine xS rfl fun U O=>?_;simp only [go_sem])|apply iB)
      exact ⟨(t + 1,qx,tk2 + x,c2),⟨by simp only;omega,by simp only;omega,by simp only;omega,hC.mono (by simp only;omega)⟩,by simp only;omega,(ao [] (by simp [lk,ae]<;>omega))⟩
   ·by_cases h1:q.length < n
    ·have h1':(q.length:Int) < (n:Int):=by omega
     have h2:¬ (t:Int) < 120:=by omega
     repeat' (first|((with_reducible first|(refine hK _ ?_;clear hK K)|refine aj fun U O=>?_|apply ah|(apply Z<;>(intro hc;try simp at hc;try omega)))<;>try simp only [go_sem,h1',h2,an])|(with_reducible first|apply ag|(refine O _ ?_;clear O U)|refine kN dI fun K hK=>?_|refine kO fun K hK=>?_|refine aI ?_)|(refine xS rfl fun U O=>?_;simp only [go_sem,h1',h2,an])|apply iB)
     exact hK0 (q,c1) _ ⟨by simp only;omega,hC1.mono (by omega)⟩ (ao [] (by simp [lk,ae]<;>omega))
    ·have h1':¬ (q.length:Int) < (n:Int):=by omega
     repeat' (first|((with_reducible first|(refine hK _ ?_;clear hK K)|refine aj fun U O=>?_|apply ah|(apply Z<;>(intro hc;try simp at hc;try omega)))<;>try simp only [go_sem,h1',an])|(with_reducible first|apply ag|(refine O _ ?_;clear O U)|refine kN dI fun K hK=>?_|refine kO fun K hK=>?_|refine aI ?_)|(refine xS rfl fun U O=>?_;simp only [go_sem,h1',an])|apply iB)
     exact hK0 (q,c1) _ ⟨by simp only;omega,hC1.mono (by omega)⟩ (ao [] (by simp [lk,ae]<;>omega))
  ·rintro ⟨q,c0⟩ ⟨hq,hC0⟩
   simp only at hq hC0
   dsimp only
   by_cases h0:0 < q.length
   ·have h0':(0:Int) < (q.length:Int):=by omega
    repeat' (first|((with_reducible first|(refine hK _ ?_;clear hK K)|refine aj fun U O=>?_|apply ah|(apply Z<;>(intro hc;try simp at hc;try omega)))<;>try simp only [go_sem,h0,h0',an])|(with_reducible first|apply ag|(refine O _ ?_;clear O U)|refine kN dI fun K hK=>?_|refine kO fun K hK=>?_|refine aI ?_)|(refine xS rfl fun U O=>?_;simp only [go_sem,h0,h0',an])|apply iB)
    refine CallK.cur (some 0) (be hC0 (by omega)) rfl rfl rfl rfl rfl rfl ?_;rintro c2 _ ⟨x,hx,rfl,hC⟩;try simp only [a_,go_sem]
    obtain ⟨a,rfl⟩:∃ a:Nat,x = (a:Int):=⟨x.toNat,by omega⟩
    have haq:a < q.length:=by omega
    obtain ⟨e,he⟩:∃ e,q[a]? = some e:=⟨_,List.getElem?_eq_getElem haq⟩
    clear hx
    repeat' (first|((with_reducible first|(refine hK _ ?_;clear hK K)|refine aj fun U O=>?_|apply ah|(apply Z<;>(intro hc;try simp at hc;try omega)))<;>try simp only [go_sem,an,haq])|(with_reducible first|apply ag|(refine O _ ?_;clear O U)|refine kN dI fun K hK=>?_|refine kO fun K hK=>?_|refine aI ?_)|(refine xS rfl fun U O=>?_;simp only [go_sem,an,haq])|apply iB)
    refine CallK.cur (some 0) (be hC (by omega)) rfl rfl rfl rfl rfl rfl ?_;rintro c2 _ ⟨x,hx,rfl,hC⟩;try simp only [a_,go_sem]
    clear hx
    by_cases h1:x = 0
    ·subst h1
     repeat' (first|((with_reducible first|(refine hK _ ?_;clear hK K)|refine aj fun U O=>?_|apply ah|(apply Z<;>(intro hc;try simp at hc;try omega)))<;>try simp only [go_sem,an,ap,he,aq,InquiryD.dat,haq])|(with_reducible first|apply ag|(refine O _ ?_;clear O U)|refine kN dI fun K hK=>?_|refine kO fun K hK=>?_|refine aI ?_)|(refine xS rfl fun U O=>?_;simp only [go_sem,an,ap,he,aq,InquiryD.dat,haq])|apply iB)
     refine CallK.cur (some 0) (bu (l:=[-1,100000,100001]) hC (by omega) (by simp) (by simp)) rfl rfl rfl rfl rfl rfl ?_
     rintro c3 _ ⟨u,hu,rfl,hC3⟩
     try simp only [a_,go_sem]
     repeat' (first|((with_reducible first|(refine hK _ ?_;clear hK K)|refine aj fun U O=>?_|apply ah|(apply Z<;>(intro hc;try simp at hc;try omega)))<;>try simp only [go_sem,an,ap,he,aq,InquiryD.dat,haq])|(with_reducible first|apply ag|(refine O _ ?_;clear O U)|refine kN dI fun K hK=>?_|refine kO fun K hK=>?_|refine aI ?_)|(refine xS rfl fun U O=>?_;simp only [go_sem,an,ap,he,aq,InquiryD.dat,haq])|apply iB)
     refine bQ (id:=0) (xs:=[.row _ _]) _ rfl (by simp only [bl,bn,ae,lk,an,cl,if_true,if_false,Nat.reduceEqDiff,Nat.reduceBEq,Bool.false_eq_true,Option.some.injEq]<;>rfl) (by simp [am,lk]) rfl (Cur.len (by assumption)) ⟨q.set a ⟨u,e.item,e.name,e.mark,e.acc⟩,by simp only [cl];omega,(by simp [InquiryD.dat,List.map_set,bx]),Cur.mono (by assumption) (by omega)⟩
    by_cases h2:x = 1
    ·subst h2
     repeat' (first|((with_reducible first|(refine hK _ ?_;clear hK K)|refine aj fun U O=>?_|apply ah|(apply Z<;>(intro hc;try simp at hc;try omega)))<;>try simp only [go_sem,an,ap,he,aq,InquiryD.dat,haq])|(with_reducible first|apply ag|(refine O _ ?_;clear O U)|refine kN dI fun K hK=>?_|refine kO fun K hK=>?_|refine aI ?_)|(refine xS rfl fun U O=>?_;simp only [go_sem,an,ap,he,aq,InquiryD.dat,haq])|apply iB)
     refine CallK.cur (some 0) (bu (l:=[-1,4]) hC (by omega) (by simp) (by simp)) rfl rfl rfl rfl rfl rfl ?_
     rintro c3 _ ⟨u,hu,rfl,hC3⟩
     try simp only [a_,go_sem]
     repeat' (first|((with_reducible first|(refine hK _ ?_;clear hK K)|refine aj fun U O=>?_|apply ah|(apply Z<;>(intro hc;try simp at hc;try omega)))<;>try simp only [go_sem,an,ap,he,aq,InquiryD.dat,haq])|(with_reducible first|apply ag|(refine O _ ?_;clear O U)|refine kN dI fun K hK=>?_|refine kO fun K hK=>?_|refine aI ?_)|(refine xS rfl fun U O=>?_;simp only [go_sem,an,ap,he,aq,InquiryD.dat,haq])|apply iB)
     refine bQ (id:=0) (xs:=[.row _ _]) _ rfl (by simp only [bl,bn,ae,lk,an,cl,if_true,if_false,Nat.reduceEqDiff,Nat.reduceBEq,Bool.false_eq_true,Option.some.injEq]<;>rfl) (by simp [am,lk]) rfl (Cur.len (by assumption)) ⟨q.set a ⟨e.tick,e.item,e.name,u,e.acc⟩,by simp only [cl];omega,(by simp [InquiryD.dat,List.map_set,bx]),Cur.mono (by assumption) (by omega)⟩
    by_cases h3:x = 2
    ·subst h3
     repeat' (first|((with_reducible first|(refine hK _ ?_;clear hK K)|refine aj fun U O=>?_|apply ah|(apply Z<;>(intro hc;try simp at hc;try omega)))<;>try simp only [go_sem,an,ap,he,aq,InquiryD.dat,haq])|(with_reducible first|apply ag|(refine O _ ?_;clear O U)|refine kN dI fun K hK=>?_|refine kO fun K hK=>?_|refine aI ?_)|(refine xS rfl fun U O=>?_;simp only [go_sem,an,ap,he,aq,InquiryD.dat,haq])|apply iB)
     refine bQ (id:=0) (xs:=[.row _ _]) _ rfl (by simp only [bl,bn,ae,lk,an,cl,if_true,if_false,Nat.reduceEqDiff,Nat.reduceBEq,Bool.false_eq_true,Option.some.injEq]<;>rfl) (by simp [am,lk]) rfl (Cur.len (by assumption)) ⟨q.set a ⟨e.tick,e.item,e.name,e.mark,!e.acc⟩,by simp only [cl];omega,(by simp [InquiryD.dat,List.map_set,bx]),Cur.mono (by assumption) (by omega)⟩
    repeat' (first|((with_reducible first|(refine hK _ ?_;clear hK K)|refine aj fun U O=>?_|apply ah|(apply Z<;>(intro hc;try simp at hc;try omega)))<;>try simp only [go_sem,h1,h2,h3,an])|(with_reducible first|apply ag|(refine O _ ?_;clear O U)|refine kN dI fun K hK=>?_|refine kO fun K hK=>?_|refine aI ?_)|(refine xS rfl fun U O=>?_;simp only [go_sem,h1,h2,h3,an])|apply iB)
    refine bQ (id:=0) (xs:=[.row _ _]) _ rfl (by simp only [bl,bn,ae,lk,an,cl,if_true,if_false,Nat.reduceEqDiff,Nat.reduceBEq,Bool.false_eq_true,Option.some.injEq]<;>rfl) (by simp [am,lk]) rfl (Cur.len (by assumption)) ⟨q,by omega,(by simp [InquiryD.dat,List.map_set,bx]),Cur.mono (by assumption) (by omega)⟩
   ·have h0':¬ (0:Int) < (q.length:Int):=by omega
    repeat' (first|((with_reducible first|(refine hK _ ?_;clear hK K)|refine aj fun U O=>?_|apply ah|(apply Z<;>(intro hc;try simp at hc;try omega)))<;>try simp only [go_sem,h0,h0',an])|(with_reducible first|apply ag|(refine O _ ?_;clear O U)|refine kN dI fun K hK=>?_|refine kO fun K hK=>?_|refine aI ?_)|(refine xS rfl fun U O=>?_;simp only [go_sem,h0,h0',an])|apply iB)
    refine bQ (id:=0) (xs:=[.row _ _]) _ rfl (by simp only [bl,bn,ae,lk,an,cl,if_true,if_false,Nat.reduceEqDiff,Nat.reduceBEq,Bool.false_eq_true,Option.some.injEq]<;>rfl) (by simp [am,lk]) rfl (Cur.len (by assumption)) ⟨q,by omega,(by simp [InquiryD.dat,List.map_set,bx]),Cur.mono (by assumption) (by omega)⟩
end Go.Proofs.YtphakidbddamfaaGreat
set_option linter.unusedSimpArgs false
set_option linter.unusedVariables false
set_option maxHeartbeats 2000000
set_option maxRecDepth 100000
namespace Go.Proofs.YtphakidbddamfaaGreat
open Go.RowKit
theorem so (xs:List Int) (hx:∀ x ∈ xs,0≤x∧x≤255) (hn:xs.length≤9223372036854775807):FnOK Tryz.prog 91 [.d (.lst 1 (xs.map fF))] (fun rs=>∃ (l:List ItemD) (q:List InquiryD),(sW l∧q.length≤21)∧rs = [.d (.lst 3 (l.map ItemD.dat)),.d (.lst 5 (q.map InquiryD.dat))]):=by
 refine FnOK.data ?_
 have hC:=xk hx hn
 refine aO aa Tryz.func91 rfl rfl ?_;simp only [Tryz.ntmps91,aR,aM,Nat.reduceAdd,Nat.reduceSub,aW]
 repeat' (first|((with_reducible first|(refine hK _ ?_;clear hK K)|refine aj fun U O=>?_|apply ah|(apply Z<;>(intro hc;try simp at hc;try omega)))<;>try simp only [go_sem])|(with_reducible first|apply ag|(refine O _ ?_;clear O U)|refine kN pm fun K hK=>?_|refine kO fun K hK=>?_|refine aI ?_)|fail)
 rw [w5 (.lst 1 (xs.map fF)) (.int .i64 0) (.int .u64 0)]
 generalize [D.lst 1 (xs.map fF),D.int .i64 0,D.int .u64 0] = cs at hC ⊢
 refine CallK.cur (none) (lC (by assumption) (by omega)) rfl rfl rfl rfl rfl rfl ?_;rintro c2 _ ⟨x,hx,rfl,hC⟩;try simp only [a_,go_sem]
 rename List ItemD=>l
 have hl:sW l:=hx
 clear hx
 have hs:∀ r ∈ l,ItFit 1048576 r:=fun r hr=>(hl.2 r hr).fit
 have hs63:∀ r ∈ l,ItFit 9223372036854775807 r:=fun r hr=>(hs r hr).mono (by decide)
 have hil:=di l (by have:=hl.1;omega) hs63
 by_cases hv:ItsOk l
 ·rw [aQ hv] at hil
  repeat' (first|with_reducible refine bs (id:=5) ?_|with_reducible refine br (id:=5) ?_|((with_reducible first|(refine hK _ ?_;clear hK K)|refine aj fun U O=>?_|apply ah|(apply Z<;>(intro hc;try simp at hc;try omega)))<;>try simp only [go_sem,an])|(with_reducible first|apply ag|(refine O _ ?_;clear O U)|refine kN pm fun K hK=>?_|refine kO fun K hK=>?_|refine aI ?_)|((with_reducible apply CallK.eq);(· with_reducible first|exact hil);(· simp [RV.flat,D.sc,ab]);try simp only [go_sem,an])|fail)
  refine gG 3 rfl ?_
  simp only [go_sem]
  refine nH 5 rfl rfl (by rw [an]) ?_
  simp only [upl,dH,ae,Nat.reduceEqDiff,if_true,if_false]
  repeat' (first|((with_reducible first|(refine hK _ ?_;clear hK K)|refine aj fun U O=>?_|apply ah|(apply Z<;>(intro hc;try simp at hc;try omega)))<;>try simp only [go_sem])|(with_reducible first|apply ag|(refine O _ ?_;clear O U)|refine kN pm fun K hK=>?_|refine kO fun K hK=>?_|refine aI ?_)|fail)
  refine CallK.cur (none) (j1 hC (by omega) (by have:=hl.1;omega) hs hv) rfl rfl rfl rfl rfl rfl ?_;rintro c2 _ ⟨x,hx,rfl,hC⟩;try simp only [a_,go_sem]
  repeat' (first|((with_reducible first|(refine hK _ ?_;clear hK K)|refine aj fun U O=>?_|apply ah|(apply Z<;>(intro hc;try simp at hc;try omega)))<;>try simp only [go_sem])|(with_reducible first|apply ag|(refine O _ ?_;clear O U)|refine kN pm fun K hK=>?_|refine kO fun K hK=>?_|refine aI ?_)|fail)
  refine ak (rs:=[.d (.lst 3 (l.map ItemD.dat)),.row 50 5 (x.map InquiryD.dat)]) rfl (by simp [bl,bn,cX,dT,ae,lk]) (by simp [am,bb,lk]) ?_
  exact ⟨l,x,⟨hl,hx⟩,rfl⟩
 ·rw [aG hv] at hil
  repeat' (first|((with_reducible first|(refine hK _ ?_;clear hK K)|refine aj fun U O=>?_|apply ah|(apply Z<;>(intro hc;try simp at hc;try omega)))<;>try simp only [go_sem,an])|(with_reducible first|apply ag|(refine O _ ?_;clear O U)|refine kN pm fun K hK=>?_|refine kO fun K hK=>?_|refine aI ?_)|((with_reducible apply CallK.eq);(· with_reducible first|exact hil);(· simp [RV.flat,D.sc,ab]);try simp only [go_sem,an])|fail)
  refine ak (rs:=[.deep 143 3 (l.map ItemD.dat),.row 50 5 []]) rfl (by simp [bl,bn,cX,dT,ae,lk]) (by simp [am,bb,lk]) ?_
  exact ⟨l,[],⟨hl,by simp⟩,rfl⟩
end Go.Proofs.YtphakidbddamfaaGreat
