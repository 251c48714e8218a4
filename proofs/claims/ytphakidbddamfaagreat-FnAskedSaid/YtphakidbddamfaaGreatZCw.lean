/-
  Inquiries: AreInquiries, ItemsAfter, AsHistory, the program's functions and the reference's, in the abstract machine.
-/
import Derived.Test.YtphakidbddamfaaGreatZIr
import Derived.Test.YtphakidbddamfaaGreatZMc
import Derived.Test.YtphakidbddamfaaGreatZM11
import Derived.Test.YtphakidbddamfaaGreatZMst
import Derived.Test.YtphakidbddamfaaGreatZAw
set_option linter.unusedSimpArgs false
set_option linter.unusedVariables false
set_option maxHeartbeats 2000000
set_option maxRecDepth 100000
namespace Go.Proofs.YtphakidbddamfaaGreat
open Go.ChangeShapes Go.WideShapes Go.ChangeAt Go.RowKit Go.Deep
theorem ga (l:List ItemD):(dO l).data = .d (.lst 3 (l.map ItemD.dat)):=by
 unfold dO
 split
 ·rename_i h;rw [List.length_eq_zero_iff.1 h];rfl
 ·rfl
theorem cf {P:Program} {f:FuncId} {args:List PV} {rs:List RV} (h:FnEq P f args rs):FnEq P f args (rs.map RV.data):=FnOK.data (h.mono fun _ e=>by rw [e])
noncomputable def tX (l:List ItemD) (q:List InquiryD):List ItemD:=if bP (cz l q) = true then bS l q q.length else []
theorem iF (l:List ItemD) (q:List InquiryD):(qJ l q).map RV.data = [.d (.lst 3 ((tX l q).map ItemD.dat)),.d (.bool (bP (cz l q∧q.length≤20)))]:=by
 by_cases h:cz l q
 ·have e:bP (cz l q∧q.length≤20) = decide ((q.length:Int)≤20):=by
   rw [Bool.eq_iff_iff,bP_iff,decide_eq_true_eq];exact ⟨fun h=>by omega,fun h'=>⟨h,by omega⟩⟩
  rw [eZ h,tX,if_pos (aQ h),e]
  simp only [aJ,aH,ga]
  rfl
 ·rw [dR h,tX,if_neg (by rw [aG h];simp),aG fun h'=>h h'.1]
  rfl
noncomputable def bv (l:List ItemD) (q:List InquiryD):Option Bool:=lY (ItsOk l) (bP (cz l q∧q.length≤20))
theorem ja (xs0:List ItemD) (xs1:List InquiryD) (hl0:xs0.length≤1048576) (hk0:∀ r ∈ xs0,ItFit 1048576 r) (hl1:xs1.length≤1048576):FnEq Tryz.prog 37 [.d (.lst 3 (xs0.map ItemD.dat)),.d (.lst 5 (xs1.map InquiryD.dat))] [.d (.bool ((bv xs0 xs1).getD false)),.d (.bool (bv xs0 xs1).isSome)]:=by
 have hk63:∀ r ∈ xs0,ItFit 9223372036854775807 r:=fun r hr=>(hk0 r hr).mono (by decide)
 have hn63:xs0.length≤9223372036854775807:=by omega
 have hq63:xs1.length≤9223372036854775807:=by omega
 refine aO aa Tryz.func37 rfl rfl ?_;simp only [Tryz.ntmps37,aR,aM,Nat.reduceAdd,Nat.reduceSub,aW]
 by_cases hv:ItsOk xs0
 ·have hb:=aQ hv
  have hd:=cf (je xs0 xs1 hl0 hk0 hv hq63)
  rw [iF] at hd
  rw [show bv xs0 xs1 = _ from cW hv]
  repeat' (first|((with_reducible first|(refine hK _ ?_;clear hK K)|refine aj fun U O=>?_|apply ah|(apply Z<;>(intro hc;try simp at hc;try omega)))<;>try simp only [go_sem,hb])|(with_reducible first|apply ag|(refine O _ ?_;clear O U)|refine kN xu fun K hK=>?_|refine kO fun K hK=>?_|refine aI ?_)|((with_reducible apply CallK.eq);(· with_reducible first|exact cV xs0 hn63 hk63|exact hd);(· simp [RV.flat,D.sc,ab]);try simp only [go_sem,hb])|fail)
  refine ak rfl rfl (by simp [am,lk]) ?_;rfl
 ·have hb:=aG hv
  rw [show bv xs0 xs1 = _ from dF hv]
  repeat' (first|((with_reducible first|(refine hK _ ?_;clear hK K)|refine aj fun U O=>?_|apply ah|(apply Z<;>(intro hc;try simp at hc;try omega)))<;>try simp only [go_sem,hb])|(with_reducible first|apply ag|(refine O _ ?_;clear O U)|refine kN xu fun K hK=>?_|refine kO fun K hK=>?_|refine aI ?_)|((with_reducible apply CallK.eq);(· with_reducible first|exact cV xs0 hn63 hk63);(· simp [RV.flat,D.sc,ab]);try simp only [go_sem,hb])|fail)
  refine ak rfl rfl (by simp [am,lk]) ?_;rfl
theorem jc (xs0:List ItemD) (xs1:List InquiryD) (hl0:xs0.length≤1048576) (hk0:∀ r ∈ xs0,ItFit 1048576 r) (hl1:xs1.length≤1048576):FnEq Tryz.prog 38 [.d (.lst 3 (xs0.map ItemD.dat)),.d (.lst 5 (xs1.map InquiryD.dat))] [.d (.bool ((bv xs0 xs1).getD false)),.d (.bool (bv xs0 xs1).isSome)]:=by
 have hk63:∀ r ∈ xs0,ItFit 9223372036854775807 r:=fun r hr=>(hk0 r hr).mono (by decide)
 have hn63:xs0.length≤9223372036854775807:=by omega
 have hq63:xs1.length≤9223372036854775807:=by omega
 refine aO aa Tryz.func38 rfl rfl ?_;simp only [Tryz.ntmps38,aR,aM,Nat.reduceAdd,Nat.reduceSub,aW]
 by_cases hv:ItsOk xs0
 ·have hb:=aQ hv
  have hd:=cf (jo xs0 xs1 hl0 hk0 hv hq63)
  rw [iF] at hd
  rw [show bv xs0 xs1 = _ from cW hv]
  repeat' (first|((with_reducible first|(refine hK _ ?_;clear hK K)|refine aj fun U O=>?_|apply ah|(apply Z<;>(intro hc;try simp at hc;try omega)))<;>try simp only [go_sem,hb])|(with_reducible first|apply ag|(refine O _ ?_;clear O U)|refine kN w_ fun K hK=>?_|refine kO fun K hK=>?_|refine aI ?_)|((with_reducible apply CallK.eq);(· with_reducible first|exact di xs0 hn63 hk63|exact hd);(· simp [RV.flat,D.sc,ab]);try simp only [go_sem,hb])|fail)
  refine ak rfl rfl (by simp [am,lk]) ?_;rfl
 ·have hb:=aG hv
  rw [show bv xs0 xs1 = _ from dF hv]
  repeat' (first|((with_reducible first|(refine hK _ ?_;clear hK K)|refine aj fun U O=>?_|apply ah|(apply Z<;>(intro hc;try simp at hc;try omega)))<;>try simp only [go_sem,hb])|(with_reducible first|apply ag|(refine O _ ?_;clear O U)|refine kN w_ fun K hK=>?_|refine kO fun K hK=>?_|refine aI ?_)|((with_reducible apply CallK.eq);(· with_reducible first|exact di xs0 hn63 hk63);(· simp [RV.flat,D.sc,ab]);try simp only [go_sem,hb])|fail)
  refine ak rfl rfl (by simp [am,lk]) ?_;rfl
def eA (l:List ItemD) (q:List InquiryD):Prop:=ItsOk l∧cz l q∧q.length≤20
noncomputable def ud (l:List ItemD) (q:List InquiryD):List RV:=if bP (eA l q) = true then [dO (bS l q q.length),.d (.bool true)] else [.row 143 3 [],.d (.bool false)]
theorem nk {l:List ItemD} {q:List InquiryD} (h:eA l q):ud l q = [dO (bS l q q.length),.d (.bool true)]:=if_pos (aQ h)
theorem hU {l:List ItemD} {q:List InquiryD} (h:¬ eA l q):ud l q = [.row 143 3 [],.d (.bool false)]:=if_neg (by rw [aG h];simp)
noncomputable def iK (l:List ItemD) (q:List InquiryD):List ItemD:=if bP (eA l q) = true then bS l q q.length else []
theorem jh (l:List ItemD) (q:List InquiryD):(ud l q).map RV.data = [.d (.lst 3 ((iK l q).map ItemD.dat)),.d (.bool (bP (eA l q)))]:=by
 by_cases h:eA l q
 ·rw [nk h,iK,if_pos (aQ h),aQ h]
  simp only [aJ,aH,ga]
  rfl
 ·rw [hU h,iK,if_neg (by rw [aG h];simp),aG h]
  rfl
theorem eV (l:List ItemD) (q:List InquiryD) (hn:l.length≤1048576) (hs:∀ r ∈ l,ItFit 1048576 r) (hq:q.length≤1048576):FnEq Tryz.prog 33 [.d (.lst 3 (l.map ItemD.dat)),.d (.lst 5 (q.map InquiryD.dat))] (ud l q):=by
 have hk63:∀ r ∈ l,ItFit 9223372036854775807 r:=fun r hr=>(hs r hr).mono (by decide)
 have hn63:l.length≤9223372036854775807:=by omega
 have hq63:q.length≤9223372036854775807:=by omega
 have hil:=dq l q q.length
 refine aO aa Tryz.func33 rfl rfl ?_;simp only [Tryz.ntmps33,aR,aM,Nat.reduceAdd,Nat.reduceSub,aW]
 by_cases hv:ItsOk l
 ·have hb:=aQ hv
  have hd:=je l q hn hs hv hq63
  by_cases hi:cz l q
  ·rw [eZ hi] at hd
   by_cases hc20:q.length≤20
   ·have h20:decide ((q.length:Int)≤20) = true:=decide_eq_true (by omega)
    rw [nk ⟨hv,hi,hc20⟩]
    rw [h20] at hd
    by_cases h0:(bS l q q.length).length = 0
    ·rw [show dO (bS l q q.length) = _ from if_pos h0] at hd ⊢
     repeat' (first|((with_reducible first|(refine hK _ ?_;clear hK K)|refine aj fun U O=>?_|apply ah|(apply Z<;>(intro hc;try simp at hc;try omega)))<;>try simp only [go_sem,hb])|(with_reducible first|apply ag|(refine O _ ?_;clear O U)|refine kN pX fun K hK=>?_|refine kO fun K hK=>?_|refine aI ?_)|((with_reducible apply CallK.eq);(· with_reducible first|exact cV l hn63 hk63|exact hd);(· simp [RV.flat,D.sc,ab]);try simp only [go_sem,hb])|fail)
     refine ak rfl (by simp only [aM,bl,bn,ae,lk,an,aM,List.length_append,List.length_take,if_true,if_false,Nat.reduceEqDiff,Nat.reduceBEq,Bool.false_eq_true,Option.some.injEq];rfl) (by simp [am,lk]) ?_;rfl
    ·rw [show dO (bS l q q.length) = _ from if_neg h0] at hd ⊢
     repeat' (first|((with_reducible first|(refine hK _ ?_;clear hK K)|refine aj fun U O=>?_|apply ah|(apply Z<;>(intro hc;try simp at hc;try omega)))<;>try simp only [go_sem,hb])|(with_reducible first|apply ag|(refine O _ ?_;clear O U)|refine kN pX fun K hK=>?_|refine kO fun K hK=>?_|refine aI ?_)|((with_reducible apply CallK.eq);(· with_reducible first|exact cV l hn63 hk63|exact hd);(· simp [RV.flat,D.sc,ab]);try simp only [go_sem,hb])|fail)
     refine ak rfl (by simp only [hil,bl,bn,ae,lk,an,aM,List.length_append,List.length_take,if_true,if_false,Nat.reduceEqDiff,Nat.reduceBEq,Bool.false_eq_true,Option.some.injEq];rfl) (by simp [am,lk]) ?_;rfl
   ·have h20:decide ((q.length:Int)≤20) = false:=decide_eq_false (by omega)
    rw [hU fun h=>hc20 h.2.2]
    have hd:=cf hd
    simp only [aJ,aH,ga,RV.data] at hd
    rw [h20] at hd
    repeat' (first|((with_reducible first|(refine hK _ ?_;clear hK K)|refine aj fun U O=>?_|apply ah|(apply Z<;>(intro hc;try simp at hc;try omega)))<;>try simp only [go_sem,hb])|(with_reducible first|apply ag|(refine O _ ?_;clear O U)|refine kN pX fun K hK=>?_|refine kO fun K hK=>?_|refine aI ?_)|((with_reducible apply CallK.eq);(· with_reducible first|exact cV l hn63 hk63|exact hd);(· simp [RV.flat,D.sc,ab]);try simp only [go_sem,hb])|fail)
    refine ak rfl (by simp only [aM,bl,bn,ae,lk,an,aM,List.length_append,List.length_take,if_true,if_false,Nat.reduceEqDiff,Nat.reduceBEq,Bool.false_eq_true,Option.some.injEq];rfl) (by simp [am,lk]) ?_;rfl
  ·rw [dR hi] at hd
   rw [hU fun h=>hi h.2.1]
   have hd:=cf hd
   simp only [aJ,aH,RV.data] at hd
   repeat' (first|((with_reducible first|(refine hK _ ?_;clear hK K)|refine aj fun U O=>?_|apply ah|(apply Z<;>(intro hc;try simp at hc;try omega)))<;>try simp only [go_sem,hb])|(with_reducible first|apply ag|(refine O _ ?_;clear O U)|refine kN pX fun K hK=>?_|refine kO fun K hK=>?_|refine aI ?_)|((with_reducible apply CallK.eq);(· with_reducible first|exact cV l hn63 hk63|exact hd);(· simp [RV.flat,D.sc,ab]);try simp only [go_sem,hb])|fail)
   refine ak rfl (by simp only [aM,bl,bn,ae,lk,an,aM,List.length_append,List.length_take,if_true,if_false,Nat.reduceEqDiff,Nat.reduceBEq,Bool.false_eq_true,Option.some.injEq];rfl) (by simp [am,lk]) ?_;rfl
 ·have hb:=aG hv
  rw [hU fun h=>hv h.1]
  repeat' (first|((with_reducible first|(refine hK _ ?_;clear hK K)|refine aj fun U O=>?_|apply ah|(apply Z<;>(intro hc;try simp at hc;try omega)))<;>try simp only [go_sem,hb])|(with_reducible first|apply ag|(refine O _ ?_;clear O U)|refine kN pX fun K hK=>?_|refine kO fun K hK=>?_|refine aI ?_)|((with_reducible apply CallK.eq);(· with_reducible first|exact cV l hn63 hk63);(· simp [RV.flat,D.sc,ab]);try simp only [go_sem,hb])|fail)
  refine ak rfl (by simp only [aM,bl,bn,ae,lk,an,aM,List.length_append,List.length_take,if_true,if_false,Nat.reduceEqDiff,Nat.reduceBEq,Bool.false_eq_true,Option.some.injEq];rfl) (by simp [am,lk]) ?_;rfl
theorem eY (l:List ItemD) (q:List InquiryD) (hn:l.length≤1048576) (hs:∀ r ∈ l,ItFit 1048576 r) (hq:q.length≤1048576):FnEq Tryz.prog 34 [.d (.lst 3 (l.map ItemD.dat)),.d (.lst 5 (q.map InquiryD.dat))] (ud l q):=by
 have hk63:∀ r ∈ l,ItFit 9223372036854775807 r:=fun r hr=>(hs r hr).mono (by decide)
 have hn63:l.length≤9223372036854775807:=by omega
 have hq63:q.length≤9223372036854775807:=by omega
 have hil:=dq l q q.length
 refine aO aa Tryz.func34 rfl rfl ?_;simp only [Tryz.ntmps34,aR,aM,Nat.reduceAdd,Nat.reduceSub,aW]
 by_cases hv:ItsOk l
 ·have hb:=aQ hv
  have hd:=jo l q hn hs hv hq63
  by_cases hi:cz l q
  ·rw [eZ hi] at hd
   by_cases hc20:q.length≤20
   ·have h20:decide ((q.length:Int)≤20) = true:=decide_eq_true (by omega)
    rw [nk ⟨hv,hi,hc20⟩]
    rw [h20] at hd
    by_cases h0:(bS l q q.length).length = 0
    ·rw [show dO (bS l q q.length) = _ from if_pos h0] at hd ⊢
     repeat' (first|((with_reducible first|(refine hK _ ?_;clear hK K)|refine aj fun U O=>?_|apply ah|(apply Z<;>(intro hc;try simp at hc;try omega)))<;>try simp only [go_sem,hb])|(with_reducible first|apply ag|(refine O _ ?_;clear O U)|refine kN qD fun K hK=>?_|refine kO fun K hK=>?_|refine aI ?_)|((with_reducible apply CallK.eq);(· with_reducible first|exact di l hn63 hk63|exact hd);(· simp [RV.flat,D.sc,ab]);try simp only [go_sem,hb])|fail)
     refine ak rfl (by simp only [aM,bl,bn,ae,lk,an,aM,List.length_append,List.length_take,if_true,if_false,Nat.reduceEqDiff,Nat.reduceBEq,Bool.false_eq_true,Option.some.injEq];rfl) (by simp [am,lk]) ?_;rfl
    ·rw [show dO (bS l q q.length) = _ from if_neg h0] at hd ⊢
     repeat' (first|((with_reducible first|(refine hK _ ?_;clear hK K)|refine aj fun U O=>?_|apply ah|(apply Z<;>(intro hc;try simp at hc;try omega)))<;>try simp only [go_sem,hb])|(with_reducible first|apply ag|(refine O _ ?_;clear O U)|refine kN qD fun K hK=>?_|refine kO fun K hK=>?_|refine aI ?_)|((with_reducible apply CallK.eq);(· with_reducible first|exact di l hn63 hk63|exact hd);(· simp [RV.flat,D.sc,ab]);try simp only [go_sem,hb])|fail)
     refine ak rfl (by simp only [hil,bl,bn,ae,lk,an,aM,List.length_append,List.length_take,if_true,if_false,Nat.reduceEqDiff,Nat.reduceBEq,Bool.false_eq_true,Option.some.injEq];rfl) (by simp [am,lk]) ?_;rfl
   ·have h20:decide ((q.length:Int)≤20) = false:=decide_eq_false (by omega)
    rw [hU fun h=>hc20 h.2.2]
    have hd:=cf hd
    simp only [aJ,aH,ga,RV.data] at hd
    rw [h20] at hd
    repeat' (first|((with_reducible first|(refine hK _ ?_;clear hK K)|refine aj fun U O=>?_|apply ah|(apply Z<;>(intro hc;try simp at hc;try omega)))<;>try simp only [go_sem,hb])|(with_reducible first|apply ag|(refine O _ ?_;clear O U)|refine kN qD fun K hK=>?_|refine kO fun K hK=>?_|refine aI ?_)|((with_reducible apply CallK.eq);(· with_reducible first|exact di l hn63 hk63|exact hd);(· simp [RV.flat,D.sc,ab]);try simp only [go_sem,hb])|fail)
    refine ak rfl (by simp only [aM,bl,bn,ae,lk,an,aM,List.length_append,List.length_take,if_true,if_false,Nat.reduceEqDiff,Nat.reduceBEq,Bool.false_eq_true,Option.some.injEq];rfl) (by simp [am,lk]) ?_;rfl
  ·rw [dR hi] at hd
   rw [hU fun h=>hi h.2.1]
   have hd:=cf hd
   simp only [aJ,aH,RV.data] at hd
   repeat' (first|((with_reducible first|(refine hK _ ?_;clear hK K)|refine aj fun U O=>?_|apply ah|(apply Z<;>(intro hc;try simp at hc;try omega)))<;>try simp only [go_sem,hb])|(with_reducible first|apply ag|(refine O _ ?_;clear O U)|refine kN qD fun K hK=>?_|refine kO fun K hK=>?_|refine aI ?_)|((with_reducible apply CallK.eq);(· with_reducible first|exact di l hn63 hk63|exact hd);(· simp [RV.flat,D.sc,ab]);try simp only [go_sem,hb])|fail)
   refine ak rfl (by simp only [aM,bl,bn,ae,lk,an,aM,List.length_append,List.length_take,if_true,if_false,Nat.reduceEqDiff,Nat.reduceBEq,Bool.false_eq_true,Option.some.injEq];rfl) (by simp [am,lk]) ?_;rfl
 ·have hb:=aG hv
  rw [hU fun h=>hv h.1]
  repeat' (first|((with_reducible first|(refine hK _ ?_;clear hK K)|refine aj fun U O=>?_|apply ah|(apply Z<;>(intro hc;try simp at hc;try omega)))<;>try simp only [go_sem,hb])|(with_reducible first|apply ag|(refine O _ ?_;clear O U)|refine kN qD fun K hK=>?_|refine kO fun K hK=>?_|refine aI ?_)|((with_reducible apply CallK.eq);(· with_reducible first|exact di l hn63 hk63);(· simp [RV.flat,D.sc,ab]);try simp only [go_sem,hb])|fail)
  refine ak rfl (by simp only [aM,bl,bn,ae,lk,an,aM,List.length_append,List.length_take,if_true,if_false,Nat.reduceEqDiff,Nat.reduceBEq,Bool.false_eq_true,Option.some.injEq];rfl) (by simp [am,lk]) ?_;rfl
end Go.Proofs.YtphakidbddamfaaGreat
set_option linter.unusedSimpArgs false
set_option linter.unusedVariables false
set_option maxHeartbeats 2000000
set_option maxRecDepth 100000
namespace Go.Proofs.YtphakidbddamfaaGreat
open Go.ChangeShapes Go.WideShapes Go.ChangeAt Go.RowKit Go.Deep
structure ChangeD where
 tick:Int
 caller:Int
 item:Int
 name:Int
 mark:Int
 review:Bool
def ChangeD.dat (x:ChangeD):List D:=[.int .i64 x.tick,.int .i64 x.caller,.int .i64 x.item,.int .i64 x.name,.int .i64 x.mark,.bool x.review]
end Go.Proofs.YtphakidbddamfaaGreat
set_option linter.unusedSimpArgs false
set_option linter.unusedVariables false
set_option maxHeartbeats 2000000
set_option maxRecDepth 100000
namespace Go.Proofs.YtphakidbddamfaaGreat
open Go.ChangeShapes Go.WideShapes Go.ChangeAt Go.RowKit Go.Deep
def gQ (x:InquiryD):ChangeD:=⟨x.tick,9,x.item,x.name,x.mark,false⟩
def ca (q:List InquiryD):List ChangeD:=fm (fun x=>x.acc) gQ q
theorem jG {q:List InquiryD} {k:Nat} {x:InquiryD} (hx:q[k]? = some x) (h:x.acc = true):ca (q.take (k + 1)) = ca (q.take k)++[gQ x]:=xn hx h
theorem kk {q:List InquiryD} {k:Nat} {x:InquiryD} (hx:q[k]? = some x) (h:x.acc = false):ca (q.take (k + 1)) = ca (q.take k):=xH hx h
theorem jl:ca [] = []:=rfl
theorem jq (q:List InquiryD) (k:Nat):(ca (q.take k)).length≤k:=rr _ _ _ _
noncomputable def bD (l:List ItemD) (q:List InquiryD):Option (List ChangeD):=lY (eA l q) (ca q)
theorem lf (l:List ItemD) (q:List InquiryD) (hn:l.length≤1048576) (hs:∀ r ∈ l,ItFit 1048576 r) (hq:q.length≤1048576):FnEq Tryz.prog 35 [.d (.lst 3 (l.map ItemD.dat)),.d (.lst 5 (q.map InquiryD.dat))] [.row 131 6 (((bD l q).getD []).map ChangeD.dat),.d (.bool (bD l q).isSome)]:=by
 have hd:=cf (eV l q hn hs hq)
 rw [jh] at hd
 refine aO aa Tryz.func35 rfl rfl ?_;simp only [Tryz.ntmps35,aR,aM,Nat.reduceAdd,Nat.reduceSub,aW]
 by_cases hv:eA l q
 ·have hb:=aQ hv
  rw [hb] at hd
  rw [show bD l q = _ from cW hv]
  repeat' (first|((with_reducible first|(refine hK _ ?_;clear hK K)|refine aj fun U O=>?_|apply ah|(apply Z<;>(intro hc;try simp at hc;try omega)))<;>try simp only [go_sem])|(with_reducible first|apply ag|(refine O _ ?_;clear O U)|refine kN qd fun K hK=>?_|refine kO fun K hK=>?_|refine aI ?_)|((with_reducible apply CallK.eq);(· with_reducible first|exact hd);(· simp [RV.flat,D.sc,ab]);try simp only [go_sem])|apply iB)
  refine aD [4,5,8,10,22,23,24,25,26,27,28,29,30,31,32,33,34,35,36,37,38,39,40] (fun k:Nat=>[(22,.d (.int .i64 (k:Int))),(8,.row 0 (ca (q.take k)).length)]) (fun k:Nat=>[(0,.row 131 6 ((ca (q.take k)).map ChangeD.dat))]) 1 (fun k:Nat=>k≤q.length) (fun k:Nat=>q.length - k) 0 (Nat.zero_le _) (ao [] (by simp [lk,ae,jl]<;>omega)) ?_
  intro k hk
  have hL:=jq q k
  simp only [bi,wipe,wl,bh,bw,rm,if_true,if_false,Nat.reduceEqDiff,Bool.false_eq_true,reduceCtorEq]
  by_cases hlt:k < q.length
  ·have hx:=List.getElem?_eq_getElem hlt
   generalize q[k] = x at hx
   cases hacc:x.acc
   ·have hno:=kk hx hacc
    repeat' (first|((with_reducible first|(refine hK _ ?_;clear hK K)|refine aj fun U O=>?_|apply ah|(apply Z<;>(intro hc;try simp at hc;try omega)))<;>try simp only [go_sem,ap,hx,aq,InquiryD.dat,hacc])|(with_reducible first|apply ag|(refine O _ ?_;clear O U)|refine kN qd fun K hK=>?_|refine kO fun K hK=>?_|refine aI ?_)|apply iB)
    exact ⟨k + 1,by omega,by omega,(ao [] (by simp [lk,ae,hno]<;>omega))⟩
   ·have hyes:=jG hx hacc
    repeat' (first|((with_reducible first|(refine hK _ ?_;clear hK K)|refine aj fun U O=>?_|apply ah|(apply Z<;>(intro hc;try simp at hc;try omega)))<;>try simp only [go_sem,ap,hx,aq,InquiryD.dat,hacc,an])|(with_reducible first|apply ag|(refine O _ ?_;clear O U)|refine kN qd fun K hK=>?_|refine kO fun K hK=>?_|refine aI ?_)|apply iB)
    all_goals first
     |(exfalso;omega)
     |exact ⟨k + 1,by omega,by omega,(ao [] (by simp [lk,ae,hyes,gQ,ChangeD.dat]<;>omega))⟩
  ·have e:q.take k = q:=List.take_of_length_le (by omega)
   rw [e]
   repeat' (first|((with_reducible first|(refine hK _ ?_;clear hK K)|refine aj fun U O=>?_|apply ah|(apply Z<;>(intro hc;try simp at hc;try omega)))<;>try simp only [go_sem])|(with_reducible first|apply ag|(refine O _ ?_;clear O U)|refine kN qd fun K hK=>?_|refine kO fun K hK=>?_|refine aI ?_)|apply iB)
   refine ak rfl (by simp only [an,Option.getD_some,bl,bn,ae,lk,an,aM,List.length_append,List.length_take,if_true,if_false,Nat.reduceEqDiff,Nat.reduceBEq,Bool.false_eq_true,Option.some.injEq];rfl) (by simp [am,lk]) ?_;rfl
 ·have hb:=aG hv
  rw [hb] at hd
  rw [show bD l q = _ from dF hv]
  repeat' (first|((with_reducible first|(refine hK _ ?_;clear hK K)|refine aj fun U O=>?_|apply ah|(apply Z<;>(intro hc;try simp at hc;try omega)))<;>try simp only [go_sem])|(with_reducible first|apply ag|(refine O _ ?_;clear O U)|refine kN qd fun K hK=>?_|refine kO fun K hK=>?_|refine aI ?_)|((with_reducible apply CallK.eq);(· with_reducible first|exact hd);(· simp [RV.flat,D.sc,ab]);try simp only [go_sem])|apply iB)
  refine ak rfl (by simp only [aM,bl,bn,ae,lk,an,aM,List.length_append,List.length_take,if_true,if_false,Nat.reduceEqDiff,Nat.reduceBEq,Bool.false_eq_true,Option.some.injEq];rfl) (by simp [am,lk]) ?_;rfl
theorem le (l:List ItemD) (q:List InquiryD) (hn:l.length≤1048576) (hs:∀ r ∈ l,ItFit 1048576 r) (hq:q.length≤1048576):FnEq Tryz.prog 36 [.d (.lst 3 (l.map ItemD.dat)),.d (.lst 5 (q.map InquiryD.dat))] [.row 131 6 (((bD l q).getD []).map ChangeD.dat),.d (.bool (bD l q).isSome)]:=by
 have hd:=cf (eY l q hn hs hq)
 rw [jh] at hd
 refine aO aa Tryz.func36 rfl rfl ?_;simp only [Tryz.ntmps36,aR,aM,Nat.reduceAdd,Nat.reduceSub,aW]
 by_cases hv:eA l q
 ·have hb:=aQ hv
  rw [hb] at hd
  rw [show bD l q = _ from cW hv]
  repeat' (first|((with_reducible first|(refine hK _ ?_;clear hK K)|refine aj fun U O=>?_|apply ah|(apply Z<;>(intro hc;try simp at hc;try omega)))<;>try simp only [go_sem])|(with_reducible first|apply ag|(refine O _ ?_;clear O U)|refine kN qc fun K hK=>?_|refine kO fun K hK=>?_|refine aI ?_)|((with_reducible apply CallK.eq);(· with_reducible first|exact hd);(· simp [RV.flat,D.sc,ab]);try simp only [go_sem])|apply iB)
  refine aD [4,5,8,10,21,22,23,24,25,26,27,28,29,30,31,32,33,34,35,36,37,38,39] (fun k:Nat=>[(21,.d (.int .i64 (k:Int))),(8,.row 0 (ca (q.take k)).length)]) (fun k:Nat=>[(0,.row 131 6 ((ca (q.take k)).map ChangeD.dat))]) 1 (fun k:Nat=>k≤q.length) (fun k:Nat=>q.length - k) 0 (Nat.zero_le _) (ao [] (by simp [lk,ae,jl]<;>omega)) ?_
  intro k hk
  have hL:=jq q k
  simp only [bi,wipe,wl,bh,bw,rm,if_true,if_false,Nat.reduceEqDiff,Bool.false_eq_true,reduceCtorEq]
  by_cases hlt:k < q.length
  ·have hx:=List.getElem?_eq_getElem hlt
   generalize q[k] = x at hx
   cases hacc:x.acc
   ·have hno:=kk hx hacc
    repeat' (first|((with_reducible first|(refine hK _ ?_;clear hK K)|refine aj fun U O=>?_|apply ah|(apply Z<;>(intro hc;try simp at hc;try omega)))<;>try simp only [go_sem,ap,hx,aq,InquiryD.dat,hacc])|(with_reducible first|apply ag|(refine O _ ?_;clear O U)|refine kN qc fun K hK=>?_|refine kO fun K hK=>?_|refine aI ?_)|apply iB)
    exact ⟨k + 1,by omega,by omega,(ao [] (by simp [lk,ae,hno]<;>omega))⟩
   ·have hyes:=jG hx hacc
    repeat' (first|((with_reducible first|(refine hK _ ?_;clear hK K)|refine aj fun U O=>?_|apply ah|(apply Z<;>(intro hc;try simp at hc;try omega)))<;>try simp only [go_sem,ap,hx,aq,InquiryD.dat,hacc,an])|(with_reducible first|apply ag|(refine O _ ?_;clear O U)|refine kN qc fun K hK=>?_|refine kO fun K hK=>?_|refine aI ?_)|apply iB)
    all_goals first
     |(exfalso;omega)
     |exact ⟨k + 1,by omega,by omega,(ao [] (by simp [lk,ae,hyes,gQ,ChangeD.dat]<;>omega))⟩
  ·have e:q.take k = q:=List.take_of_length_le (by omega)
   rw [e]
   repeat' (first|((with_reducible first|(refine hK _ ?_;clear hK K)|refine aj fun U O=>?_|apply ah|(apply Z<;>(intro hc;try simp at hc;try omega)))<;>try simp only [go_sem])|(with_reducible first|apply ag|(refine O _ ?_;clear O U)|refine kN qc fun K hK=>?_|refine kO fun K hK=>?_|refine aI ?_)|apply iB)
   refine ak rfl (by simp only [an,Option.getD_some,bl,bn,ae,lk,an,aM,List.length_append,List.length_take,if_true,if_false,Nat.reduceEqDiff,Nat.reduceBEq,Bool.false_eq_true,Option.some.injEq];rfl) (by simp [am,lk]) ?_;rfl
 ·have hb:=aG hv
  rw [hb] at hd
  rw [show bD l q = _ from dF hv]
  repeat' (first|((with_reducible first|(refine hK _ ?_;clear hK K)|refine aj fun U O=>?_|apply ah|(apply Z<;>(intro hc;try simp at hc;try omega)))<;>try simp only [go_sem])|(with_reducible first|apply ag|(refine O _ ?_;clear O U)|refine kN qc fun K hK=>?_|refine kO fun K hK=>?_|refine aI ?_)|((with_reducible apply CallK.eq);(· with_reducible first|exact hd);(· simp [RV.flat,D.sc,ab]);try simp only [go_sem])|apply iB)
  refine ak rfl (by simp only [aM,bl,bn,ae,lk,an,aM,List.length_append,List.length_take,if_true,if_false,Nat.reduceEqDiff,Nat.reduceBEq,Bool.false_eq_true,Option.some.injEq];rfl) (by simp [am,lk]) ?_;rfl
end Go.Proofs.YtphakidbddamfaaGreat
namespace Go.Proofs.YtphakidbddamfaaGreat
open Go.RowKit
structure ElementD where
 name:ByteArray
 family:Int
 level:Int
 base:Int
def ElementD.dat (x:ElementD):List D:=[.str x.name,.int .i64 x.family,.int .i64 x.level,.int .i64 x.base]
structure CodeD where
 elements:List ElementD
 limits:List Int
 repeats:Int
 bonus:Int
 keeps:Int
 fall:Int
@[reducible] def CodeD.cs (c:CodeD):List PV:=[.d (.lst 4 (c.elements.map ElementD.dat)),.d (.lst 1 (c.limits.map ab)),.d (.int .i64 c.repeats),.d (.int .i64 c.bonus),.d (.int .i64 c.keeps),.d (.int .i64 c.fall)]
def CodeD.dat (c:CodeD):List D:=[.lst 4 (c.elements.map ElementD.dat),.lst 1 (c.limits.map ab),.int .i64 c.repeats,.int .i64 c.bonus,.int .i64 c.keeps,.int .i64 c.fall]
@[reducible] def tc (m:Nat) (x:ElementD):Prop:=x.name.size≤m
def CdFit (m:Nat) (c:CodeD):Prop:=c.elements.length≤m∧(∀ x ∈ c.elements,tc m x)∧c.limits.length≤m
theorem CdFit.mono {m m':Nat} (h:m≤m') {c:CodeD} (hc:CdFit m c):CdFit m' c:=⟨Nat.le_trans hc.1 h,fun s hs=>Nat.le_trans (hc.2.1 s hs) h,Nat.le_trans hc.2.2 h⟩
def o5 (l:List ElementD) (k:Nat):ByteArray:=((l[k - 1]?).map ElementD.name).getD ByteArray.empty
theorem jB {l:List ElementD} {k:Nat} {p:ElementD} (hp:l[k - 1]? = some p):o5 l k = p.name:=by unfold o5;rw [hp];rfl
def ElAt (l:List ElementD) (k:Nat) (x:ElementD):Prop:=NameOk x.name∧0≤x.family∧x.family≤4∧0≤x.level∧x.level≤4∧1≤x.base∧x.base≤2000∧(0 < k→Op.bytesLess (o5 l k).toList x.name.toList = true)
def dx (c:CodeD):Prop:=1≤c.elements.length∧c.elements.length≤24∧c.limits.length = 5∧1≤c.repeats∧c.repeats≤3∧0≤c.bonus∧c.bonus≤20∧50≤c.keeps∧c.keeps≤100∧0≤c.fall∧c.fall≤500
def CodeOk (c:CodeD):Prop:=All (ElAt c.elements) c.elements∧cv 0 9 c.limits∧dx c
def ly (nm:ByteArray) (x:ElementD):Bool:=decide (x.name = nm)
def bL (c:CodeD) (nm:ByteArray):Int:=ij (ly nm) c.elements 0
theorem f_ {c:CodeD} {nm:ByteArray} (h:0≤bL c nm):∃ x,c.elements[(bL c nm).toNat]? = some x∧x.name = nm:=by
 rcases k6 (p:=ly nm) c.elements 0 with ⟨h1,_⟩|⟨k,x,h1,h2,h3,_⟩
 ·rw [bL,h1] at h;omega
 ·refine ⟨x,?_,by simpa [ly] using h3⟩
  rw [bL,h1]
  simpa using h2
theorem qr (c:CodeD) (nm:ByteArray):bL c nm < (c.elements.length:Int)∧-1≤bL c nm:=by
 rcases k6 (p:=ly nm) c.elements 0 with ⟨h1,_⟩|⟨k,x,h1,h2,_,_⟩
 ·rw [bL,h1];omega
 ·have:=(List.getElem?_eq_some_iff.1 h2).1
  rw [bL,h1];omega
def fP (c:CodeD) (x:ElementD) (m:Int):Int:=if m = 1 then (x.base * c.keeps).tdiv 100 else if m = 2 then (x.base * 9).tdiv 10 else if m = 3 then 0 else x.base
def eX (c:CodeD) (nm:ByteArray) (m:Int):Int:=match c.elements[(bL c nm).toNat]? with
 |some x=>if bL c nm < 0 then -1 else fP c x m
 |none=>-1
theorem kw {c:CodeD} {nm:ByteArray} {m:Int} {x:ElementD} (h:0≤bL c nm) (hx:c.elements[(bL c nm).toNat]? = some x):eX c nm m = fP c x m:=by
 unfold eX;rw [hx];simp only;rw [if_neg (by omega)]
theorem te {c:CodeD} {nm:ByteArray} {m:Int} (h:bL c nm < 0):eX c nm m = -1:=by
 unfold eX
 split
 ·rw [if_pos h]
 ·rfl
theorem pS {a b A B:Int} (h1:-A≤a) (h2:a≤A) (h3:0≤b) (h4:b≤B):-(A * B)≤a * b∧a * b≤A * B:=by
 have hA:0≤A:=by omega
 have h5:a * b≤A * b:=Int.mul_le_mul_of_nonneg_right h2 h3
 have h6:A * b≤A * B:=Int.mul_le_mul_of_nonneg_left h4 hA
 have h7:-A * b≤a * b:=Int.mul_le_mul_of_nonneg_right h1 h3
 have h8:-A * b = -(A * b):=Int.neg_mul A b
 omega
theorem fY {a b A B:Int} (h1:0≤a) (h2:a≤A) (h3:0≤b) (h4:b≤B):0≤a * b∧a * b≤A * B:=
 ⟨Int.mul_nonneg h1 h3,(pS (by omega) h2 h3 h4).2⟩
theorem ElAt.worth {c:CodeD} (hc:dx c) {k:Nat} {x:ElementD} (hx:ElAt c.elements k x) (m:Int):0≤fP c x m∧fP c x m≤2000:=by
 obtain ⟨_,_,_,_,_,h1,h2,_⟩:=hx
 obtain ⟨_,_,_,_,_,_,_,h3,h4,_⟩:=hc
 have hm:=fY (a:=x.base) (b:=c.keeps) (A:=2000) (B:=100) (by omega) h2 (by omega) h4
 unfold fP
 split
 ·rw [Int.tdiv_eq_ediv_of_nonneg hm.1];omega
 ·split
  ·rw [Int.tdiv_eq_ediv_of_nonneg (by omega)];omega
  ·split<;>omega
theorem uu {c:CodeD} (hc:CodeOk c) {nm:ByteArray} (m:Int) (h:0≤bL c nm):0≤eX c nm m∧eX c nm m≤2000:=by
 obtain ⟨x,hx,_⟩:=f_ h
 rw [kw h hx]
 exact (hc.1 _ _ hx).worth hc.2.2 m
end Go.Proofs.YtphakidbddamfaaGreat
