/-
  Items after inquiries: the reference's function, in the abstract machine.
-/
import Derived.Test.YtphakidbddamfaaGreatZIq
import Derived.Test.YtphakidbddamfaaGreatZMc
import Derived.Test.YtphakidbddamfaaGreatZSg
import Derived.Test.YtphakidbddamfaaGreatZIu
import Derived.Test.YtphakidbddamfaaGreatZPt
set_option linter.unusedSimpArgs false
set_option linter.unusedVariables false
set_option maxHeartbeats 2000000
set_option maxRecDepth 100000
namespace Go.Proofs.YtphakidbddamfaaGreat
open Go.RowKit
theorem vS {l:List ItemD} {q:List InquiryD} {k:Nat} (hJ:Upto (e_ l q) q k) (hk:k≤q.length):0≤ij q k:=by
 rcases Nat.eq_zero_or_pos k with h0|h0
 ·rw [h0];exact Int.le_refl _
 ·have hp:=List.getElem?_eq_getElem (show k - 1 < q.length by omega)
  rw [kn h0 hp]
  exact (hJ _ _ (by omega) hp).1
set_option maxHeartbeats 8000000 in
theorem p4 (l:List ItemD) (q:List InquiryD) (hn:l.length≤1048576) (hs:∀ r ∈ l,ItFit 1048576 r) (hv:ItsOk l) (hq:q.length≤9223372036854775807):FnEq Tryz.prog 64 [.d (.lst 3 (l.map ItemD.dat)),.d (.lst 5 (q.map InquiryD.dat))] (s3 l q):=by
 have hs63:∀ r ∈ l,ItFit 9223372036854775807 r:=fun r hr=>(hs r hr).mono (by decide)
 refine aN ae Tryz.func64 rfl rfl ?_;simp only [Tryz.ntmps64,aP,aK,Nat.reduceAdd,Nat.reduceSub,aV]
 by_cases h0:l.length = 0
 ·have hc1:=iE l hn hs
  rw [show eg l = _ from if_pos h0] at hc1
  have hn63:l.length≤9223372036854775807:=by omega
  have hnh:∀ i j,¬ HasNm l i j:=fun i j h=>by obtain ⟨_,_,y,hy,_⟩:=h;have:=(List.getElem?_eq_some_iff.1 hy).1;omega
  repeat' (first|with_reducible refine bs (id:=6) ?_|with_reducible refine br (id:=6) ?_|with_reducible refine bs (id:=10) ?_|with_reducible refine br (id:=10) ?_|((with_reducible first|(apply hK;clear hK K)|refine ah fun U O=>?_|apply ag|(apply Z<;>(intro hc;try simp at hc;try omega)))<;>try simp only [go_sem])|(with_reducible first|apply aj|(apply O;clear O U)|refine kN dE fun K hK=>?_|refine kO fun K hK=>?_|refine aI ?_)|(refine xS rfl fun U O=>?_;simp only [go_sem])|(refine qS rfl fun U O=>?_;simp only [go_sem])|((with_reducible first|apply CallK.eq|apply CallQ.eqs);(· with_reducible first|exact hc1);(· first|exact rfl|(simp [RV.flat,D.sc,aa];done));try simp only [go_sem])|(with_reducible refine dP dE ae 0 11 ay (by kernel_rfl) (fun K hK=>?_);simp only [List.take_succ_cons,List.take_zero,List.drop_succ_cons,List.drop_zero])|(with_reducible refine az dE ae ay (by kernel_rfl) (fun K hK=>?_))|(with_reducible refine aO ae ay (by kernel_rfl) ?_)|apply iB)
  refine aA [4,5,7,9,14,15,16,17,18,19,20,21,22,23,24,25,26,27,28,29,30,31,32,33,34,35,36,37,38,39,40,41,42,43,44,45,46,47,48,49,50,51,52,53,54,55,56,57,58,59,60,61,62,63,64,65,66,67,68] (fun k:Nat=>[(14,.d (.int .i64 (k:Int))),(6,.row 0 0),(7,.d (.int .i64 0))]) (fun k:Nat=>[(0,.row 143 3 [])]) 1 (fun k:Nat=>k≤q.length∧k = 0) (fun k:Nat=>q.length - k) 0 ⟨Nat.zero_le _,rfl⟩ (an [] (by simp [lk,ab]<;>omega)) ?_
  rintro k ⟨hk,hk0⟩
  simp only [bc,wipe,wl,bb,bx,rm,if_true,if_false,Nat.reduceEqDiff,Bool.false_eq_true,reduceCtorEq]
  by_cases hlt:k < q.length
  ·have hx:=List.getElem?_eq_getElem hlt
   generalize q[k] = x at hx
   have hNb:=aL (hnh x.item x.name)
   have hA:¬ e_ l q k x:=fun h=>hnh _ _ h.2.2.2.1
   repeat' (first|((with_reducible first|(apply hK;clear hK K)|refine ah fun U O=>?_|apply ag|(apply Z<;>(intro hc;try simp at hc;try omega)))<;>try simp only [go_sem,ap,hx,hNb,ar,InquiryD.dat,aa,ao])|(with_reducible first|apply aj|(apply O;clear O U)|refine kN dE fun K hK=>?_|refine kO fun K hK=>?_|refine aI ?_)|(refine xS rfl fun U O=>?_;simp only [go_sem,ap,hx,hNb,ar,InquiryD.dat,aa,ao])|(refine qS rfl fun U O=>?_;simp only [go_sem,ap,hx,hNb,ar,InquiryD.dat,aa,ao])|((with_reducible first|apply CallK.eq|apply CallQ.eqs);(· with_reducible first|exact ct _ _ _|exact i2 l x.item x.name hn63 hs63);(· first|exact rfl|(simp [RV.flat,D.sc,aa];done));try simp only [go_sem,ap,hx,hNb,ar,InquiryD.dat,aa,ao])|(with_reducible refine az (id:=6) dE ae ay (by kernel_rfl) (fun K hK=>?_))|(with_reducible refine aO (id:=6) ae ay (by kernel_rfl) ?_)|apply iB)
   all_goals first
    |(exfalso;omega)
    |((refine ak rfl (by simp only [h0,bj,bn,ab,lk,ao,aK,List.length_append,List.length_take,if_true,if_false,Nat.reduceEqDiff,Nat.reduceBEq,Bool.false_eq_true,Option.some.injEq];rfl) (by simp [am,lk]) ?_);exact (d4 fun h=>hA (h _ x hx)).symm)
  ·have hq0:q = []:=List.length_eq_zero_iff.1 (by omega)
   have hr:=fy (l:=l) (q:=q) (fun j x hx=>by rw [hq0] at hx;simp at hx)
   have hil:=gi l q q.length
   rw [show eg (de l q q.length) = _ from if_pos (by omega)] at hr
   repeat' (first|with_reducible refine bs (id:=6) ?_|with_reducible refine br (id:=6) ?_|with_reducible refine bs (id:=10) ?_|with_reducible refine br (id:=10) ?_|((with_reducible first|(apply hK;clear hK K)|refine ah fun U O=>?_|apply ag|(apply Z<;>(intro hc;try simp at hc;try omega)))<;>try simp only [go_sem])|(with_reducible first|apply aj|(apply O;clear O U)|refine kN dE fun K hK=>?_|refine kO fun K hK=>?_|refine aI ?_)|(refine xS rfl fun U O=>?_;simp only [go_sem])|(refine qS rfl fun U O=>?_;simp only [go_sem])|(with_reducible refine dP dE ae 0 11 ay (by kernel_rfl) (fun K hK=>?_);simp only [List.take_succ_cons,List.take_zero,List.drop_succ_cons,List.drop_zero])|(with_reducible refine az dE ae ay (by kernel_rfl) (fun K hK=>?_))|(with_reducible refine aO ae ay (by kernel_rfl) ?_)|apply iB)
   all_goals first
    |(exfalso;omega)
    |((refine ak rfl (by simp only [h0,bj,bn,ab,lk,ao,aK,List.length_append,List.length_take,if_true,if_false,Nat.reduceEqDiff,Nat.reduceBEq,Bool.false_eq_true,Option.some.injEq];rfl) (by simp [am,lk]) ?_);rw [hr])
 ·have hc1:=iE l hn hs
  rw [show eg l = _ from if_neg h0] at hc1
  have hil:=gi l q
  have hn63:l.length≤9223372036854775807:=by omega
  repeat' (first|with_reducible refine bs (id:=6) ?_|with_reducible refine br (id:=6) ?_|with_reducible refine bs (id:=10) ?_|with_reducible refine br (id:=10) ?_|((with_reducible first|(apply hK;clear hK K)|refine ah fun U O=>?_|apply ag|(apply Z<;>(intro hc;try simp at hc;try omega)))<;>try simp only [go_sem])|(with_reducible first|apply aj|(apply O;clear O U)|refine kN dE fun K hK=>?_|refine kO fun K hK=>?_|refine aI ?_)|(refine xS rfl fun U O=>?_;simp only [go_sem])|(refine qS rfl fun U O=>?_;simp only [go_sem])|((with_reducible first|apply CallK.eq|apply CallQ.eqs);(· with_reducible first|exact hc1);(· first|exact rfl|(simp [RV.flat,D.sc,aa];done));try simp only [go_sem])|(with_reducible refine dP dE ae 0 11 ay (by kernel_rfl) (fun K hK=>?_);simp only [List.take_succ_cons,List.take_zero,List.drop_succ_cons,List.drop_zero])|(with_reducible refine az dE ae ay (by kernel_rfl) (fun K hK=>?_))|(with_reducible refine aO ae ay (by kernel_rfl) ?_)|apply iB)
  refine aA [4,5,7,9,14,15,16,17,18,19,20,21,22,23,24,25,26,27,28,29,30,31,32,33,34,35,36,37,38,39,40,41,42,43,44,45,46,47,48,49,50,51,52,53,54,55,56,57,58,59,60,61,62,63,64,65,66,67,68] (fun k:Nat=>[(14,.d (.int .i64 (k:Int))),(6,.row 0 l.length),(7,.d (.int .i64 (ij q k)))]) (fun k:Nat=>[(0,.deep 0 143 3 ((de l q k).map ItemD.dat))]) 1 (fun k:Nat=>k≤q.length∧Upto (e_ l q) q k) (fun k:Nat=>q.length - k) 0 ⟨Nat.zero_le _,Upto.zero _ _⟩ (an [] (by simp [lk,ab,fE,tj]<;>omega)) ?_
  rintro k ⟨hk,hJ⟩
  simp only [bc,wipe,wl,bb,bx,rm,if_true,if_false,Nat.reduceEqDiff,Bool.false_eq_true,reduceCtorEq]
  have hilk:=hil k
  by_cases hlt:k < q.length
  ·have hx:=List.getElem?_eq_getElem hlt
   generalize q[k] = x at hx
   have co:=kn (q:=q) (k:=k + 1) (p:=x) (by omega) (by rw [Nat.add_sub_cancel];exact hx)
   have hpt:=vS hJ hk
   by_cases hN:HasNm l x.item x.name
   ·have hNb:=aW hN
    have hiff:=oC (q:=q) (k:=k) hN
    obtain ⟨a,b,m,ha,hb,hnm,hml,hjn,hmn,hm,hmk⟩:=hN.there (q:=q) hv k
    rw [hmk] at hiff
    have hi0:=hN.1
    have hj0:=hN.2.1
    have hilt:x.item.toNat < l.length:=(List.getElem?_eq_some_iff.1 ha).1
    have hjlt:x.name.toNat < b.marks.length:=by omega
    generalize ij q k = pt at hiff hpt
    refine vT (id:=0) (k:=x.item.toNat) (off:=1) (es':=b.marks.map aa) rfl (by simp [cU,hb,ItemD.dat];rfl) ?_
    repeat' (first|((with_reducible first|(apply hK;clear hK K)|refine ah fun U O=>?_|apply ag|(apply Z<;>(intro hc;try simp at hc;try omega)))<;>try simp only [go_sem,ap,hx,hNb,ar,InquiryD.dat,ItemD.dat,hb,hilk,hilt,hjlt,hm,aa,ao,hi0,hj0])|(with_reducible first|apply aj|(apply O;clear O U)|refine kN dE fun K hK=>?_|refine kO fun K hK=>?_|refine aI ?_)|(refine xS rfl fun U O=>?_;simp only [go_sem,ap,hx,hNb,ar,InquiryD.dat,ItemD.dat,hb,hilk,hilt,hjlt,hm,aa,ao,hi0,hj0])|(refine qS rfl fun U O=>?_;simp only [go_sem,ap,hx,hNb,ar,InquiryD.dat,ItemD.dat,hb,hilk,hilt,hjlt,hm,aa,ao,hi0,hj0])|((with_reducible first|apply CallK.eq|apply CallQ.eqs);(· with_reducible first|exact ct _ _ _|exact i2 l x.item x.name hn63 hs63);(· first|exact rfl|(simp [RV.flat,D.sc,aa];done));try simp only [go_sem,ap,hx,hNb,ar,InquiryD.dat,ItemD.dat,hb,hilk,hilt,hjlt,hm,aa,ao,hi0,hj0])|(with_reducible refine az (id:=6) dE ae ay (by kernel_rfl) (fun K hK=>?_))|(with_reducible refine aO (id:=6) ae ay (by kernel_rfl) ?_)|apply iB)
    all_goals first
     |((refine ak rfl (by simp only [hilk,bj,bn,ab,lk,ao,aK,List.length_append,List.length_take,if_true,if_false,Nat.reduceEqDiff,Nat.reduceBEq,Bool.false_eq_true,Option.some.injEq];rfl) (by simp [am,lk]) ?_);exact (d4 fun h=>absurd (h _ x hx) (by rw [hiff];omega)).symm)
     |skip
    refine m7 (i':=1) (k:=x.item.toNat) (off:=1) (es':=b.marks.map aa) (ti:=.slc 3 1 8 [.int .i64 0]) rfl (ae _ _ k_) rfl rfl rfl (by simp [cU,hb,ItemD.dat];rfl) rfl ?_
    repeat' (first|((with_reducible first|(apply hK;clear hK K)|refine ah fun U O=>?_|apply ag|(apply Z<;>(intro hc;try simp at hc;try omega)))<;>try simp only [go_sem,ap,hx,hNb,ar,InquiryD.dat,ItemD.dat,hb,hilk,hilt,hjlt,hm,aa,ao,hi0,hj0])|(with_reducible first|apply aj|(apply O;clear O U)|refine kN dE fun K hK=>?_|refine kO fun K hK=>?_|refine aI ?_)|(refine xS rfl fun U O=>?_;simp only [go_sem,ap,hx,hNb,ar,InquiryD.dat,ItemD.dat,hb,hilk,hilt,hjlt,hm,aa,ao,hi0,hj0])|(refine qS rfl fun U O=>?_;simp only [go_sem,ap,hx,hNb,ar,InquiryD.dat,ItemD.dat,hb,hilk,hilt,hjlt,hm,aa,ao,hi0,hj0])|((with_reducible first|apply CallK.eq|apply CallQ.eqs);(· with_reducible first|exact ct _ _ _|exact i2 l x.item x.name hn63 hs63);(· first|exact rfl|(simp [RV.flat,D.sc,aa];done));try simp only [go_sem,ap,hx,hNb,ar,InquiryD.dat,ItemD.dat,hb,hilk,hilt,hjlt,hm,aa,ao,hi0,hj0])|(with_reducible refine az (id:=6) dE ae ay (by kernel_rfl) (fun K hK=>?_))|(with_reducible refine aO (id:=6) ae ay (by kernel_rfl) ?_)|apply iB)
    all_goals first
     |((refine ak rfl (by simp only [hilk,bj,bn,ab,lk,ao,aK,List.length_append,List.length_take,if_true,if_false,Nat.reduceEqDiff,Nat.reduceBEq,Bool.false_eq_true,Option.some.injEq];rfl) (by simp [am,lk]) ?_);exact (d4 fun h=>absurd (h _ x hx) (by rw [hiff];omega)).symm)
     |skip
    all_goals
     (by_cases hacc:x.acc = true)
    all_goals first
     |(exfalso;simp_all;done)
     |skip
    all_goals
     have hA:e_ l q k x:=hiff.2 (by omega)
     have hJ':=hJ.succ hx hA
    all_goals try
     (have bf:=mf (l:=l) hx (by simpa using hacc)
      exact ⟨k + 1,⟨by omega,hJ'⟩,by omega,(an [] (by simp [lk,ab,bf,co]<;>omega))⟩)
    refine iC ae 0 11 ay (by decide +kernel) ?_
    simp only [List.take_succ_cons,List.take_zero,List.drop_succ_cons,List.drop_zero]
    repeat' (first|((with_reducible first|(apply hK;clear hK K)|refine ah fun U O=>?_|apply ag|(apply Z<;>(intro hc;try simp at hc;try omega)))<;>try simp only [go_sem,ap,hx,hNb,ar,InquiryD.dat,ItemD.dat,hb,hilk,hilt,hjlt,hm,aa,ao,hi0,hj0])|(with_reducible first|apply aj|(apply O;clear O U)|refine kN dE fun K hK=>?_|refine kO fun K hK=>?_|refine aI ?_)|(refine xS rfl fun U O=>?_;simp only [go_sem,ap,hx,hNb,ar,InquiryD.dat,ItemD.dat,hb,hilk,hilt,hjlt,hm,aa,ao,hi0,hj0])|(refine qS rfl fun U O=>?_;simp only [go_sem,ap,hx,hNb,ar,InquiryD.dat,ItemD.dat,hb,hilk,hilt,hjlt,hm,aa,ao,hi0,hj0])|(with_reducible refine az (id:=6) dE ae ay (by kernel_rfl) (fun K hK=>?_))|(with_reducible refine aO (id:=6) ae ay (by kernel_rfl) ?_)|apply iB)
    refine m7 (i':=1) (k:=x.item.toNat) (off:=1) (es':=b.marks.map aa) (ti:=.slc 3 1 8 [.int .i64 0]) rfl (ae _ _ k_) rfl rfl rfl (by simp [cU,hb,ItemD.dat];rfl) rfl ?_
    repeat' (first|((with_reducible first|(apply hK;clear hK K)|refine ah fun U O=>?_|apply ag|(apply Z<;>(intro hc;try simp at hc;try omega)))<;>try simp only [go_sem,ap,hx,hNb,ar,InquiryD.dat,ItemD.dat,hb,hilk,hilt,hjlt,hm,aa,ao,hi0,hj0])|(with_reducible first|apply aj|(apply O;clear O U)|refine kN dE fun K hK=>?_|refine kO fun K hK=>?_|refine aI ?_)|(refine xS rfl fun U O=>?_;simp only [go_sem,ap,hx,hNb,ar,InquiryD.dat,ItemD.dat,hb,hilk,hilt,hjlt,hm,aa,ao,hi0,hj0])|(refine qS rfl fun U O=>?_;simp only [go_sem,ap,hx,hNb,ar,InquiryD.dat,ItemD.dat,hb,hilk,hilt,hjlt,hm,aa,ao,hi0,hj0])|(with_reducible refine az (id:=6) dE ae ay (by kernel_rfl) (fun K hK=>?_))|(with_reducible refine aO (id:=6) ae ay (by kernel_rfl) ?_)|apply iB)
    refine cA (es':=b.marks.map aa) (e1:=aa m) (ds:=[.int .i64 x.mark]) rfl (ae _ _ G3) rfl rfl rfl (by simp [cU,hb,ItemD.dat]) (by rw [ap,hm];rfl) rfl rfl rfl (Nat.le_refl _) ?_
    have bf:=lW hx hb hacc
    repeat' (first|((with_reducible first|(apply hK;clear hK K)|refine ah fun U O=>?_|apply ag|(apply Z<;>(intro hc;try simp at hc;try omega)))<;>try simp only [go_sem,ce,ap,hb,ar,ItemD.dat,List.set_cons_succ,List.set_cons_zero,bC,aa,bf])|(with_reducible first|apply aj|(apply O;clear O U)|refine kN dE fun K hK=>?_|refine kO fun K hK=>?_|refine aI ?_)|(refine xS rfl fun U O=>?_;simp only [go_sem,ce,ap,hb,ar,ItemD.dat,List.set_cons_succ,List.set_cons_zero,bC,aa,bf])|(refine qS rfl fun U O=>?_;simp only [go_sem,ce,ap,hb,ar,ItemD.dat,List.set_cons_succ,List.set_cons_zero,bC,aa,bf])|(with_reducible refine az (id:=6) dE ae ay (by kernel_rfl) (fun K hK=>?_))|(with_reducible refine aO (id:=6) ae ay (by kernel_rfl) ?_)|apply iB)
    exact ⟨k + 1,⟨by omega,hJ'⟩,by omega,(an [] (by simp [lk,ab,co]<;>omega))⟩
   ·have hNb:=aL hN
    have hA:¬ e_ l q k x:=fun h=>hN h.2.2.2.1
    repeat' (first|((with_reducible first|(apply hK;clear hK K)|refine ah fun U O=>?_|apply ag|(apply Z<;>(intro hc;try simp at hc;try omega)))<;>try simp only [go_sem,ap,hx,hNb,ar,InquiryD.dat,aa,ao])|(with_reducible first|apply aj|(apply O;clear O U)|refine kN dE fun K hK=>?_|refine kO fun K hK=>?_|refine aI ?_)|(refine xS rfl fun U O=>?_;simp only [go_sem,ap,hx,hNb,ar,InquiryD.dat,aa,ao])|(refine qS rfl fun U O=>?_;simp only [go_sem,ap,hx,hNb,ar,InquiryD.dat,aa,ao])|((with_reducible first|apply CallK.eq|apply CallQ.eqs);(· with_reducible first|exact ct _ _ _|exact i2 l x.item x.name hn63 hs63);(· first|exact rfl|(simp [RV.flat,D.sc,aa];done));try simp only [go_sem,ap,hx,hNb,ar,InquiryD.dat,aa,ao])|(with_reducible refine az (id:=6) dE ae ay (by kernel_rfl) (fun K hK=>?_))|(with_reducible refine aO (id:=6) ae ay (by kernel_rfl) ?_)|apply iB)
    all_goals first
     |(exfalso;omega)
     |((refine ak rfl (by simp only [hilk,bj,bn,ab,lk,ao,aK,List.length_append,List.length_take,if_true,if_false,Nat.reduceEqDiff,Nat.reduceBEq,Bool.false_eq_true,Option.some.injEq];rfl) (by simp [am,lk]) ?_);exact (d4 fun h=>hA (h _ x hx)).symm)
  ·obtain rfl:k = q.length:=by omega
   have hr:=fy (show eG l q from hJ.all (by omega))
   rw [show eg (de l q q.length) = _ from if_neg (by rw [hilk];exact h0)] at hr
   repeat' (first|with_reducible refine bs (id:=6) ?_|with_reducible refine br (id:=6) ?_|with_reducible refine bs (id:=10) ?_|with_reducible refine br (id:=10) ?_|((with_reducible first|(apply hK;clear hK K)|refine ah fun U O=>?_|apply ag|(apply Z<;>(intro hc;try simp at hc;try omega)))<;>try simp only [go_sem])|(with_reducible first|apply aj|(apply O;clear O U)|refine kN dE fun K hK=>?_|refine kO fun K hK=>?_|refine aI ?_)|(refine xS rfl fun U O=>?_;simp only [go_sem])|(refine qS rfl fun U O=>?_;simp only [go_sem])|(with_reducible refine dP dE ae 0 11 ay (by kernel_rfl) (fun K hK=>?_);simp only [List.take_succ_cons,List.take_zero,List.drop_succ_cons,List.drop_zero])|(with_reducible refine az dE ae ay (by kernel_rfl) (fun K hK=>?_))|(with_reducible refine aO ae ay (by kernel_rfl) ?_)|apply iB)
   all_goals first
    |(exfalso;omega)
    |((refine ak rfl (by simp only [hilk,bj,bn,ab,lk,ao,aK,List.length_append,List.length_take,if_true,if_false,Nat.reduceEqDiff,Nat.reduceBEq,Bool.false_eq_true,Option.some.injEq];rfl) (by simp [am,lk]) ?_);rw [hr])
end Go.Proofs.YtphakidbddamfaaGreat
set_option linter.unusedSimpArgs false
set_option linter.unusedVariables false
set_option maxHeartbeats 2000000
set_option maxRecDepth 100000
namespace Go.Proofs.YtphakidbddamfaaGreat
open Go.ChangeShapes Go.WideShapes Go.ChangeAt Go.RowKit Go.Deep
theorem dS {P:Program} {f:FuncId} {args:List PV} {rs:List RV} (h:FnEq P f args rs):FnEq P f args (rs.map RV.data):=FnOK.data (h.mono fun _ e=>by rw [e])
end Go.Proofs.YtphakidbddamfaaGreat
set_option linter.unusedSimpArgs false
set_option linter.unusedVariables false
set_option maxHeartbeats 2000000
set_option maxRecDepth 100000
namespace Go.Proofs.YtphakidbddamfaaGreat
open Go.RowKit
theorem ou {l:List ItemD} {i j m:Int} {b:ItemD} (hb:l[i.toNat]? = some b):(l.map ItemD.dat).set i.toNat [.lst 1 (b.names.map aX),.lst 1 ((b.marks.map aa).set j.toNat [.int .i64 m]),.bool b.late] = (cv l (dR i j m)).map ItemD.dat:=by
 rw [cv,if_pos (show (dR i j m).acc = true from rfl),show (dR i j m).item.toNat = i.toNat from rfl,hb]
 simp only [List.map_set,i8,ItemD.dat,aa,dR]
theorem jd (l:List ItemD) (i j m:Int) (hn:l.length≤1048576) (hs:∀ r ∈ l,ItFit 1048576 r) (hv:ItsOk l) (hN:HasNm l i j):FnEq Tryz.prog 75 [.d (.lst 3 (l.map ItemD.dat)),.d (.int .i64 i),.d (.int .i64 j),.d (.int .i64 m)] [.deep 143 3 ((cv l (dR i j m)).map ItemD.dat)]:=by
 have hi0:=hN.1
 have hj0:=hN.2.1
 obtain ⟨a,b,mk,ha,hb,hnm,hml,hjn,hmn,hm,hmk⟩:=hN.there (q:=[]) hv 0
 rw [fE] at hb
 have hilt:i.toNat < l.length:=(List.getElem?_eq_some_iff.1 ha).1
 have hjlt:j.toNat < b.marks.length:=by omega
 have h0:l.length≠0:=by omega
 have hc1:=iS l hn hs
 rw [show eg l = _ from if_neg h0] at hc1
 have bf:=ou (j:=j) (m:=m) hb
 have hln:=gH l (dR i j m)
 refine aN ae Tryz.func75 rfl rfl ?_;simp only [Tryz.ntmps75,aP,aK,Nat.reduceAdd,Nat.reduceSub,aV]
 repeat' (first|((with_reducible first|(apply hK;clear hK K)|refine ah fun U O=>?_|apply ag|(apply Z<;>(intro hc;try simp at hc;try omega)))<;>try simp only [go_sem,ap,ar,ItemD.dat,hb,hilt,hjlt,hm,aa,ao,hi0,hj0])|(with_reducible first|apply aj|(apply O;clear O U)|refine kN xL fun K hK=>?_|refine kO fun K hK=>?_|refine aI ?_)|((with_reducible apply CallK.eq);(· with_reducible first|exact hc1);(· simp [RV.flat,D.sc,aa]);try simp only [go_sem,ap,ar,ItemD.dat,hb,hilt,hjlt,hm,aa,ao,hi0,hj0])|fail)
 all_goals first
  |(exfalso;omega)
  |skip
 all_goals first
  |(refine cA (es':=b.marks.map aa) (e1:=aa mk) (ds:=[.int .i64 m]) rfl (ae _ _ G3) rfl rfl rfl (by simp [cU,hb,ItemD.dat]) (by rw [ap,hm];rfl) rfl rfl rfl (Nat.le_refl _) ?_)
  |skip
 repeat' (first|((with_reducible first|(apply hK;clear hK K)|refine ah fun U O=>?_|apply ag|(apply Z<;>(intro hc;try simp at hc;try omega)))<;>try simp only [go_sem,ce,ap,hb,ar,ItemD.dat,List.set_cons_succ,List.set_cons_zero,bC,aa,bf])|(with_reducible first|apply aj|(apply O;clear O U)|refine kN xL fun K hK=>?_|refine kO fun K hK=>?_|refine aI ?_)|fail)
 all_goals first
  |(exfalso;omega)
  |((refine ak rfl (by simp only [hln,bj,bn,ab,lk,ao,aK,List.length_append,List.length_take,if_true,if_false,Nat.reduceEqDiff,Nat.reduceBEq,Bool.false_eq_true,Option.some.injEq];rfl) (by simp [am,lk]) ?_);rfl)
theorem iQ (c:CodeD) (p:PerfD) (f:Int) (l:List ItemD) (h:bO c (cW p l) f):FnEq Tryz.prog 74 [.agg c.cs,.agg p.cs,.d (.int .i64 f),.d (.lst 3 (l.map ItemD.dat))] [.d (.int .i64 (bF c (cW p l) f))]:=by
 have hs0:=d8 c (cW p l) f h
 simp only [cW] at hs0
 refine aN ae Tryz.func74 rfl rfl ?_;simp only [Tryz.ntmps74,aP,aK,Nat.reduceAdd,Nat.reduceSub,aV]
 repeat' (first|((with_reducible first|(apply hK;clear hK K)|refine ah fun U O=>?_|apply ag|(apply Z<;>(intro hc;try simp at hc;try omega)))<;>try simp only [go_sem])|(with_reducible first|apply aj|(apply O;clear O U)|refine kN y4 fun K hK=>?_|refine kO fun K hK=>?_|refine aI ?_)|((with_reducible apply CallK.eq);(· with_reducible first|exact hs0);(· simp [RV.flat,D.sc,aa]);try simp only [go_sem])|fail)
 all_goals first
  |(exfalso;omega)
  |(refine ak rfl rfl (by simp [am,lk]) ?_;rfl)
end Go.Proofs.YtphakidbddamfaaGreat
set_option linter.unusedSimpArgs false
set_option linter.unusedVariables false
set_option maxHeartbeats 2000000
set_option maxRecDepth 100000
namespace Go.Proofs.YtphakidbddamfaaGreat
open Go.RowKit
theorem dU (c:CodeD) (p:PerfD) (f:Int) (x:InquiryD) (hcf:CdFit 1048576 c) (hpf:PfFit 1048576 p):FnEq Tryz.prog 15 [.agg c.cs,.agg p.cs,.d (.int .i64 f),.agg [.d (.int .i64 x.tick),.d (.int .i64 x.item),.d (.int .i64 x.name),.d (.int .i64 x.mark),.d (.bool x.acc)]] [.d (.int .i64 ((bm c p f x).getD 0)),.d (.bool (bm c p f x).isSome)]:=by
 have hs0:=ee c p f hcf hpf
 refine aN ae Tryz.func15 rfl rfl ?_;simp only [Tryz.ntmps15,aP,aK,Nat.reduceAdd,Nat.reduceSub,aV]
 by_cases hA:bO c p f
 ·have hb:=aW hA
  have hd:=sI p.items [x] hpf.1.1 hpf.1.2 hA.1.2.1 (by simp)
  simp only [aH,aG,InquiryD.dat] at hd
  by_cases hI:eG p.items [x]
  ·have hx0:=hI 0 x rfl
   have hN:HasNm p.items x.item x.name:=hx0.2.2.2.1
   have hne:(de p.items [x] [x].length).length≠0:=by
    obtain ⟨_,_,y,hy,_⟩:=hN
    have:=(List.getElem?_eq_some_iff.1 hy).1
    rw [gi];omega
   rw [fy hI,show eg (de p.items [x] [x].length) = _ from if_neg hne,show decide ((([x]:List InquiryD).length:Int)≤20) = true from by simp] at hd
   rw [show bm c p f x = _ from cy ⟨hA,hI⟩]
   have hw:=dS (jd p.items x.item x.name x.mark hpf.1.1 hpf.1.2 hA.1.2.1 hN)
   simp only [aH,aG,RV.data] at hw
   have hA1:=iu (i:=x.item) (k:=x.name) hA hx0.2.2.2.2.1 hx0.2.2.2.2.2.1
   have hs1:=iQ c p f _ hA1
   have hs2:=d8 c p f hA
   have hb3:=gd hA
   have hb4:=gd hA1
   generalize bF c p f = u at hs2 hb3
   generalize bF c (cW p (cv p.items (dR x.item x.name x.mark))) f = v at hs1 hb4
   repeat' (first|((with_reducible first|(apply hK;clear hK K)|refine ah fun U O=>?_|apply ag|(apply Z<;>(intro hc;try simp at hc;try omega)))<;>try simp only [go_sem,hb])|(with_reducible first|apply aj|(apply O;clear O U)|refine kN pW fun K hK=>?_|refine kO fun K hK=>?_|refine aI ?_)|((with_reducible apply CallK.eq);(· with_reducible first|exact hs0|exact hd);(· simp [RV.flat,D.sc,aa]);try simp only [go_sem,hb])|fail)
   all_goals first
    |(exfalso;omega)
    |skip
   refine fk pW ay [[4],[5],[2],[5],[30],[7],[32],[7],[34],[7],[36],[31,33,35,37],[27,28,29,38],[4],[5],[2],[40,41,42],[39,43],[44],[]] 45 rfl (by decide +kernel) (fun K hK=>?_)
   repeat (first|(apply iY rfl rfl;(· simp only [go_sem,bk,aB,aD,aE];with_reducible first|exact hw|exact hs1|exact hs2);(· first|rfl|simp [bk,AS.get,lk,dM,fl,fC]);try simp only [go_sem,bk,aB,aD,aE])|(apply io rfl rfl;(· simp only [go_sem,bk,aB,aD,aE];with_reducible first|exact hw|exact hs1|exact hs2);(· first|rfl|simp [bk,AS.get,lk,dM,fl,fC]);try simp only [go_sem,bk,aB,aD,aE])|(apply hU (ds:=[]) rfl rfl;(· simp only [go_sem,bk,aB,aD,aE];with_reducible first|exact hw|exact hs1|exact hs2);(· first|rfl|simp [bk,AS.get,lk,dM,fl,fC]);try simp only [go_sem,bk,aB,aD,aE])|(refine fJ ae fun KP hKP=>?_;simp only [go_sem,bk,aB,aD,aE];repeat (first|(with_reducible refine hKP _ ?_;clear hKP KP)|((with_reducible apply CallQ.eqs);(· with_reducible first|exact hw|exact hs1|exact hs2);(· first|exact rfl|(simp [RV.flat,D.sc,aa];done));try simp only [go_sem,bk,aB,aD,aE])|with_reducible refine aI ?_|(with_reducible refine Z ?_ ?_<;>(intro hc;(try simp only [go_sem,bk,aB,aD,aE]);(try simp at hc);try (exfalso;omega))));try simp only [go_sem,bk,aB,aD,aE]))
   refine iG ?_
   refine hK _ ?_
   clear hK K
   try simp only [go_sem,bk,aB,aD,aE]
   repeat' (first|((with_reducible first|(apply hK;clear hK K)|refine ah fun U O=>?_|apply ag|(apply Z<;>(intro hc;try simp at hc;try omega)))<;>try simp only [go_sem])|(with_reducible first|apply aj|(apply O;clear O U)|refine kN pW fun K hK=>?_|refine kO fun K hK=>?_|refine aI ?_)|fail)
   refine ak rfl rfl (by simp [am,lk]) ?_;rfl
  ·rw [d4 hI] at hd
   rw [show bm c p f x = _ from bZ fun h=>hI h.2]
   repeat' (first|((with_reducible first|(apply hK;clear hK K)|refine ah fun U O=>?_|apply ag|(apply Z<;>(intro hc;try simp at hc;try omega)))<;>try simp only [go_sem,hb])|(with_reducible first|apply aj|(apply O;clear O U)|refine kN pW fun K hK=>?_|refine kO fun K hK=>?_|refine aI ?_)|((with_reducible apply CallK.eq);(· with_reducible first|exact hs0|exact hd);(· simp [RV.flat,D.sc,aa]);try simp only [go_sem,hb])|fail)
   all_goals first
    |(exfalso;omega)
    |(refine ak rfl rfl (by simp [am,lk]) ?_;rfl)
 ·have hb:=aL hA
  rw [show bm c p f x = _ from bZ fun h=>hA h.1]
  repeat' (first|((with_reducible first|(apply hK;clear hK K)|refine ah fun U O=>?_|apply ag|(apply Z<;>(intro hc;try simp at hc;try omega)))<;>try simp only [go_sem,hb])|(with_reducible first|apply aj|(apply O;clear O U)|refine kN pW fun K hK=>?_|refine kO fun K hK=>?_|refine aI ?_)|((with_reducible apply CallK.eq);(· with_reducible first|exact hs0);(· simp [RV.flat,D.sc,aa]);try simp only [go_sem,hb])|fail)
  all_goals first
   |(exfalso;omega)
   |(refine ak rfl rfl (by simp [am,lk]) ?_;rfl)
end Go.Proofs.YtphakidbddamfaaGreat
set_option linter.unusedSimpArgs false
set_option linter.unusedVariables false
set_option maxHeartbeats 2000000
set_option maxRecDepth 100000
namespace Go.Proofs.YtphakidbddamfaaGreat
open Go.ChangeShapes Go.WideShapes Go.ChangeAt Go.RowKit Go.Deep
section
variable {H:Type} {enc:TypeId × Value→H} {w:World} {base:Nat} {spare:Nat→Bool} {held:Bool}
end
end Go.Proofs.YtphakidbddamfaaGreat
namespace Go.Proofs.YtphakidbddamfaaGreat
open Go.RowKit
end Go.Proofs.YtphakidbddamfaaGreat
