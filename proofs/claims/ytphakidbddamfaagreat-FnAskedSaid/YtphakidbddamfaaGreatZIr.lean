/-
  Items after inquiries: the reference's function, in the abstract machine.
-/
import Derived.Test.YtphakidbddamfaaGreatZIq
set_option linter.unusedSimpArgs false
set_option linter.unusedVariables false
set_option maxHeartbeats 2000000
set_option maxRecDepth 100000
namespace Go.Proofs.YtphakidbddamfaaGreat
open Go.RowKit
theorem vp {l:List ItemD} {q:List InquiryD} {k:Nat} (hJ:Upto (fe l q) q k) (hk:k≤q.length):0≤gK q k:=by
 rcases Nat.eq_zero_or_pos k with h0|h0
 ·rw [h0];exact Int.le_refl _
 ·have hp:=List.getElem?_eq_getElem (show k - 1 < q.length by omega)
  rw [gu h0 hp]
  exact (hJ _ _ (by omega) hp).1
set_option maxHeartbeats 8000000 in
theorem jo (l:List ItemD) (q:List InquiryD) (hn:l.length≤1048576) (hs:∀ r ∈ l,ItFit 1048576 r) (hv:ItsOk l) (hq:q.length≤9223372036854775807):FnEq Tryz.prog 64 [.d (.lst 3 (l.map ItemD.dat)),.d (.lst 5 (q.map InquiryD.dat))] (qJ l q):=by
 have hs63:∀ r ∈ l,ItFit 9223372036854775807 r:=fun r hr=>(hs r hr).mono (by decide)
 refine aO aa Tryz.func64 rfl rfl ?_;simp only [Tryz.ntmps64,aR,aM,Nat.reduceAdd,Nat.reduceSub,aW]
 by_cases h0:l.length = 0
 ·have hc1:=ir l hn hs
  rw [show dO l = _ from if_pos h0] at hc1
  have hn63:l.length≤9223372036854775807:=by omega
  have hnh:∀ i j,¬ HasNm l i j:=fun i j h=>by obtain ⟨_,_,y,hy,_⟩:=h;have:=(List.getElem?_eq_some_iff.1 hy).1;omega
  repeat' (first|with_reducible refine bs (id:=6) ?_|with_reducible refine br (id:=6) ?_|with_reducible refine bs (id:=10) ?_|with_reducible refine br (id:=10) ?_|((with_reducible first|(refine hK _ ?_;clear hK K)|refine aj fun U O=>?_|apply ah|(apply Z<;>(intro hc;try simp at hc;try omega)))<;>try simp only [go_sem])|(with_reducible first|apply ag|(refine O _ ?_;clear O U)|refine kN dC fun K hK=>?_|refine kO fun K hK=>?_|refine aI ?_)|(refine xS rfl fun U O=>?_;simp only [go_sem])|(refine qS rfl fun U O=>?_;simp only [go_sem])|((with_reducible first|apply CallK.eq|apply CallQ.eqs);(· with_reducible first|exact hc1);(· first|exact rfl|(simp [RV.flat,D.sc,ab];done));try simp only [go_sem])|(with_reducible refine dY dC aa 0 11 ax (by kernel_rfl) (fun K hK=>?_);simp only [List.take_succ_cons,List.take_zero,List.drop_succ_cons,List.drop_zero])|(with_reducible refine az dC aa ax (by kernel_rfl) (fun K hK=>?_))|(with_reducible refine aN aa ax (by kernel_rfl) ?_)|apply iB)
  refine aD [4,5,7,9,14,15,16,17,18,19,20,21,22,23,24,25,26,27,28,29,30,31,32,33,34,35,36,37,38,39,40,41,42,43,44,45,46,47,48,49,50,51,52,53,54,55,56,57,58,59,60,61,62,63,64,65,66,67,68] (fun k:Nat=>[(14,.d (.int .i64 (k:Int))),(6,.row 0 0),(7,.d (.int .i64 0))]) (fun k:Nat=>[(0,.row 143 3 [])]) 1 (fun k:Nat=>k≤q.length∧k = 0) (fun k:Nat=>q.length - k) 0 ⟨Nat.zero_le _,rfl⟩ (ao [] (by simp [lk,ae]<;>omega)) ?_
  rintro k ⟨hk,hk0⟩
  simp only [bi,wipe,wl,bh,bw,rm,if_true,if_false,Nat.reduceEqDiff,Bool.false_eq_true,reduceCtorEq]
  by_cases hlt:k < q.length
  ·have hx:=List.getElem?_eq_getElem hlt
   generalize q[k] = x at hx
   have hNb:=aG (hnh x.item x.name)
   have hA:¬ fe l q k x:=fun h=>hnh _ _ h.2.2.2.1
   repeat' (first|((with_reducible first|(refine hK _ ?_;clear hK K)|refine aj fun U O=>?_|apply ah|(apply Z<;>(intro hc;try simp at hc;try omega)))<;>try simp only [go_sem,ap,hx,hNb,aq,InquiryD.dat,ab,an])|(with_reducible first|apply ag|(refine O _ ?_;clear O U)|refine kN dC fun K hK=>?_|refine kO fun K hK=>?_|refine aI ?_)|(refine xS rfl fun U O=>?_;simp only [go_sem,ap,hx,hNb,aq,InquiryD.dat,ab,an])|(refine qS rfl fun U O=>?_;simp only [go_sem,ap,hx,hNb,aq,InquiryD.dat,ab,an])|((with_reducible first|apply CallK.eq|apply CallQ.eqs);(· with_reducible first|exact cx _ _ _|exact iu l x.item x.name hn63 hs63);(· first|exact rfl|(simp [RV.flat,D.sc,ab];done));try simp only [go_sem,ap,hx,hNb,aq,InquiryD.dat,ab,an])|(with_reducible refine az (id:=6) dC aa ax (by kernel_rfl) (fun K hK=>?_))|(with_reducible refine aN (id:=6) aa ax (by kernel_rfl) ?_)|apply iB)
   all_goals first
    |(exfalso;omega)
    |((refine ak rfl (by simp only [h0,bl,bn,ae,lk,an,aM,List.length_append,List.length_take,if_true,if_false,Nat.reduceEqDiff,Nat.reduceBEq,Bool.false_eq_true,Option.some.injEq];rfl) (by simp [am,lk]) ?_);exact (dR fun h=>hA (h _ x hx)).symm)
  ·have hq0:q = []:=List.length_eq_zero_iff.1 (by omega)
   have hr:=eZ (l:=l) (q:=q) (fun j x hx=>by rw [hq0] at hx;simp at hx)
   have hil:=dq l q q.length
   rw [show dO (bS l q q.length) = _ from if_pos (by omega)] at hr
   repeat' (first|with_reducible refine bs (id:=6) ?_|with_reducible refine br (id:=6) ?_|with_reducible refine bs (id:=10) ?_|with_reducible refine br (id:=10) ?_|((with_reducible first|(refine hK _ ?_;clear hK K)|refine aj fun U O=>?_|apply ah|(apply Z<;>(intro hc;try simp at hc;try omega)))<;>try simp only [go_sem])|(with_reducible first|apply ag|(refine O _ ?_;clear O U)|refine kN dC fun K hK=>?_|refine kO fun K hK=>?_|refine aI ?_)|(refine xS rfl fun U O=>?_;simp only [go_sem])|(refine qS rfl fun U O=>?_;simp only [go_sem])|(with_reducible refine dY dC aa 0 11 ax (by kernel_rfl) (fun K hK=>?_);simp only [List.take_succ_cons,List.take_zero,List.drop_succ_cons,List.drop_zero])|(with_reducible refine az dC aa ax (by kernel_rfl) (fun K hK=>?_))|(with_reducible refine aN aa ax (by kernel_rfl) ?_)|apply iB)
   all_goals first
    |(exfalso;omega)
    |((refine ak rfl (by simp only [h0,bl,bn,ae,lk,an,aM,List.length_append,List.length_take,if_true,if_false,Nat.reduceEqDiff,Nat.reduceBEq,Bool.false_eq_true,Option.some.injEq];rfl) (by simp [am,lk]) ?_);rw [hr])
 ·have hc1:=ir l hn hs
  rw [show dO l = _ from if_neg h0] at hc1
  have hil:=dq l q
  have hn63:l.length≤9223372036854775807:=by omega
  repeat' (first|with_reducible refine bs (id:=6) ?_|with_reducible refine br (id:=6) ?_|with_reducible refine bs (id:=10) ?_|with_reducible refine br (id:=10) ?_|((with_reducible first|(refine hK _ ?_;clear hK K)|refine aj fun U O=>?_|apply ah|(apply Z<;>(intro hc;try simp at hc;try omega)))<;>try simp only [go_sem])|(with_reducible first|apply ag|(refine O _ ?_;clear O U)|refine kN dC fun K hK=>?_|refine kO fun K hK=>?_|refine aI ?_)|(refine xS rfl fun U O=>?_;simp only [go_sem])|(refine qS rfl fun U O=>?_;simp only [go_sem])|((with_reducible first|apply CallK.eq|apply CallQ.eqs);(· with_reducible first|exact hc1);(· first|exact rfl|(simp [RV.flat,D.sc,ab];done));try simp only [go_sem])|(with_reducible refine dY dC aa 0 11 ax (by kernel_rfl) (fun K hK=>?_);simp only [List.take_succ_cons,List.take_zero,List.drop_succ_cons,List.drop_zero])|(with_reducible refine az dC aa ax (by kernel_rfl) (fun K hK=>?_))|(with_reducible refine aN aa ax (by kernel_rfl) ?_)|apply iB)
  refine aD [4,5,7,9,14,15,16,17,18,19,20,21,22,23,24,25,26,27,28,29,30,31,32,33,34,35,36,37,38,39,40,41,42,43,44,45,46,47,48,49,50,51,52,53,54,55,56,57,58,59,60,61,62,63,64,65,66,67,68] (fun k:Nat=>[(14,.d (.int .i64 (k:Int))),(6,.row 0 l.length),(7,.d (.int .i64 (gK q k)))]) (fun k:Nat=>[(0,.deep 0 143 3 ((bS l q k).map ItemD.dat))]) 1 (fun k:Nat=>k≤q.length∧Upto (fe l q) q k) (fun k:Nat=>q.length - k) 0 ⟨Nat.zero_le _,Upto.zero _ _⟩ (ao [] (by simp [lk,ae,nV,tb]<;>omega)) ?_
  rintro k ⟨hk,hJ⟩
  simp only [bi,wipe,wl,bh,bw,rm,if_true,if_false,Nat.reduceEqDiff,Bool.false_eq_true,reduceCtorEq]
  have hilk:=hil k
  by_cases hlt:k < q.length
  ·have hx:=List.getElem?_eq_getElem hlt
   generalize q[k] = x at hx
   have ci:=gu (q:=q) (k:=k + 1) (p:=x) (by omega) (by rw [Nat.add_sub_cancel];exact hx)
   have hpt:=vp hJ hk
   by_cases hN:HasNm l x.item x.name
   ·have hNb:=aQ hN
    have hiff:=nK (q:=q) (k:=k) hN
    obtain ⟨a,b,m,ha,hb,hnm,hml,hjn,hmn,hm,hmk⟩:=hN.there (q:=q) hv k
    rw [hmk] at hiff
    have hi0:=hN.1
    have hj0:=hN.2.1
    have hilt:x.item.toNat < l.length:=(List.getElem?_eq_some_iff.1 ha).1
    have hjlt:x.name.toNat < b.marks.length:=by omega
    generalize gK q k = pt at hiff hpt
    refine mb (id:=0) (k:=x.item.toNat) (off:=1) (es':=b.marks.map ab) rfl (by simp [dd,hb,ItemD.dat];rfl) ?_
    repeat' (first|((with_reducible first|(refine hK _ ?_;clear hK K)|refine aj fun U O=>?_|apply ah|(apply Z<;>(intro hc;try simp at hc;try omega)))<;>try simp only [go_sem,ap,hx,hNb,aq,InquiryD.dat,ItemD.dat,hb,hilk,hilt,hjlt,hm,ab,an,hi0,hj0])|(with_reducible first|apply ag|(refine O _ ?_;clear O U)|refine kN dC fun K hK=>?_|refine kO fun K hK=>?_|refine aI ?_)|(refine xS rfl fun U O=>?_;simp only [go_sem,ap,hx,hNb,aq,InquiryD.dat,ItemD.dat,hb,hilk,hilt,hjlt,hm,ab,an,hi0,hj0])|(refine qS rfl fun U O=>?_;simp only [go_sem,ap,hx,hNb,aq,InquiryD.dat,ItemD.dat,hb,hilk,hilt,hjlt,hm,ab,an,hi0,hj0])|((with_reducible first|apply CallK.eq|apply CallQ.eqs);(· with_reducible first|exact cx _ _ _|exact iu l x.item x.name hn63 hs63);(· first|exact rfl|(simp [RV.flat,D.sc,ab];done));try simp only [go_sem,ap,hx,hNb,aq,InquiryD.dat,ItemD.dat,hb,hilk,hilt,hjlt,hm,ab,an,hi0,hj0])|(with_reducible refine az (id:=6) dC aa ax (by kernel_rfl) (fun K hK=>?_))|(with_reducible refine aN (id:=6) aa ax (by kernel_rfl) ?_)|apply iB)
    all_goals first
     |((refine ak rfl (by simp only [hilk,bl,bn,ae,lk,an,aM,List.length_append,List.length_take,if_true,if_false,Nat.reduceEqDiff,Nat.reduceBEq,Bool.false_eq_true,Option.some.injEq];rfl) (by simp [am,lk]) ?_);exact (dR fun h=>absurd (h _ x hx) (by rw [hiff];omega)).symm)
     |skip
    refine gS (i':=1) (k:=x.item.toNat) (off:=1) (es':=b.marks.map ab) (ti:=.slc 3 1 8 [.int .i64 0]) rfl (aa _ _ jR) rfl rfl rfl (by simp [dd,hb,ItemD.dat];rfl) rfl ?_
    repeat' (first|((with_reducible first|(refine hK _ ?_;clear hK K)|refine aj fun U O=>?_|apply ah|(apply Z<;>(intro hc;try simp at hc;try omega)))<;>try simp only [go_sem,ap,hx,hNb,aq,InquiryD.dat,ItemD.dat,hb,hilk,hilt,hjlt,hm,ab,an,hi0,hj0])|(with_reducible first|apply ag|(refine O _ ?_;clear O U)|refine kN dC fun K hK=>?_|refine kO fun K hK=>?_|refine aI ?_)|(refine xS rfl fun U O=>?_;simp only [go_sem,ap,hx,hNb,aq,InquiryD.dat,ItemD.dat,hb,hilk,hilt,hjlt,hm,ab,an,hi0,hj0])|(refine qS rfl fun U O=>?_;simp only [go_sem,ap,hx,hNb,aq,InquiryD.dat,ItemD.dat,hb,hilk,hilt,hjlt,hm,ab,an,hi0,hj0])|((with_reducible first|apply CallK.eq|apply CallQ.eqs);(· with_reducible first|exact cx _ _ _|exact iu l x.item x.name hn63 hs63);(· first|exact rfl|(simp [RV.flat,D.sc,ab];done));try simp only [go_sem,ap,hx,hNb,aq,InquiryD.dat,ItemD.dat,hb,hilk,hilt,hjlt,hm,ab,an,hi0,hj0])|(with_reducible refine az (id:=6) dC aa ax (by kernel_rfl) (fun K hK=>?_))|(with_reducible refine aN (id:=6) aa ax (by kernel_rfl) ?_)|apply iB)
    all_goals first
     |((refine ak rfl (by simp only [hilk,bl,bn,ae,lk,an,aM,List.length_append,List.length_take,if_true,if_false,Nat.reduceEqDiff,Nat.reduceBEq,Bool.false_eq_true,Option.some.injEq];rfl) (by simp [am,lk]) ?_);exact (dR fun h=>absurd (h _ x hx) (by rw [hiff];omega)).symm)
     |skip
    all_goals
     (by_cases hacc:x.acc = true)
    all_goals first
     |(exfalso;simp_all;done)
     |skip
    all_goals
     have hA:fe l q k x:=hiff.2 (by omega)
     have hJ':=hJ.succ hx hA
    all_goals try
     (have bj:=jI (l:=l) hx (by simpa using hacc)
      exact ⟨k + 1,⟨by omega,hJ'⟩,by omega,(ao [] (by simp [lk,ae,bj,ci]<;>omega))⟩)
    refine dW aa 0 11 ax (by decide +kernel) ?_
    simp only [List.take_succ_cons,List.take_zero,List.drop_succ_cons,List.drop_zero]
    repeat' (first|((with_reducible first|(refine hK _ ?_;clear hK K)|refine aj fun U O=>?_|apply ah|(apply Z<;>(intro hc;try simp at hc;try omega)))<;>try simp only [go_sem,ap,hx,hNb,aq,InquiryD.dat,ItemD.dat,hb,hilk,hilt,hjlt,hm,ab,an,hi0,hj0])|(with_reducible first|apply ag|(refine O _ ?_;clear O U)|refine kN dC fun K hK=>?_|refine kO fun K hK=>?_|refine aI ?_)|(refine xS rfl fun U O=>?_;simp only [go_sem,ap,hx,hNb,aq,InquiryD.dat,ItemD.dat,hb,hilk,hilt,hjlt,hm,ab,an,hi0,hj0])|(refine qS rfl fun U O=>?_;simp only [go_sem,ap,hx,hNb,aq,InquiryD.dat,ItemD.dat,hb,hilk,hilt,hjlt,hm,ab,an,hi0,hj0])|(with_reducible refine az (id:=6) dC aa ax (by kernel_rfl) (fun K hK=>?_))|(with_reducible refine aN (id:=6) aa ax (by kernel_rfl) ?_)|apply iB)
    refine gS (i':=1) (k:=x.item.toNat) (off:=1) (es':=b.marks.map ab) (ti:=.slc 3 1 8 [.int .i64 0]) rfl (aa _ _ jR) rfl rfl rfl (by simp [dd,hb,ItemD.dat];rfl) rfl ?_
    repeat' (first|((with_reducible first|(refine hK _ ?_;clear hK K)|refine aj fun U O=>?_|apply ah|(apply Z<;>(intro hc;try simp at hc;try omega)))<;>try simp only [go_sem,ap,hx,hNb,aq,InquiryD.dat,ItemD.dat,hb,hilk,hilt,hjlt,hm,ab,an,hi0,hj0])|(with_reducible first|apply ag|(refine O _ ?_;clear O U)|refine kN dC fun K hK=>?_|refine kO fun K hK=>?_|refine aI ?_)|(refine xS rfl fun U O=>?_;simp only [go_sem,ap,hx,hNb,aq,InquiryD.dat,ItemD.dat,hb,hilk,hilt,hjlt,hm,ab,an,hi0,hj0])|(refine qS rfl fun U O=>?_;simp only [go_sem,ap,hx,hNb,aq,InquiryD.dat,ItemD.dat,hb,hilk,hilt,hjlt,hm,ab,an,hi0,hj0])|(with_reducible refine az (id:=6) dC aa ax (by kernel_rfl) (fun K hK=>?_))|(with_reducible refine aN (id:=6) aa ax (by kernel_rfl) ?_)|apply iB)
    refine cU (es':=b.marks.map ab) (e1:=ab m) (ds:=[.int .i64 x.mark]) rfl (aa _ _ G3) rfl rfl rfl (by simp [dd,hb,ItemD.dat]) (by rw [ap,hm];rfl) rfl rfl rfl (Nat.le_refl _) ?_
    have bj:=jK hx hb hacc
    repeat' (first|((with_reducible first|(refine hK _ ?_;clear hK K)|refine aj fun U O=>?_|apply ah|(apply Z<;>(intro hc;try simp at hc;try omega)))<;>try simp only [go_sem,ce,ap,hb,aq,ItemD.dat,List.set_cons_succ,List.set_cons_zero,bx,ab,bj])|(with_reducible first|apply ag|(refine O _ ?_;clear O U)|refine kN dC fun K hK=>?_|refine kO fun K hK=>?_|refine aI ?_)|(refine xS rfl fun U O=>?_;simp only [go_sem,ce,ap,hb,aq,ItemD.dat,List.set_cons_succ,List.set_cons_zero,bx,ab,bj])|(refine qS rfl fun U O=>?_;simp only [go_sem,ce,ap,hb,aq,ItemD.dat,List.set_cons_succ,List.set_cons_zero,bx,ab,bj])|(with_reducible refine az (id:=6) dC aa ax (by kernel_rfl) (fun K hK=>?_))|(with_reducible refine aN (id:=6) aa ax (by kernel_rfl) ?_)|apply iB)
    exact ⟨k + 1,⟨by omega,hJ'⟩,by omega,(ao [] (by simp [lk,ae,ci]<;>omega))⟩
   ·have hNb:=aG hN
    have hA:¬ fe l q k x:=fun h=>hN h.2.2.2.1
    repeat' (first|((with_reducible first|(refine hK _ ?_;clear hK K)|refine aj fun U O=>?_|apply ah|(apply Z<;>(intro hc;try simp at hc;try omega)))<;>try simp only [go_sem,ap,hx,hNb,aq,InquiryD.dat,ab,an])|(with_reducible first|apply ag|(refine O _ ?_;clear O U)|refine kN dC fun K hK=>?_|refine kO fun K hK=>?_|refine aI ?_)|(refine xS rfl fun U O=>?_;simp only [go_sem,ap,hx,hNb,aq,InquiryD.dat,ab,an])|(refine qS rfl fun U O=>?_;simp only [go_sem,ap,hx,hNb,aq,InquiryD.dat,ab,an])|((with_reducible first|apply CallK.eq|apply CallQ.eqs);(· with_reducible first|exact cx _ _ _|exact iu l x.item x.name hn63 hs63);(· first|exact rfl|(simp [RV.flat,D.sc,ab];done));try simp only [go_sem,ap,hx,hNb,aq,InquiryD.dat,ab,an])|(with_reducible refine az (id:=6) dC aa ax (by kernel_rfl) (fun K hK=>?_))|(with_reducible refine aN (id:=6) aa ax (by kernel_rfl) ?_)|apply iB)
    all_goals first
     |(exfalso;omega)
     |((refine ak rfl (by simp only [hilk,bl,bn,ae,lk,an,aM,List.length_append,List.length_take,if_true,if_false,Nat.reduceEqDiff,Nat.reduceBEq,Bool.false_eq_true,Option.some.injEq];rfl) (by simp [am,lk]) ?_);exact (dR fun h=>hA (h _ x hx)).symm)
  ·obtain rfl:k = q.length:=by omega
   have hr:=eZ (show cz l q from hJ.all (by omega))
   rw [show dO (bS l q q.length) = _ from if_neg (by rw [hilk];exact h0)] at hr
   repeat' (first|with_reducible refine bs (id:=6) ?_|with_reducible refine br (id:=6) ?_|with_reducible refine bs (id:=10) ?_|with_reducible refine br (id:=10) ?_|((with_reducible first|(refine hK _ ?_;clear hK K)|refine aj fun U O=>?_|apply ah|(apply Z<;>(intro hc;try simp at hc;try omega)))<;>try simp only [go_sem])|(with_reducible first|apply ag|(refine O _ ?_;clear O U)|refine kN dC fun K hK=>?_|refine kO fun K hK=>?_|refine aI ?_)|(refine xS rfl fun U O=>?_;simp only [go_sem])|(refine qS rfl fun U O=>?_;simp only [go_sem])|(with_reducible refine dY dC aa 0 11 ax (by kernel_rfl) (fun K hK=>?_);simp only [List.take_succ_cons,List.take_zero,List.drop_succ_cons,List.drop_zero])|(with_reducible refine az dC aa ax (by kernel_rfl) (fun K hK=>?_))|(with_reducible refine aN aa ax (by kernel_rfl) ?_)|apply iB)
   all_goals first
    |(exfalso;omega)
    |((refine ak rfl (by simp only [hilk,bl,bn,ae,lk,an,aM,List.length_append,List.length_take,if_true,if_false,Nat.reduceEqDiff,Nat.reduceBEq,Bool.false_eq_true,Option.some.injEq];rfl) (by simp [am,lk]) ?_);rw [hr])
end Go.Proofs.YtphakidbddamfaaGreat
