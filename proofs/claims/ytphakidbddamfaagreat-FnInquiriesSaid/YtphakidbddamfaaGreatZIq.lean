/-
  Items after inquiries: the program's function and the reference's, in the abstract machine.
-/
import Derived.Test.YtphakidbddamfaaGreatZIc
import Derived.Test.YtphakidbddamfaaGreatZIu
set_option linter.unusedSimpArgs false
set_option linter.unusedVariables false
set_option maxHeartbeats 2000000
set_option maxRecDepth 100000
namespace Go.Proofs.YtphakidbddamfaaGreat
open Go.RowKit
theorem eT (l:List ItemD) (i j:Int) (hn:l.length≤9223372036854775807) (hs:∀ r ∈ l,ItFit 9223372036854775807 r):FnEq Tryz.prog 127 [.d (.lst 3 (l.map ItemD.dat)),.d (.int .i64 i),.d (.int .i64 j)] [.d (.bool (bP (HasNm l i j)))]:=by
 refine aN ae Tryz.func127 rfl rfl ?_;simp only [Tryz.ntmps127,aP,aK,Nat.reduceAdd,Nat.reduceSub,aV]
 by_cases hi:0≤i∧i < (l.length:Int)
 ·have hlt:i.toNat < l.length:=by omega
  have hx:=List.getElem?_eq_getElem hlt
  generalize l[i.toNat] = x at hx
  obtain ⟨hf1,hf2,hf3⟩:=hs x (List.mem_of_getElem? hx)
  have hb:(decide (0≤i) && decide (i≤(l.length:Int) - 1)) = true:=by simp;omega
  have e:bP (HasNm l i j) = (decide (0≤j) && decide (j≤(x.names.length:Int) - 1)):=by
   rw [Bool.eq_iff_iff,dw];simp only [Bool.and_eq_true,decide_eq_true_eq];constructor
   ·rintro ⟨h1,h2,y,hy,h3⟩;rw [hx] at hy;cases hy;omega
   ·rintro ⟨h1,h2⟩;exact ⟨hi.1,h1,x,hx,by omega⟩
  repeat' (first|((with_reducible first|(apply hK;clear hK K)|refine ah fun U O=>?_|apply ag|(apply Z<;>(intro hc;try simp at hc;try omega)))<;>try simp only [go_sem,ap,hx,ar,ItemD.dat,hb,hlt,hi])|(with_reducible first|apply aj|(apply O;clear O U)|refine kN vY fun K hK=>?_|refine kO fun K hK=>?_|refine aI ?_)|(refine xS rfl fun U O=>?_;simp only [go_sem,ap,hx,ar,ItemD.dat,hb,hlt,hi])|((with_reducible apply CallK.eq);(· with_reducible first|exact bM _ _ _);(· simp [RV.flat,D.sc,aa]);try simp only [go_sem,ap,hx,ar,ItemD.dat,hb,hlt,hi])|fail)
  all_goals first
   |(exfalso;omega)
   |(refine ak rfl rfl (by simp [am,lk]) ?_;rw [e])
 ·have hb:(decide (0≤i) && decide (i≤(l.length:Int) - 1)) = false:=by
   rw [Bool.eq_false_iff];intro h;simp at h;omega
  have e:bP (HasNm l i j) = false:=aL fun h=>hi ⟨h.1,by obtain ⟨h1,h2,y,hy,_⟩:=h;have:=(List.getElem?_eq_some_iff.1 hy).1;omega⟩
  repeat' (first|((with_reducible first|(apply hK;clear hK K)|refine ah fun U O=>?_|apply ag|(apply Z<;>(intro hc;try simp at hc;try omega)))<;>try simp only [go_sem,hb])|(with_reducible first|apply aj|(apply O;clear O U)|refine kN vY fun K hK=>?_|refine kO fun K hK=>?_|refine aI ?_)|(refine xS rfl fun U O=>?_;simp only [go_sem,hb])|((with_reducible apply CallK.eq);(· with_reducible first|exact bM _ _ _);(· simp [RV.flat,D.sc,aa]);try simp only [go_sem,hb])|fail)
  all_goals first
   |(exfalso;omega)
   |(refine ak rfl rfl (by simp [am,lk]) ?_;rw [e])
theorem i2 (l:List ItemD) (i j:Int) (hn:l.length≤9223372036854775807) (hs:∀ r ∈ l,ItFit 9223372036854775807 r):FnEq Tryz.prog 121 [.d (.lst 3 (l.map ItemD.dat)),.d (.int .i64 i),.d (.int .i64 j)] [.d (.bool (bP (HasNm l i j)))]:=by
 refine aN ae Tryz.func121 rfl rfl ?_;simp only [Tryz.ntmps121,aP,aK,Nat.reduceAdd,Nat.reduceSub,aV]
 by_cases hi:0≤i∧i < (l.length:Int)
 ·have hlt:i.toNat < l.length:=by omega
  have hx:=List.getElem?_eq_getElem hlt
  generalize l[i.toNat] = x at hx
  obtain ⟨hf1,hf2,hf3⟩:=hs x (List.mem_of_getElem? hx)
  have hb:(decide (0≤i) && decide (i≤(l.length:Int) - 1)) = true:=by simp;omega
  have e:bP (HasNm l i j) = (decide (0≤j) && decide (j≤(x.names.length:Int) - 1)):=by
   rw [Bool.eq_iff_iff,dw];simp only [Bool.and_eq_true,decide_eq_true_eq];constructor
   ·rintro ⟨h1,h2,y,hy,h3⟩;rw [hx] at hy;cases hy;omega
   ·rintro ⟨h1,h2⟩;exact ⟨hi.1,h1,x,hx,by omega⟩
  repeat' (first|((with_reducible first|(apply hK;clear hK K)|refine ah fun U O=>?_|apply ag|(apply Z<;>(intro hc;try simp at hc;try omega)))<;>try simp only [go_sem,ap,hx,ar,ItemD.dat,hb,hlt,hi])|(with_reducible first|apply aj|(apply O;clear O U)|refine kN wd fun K hK=>?_|refine kO fun K hK=>?_|refine aI ?_)|(refine xS rfl fun U O=>?_;simp only [go_sem,ap,hx,ar,ItemD.dat,hb,hlt,hi])|((with_reducible apply CallK.eq);(· with_reducible first|exact ct _ _ _);(· simp [RV.flat,D.sc,aa]);try simp only [go_sem,ap,hx,ar,ItemD.dat,hb,hlt,hi])|fail)
  all_goals first
   |(exfalso;omega)
   |(refine ak rfl rfl (by simp [am,lk]) ?_;rw [e])
 ·have hb:(decide (0≤i) && decide (i≤(l.length:Int) - 1)) = false:=by
   rw [Bool.eq_false_iff];intro h;simp at h;omega
  have e:bP (HasNm l i j) = false:=aL fun h=>hi ⟨h.1,by obtain ⟨h1,h2,y,hy,_⟩:=h;have:=(List.getElem?_eq_some_iff.1 hy).1;omega⟩
  repeat' (first|((with_reducible first|(apply hK;clear hK K)|refine ah fun U O=>?_|apply ag|(apply Z<;>(intro hc;try simp at hc;try omega)))<;>try simp only [go_sem,hb])|(with_reducible first|apply aj|(apply O;clear O U)|refine kN wd fun K hK=>?_|refine kO fun K hK=>?_|refine aI ?_)|(refine xS rfl fun U O=>?_;simp only [go_sem,hb])|((with_reducible apply CallK.eq);(· with_reducible first|exact ct _ _ _);(· simp [RV.flat,D.sc,aa]);try simp only [go_sem,hb])|fail)
  all_goals first
   |(exfalso;omega)
   |(refine ak rfl rfl (by simp [am,lk]) ?_;rw [e])
theorem gF (n:Int):FnEq Tryz.prog 128 [.d (.int .i64 n)] [.d (.bool (decide (0≤n) && decide (n≤3)))]:=by
 refine aN ae Tryz.func128 rfl rfl ?_;simp only [Tryz.ntmps128,aP,aK,Nat.reduceAdd,Nat.reduceSub,aV]
 repeat' (first|((with_reducible first|(apply hK;clear hK K)|refine ah fun U O=>?_|apply ag|(apply Z<;>(intro hc;try simp at hc;try omega)))<;>try simp only [go_sem])|(with_reducible first|apply aj|(apply O;clear O U)|refine kN yz fun K hK=>?_|refine kO fun K hK=>?_|refine aI ?_)|((with_reducible apply CallK.eq);(· with_reducible first|exact bM _ _ _);(· simp [RV.flat,D.sc,aa]);try simp only [go_sem])|fail)
 refine ak rfl rfl (by simp [am,lk]) ?_;rfl
noncomputable def s3 (l:List ItemD) (q:List InquiryD):List RV:=if bP (eG l q) = true then [eg (de l q q.length),.d (.bool (decide ((q.length:Int)≤20)))] else [.row 143 3 [],.d (.bool false)]
theorem fy {l:List ItemD} {q:List InquiryD} (h:eG l q):s3 l q = [eg (de l q q.length),.d (.bool (decide ((q.length:Int)≤20)))]:=if_pos (aW h)
theorem d4 {l:List ItemD} {q:List InquiryD} (h:¬ eG l q):s3 l q = [.row 143 3 [],.d (.bool false)]:=if_neg (by rw [aL h];simp)
theorem tj (q:List InquiryD):ij q 0 = 0:=rfl
theorem kn {q:List InquiryD} {k:Nat} {p:InquiryD} (h0:0 < k) (hp:q[k - 1]? = some p):ij q k = p.tick:=by
 unfold ij;rw [if_neg (by omega),List.getD_eq_getElem?_getD,hp];rfl
theorem oC {l:List ItemD} {q:List InquiryD} {k:Nat} {x:InquiryD} (hN:HasNm l x.item x.name):e_ l q k x↔(0≤x.tick∧x.tick≤100000∧ij q k≤x.tick∧0≤x.mark∧x.mark≤3∧nf (de l q k) x.item.toNat x.name.toNat≠x.mark):=by
 unfold e_
 constructor
 ·rintro ⟨h1,h2,h3,_,h4,h5,h6⟩;exact ⟨h1,h2,h3,h4,h5,h6⟩
 ·rintro ⟨h1,h2,h3,h4,h5,h6⟩;exact ⟨h1,h2,h3,hN,h4,h5,h6⟩
theorem lW {l:List ItemD} {q:List InquiryD} {k:Nat} {x:InquiryD} {b:ItemD} (hx:q[k]? = some x) (hb:(de l q k)[x.item.toNat]? = some b) (ha:x.acc = true):((de l q k).map ItemD.dat).set x.item.toNat [.lst 1 (b.names.map aX),.lst 1 ((b.marks.map aa).set x.name.toNat [.int .i64 x.mark]),.bool b.late] = (de l q (k + 1)).map ItemD.dat:=by
 rw [oD hx,cv,if_pos ha,hb]
 simp only [List.map_set,i8,ItemD.dat,aa]
theorem mf {l:List ItemD} {q:List InquiryD} {k:Nat} {x:InquiryD} (hx:q[k]? = some x) (ha:x.acc = false):de l q (k + 1) = de l q k:=by
 rw [oD hx,cv,if_neg (by rw [ha];simp)]
set_option maxHeartbeats 8000000 in
theorem sI (l:List ItemD) (q:List InquiryD) (hn:l.length≤1048576) (hs:∀ r ∈ l,ItFit 1048576 r) (hv:ItsOk l) (hq:q.length≤9223372036854775807):FnEq Tryz.prog 73 [.d (.lst 3 (l.map ItemD.dat)),.d (.lst 5 (q.map InquiryD.dat))] (s3 l q):=by
 have hs63:∀ r ∈ l,ItFit 9223372036854775807 r:=fun r hr=>(hs r hr).mono (by decide)
 refine aN ae Tryz.func73 rfl rfl ?_;simp only [Tryz.ntmps73,aP,aK,Nat.reduceAdd,Nat.reduceSub,aV]
 by_cases h0:l.length = 0
 ·have hc1:=iS l hn hs
  rw [show eg l = _ from if_pos h0] at hc1
  have hn63:l.length≤9223372036854775807:=by omega
  have hnh:∀ i j,¬ HasNm l i j:=fun i j h=>by obtain ⟨_,_,y,hy,_⟩:=h;have:=(List.getElem?_eq_some_iff.1 hy).1;omega
  repeat' (first|((with_reducible first|(apply hK;clear hK K)|refine ah fun U O=>?_|apply ag|(apply Z<;>(intro hc;try simp at hc;try omega)))<;>try simp only [go_sem])|(with_reducible first|apply aj|(apply O;clear O U)|refine kN dW fun K hK=>?_|refine kO fun K hK=>?_|refine aI ?_)|(refine xS rfl fun U O=>?_;simp only [go_sem])|(refine qS rfl fun U O=>?_;simp only [go_sem])|((with_reducible first|apply CallK.eq|apply CallQ.eqs);(· with_reducible first|exact hc1);(· first|exact rfl|(simp [RV.flat,D.sc,aa];done));try simp only [go_sem])|(with_reducible refine az dW ae ay (by kernel_rfl) (fun K hK=>?_))|(with_reducible refine aO ae ay (by kernel_rfl) ?_)|apply iB)
  refine aA [4,5,7,8,9,14,15,16,17,18,19,20,21,22,23,24,25,26,27,28,29,30,31,32,33,34,35,36,37,38,39,40,41,42,43,44,45,46,47,48,49,50,51,52,53,54,55,56,57,58,59,60,61,62,63,64,65,66,67,68,69,70,71,72,73,74,75] (fun k:Nat=>[(14,.d (.int .i64 (k:Int))),(6,.row 0 0)]) (fun k:Nat=>[(0,.row 143 3 [])]) 1 (fun k:Nat=>k≤q.length∧k = 0) (fun k:Nat=>q.length - k) 0 ⟨Nat.zero_le _,rfl⟩ (an [] (by simp [lk,ab]<;>omega)) ?_
  rintro k ⟨hk,hk0⟩
  simp only [bc,wipe,wl,bb,bx,rm,if_true,if_false,Nat.reduceEqDiff,Bool.false_eq_true,reduceCtorEq]
  by_cases hlt:k < q.length
  ·have hx:=List.getElem?_eq_getElem hlt
   generalize q[k] = x at hx
   have hNb:=aL (hnh x.item x.name)
   have hA:¬ e_ l q k x:=fun h=>hnh _ _ h.2.2.2.1
   repeat' (first|((with_reducible first|(apply hK;clear hK K)|refine ah fun U O=>?_|apply ag|(apply Z<;>(intro hc;try simp at hc;try omega)))<;>try simp only [go_sem,ap,hx,hNb,ar,InquiryD.dat,aa,ao])|(with_reducible first|apply aj|(apply O;clear O U)|refine kN dW fun K hK=>?_|refine kO fun K hK=>?_|refine aI ?_)|(refine xS rfl fun U O=>?_;simp only [go_sem,ap,hx,hNb,ar,InquiryD.dat,aa,ao])|(refine qS rfl fun U O=>?_;simp only [go_sem,ap,hx,hNb,ar,InquiryD.dat,aa,ao])|((with_reducible first|apply CallK.eq|apply CallQ.eqs);(· with_reducible first|exact fG _|exact eT l x.item x.name hn63 hs63|exact gF _);(· first|exact rfl|(simp [RV.flat,D.sc,aa];done));try simp only [go_sem,ap,hx,hNb,ar,InquiryD.dat,aa,ao])|(with_reducible refine az dW ae ay (by kernel_rfl) (fun K hK=>?_))|(with_reducible refine aO ae ay (by kernel_rfl) ?_)|apply iB)
   all_goals first
    |(exfalso;omega)
    |((refine ak rfl (by simp only [h0,bj,bn,ab,lk,ao,aK,List.length_append,List.length_take,if_true,if_false,Nat.reduceEqDiff,Nat.reduceBEq,Bool.false_eq_true,Option.some.injEq];rfl) (by simp [am,lk]) ?_);exact (d4 fun h=>hA (h _ x hx)).symm)
  ·have hq0:q = []:=List.length_eq_zero_iff.1 (by omega)
   have hr:=fy (l:=l) (q:=q) (fun j x hx=>by rw [hq0] at hx;simp at hx)
   have hil:=gi l q q.length
   rw [show eg (de l q q.length) = _ from if_pos (by omega)] at hr
   repeat' (first|((with_reducible first|(apply hK;clear hK K)|refine ah fun U O=>?_|apply ag|(apply Z<;>(intro hc;try simp at hc;try omega)))<;>try simp only [go_sem])|(with_reducible first|apply aj|(apply O;clear O U)|refine kN dW fun K hK=>?_|refine kO fun K hK=>?_|refine aI ?_)|(refine xS rfl fun U O=>?_;simp only [go_sem])|(refine qS rfl fun U O=>?_;simp only [go_sem])|(with_reducible refine az dW ae ay (by kernel_rfl) (fun K hK=>?_))|(with_reducible refine aO ae ay (by kernel_rfl) ?_)|apply iB)
   all_goals first
    |(exfalso;omega)
    |((refine ak rfl (by simp only [h0,bj,bn,ab,lk,ao,aK,List.length_append,List.length_take,if_true,if_false,Nat.reduceEqDiff,Nat.reduceBEq,Bool.false_eq_true,Option.some.injEq];rfl) (by simp [am,lk]) ?_);rw [hr])
 ·have hc1:=iS l hn hs
  rw [show eg l = _ from if_neg h0] at hc1
  have hil:=gi l q
  have hn63:l.length≤9223372036854775807:=by omega
  repeat' (first|((with_reducible first|(apply hK;clear hK K)|refine ah fun U O=>?_|apply ag|(apply Z<;>(intro hc;try simp at hc;try omega)))<;>try simp only [go_sem])|(with_reducible first|apply aj|(apply O;clear O U)|refine kN dW fun K hK=>?_|refine kO fun K hK=>?_|refine aI ?_)|(refine xS rfl fun U O=>?_;simp only [go_sem])|(refine qS rfl fun U O=>?_;simp only [go_sem])|((with_reducible first|apply CallK.eq|apply CallQ.eqs);(· with_reducible first|exact hc1);(· first|exact rfl|(simp [RV.flat,D.sc,aa];done));try simp only [go_sem])|(with_reducible refine az dW ae ay (by kernel_rfl) (fun K hK=>?_))|(with_reducible refine aO ae ay (by kernel_rfl) ?_)|apply iB)
  refine aA [4,5,7,8,9,14,15,16,17,18,19,20,21,22,23,24,25,26,27,28,29,30,31,32,33,34,35,36,37,38,39,40,41,42,43,44,45,46,47,48,49,50,51,52,53,54,55,56,57,58,59,60,61,62,63,64,65,66,67,68,69,70,71,72,73,74,75] (fun k:Nat=>[(14,.d (.int .i64 (k:Int))),(6,.row 0 l.length)]) (fun k:Nat=>[(0,.deep 0 143 3 ((de l q k).map ItemD.dat))]) 1 (fun k:Nat=>k≤q.length∧Upto (e_ l q) q k) (fun k:Nat=>q.length - k) 0 ⟨Nat.zero_le _,Upto.zero _ _⟩ (an [] (by simp [lk,ab,fE]<;>omega)) ?_
  rintro k ⟨hk,hJ⟩
  simp only [bc,wipe,wl,bb,bx,rm,if_true,if_false,Nat.reduceEqDiff,Bool.false_eq_true,reduceCtorEq]
  have hilk:=hil k
  by_cases hlt:k < q.length
  ·have hx:=List.getElem?_eq_getElem hlt
   generalize q[k] = x at hx
   by_cases hN:HasNm l x.item x.name
   ·have hNb:=aW hN
    have hiff:=oC (q:=q) (k:=k) hN
    obtain ⟨a,b,m,ha,hb,hnm,hml,hjn,hmn,hm,hmk⟩:=hN.there (q:=q) hv k
    rw [hmk] at hiff
    have hi0:=hN.1
    have hj0:=hN.2.1
    have hilt:x.item.toNat < l.length:=(List.getElem?_eq_some_iff.1 ha).1
    have hjlt:x.name.toNat < b.marks.length:=by omega
    rcases Nat.eq_zero_or_pos k with hk0|hk0
    ·have hpz:ij q k = 0:=by rw [hk0];rfl
     rw [hpz] at hiff
     repeat' (first|((with_reducible first|(apply hK;clear hK K)|refine ah fun U O=>?_|apply ag|(apply Z<;>(intro hc;try simp at hc;try omega)))<;>try simp only [go_sem,ap,hx,hNb,ar,InquiryD.dat,ItemD.dat,hb,hilk,hilt,hjlt,hm,aa,ao,hi0,hj0])|(with_reducible first|apply aj|(apply O;clear O U)|refine kN dW fun K hK=>?_|refine kO fun K hK=>?_|refine aI ?_)|(refine xS rfl fun U O=>?_;simp only [go_sem,ap,hx,hNb,ar,InquiryD.dat,ItemD.dat,hb,hilk,hilt,hjlt,hm,aa,ao,hi0,hj0])|(refine qS rfl fun U O=>?_;simp only [go_sem,ap,hx,hNb,ar,InquiryD.dat,ItemD.dat,hb,hilk,hilt,hjlt,hm,aa,ao,hi0,hj0])|((with_reducible first|apply CallK.eq|apply CallQ.eqs);(· with_reducible first|exact fG _|exact eT l x.item x.name hn63 hs63|exact gF _);(· first|exact rfl|(simp [RV.flat,D.sc,aa];done));try simp only [go_sem,ap,hx,hNb,ar,InquiryD.dat,ItemD.dat,hb,hilk,hilt,hjlt,hm,aa,ao,hi0,hj0])|(with_reducible refine az dW ae ay (by kernel_rfl) (fun K hK=>?_))|(with_reducible refine aO ae ay (by kernel_rfl) ?_)|apply iB)
     all_goals first
      |(exfalso;omega)
      |((refine ak rfl (by simp only [hilk,bj,bn,ab,lk,ao,aK,List.length_append,List.length_take,if_true,if_false,Nat.reduceEqDiff,Nat.reduceBEq,Bool.false_eq_true,Option.some.injEq];rfl) (by simp [am,lk]) ?_);exact (d4 fun h=>absurd (h _ x hx) (by rw [hiff];omega)).symm)
      |skip
     all_goals first
      |(refine cA (es':=b.marks.map aa) (e1:=aa m) (ds:=[.int .i64 x.mark]) rfl (ae _ _ G3) rfl rfl rfl (by simp [cU,hb,ItemD.dat]) (by rw [ap,hm];rfl) rfl rfl rfl (Nat.le_refl _) ?_)
      |skip
     all_goals
      (by_cases hacc:x.acc = true)
     all_goals first
      |(exfalso;simp_all;done)
      |skip
     all_goals
      have hA:e_ l q k x:=hiff.2 (by omega)
      have hJ':=hJ.succ hx hA
     all_goals first
      |(have bf:=lW hx hb hacc
        repeat' (first|((with_reducible first|(apply hK;clear hK K)|refine ah fun U O=>?_|apply ag|(apply Z<;>(intro hc;try simp at hc;try omega)))<;>try simp only [go_sem,ce,ap,hb,ar,ItemD.dat,List.set_cons_succ,List.set_cons_zero,bC,aa,bf])|(with_reducible first|apply aj|(apply O;clear O U)|refine kN dW fun K hK=>?_|refine kO fun K hK=>?_|refine aI ?_)|(refine xS rfl fun U O=>?_;simp only [go_sem,ce,ap,hb,ar,ItemD.dat,List.set_cons_succ,List.set_cons_zero,bC,aa,bf])|(refine qS rfl fun U O=>?_;simp only [go_sem,ce,ap,hb,ar,ItemD.dat,List.set_cons_succ,List.set_cons_zero,bC,aa,bf])|(with_reducible refine az dW ae ay (by kernel_rfl) (fun K hK=>?_))|(with_reducible refine aO ae ay (by kernel_rfl) ?_)|apply iB)
        exact ⟨k + 1,⟨by omega,hJ'⟩,by omega,(an [] (by simp [lk,ab]<;>omega))⟩)
      |(have bf:=mf (l:=l) hx (by simpa using hacc)
        exact ⟨k + 1,⟨by omega,hJ'⟩,by omega,(an [] (by simp [lk,ab,bf]<;>omega))⟩)
    ·have hp:=List.getElem?_eq_getElem (show k - 1 < q.length by omega)
     generalize q[k - 1] = p at hp
     have hkt:((k:Int) - 1).toNat = k - 1:=by omega
     rw [kn hk0 hp] at hiff
     repeat' (first|((with_reducible first|(apply hK;clear hK K)|refine ah fun U O=>?_|apply ag|(apply Z<;>(intro hc;try simp at hc;try omega)))<;>try simp only [go_sem,ap,hx,hNb,ar,InquiryD.dat,ItemD.dat,hb,hilk,hilt,hjlt,hm,aa,ao,hi0,hj0,hp,hkt])|(with_reducible first|apply aj|(apply O;clear O U)|refine kN dW fun K hK=>?_|refine kO fun K hK=>?_|refine aI ?_)|(refine xS rfl fun U O=>?_;simp only [go_sem,ap,hx,hNb,ar,InquiryD.dat,ItemD.dat,hb,hilk,hilt,hjlt,hm,aa,ao,hi0,hj0,hp,hkt])|(refine qS rfl fun U O=>?_;simp only [go_sem,ap,hx,hNb,ar,InquiryD.dat,ItemD.dat,hb,hilk,hilt,hjlt,hm,aa,ao,hi0,hj0,hp,hkt])|((with_reducible first|apply CallK.eq|apply CallQ.eqs);(· with_reducible first|exact fG _|exact eT l x.item x.name hn63 hs63|exact gF _);(· first|exact rfl|(simp [RV.flat,D.sc,aa];done));try simp only [go_sem,ap,hx,hNb,ar,InquiryD.dat,ItemD.dat,hb,hilk,hilt,hjlt,hm,aa,ao,hi0,hj0,hp,hkt])|(with_reducible refine az dW ae ay (by kernel_rfl) (fun K hK=>?_))|(with_reducible refine aO ae ay (by kernel_rfl) ?_)|apply iB)
     all_goals first
      |(exfalso;omega)
      |((refine ak rfl (by simp only [hilk,bj,bn,ab,lk,ao,aK,List.length_append,List.length_take,if_true,if_false,Nat.reduceEqDiff,Nat.reduceBEq,Bool.false_eq_true,Option.some.injEq];rfl) (by simp [am,lk]) ?_);exact (d4 fun h=>absurd (h _ x hx) (by rw [hiff];omega)).symm)
      |skip
     all_goals first
      |(refine cA (es':=b.marks.map aa) (e1:=aa m) (ds:=[.int .i64 x.mark]) rfl (ae _ _ G3) rfl rfl rfl (by simp [cU,hb,ItemD.dat]) (by rw [ap,hm];rfl) rfl rfl rfl (Nat.le_refl _) ?_)
      |skip
     all_goals
      (by_cases hacc:x.acc = true)
     all_goals first
      |(exfalso;simp_all;done)
      |skip
     all_goals
      have hA:e_ l q k x:=hiff.2 (by omega)
      have hJ':=hJ.succ hx hA
     all_goals first
      |(have bf:=lW hx hb hacc
        repeat' (first|((with_reducible first|(apply hK;clear hK K)|refine ah fun U O=>?_|apply ag|(apply Z<;>(intro hc;try simp at hc;try omega)))<;>try simp only [go_sem,ce,ap,hb,ar,ItemD.dat,List.set_cons_succ,List.set_cons_zero,bC,aa,bf])|(with_reducible first|apply aj|(apply O;clear O U)|refine kN dW fun K hK=>?_|refine kO fun K hK=>?_|refine aI ?_)|(refine xS rfl fun U O=>?_;simp only [go_sem,ce,ap,hb,ar,ItemD.dat,List.set_cons_succ,List.set_cons_zero,bC,aa,bf])|(refine qS rfl fun U O=>?_;simp only [go_sem,ce,ap,hb,ar,ItemD.dat,List.set_cons_succ,List.set_cons_zero,bC,aa,bf])|(with_reducible refine az dW ae ay (by kernel_rfl) (fun K hK=>?_))|(with_reducible refine aO ae ay (by kernel_rfl) ?_)|apply iB)
        exact ⟨k + 1,⟨by omega,hJ'⟩,by omega,(an [] (by simp [lk,ab]<;>omega))⟩)
      |(have bf:=mf (l:=l) hx (by simpa using hacc)
        exact ⟨k + 1,⟨by omega,hJ'⟩,by omega,(an [] (by simp [lk,ab,bf]<;>omega))⟩)
   ·have hNb:=aL hN
    have hA:¬ e_ l q k x:=fun h=>hN h.2.2.2.1
    rcases Nat.eq_zero_or_pos k with hk0|hk0
    ·repeat' (first|((with_reducible first|(apply hK;clear hK K)|refine ah fun U O=>?_|apply ag|(apply Z<;>(intro hc;try simp at hc;try omega)))<;>try simp only [go_sem,ap,hx,hNb,ar,InquiryD.dat,aa,ao])|(with_reducible first|apply aj|(apply O;clear O U)|refine kN dW fun K hK=>?_|refine kO fun K hK=>?_|refine aI ?_)|(refine xS rfl fun U O=>?_;simp only [go_sem,ap,hx,hNb,ar,InquiryD.dat,aa,ao])|(refine qS rfl fun U O=>?_;simp only [go_sem,ap,hx,hNb,ar,InquiryD.dat,aa,ao])|((with_reducible first|apply CallK.eq|apply CallQ.eqs);(· with_reducible first|exact fG _|exact eT l x.item x.name hn63 hs63|exact gF _);(· first|exact rfl|(simp [RV.flat,D.sc,aa];done));try simp only [go_sem,ap,hx,hNb,ar,InquiryD.dat,aa,ao])|(with_reducible refine az dW ae ay (by kernel_rfl) (fun K hK=>?_))|(with_reducible refine aO ae ay (by kernel_rfl) ?_)|apply iB)
     all_goals first
      |(exfalso;omega)
      |((refine ak rfl (by simp only [hilk,bj,bn,ab,lk,ao,aK,List.length_append,List.length_take,if_true,if_false,Nat.reduceEqDiff,Nat.reduceBEq,Bool.false_eq_true,Option.some.injEq];rfl) (by simp [am,lk]) ?_);exact (d4 fun h=>hA (h _ x hx)).symm)
    ·have hp:=List.getElem?_eq_getElem (show k - 1 < q.length by omega)
     generalize q[k - 1] = p at hp
     have hkt:((k:Int) - 1).toNat = k - 1:=by omega
     repeat' (first|((with_reducible first|(apply hK;clear hK K)|refine ah fun U O=>?_|apply ag|(apply Z<;>(intro hc;try simp at hc;try omega)))<;>try simp only [go_sem,ap,hx,hNb,ar,InquiryD.dat,aa,ao,hp,hkt])|(with_reducible first|apply aj|(apply O;clear O U)|refine kN dW fun K hK=>?_|refine kO fun K hK=>?_|refine aI ?_)|(refine xS rfl fun U O=>?_;simp only [go_sem,ap,hx,hNb,ar,InquiryD.dat,aa,ao,hp,hkt])|(refine qS rfl fun U O=>?_;simp only [go_sem,ap,hx,hNb,ar,InquiryD.dat,aa,ao,hp,hkt])|((with_reducible first|apply CallK.eq|apply CallQ.eqs);(· with_reducible first|exact fG _|exact eT l x.item x.name hn63 hs63|exact gF _);(· first|exact rfl|(simp [RV.flat,D.sc,aa];done));try simp only [go_sem,ap,hx,hNb,ar,InquiryD.dat,aa,ao,hp,hkt])|(with_reducible refine az dW ae ay (by kernel_rfl) (fun K hK=>?_))|(with_reducible refine aO ae ay (by kernel_rfl) ?_)|apply iB)
     all_goals first
      |(exfalso;omega)
      |((refine ak rfl (by simp only [hilk,bj,bn,ab,lk,ao,aK,List.length_append,List.length_take,if_true,if_false,Nat.reduceEqDiff,Nat.reduceBEq,Bool.false_eq_true,Option.some.injEq];rfl) (by simp [am,lk]) ?_);exact (d4 fun h=>hA (h _ x hx)).symm)
  ·obtain rfl:k = q.length:=by omega
   have hr:=fy (show eG l q from hJ.all (by omega))
   rw [show eg (de l q q.length) = _ from if_neg (by rw [hilk];exact h0)] at hr
   repeat' (first|((with_reducible first|(apply hK;clear hK K)|refine ah fun U O=>?_|apply ag|(apply Z<;>(intro hc;try simp at hc;try omega)))<;>try simp only [go_sem])|(with_reducible first|apply aj|(apply O;clear O U)|refine kN dW fun K hK=>?_|refine kO fun K hK=>?_|refine aI ?_)|(refine xS rfl fun U O=>?_;simp only [go_sem])|(refine qS rfl fun U O=>?_;simp only [go_sem])|(with_reducible refine az dW ae ay (by kernel_rfl) (fun K hK=>?_))|(with_reducible refine aO ae ay (by kernel_rfl) ?_)|apply iB)
   all_goals first
    |(exfalso;omega)
    |((refine ak rfl (by simp only [hilk,bj,bn,ab,lk,ao,aK,List.length_append,List.length_take,if_true,if_false,Nat.reduceEqDiff,Nat.reduceBEq,Bool.false_eq_true,Option.some.injEq];rfl) (by simp [am,lk]) ?_);rw [hr])
end Go.Proofs.YtphakidbddamfaaGreat
