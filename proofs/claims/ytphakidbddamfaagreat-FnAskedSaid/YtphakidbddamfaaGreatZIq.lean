/-
  Items after inquiries: plain words. No program is named here.
-/
import Derived.Test.YtphakidbddamfaaGreatZMst
import Derived.Test.YtphakidbddamfaaGreatZIn
namespace Go.Proofs.YtphakidbddamfaaGreat
open Go.RowKit
def jf (x:ItemD) (j:Nat) (m:Int):ItemD:=⟨x.names,x.marks.set j m,x.late⟩
def fz (l:List ItemD) (x:InquiryD):List ItemD:=if x.acc = true then (match l[x.item.toNat]? with
 |some it=>l.set x.item.toNat (jf it x.name.toNat x.mark)
 |none=>l) else l
def bS (l:List ItemD) (q:List InquiryD) (k:Nat):List ItemD:=(q.take k).foldl fz l
theorem nV (l:List ItemD) (q:List InquiryD):bS l q 0 = l:=rfl
theorem j9 {l:List ItemD} {q:List InquiryD} {k:Nat} {x:InquiryD} (hx:q[k]? = some x):bS l q (k + 1) = fz (bS l q k) x:=by unfold bS;rw [bW hx,List.foldl_append];rfl
theorem nJ (l:List ItemD) (x:InquiryD):(fz l x).length = l.length:=by
 unfold fz
 split
 ·split<;>simp
 ·rfl
theorem dq (l:List ItemD) (q:List InquiryD):∀ k,(bS l q k).length = l.length:=by
 intro k
 unfold bS
 generalize q.take k = r
 induction r generalizing l with
 |nil=>rfl
 |cons x r ih=>rw [List.foldl_cons,ih,nJ]
def vO (a b:ItemD):Prop:=a.names = b.names∧a.marks.length = b.marks.length∧a.late = b.late
theorem sI {l:List ItemD} {x:InquiryD} {i:Nat} {a:ItemD} (ha:l[i]? = some a):∃ b,(fz l x)[i]? = some b∧vO b a:=by
 unfold fz
 split
 ·split
  ·rename_i it hit
   by_cases e:x.item.toNat = i
   ·subst e
    have hlt:=(List.getElem?_eq_some_iff.1 hit).1
    rw [hit] at ha
    cases ha
    exact ⟨jf a x.name.toNat x.mark,by rw [List.getElem?_set,if_pos rfl,if_pos hlt],rfl,by simp [jf],rfl⟩
   ·exact ⟨a,by rw [List.getElem?_set,if_neg e];exact ha,rfl,rfl,rfl⟩
  ·exact ⟨a,ha,rfl,rfl,rfl⟩
 ·exact ⟨a,ha,rfl,rfl,rfl⟩
theorem fI {l:List ItemD} {q:List InquiryD} {i:Nat} {a:ItemD} (ha:l[i]? = some a) (k:Nat):∃ b,(bS l q k)[i]? = some b∧vO b a:=by
 unfold bS
 generalize q.take k = r
 induction r generalizing l a with
 |nil=>exact ⟨a,ha,rfl,rfl,rfl⟩
 |cons x r ih=>
  obtain ⟨b,hb,h1,h2,h3⟩:=sI (x:=x) ha
  obtain ⟨c,hc,h4,h5,h6⟩:=ih hb
  exact ⟨c,hc,h4.trans h1,h5.trans h2,h6.trans h3⟩
def HasNm (l:List ItemD) (i j:Int):Prop:=0≤i∧0≤j∧∃ x,l[i.toNat]? = some x∧j < (x.names.length:Int)
def gK (q:List InquiryD) (k:Nat):Int:=if k = 0 then 0 else (q.getD (k - 1) ⟨0,0,0,0,false⟩).tick
def tw (l:List ItemD) (i j:Nat):Int:=((l[i]?.map ItemD.marks).getD []).getD j 0
def fe (l:List ItemD) (q:List InquiryD) (k:Nat) (x:InquiryD):Prop:=0≤x.tick∧x.tick≤100000∧gK q k≤x.tick∧HasNm l x.item x.name∧0≤x.mark∧x.mark≤3∧tw (bS l q k) x.item.toNat x.name.toNat≠x.mark
def cz (l:List ItemD) (q:List InquiryD):Prop:=All (fe l q) q
theorem HasNm.there {l:List ItemD} {q:List InquiryD} (hv:ItsOk l) {i j:Int} (h:HasNm l i j) (k:Nat):∃ a b m,l[i.toNat]? = some a∧(bS l q k)[i.toNat]? = some b∧b.names = a.names∧b.marks.length = a.marks.length∧j.toNat < a.names.length∧a.marks.length = a.names.length∧b.marks[j.toNat]? = some m∧tw (bS l q k) i.toNat j.toNat = m:=by
 obtain ⟨h1,h2,a,ha,h3⟩:=h
 obtain ⟨b,hb,h4,h5,h6⟩:=fI (q:=q) ha k
 have h7:=(hv.at_ ha).2.2.2.1
 have h8:j.toNat < b.marks.length:=by omega
 refine ⟨a,b,b.marks[j.toNat],ha,hb,h4,h5,by omega,h7,List.getElem?_eq_getElem h8,?_⟩
 unfold tw
 rw [hb,aq,Option.getD_some,List.getD_eq_getElem?_getD,List.getElem?_eq_getElem h8]
 rfl
end Go.Proofs.YtphakidbddamfaaGreat
set_option linter.unusedSimpArgs false
set_option linter.unusedVariables false
set_option maxHeartbeats 2000000
set_option maxRecDepth 100000
namespace Go.Proofs.YtphakidbddamfaaGreat
open Go.RowKit
theorem dV (l:List ItemD) (i j:Int) (hn:l.length≤9223372036854775807) (hs:∀ r ∈ l,ItFit 9223372036854775807 r):FnEq Tryz.prog 127 [.d (.lst 3 (l.map ItemD.dat)),.d (.int .i64 i),.d (.int .i64 j)] [.d (.bool (bP (HasNm l i j)))]:=by
 refine aO aa Tryz.func127 rfl rfl ?_;simp only [Tryz.ntmps127,aR,aM,Nat.reduceAdd,Nat.reduceSub,aW]
 by_cases hi:0≤i∧i < (l.length:Int)
 ·have hlt:i.toNat < l.length:=by omega
  have hx:=List.getElem?_eq_getElem hlt
  generalize l[i.toNat] = x at hx
  obtain ⟨hf1,hf2,hf3⟩:=hs x (List.mem_of_getElem? hx)
  have hb:(decide (0≤i) && decide (i≤(l.length:Int) - 1)) = true:=by simp;omega
  have e:bP (HasNm l i j) = (decide (0≤j) && decide (j≤(x.names.length:Int) - 1)):=by
   rw [Bool.eq_iff_iff,bP_iff];simp only [Bool.and_eq_true,decide_eq_true_eq];constructor
   ·rintro ⟨h1,h2,y,hy,h3⟩;rw [hx] at hy;cases hy;omega
   ·rintro ⟨h1,h2⟩;exact ⟨hi.1,h1,x,hx,by omega⟩
  repeat' (first|((with_reducible first|(refine hK _ ?_;clear hK K)|refine aj fun U O=>?_|apply ah|(apply Z<;>(intro hc;try simp at hc;try omega)))<;>try simp only [go_sem,ap,hx,aq,ItemD.dat,hb,hlt,hi])|(with_reducible first|apply ag|(refine O _ ?_;clear O U)|refine kN vJ fun K hK=>?_|refine kO fun K hK=>?_|refine aI ?_)|(refine xS rfl fun U O=>?_;simp only [go_sem,ap,hx,aq,ItemD.dat,hb,hlt,hi])|((with_reducible apply CallK.eq);(· with_reducible first|exact bE _ _ _);(· simp [RV.flat,D.sc,ab]);try simp only [go_sem,ap,hx,aq,ItemD.dat,hb,hlt,hi])|fail)
  all_goals first
   |(exfalso;omega)
   |(refine ak rfl rfl (by simp [am,lk]) ?_;rw [e])
 ·have hb:(decide (0≤i) && decide (i≤(l.length:Int) - 1)) = false:=by
   rw [Bool.eq_false_iff];intro h;simp at h;omega
  have e:bP (HasNm l i j) = false:=aG fun h=>hi ⟨h.1,by obtain ⟨h1,h2,y,hy,_⟩:=h;have:=(List.getElem?_eq_some_iff.1 hy).1;omega⟩
  repeat' (first|((with_reducible first|(refine hK _ ?_;clear hK K)|refine aj fun U O=>?_|apply ah|(apply Z<;>(intro hc;try simp at hc;try omega)))<;>try simp only [go_sem,hb])|(with_reducible first|apply ag|(refine O _ ?_;clear O U)|refine kN vJ fun K hK=>?_|refine kO fun K hK=>?_|refine aI ?_)|(refine xS rfl fun U O=>?_;simp only [go_sem,hb])|((with_reducible apply CallK.eq);(· with_reducible first|exact bE _ _ _);(· simp [RV.flat,D.sc,ab]);try simp only [go_sem,hb])|fail)
  all_goals first
   |(exfalso;omega)
   |(refine ak rfl rfl (by simp [am,lk]) ?_;rw [e])
theorem iu (l:List ItemD) (i j:Int) (hn:l.length≤9223372036854775807) (hs:∀ r ∈ l,ItFit 9223372036854775807 r):FnEq Tryz.prog 121 [.d (.lst 3 (l.map ItemD.dat)),.d (.int .i64 i),.d (.int .i64 j)] [.d (.bool (bP (HasNm l i j)))]:=by
 refine aO aa Tryz.func121 rfl rfl ?_;simp only [Tryz.ntmps121,aR,aM,Nat.reduceAdd,Nat.reduceSub,aW]
 by_cases hi:0≤i∧i < (l.length:Int)
 ·have hlt:i.toNat < l.length:=by omega
  have hx:=List.getElem?_eq_getElem hlt
  generalize l[i.toNat] = x at hx
  obtain ⟨hf1,hf2,hf3⟩:=hs x (List.mem_of_getElem? hx)
  have hb:(decide (0≤i) && decide (i≤(l.length:Int) - 1)) = true:=by simp;omega
  have e:bP (HasNm l i j) = (decide (0≤j) && decide (j≤(x.names.length:Int) - 1)):=by
   rw [Bool.eq_iff_iff,bP_iff];simp only [Bool.and_eq_true,decide_eq_true_eq];constructor
   ·rintro ⟨h1,h2,y,hy,h3⟩;rw [hx] at hy;cases hy;omega
   ·rintro ⟨h1,h2⟩;exact ⟨hi.1,h1,x,hx,by omega⟩
  repeat' (first|((with_reducible first|(refine hK _ ?_;clear hK K)|refine aj fun U O=>?_|apply ah|(apply Z<;>(intro hc;try simp at hc;try omega)))<;>try simp only [go_sem,ap,hx,aq,ItemD.dat,hb,hlt,hi])|(with_reducible first|apply ag|(refine O _ ?_;clear O U)|refine kN v4 fun K hK=>?_|refine kO fun K hK=>?_|refine aI ?_)|(refine xS rfl fun U O=>?_;simp only [go_sem,ap,hx,aq,ItemD.dat,hb,hlt,hi])|((with_reducible apply CallK.eq);(· with_reducible first|exact cx _ _ _);(· simp [RV.flat,D.sc,ab]);try simp only [go_sem,ap,hx,aq,ItemD.dat,hb,hlt,hi])|fail)
  all_goals first
   |(exfalso;omega)
   |(refine ak rfl rfl (by simp [am,lk]) ?_;rw [e])
 ·have hb:(decide (0≤i) && decide (i≤(l.length:Int) - 1)) = false:=by
   rw [Bool.eq_false_iff];intro h;simp at h;omega
  have e:bP (HasNm l i j) = false:=aG fun h=>hi ⟨h.1,by obtain ⟨h1,h2,y,hy,_⟩:=h;have:=(List.getElem?_eq_some_iff.1 hy).1;omega⟩
  repeat' (first|((with_reducible first|(refine hK _ ?_;clear hK K)|refine aj fun U O=>?_|apply ah|(apply Z<;>(intro hc;try simp at hc;try omega)))<;>try simp only [go_sem,hb])|(with_reducible first|apply ag|(refine O _ ?_;clear O U)|refine kN v4 fun K hK=>?_|refine kO fun K hK=>?_|refine aI ?_)|(refine xS rfl fun U O=>?_;simp only [go_sem,hb])|((with_reducible apply CallK.eq);(· with_reducible first|exact cx _ _ _);(· simp [RV.flat,D.sc,ab]);try simp only [go_sem,hb])|fail)
  all_goals first
   |(exfalso;omega)
   |(refine ak rfl rfl (by simp [am,lk]) ?_;rw [e])
theorem e9 (n:Int):FnEq Tryz.prog 128 [.d (.int .i64 n)] [.d (.bool (decide (0≤n) && decide (n≤3)))]:=by
 refine aO aa Tryz.func128 rfl rfl ?_;simp only [Tryz.ntmps128,aR,aM,Nat.reduceAdd,Nat.reduceSub,aW]
 repeat' (first|((with_reducible first|(refine hK _ ?_;clear hK K)|refine aj fun U O=>?_|apply ah|(apply Z<;>(intro hc;try simp at hc;try omega)))<;>try simp only [go_sem])|(with_reducible first|apply ag|(refine O _ ?_;clear O U)|refine kN xC fun K hK=>?_|refine kO fun K hK=>?_|refine aI ?_)|((with_reducible apply CallK.eq);(· with_reducible first|exact bE _ _ _);(· simp [RV.flat,D.sc,ab]);try simp only [go_sem])|fail)
 refine ak rfl rfl (by simp [am,lk]) ?_;rfl
noncomputable def qJ (l:List ItemD) (q:List InquiryD):List RV:=if bP (cz l q) = true then [dO (bS l q q.length),.d (.bool (decide ((q.length:Int)≤20)))] else [.row 143 3 [],.d (.bool false)]
theorem eZ {l:List ItemD} {q:List InquiryD} (h:cz l q):qJ l q = [dO (bS l q q.length),.d (.bool (decide ((q.length:Int)≤20)))]:=if_pos (aQ h)
theorem dR {l:List ItemD} {q:List InquiryD} (h:¬ cz l q):qJ l q = [.row 143 3 [],.d (.bool false)]:=if_neg (by rw [aG h];simp)
theorem tb (q:List InquiryD):gK q 0 = 0:=rfl
theorem gu {q:List InquiryD} {k:Nat} {p:InquiryD} (h0:0 < k) (hp:q[k - 1]? = some p):gK q k = p.tick:=by
 unfold gK;rw [if_neg (by omega),List.getD_eq_getElem?_getD,hp];rfl
theorem nK {l:List ItemD} {q:List InquiryD} {k:Nat} {x:InquiryD} (hN:HasNm l x.item x.name):fe l q k x↔(0≤x.tick∧x.tick≤100000∧gK q k≤x.tick∧0≤x.mark∧x.mark≤3∧tw (bS l q k) x.item.toNat x.name.toNat≠x.mark):=by
 unfold fe
 constructor
 ·rintro ⟨h1,h2,h3,_,h4,h5,h6⟩;exact ⟨h1,h2,h3,h4,h5,h6⟩
 ·rintro ⟨h1,h2,h3,h4,h5,h6⟩;exact ⟨h1,h2,h3,hN,h4,h5,h6⟩
theorem jK {l:List ItemD} {q:List InquiryD} {k:Nat} {x:InquiryD} {b:ItemD} (hx:q[k]? = some x) (hb:(bS l q k)[x.item.toNat]? = some b) (ha:x.acc = true):((bS l q k).map ItemD.dat).set x.item.toNat [.lst 1 (b.names.map aZ),.lst 1 ((b.marks.map ab).set x.name.toNat [.int .i64 x.mark]),.bool b.late] = (bS l q (k + 1)).map ItemD.dat:=by
 rw [j9 hx,fz,if_pos ha,hb]
 simp only [List.map_set,jf,ItemD.dat,ab]
theorem jI {l:List ItemD} {q:List InquiryD} {k:Nat} {x:InquiryD} (hx:q[k]? = some x) (ha:x.acc = false):bS l q (k + 1) = bS l q k:=by
 rw [j9 hx,fz,if_neg (by rw [ha];simp)]
set_option maxHeartbeats 8000000 in
theorem je (l:List ItemD) (q:List InquiryD) (hn:l.length≤1048576) (hs:∀ r ∈ l,ItFit 1048576 r) (hv:ItsOk l) (hq:q.length≤9223372036854775807):FnEq Tryz.prog 73 [.d (.lst 3 (l.map ItemD.dat)),.d (.lst 5 (q.map InquiryD.dat))] (qJ l q):=by
 have hs63:∀ r ∈ l,ItFit 9223372036854775807 r:=fun r hr=>(hs r hr).mono (by decide)
 refine aO aa Tryz.func73 rfl rfl ?_;simp only [Tryz.ntmps73,aR,aM,Nat.reduceAdd,Nat.reduceSub,aW]
 by_cases h0:l.length = 0
 ·have hc1:=fV l hn hs
  rw [show dO l = _ from if_pos h0] at hc1
  have hn63:l.length≤9223372036854775807:=by omega
  have hnh:∀ i j,¬ HasNm l i j:=fun i j h=>by obtain ⟨_,_,y,hy,_⟩:=h;have:=(List.getElem?_eq_some_iff.1 hy).1;omega
  repeat' (first|((with_reducible first|(refine hK _ ?_;clear hK K)|refine aj fun U O=>?_|apply ah|(apply Z<;>(intro hc;try simp at hc;try omega)))<;>try simp only [go_sem])|(with_reducible first|apply ag|(refine O _ ?_;clear O U)|refine kN dZ fun K hK=>?_|refine kO fun K hK=>?_|refine aI ?_)|(refine xS rfl fun U O=>?_;simp only [go_sem])|(refine qS rfl fun U O=>?_;simp only [go_sem])|((with_reducible first|apply CallK.eq|apply CallQ.eqs);(· with_reducible first|exact hc1);(· first|exact rfl|(simp [RV.flat,D.sc,ab];done));try simp only [go_sem])|(with_reducible refine az dZ aa ax (by kernel_rfl) (fun K hK=>?_))|(with_reducible refine aN aa ax (by kernel_rfl) ?_)|apply iB)
  refine aD [4,5,7,8,9,14,15,16,17,18,19,20,21,22,23,24,25,26,27,28,29,30,31,32,33,34,35,36,37,38,39,40,41,42,43,44,45,46,47,48,49,50,51,52,53,54,55,56,57,58,59,60,61,62,63,64,65,66,67,68,69,70,71,72,73,74,75] (fun k:Nat=>[(14,.d (.int .i64 (k:Int))),(6,.row 0 0)]) (fun k:Nat=>[(0,.row 143 3 [])]) 1 (fun k:Nat=>k≤q.length∧k = 0) (fun k:Nat=>q.length - k) 0 ⟨Nat.zero_le _,rfl⟩ (ao [] (by simp [lk,ae]<;>omega)) ?_
  rintro k ⟨hk,hk0⟩
  simp only [bi,wipe,wl,bh,bw,rm,if_true,if_false,Nat.reduceEqDiff,Bool.false_eq_true,reduceCtorEq]
  by_cases hlt:k < q.length
  ·have hx:=List.getElem?_eq_getElem hlt
   generalize q[k] = x at hx
   have hNb:=aG (hnh x.item x.name)
   have hA:¬ fe l q k x:=fun h=>hnh _ _ h.2.2.2.1
   repeat' (first|((with_reducible first|(refine hK _ ?_;clear hK K)|refine aj fun U O=>?_|apply ah|(apply Z<;>(intro hc;try simp at hc;try omega)))<;>try simp only [go_sem,ap,hx,hNb,aq,InquiryD.dat,ab,an])|(with_reducible first|apply ag|(refine O _ ?_;clear O U)|refine kN dZ fun K hK=>?_|refine kO fun K hK=>?_|refine aI ?_)|(refine xS rfl fun U O=>?_;simp only [go_sem,ap,hx,hNb,aq,InquiryD.dat,ab,an])|(refine qS rfl fun U O=>?_;simp only [go_sem,ap,hx,hNb,aq,InquiryD.dat,ab,an])|((with_reducible first|apply CallK.eq|apply CallQ.eqs);(· with_reducible first|exact eC _|exact dV l x.item x.name hn63 hs63|exact e9 _);(· first|exact rfl|(simp [RV.flat,D.sc,ab];done));try simp only [go_sem,ap,hx,hNb,aq,InquiryD.dat,ab,an])|(with_reducible refine az dZ aa ax (by kernel_rfl) (fun K hK=>?_))|(with_reducible refine aN aa ax (by kernel_rfl) ?_)|apply iB)
   all_goals first
    |(exfalso;omega)
    |((refine ak rfl (by simp only [h0,bl,bn,ae,lk,an,aM,List.length_append,List.length_take,if_true,if_false,Nat.reduceEqDiff,Nat.reduceBEq,Bool.false_eq_true,Option.some.injEq];rfl) (by simp [am,lk]) ?_);exact (dR fun h=>hA (h _ x hx)).symm)
  ·have hq0:q = []:=List.length_eq_zero_iff.1 (by omega)
   have hr:=eZ (l:=l) (q:=q) (fun j x hx=>by rw [hq0] at hx;simp at hx)
   have hil:=dq l q q.length
   rw [show dO (bS l q q.length) = _ from if_pos (by omega)] at hr
   repeat' (first|((with_reducible first|(refine hK _ ?_;clear hK K)|refine aj fun U O=>?_|apply ah|(apply Z<;>(intro hc;try simp at hc;try omega)))<;>try simp only [go_sem])|(with_reducible first|apply ag|(refine O _ ?_;clear O U)|refine kN dZ fun K hK=>?_|refine kO fun K hK=>?_|refine aI ?_)|(refine xS rfl fun U O=>?_;simp only [go_sem])|(refine qS rfl fun U O=>?_;simp only [go_sem])|(with_reducible refine az dZ aa ax (by kernel_rfl) (fun K hK=>?_))|(with_reducible refine aN aa ax (by kernel_rfl) ?_)|apply iB)
   all_goals first
    |(exfalso;omega)
    |((refine ak rfl (by simp only [h0,bl,bn,ae,lk,an,aM,List.length_append,List.length_take,if_true,if_false,Nat.reduceEqDiff,Nat.reduceBEq,Bool.false_eq_true,Option.some.injEq];rfl) (by simp [am,lk]) ?_);rw [hr])
 ·have hc1:=fV l hn hs
  rw [show dO l = _ from if_neg h0] at hc1
  have hil:=dq l q
  have hn63:l.length≤9223372036854775807:=by omega
  repeat' (first|((with_reducible first|(refine hK _ ?_;clear hK K)|refine aj fun U O=>?_|apply ah|(apply Z<;>(intro hc;try simp at hc;try omega)))<;>try simp only [go_sem])|(with_reducible first|apply ag|(refine O _ ?_;clear O U)|refine kN dZ fun K hK=>?_|refine kO fun K hK=>?_|refine aI ?_)|(refine xS rfl fun U O=>?_;simp only [go_sem])|(refine qS rfl fun U O=>?_;simp only [go_sem])|((with_reducible first|apply CallK.eq|apply CallQ.eqs);(· with_reducible first|exact hc1);(· first|exact rfl|(simp [RV.flat,D.sc,ab];done));try simp only [go_sem])|(with_reducible refine az dZ aa ax (by kernel_rfl) (fun K hK=>?_))|(with_reducible refine aN aa ax (by kernel_rfl) ?_)|apply iB)
  refine aD [4,5,7,8,9,14,15,16,17,18,19,20,21,22,23,24,25,26,27,28,29,30,31,32,33,34,35,36,37,38,39,40,41,42,43,44,45,46,47,48,49,50,51,52,53,54,55,56,57,58,59,60,61,62,63,64,65,66,67,68,69,70,71,72,73,74,75] (fun k:Nat=>[(14,.d (.int .i64 (k:Int))),(6,.row 0 l.length)]) (fun k:Nat=>[(0,.deep 0 143 3 ((bS l q k).map ItemD.dat))]) 1 (fun k:Nat=>k≤q.length∧Upto (fe l q) q k) (fun k:Nat=>q.length - k) 0 ⟨Nat.zero_le _,Upto.zero _ _⟩ (ao [] (by simp [lk,ae,nV]<;>omega)) ?_
  rintro k ⟨hk,hJ⟩
  simp only [bi,wipe,wl,bh,bw,rm,if_true,if_false,Nat.reduceEqDiff,Bool.false_eq_true,reduceCtorEq]
  have hilk:=hil k
  by_cases hlt:k < q.length
  ·have hx:=List.getElem?_eq_getElem hlt
   generalize q[k] = x at hx
   by_cases hN:HasNm l x.item x.name
   ·have hNb:=aQ hN
    have hiff:=nK (q:=q) (k:=k) hN
    obtain ⟨a,b,m,ha,hb,hnm,hml,hjn,hmn,hm,hmk⟩:=hN.there (q:=q) hv k
    rw [hmk] at hiff
    have hi0:=hN.1
    have hj0:=hN.2.1
    have hilt:x.item.toNat < l.length:=(List.getElem?_eq_some_iff.1 ha).1
    have hjlt:x.name.toNat < b.marks.length:=by omega
    rcases Nat.eq_zero_or_pos k with hk0|hk0
    ·have hpz:gK q k = 0:=by rw [hk0];rfl
     rw [hpz] at hiff
     repeat' (first|((with_reducible first|(refine hK _ ?_;clear hK K)|refine aj fun U O=>?_|apply ah|(apply Z<;>(intro hc;try simp at hc;try omega)))<;>try simp only [go_sem,ap,hx,hNb,aq,InquiryD.dat,ItemD.dat,hb,hilk,hilt,hjlt,hm,ab,an,hi0,hj0])|(with_reducible first|apply ag|(refine O _ ?_;clear O U)|refine kN dZ fun K hK=>?_|refine kO fun K hK=>?_|refine aI ?_)|(refine xS rfl fun U O=>?_;simp only [go_sem,ap,hx,hNb,aq,InquiryD.dat,ItemD.dat,hb,hilk,hilt,hjlt,hm,ab,an,hi0,hj0])|(refine qS rfl fun U O=>?_;simp only [go_sem,ap,hx,hNb,aq,InquiryD.dat,ItemD.dat,hb,hilk,hilt,hjlt,hm,ab,an,hi0,hj0])|((with_reducible first|apply CallK.eq|apply CallQ.eqs);(· with_reducible first|exact eC _|exact dV l x.item x.name hn63 hs63|exact e9 _);(· first|exact rfl|(simp [RV.flat,D.sc,ab];done));try simp only [go_sem,ap,hx,hNb,aq,InquiryD.dat,ItemD.dat,hb,hilk,hilt,hjlt,hm,ab,an,hi0,hj0])|(with_reducible refine az dZ aa ax (by kernel_rfl) (fun K hK=>?_))|(with_reducible refine aN aa ax (by kernel_rfl) ?_)|apply iB)
     all_goals first
      |(exfalso;omega)
      |((refine ak rfl (by simp only [hilk,bl,bn,ae,lk,an,aM,List.length_append,List.length_take,if_true,if_false,Nat.reduceEqDiff,Nat.reduceBEq,Bool.false_eq_true,Option.some.injEq];rfl) (by simp [am,lk]) ?_);exact (dR fun h=>absurd (h _ x hx) (by rw [hiff];omega)).symm)
      |skip
     all_goals first
      |(refine cU (es':=b.marks.map ab) (e1:=ab m) (ds:=[.int .i64 x.mark]) rfl (aa _ _ G3) rfl rfl rfl (by simp [dd,hb,ItemD.dat]) (by rw [ap,hm];rfl) rfl rfl rfl (Nat.le_refl _) ?_)
      |skip
     all_goals
      (by_cases hacc:x.acc = true)
     all_goals first
      |(exfalso;simp_all;done)
      |skip
     all_goals
      have hA:fe l q k x:=hiff.2 (by omega)
      have hJ':=hJ.succ hx hA
     all_goals first
      |(have bj:=jK hx hb hacc
        repeat' (first|((with_reducible first|(refine hK _ ?_;clear hK K)|refine aj fun U O=>?_|apply ah|(apply Z<;>(intro hc;try simp at hc;try omega)))<;>try simp only [go_sem,ce,ap,hb,aq,ItemD.dat,List.set_cons_succ,List.set_cons_zero,bx,ab,bj])|(with_reducible first|apply ag|(refine O _ ?_;clear O U)|refine kN dZ fun K hK=>?_|refine kO fun K hK=>?_|refine aI ?_)|(refine xS rfl fun U O=>?_;simp only [go_sem,ce,ap,hb,aq,ItemD.dat,List.set_cons_succ,List.set_cons_zero,bx,ab,bj])|(refine qS rfl fun U O=>?_;simp only [go_sem,ce,ap,hb,aq,ItemD.dat,List.set_cons_succ,List.set_cons_zero,bx,ab,bj])|(with_reducible refine az dZ aa ax (by kernel_rfl) (fun K hK=>?_))|(with_reducible refine aN aa ax (by kernel_rfl) ?_)|apply iB)
        exact ⟨k + 1,⟨by omega,hJ'⟩,by omega,(ao [] (by simp [lk,ae]<;>omega))⟩)
      |(have bj:=jI (l:=l) hx (by simpa using hacc)
        exact ⟨k + 1,⟨by omega,hJ'⟩,by omega,(ao [] (by simp [lk,ae,bj]<;>omega))⟩)
    ·have hp:=List.getElem?_eq_getElem (show k - 1 < q.length by omega)
     generalize q[k - 1] = p at hp
     have hkt:((k:Int) - 1).toNat = k - 1:=by omega
     rw [gu hk0 hp] at hiff
     repeat' (first|((with_reducible first|(refine hK _ ?_;clear hK K)|refine aj fun U O=>?_|apply ah|(apply Z<;>(intro hc;try simp at hc;try omega)))<;>try simp only [go_sem,ap,hx,hNb,aq,InquiryD.dat,ItemD.dat,hb,hilk,hilt,hjlt,hm,ab,an,hi0,hj0,hp,hkt])|(with_reducible first|apply ag|(refine O _ ?_;clear O U)|refine kN dZ fun K hK=>?_|refine kO fun K hK=>?_|refine aI ?_)|(refine xS rfl fun U O=>?_;simp only [go_sem,ap,hx,hNb,aq,InquiryD.dat,ItemD.dat,hb,hilk,hilt,hjlt,hm,ab,an,hi0,hj0,hp,hkt])|(refine qS rfl fun U O=>?_;simp only [go_sem,ap,hx,hNb,aq,InquiryD.dat,ItemD.dat,hb,hilk,hilt,hjlt,hm,ab,an,hi0,hj0,hp,hkt])|((with_reducible first|apply CallK.eq|apply CallQ.eqs);(· with_reducible first|exact eC _|exact dV l x.item x.name hn63 hs63|exact e9 _);(· first|exact rfl|(simp [RV.flat,D.sc,ab];done));try simp only [go_sem,ap,hx,hNb,aq,InquiryD.dat,ItemD.dat,hb,hilk,hilt,hjlt,hm,ab,an,hi0,hj0,hp,hkt])|(with_reducible refine az dZ aa ax (by kernel_rfl) (fun K hK=>?_))|(with_reducible refine aN aa ax (by kernel_rfl) ?_)|apply iB)
     all_goals first
      |(exfalso;omega)
      |((refine ak rfl (by simp only [hilk,bl,bn,ae,lk,an,aM,List.length_append,List.length_take,if_true,if_false,Nat.reduceEqDiff,Nat.reduceBEq,Bool.false_eq_true,Option.some.injEq];rfl) (by simp [am,lk]) ?_);exact (dR fun h=>absurd (h _ x hx) (by rw [hiff];omega)).symm)
      |skip
     all_goals first
      |(refine cU (es':=b.marks.map ab) (e1:=ab m) (ds:=[.int .i64 x.mark]) rfl (aa _ _ G3) rfl rfl rfl (by simp [dd,hb,ItemD.dat]) (by rw [ap,hm];rfl) rfl rfl rfl (Nat.le_refl _) ?_)
      |skip
     all_goals
      (by_cases hacc:x.acc = true)
     all_goals first
      |(exfalso;simp_all;done)
      |skip
     all_goals
      have hA:fe l q k x:=hiff.2 (by omega)
      have hJ':=hJ.succ hx hA
     all_goals first
      |(have bj:=jK hx hb hacc
        repeat' (first|((with_reducible first|(refine hK _ ?_;clear hK K)|refine aj fun U O=>?_|apply ah|(apply Z<;>(intro hc;try simp at hc;try omega)))<;>try simp only [go_sem,ce,ap,hb,aq,ItemD.dat,List.set_cons_succ,List.set_cons_zero,bx,ab,bj])|(with_reducible first|apply ag|(refine O _ ?_;clear O U)|refine kN dZ fun K hK=>?_|refine kO fun K hK=>?_|refine aI ?_)|(refine xS rfl fun U O=>?_;simp only [go_sem,ce,ap,hb,aq,ItemD.dat,List.set_cons_succ,List.set_cons_zero,bx,ab,bj])|(refine qS rfl fun U O=>?_;simp only [go_sem,ce,ap,hb,aq,ItemD.dat,List.set_cons_succ,List.set_cons_zero,bx,ab,bj])|(with_reducible refine az dZ aa ax (by kernel_rfl) (fun K hK=>?_))|(with_reducible refine aN aa ax (by kernel_rfl) ?_)|apply iB)
        exact ⟨k + 1,⟨by omega,hJ'⟩,by omega,(ao [] (by simp [lk,ae]<;>omega))⟩)
      |(have bj:=jI (l:=l) hx (by simpa using hacc)
        exact ⟨k + 1,⟨by omega,hJ'⟩,by omega,(ao [] (by simp [lk,ae,bj]<;>omega))⟩)
   ·have hNb:=aG hN
    have hA:¬ fe l q k x:=fun h=>hN h.2.2.2.1
    rcases Nat.eq_zero_or_pos k with hk0|hk0
    ·repeat' (first|((with_reducible first|(refine hK _ ?_;clear hK K)|refine aj fun U O=>?_|apply ah|(apply Z<;>(intro hc;try simp at hc;try omega)))<;>try simp only [go_sem,ap,hx,hNb,aq,InquiryD.dat,ab,an])|(with_reducible first|apply ag|(refine O _ ?_;clear O U)|refine kN dZ fun K hK=>?_|refine kO fun K hK=>?_|refine aI ?_)|(refine xS rfl fun U O=>?_;simp only [go_sem,ap,hx,hNb,aq,InquiryD.dat,ab,an])|(refine qS rfl fun U O=>?_;simp only [go_sem,ap,hx,hNb,aq,InquiryD.dat,ab,an])|((with_reducible first|apply CallK.eq|apply CallQ.eqs);(· with_reducible first|exact eC _|exact dV l x.item x.name hn63 hs63|exact e9 _);(· first|exact rfl|(simp [RV.flat,D.sc,ab];done));try simp only [go_sem,ap,hx,hNb,aq,InquiryD.dat,ab,an])|(with_reducible refine az dZ aa ax (by kernel_rfl) (fun K hK=>?_))|(with_reducible refine aN aa ax (by kernel_rfl) ?_)|apply iB)
     all_goals first
      |(exfalso;omega)
      |((refine ak rfl (by simp only [hilk,bl,bn,ae,lk,an,aM,List.length_append,List.length_take,if_true,if_false,Nat.reduceEqDiff,Nat.reduceBEq,Bool.false_eq_true,Option.some.injEq];rfl) (by simp [am,lk]) ?_);exact (dR fun h=>hA (h _ x hx)).symm)
    ·have hp:=List.getElem?_eq_getElem (show k - 1 < q.length by omega)
     generalize q[k - 1] = p at hp
     have hkt:((k:Int) - 1).toNat = k - 1:=by omega
     repeat' (first|((with_reducible first|(refine hK _ ?_;clear hK K)|refine aj fun U O=>?_|apply ah|(apply Z<;>(intro hc;try simp at hc;try omega)))<;>try simp only [go_sem,ap,hx,hNb,aq,InquiryD.dat,ab,an,hp,hkt])|(with_reducible first|apply ag|(refine O _ ?_;clear O U)|refine kN dZ fun K hK=>?_|refine kO fun K hK=>?_|refine aI ?_)|(refine xS rfl fun U O=>?_;simp only [go_sem,ap,hx,hNb,aq,InquiryD.dat,ab,an,hp,hkt])|(refine qS rfl fun U O=>?_;simp only [go_sem,ap,hx,hNb,aq,InquiryD.dat,ab,an,hp,hkt])|((with_reducible first|apply CallK.eq|apply CallQ.eqs);(· with_reducible first|exact eC _|exact dV l x.item x.name hn63 hs63|exact e9 _);(· first|exact rfl|(simp [RV.flat,D.sc,ab];done));try simp only [go_sem,ap,hx,hNb,aq,InquiryD.dat,ab,an,hp,hkt])|(with_reducible refine az dZ aa ax (by kernel_rfl) (fun K hK=>?_))|(with_reducible refine aN aa ax (by kernel_rfl) ?_)|apply iB)
     all_goals first
      |(exfalso;omega)
      |((refine ak rfl (by simp only [hilk,bl,bn,ae,lk,an,aM,List.length_append,List.length_take,if_true,if_false,Nat.reduceEqDiff,Nat.reduceBEq,Bool.false_eq_true,Option.some.injEq];rfl) (by simp [am,lk]) ?_);exact (dR fun h=>hA (h _ x hx)).symm)
  ·obtain rfl:k = q.length:=by omega
   have hr:=eZ (show cz l q from hJ.all (by omega))
   rw [show dO (bS l q q.length) = _ from if_neg (by rw [hilk];exact h0)] at hr
   repeat' (first|((with_reducible first|(refine hK _ ?_;clear hK K)|refine aj fun U O=>?_|apply ah|(apply Z<;>(intro hc;try simp at hc;try omega)))<;>try simp only [go_sem])|(with_reducible first|apply ag|(refine O _ ?_;clear O U)|refine kN dZ fun K hK=>?_|refine kO fun K hK=>?_|refine aI ?_)|(refine xS rfl fun U O=>?_;simp only [go_sem])|(refine qS rfl fun U O=>?_;simp only [go_sem])|(with_reducible refine az dZ aa ax (by kernel_rfl) (fun K hK=>?_))|(with_reducible refine aN aa ax (by kernel_rfl) ?_)|apply iB)
   all_goals first
    |(exfalso;omega)
    |((refine ak rfl (by simp only [hilk,bl,bn,ae,lk,an,aM,List.length_append,List.length_take,if_true,if_false,Nat.reduceEqDiff,Nat.reduceBEq,Bool.false_eq_true,Option.some.injEq];rfl) (by simp [am,lk]) ?_);rw [hr])
end Go.Proofs.YtphakidbddamfaaGreat
