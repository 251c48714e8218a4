/-
  Asked scores: facts for the law. No program's function is walked here.
-/
import Derived.Test.YtphakidbddamfaaGreatZHf
import Derived.Test.YtphakidbddamfaaGreatZRcl
import Derived.Test.YtphakidbddamfaaGreatZMst
import Derived.Test.YtphakidbddamfaaGreatZSg
import Derived.Test.YtphakidbddamfaaGreatZJa
import Derived.Laws.StructEq
import Derived.Test.YtphakidbddamfaaGreatZCw
import Derived.Test.YtphakidbddamfaaGreatZTkg
namespace Go.Proofs.YtphakidbddamfaaGreat
open Go.RowKit
theorem rq (l:List ItemD) (q:List InquiryD):(bP (eA l q) = true∧(bD l q).isSome = true∧(bv l q).isSome = true∧(bv l q).getD false = true)∨(bP (eA l q) = false∧(bD l q).isSome = false∧((bv l q).isSome = false∨(bv l q).isSome = true∧(bv l q).getD false = false)):=by
 by_cases h:eA l q
 ·refine .inl ⟨aQ h,?_,?_,?_⟩
  ·rw [show bD l q = _ from cW h];rfl
  ·rw [show bv l q = _ from cW h.1];rfl
  ·rw [show bv l q = _ from cW h.1];exact aQ h.2
 ·refine .inr ⟨aG h,?_,?_⟩
  ·rw [show bD l q = _ from dF h];rfl
  ·by_cases hv:ItsOk l
   ·refine .inr ⟨?_,?_⟩
    ·rw [show bv l q = _ from cW hv];rfl
    ·rw [show bv l q = _ from cW hv];exact aG fun h2=>h ⟨hv,h2⟩
   ·refine .inl ?_
    rw [show bv l q = _ from dF hv];rfl
theorem nt {l:List ItemD} {q:List InquiryD} (h:eA l q):iK l q = bS l q q.length:=if_pos (aQ h)
theorem rY {l:List ItemD} {q:List InquiryD} (hn:l.length≤1048576) (hs:∀ r ∈ l,ItFit 1048576 r):(iK l q).length≤1048576∧∀ r ∈ iK l q,ItFit 1048576 r:=by
 by_cases h:eA l q
 ·rw [nt h,dq]
  exact ⟨hn,kD hs _ _⟩
 ·rw [iK,if_neg (by rw [aG h];simp)]
  exact ⟨by simp,by simp⟩
theorem uW (l:List ItemD) (q:List InquiryD):((bD l q).getD []).length≤q.length:=by
 by_cases h:eA l q
 ·rw [show bD l q = _ from cW h];exact qk _ _ _
 ·rw [show bD l q = _ from dF h];exact Nat.zero_le _
theorem rk {l:List ItemD} {q:List InquiryD} (h:bP (eA l q) = true):ItsOk l∧i5 l (ca q)∧(bD l q).getD [] = ca q∧iK l q = eI 100000 l (ca q) (ca q).length:=by
 have hI:eA l q:=bP_iff.1 h
 refine ⟨hI.1,wS hI.2.1 hI.2.2,?_,?_⟩
 ·rw [show bD l q = _ from cW hI];rfl
 ·rw [nt hI,vy fun x hx=>?_]
  obtain ⟨i,hi,rfl⟩:=List.mem_iff_getElem.1 hx
  exact (hI.2.1 i _ (List.getElem?_eq_getElem hi)).2.1
theorem rA (c:CodeD) (p:PerfD) (f:Int) (q:List InquiryD):(bG c p f q).isSome = true→dK c p f∧bP (eA p.items q) = true∧(bG c p f q).getD 0 = eh c (dz p (iK p.items q)) f∧dK c (dz p (iK p.items q)) f∧ItsOk (iK p.items q)∧kB p.items (iK p.items q):=by
 intro h
 by_cases hA:dK c p f∧cz p.items q∧q.length≤20
 ·have hI:eA p.items q:=⟨hA.1.1.2.1,hA.2⟩
  rw [show bG c p f q = _ from cW hA,nt hI]
  refine ⟨hA.1,aQ hI,rfl,lV hA.1 hA.2.1,lO hI.1 hI.2.1 _ (Nat.le_refl _),(dq _ _ _).symm,fun i x y hx hy=>?_⟩
  obtain ⟨b,hb,h1,_⟩:=fI (q:=q) hx q.length
  rw [hb] at hy
  cases hy
  exact h1.symm
 ·rw [show bG c p f q = _ from dF hA] at h
  cases h
end Go.Proofs.YtphakidbddamfaaGreat
set_option linter.unusedSimpArgs false
set_option linter.unusedVariables false
set_option maxHeartbeats 2000000
set_option maxRecDepth 100000
namespace Go.Proofs.YtphakidbddamfaaGreat
open Go.RowKit
theorem pu (xs ys:List Int) (hn:xs.length≤1048576) (hn':ys.length≤1048576):FnEq Tryz.prog 57 [.d (.lst 1 (xs.map ab)),.d (.lst 1 (ys.map ab))] [.d (.bool (bP (xs = ys)))]:=by
 refine aO aa Tryz.func57 rfl rfl ?_;simp only [Tryz.ntmps57,aR,aM,Nat.reduceAdd,Nat.reduceSub,aW]
 repeat' (first|((with_reducible first|(refine hK _ ?_;clear hK K)|refine aj fun U O=>?_|apply ah|(apply Z<;>(intro hc;try simp at hc;try omega)))<;>try simp only [go_sem])|(with_reducible first|apply ag|(refine O _ ?_;clear O U)|refine kN na fun K hK=>?_|refine kO fun K hK=>?_|refine aI ?_)|(with_reducible refine az na aa ax (by kernel_rfl) (fun K hK=>?_))|(with_reducible refine aN aa ax (by kernel_rfl) ?_)|apply iB)
 ·refine ak rfl rfl (by simp [am,lk]) ?_;rw [aG fun h=>absurd (congrArg List.length h) (by omega)]
 ·refine aD [4,5,13,14,15,16,17,18,19,20,21,22,23,24,25] (fun k:Nat=>[(13,.d (.int .i64 (k:Int)))]) (fun k:Nat=>[]) 0 (fun k:Nat=>k≤xs.length∧xs.take k = ys.take k) (fun k:Nat=>xs.length - k) 0 ⟨Nat.zero_le _,by simp⟩ (ao [] (by simp [lk,ae]<;>omega)) ?_
  rintro k ⟨hk,hJ⟩
  simp only [bi,wipe,wl,bh,bw,rm,if_true,if_false,Nat.reduceEqDiff,Bool.false_eq_true,reduceCtorEq]
  by_cases hlt:k < xs.length
  ·have hx:=List.getElem?_eq_getElem hlt
   generalize xs[k] = x at hx
   have hy:=List.getElem?_eq_getElem (show k < ys.length by omega)
   generalize ys[k] = y at hy
   repeat' (first|((with_reducible first|(refine hK _ ?_;clear hK K)|refine aj fun U O=>?_|apply ah|(apply Z<;>(intro hc;try simp at hc;try omega)))<;>try simp only [go_sem,ap,hx,hy,aq,ab])|(with_reducible first|apply ag|(refine O _ ?_;clear O U)|refine kN na fun K hK=>?_|refine kO fun K hK=>?_|refine aI ?_)|(with_reducible refine az na aa ax (by kernel_rfl) (fun K hK=>?_))|(with_reducible refine aN aa ax (by kernel_rfl) ?_)|apply iB)
   ·refine ak rfl rfl (by simp [am,lk]) ?_;rw [aG fun h=>by rw [h,hy] at hx;exact absurd (Option.some.inj hx).symm (by assumption)]
   ·exact ⟨k + 1,⟨by omega,by rw [bW hx,bW hy,hJ,hc]⟩,by omega,(ao [] (by simp [lk,ae]<;>omega))⟩
  ·repeat' (first|((with_reducible first|(refine hK _ ?_;clear hK K)|refine aj fun U O=>?_|apply ah|(apply Z<;>(intro hc;try simp at hc;try omega)))<;>try simp only [go_sem])|(with_reducible first|apply ag|(refine O _ ?_;clear O U)|refine kN na fun K hK=>?_|refine kO fun K hK=>?_|refine aI ?_)|(with_reducible refine az na aa ax (by kernel_rfl) (fun K hK=>?_))|(with_reducible refine aN aa ax (by kernel_rfl) ?_)|apply iB)
   refine ak rfl rfl (by simp [am,lk]) ?_;rw [aQ (by rwa [List.take_of_length_le (by omega),List.take_of_length_le (by omega)] at hJ)]
end Go.Proofs.YtphakidbddamfaaGreat
set_option linter.unusedSimpArgs false
set_option linter.unusedVariables false
set_option maxHeartbeats 2000000
set_option maxRecDepth 100000
namespace Go.Proofs.YtphakidbddamfaaGreat
open Go.RowKit
theorem mF (c:CodeD) (p:PerfD) (f:Int) (hcf:CdFit 1048576 c) (hpf:PfFit 1048576 p) (h:dK c p f):FnEq Tryz.prog 44 [.agg c.cs,.agg p.cs,.d (.int .i64 f)] [.d (.int .i64 (eh c p f)),.d (.bool true)]:=by
 have h1:=lw c p f hcf hpf
 rw [aQ h] at h1
 have h2:=iz c p f h
 refine aO aa Tryz.func44 rfl rfl ?_;simp only [Tryz.ntmps44,aR,aM,Nat.reduceAdd,Nat.reduceSub,aW]
 repeat' (first|((with_reducible first|(refine hK _ ?_;clear hK K)|refine aj fun U O=>?_|apply ah|(apply Z<;>(intro hc;try simp at hc;try omega)))<;>try simp only [go_sem])|(with_reducible first|apply ag|(refine O _ ?_;clear O U)|refine kN yV fun K hK=>?_|refine kO fun K hK=>?_|refine aI ?_)|((with_reducible apply CallK.eq);(· with_reducible first|exact h1|exact h2);(· simp [RV.flat,D.sc,ab]);try simp only [go_sem])|fail)
 refine ak rfl rfl (by simp [am,lk]) ?_;rfl
theorem lj (l:List (List Int)) (hn:l.length≤1048576) (hs:∀ x ∈ l,x.length≤1048576):FnEq Tryz.prog 56 [.d (.lst 1 (l.map (aF 1 ab))),.d (.lst 1 (l.map (aF 1 ab)))] [.d (.bool true)]:=by
 refine aO aa Tryz.func56 rfl rfl ?_;simp only [Tryz.ntmps56,aR,aM,Nat.reduceAdd,Nat.reduceSub,aW]
 repeat' (first|((with_reducible first|(refine hK _ ?_;clear hK K)|refine aj fun U O=>?_|apply ah|(apply Z<;>(intro hc;try simp at hc;try omega)))<;>try simp only [go_sem,an,bne_self_eq_false])|(with_reducible first|apply ag|(refine O _ ?_;clear O U)|refine kN nw fun K hK=>?_|refine kO fun K hK=>?_|refine aI ?_)|(with_reducible refine az nw aa ax (by kernel_rfl) (fun K hK=>?_))|(with_reducible refine aN aa ax (by kernel_rfl) ?_)|apply iB)
 refine aD [4,5,13,14,15,16,17,18,19,20,21,22,23,24,25,26] (fun k:Nat=>[(13,.d (.int .i64 (k:Int)))]) (fun k:Nat=>[]) 0 (fun k:Nat=>k≤l.length) (fun k:Nat=>l.length - k) 0 (Nat.zero_le _) (ao [] (by simp [lk,ae]<;>omega)) ?_
 intro k hk
 simp only [bi,wipe,wl,bh,bw,rm,if_true,if_false,Nat.reduceEqDiff,Bool.false_eq_true,reduceCtorEq]
 by_cases hlt:k < l.length
 ·obtain ⟨x,hx⟩:∃ x,l[k]? = some x:=⟨_,List.getElem?_eq_getElem hlt⟩
  have hxl:=hs x (List.mem_of_getElem? hx)
  have hq:=pu x x hxl hxl
  rw [aQ rfl] at hq
  repeat' (first|((with_reducible first|(refine hK _ ?_;clear hK K)|refine aj fun U O=>?_|apply ah|(apply Z<;>(intro hc;try simp at hc;try omega)))<;>try simp only [go_sem,an,ap,hx,aq,aF,hlt])|(with_reducible first|apply ag|(refine O _ ?_;clear O U)|refine kN nw fun K hK=>?_|refine kO fun K hK=>?_|refine aI ?_)|((with_reducible first|apply CallK.eq|apply CallQ.eqs);(· with_reducible first|exact hq);(· first|exact rfl|(simp [RV.flat,D.sc,ab];done));try simp only [go_sem,an,ap,hx,aq,aF,hlt])|(with_reducible refine az nw aa ax (by kernel_rfl) (fun K hK=>?_))|(with_reducible refine aN aa ax (by kernel_rfl) ?_)|apply iB)
  exact ⟨k + 1,by omega,by omega,(ao [] (by simp [lk,ae]<;>omega))⟩
 ·repeat' (first|((with_reducible first|(refine hK _ ?_;clear hK K)|refine aj fun U O=>?_|apply ah|(apply Z<;>(intro hc;try simp at hc;try omega)))<;>try simp only [go_sem,hlt])|(with_reducible first|apply ag|(refine O _ ?_;clear O U)|refine kN nw fun K hK=>?_|refine kO fun K hK=>?_|refine aI ?_)|(with_reducible refine az nw aa ax (by kernel_rfl) (fun K hK=>?_))|(with_reducible refine aN aa ax (by kernel_rfl) ?_)|apply iB)
  refine ak rfl rfl (by simp [am,lk]) ?_;rfl
end Go.Proofs.YtphakidbddamfaaGreat
namespace Go.Proofs.YtphakidbddamfaaGreat
open Go.RowKit
theorem rW {m:Nat→Option Loc} {X:Nat→Prop} {w:World} {cs:List D} (hsc:∀ d ∈ cs,d.sc) {v:Value} (h:R m X w (.agg (cs.map .d)) v):v = .agg (cs.map fq).toArray:=by
 cases h with
 |agg _ vs hl h=>
  congr 1
  apply Array.ext_getElem?
  intro i
  simp only [List.getElem?_toArray,ap]
  cases hi:cs[i]? with
  |none=>
   have:cs.length≤i:=List.getElem?_eq_none_iff.1 hi
   rw [Array.getElem?_eq_none (by simp at hl;omega)]
   rfl
  |some d=>
   have hlt:i < vs.size:=by have:=(List.getElem?_eq_some_iff.1 hi).1;simp at hl;omega
   have hv:vs[i]? = some vs[i]:=by simp [hlt]
   have h1:=h i (.d d) vs[i] (by rw [ap,hi];rfl) hv
   rw [hv,t9 (hsc d (List.mem_of_getElem? hi)) h1.rd]
   rfl
def w4:BinOp→Option Bool
 |.eql=>some true
 |.neq=>some false
 |_=>none
theorem uK {P:Program} {o:Oper} {s:AS} {KP:PV→Prop} {op:BinOp} {t t':TypeId} {x y:Operand} {b:Bool} (cs:List D) (ho:o.op = .binOp op t x y t') (hop:w4 op = some b) (hsc:∀ d ∈ cs,d.sc) (hx:s.get x = .agg (cs.map .d)) (hy:s.get y = .agg (cs.map .d)) (hg:P.eqGuardType P.depth t = false)
  (he:∀ w,(Op.equalIn 10000 t (.agg (cs.map fq).toArray) (.agg (cs.map fq).toArray)).run P w = .ok true w) (hK:KP (.d (.bool b))):PQ P o s KP:=
 PQ.pure _ hK fun m X w a hq=>by
  have h1:=hq x
  have h2:=hq y
  rw [hx] at h1
  rw [hy] at h2
  refine ⟨.bool b,fun u=>?_,.d _ _ (.bool _)⟩
  simp only [execOp,ho,rW hsc h1,rW hsc h2,Sem.run_bind,run_eqGuard_agg u op t x y _ _ hg,Result.andThen_ok]
  cases op<;>simp only [w4] at hop<;>first|cases hop|skip
  ·rw [run_eql_struct,he];rfl
  ·rw [run_neq_struct,he];rfl
def tK (P:Program) (cs:List D):List Field→Bool
 |[]=>true
 |f::fs=>(match P.underlying f.type,cs[f.offset]? with
  |some (.int _),some (.int _ _)=>true
  |some .bool,some (.bool _)=>true
  |_,_=>false) && tK P cs fs
theorem ph {P:Program} {cs:List D}:∀ {fs:List Field} (w:World),tK P cs fs = true→(Op.eqFields 9999 (cs.map fq).toArray (cs.map fq).toArray fs).run P w = .ok true w
 |[],w,_=>by simp [Op.eqFields]
 |f::fs,w,h=>by
  simp only [tK,Bool.and_eq_true] at h
  have ih:=ph w h.2
  have h1:=h.1
  have hp:∀ {d:TypeDesc} {v:Value},P.underlying f.type = some d→ib d = false→(cs.map fq).toArray[f.offset]? = some v→(part f.type (cs.map fq).toArray f.offset).run P w = .ok v w:=by
   intro d v hd ha hv
   cases d<;>simp [ib] at ha<;>simp [part,isAgg,run_underlying hd,hv]
  split at h1
  ·rename_i _ k0 n hk hd
   have hv:(cs.map fq).toArray[f.offset]? = some (.int k0 n):=by simp [hd,fq]
   have e:=hp hk rfl hv
   simp [Op.eqFields,e,run_equalIn_int w 9998 f.type k0 _ n n hk,ih]
  ·rename_i b hk hd
   have hv:(cs.map fq).toArray[f.offset]? = some (.bool b):=by simp [hd,fq]
   have e:=hp hk rfl hv
   simp [Op.eqFields,e,run_equalIn_bool' w 9998 f.type b b hk,ih]
  ·cases h1
theorem r9 {P:Program} {t:TypeId} {cs:List D} (ht:P.underlying t = some (.struct (P.fieldsOf t))) (hp:P.stoodInHeld t = false) (h:tK P cs (P.fieldsOf t).toList = true) (w:World):(Op.equalIn 10000 t (.agg (cs.map fq).toArray) (.agg (cs.map fq).toArray)).run P w = .ok true w:=by
 rw [show (10000:Nat) = 9999 + 1 from rfl,run_equalIn_agg w 9999 t _ _ ht hp]
 exact ph w h
end Go.Proofs.YtphakidbddamfaaGreat
set_option linter.unusedSimpArgs false
set_option linter.unusedVariables false
set_option maxHeartbeats 2000000
set_option maxRecDepth 100000
namespace Go.Proofs.YtphakidbddamfaaGreat
open Go.RowKit
theorem rc (l:List ByteArray) (hn:l.length≤1048576):FnEq Tryz.prog 97 [.d (.lst 1 (l.map aZ)),.d (.lst 1 (l.map aZ))] [.d (.bool true)]:=by
 refine aO aa Tryz.func97 rfl rfl ?_;simp only [Tryz.ntmps97,aR,aM,Nat.reduceAdd,Nat.reduceSub,aW]
 repeat' (first|((with_reducible first|(refine hK _ ?_;clear hK K)|refine aj fun U O=>?_|apply ah|(apply Z<;>(intro hc;try simp at hc;try omega)))<;>try simp only [go_sem,an,bne_self_eq_false])|(with_reducible first|apply ag|(refine O _ ?_;clear O U)|refine kN nC fun K hK=>?_|refine kO fun K hK=>?_|refine aI ?_)|(with_reducible refine az nC aa ax (by kernel_rfl) (fun K hK=>?_))|(with_reducible refine aN aa ax (by kernel_rfl) ?_)|apply iB)
 refine aD [4,5,13,14,15,16,17,18,19,20,21,22,23,24,25] (fun k:Nat=>[(13,.d (.int .i64 (k:Int)))]) (fun k:Nat=>[]) 0 (fun k:Nat=>k≤l.length) (fun k:Nat=>l.length - k) 0 (Nat.zero_le _) (ao [] (by simp [lk,ae]<;>omega)) ?_
 intro k hk
 simp only [bi,wipe,wl,bh,bw,rm,if_true,if_false,Nat.reduceEqDiff,Bool.false_eq_true,reduceCtorEq]
 by_cases hlt:k < l.length
 ·obtain ⟨x,hx⟩:∃ x,l[k]? = some x:=⟨_,List.getElem?_eq_getElem hlt⟩
  repeat' (first|((with_reducible first|(refine hK _ ?_;clear hK K)|refine aj fun U O=>?_|apply ah|(apply Z<;>(intro hc;try simp at hc;try omega)))<;>try simp only [go_sem,an,ap,hx,aq,aZ,hlt,bne_self_eq_false])|(with_reducible first|apply ag|(refine O _ ?_;clear O U)|refine kN nC fun K hK=>?_|refine kO fun K hK=>?_|refine aI ?_)|(with_reducible refine az nC aa ax (by kernel_rfl) (fun K hK=>?_))|(with_reducible refine aN aa ax (by kernel_rfl) ?_)|apply iB)
  exact ⟨k + 1,by omega,by omega,(ao [] (by simp [lk,ae]<;>omega))⟩
 ·repeat' (first|((with_reducible first|(refine hK _ ?_;clear hK K)|refine aj fun U O=>?_|apply ah|(apply Z<;>(intro hc;try simp at hc;try omega)))<;>try simp only [go_sem,hlt])|(with_reducible first|apply ag|(refine O _ ?_;clear O U)|refine kN nC fun K hK=>?_|refine kO fun K hK=>?_|refine aI ?_)|(with_reducible refine az nC aa ax (by kernel_rfl) (fun K hK=>?_))|(with_reducible refine aN aa ax (by kernel_rfl) ?_)|apply iB)
  refine ak rfl rfl (by simp [am,lk]) ?_;rfl
theorem iO (l:List ItemD) (hn:l.length≤1048576) (hs:∀ x ∈ l,ItFit 1048576 x):FnEq Tryz.prog 40 [.d (.lst 3 (l.map ItemD.dat)),.d (.lst 3 (l.map ItemD.dat))] [.d (.bool true)]:=by
 refine aO aa Tryz.func40 rfl rfl ?_;simp only [Tryz.ntmps40,aR,aM,Nat.reduceAdd,Nat.reduceSub,aW]
 repeat' (first|((with_reducible first|(refine hK _ ?_;clear hK K)|refine aj fun U O=>?_|apply ah|(apply Z<;>(intro hc;try simp at hc;try omega)))<;>try simp only [go_sem,an,bne_self_eq_false])|(with_reducible first|apply ag|(refine O _ ?_;clear O U)|refine kN nh fun K hK=>?_|refine kO fun K hK=>?_|refine aI ?_)|(refine xS rfl fun U O=>?_;simp only [go_sem,an,bne_self_eq_false])|(refine qS rfl fun U O=>?_;simp only [go_sem,an,bne_self_eq_false])|(with_reducible refine az nh aa ax (by kernel_rfl) (fun K hK=>?_))|(with_reducible refine aN aa ax (by kernel_rfl) ?_)|apply iB)
 refine aD [4,5,13,14,15,16,17,18,19,20,21,22,23,24,25,26,27,28,29,30,31,32,33,34,35,36,37,38,39,40,41,42,43,44,45,46,47,48,49,50,51,52,53,54,55] (fun k:Nat=>[(13,.d (.int .i64 (k:Int)))]) (fun k:Nat=>[]) 0 (fun k:Nat=>k≤l.length) (fun k:Nat=>l.length - k) 0 (Nat.zero_le _) (ao [] (by simp [lk,ae]<;>omega)) ?_
 intro k hk
 simp only [bi,wipe,wl,bh,bw,rm,if_true,if_false,Nat.reduceEqDiff,Bool.false_eq_true,reduceCtorEq]
 by_cases hlt:k < l.length
 ·obtain ⟨x,hx⟩:∃ x,l[k]? = some x:=⟨_,List.getElem?_eq_getElem hlt⟩
  obtain ⟨hx1,hx2,hx3⟩:=hs x (List.mem_of_getElem? hx)
  have hq1:=rc x.names hx1
  have hq2:=pu x.marks x.marks hx3 hx3
  rw [aQ rfl] at hq2
  repeat' (first|((with_reducible first|(refine hK _ ?_;clear hK K)|refine aj fun U O=>?_|apply ah|(apply Z<;>(intro hc;try simp at hc;try omega)))<;>try simp only [go_sem,an,ap,hx,aq,ItemD.dat,hlt,bne_self_eq_false])|(with_reducible first|apply ag|(refine O _ ?_;clear O U)|refine kN nh fun K hK=>?_|refine kO fun K hK=>?_|refine aI ?_)|(refine xS rfl fun U O=>?_;simp only [go_sem,an,ap,hx,aq,ItemD.dat,hlt,bne_self_eq_false])|(refine qS rfl fun U O=>?_;simp only [go_sem,an,ap,hx,aq,ItemD.dat,hlt,bne_self_eq_false])|((with_reducible first|apply CallK.eq|apply CallQ.eqs);(· with_reducible first|exact hq1|exact hq2);(· first|exact rfl|(simp [RV.flat,D.sc,ab];done));try simp only [go_sem,an,ap,hx,aq,ItemD.dat,hlt,bne_self_eq_false])|(with_reducible refine az nh aa ax (by kernel_rfl) (fun K hK=>?_))|(with_reducible refine aN aa ax (by kernel_rfl) ?_)|apply iB)
  exact ⟨k + 1,by omega,by omega,(ao [] (by simp [lk,ae]<;>omega))⟩
 ·repeat' (first|((with_reducible first|(refine hK _ ?_;clear hK K)|refine aj fun U O=>?_|apply ah|(apply Z<;>(intro hc;try simp at hc;try omega)))<;>try simp only [go_sem,hlt])|(with_reducible first|apply ag|(refine O _ ?_;clear O U)|refine kN nh fun K hK=>?_|refine kO fun K hK=>?_|refine aI ?_)|(refine xS rfl fun U O=>?_;simp only [go_sem,hlt])|(refine qS rfl fun U O=>?_;simp only [go_sem,hlt])|(with_reducible refine az nh aa ax (by kernel_rfl) (fun K hK=>?_))|(with_reducible refine aN aa ax (by kernel_rfl) ?_)|apply iB)
  refine ak rfl rfl (by simp [am,lk]) ?_;rfl
theorem oA (l:List ChangeD) (hn:l.length≤1048576):FnEq Tryz.prog 41 [.d (.lst 6 (l.map ChangeD.dat)),.d (.lst 6 (l.map ChangeD.dat))] [.d (.bool true)]:=by
 refine aO aa Tryz.func41 rfl rfl ?_;simp only [Tryz.ntmps41,aR,aM,Nat.reduceAdd,Nat.reduceSub,aW]
 repeat' (first|((with_reducible first|(refine hK _ ?_;clear hK K)|refine aj fun U O=>?_|apply ah|(apply Z<;>(intro hc;try simp at hc;try omega)))<;>try simp only [go_sem,an,bne_self_eq_false])|(with_reducible first|apply ag|(refine O _ ?_;clear O U)|refine kN kE fun K hK=>?_|refine kO fun K hK=>?_|refine aI ?_)|(with_reducible refine az kE aa ax (by kernel_rfl) (fun K hK=>?_))|(with_reducible refine aN aa ax (by kernel_rfl) ?_)|apply iB)
 refine aD [4,5,13,14,15,16,17,18,19,20,21,22,23,24,25] (fun k:Nat=>[(13,.d (.int .i64 (k:Int)))]) (fun k:Nat=>[]) 0 (fun k:Nat=>k≤l.length) (fun k:Nat=>l.length - k) 0 (Nat.zero_le _) (ao [] (by simp [lk,ae]<;>omega)) ?_
 intro k hk
 simp only [bi,wipe,wl,bh,bw,rm,if_true,if_false,Nat.reduceEqDiff,Bool.false_eq_true,reduceCtorEq]
 by_cases hlt:k < l.length
 ·obtain ⟨x,hx⟩:∃ x,l[k]? = some x:=⟨_,List.getElem?_eq_getElem hlt⟩
  repeat' (first|((with_reducible first|(refine hK _ ?_;clear hK K)|refine aj fun U O=>?_|apply ah|(apply Z<;>(intro hc;try simp at hc;try omega)))<;>try simp only [go_sem,an,ap,hx,aq,ChangeD.dat,hlt])|(with_reducible first|apply ag|(refine O _ ?_;clear O U)|refine kN kE fun K hK=>?_|refine kO fun K hK=>?_|refine aI ?_)|(with_reducible refine az kE aa ax (by kernel_rfl) (fun K hK=>?_))|(with_reducible refine aN aa ax (by kernel_rfl) ?_)|apply iB)
  refine uK (ChangeD.dat x) rfl rfl (by simp [ChangeD.dat,D.sc]) rfl rfl (by kernel_rfl) (r9 (by kernel_rfl) (by kernel_rfl) (by kernel_rfl)) ?_
  repeat' (first|((with_reducible first|(refine hK _ ?_;clear hK K)|refine aj fun U O=>?_|apply ah|(apply Z<;>(intro hc;try simp at hc;try omega)))<;>try simp only [go_sem])|(with_reducible first|apply ag|(refine O _ ?_;clear O U)|refine kN kE fun K hK=>?_|refine kO fun K hK=>?_|refine aI ?_)|(with_reducible refine az kE aa ax (by kernel_rfl) (fun K hK=>?_))|(with_reducible refine aN aa ax (by kernel_rfl) ?_)|apply iB)
  exact ⟨k + 1,by omega,by omega,(ao [] (by simp [lk,ae]<;>omega))⟩
 ·repeat' (first|((with_reducible first|(refine hK _ ?_;clear hK K)|refine aj fun U O=>?_|apply ah|(apply Z<;>(intro hc;try simp at hc;try omega)))<;>try simp only [go_sem,hlt])|(with_reducible first|apply ag|(refine O _ ?_;clear O U)|refine kN kE fun K hK=>?_|refine kO fun K hK=>?_|refine aI ?_)|(with_reducible refine az kE aa ax (by kernel_rfl) (fun K hK=>?_))|(with_reducible refine aN aa ax (by kernel_rfl) ?_)|apply iB)
  refine ak rfl rfl (by simp [am,lk]) ?_;rfl
theorem rj (m:MarksD) (hf:MkFit 1048576 m):FnEq Tryz.prog 104 [.agg m.cs,.agg m.cs] [.d (.bool true)]:=by
 have h1:=lj m.grades hf.1.1 hf.1.2
 have h2:=lj m.components hf.2.1 hf.2.2
 refine aO aa Tryz.func104 rfl rfl ?_;simp only [Tryz.ntmps104,aR,aM,Nat.reduceAdd,Nat.reduceSub,aW]
 repeat' (first|((with_reducible first|(refine hK _ ?_;clear hK K)|refine aj fun U O=>?_|apply ah|(apply Z<;>(intro hc;try simp at hc;try omega)))<;>try simp only [go_sem])|(with_reducible first|apply ag|(refine O _ ?_;clear O U)|refine kN x9 fun K hK=>?_|refine kO fun K hK=>?_|refine aI ?_)|(refine xS rfl fun U O=>?_;simp only [go_sem])|((with_reducible apply CallK.eq);(· with_reducible first|exact h1|exact h2);(· simp [RV.flat,D.sc,ab]);try simp only [go_sem])|fail)
 refine ak rfl rfl (by simp [am,lk]) ?_;rfl
theorem k7 (p:PerfD) (hf:PfFit 1048576 p):FnEq Tryz.prog 45 [.agg p.cs,.agg p.cs] [.d (.bool true)]:=by
 have h1:=iO p.items hf.1.1 hf.1.2
 have h2:=rj p.marks hf.2
 refine aO aa Tryz.func45 rfl rfl ?_;simp only [Tryz.ntmps45,aR,aM,Nat.reduceAdd,Nat.reduceSub,aW]
 repeat' (first|((with_reducible first|(refine hK _ ?_;clear hK K)|refine aj fun U O=>?_|apply ah|(apply Z<;>(intro hc;try simp at hc;try omega)))<;>try simp only [go_sem])|(with_reducible first|apply ag|(refine O _ ?_;clear O U)|refine kN xi fun K hK=>?_|refine kO fun K hK=>?_|refine aI ?_)|(refine xS rfl fun U O=>?_;simp only [go_sem])|((with_reducible apply CallK.eq);(· with_reducible first|exact h1|exact h2);(· simp [RV.flat,D.sc,ab]);try simp only [go_sem])|fail)
 refine uK [.int .i64 p.slips.falls,.int .i64 p.slips.seconds,.int .i64 p.slips.other] rfl rfl (by simp [D.sc]) rfl rfl (by kernel_rfl) (r9 (by kernel_rfl) (by kernel_rfl) (by kernel_rfl)) ?_
 repeat' (first|((with_reducible first|(refine hK _ ?_;clear hK K)|refine aj fun U O=>?_|apply ah|(apply Z<;>(intro hc;try simp at hc;try omega)))<;>try simp only [go_sem])|(with_reducible first|apply ag|(refine O _ ?_;clear O U)|refine kN xi fun K hK=>?_|refine kO fun K hK=>?_|refine aI ?_)|(refine xS rfl fun U O=>?_;simp only [go_sem])|fail)
 refine ak rfl rfl (by simp [am,lk]) ?_;rfl
end Go.Proofs.YtphakidbddamfaaGreat
