/-
  FeesLost: the program's function and the reference's, in the abstract machine.
-/
import Derived.Test.YtphakidbddamfaaGreatZAw
import Derived.Test.YtphakidbddamfaaGreatZIu
import Derived.Test.YtphakidbddamfaaGreatZJx
import Derived.Test.YtphakidbddamfaaGreatZJg
set_option linter.unusedSimpArgs false
set_option linter.unusedVariables false
set_option maxHeartbeats 2000000
set_option maxRecDepth 100000
namespace Go.Proofs.YtphakidbddamfaaGreat
open Go.RowKit
def ej (q:List InquiryD):Nat:=q.countP (fun x=>!x.acc)
theorem ol {q:List InquiryD} {k:Nat} {x:InquiryD} (hx:q[k]? = some x) (h:x.acc = false):ej (q.take (k + 1)) = ej (q.take k) + 1:=by
 unfold ej;rw [bJ hx,List.countP_append];simp [h]
theorem pY {q:List InquiryD} {k:Nat} {x:InquiryD} (hx:q[k]? = some x) (h:x.acc = true):ej (q.take (k + 1)) = ej (q.take k):=by
 unfold ej;rw [bJ hx,List.countP_append];simp [h]
theorem lK (q:List InquiryD) (k:Nat):ej (q.take k)≤k:=Nat.le_trans List.countP_le_length (List.length_take_le _ _)
noncomputable abbrev bW (q:List InquiryD) (fee:Int):Option Int:=ix (q.length≤20∧0≤fee∧fee≤10000) (fee * (ej q:Int))
theorem l3 (xs0:List InquiryD) (a1:Int) (hn0:xs0.length≤1048576):FnEq Tryz.prog 51 [.d (.lst 5 (xs0.map InquiryD.dat)),.d (.int .i64 a1)] [.d (.int .i64 ((bW xs0 a1).getD 0)),.d (.bool (bW xs0 a1).isSome)]:=by
 refine aN ae Tryz.func51 rfl rfl ?_;simp only [Tryz.ntmps51,aP,aK,Nat.reduceAdd,Nat.reduceSub,aV]
 generalize hl:xs0 = l
 repeat' (first|((with_reducible first|(apply hK;clear hK K)|refine ah fun U O=>?_|apply ag|(apply Z<;>(intro hc;try simp at hc;try omega)))<;>try simp only [go_sem])|(with_reducible first|apply aj|(apply O;clear O U)|refine kN s9 fun K hK=>?_|refine kO fun K hK=>?_|refine aI ?_)|(refine xS rfl fun U O=>?_;simp only [go_sem])|((with_reducible apply CallK.eq);(· with_reducible first|exact bM _ _ _);(· simp [RV.flat,D.sc,aa]);try simp only [go_sem])|apply iB)
 ·refine ak rfl rfl (by simp [am,lk]) ?_;simp only [bW];rw [bZ (by omega)];rfl
 ·refine aA [4,5,6,8,19,20,21,22,23,24,25,26,27,28] (fun k:Nat=>[(19,.d (.int .i64 (k:Int))),(6,.d (.int .i64 ((ej (l.take k):Int))))]) (fun k:Nat=>[]) 1 (fun k:Nat=>k≤l.length) (fun k:Nat=>l.length - k) 0 (Nat.zero_le _) (an [] (by simp [lk,ab,ej]<;>omega)) ?_
  intro k hk
  have hL:=lK l k
  have hM:a1 * (ej (l.take k):Int)≤10000 * 20:=Int.mul_le_mul (by omega) (by omega) (by omega) (by omega)
  have hM0:0≤a1 * (ej (l.take k):Int):=Int.mul_nonneg (by omega) (by omega)
  simp only [bc,wipe,wl,bb,bx,rm,if_true,if_false,Nat.reduceEqDiff,Bool.false_eq_true,reduceCtorEq]
  by_cases hlt:k < l.length
  ·have hx:=List.getElem?_eq_getElem hlt
   generalize l[k] = x at hx
   cases hacc:x.acc
   ·repeat' (first|((with_reducible first|(apply hK;clear hK K)|refine ah fun U O=>?_|apply ag|(apply Z<;>(intro hc;try simp at hc;try omega)))<;>try simp only [go_sem,ap,hx,ar,InquiryD.dat,hacc])|(with_reducible first|apply aj|(apply O;clear O U)|refine kN s9 fun K hK=>?_|refine kO fun K hK=>?_|refine aI ?_)|(refine xS rfl fun U O=>?_;simp only [go_sem,ap,hx,ar,InquiryD.dat,hacc])|apply iB)
    exact ⟨k + 1,by omega,by omega,(an [] (by simp [lk,ab,ol hx hacc,Int.mul_add]<;>omega))⟩
   ·repeat' (first|((with_reducible first|(apply hK;clear hK K)|refine ah fun U O=>?_|apply ag|(apply Z<;>(intro hc;try simp at hc;try omega)))<;>try simp only [go_sem,ap,hx,ar,InquiryD.dat,hacc])|(with_reducible first|apply aj|(apply O;clear O U)|refine kN s9 fun K hK=>?_|refine kO fun K hK=>?_|refine aI ?_)|(refine xS rfl fun U O=>?_;simp only [go_sem,ap,hx,ar,InquiryD.dat,hacc])|apply iB)
    exact ⟨k + 1,by omega,by omega,(an [] (by simp [lk,ab,pY hx hacc]<;>omega))⟩
  ·have e:l.take k = l:=List.take_of_length_le (by omega)
   rw [e] at hM hM0
   repeat' (first|((with_reducible first|(apply hK;clear hK K)|refine ah fun U O=>?_|apply ag|(apply Z<;>(intro hc;try simp at hc;try omega)))<;>try simp only [go_sem,e])|(with_reducible first|apply aj|(apply O;clear O U)|refine kN s9 fun K hK=>?_|refine kO fun K hK=>?_|refine aI ?_)|(refine xS rfl fun U O=>?_;simp only [go_sem,e])|apply iB)
   refine ak rfl rfl (by simp [am,lk]) ?_;simp only [bW];rw [cy (by omega)];rfl
 ·refine ak rfl rfl (by simp [am,lk]) ?_;simp only [bW];rw [bZ (by omega)];rfl
theorem lB (xs0:List InquiryD) (a1:Int) (hn0:xs0.length≤1048576):FnEq Tryz.prog 52 [.d (.lst 5 (xs0.map InquiryD.dat)),.d (.int .i64 a1)] [.d (.int .i64 ((bW xs0 a1).getD 0)),.d (.bool (bW xs0 a1).isSome)]:=by
 refine aN ae Tryz.func52 rfl rfl ?_;simp only [Tryz.ntmps52,aP,aK,Nat.reduceAdd,Nat.reduceSub,aV]
 generalize hl:xs0 = l
 repeat' (first|((with_reducible first|(apply hK;clear hK K)|refine ah fun U O=>?_|apply ag|(apply Z<;>(intro hc;try simp at hc;try omega)))<;>try simp only [go_sem])|(with_reducible first|apply aj|(apply O;clear O U)|refine kN sq fun K hK=>?_|refine kO fun K hK=>?_|refine aI ?_)|(refine xS rfl fun U O=>?_;simp only [go_sem])|((with_reducible apply CallK.eq);(· with_reducible first|exact ct _ _ _);(· simp [RV.flat,D.sc,aa]);try simp only [go_sem])|apply iB)
 ·refine ak rfl rfl (by simp [am,lk]) ?_;simp only [bW];rw [bZ (by omega)];rfl
 ·refine aA [4,5,6,8,19,20,21,22,23,24,25,26,27,28,29] (fun k:Nat=>[(19,.d (.int .i64 (k:Int))),(6,.d (.int .i64 (a1 * (ej (l.take k):Int))))]) (fun k:Nat=>[]) 1 (fun k:Nat=>k≤l.length) (fun k:Nat=>l.length - k) 0 (Nat.zero_le _) (an [] (by simp [lk,ab,ej]<;>omega)) ?_
  intro k hk
  have hL:=lK l k
  have hM:a1 * (ej (l.take k):Int)≤10000 * 20:=Int.mul_le_mul (by omega) (by omega) (by omega) (by omega)
  have hM0:0≤a1 * (ej (l.take k):Int):=Int.mul_nonneg (by omega) (by omega)
  simp only [bc,wipe,wl,bb,bx,rm,if_true,if_false,Nat.reduceEqDiff,Bool.false_eq_true,reduceCtorEq]
  by_cases hlt:k < l.length
  ·have hx:=List.getElem?_eq_getElem hlt
   generalize l[k] = x at hx
   cases hacc:x.acc
   ·repeat' (first|((with_reducible first|(apply hK;clear hK K)|refine ah fun U O=>?_|apply ag|(apply Z<;>(intro hc;try simp at hc;try omega)))<;>try simp only [go_sem,ap,hx,ar,InquiryD.dat,hacc])|(with_reducible first|apply aj|(apply O;clear O U)|refine kN sq fun K hK=>?_|refine kO fun K hK=>?_|refine aI ?_)|(refine xS rfl fun U O=>?_;simp only [go_sem,ap,hx,ar,InquiryD.dat,hacc])|apply iB)
    exact ⟨k + 1,by omega,by omega,(an [] (by simp [lk,ab,ol hx hacc,Int.mul_add]<;>omega))⟩
   ·repeat' (first|((with_reducible first|(apply hK;clear hK K)|refine ah fun U O=>?_|apply ag|(apply Z<;>(intro hc;try simp at hc;try omega)))<;>try simp only [go_sem,ap,hx,ar,InquiryD.dat,hacc])|(with_reducible first|apply aj|(apply O;clear O U)|refine kN sq fun K hK=>?_|refine kO fun K hK=>?_|refine aI ?_)|(refine xS rfl fun U O=>?_;simp only [go_sem,ap,hx,ar,InquiryD.dat,hacc])|apply iB)
    exact ⟨k + 1,by omega,by omega,(an [] (by simp [lk,ab,pY hx hacc]<;>omega))⟩
  ·have e:l.take k = l:=List.take_of_length_le (by omega)
   rw [e] at hM hM0
   repeat' (first|((with_reducible first|(apply hK;clear hK K)|refine ah fun U O=>?_|apply ag|(apply Z<;>(intro hc;try simp at hc;try omega)))<;>try simp only [go_sem,e])|(with_reducible first|apply aj|(apply O;clear O U)|refine kN sq fun K hK=>?_|refine kO fun K hK=>?_|refine aI ?_)|(refine xS rfl fun U O=>?_;simp only [go_sem,e])|apply iB)
   refine ak rfl rfl (by simp [am,lk]) ?_;simp only [bW];rw [cy (by omega)];rfl
 ·refine ak rfl rfl (by simp [am,lk]) ?_;simp only [bW];rw [bZ (by omega)];rfl
end Go.Proofs.YtphakidbddamfaaGreat
set_option linter.unusedSimpArgs false
set_option linter.unusedVariables false
set_option maxHeartbeats 2000000
set_option maxRecDepth 100000
namespace Go.Proofs.YtphakidbddamfaaGreat
open Go.RowKit
theorem pH (n fid:Nat) (caps:List PV) (p:Nat→Bool) (hn:n≤1048576) (hcap:CapOK caps) (hf:∀ i,i < n→FnEq Tryz.prog fid (.d (.int .i64 (i:Int))::caps) [.d (.bool (p i))]):
  FnEq Tryz.prog 114 [.d (.int .i64 (n:Int)),.fn fid caps] [.row 3 1 ((gY p n).map aa)]:=by
 refine aN ae Tryz.func114 rfl rfl ?_;simp only [Tryz.ntmps114,aP,aK,Nat.reduceAdd,Nat.reduceSub,aV]
 repeat' (first|((with_reducible first|(apply hK;clear hK K)|refine ah fun U O=>?_|apply ag|(apply Z<;>(intro hc;try simp at hc;try omega)))<;>try simp only [go_sem])|(with_reducible first|apply aj|(apply O;clear O U)|refine kN sy fun K hK=>?_|refine kO fun K hK=>?_|refine aI ?_)|apply iB)
 refine aA [4,5,6,9,10,11,12,13,14,15,16,17,18,19] (fun k:Nat=>[(9,.d (.int .i64 (k:Int))),(5,.row 0 (gY p k).length)]) (fun k:Nat=>[(0,.row 3 1 ((gY p k).map aa))]) 1 (fun k:Nat=>k≤n) (fun k:Nat=>n - k) 0 (Nat.zero_le _) (an [] (by simp [lk,ab,lw,hcap.ren,hcap.bd]<;>omega)) ?_
 intro k hk
 have hL:=ng p k
 simp only [bc,wipe,wl,bb,bx,rm,if_true,if_false,Nat.reduceEqDiff,Bool.false_eq_true,reduceCtorEq]
 by_cases hlt:k < n
 ·repeat' (first|((with_reducible first|(apply hK;clear hK K)|refine ah fun U O=>?_|apply ag|(apply Z<;>(intro hc;try simp at hc;try omega)))<;>try simp only [go_sem,hcap.t2])|(with_reducible first|apply aj|(apply O;clear O U)|refine kN sy fun K hK=>?_|refine kO fun K hK=>?_|refine aI ?_)|((with_reducible apply CallK.eq);(· with_reducible first|exact hf k hlt);(· simp [RV.flat,D.sc,aa]);try simp only [go_sem,hcap.t2])|apply iB)
  ·exact ⟨k + 1,by omega,by omega,(an [] (by simp [lk,ab,nc hc,aa,hcap.ren,hcap.bd]<;>omega))⟩
  ·exact ⟨k + 1,by omega,by omega,(an [] (by simp [lk,ab,pF hc,hcap.ren,hcap.bd]<;>omega))⟩
 ·have e:k = n:=by omega
  subst e
  repeat' (first|((with_reducible first|(apply hK;clear hK K)|refine ah fun U O=>?_|apply ag|(apply Z<;>(intro hc;try simp at hc;try omega)))<;>try simp only [go_sem])|(with_reducible first|apply aj|(apply O;clear O U)|refine kN sy fun K hK=>?_|refine kO fun K hK=>?_|refine aI ?_)|apply iB)
  refine ak rfl (by simp only [bj,bn,ab,lk,ao,aK,List.length_append,List.length_take,if_true,if_false,Nat.reduceEqDiff,Nat.reduceBEq,Bool.false_eq_true,Option.some.injEq];rfl) (by simp [am,lk]) ?_;rfl
end Go.Proofs.YtphakidbddamfaaGreat
set_option linter.unusedSimpArgs false
set_option linter.unusedVariables false
set_option maxHeartbeats 2000000
set_option maxRecDepth 100000
namespace Go.Proofs.YtphakidbddamfaaGreat
open Go.RowKit
def fZ (t:Int) (x:InquiryD):Bool:=decide (t < x.tick)
noncomputable abbrev ci (q:List InquiryD) (a b:Int):Option (List Int):=ix (q.length≤20∧0≤a∧a≤100000∧0≤b∧b≤100000) (gY (j7 (fZ (a + b)) q) q.length)
theorem qR (q:List InquiryD) (a b:Int) (i:Nat) (hi:i < q.length) (ha:0≤a) (ha':a≤100000) (hb:0≤b) (hb':b≤100000):
  FnEq Tryz.prog 115 [.d (.int .i64 (i:Int)),.eptr [.lst 5 (q.map InquiryD.dat)],.eptr [.int .i64 a],.eptr [.int .i64 b]] [.d (.bool (j7 (fZ (a + b)) q i))]:=by
 refine aN ae Tryz.func115 rfl rfl ?_;simp only [Tryz.ntmps115,aP,aK,Nat.reduceAdd,Nat.reduceSub,aV]
 have hx:=List.getElem?_eq_getElem hi
 generalize q[i] = x at hx
 repeat' (first|((with_reducible first|(apply hK;clear hK K)|refine ah fun U O=>?_|apply ag|(apply Z<;>(intro hc;try simp at hc;try omega)))<;>try simp only [go_sem,ap,hx,ar,InquiryD.dat])|(with_reducible first|apply aj|(apply O;clear O U)|refine kN v_ fun K hK=>?_|refine kO fun K hK=>?_|refine aI ?_)|(with_reducible refine az v_ ae ay (by kernel_rfl) (fun K hK=>?_))|(with_reducible refine aO ae ay (by kernel_rfl) ?_)|fail)
 refine ak rfl rfl (by simp [am,lk]) ?_;rw [mV hx];rfl
theorem mE (xs0:List InquiryD) (a1:Int) (a2:Int) (hn0:xs0.length≤1048576):FnEq Tryz.prog 54 [.d (.lst 5 (xs0.map InquiryD.dat)),.d (.int .i64 a1),.d (.int .i64 a2)] [.row 3 1 (((ci xs0 a1 a2).getD []).map aa),.d (.bool (ci xs0 a1 a2).isSome)]:=by
 refine aN ae Tryz.func54 rfl rfl ?_;simp only [Tryz.ntmps54,aP,aK,Nat.reduceAdd,Nat.reduceSub,aV]
 repeat' (first|((with_reducible first|(apply hK;clear hK K)|refine ah fun U O=>?_|apply ag|(apply Z<;>(intro hc;try simp at hc;try omega)))<;>try simp only [go_sem])|(with_reducible first|apply aj|(apply O;clear O U)|refine kN yQ fun K hK=>?_|refine kO fun K hK=>?_|refine aI ?_)|(refine xS rfl fun U O=>?_;simp only [go_sem])|((with_reducible apply CallK.eq);(· with_reducible first|exact fG _|exact pH xs0.length _ _ (j7 (fZ (a1 + a2)) xs0) (by omega) (vA _ _ _) (fun i hi=>qR xs0 a1 a2 i hi (by omega) (by omega) (by omega) (by omega)));(· simp [RV.flat,D.sc,aa]);try simp only [go_sem])|fail)
 all_goals first
  |(refine ak rfl (by simp only [bj,bn,ab,lk,ao,aK,List.length_append,List.length_take,if_true,if_false,Nat.reduceEqDiff,Nat.reduceBEq,Bool.false_eq_true,Option.some.injEq];rfl) (by simp [am,lk]) ?_;simp only [ci];rw [bZ (fun h=>by omega)];rfl)
  |(refine ak rfl (by simp only [bj,bn,ab,lk,ao,aK,List.length_append,List.length_take,if_true,if_false,Nat.reduceEqDiff,Nat.reduceBEq,Bool.false_eq_true,Option.some.injEq];rfl) (by simp [am,lk]) ?_;simp only [ci];rw [cy ⟨by omega,by omega,by omega,by omega,by omega⟩];rfl)
theorem mg (xs0:List InquiryD) (a1:Int) (a2:Int) (hn0:xs0.length≤1048576):FnEq Tryz.prog 55 [.d (.lst 5 (xs0.map InquiryD.dat)),.d (.int .i64 a1),.d (.int .i64 a2)] [.row 3 1 (((ci xs0 a1 a2).getD []).map aa),.d (.bool (ci xs0 a1 a2).isSome)]:=by
 refine aN ae Tryz.func55 rfl rfl ?_;simp only [Tryz.ntmps55,aP,aK,Nat.reduceAdd,Nat.reduceSub,aV]
 repeat' (first|((with_reducible first|(apply hK;clear hK K)|refine ah fun U O=>?_|apply ag|(apply Z<;>(intro hc;try simp at hc;try omega)))<;>try simp only [go_sem])|(with_reducible first|apply aj|(apply O;clear O U)|refine kN vq fun K hK=>?_|refine kO fun K hK=>?_|refine aI ?_)|(refine xS rfl fun U O=>?_;simp only [go_sem])|((with_reducible apply CallK.eq);(· with_reducible first|exact ct _ _ _);(· simp [RV.flat,D.sc,aa]);try simp only [go_sem])|apply iB)
 ·refine ak rfl (by simp only [bj,bn,ab,lk,ao,aK,List.length_append,List.length_take,if_true,if_false,Nat.reduceEqDiff,Nat.reduceBEq,Bool.false_eq_true,Option.some.injEq];rfl) (by simp [am,lk]) ?_;simp only [ci];rw [bZ (fun h=>by omega)];rfl
 ·refine aA [6,7,8,9,10,26,27,28,29,30,31,32,33,34,35,36,37,38,39,40,41] (fun k:Nat=>[(26,.d (.int .i64 (k:Int))),(8,.row 0 (gY (j7 (fZ (a1 + a2)) xs0) k).length)]) (fun k:Nat=>[(0,.row 3 1 ((gY (j7 (fZ (a1 + a2)) xs0) k).map aa))]) 1 (fun k:Nat=>k≤xs0.length) (fun k:Nat=>xs0.length - k) 0 (Nat.zero_le _) (an [] (by simp [lk,ab,lw]<;>omega)) ?_
  intro k hk
  have hL:=ng (j7 (fZ (a1 + a2)) xs0) k
  simp only [bc,wipe,wl,bb,bx,rm,if_true,if_false,Nat.reduceEqDiff,Bool.false_eq_true,reduceCtorEq]
  by_cases hlt:k < xs0.length
  ·have hx:=List.getElem?_eq_getElem hlt
   generalize xs0[k] = x at hx
   repeat' (first|((with_reducible first|(apply hK;clear hK K)|refine ah fun U O=>?_|apply ag|(apply Z<;>(intro hc;try simp at hc;try omega)))<;>try simp only [go_sem,ap,hx,ar,InquiryD.dat])|(with_reducible first|apply aj|(apply O;clear O U)|refine kN vq fun K hK=>?_|refine kO fun K hK=>?_|refine aI ?_)|(refine xS rfl fun U O=>?_;simp only [go_sem,ap,hx,ar,InquiryD.dat])|apply iB)
   ·exact ⟨k + 1,by omega,by omega,(an [] (by simp [lk,ab,nc (show j7 (fZ (a1 + a2)) xs0 k = true by rw [mV hx];simpa [fZ] using hc),aa]<;>omega))⟩
   ·exact ⟨k + 1,by omega,by omega,(an [] (by simp [lk,ab,pF (show j7 (fZ (a1 + a2)) xs0 k = false by rw [mV hx];simpa [fZ] using hc)]<;>omega))⟩
  ·have e:k = xs0.length:=by omega
   subst e
   repeat' (first|((with_reducible first|(apply hK;clear hK K)|refine ah fun U O=>?_|apply ag|(apply Z<;>(intro hc;try simp at hc;try omega)))<;>try simp only [go_sem])|(with_reducible first|apply aj|(apply O;clear O U)|refine kN vq fun K hK=>?_|refine kO fun K hK=>?_|refine aI ?_)|(refine xS rfl fun U O=>?_;simp only [go_sem])|apply iB)
   refine ak rfl (by simp only [bj,bn,ab,lk,ao,aK,List.length_append,List.length_take,if_true,if_false,Nat.reduceEqDiff,Nat.reduceBEq,Bool.false_eq_true,Option.some.injEq];rfl) (by simp [am,lk]) ?_;simp only [ci];rw [cy ⟨by omega,by omega,by omega,by omega,by omega⟩];rfl
 ·refine ak rfl (by simp only [bj,bn,ab,lk,ao,aK,List.length_append,List.length_take,if_true,if_false,Nat.reduceEqDiff,Nat.reduceBEq,Bool.false_eq_true,Option.some.injEq];rfl) (by simp [am,lk]) ?_;simp only [ci];rw [bZ (fun h=>by omega)];rfl
 ·refine ak rfl (by simp only [bj,bn,ab,lk,ao,aK,List.length_append,List.length_take,if_true,if_false,Nat.reduceEqDiff,Nat.reduceBEq,Bool.false_eq_true,Option.some.injEq];rfl) (by simp [am,lk]) ?_;simp only [ci];rw [bZ (fun h=>by omega)];rfl
end Go.Proofs.YtphakidbddamfaaGreat
namespace Go.Proofs.YtphakidbddamfaaGreat
open Go.RowKit
theorem lD (c:CodeD) (a b:PerfD) (f:Int) (hcf:CdFit 1048576 c) (haf:PfFit 1048576 a) (hbf:PfFit 1048576 b):FnEq Tryz.prog 26 [.agg c.cs,.agg a.cs,.agg b.cs,.d (.int .i64 f)] [.d (.lst 1 (((bp c a b f).getD []).map (ax 1 aa))),.d (.bool (bp c a b f).isSome)]:=by
 by_cases hA:bO c a f∧bO c b f
 ·rw [show bp c a b f = _ from cy hA]
  exact dS (lN c a b f hcf haf hbf hA)
 ·rw [show bp c a b f = _ from bZ hA]
  exact dS (mZ c a b f hcf haf hbf hA)
theorem me (c:CodeD) (a b:PerfD) (f:Int) (hcf:CdFit 1048576 c) (haf:PfFit 1048576 a) (hbf:PfFit 1048576 b):FnEq Tryz.prog 25 [.agg c.cs,.agg a.cs,.agg b.cs,.d (.int .i64 f)] [.d (.lst 1 (((bp c a b f).getD []).map (ax 1 aa))),.d (.bool (bp c a b f).isSome)]:=by
 by_cases hA:bO c a f∧bO c b f
 ·rw [show bp c a b f = _ from cy hA]
  exact dS (lQ c a b f hcf haf hbf hA)
 ·rw [show bp c a b f = _ from bZ hA]
  exact dS (mO c a b f hcf haf hbf hA)
theorem tA (c:CodeD) (p:PerfD) (f:Int):(bg c p f).isSome = true→∃ t,bm c p f ⟨0,((bg c p f).getD (0,0,0)).1,((bg c p f).getD (0,0,0)).2.1,((bg c p f).getD (0,0,0)).2.2,false⟩ = some t∧0 < t:=by
 intro h
 cases e:bg c p f with
 |none=>rw [e] at h;cases h
 |some r=>exact t8 e
theorem s4 (c:CodeD) (p:PerfD) (f:Int) (x:InquiryD):(bm c p f x).isSome = true→0 < (bm c p f x).getD 0→(bg c p f).isSome = true∧∃ t,bm c p f ⟨0,((bg c p f).getD (0,0,0)).1,((bg c p f).getD (0,0,0)).2.1,((bg c p f).getD (0,0,0)).2.2,false⟩ = some t∧(bm c p f x).getD 0≤t:=by
 intro h hg
 cases e:bm c p f x with
 |none=>rw [e] at h;cases h
 |some g=>
  rw [e] at hg
  obtain ⟨r,h1,t,h2,h3⟩:=u7 e hg
  rw [h1]
  exact ⟨rfl,t,h2,h3⟩
theorem ue (c:CodeD) (a b:PerfD) (f:Int):((bp c a b f).getD []).length≤168∧(∀ x ∈ (bp c a b f).getD [],x.length = 3)∧((bp c a b f).isSome = true→(bO c a f∧bO c b f)∧∀ x ∈ (bp c a b f).getD [],x.length = 3∧∃ t,bm c a f ⟨0,x.getD 0 0,x.getD 1 0,x.getD 2 0,false⟩ = some t∧bF c b f < bF c a f + t∧bF c a f + t≤400000000):=by
 cases e:bp c a b f with
 |none=>exact ⟨by simp,by simp,fun h=>by cases h⟩
 |some W=>
  obtain ⟨h1,h2,h3⟩:=vm e
  exact ⟨h2,fun x hx=>(h3 x hx).1,fun _=>⟨h1,h3⟩⟩
theorem sK (q:List InquiryD) (fee:Int):(bW q fee).isSome = true→q.length≤20∧(0≤fee∧fee≤10000)∧0≤(bW q fee).getD 0∧(bW q fee).getD 0≤fee * (q.length:Int):=by
 intro h
 by_cases hA:q.length≤20∧0≤fee∧fee≤10000
 ·rw [show bW q fee = _ from cy hA]
  have h1:=lK q q.length
  rw [List.take_length] at h1
  exact ⟨hA.1,hA.2,Int.mul_nonneg hA.2.1 (by omega),Int.mul_le_mul_of_nonneg_left (by omega) hA.2.1⟩
 ·rw [show bW q fee = _ from bZ hA] at h
  cases h
theorem rR {p:Nat→Bool} {y:Int}:∀ {m:Nat},y ∈ gY p m↔∃ i < m,y = (i:Int)∧p i = true
 |0=>by simp [lw]
 |m + 1=>by
  have ih:=@rR p y m
  cases h:p m with
  |true=>
   rw [nc h,List.mem_append,List.mem_singleton,ih]
   constructor
   ·rintro (⟨i,h1,h2⟩|h1)
    ·exact ⟨i,by omega,h2⟩
    ·exact ⟨m,by omega,h1,h⟩
   ·rintro ⟨i,h1,h2,h3⟩
    by_cases e:i = m
    ·exact .inr (by rw [h2,e])
    ·exact .inl ⟨i,by omega,h2,h3⟩
  |false=>
   rw [pF h,ih]
   constructor
   ·rintro ⟨i,h1,h2⟩
    exact ⟨i,by omega,h2⟩
   ·rintro ⟨i,h1,h2,h3⟩
    have:i≠m:=fun e=>by rw [e,h] at h3;cases h3
    exact ⟨i,by omega,h2,h3⟩
theorem sQ (q:List InquiryD) (a b:Int):((ci q a b).getD []).length≤20∧((ci q a b).isSome = true→(0≤a∧a≤100000∧0≤b∧b≤100000)∧∀ (i:Nat) (y:InquiryD),q[i]? = some y→bP ((i:Int) ∈ (ci q a b).getD []) = decide (a + b < y.tick)):=by
 by_cases hA:q.length≤20∧0≤a∧a≤100000∧0≤b∧b≤100000
 ·rw [show ci q a b = _ from cy hA]
  refine ⟨Nat.le_trans (ng _ _) hA.1,fun _=>⟨hA.2,fun i y hy=>?_⟩⟩
  have hi:=(List.getElem?_eq_some_iff.1 hy).1
  have he:j7 (fZ (a + b)) q i = decide (a + b < y.tick):=by rw [mV hy];rfl
  rw [←he,Bool.eq_iff_iff,dw]
  show (i:Int) ∈ gY _ _↔_
  rw [rR]
  constructor
  ·rintro ⟨j,h1,h2,h3⟩
   have:i = j:=by omega
   rw [this];exact h3
  ·intro h
   exact ⟨i,hi,rfl,h⟩
 ·rw [show ci q a b = _ from bZ hA]
  exact ⟨by simp,fun h=>by cases h⟩
end Go.Proofs.YtphakidbddamfaaGreat
set_option linter.unusedSimpArgs false
set_option linter.unusedVariables false
set_option maxHeartbeats 2000000
set_option maxRecDepth 100000
namespace Go.Proofs.YtphakidbddamfaaGreat
open Go.RowKit
theorem qp (xs ys:List Int) (hn:xs.length≤1048576) (hn':ys.length≤1048576):FnEq Tryz.prog 57 [.d (.lst 1 (xs.map aa)),.d (.lst 1 (ys.map aa))] [.d (.bool (bP (xs = ys)))]:=by
 refine aN ae Tryz.func57 rfl rfl ?_;simp only [Tryz.ntmps57,aP,aK,Nat.reduceAdd,Nat.reduceSub,aV]
 repeat' (first|((with_reducible first|(apply hK;clear hK K)|refine ah fun U O=>?_|apply ag|(apply Z<;>(intro hc;try simp at hc;try omega)))<;>try simp only [go_sem])|(with_reducible first|apply aj|(apply O;clear O U)|refine kN nD fun K hK=>?_|refine kO fun K hK=>?_|refine aI ?_)|(with_reducible refine az nD ae ay (by kernel_rfl) (fun K hK=>?_))|(with_reducible refine aO ae ay (by kernel_rfl) ?_)|apply iB)
 ·refine ak rfl rfl (by simp [am,lk]) ?_;rw [aL fun h=>absurd (congrArg List.length h) (by omega)]
 ·refine aA [4,5,13,14,15,16,17,18,19,20,21,22,23,24,25] (fun k:Nat=>[(13,.d (.int .i64 (k:Int)))]) (fun k:Nat=>[]) 0 (fun k:Nat=>k≤xs.length∧xs.take k = ys.take k) (fun k:Nat=>xs.length - k) 0 ⟨Nat.zero_le _,by simp⟩ (an [] (by simp [lk,ab]<;>omega)) ?_
  rintro k ⟨hk,hJ⟩
  simp only [bc,wipe,wl,bb,bx,rm,if_true,if_false,Nat.reduceEqDiff,Bool.false_eq_true,reduceCtorEq]
  by_cases hlt:k < xs.length
  ·have hx:=List.getElem?_eq_getElem hlt
   generalize xs[k] = x at hx
   have hy:=List.getElem?_eq_getElem (show k < ys.length by omega)
   generalize ys[k] = y at hy
   repeat' (first|((with_reducible first|(apply hK;clear hK K)|refine ah fun U O=>?_|apply ag|(apply Z<;>(intro hc;try simp at hc;try omega)))<;>try simp only [go_sem,ap,hx,hy,ar,aa])|(with_reducible first|apply aj|(apply O;clear O U)|refine kN nD fun K hK=>?_|refine kO fun K hK=>?_|refine aI ?_)|(with_reducible refine az nD ae ay (by kernel_rfl) (fun K hK=>?_))|(with_reducible refine aO ae ay (by kernel_rfl) ?_)|apply iB)
   ·refine ak rfl rfl (by simp [am,lk]) ?_;rw [aL fun h=>by rw [h,hy] at hx;exact absurd (Option.some.inj hx).symm (by assumption)]
   ·exact ⟨k + 1,⟨by omega,by rw [bJ hx,bJ hy,hJ,hc]⟩,by omega,(an [] (by simp [lk,ab]<;>omega))⟩
  ·repeat' (first|((with_reducible first|(apply hK;clear hK K)|refine ah fun U O=>?_|apply ag|(apply Z<;>(intro hc;try simp at hc;try omega)))<;>try simp only [go_sem])|(with_reducible first|apply aj|(apply O;clear O U)|refine kN nD fun K hK=>?_|refine kO fun K hK=>?_|refine aI ?_)|(with_reducible refine az nD ae ay (by kernel_rfl) (fun K hK=>?_))|(with_reducible refine aO ae ay (by kernel_rfl) ?_)|apply iB)
   refine ak rfl rfl (by simp [am,lk]) ?_;rw [aW (by rwa [List.take_of_length_le (by omega),List.take_of_length_le (by omega)] at hJ)]
theorem w_ (xs:List Int) (n:Int) (hn:xs.length≤1048576):FnEq Tryz.prog 58 [.d (.lst 1 (xs.map aa)),.d (.int .i64 n)] [.d (.bool (bP (n ∈ xs)))]:=by
 refine aN ae Tryz.func58 rfl rfl ?_;simp only [Tryz.ntmps58,aP,aK,Nat.reduceAdd,Nat.reduceSub,aV]
 repeat' (first|((with_reducible first|(apply hK;clear hK K)|refine ah fun U O=>?_|apply ag|(apply Z<;>(intro hc;try simp at hc;try omega)))<;>try simp only [go_sem])|(with_reducible first|apply aj|(apply O;clear O U)|refine kN vf fun K hK=>?_|refine kO fun K hK=>?_|refine aI ?_)|apply iB)
 refine aA [4,6,9,10,11,12,13,14,15,16] (fun k:Nat=>[(9,.d (.int .i64 (k:Int)))]) (fun k:Nat=>[]) 0 (fun k:Nat=>k≤xs.length∧n ∉ xs.take k) (fun k:Nat=>xs.length - k) 0 ⟨Nat.zero_le _,by simp⟩ (an [] (by simp [lk,ab]<;>omega)) ?_
 rintro k ⟨hk,hJ⟩
 simp only [bc,wipe,wl,bb,bx,rm,if_true,if_false,Nat.reduceEqDiff,Bool.false_eq_true,reduceCtorEq]
 by_cases hlt:k < xs.length
 ·have hx:=List.getElem?_eq_getElem hlt
  generalize xs[k] = x at hx
  repeat' (first|((with_reducible first|(apply hK;clear hK K)|refine ah fun U O=>?_|apply ag|(apply Z<;>(intro hc;try simp at hc;try omega)))<;>try simp only [go_sem,ap,hx,ar,aa])|(with_reducible first|apply aj|(apply O;clear O U)|refine kN vf fun K hK=>?_|refine kO fun K hK=>?_|refine aI ?_)|apply iB)
  ·refine ak rfl rfl (by simp [am,lk]) ?_;subst hc;rw [aW (List.mem_of_getElem? hx)]
  ·exact ⟨k + 1,⟨by omega,by rw [bJ hx];simp [hJ];exact fun h=>hc h.symm⟩,by omega,(an [] (by simp [lk,ab]<;>omega))⟩
 ·rw [List.take_of_length_le (by omega)] at hJ
  repeat' (first|((with_reducible first|(apply hK;clear hK K)|refine ah fun U O=>?_|apply ag|(apply Z<;>(intro hc;try simp at hc;try omega)))<;>try simp only [go_sem])|(with_reducible first|apply aj|(apply O;clear O U)|refine kN vf fun K hK=>?_|refine kO fun K hK=>?_|refine aI ?_)|apply iB)
  refine ak rfl rfl (by simp [am,lk]) ?_;rw [aL hJ]
end Go.Proofs.YtphakidbddamfaaGreat
