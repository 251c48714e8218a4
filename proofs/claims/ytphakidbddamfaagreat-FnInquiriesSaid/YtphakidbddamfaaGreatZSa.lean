/-
  Numbers rounded and added: the program's functions and the reference's, in the abstract machine.
-/
import Derived.Test.YtphakidbddamfaaGreatZIu
set_option linter.unusedSimpArgs false
set_option linter.unusedVariables false
set_option maxHeartbeats 2000000
set_option maxRecDepth 100000
namespace Go.Proofs.YtphakidbddamfaaGreat
open Go.RowKit
theorem cO {A:Int} {xs:List Int} (hA:A≤1000000000) (h0:0≤A) (h:∀ x ∈ xs,-A≤x∧x≤A) (hn:xs.length≤1048576) (k:Nat):-1048576000000000≤(xs.take k).sum∧(xs.take k).sum≤1048576000000000:=by
 have h1:=jr (l:=xs.take k) fun x hx=>h x (List.mem_of_mem_take hx)
 have h2:(xs.take k).length≤1048576:=by simp;omega
 have h3:=fN (a:=A) (b:=((xs.take k).length:Int)) (A:=1000000000) (B:=1048576) h0 hA (by omega) (by omega)
 omega
theorem qW (a b:Int) (h1:-1000000000000≤a) (h2:a≤1000000000000) (hb:0 < b):FnEq Tryz.prog 218 [.d (.int .i64 a),.d (.int .i64 b)] [.d (.int .i64 (nQ a b))]:=by
 have hq:=dZ a b 1000000000000 h1 h2
 have hm:=nh (b:=b) h1 h2
 have e:nQ a b = if a.tmod b < 0 then a.tdiv b - 1 else a.tdiv b:=rfl
 refine aN ae Tryz.func218 rfl rfl ?_;simp only [Tryz.ntmps218,aP,aK,Nat.reduceAdd,Nat.reduceSub,aV]
 by_cases hneg:a.tmod b < 0
 ·rw [if_pos hneg] at e
  generalize hq0:a.tdiv b = q at hq e
  generalize hm0:a.tmod b = m at hm hneg
  repeat' (first|((with_reducible first|(apply hK;clear hK K)|refine ah fun U O=>?_|apply ag|(apply Z<;>(intro hc;try simp at hc;try omega)))<;>try simp only [go_sem,hq0,hm0])|(with_reducible first|apply aj|(apply O;clear O U)|refine kN wa fun K hK=>?_|refine kO fun K hK=>?_|refine aI ?_)|fail)
  all_goals first
   |(exfalso;omega)
   |(refine ak rfl rfl (by simp [am,lk]) ?_;rw [e])
 ·rw [if_neg hneg] at e
  generalize hq0:a.tdiv b = q at hq e
  generalize hm0:a.tmod b = m at hm hneg
  repeat' (first|((with_reducible first|(apply hK;clear hK K)|refine ah fun U O=>?_|apply ag|(apply Z<;>(intro hc;try simp at hc;try omega)))<;>try simp only [go_sem,hq0,hm0])|(with_reducible first|apply aj|(apply O;clear O U)|refine kN wa fun K hK=>?_|refine kO fun K hK=>?_|refine aI ?_)|fail)
  all_goals first
   |(exfalso;omega)
   |(refine ak rfl rfl (by simp [am,lk]) ?_;rw [e])
theorem uS (a b:Int) (h1:-1000000000000≤a) (h2:a≤1000000000000) (hb:0 < b):FnEq Tryz.prog 215 [.d (.int .i64 a),.d (.int .i64 b)] [.d (.int .i64 (nQ a b))]:=by
 have hq:=dZ a b 1000000000000 h1 h2
 have hm:=nh (b:=b) h1 h2
 have e:nQ a b = if a.tmod b < 0 then a.tdiv b - 1 else a.tdiv b:=rfl
 refine aN ae Tryz.func215 rfl rfl ?_;simp only [Tryz.ntmps215,aP,aK,Nat.reduceAdd,Nat.reduceSub,aV]
 by_cases hneg:a.tmod b < 0
 ·rw [if_pos hneg] at e
  generalize hq0:a.tdiv b = q at hq e
  generalize hm0:a.tmod b = m at hm hneg
  repeat' (first|((with_reducible first|(apply hK;clear hK K)|refine ah fun U O=>?_|apply ag|(apply Z<;>(intro hc;try simp at hc;try omega)))<;>try simp only [go_sem,hq0,hm0])|(with_reducible first|apply aj|(apply O;clear O U)|refine kN v4 fun K hK=>?_|refine kO fun K hK=>?_|refine aI ?_)|fail)
  all_goals first
   |(exfalso;omega)
   |(refine ak rfl rfl (by simp [am,lk]) ?_;rw [e])
 ·rw [if_neg hneg] at e
  generalize hq0:a.tdiv b = q at hq e
  generalize hm0:a.tmod b = m at hm hneg
  repeat' (first|((with_reducible first|(apply hK;clear hK K)|refine ah fun U O=>?_|apply ag|(apply Z<;>(intro hc;try simp at hc;try omega)))<;>try simp only [go_sem,hq0,hm0])|(with_reducible first|apply aj|(apply O;clear O U)|refine kN v4 fun K hK=>?_|refine kO fun K hK=>?_|refine aI ?_)|fail)
  all_goals first
   |(exfalso;omega)
   |(refine ak rfl rfl (by simp [am,lk]) ?_;rw [e])
theorem gz (a b:Int) (h1:-100000000000≤a) (h2:a≤100000000000) (hb:0 < b) (hb2:b≤1000000):FnEq Tryz.prog 192 [.d (.int .i64 a),.d (.int .i64 b)] [.d (.int .i64 (dT a b))]:=by
 refine aN ae Tryz.func192 rfl rfl ?_;simp only [Tryz.ntmps192,aP,aK,Nat.reduceAdd,Nat.reduceSub,aV]
 repeat' (first|((with_reducible first|(apply hK;clear hK K)|refine ah fun U O=>?_|apply ag|(apply Z<;>(intro hc;try simp at hc;try omega)))<;>try simp only [go_sem])|(with_reducible first|apply aj|(apply O;clear O U)|refine kN yf fun K hK=>?_|refine kO fun K hK=>?_|refine aI ?_)|((with_reducible apply CallK.eq);(· with_reducible first|exact qW (2 * a + b) (2 * b) (by omega) (by omega) (by omega));(· simp [RV.flat,D.sc,aa]);try simp only [go_sem])|fail)
 all_goals first
  |(exfalso;omega)
  |(refine ak rfl rfl (by simp [am,lk]) ?_;rfl)
theorem ig (a b:Int) (h1:-100000000000≤a) (h2:a≤100000000000) (hb:0 < b) (hb2:b≤1000000):FnEq Tryz.prog 187 [.d (.int .i64 a),.d (.int .i64 b)] [.d (.int .i64 (dT a b))]:=by
 refine aN ae Tryz.func187 rfl rfl ?_;simp only [Tryz.ntmps187,aP,aK,Nat.reduceAdd,Nat.reduceSub,aV]
 repeat' (first|((with_reducible first|(apply hK;clear hK K)|refine ah fun U O=>?_|apply ag|(apply Z<;>(intro hc;try simp at hc;try omega)))<;>try simp only [go_sem])|(with_reducible first|apply aj|(apply O;clear O U)|refine kN yo fun K hK=>?_|refine kO fun K hK=>?_|refine aI ?_)|((with_reducible apply CallK.eq);(· with_reducible first|exact uS (2 * a + b) (2 * b) (by omega) (by omega) (by omega));(· simp [RV.flat,D.sc,aa]);try simp only [go_sem])|fail)
 all_goals first
  |(exfalso;omega)
  |(refine ak rfl rfl (by simp [am,lk]) ?_;rfl)
theorem il (xs:List Int) (A:Int) (hA:A≤1000000000) (h0:0≤A) (h:∀ x ∈ xs,-A≤x∧x≤A) (hn:xs.length≤1048576):FnEq Tryz.prog 165 [.d (.lst 1 (xs.map aa))] [.d (.int .i64 xs.sum)]:=by
 refine aN ae Tryz.func165 rfl rfl ?_;simp only [Tryz.ntmps165,aP,aK,Nat.reduceAdd,Nat.reduceSub,aV]
 repeat' (first|((with_reducible first|(apply hK;clear hK K)|refine ah fun U O=>?_|apply ag|(apply Z<;>(intro hc;try simp at hc;try omega)))<;>try simp only [go_sem])|(with_reducible first|apply aj|(apply O;clear O U)|refine kN tJ fun K hK=>?_|refine kO fun K hK=>?_|refine aI ?_)|apply iB)
 refine aA [2,3,5,8,9,10,11,12,13,14,15] (fun k:Nat=>[(8,.d (.int .i64 (k:Int))),(3,.d (.int .i64 (xs.take k).sum))]) (fun k:Nat=>[]) 0 (fun k:Nat=>k≤xs.length) (fun k:Nat=>xs.length - k) 0 (Nat.zero_le _) (an [] (by simp [lk,ab,List.take_zero,List.sum_nil]<;>omega)) ?_
 intro k hk
 have hb1:=cO hA h0 h hn k
 have hb2:=cO hA h0 h hn (k + 1)
 simp only [bc,wipe,wl,bb,bx,rm,if_true,if_false,Nat.reduceEqDiff,Bool.false_eq_true,reduceCtorEq]
 by_cases hlt:k < xs.length
 ·have hx:=List.getElem?_eq_getElem hlt
  generalize xs[k] = x at hx
  have hs:=gf hx
  repeat' (first|((with_reducible first|(apply hK;clear hK K)|refine ah fun U O=>?_|apply ag|(apply Z<;>(intro hc;try simp at hc;try omega)))<;>try simp only [go_sem,ap,hx,ar,aa])|(with_reducible first|apply aj|(apply O;clear O U)|refine kN tJ fun K hK=>?_|refine kO fun K hK=>?_|refine aI ?_)|apply iB)
  all_goals first
   |(exfalso;omega)
   |exact ⟨k + 1,by omega,by omega,(an [] (by simp [lk,ab,hs]<;>omega))⟩
 ·have e:xs.take k = xs:=List.take_of_length_le (by omega)
  rw [e]
  repeat' (first|((with_reducible first|(apply hK;clear hK K)|refine ah fun U O=>?_|apply ag|(apply Z<;>(intro hc;try simp at hc;try omega)))<;>try simp only [go_sem])|(with_reducible first|apply aj|(apply O;clear O U)|refine kN tJ fun K hK=>?_|refine kO fun K hK=>?_|refine aI ?_)|apply iB)
  all_goals first
   |(exfalso;omega)
   |(refine ak rfl rfl (by simp [am,lk]) ?_;rfl)
theorem mb (xs:List Int) (A:Int) (hA:A≤1000000000) (h0:0≤A) (h:∀ x ∈ xs,-A≤x∧x≤A) (hn:xs.length≤1048576):FnEq Tryz.prog 185 [.d (.lst 1 (xs.map aa))] [.d (.int .i64 xs.sum)]:=by
 refine aN ae Tryz.func185 rfl rfl ?_;simp only [Tryz.ntmps185,aP,aK,Nat.reduceAdd,Nat.reduceSub,aV]
 repeat' (first|((with_reducible first|(apply hK;clear hK K)|refine ah fun U O=>?_|apply ag|(apply Z<;>(intro hc;try simp at hc;try omega)))<;>try simp only [go_sem])|(with_reducible first|apply aj|(apply O;clear O U)|refine kN s_ fun K hK=>?_|refine kO fun K hK=>?_|refine aI ?_)|apply iB)
 refine aA [2,3,5,8,9,10,11,12,13,14,15] (fun k:Nat=>[(8,.d (.int .i64 (k:Int))),(3,.d (.int .i64 (xs.take k).sum))]) (fun k:Nat=>[]) 0 (fun k:Nat=>k≤xs.length) (fun k:Nat=>xs.length - k) 0 (Nat.zero_le _) (an [] (by simp [lk,ab,List.take_zero,List.sum_nil]<;>omega)) ?_
 intro k hk
 have hb1:=cO hA h0 h hn k
 have hb2:=cO hA h0 h hn (k + 1)
 simp only [bc,wipe,wl,bb,bx,rm,if_true,if_false,Nat.reduceEqDiff,Bool.false_eq_true,reduceCtorEq]
 by_cases hlt:k < xs.length
 ·have hx:=List.getElem?_eq_getElem hlt
  generalize xs[k] = x at hx
  have hs:=gf hx
  repeat' (first|((with_reducible first|(apply hK;clear hK K)|refine ah fun U O=>?_|apply ag|(apply Z<;>(intro hc;try simp at hc;try omega)))<;>try simp only [go_sem,ap,hx,ar,aa])|(with_reducible first|apply aj|(apply O;clear O U)|refine kN s_ fun K hK=>?_|refine kO fun K hK=>?_|refine aI ?_)|apply iB)
  all_goals first
   |(exfalso;omega)
   |exact ⟨k + 1,by omega,by omega,(an [] (by simp [lk,ab,hs]<;>omega))⟩
 ·have e:xs.take k = xs:=List.take_of_length_le (by omega)
  rw [e]
  repeat' (first|((with_reducible first|(apply hK;clear hK K)|refine ah fun U O=>?_|apply ag|(apply Z<;>(intro hc;try simp at hc;try omega)))<;>try simp only [go_sem])|(with_reducible first|apply aj|(apply O;clear O U)|refine kN s_ fun K hK=>?_|refine kO fun K hK=>?_|refine aI ?_)|apply iB)
  all_goals first
   |(exfalso;omega)
   |(refine ak rfl rfl (by simp [am,lk]) ?_;rfl)
theorem gC (a b:Int):FnEq Tryz.prog 161 [.d (.int .i64 a),.d (.int .i64 b)] [.d (.int .i64 (max a b))]:=by
 refine aN ae Tryz.func161 rfl rfl ?_;simp only [Tryz.ntmps161,aP,aK,Nat.reduceAdd,Nat.reduceSub,aV]
 repeat' (first|((with_reducible first|(apply hK;clear hK K)|refine ah fun U O=>?_|apply ag|(apply Z<;>(intro hc;try simp at hc;try omega)))<;>try simp only [go_sem])|(with_reducible first|apply aj|(apply O;clear O U)|refine kN yw fun K hK=>?_|refine kO fun K hK=>?_|refine aI ?_)|fail)
 all_goals (refine ak rfl rfl (by simp [am,lk]) ?_;congr 3;omega)
theorem ea (a b:Int):FnEq Tryz.prog 175 [.d (.int .i64 a),.d (.int .i64 b)] [.d (.int .i64 (min a b))]:=by
 refine aN ae Tryz.func175 rfl rfl ?_;simp only [Tryz.ntmps175,aP,aK,Nat.reduceAdd,Nat.reduceSub,aV]
 repeat' (first|((with_reducible first|(apply hK;clear hK K)|refine ah fun U O=>?_|apply ag|(apply Z<;>(intro hc;try simp at hc;try omega)))<;>try simp only [go_sem])|(with_reducible first|apply aj|(apply O;clear O U)|refine kN yc fun K hK=>?_|refine kO fun K hK=>?_|refine aI ?_)|fail)
 all_goals (refine ak rfl rfl (by simp [am,lk]) ?_;congr 3;omega)
end Go.Proofs.YtphakidbddamfaaGreat
