/-
  Numbers that are all in a range: the program's function and the reference's, in the abstract machine.
-/
import Derived.Test.YtphakidbddamfaaGreatZMst
set_option linter.unusedSimpArgs false
set_option linter.unusedVariables false
set_option maxHeartbeats 2000000
set_option maxRecDepth 100000
namespace Go.Proofs.YtphakidbddamfaaGreat
open Go.RowKit
def qn (lo hi:Int) (_:Nat) (x:Int):Prop:=lo≤x∧x≤hi
def cv (lo hi:Int) (xs:List Int):Prop:=All (qn lo hi) xs
theorem vQ (lo hi x:Int) (k:Nat):(decide (lo≤x) && decide (x≤hi)) = bP (qn lo hi k x):=by
 rw [Bool.eq_iff_iff,bP_iff];simp [qn]
theorem dU (xs:List Int) (lo hi:Int) (hn:xs.length≤9223372036854775807):FnEq Tryz.prog 170 [.d (.lst 1 (xs.map ab)),.d (.int .i64 lo),.d (.int .i64 hi)] [.d (.bool (bP (cv lo hi xs)))]:=by
 refine aO aa Tryz.func170 rfl rfl ?_;simp only [Tryz.ntmps170,aR,aM,Nat.reduceAdd,Nat.reduceSub,aW]
 repeat' (first|((with_reducible first|(refine hK _ ?_;clear hK K)|refine aj fun U O=>?_|apply ah|(apply Z<;>(intro hc;try simp at hc;try omega)))<;>try simp only [go_sem])|(with_reducible first|apply ag|(refine O _ ?_;clear O U)|refine kN oQ fun K hK=>?_|refine kO fun K hK=>?_|refine aI ?_)|apply iB)
 refine aD [6,8,11,12,13,14,15,16,17,18,19,20] (fun k:Nat=>[(11,.d (.int .i64 (k:Int)))]) (fun k:Nat=>[]) 0 (fun k:Nat=>k≤xs.length∧Upto (qn lo hi) xs k) (fun k:Nat=>xs.length - k) 0 ⟨Nat.zero_le _,Upto.zero _ _⟩ (ao [] (by simp [lk,ae]<;>omega)) ?_
 rintro k ⟨hk,hJ⟩
 simp only [bi,wipe,wl,bh,bw,rm,if_true,if_false,Nat.reduceEqDiff,Bool.false_eq_true,reduceCtorEq]
 by_cases hlt:k < xs.length
 ·have hx:=List.getElem?_eq_getElem hlt
  generalize xs[k] = x at hx
  have hb:=vQ lo hi x k
  by_cases hI:qn lo hi k x
  ·rw [aQ hI] at hb
   have hJ':=hJ.succ hx hI
   repeat' (first|((with_reducible first|(refine hK _ ?_;clear hK K)|refine aj fun U O=>?_|apply ah|(apply Z<;>(intro hc;try simp at hc;try omega)))<;>try simp only [go_sem,ap,hx,aq,ab,hb])|(with_reducible first|apply ag|(refine O _ ?_;clear O U)|refine kN oQ fun K hK=>?_|refine kO fun K hK=>?_|refine aI ?_)|((with_reducible apply CallK.eq);(· with_reducible first|exact bE _ _ _);(· simp [RV.flat,D.sc,ab]);try simp only [go_sem,ap,hx,aq,ab,hb])|apply iB)
   all_goals exact ⟨k + 1,⟨by omega,hJ'⟩,by omega,(ao [] (by simp [lk,ae]<;>omega))⟩
  ·rw [aG hI] at hb
   repeat' (first|((with_reducible first|(refine hK _ ?_;clear hK K)|refine aj fun U O=>?_|apply ah|(apply Z<;>(intro hc;try simp at hc;try omega)))<;>try simp only [go_sem,ap,hx,aq,ab,hb])|(with_reducible first|apply ag|(refine O _ ?_;clear O U)|refine kN oQ fun K hK=>?_|refine kO fun K hK=>?_|refine aI ?_)|((with_reducible apply CallK.eq);(· with_reducible first|exact bE _ _ _);(· simp [RV.flat,D.sc,ab]);try simp only [go_sem,ap,hx,aq,ab,hb])|apply iB)
   all_goals (refine ak rfl rfl (by simp [am,lk]) ?_;rw [aG (show ¬ cv lo hi xs from All.not_at hx hI)])
 ·repeat' (first|((with_reducible first|(refine hK _ ?_;clear hK K)|refine aj fun U O=>?_|apply ah|(apply Z<;>(intro hc;try simp at hc;try omega)))<;>try simp only [go_sem])|(with_reducible first|apply ag|(refine O _ ?_;clear O U)|refine kN oQ fun K hK=>?_|refine kO fun K hK=>?_|refine aI ?_)|apply iB)
  all_goals (refine ak rfl rfl (by simp [am,lk]) ?_;rw [aQ (show cv lo hi xs from hJ.all (by omega))])
theorem eH (xs:List Int) (lo hi:Int) (hn:xs.length≤9223372036854775807):FnEq Tryz.prog 172 [.d (.lst 1 (xs.map ab)),.d (.int .i64 lo),.d (.int .i64 hi)] [.d (.bool (bP (cv lo hi xs)))]:=by
 refine aO aa Tryz.func172 rfl rfl ?_;simp only [Tryz.ntmps172,aR,aM,Nat.reduceAdd,Nat.reduceSub,aW]
 repeat' (first|((with_reducible first|(refine hK _ ?_;clear hK K)|refine aj fun U O=>?_|apply ah|(apply Z<;>(intro hc;try simp at hc;try omega)))<;>try simp only [go_sem])|(with_reducible first|apply ag|(refine O _ ?_;clear O U)|refine kN pa fun K hK=>?_|refine kO fun K hK=>?_|refine aI ?_)|apply iB)
 refine aD [6,8,11,12,13,14,15,16,17,18,19,20] (fun k:Nat=>[(11,.d (.int .i64 (k:Int)))]) (fun k:Nat=>[]) 0 (fun k:Nat=>k≤xs.length∧Upto (qn lo hi) xs k) (fun k:Nat=>xs.length - k) 0 ⟨Nat.zero_le _,Upto.zero _ _⟩ (ao [] (by simp [lk,ae]<;>omega)) ?_
 rintro k ⟨hk,hJ⟩
 simp only [bi,wipe,wl,bh,bw,rm,if_true,if_false,Nat.reduceEqDiff,Bool.false_eq_true,reduceCtorEq]
 by_cases hlt:k < xs.length
 ·have hx:=List.getElem?_eq_getElem hlt
  generalize xs[k] = x at hx
  have hb:=vQ lo hi x k
  by_cases hI:qn lo hi k x
  ·rw [aQ hI] at hb
   have hJ':=hJ.succ hx hI
   repeat' (first|((with_reducible first|(refine hK _ ?_;clear hK K)|refine aj fun U O=>?_|apply ah|(apply Z<;>(intro hc;try simp at hc;try omega)))<;>try simp only [go_sem,ap,hx,aq,ab,hb])|(with_reducible first|apply ag|(refine O _ ?_;clear O U)|refine kN pa fun K hK=>?_|refine kO fun K hK=>?_|refine aI ?_)|((with_reducible apply CallK.eq);(· with_reducible first|exact cx _ _ _);(· simp [RV.flat,D.sc,ab]);try simp only [go_sem,ap,hx,aq,ab,hb])|apply iB)
   all_goals exact ⟨k + 1,⟨by omega,hJ'⟩,by omega,(ao [] (by simp [lk,ae]<;>omega))⟩
  ·rw [aG hI] at hb
   repeat' (first|((with_reducible first|(refine hK _ ?_;clear hK K)|refine aj fun U O=>?_|apply ah|(apply Z<;>(intro hc;try simp at hc;try omega)))<;>try simp only [go_sem,ap,hx,aq,ab,hb])|(with_reducible first|apply ag|(refine O _ ?_;clear O U)|refine kN pa fun K hK=>?_|refine kO fun K hK=>?_|refine aI ?_)|((with_reducible apply CallK.eq);(· with_reducible first|exact cx _ _ _);(· simp [RV.flat,D.sc,ab]);try simp only [go_sem,ap,hx,aq,ab,hb])|apply iB)
   all_goals (refine ak rfl rfl (by simp [am,lk]) ?_;rw [aG (show ¬ cv lo hi xs from All.not_at hx hI)])
 ·repeat' (first|((with_reducible first|(refine hK _ ?_;clear hK K)|refine aj fun U O=>?_|apply ah|(apply Z<;>(intro hc;try simp at hc;try omega)))<;>try simp only [go_sem])|(with_reducible first|apply ag|(refine O _ ?_;clear O U)|refine kN pa fun K hK=>?_|refine kO fun K hK=>?_|refine aI ?_)|apply iB)
  all_goals (refine ak rfl rfl (by simp [am,lk]) ?_;rw [aQ (show cv lo hi xs from hJ.all (by omega))])
end Go.Proofs.YtphakidbddamfaaGreat
