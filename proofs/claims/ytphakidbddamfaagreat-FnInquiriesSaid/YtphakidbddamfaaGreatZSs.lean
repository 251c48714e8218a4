/-
  The greatest, the least, numbers put in order, trimmed sums: the program's functions and the reference's, in the abstract machine.
-/
import Derived.Test.YtphakidbddamfaaGreatZSq
import Derived.Test.YtphakidbddamfaaGreatZSc
import Derived.Test.YtphakidbddamfaaGreatZTk
set_option linter.unusedSimpArgs false
set_option linter.unusedVariables false
set_option maxHeartbeats 2000000
set_option maxRecDepth 100000
namespace Go.Proofs.YtphakidbddamfaaGreat
open Go.RowKit
def sa (xs:List Int) (k:Nat):Int:=ew (xs.take k)
def rS (xs:List Int) (k:Nat):Int:=eJ (xs.take k)
theorem wG (xs:List Int):sa xs 1 = xs.headD 0:=vr xs
theorem wQ (xs:List Int):rS xs 1 = xs.headD 0:=vj xs
theorem vP {xs:List Int} {k:Nat} {x:Int} (h0:0 < k) (hx:xs[k]? = some x):sa xs (k + 1) = max (sa xs k) x:=uB h0 hx
theorem vh {xs:List Int} {k:Nat} {x:Int} (h0:0 < k) (hx:xs[k]? = some x):rS xs (k + 1) = min (rS xs k) x:=uL h0 hx
theorem wN {xs:List Int} {k:Nat} (h:xs.length≤k):sa xs k = ew xs:=by unfold sa;rw [List.take_of_length_le h]
theorem wL {xs:List Int} {k:Nat} (h:xs.length≤k):rS xs k = eJ xs:=by unfold rS;rw [List.take_of_length_le h]
theorem qf {xs:List Int} (h0:0 < xs.length):xs[0]? = some (xs.headD 0):=by cases xs with
 |nil=>simp at h0
 |cons a l=>rfl
theorem rT (xs:List Int) (h0:0 < xs.length) (hn:xs.length≤16777216):FnEq Tryz.prog 257 [.d (.lst 1 (xs.map aa))] [.d (.int .i64 (ew xs))]:=by
 have hh:=qf h0
 have hg1:=wG xs
 refine aN ae Tryz.func257 rfl rfl ?_;simp only [Tryz.ntmps257,aP,aK,Nat.reduceAdd,Nat.reduceSub,aV]
 generalize xs.headD 0 = a0 at hh hg1
 repeat' (first|((with_reducible first|(apply hK;clear hK K)|refine ah fun U O=>?_|apply ag|(apply Z<;>(intro hc;try simp at hc;try omega)))<;>try simp only [go_sem,ap,hh,ar,aa])|(with_reducible first|apply aj|(apply O;clear O U)|refine kN sD fun K hK=>?_|refine kO fun K hK=>?_|refine aI ?_)|apply iB)
 all_goals first
  |(exfalso;omega)
  |skip
 refine aA [2,3,4,12,13,14,15,16,17,18,19,20,21,22,23] (fun k:Nat=>[(4,.d (.int .i64 (k:Int))),(3,.d (.int .i64 (sa xs k)))]) (fun _=>[]) 0 (fun k=>1≤k∧k≤xs.length) (fun k=>xs.length - k) 1 ⟨by omega,by omega⟩ (an [] (by simp [lk,ab,hg1]<;>omega)) ?_
 rintro k ⟨hk1,hk⟩
 simp only [bc,wipe,wl,bb,bx,rm,if_true,if_false,Nat.reduceEqDiff,Bool.false_eq_true,reduceCtorEq]
 by_cases hlt:k < xs.length
 ·have hx:=List.getElem?_eq_getElem hlt
  generalize xs[k] = x at hx
  have hs:=vP hk1 hx
  repeat' (first|((with_reducible first|(apply hK;clear hK K)|refine ah fun U O=>?_|apply ag|(apply Z<;>(intro hc;try simp at hc;try omega)))<;>try simp only [go_sem,ap,hx,ar,aa,hlt])|(with_reducible first|apply aj|(apply O;clear O U)|refine kN sD fun K hK=>?_|refine kO fun K hK=>?_|refine aI ?_)|apply iB)
  all_goals first
   |(exfalso;omega)
   |exact ⟨k + 1,⟨by omega,by omega⟩,by omega,(an [] (by simp [lk,ab,hs]<;>omega))⟩
 ·rw [←wN (xs:=xs) (k:=k) (by omega)]
  repeat' (first|((with_reducible first|(apply hK;clear hK K)|refine ah fun U O=>?_|apply ag|(apply Z<;>(intro hc;try simp at hc;try omega)))<;>try simp only [go_sem])|(with_reducible first|apply aj|(apply O;clear O U)|refine kN sD fun K hK=>?_|refine kO fun K hK=>?_|refine aI ?_)|apply iB)
  all_goals first
   |(exfalso;omega)
   |(refine ak rfl rfl (by simp [am,lk]) ?_;rfl)
theorem xd (xs:List Int) (h0:0 < xs.length) (hn:xs.length≤16777216):FnEq Tryz.prog 258 [.d (.lst 1 (xs.map aa))] [.d (.int .i64 (eJ xs))]:=by
 have hh:=qf h0
 have hg1:=wQ xs
 refine aN ae Tryz.func258 rfl rfl ?_;simp only [Tryz.ntmps258,aP,aK,Nat.reduceAdd,Nat.reduceSub,aV]
 generalize xs.headD 0 = a0 at hh hg1
 repeat' (first|((with_reducible first|(apply hK;clear hK K)|refine ah fun U O=>?_|apply ag|(apply Z<;>(intro hc;try simp at hc;try omega)))<;>try simp only [go_sem,ap,hh,ar,aa])|(with_reducible first|apply aj|(apply O;clear O U)|refine kN tN fun K hK=>?_|refine kO fun K hK=>?_|refine aI ?_)|apply iB)
 all_goals first
  |(exfalso;omega)
  |skip
 refine aA [2,3,4,12,13,14,15,16,17,18,19,20,21,22,23] (fun k:Nat=>[(4,.d (.int .i64 (k:Int))),(3,.d (.int .i64 (rS xs k)))]) (fun _=>[]) 0 (fun k=>1≤k∧k≤xs.length) (fun k=>xs.length - k) 1 ⟨by omega,by omega⟩ (an [] (by simp [lk,ab,hg1]<;>omega)) ?_
 rintro k ⟨hk1,hk⟩
 simp only [bc,wipe,wl,bb,bx,rm,if_true,if_false,Nat.reduceEqDiff,Bool.false_eq_true,reduceCtorEq]
 by_cases hlt:k < xs.length
 ·have hx:=List.getElem?_eq_getElem hlt
  generalize xs[k] = x at hx
  have hs:=vh hk1 hx
  repeat' (first|((with_reducible first|(apply hK;clear hK K)|refine ah fun U O=>?_|apply ag|(apply Z<;>(intro hc;try simp at hc;try omega)))<;>try simp only [go_sem,ap,hx,ar,aa,hlt])|(with_reducible first|apply aj|(apply O;clear O U)|refine kN tN fun K hK=>?_|refine kO fun K hK=>?_|refine aI ?_)|apply iB)
  all_goals first
   |(exfalso;omega)
   |exact ⟨k + 1,⟨by omega,by omega⟩,by omega,(an [] (by simp [lk,ab,hs]<;>omega))⟩
 ·rw [←wL (xs:=xs) (k:=k) (by omega)]
  repeat' (first|((with_reducible first|(apply hK;clear hK K)|refine ah fun U O=>?_|apply ag|(apply Z<;>(intro hc;try simp at hc;try omega)))<;>try simp only [go_sem])|(with_reducible first|apply aj|(apply O;clear O U)|refine kN tN fun K hK=>?_|refine kO fun K hK=>?_|refine aI ?_)|apply iB)
  all_goals first
   |(exfalso;omega)
   |(refine ak rfl rfl (by simp [am,lk]) ?_;rfl)
theorem rf (xs:List Int) (k:Nat):(cQ (xs.take k)).length≤xs.length:=by rw [gD];exact List.length_take_le' _ _
set_option maxHeartbeats 8000000 in
theorem rg (xs:List Int) (hn:xs.length≤1048576):FnEq Tryz.prog 255 [.d (.lst 1 (xs.map aa))] [.row 3 1 ((cQ xs).map aa)]:=by
 refine aN ae Tryz.func255 rfl rfl ?_;simp only [Tryz.ntmps255,aP,aK,Nat.reduceAdd,Nat.reduceSub,aV]
 repeat' (first|((with_reducible first|(apply hK;clear hK K)|refine ah fun U O=>?_|apply ag|(apply Z<;>(intro hc;try simp at hc;try omega)))<;>try simp only [go_sem])|(with_reducible first|apply aj|(apply O;clear O U)|refine kN iW fun K hK=>?_|refine kO fun K hK=>?_|refine aI ?_)|(refine xS rfl fun U O=>?_;simp only [go_sem])|apply iB)
 refine aA [2,3,5,6,9,10,11,12,13,14,15,16,17,18,19,20,21,22,23,24,25,26,27,28,29,30,31,32,33,34,35,36,37,38,39,40] (fun k:Nat=>[(9,.d (.int .i64 (k:Int))),(3,.row 0 (cQ (xs.take k)).length)]) (fun k:Nat=>[(0,.row 3 1 ((cQ (xs.take k)).map aa))]) 1 (fun k:Nat=>k≤xs.length) (fun k:Nat=>xs.length - k) 0 (Nat.zero_le _) (an [] (by simp [lk,ab,sN]<;>omega)) ?_
 intro k hk
 have hL:=rf xs k
 simp only [bc,wipe,wl,bb,bx,rm,if_true,if_false,Nat.reduceEqDiff,Bool.false_eq_true,reduceCtorEq]
 by_cases hlt:k < xs.length
 ·have hx:=List.getElem?_eq_getElem hlt
  generalize xs[k] = x at hx
  have hso:=iA (xs.take k)
  have hins:∀ m,m≤(cQ (xs.take k)).length→AllLess (cQ (xs.take k)) m x→(∀ y,0 < m→(cQ (xs.take k))[m - 1]? = some y→x≤y)→cQ (xs.take (k + 1)) = (cQ (xs.take k)).take m++x::(cQ (xs.take k)).drop m:=by
   intro m hm hA hB
   rw [sH hx]
   exact (mw x _ m hso hm hA hB).symm
  generalize ho:cQ (xs.take k) = out at hL hso hins
  repeat' (first|((with_reducible first|(apply hK;clear hK K)|refine ah fun U O=>?_|apply ag|(apply Z<;>(intro hc;try simp at hc;try omega)))<;>try simp only [go_sem,ap,hx,ar,aa])|(with_reducible first|apply aj|(apply O;clear O U)|refine kN iW fun K hK=>?_|refine kO fun K hK=>?_|refine aI ?_)|(refine xS rfl fun U O=>?_;simp only [go_sem,ap,hx,ar,aa])|apply iB)
  refine aA [2,6,15,16,17,18,19,20,21,22,23,24,25,26,27] (fun m:Nat=>[(6,.d (.int .i64 (m:Int)))]) (fun _=>[(0,.row 3 1 (out.map aa))]) 1 (fun m=>m≤out.length∧AllLess out m x) (fun m=>m) out.length ⟨by omega,AllLess.start _ _⟩ (an [] (by simp [lk,ab]<;>omega)) ?_
  rintro m ⟨hm,hA⟩
  simp only [bc,wipe,wl,bb,bx,rm,if_true,if_false,Nat.reduceEqDiff,Bool.false_eq_true,reduceCtorEq]
  have htl:(List.take m (List.map aa out)).length = m:=by simp;omega
  have hdl:(List.drop m (List.map aa out)).length = out.length - m:=by simp
  have hmd:m + (out.length - m) = out.length:=by omega
  have htx:List.take (out.length - m) (List.drop m (List.map aa out)) = List.drop m (List.map aa out):=List.take_of_length_le (by simp)
  by_cases hm0:0 < m
  ·have hy:=List.getElem?_eq_getElem (show m - 1 < out.length by omega)
   generalize out[m - 1] = y at hy
   have hy':out[((m:Int) - 1).toNat]? = some y:=by rw [show ((m:Int) - 1).toNat = m - 1 by omega];exact hy
   have hlt2:((m:Int) - 1).toNat < out.length:=by omega
   by_cases hyx:y < x
   ·repeat' (first|((with_reducible first|(apply hK;clear hK K)|refine ah fun U O=>?_|apply ag|(apply Z<;>(intro hc;try simp at hc;try omega)))<;>try simp only [go_sem,hlt2,ap,hy',ar,aa,hyx])|(with_reducible first|apply aj|(apply O;clear O U)|refine kN iW fun K hK=>?_|refine kO fun K hK=>?_|refine aI ?_)|(refine xS rfl fun U O=>?_;simp only [go_sem,hlt2,ap,hy',ar,aa,hyx])|apply iB)
    all_goals first
     |(exfalso;omega)
     |exact ⟨m - 1,⟨by omega,hA.next hy hyx⟩,by omega,(an [] (by simp [lk,ab]<;>omega))⟩
   ·have hins:=hins m hm hA (fun y' _ h=>by rw [hy] at h;cases h;omega)
    repeat' (first|((with_reducible first|(apply hK;clear hK K)|refine ah fun U O=>?_|apply ag|(apply Z<;>(intro hc;try simp at hc;try omega)))<;>try simp only [go_sem,hlt2,ap,hy',ar,aa,hyx])|(with_reducible first|apply aj|(apply O;clear O U)|refine kN iW fun K hK=>?_|refine kO fun K hK=>?_|refine aI ?_)|(refine xS rfl fun U O=>?_;simp only [go_sem,hlt2,ap,hy',ar,aa,hyx])|apply iB)
    all_goals first
     |(exfalso;omega)
     |skip
    refine bH 13 ay rfl (fun K hK=>?_)
    refine aT 1 rfl rfl rfl (aM (.inl rfl)) ?_
    try simp only [go_sem,aB,aD,aE,htl,hdl,htx,hm,hmd,Nat.le_refl,List.length_append,aP,aK]
    refine aT 2 rfl rfl rfl (aM (.inl rfl)) ?_
    try simp only [go_sem,aB,aD,aE,htl,hdl,htx,hm,hmd,Nat.le_refl,List.length_append,aP,aK]
    refine aT 3 rfl rfl rfl (ic rfl (ae _ _ k_) rfl rfl rfl (by omega) (by omega) (by omega) rfl) ?_
    try simp only [go_sem,aB,aD,aE,htl,hdl,htx,hm,hmd,Nat.le_refl,List.length_append,aP,aK]
    refine aT 5 rfl rfl rfl (aM (.inl rfl)) ?_
    try simp only [go_sem,aB,aD,aE,htl,hdl,htx,hm,hmd,Nat.le_refl,List.length_append,aP,aK]
    refine aT 8 rfl rfl rfl (aM (.inl rfl)) ?_
    try simp only [go_sem,aB,aD,aE,htl,hdl,htx,hm,hmd,Nat.le_refl,List.length_append,aP,aK]
    refine aT 9 rfl rfl rfl (aM (.inl rfl)) ?_
    try simp only [go_sem,aB,aD,aE,htl,hdl,htx,hm,hmd,Nat.le_refl,List.length_append,aP,aK]
    refine aT 10 rfl rfl rfl (ic rfl (ae _ _ k_) rfl rfl rfl (by omega) (by omega) (by omega) rfl) ?_
    try simp only [go_sem,aB,aD,aE,htl,hdl,htx,hm,hmd,Nat.le_refl,List.length_append,aP,aK]
    repeat' (first
     |((with_reducible refine O _ ?_);clear O U;try simp only [go_sem,aB,aD,aE,htl,hdl,htx,hm,hmd,Nat.le_refl,List.length_append,aP,aK])
     |((with_reducible refine bB ?_);first
      |(refine aT 12 rfl rfl rfl (aM (.inr rfl)) ?_;try simp only [go_sem,aB,aD,aE,htl,hdl,htx,hm,hmd,Nat.le_refl,List.length_append,aP,aK])
      |((first|((with_reducible first|refine aS (fuel:=5) [0,6] ?_|refine aS (fuel:=4) [4,6] ?_);refine ⟨⟨_,rfl,fun U O=>?_⟩,⟨_,rfl,fun U O=>?_⟩,trivial⟩)|((with_reducible first|refine aS (fuel:=4) [0] ?_|refine aS (fuel:=3) [6] ?_|refine aS (fuel:=3) [4] ?_|refine aS (fuel:=2) [7] ?_|refine aS (fuel:=1) [11] ?_);refine ⟨⟨_,rfl,fun U O=>?_⟩,trivial⟩))<;>((first|with_reducible refine bA rfl ?_|refine bl rfl ?_);simp only [go_sem,aB,aD,aE,htl,hdl,htx,hm,hmd,Nat.le_refl,List.length_append,aP,aK]))
      |(refine bi (by decide +kernel) (hK _ ?_);clear hK K;try simp only [go_sem,aB,aD,aE,htl,hdl,htx,hm,hmd,Nat.le_refl,List.length_append,aP,aK]))
     |with_reducible refine aI ?_
     |with_reducible refine aZ ?_|with_reducible refine bh ?_|with_reducible refine ba ?_)
    all_goals
     repeat' (first|((with_reducible first|(apply hK;clear hK K)|refine ah fun U O=>?_|apply ag|(apply Z<;>(intro hc;try simp at hc;try omega)))<;>try simp only [go_sem])|(with_reducible first|apply aj|(apply O;clear O U)|refine kN iW fun K hK=>?_|refine kO fun K hK=>?_|refine aI ?_)|(refine xS rfl fun U O=>?_;simp only [go_sem])|apply iB)
     exact ⟨k + 1,by omega,by omega,(an [] (by simp [lk,ab,hins,aa]<;>omega))⟩
  ·have hins:=hins m hm hA (fun y' h _=>by omega)
   repeat' (first|((with_reducible first|(apply hK;clear hK K)|refine ah fun U O=>?_|apply ag|(apply Z<;>(intro hc;try simp at hc;try omega)))<;>try simp only [go_sem])|(with_reducible first|apply aj|(apply O;clear O U)|refine kN iW fun K hK=>?_|refine kO fun K hK=>?_|refine aI ?_)|(refine xS rfl fun U O=>?_;simp only [go_sem])|apply iB)
   all_goals first
    |(exfalso;omega)
    |skip
   refine bH 13 ay rfl (fun K hK=>?_)
   refine aT 1 rfl rfl rfl (aM (.inl rfl)) ?_
   try simp only [go_sem,aB,aD,aE,htl,hdl,htx,hm,hmd,Nat.le_refl,List.length_append,aP,aK]
   refine aT 2 rfl rfl rfl (aM (.inl rfl)) ?_
   try simp only [go_sem,aB,aD,aE,htl,hdl,htx,hm,hmd,Nat.le_refl,List.length_append,aP,aK]
   refine aT 3 rfl rfl rfl (ic rfl (ae _ _ k_) rfl rfl rfl (by omega) (by omega) (by omega) rfl) ?_
   try simp only [go_sem,aB,aD,aE,htl,hdl,htx,hm,hmd,Nat.le_refl,List.length_append,aP,aK]
   refine aT 5 rfl rfl rfl (aM (.inl rfl)) ?_
   try simp only [go_sem,aB,aD,aE,htl,hdl,htx,hm,hmd,Nat.le_refl,List.length_append,aP,aK]
   refine aT 8 rfl rfl rfl (aM (.inl rfl)) ?_
   try simp only [go_sem,aB,aD,aE,htl,hdl,htx,hm,hmd,Nat.le_refl,List.length_append,aP,aK]
   refine aT 9 rfl rfl rfl (aM (.inl rfl)) ?_
   try simp only [go_sem,aB,aD,aE,htl,hdl,htx,hm,hmd,Nat.le_refl,List.length_append,aP,aK]
   refine aT 10 rfl rfl rfl (ic rfl (ae _ _ k_) rfl rfl rfl (by omega) (by omega) (by omega) rfl) ?_
   try simp only [go_sem,aB,aD,aE,htl,hdl,htx,hm,hmd,Nat.le_refl,List.length_append,aP,aK]
   repeat' (first
    |((with_reducible refine O _ ?_);clear O U;try simp only [go_sem,aB,aD,aE,htl,hdl,htx,hm,hmd,Nat.le_refl,List.length_append,aP,aK])
    |((with_reducible refine bB ?_);first
     |(refine aT 12 rfl rfl rfl (aM (.inr rfl)) ?_;try simp only [go_sem,aB,aD,aE,htl,hdl,htx,hm,hmd,Nat.le_refl,List.length_append,aP,aK])
     |((first|((with_reducible first|refine aS (fuel:=5) [0,6] ?_|refine aS (fuel:=4) [4,6] ?_);refine ⟨⟨_,rfl,fun U O=>?_⟩,⟨_,rfl,fun U O=>?_⟩,trivial⟩)|((with_reducible first|refine aS (fuel:=4) [0] ?_|refine aS (fuel:=3) [6] ?_|refine aS (fuel:=3) [4] ?_|refine aS (fuel:=2) [7] ?_|refine aS (fuel:=1) [11] ?_);refine ⟨⟨_,rfl,fun U O=>?_⟩,trivial⟩))<;>((first|with_reducible refine bA rfl ?_|refine bl rfl ?_);simp only [go_sem,aB,aD,aE,htl,hdl,htx,hm,hmd,Nat.le_refl,List.length_append,aP,aK]))
     |(refine bi (by decide +kernel) (hK _ ?_);clear hK K;try simp only [go_sem,aB,aD,aE,htl,hdl,htx,hm,hmd,Nat.le_refl,List.length_append,aP,aK]))
    |with_reducible refine aI ?_
    |with_reducible refine aZ ?_|with_reducible refine bh ?_|with_reducible refine ba ?_)
   all_goals
    repeat' (first|((with_reducible first|(apply hK;clear hK K)|refine ah fun U O=>?_|apply ag|(apply Z<;>(intro hc;try simp at hc;try omega)))<;>try simp only [go_sem])|(with_reducible first|apply aj|(apply O;clear O U)|refine kN iW fun K hK=>?_|refine kO fun K hK=>?_|refine aI ?_)|(refine xS rfl fun U O=>?_;simp only [go_sem])|apply iB)
    exact ⟨k + 1,by omega,by omega,(an [] (by simp [lk,ab,hins,aa]<;>omega))⟩
 ·have e:xs.take k = xs:=List.take_of_length_le (by omega)
  rw [e]
  have hsl:=gD xs
  repeat' (first|((with_reducible first|(apply hK;clear hK K)|refine ah fun U O=>?_|apply ag|(apply Z<;>(intro hc;try simp at hc;try omega)))<;>try simp only [go_sem])|(with_reducible first|apply aj|(apply O;clear O U)|refine kN iW fun K hK=>?_|refine kO fun K hK=>?_|refine aI ?_)|(refine xS rfl fun U O=>?_;simp only [go_sem])|apply iB)
  all_goals first
   |(exfalso;omega)
   |(refine ak rfl (by simp only [hsl,bj,bn,ab,lk,ao,aK,List.length_append,List.length_take,if_true,if_false,Nat.reduceEqDiff,Nat.reduceBEq,Bool.false_eq_true,Option.some.injEq];rfl) (by simp [am,lk]) ?_;rfl)
end Go.Proofs.YtphakidbddamfaaGreat
