/-
  The greatest, the least, numbers put in order, trimmed sums: the program's functions and the reference's, in the abstract machine.
-/
import Derived.Test.YtphakidbddamfaaGreatZSa
import Derived.Test.YtphakidbddamfaaGreatZSc
import Derived.Test.YtphakidbddamfaaGreatZOrd
set_option linter.unusedSimpArgs false
set_option linter.unusedVariables false
set_option maxHeartbeats 2000000
set_option maxRecDepth 100000
namespace Go.Proofs.YtphakidbddamfaaGreat
open Go.RowKit
def rG (xs:List Int) (k:Nat):Int:=ey (xs.take k)
def rS (xs:List Int) (k:Nat):Int:=eL (xs.take k)
theorem wP (xs:List Int):rG xs 1 = xs.headD 0:=vv xs
theorem wC (xs:List Int):rS xs 1 = xs.headD 0:=vC xs
theorem vq {xs:List Int} {k:Nat} {x:Int} (h0:0 < k) (hx:xs[k]? = some x):rG xs (k + 1) = max (rG xs k) x:=t_ h0 hx
theorem vu {xs:List Int} {k:Nat} {x:Int} (h0:0 < k) (hx:xs[k]? = some x):rS xs (k + 1) = min (rS xs k) x:=uC h0 hx
theorem wG {xs:List Int} {k:Nat} (h:xs.length≤k):rG xs k = ey xs:=by unfold rG;rw [List.take_of_length_le h]
theorem wW {xs:List Int} {k:Nat} (h:xs.length≤k):rS xs k = eL xs:=by unfold rS;rw [List.take_of_length_le h]
theorem p8 {xs:List Int} (h0:0 < xs.length):xs[0]? = some (xs.headD 0):=by cases xs with
 |nil=>simp at h0
 |cons a l=>rfl
theorem rE (xs:List Int) (h0:0 < xs.length) (hn:xs.length≤16777216):FnEq Tryz.prog 257 [.d (.lst 1 (xs.map ab))] [.d (.int .i64 (ey xs))]:=by
 have hh:=p8 h0
 have hg1:=wP xs
 refine aO aa Tryz.func257 rfl rfl ?_;simp only [Tryz.ntmps257,aR,aM,Nat.reduceAdd,Nat.reduceSub,aW]
 generalize xs.headD 0 = a0 at hh hg1
 repeat' (first|((with_reducible first|(refine hK _ ?_;clear hK K)|refine aj fun U O=>?_|apply ah|(apply Z<;>(intro hc;try simp at hc;try omega)))<;>try simp only [go_sem,ap,hh,aq,ab])|(with_reducible first|apply ag|(refine O _ ?_;clear O U)|refine kN sC fun K hK=>?_|refine kO fun K hK=>?_|refine aI ?_)|apply iB)
 all_goals first
  |(exfalso;omega)
  |skip
 refine aD [2,3,4,12,13,14,15,16,17,18,19,20,21,22,23] (fun k:Nat=>[(4,.d (.int .i64 (k:Int))),(3,.d (.int .i64 (rG xs k)))]) (fun _=>[]) 0 (fun k=>1≤k∧k≤xs.length) (fun k=>xs.length - k) 1 ⟨by omega,by omega⟩ (ao [] (by simp [lk,ae,hg1]<;>omega)) ?_
 rintro k ⟨hk1,hk⟩
 simp only [bi,wipe,wl,bh,bw,rm,if_true,if_false,Nat.reduceEqDiff,Bool.false_eq_true,reduceCtorEq]
 by_cases hlt:k < xs.length
 ·have hx:=List.getElem?_eq_getElem hlt
  generalize xs[k] = x at hx
  have hs:=vq hk1 hx
  repeat' (first|((with_reducible first|(refine hK _ ?_;clear hK K)|refine aj fun U O=>?_|apply ah|(apply Z<;>(intro hc;try simp at hc;try omega)))<;>try simp only [go_sem,ap,hx,aq,ab,hlt])|(with_reducible first|apply ag|(refine O _ ?_;clear O U)|refine kN sC fun K hK=>?_|refine kO fun K hK=>?_|refine aI ?_)|apply iB)
  all_goals first
   |(exfalso;omega)
   |exact ⟨k + 1,⟨by omega,by omega⟩,by omega,(ao [] (by simp [lk,ae,hs]<;>omega))⟩
 ·rw [←wG (xs:=xs) (k:=k) (by omega)]
  repeat' (first|((with_reducible first|(refine hK _ ?_;clear hK K)|refine aj fun U O=>?_|apply ah|(apply Z<;>(intro hc;try simp at hc;try omega)))<;>try simp only [go_sem])|(with_reducible first|apply ag|(refine O _ ?_;clear O U)|refine kN sC fun K hK=>?_|refine kO fun K hK=>?_|refine aI ?_)|apply iB)
  all_goals first
   |(exfalso;omega)
   |(refine ak rfl rfl (by simp [am,lk]) ?_;rfl)
theorem wI (xs:List Int) (h0:0 < xs.length) (hn:xs.length≤16777216):FnEq Tryz.prog 258 [.d (.lst 1 (xs.map ab))] [.d (.int .i64 (eL xs))]:=by
 have hh:=p8 h0
 have hg1:=wC xs
 refine aO aa Tryz.func258 rfl rfl ?_;simp only [Tryz.ntmps258,aR,aM,Nat.reduceAdd,Nat.reduceSub,aW]
 generalize xs.headD 0 = a0 at hh hg1
 repeat' (first|((with_reducible first|(refine hK _ ?_;clear hK K)|refine aj fun U O=>?_|apply ah|(apply Z<;>(intro hc;try simp at hc;try omega)))<;>try simp only [go_sem,ap,hh,aq,ab])|(with_reducible first|apply ag|(refine O _ ?_;clear O U)|refine kN td fun K hK=>?_|refine kO fun K hK=>?_|refine aI ?_)|apply iB)
 all_goals first
  |(exfalso;omega)
  |skip
 refine aD [2,3,4,12,13,14,15,16,17,18,19,20,21,22,23] (fun k:Nat=>[(4,.d (.int .i64 (k:Int))),(3,.d (.int .i64 (rS xs k)))]) (fun _=>[]) 0 (fun k=>1≤k∧k≤xs.length) (fun k=>xs.length - k) 1 ⟨by omega,by omega⟩ (ao [] (by simp [lk,ae,hg1]<;>omega)) ?_
 rintro k ⟨hk1,hk⟩
 simp only [bi,wipe,wl,bh,bw,rm,if_true,if_false,Nat.reduceEqDiff,Bool.false_eq_true,reduceCtorEq]
 by_cases hlt:k < xs.length
 ·have hx:=List.getElem?_eq_getElem hlt
  generalize xs[k] = x at hx
  have hs:=vu hk1 hx
  repeat' (first|((with_reducible first|(refine hK _ ?_;clear hK K)|refine aj fun U O=>?_|apply ah|(apply Z<;>(intro hc;try simp at hc;try omega)))<;>try simp only [go_sem,ap,hx,aq,ab,hlt])|(with_reducible first|apply ag|(refine O _ ?_;clear O U)|refine kN td fun K hK=>?_|refine kO fun K hK=>?_|refine aI ?_)|apply iB)
  all_goals first
   |(exfalso;omega)
   |exact ⟨k + 1,⟨by omega,by omega⟩,by omega,(ao [] (by simp [lk,ae,hs]<;>omega))⟩
 ·rw [←wW (xs:=xs) (k:=k) (by omega)]
  repeat' (first|((with_reducible first|(refine hK _ ?_;clear hK K)|refine aj fun U O=>?_|apply ah|(apply Z<;>(intro hc;try simp at hc;try omega)))<;>try simp only [go_sem])|(with_reducible first|apply ag|(refine O _ ?_;clear O U)|refine kN td fun K hK=>?_|refine kO fun K hK=>?_|refine aI ?_)|apply iB)
  all_goals first
   |(exfalso;omega)
   |(refine ak rfl rfl (by simp [am,lk]) ?_;rfl)
theorem qQ (xs:List Int) (k:Nat):(cQ (xs.take k)).length≤xs.length:=by rw [gw];exact List.length_take_le' _ _
set_option maxHeartbeats 8000000 in
theorem rl (xs:List Int) (hn:xs.length≤1048576):FnEq Tryz.prog 255 [.d (.lst 1 (xs.map ab))] [.row 3 1 ((cQ xs).map ab)]:=by
 refine aO aa Tryz.func255 rfl rfl ?_;simp only [Tryz.ntmps255,aR,aM,Nat.reduceAdd,Nat.reduceSub,aW]
 repeat' (first|((with_reducible first|(refine hK _ ?_;clear hK K)|refine aj fun U O=>?_|apply ah|(apply Z<;>(intro hc;try simp at hc;try omega)))<;>try simp only [go_sem])|(with_reducible first|apply ag|(refine O _ ?_;clear O U)|refine kN iH fun K hK=>?_|refine kO fun K hK=>?_|refine aI ?_)|(refine xS rfl fun U O=>?_;simp only [go_sem])|apply iB)
 refine aD [2,3,5,6,9,10,11,12,13,14,15,16,17,18,19,20,21,22,23,24,25,26,27,28,29,30,31,32,33,34,35,36,37,38,39,40] (fun k:Nat=>[(9,.d (.int .i64 (k:Int))),(3,.row 0 (cQ (xs.take k)).length)]) (fun k:Nat=>[(0,.row 3 1 ((cQ (xs.take k)).map ab))]) 1 (fun k:Nat=>k≤xs.length) (fun k:Nat=>xs.length - k) 0 (Nat.zero_le _) (ao [] (by simp [lk,ae,sY]<;>omega)) ?_
 intro k hk
 have hL:=qQ xs k
 simp only [bi,wipe,wl,bh,bw,rm,if_true,if_false,Nat.reduceEqDiff,Bool.false_eq_true,reduceCtorEq]
 by_cases hlt:k < xs.length
 ·have hx:=List.getElem?_eq_getElem hlt
  generalize xs[k] = x at hx
  have hso:=ik (xs.take k)
  have hins:∀ m,m≤(cQ (xs.take k)).length→AllLess (cQ (xs.take k)) m x→(∀ y,0 < m→(cQ (xs.take k))[m - 1]? = some y→x≤y)→cQ (xs.take (k + 1)) = (cQ (xs.take k)).take m++x::(cQ (xs.take k)).drop m:=by
   intro m hm hA hB
   rw [tR hx]
   exact (mw x _ m hso hm hA hB).symm
  generalize ho:cQ (xs.take k) = out at hL hso hins
  repeat' (first|((with_reducible first|(refine hK _ ?_;clear hK K)|refine aj fun U O=>?_|apply ah|(apply Z<;>(intro hc;try simp at hc;try omega)))<;>try simp only [go_sem,ap,hx,aq,ab])|(with_reducible first|apply ag|(refine O _ ?_;clear O U)|refine kN iH fun K hK=>?_|refine kO fun K hK=>?_|refine aI ?_)|(refine xS rfl fun U O=>?_;simp only [go_sem,ap,hx,aq,ab])|apply iB)
  refine aD [2,6,15,16,17,18,19,20,21,22,23,24,25,26,27] (fun m:Nat=>[(6,.d (.int .i64 (m:Int)))]) (fun _=>[(0,.row 3 1 (out.map ab))]) 1 (fun m=>m≤out.length∧AllLess out m x) (fun m=>m) out.length ⟨by omega,AllLess.start _ _⟩ (ao [] (by simp [lk,ae]<;>omega)) ?_
  rintro m ⟨hm,hA⟩
  simp only [bi,wipe,wl,bh,bw,rm,if_true,if_false,Nat.reduceEqDiff,Bool.false_eq_true,reduceCtorEq]
  have htl:(List.take m (List.map ab out)).length = m:=by simp;omega
  have hdl:(List.drop m (List.map ab out)).length = out.length - m:=by simp
  have hmd:m + (out.length - m) = out.length:=by omega
  have htx:List.take (out.length - m) (List.drop m (List.map ab out)) = List.drop m (List.map ab out):=List.take_of_length_le (by simp)
  by_cases hm0:0 < m
  ·have hy:=List.getElem?_eq_getElem (show m - 1 < out.length by omega)
   generalize out[m - 1] = y at hy
   have hy':out[((m:Int) - 1).toNat]? = some y:=by rw [show ((m:Int) - 1).toNat = m - 1 by omega];exact hy
   have hlt2:((m:Int) - 1).toNat < out.length:=by omega
   by_cases hyx:y < x
   ·repeat' (first|((with_reducible first|(refine hK _ ?_;clear hK K)|refine aj fun U O=>?_|apply ah|(apply Z<;>(intro hc;try simp at hc;try omega)))<;>try simp only [go_sem,hlt2,ap,hy',aq,ab,hyx])|(with_reducible first|apply ag|(refine O _ ?_;clear O U)|refine kN iH fun K hK=>?_|refine kO fun K hK=>?_|refine aI ?_)|(refine xS rfl fun U O=>?_;simp only [go_sem,hlt2,ap,hy',aq,ab,hyx])|apply iB)
    all_goals first
     |(exfalso;omega)
     |exact ⟨m - 1,⟨by omega,hA.next hy hyx⟩,by omega,(ao [] (by simp [lk,ae]<;>omega))⟩
   ·have hins:=hins m hm hA (fun y' _ h=>by rw [hy] at h;cases h;omega)
    repeat' (first|((with_reducible first|(refine hK _ ?_;clear hK K)|refine aj fun U O=>?_|apply ah|(apply Z<;>(intro hc;try simp at hc;try omega)))<;>try simp only [go_sem,hlt2,ap,hy',aq,ab,hyx])|(with_reducible first|apply ag|(refine O _ ?_;clear O U)|refine kN iH fun K hK=>?_|refine kO fun K hK=>?_|refine aI ?_)|(refine xS rfl fun U O=>?_;simp only [go_sem,hlt2,ap,hy',aq,ab,hyx])|apply iB)
    all_goals first
     |(exfalso;omega)
     |skip
    refine bF 13 ax rfl (fun K hK=>?_)
    refine aT 1 rfl rfl rfl (aL (.inl rfl)) ?_
    try simp only [go_sem,aA,aB,aC,htl,hdl,htx,hm,hmd,Nat.le_refl,List.length_append,aR,aM]
    refine aT 2 rfl rfl rfl (aL (.inl rfl)) ?_
    try simp only [go_sem,aA,aB,aC,htl,hdl,htx,hm,hmd,Nat.le_refl,List.length_append,aR,aM]
    refine aT 3 rfl rfl rfl (gO rfl (aa _ _ jR) rfl rfl rfl (by omega) (by omega) (by omega) rfl) ?_
    try simp only [go_sem,aA,aB,aC,htl,hdl,htx,hm,hmd,Nat.le_refl,List.length_append,aR,aM]
    refine aT 5 rfl rfl rfl (aL (.inl rfl)) ?_
    try simp only [go_sem,aA,aB,aC,htl,hdl,htx,hm,hmd,Nat.le_refl,List.length_append,aR,aM]
    refine aT 8 rfl rfl rfl (aL (.inl rfl)) ?_
    try simp only [go_sem,aA,aB,aC,htl,hdl,htx,hm,hmd,Nat.le_refl,List.length_append,aR,aM]
    refine aT 9 rfl rfl rfl (aL (.inl rfl)) ?_
    try simp only [go_sem,aA,aB,aC,htl,hdl,htx,hm,hmd,Nat.le_refl,List.length_append,aR,aM]
    refine aT 10 rfl rfl rfl (gO rfl (aa _ _ jR) rfl rfl rfl (by omega) (by omega) (by omega) rfl) ?_
    try simp only [go_sem,aA,aB,aC,htl,hdl,htx,hm,hmd,Nat.le_refl,List.length_append,aR,aM]
    repeat' (first
     |((with_reducible refine O _ ?_);clear O U;try simp only [go_sem,aA,aB,aC,htl,hdl,htx,hm,hmd,Nat.le_refl,List.length_append,aR,aM])
     |((with_reducible refine bB ?_);first
      |(refine aT 12 rfl rfl rfl (aL (.inr rfl)) ?_;try simp only [go_sem,aA,aB,aC,htl,hdl,htx,hm,hmd,Nat.le_refl,List.length_append,aR,aM])
      |((first|((with_reducible first|refine aS (fuel:=5) [0,6] ?_|refine aS (fuel:=4) [4,6] ?_);refine ⟨⟨_,rfl,fun U O=>?_⟩,⟨_,rfl,fun U O=>?_⟩,trivial⟩)|((with_reducible first|refine aS (fuel:=4) [0] ?_|refine aS (fuel:=3) [6] ?_|refine aS (fuel:=3) [4] ?_|refine aS (fuel:=2) [7] ?_|refine aS (fuel:=1) [11] ?_);refine ⟨⟨_,rfl,fun U O=>?_⟩,trivial⟩))<;>((first|with_reducible refine aX rfl ?_|refine aP rfl ?_);simp only [go_sem,aA,aB,aC,htl,hdl,htx,hm,hmd,Nat.le_refl,List.length_append,aR,aM]))
      |(refine bk (by decide +kernel) (hK _ ?_);clear hK K;try simp only [go_sem,aA,aB,aC,htl,hdl,htx,hm,hmd,Nat.le_refl,List.length_append,aR,aM]))
     |with_reducible refine aI ?_
     |with_reducible refine ba ?_|with_reducible refine bm ?_|with_reducible refine bc ?_)
    all_goals
     repeat' (first|((with_reducible first|(refine hK _ ?_;clear hK K)|refine aj fun U O=>?_|apply ah|(apply Z<;>(intro hc;try simp at hc;try omega)))<;>try simp only [go_sem])|(with_reducible first|apply ag|(refine O _ ?_;clear O U)|refine kN iH fun K hK=>?_|refine kO fun K hK=>?_|refine aI ?_)|(refine xS rfl fun U O=>?_;simp only [go_sem])|apply iB)
     exact ⟨k + 1,by omega,by omega,(ao [] (by simp [lk,ae,hins,ab]<;>omega))⟩
  ·have hins:=hins m hm hA (fun y' h _=>by omega)
   repeat' (first|((with_reducible first|(refine hK _ ?_;clear hK K)|refine aj fun U O=>?_|apply ah|(apply Z<;>(intro hc;try simp at hc;try omega)))<;>try simp only [go_sem])|(with_reducible first|apply ag|(refine O _ ?_;clear O U)|refine kN iH fun K hK=>?_|refine kO fun K hK=>?_|refine aI ?_)|(refine xS rfl fun U O=>?_;simp only [go_sem])|apply iB)
   all_goals first
    |(exfalso;omega)
    |skip
   refine bF 13 ax rfl (fun K hK=>?_)
   refine aT 1 rfl rfl rfl (aL (.inl rfl)) ?_
   try simp only [go_sem,aA,aB,aC,htl,hdl,htx,hm,hmd,Nat.le_refl,List.length_append,aR,aM]
   refine aT 2 rfl rfl rfl (aL (.inl rfl)) ?_
   try simp only [go_sem,aA,aB,aC,htl,hdl,htx,hm,hmd,Nat.le_refl,List.length_append,aR,aM]
   refine aT 3 rfl rfl rfl (gO rfl (aa _ _ jR) rfl rfl rfl (by omega) (by omega) (by omega) rfl) ?_
   try simp only [go_sem,aA,aB,aC,htl,hdl,htx,hm,hmd,Nat.le_refl,List.length_append,aR,aM]
   refine aT 5 rfl rfl rfl (aL (.inl rfl)) ?_
   try simp only [go_sem,aA,aB,aC,htl,hdl,htx,hm,hmd,Nat.le_refl,List.length_append,aR,aM]
   refine aT 8 rfl rfl rfl (aL (.inl rfl)) ?_
   try simp only [go_sem,aA,aB,aC,htl,hdl,htx,hm,hmd,Nat.le_refl,List.length_append,aR,aM]
   refine aT 9 rfl rfl rfl (aL (.inl rfl)) ?_
   try simp only [go_sem,aA,aB,aC,htl,hdl,htx,hm,hmd,Nat.le_refl,List.length_append,aR,aM]
   refine aT 10 rfl rfl rfl (gO rfl (aa _ _ jR) rfl rfl rfl (by omega) (by omega) (by omega) rfl) ?_
   try simp only [go_sem,aA,aB,aC,htl,hdl,htx,hm,hmd,Nat.le_refl,List.length_append,aR,aM]
   repeat' (first
    |((with_reducible refine O _ ?_);clear O U;try simp only [go_sem,aA,aB,aC,htl,hdl,htx,hm,hmd,Nat.le_refl,List.length_append,aR,aM])
    |((with_reducible refine bB ?_);first
     |(refine aT 12 rfl rfl rfl (aL (.inr rfl)) ?_;try simp only [go_sem,aA,aB,aC,htl,hdl,htx,hm,hmd,Nat.le_refl,List.length_append,aR,aM])
     |((first|((with_reducible first|refine aS (fuel:=5) [0,6] ?_|refine aS (fuel:=4) [4,6] ?_);refine ⟨⟨_,rfl,fun U O=>?_⟩,⟨_,rfl,fun U O=>?_⟩,trivial⟩)|((with_reducible first|refine aS (fuel:=4) [0] ?_|refine aS (fuel:=3) [6] ?_|refine aS (fuel:=3) [4] ?_|refine aS (fuel:=2) [7] ?_|refine aS (fuel:=1) [11] ?_);refine ⟨⟨_,rfl,fun U O=>?_⟩,trivial⟩))<;>((first|with_reducible refine aX rfl ?_|refine aP rfl ?_);simp only [go_sem,aA,aB,aC,htl,hdl,htx,hm,hmd,Nat.le_refl,List.length_append,aR,aM]))
     |(refine bk (by decide +kernel) (hK _ ?_);clear hK K;try simp only [go_sem,aA,aB,aC,htl,hdl,htx,hm,hmd,Nat.le_refl,List.length_append,aR,aM]))
    |with_reducible refine aI ?_
    |with_reducible refine ba ?_|with_reducible refine bm ?_|with_reducible refine bc ?_)
   all_goals
    repeat' (first|((with_reducible first|(refine hK _ ?_;clear hK K)|refine aj fun U O=>?_|apply ah|(apply Z<;>(intro hc;try simp at hc;try omega)))<;>try simp only [go_sem])|(with_reducible first|apply ag|(refine O _ ?_;clear O U)|refine kN iH fun K hK=>?_|refine kO fun K hK=>?_|refine aI ?_)|(refine xS rfl fun U O=>?_;simp only [go_sem])|apply iB)
    exact ⟨k + 1,by omega,by omega,(ao [] (by simp [lk,ae,hins,ab]<;>omega))⟩
 ·have e:xs.take k = xs:=List.take_of_length_le (by omega)
  rw [e]
  have hsl:=gw xs
  repeat' (first|((with_reducible first|(refine hK _ ?_;clear hK K)|refine aj fun U O=>?_|apply ah|(apply Z<;>(intro hc;try simp at hc;try omega)))<;>try simp only [go_sem])|(with_reducible first|apply ag|(refine O _ ?_;clear O U)|refine kN iH fun K hK=>?_|refine kO fun K hK=>?_|refine aI ?_)|(refine xS rfl fun U O=>?_;simp only [go_sem])|apply iB)
  all_goals first
   |(exfalso;omega)
   |(refine ak rfl (by simp only [hsl,bl,bn,ae,lk,an,aM,List.length_append,List.length_take,if_true,if_false,Nat.reduceEqDiff,Nat.reduceBEq,Bool.false_eq_true,Option.some.injEq];rfl) (by simp [am,lk]) ?_;rfl)
end Go.Proofs.YtphakidbddamfaaGreat
