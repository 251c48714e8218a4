/-
  Scores after inquiries: the reference's functions, in the abstract machine.
-/
import Derived.Test.YtphakidbddamfaaGreatZSg
import Derived.Test.YtphakidbddamfaaGreatZTkg
import Derived.Test.YtphakidbddamfaaGreatZIq
import Derived.Test.YtphakidbddamfaaGreatZIr
import Derived.Test.YtphakidbddamfaaGreatZCw
import Derived.Test.YtphakidbddamfaaGreatZDh
import Derived.Test.YtphakidbddamfaaGreatZJa
set_option linter.unusedSimpArgs false
set_option linter.unusedVariables false
set_option maxHeartbeats 2000000
set_option maxRecDepth 100000
namespace Go.Proofs.YtphakidbddamfaaGreat
open Go.RowKit
theorem pg (m:MarksD) (hf:MkFit 1048576 m):FnAg Tryz.prog 132 [.agg m.cs] [.deep 23 1 (m.grades.map (aF 1 ab)),.deep 23 1 (m.components.map (aF 1 ab))]:=by
 obtain ⟨⟨hf1,hf2⟩,hf3,hf4⟩:=hf
 refine mt aa Tryz.func132 rfl rfl ?_;simp only [Tryz.ntmps132,aR,aM,Nat.reduceAdd,Nat.reduceSub,aW]
 repeat' (first|with_reducible refine bs (id:=1) ?_|with_reducible refine br (id:=1) ?_|((with_reducible first|(refine hK _ ?_;clear hK K)|refine aj fun U O=>?_|apply ah|(apply Z<;>(intro hc;try simp at hc;try omega)))<;>try simp only [go_sem])|(with_reducible first|apply ag|(refine O _ ?_;clear O U)|refine kN fw fun K hK=>?_|refine kO fun K hK=>?_|refine aI ?_)|(with_reducible apply cN fw ax)|(with_reducible refine eT ax ?_)|((first|refine ay aa [0,2] (by decide +kernel) rfl ?_|refine ay aa [1,2] (by decide +kernel) rfl ?_|refine ay aa [2] (by decide +kernel) rfl ?_|refine ay aa [3] (by decide +kernel) rfl ?_|refine ay aa [4] (by decide +kernel) rfl ?_|refine ay aa [5] (by decide +kernel) rfl ?_|refine ay aa [6] (by decide +kernel) rfl ?_|refine ay aa [7] (by decide +kernel) rfl ?_|refine ay aa [1,3] (by decide +kernel) rfl ?_|refine ay aa [1,4] (by decide +kernel) rfl ?_|refine ay aa [1] (by decide +kernel) rfl ?_|refine ay aa [0,3] (by decide +kernel) rfl ?_|refine ay aa [0,4] (by decide +kernel) rfl ?_|refine ay aa [0] (by decide +kernel) rfl ?_);(repeat' with_reducible first|exact True.intro|refine And.intro ?_ ?_)<;>refine ⟨_,rfl,fun U O=>?_⟩<;>((first|with_reducible refine aX rfl ?_|refine aP rfl ?_);simp only [go_sem]))|(refine ej (by decide +kernel) ?_;try simp only [go_sem])|(with_reducible exact Or.inl rfl)|(exact Or.inr (ao [] (by simp [lk,ae]<;>omega)))|apply iB)
 unfold eF
 refine cm (ck ?_)
 refine dJ 23 1 23 1 rfl (aa _ _ fT) rfl ?_
 refine a9 aa ?_
 simp only [go_sem]
 refine a9 aa ?_
 simp only [go_sem,ge,fC]
 refine ba ?_
 refine dP 2 rfl (fun _ h=>by cases h) ?_
 refine dP 3 rfl (fun _ h=>by cases h) ?_
 simp only [go_sem]
 repeat' (first|((with_reducible first|(refine hK _ ?_;clear hK K)|refine aj fun U O=>?_|apply ah|(apply Z<;>(intro hc;try simp at hc;try omega)))<;>try simp only [go_sem])|(with_reducible first|apply ag|(refine O _ ?_;clear O U)|refine kN fw fun K hK=>?_|refine kO fun K hK=>?_|refine aI ?_)|apply iB)
 refine aD [5,12,13,14,15,16,17,18,19,20,21,22,23] (fun k:Nat=>[(1,.bptr 0 0),(2,.bptr 1 0),(3,.bptr 2 0),(8,.und),(12,.d (.int .i64 (k:Int)))]) (fun k=>[(0,.box 45 m.cs),(1,.box 45 [.d (.lst 1 []),.d (.lst 1 [])]),(2,.box 45 [.row 3 k,.row 4 0]),(3,.deep 0 23 1 ((m.grades.take k).map (aF 1 ab))),(4,.deep 0 23 1 [])]) 5 (fun k=>k≤m.grades.length) (fun k=>m.grades.length - k) 0 (Nat.zero_le _) (ao [(3,2),(4,3)] (by simp [lk,ae,List.take_zero]<;>omega)) ?_
 intro k hk;simp only [bi,wipe,wl,bh,bw,rm,if_true,if_false,Nat.reduceEqDiff,Bool.false_eq_true,reduceCtorEq]
 by_cases hlt:k < m.grades.length
 ·have hx:=List.getElem?_eq_getElem hlt
  generalize m.grades[k] = x at hx
  have hxl:=hf2 x (List.mem_of_getElem? hx)
  have hyt:=bW hx
  have htl:((m.grades.take k).map (aF 1 ab)).length = k:=by simp;omega
  repeat' (first|((with_reducible first|(refine hK _ ?_;clear hK K)|refine aj fun U O=>?_|apply ah|(apply Z<;>(intro hc;try simp at hc;try omega)))<;>try simp only [go_sem,ap,hx,aq,aF,hlt])|(with_reducible first|apply ag|(refine O _ ?_;clear O U)|refine kN fw fun K hK=>?_|refine kO fun K hK=>?_|refine aI ?_)|apply iB)
  refine bF 8 ax rfl (fun K hK=>?_)
  refine aT 0 rfl rfl rfl (aY rfl (aa _ _ fT) rfl rfl) ?_
  try simp only [go_sem,aA,aB,aC,an,aF]
  refine aT 2 rfl rfl rfl (aL (.inl rfl)) ?_
  try simp only [go_sem,aA,aB,aC,an,aF]
  repeat' (first
   |((with_reducible refine O _ ?_);clear O U;try simp only [go_sem,aA,aB,aC,an,aF])
   |((with_reducible refine bB ?_);first
    |(refine aT 6 rfl rfl rfl (aY rfl (aa _ _ fT) rfl rfl) ?_;try simp only [go_sem,aA,aB,aC,an,aF])
    |((first|((with_reducible first|refine aS (fuel:=5) [1,3] ?_|refine aS (fuel:=4) [1,4] ?_);refine ⟨⟨_,rfl,fun U O=>?_⟩,⟨_,rfl,fun U O=>?_⟩,trivial⟩)|((with_reducible first|refine aS (fuel:=4) [3] ?_|refine aS (fuel:=3) [4] ?_|refine aS (fuel:=3) [1] ?_|refine aS (fuel:=2) [5] ?_|refine aS (fuel:=0) [7] ?_);refine ⟨⟨_,rfl,fun U O=>?_⟩,trivial⟩))<;>((first|with_reducible refine aX rfl ?_|refine aP rfl ?_);simp only [go_sem,aA,aB,aC,an,aF]))
    |(refine bk (by decide +kernel) (hK _ ?_);clear hK K;try simp only [go_sem,aA,aB,aC,an,aF]))
   |((with_reducible apply CallK.eq);(focus (with_reducible first|exact iI x (by omega)));(focus (first|exact rfl|(simp [RV.flat,D.sc,ab];done)));try simp only [go_sem,aA,aB,aC,an,aF])
   |((refine bA (cs:=[.row 5 x.length]) (ds:=aF 1 ab x) rfl (aa _ _ jU) (by decide) rfl (by simp [dE,dL,ae,D.scB,aF]) (by simp [bb]) (by simp only [cY,cy,ae,if_true,if_false,Nat.reduceEqDiff];exact ⟨bT _,trivial⟩) ?_);(refine O _ ?_);(clear O U);(simp only [go_sem,aF,an]))
   |((refine bM (es:=(m.grades.take k).map (aF 1 ab)) (fs:=[aF 1 ab x]) (n:=k) (n2:=1) rfl (aa _ _ jU) rfl rfl rfl rfl (by decide) htl rfl (by exact True.intro) (by exact True.intro) (by simp<;>omega) ?_);(refine O _ ?_);(clear O U);(simp only [go_sem,aF,an]))
   |with_reducible refine aI ?_
   |with_reducible refine ba ?_|with_reducible refine bm ?_|with_reducible refine bc ?_)
  all_goals
   repeat' (first|((with_reducible first|(refine hK _ ?_;clear hK K)|refine aj fun U O=>?_|apply ah|(apply Z<;>(intro hc;try simp at hc;try omega)))<;>try simp only [go_sem])|(with_reducible first|apply ag|(refine O _ ?_;clear O U)|refine kN fw fun K hK=>?_|refine kO fun K hK=>?_|refine aI ?_)|(with_reducible apply cN fw ax)|(with_reducible refine eT ax ?_)|((first|refine ay aa [0,2] (by decide +kernel) rfl ?_|refine ay aa [1,2] (by decide +kernel) rfl ?_|refine ay aa [2] (by decide +kernel) rfl ?_|refine ay aa [3] (by decide +kernel) rfl ?_|refine ay aa [4] (by decide +kernel) rfl ?_|refine ay aa [5] (by decide +kernel) rfl ?_|refine ay aa [6] (by decide +kernel) rfl ?_|refine ay aa [7] (by decide +kernel) rfl ?_|refine ay aa [1,3] (by decide +kernel) rfl ?_|refine ay aa [1,4] (by decide +kernel) rfl ?_|refine ay aa [1] (by decide +kernel) rfl ?_|refine ay aa [0,3] (by decide +kernel) rfl ?_|refine ay aa [0,4] (by decide +kernel) rfl ?_|refine ay aa [0] (by decide +kernel) rfl ?_);(repeat' with_reducible first|exact True.intro|refine And.intro ?_ ?_)<;>refine ⟨_,rfl,fun U O=>?_⟩<;>((first|with_reducible refine aX rfl ?_|refine aP rfl ?_);simp only [go_sem]))|(refine ej (by decide +kernel) ?_;try simp only [go_sem])|(with_reducible exact Or.inl rfl)|(exact Or.inr (ao [] (by simp [lk,ae]<;>omega)))|apply iB)
   exact ⟨k + 1,by omega,by omega,(ao [(3,7),(4,4)] (by simp [lk,ae,aF,hyt,-List.map_take]<;>omega))⟩
 obtain rfl:k = m.grades.length:=by omega
 rw [List.take_length]
 repeat' (first|((with_reducible first|(refine hK _ ?_;clear hK K)|refine aj fun U O=>?_|apply ah|(apply Z<;>(intro hc;try simp at hc;try omega)))<;>try simp only [go_sem])|(with_reducible first|apply ag|(refine O _ ?_;clear O U)|refine kN fw fun K hK=>?_|refine kO fun K hK=>?_|refine aI ?_)|apply iB)
 refine aD [7,27,28,29,30,31,32,33,34,35,36,37,38] (fun k:Nat=>[(1,.bptr 0 0),(2,.bptr 1 0),(3,.bptr 2 0),(27,.d (.int .i64 (k:Int)))]) (fun k=>[(0,.box 45 m.cs),(1,.box 45 [.d (.lst 1 []),.d (.lst 1 [])]),(2,.box 45 [.row 3 m.grades.length,.row 4 k]),(3,.deep 0 23 1 (m.grades.map (aF 1 ab))),(4,.deep 0 23 1 ((m.components.take k).map (aF 1 ab)))]) 5 (fun k=>k≤m.components.length) (fun k=>m.components.length - k) 0 (Nat.zero_le _) (ao [(3,3),(4,4)] (by simp [lk,ae,List.take_zero]<;>omega)) ?_
 intro k hk;simp only [bi,wipe,wl,bh,bw,rm,if_true,if_false,Nat.reduceEqDiff,Bool.false_eq_true,reduceCtorEq]
 by_cases hlt:k < m.components.length
 ·have hx:=List.getElem?_eq_getElem hlt
  generalize m.components[k] = x at hx
  have hxl:=hf4 x (List.mem_of_getElem? hx)
  have hyt:=bW hx
  have htl:((m.components.take k).map (aF 1 ab)).length = k:=by simp;omega
  repeat' (first|((with_reducible first|(refine hK _ ?_;clear hK K)|refine aj fun U O=>?_|apply ah|(apply Z<;>(intro hc;try simp at hc;try omega)))<;>try simp only [go_sem,ap,hx,aq,aF,hlt])|(with_reducible first|apply ag|(refine O _ ?_;clear O U)|refine kN fw fun K hK=>?_|refine kO fun K hK=>?_|refine aI ?_)|apply iB)
  refine bF 8 ax rfl (fun K hK=>?_)
  refine aT 0 rfl rfl rfl (aY rfl (aa _ _ fT) rfl rfl) ?_
  try simp only [go_sem,aA,aB,aC,an,aF]
  refine aT 2 rfl rfl rfl (aL (.inl rfl)) ?_
  try simp only [go_sem,aA,aB,aC,an,aF]
  repeat' (first
   |((with_reducible refine O _ ?_);clear O U;try simp only [go_sem,aA,aB,aC,an,aF])
   |((with_reducible refine bB ?_);first
    |(refine aT 6 rfl rfl rfl (aY rfl (aa _ _ fT) rfl rfl) ?_;try simp only [go_sem,aA,aB,aC,an,aF])
    |((first|((with_reducible first|refine aS (fuel:=5) [1,3] ?_|refine aS (fuel:=4) [1,4] ?_);refine ⟨⟨_,rfl,fun U O=>?_⟩,⟨_,rfl,fun U O=>?_⟩,trivial⟩)|((with_reducible first|refine aS (fuel:=4) [3] ?_|refine aS (fuel:=3) [4] ?_|refine aS (fuel:=3) [1] ?_|refine aS (fuel:=2) [5] ?_|refine aS (fuel:=0) [7] ?_);refine ⟨⟨_,rfl,fun U O=>?_⟩,trivial⟩))<;>((first|with_reducible refine aX rfl ?_|refine aP rfl ?_);simp only [go_sem,aA,aB,aC,an,aF]))
    |(refine bk (by decide +kernel) (hK _ ?_);clear hK K;try simp only [go_sem,aA,aB,aC,an,aF]))
   |((with_reducible apply CallK.eq);(focus (with_reducible first|exact iI x (by omega)));(focus (first|exact rfl|(simp [RV.flat,D.sc,ab];done)));try simp only [go_sem,aA,aB,aC,an,aF])
   |((refine bA (cs:=[.row 5 x.length]) (ds:=aF 1 ab x) rfl (aa _ _ jU) (by decide) rfl (by simp [dE,dL,ae,D.scB,aF]) (by simp [bb]) (by simp only [cY,cy,ae,if_true,if_false,Nat.reduceEqDiff];exact ⟨bT _,trivial⟩) ?_);(refine O _ ?_);(clear O U);(simp only [go_sem,aF,an]))
   |((refine bM (es:=(m.components.take k).map (aF 1 ab)) (fs:=[aF 1 ab x]) (n:=k) (n2:=1) rfl (aa _ _ jU) rfl rfl rfl rfl (by decide) htl rfl (by exact True.intro) (by exact True.intro) (by simp<;>omega) ?_);(refine O _ ?_);(clear O U);(simp only [go_sem,aF,an]))
   |with_reducible refine aI ?_
   |with_reducible refine ba ?_|with_reducible refine bm ?_|with_reducible refine bc ?_)
  all_goals
   repeat' (first|((with_reducible first|(refine hK _ ?_;clear hK K)|refine aj fun U O=>?_|apply ah|(apply Z<;>(intro hc;try simp at hc;try omega)))<;>try simp only [go_sem])|(with_reducible first|apply ag|(refine O _ ?_;clear O U)|refine kN fw fun K hK=>?_|refine kO fun K hK=>?_|refine aI ?_)|(with_reducible apply cN fw ax)|(with_reducible refine eT ax ?_)|((first|refine ay aa [0,2] (by decide +kernel) rfl ?_|refine ay aa [1,2] (by decide +kernel) rfl ?_|refine ay aa [2] (by decide +kernel) rfl ?_|refine ay aa [3] (by decide +kernel) rfl ?_|refine ay aa [4] (by decide +kernel) rfl ?_|refine ay aa [5] (by decide +kernel) rfl ?_|refine ay aa [6] (by decide +kernel) rfl ?_|refine ay aa [7] (by decide +kernel) rfl ?_|refine ay aa [1,3] (by decide +kernel) rfl ?_|refine ay aa [1,4] (by decide +kernel) rfl ?_|refine ay aa [1] (by decide +kernel) rfl ?_|refine ay aa [0,3] (by decide +kernel) rfl ?_|refine ay aa [0,4] (by decide +kernel) rfl ?_|refine ay aa [0] (by decide +kernel) rfl ?_);(repeat' with_reducible first|exact True.intro|refine And.intro ?_ ?_)<;>refine ⟨_,rfl,fun U O=>?_⟩<;>((first|with_reducible refine aX rfl ?_|refine aP rfl ?_);simp only [go_sem]))|(refine ej (by decide +kernel) ?_;try simp only [go_sem])|(with_reducible exact Or.inl rfl)|(exact Or.inr (ao [] (by simp [lk,ae]<;>omega)))|apply iB)
   exact ⟨k + 1,by omega,by omega,(ao [(3,3),(4,7)] (by simp [lk,ae,aF,hyt,-List.map_take]<;>omega))⟩
 obtain rfl:k = m.components.length:=by omega
 rw [List.take_length]
 repeat' (first|((with_reducible first|(refine hK _ ?_;clear hK K)|refine aj fun U O=>?_|apply ah|(apply Z<;>(intro hc;try simp at hc;try omega)))<;>try simp only [go_sem])|(with_reducible first|apply ag|(refine O _ ?_;clear O U)|refine kN fw fun K hK=>?_|refine kO fun K hK=>?_|refine aI ?_)|(with_reducible apply cN fw ax)|(with_reducible refine eT ax ?_)|((first|refine ay aa [0,2] (by decide +kernel) rfl ?_|refine ay aa [1,2] (by decide +kernel) rfl ?_|refine ay aa [2] (by decide +kernel) rfl ?_|refine ay aa [3] (by decide +kernel) rfl ?_|refine ay aa [4] (by decide +kernel) rfl ?_|refine ay aa [5] (by decide +kernel) rfl ?_|refine ay aa [6] (by decide +kernel) rfl ?_|refine ay aa [7] (by decide +kernel) rfl ?_|refine ay aa [1,3] (by decide +kernel) rfl ?_|refine ay aa [1,4] (by decide +kernel) rfl ?_|refine ay aa [1] (by decide +kernel) rfl ?_|refine ay aa [0,3] (by decide +kernel) rfl ?_|refine ay aa [0,4] (by decide +kernel) rfl ?_|refine ay aa [0] (by decide +kernel) rfl ?_);(repeat' with_reducible first|exact True.intro|refine And.intro ?_ ?_)<;>refine ⟨_,rfl,fun U O=>?_⟩<;>((first|with_reducible refine aX rfl ?_|refine aP rfl ?_);simp only [go_sem]))|(refine ej (by decide +kernel) ?_;try simp only [go_sem])|(with_reducible exact Or.inl rfl)|(exact Or.inr (ao [] (by simp [lk,ae]<;>omega)))|apply iB)
 refine ⟨_,rfl,by simp only [bl,bn,ae,lk,List.take_succ_cons,List.take_zero,List.drop_zero,an,if_true,if_false,Nat.reduceEqDiff],by simp [am,lk]⟩
theorem uB (p:PerfD) (l:List ItemD) (hpf:PfFit 1048576 p) (hn:l.length≤1048576) (hs:∀ r ∈ l,ItFit 1048576 r):FnAg Tryz.prog 82 [.agg p.cs,.d (.lst 3 (l.map ItemD.dat))] [dO l,.deep 23 1 (p.marks.grades.map (aF 1 ab)),.deep 23 1 (p.marks.components.map (aF 1 ab)),.d (.int .i64 p.slips.falls),.d (.int .i64 p.slips.seconds),.d (.int .i64 p.slips.other)]:=by
 have hi:=ir l hn hs
 by_cases h0:l.length = 0
 ·rw [show dO l = _ from if_pos h0] at hi ⊢
  refine mt aa Tryz.func82 rfl rfl ?_;simp only [Tryz.ntmps82,aR,aM,Nat.reduceAdd,Nat.reduceSub,aW]
  repeat' (first|((with_reducible first|(refine hK _ ?_;clear hK K)|refine aj fun U O=>?_|apply ah|(apply Z<;>(intro hc;try simp at hc;try omega)))<;>try simp only [go_sem])|(with_reducible first|apply ag|(refine O _ ?_;clear O U)|refine kN jX fun K hK=>?_|refine kO fun K hK=>?_|refine aI ?_)|fail)
  refine bJ 9 jX ax rfl (fun K hK=>?_)
  refine aT 0 rfl rfl rfl (aL (.inl rfl)) ?_
  try simp only [go_sem,aA,aB,aC,an,aM]
  refine aT 2 rfl rfl rfl (aY rfl (aa _ _ om) rfl rfl) ?_
  try simp only [go_sem,aA,aB,aC,an,aM]
  refine aT 5 rfl rfl rfl (aY rfl (aa _ _ om) rfl rfl) ?_
  try simp only [go_sem,aA,aB,aC,an,aM]
  repeat' (first
   |((with_reducible refine O _ ?_);clear O U;try simp only [go_sem,aA,aB,aC,an,aM])
   |((with_reducible refine bB ?_);first
    |((first|((with_reducible first|refine aS (fuel:=5) [1,3,6] ?_);refine ⟨⟨_,rfl,fun U O=>?_⟩,⟨_,rfl,fun U O=>?_⟩,⟨_,rfl,fun U O=>?_⟩,trivial⟩)|((with_reducible first|refine aS (fuel:=4) [3,6] ?_|refine aS (fuel:=4) [1,6] ?_|refine aS (fuel:=4) [1,3] ?_|refine aS (fuel:=3) [4,6] ?_);refine ⟨⟨_,rfl,fun U O=>?_⟩,⟨_,rfl,fun U O=>?_⟩,trivial⟩)|((with_reducible first|refine aS (fuel:=3) [3] ?_|refine aS (fuel:=3) [1] ?_|refine aS (fuel:=2) [6] ?_|refine aS (fuel:=2) [4] ?_|refine aS (fuel:=1) [7] ?_|refine aS (fuel:=0) [8] ?_);refine ⟨⟨_,rfl,fun U O=>?_⟩,trivial⟩))<;>((first|with_reducible refine aX rfl ?_|refine aP rfl ?_);simp only [go_sem,aA,aB,aC,an,aM]))
    |(refine bk (by decide +kernel) (hK _ ?_);clear hK K;try simp only [go_sem,aA,aB,aC,an,aM]))
   |((with_reducible apply CallK.eq);(focus (with_reducible first|exact hi));(focus (first|exact rfl|(simp [RV.flat,D.sc,ab];done)));try simp only [go_sem,aA,aB,aC,an,aM])
   |((refine CallK.po (jF rfl rfl (pg p.marks hpf.2) ⟨fun h=>by simp [AS.get,lk,fp,lm,mV] at h,?_⟩));(refine O _ ?_);(clear O U);(simp only [go_sem,an]))
   |with_reducible refine aI ?_)
  all_goals
   repeat' (first|((with_reducible first|(refine hK _ ?_;clear hK K)|refine aj fun U O=>?_|apply ah|(apply Z<;>(intro hc;try simp at hc;try omega)))<;>try simp only [go_sem])|(with_reducible first|apply ag|(refine O _ ?_;clear O U)|refine kN jX fun K hK=>?_|refine kO fun K hK=>?_|refine aI ?_)|(with_reducible apply cN jX ax)|(with_reducible refine eT ax ?_)|((first|refine ay aa [0,2,5] (by decide +kernel) rfl ?_|refine ay aa [1,2,5] (by decide +kernel) rfl ?_|refine ay aa [2,5] (by decide +kernel) rfl ?_|refine ay aa [3,5] (by decide +kernel) rfl ?_|refine ay aa [4,5] (by decide +kernel) rfl ?_|refine ay aa [5] (by decide +kernel) rfl ?_|refine ay aa [6] (by decide +kernel) rfl ?_|refine ay aa [7] (by decide +kernel) rfl ?_|refine ay aa [8] (by decide +kernel) rfl ?_|refine ay aa [4,6] (by decide +kernel) rfl ?_|refine ay aa [4] (by decide +kernel) rfl ?_|refine ay aa [3,6] (by decide +kernel) rfl ?_|refine ay aa [3] (by decide +kernel) rfl ?_|refine ay aa [2,6] (by decide +kernel) rfl ?_|refine ay aa [2] (by decide +kernel) rfl ?_|refine ay aa [1,3,5] (by decide +kernel) rfl ?_|refine ay aa [1,5] (by decide +kernel) rfl ?_|refine ay aa [1,6] (by decide +kernel) rfl ?_|refine ay aa [1] (by decide +kernel) rfl ?_|refine ay aa [1,3,6] (by decide +kernel) rfl ?_|refine ay aa [1,3] (by decide +kernel) rfl ?_|refine ay aa [1,2,6] (by decide +kernel) rfl ?_|refine ay aa [1,2] (by decide +kernel) rfl ?_|refine ay aa [0,3,5] (by decide +kernel) rfl ?_|refine ay aa [0,5] (by decide +kernel) rfl ?_|refine ay aa [0,6] (by decide +kernel) rfl ?_|refine ay aa [0] (by decide +kernel) rfl ?_|refine ay aa [0,3,6] (by decide +kernel) rfl ?_|refine ay aa [0,3] (by decide +kernel) rfl ?_|refine ay aa [0,2,6] (by decide +kernel) rfl ?_|refine ay aa [0,2] (by decide +kernel) rfl ?_);(repeat' with_reducible first|exact True.intro|refine And.intro ?_ ?_)<;>refine ⟨_,rfl,fun U O=>?_⟩<;>((first|with_reducible refine aX rfl ?_|refine aP rfl ?_);simp only [go_sem]))|(refine ej (by decide +kernel) ?_;try simp only [go_sem])|(with_reducible exact Or.inl rfl)|(exact Or.inr (ao [] (by simp [lk,ae]<;>omega)))|fail)
   refine ⟨_,rfl,by simp only [bl,bn,ae,lk,List.take_succ_cons,List.take_zero,List.drop_zero,an,aM,if_true,if_false,Nat.reduceEqDiff],by simp [am,bb,lk]⟩
 ·rw [show dO l = _ from if_neg h0] at hi ⊢
  refine mt aa Tryz.func82 rfl rfl ?_;simp only [Tryz.ntmps82,aR,aM,Nat.reduceAdd,Nat.reduceSub,aW]
  repeat' (first|((with_reducible first|(refine hK _ ?_;clear hK K)|refine aj fun U O=>?_|apply ah|(apply Z<;>(intro hc;try simp at hc;try omega)))<;>try simp only [go_sem])|(with_reducible first|apply ag|(refine O _ ?_;clear O U)|refine kN jX fun K hK=>?_|refine kO fun K hK=>?_|refine aI ?_)|fail)
  refine bJ 9 jX ax rfl (fun K hK=>?_)
  refine aT 0 rfl rfl rfl (aL (.inl rfl)) ?_
  try simp only [go_sem,aA,aB,aC,an,aM]
  refine aT 2 rfl rfl rfl (aY rfl (aa _ _ om) rfl rfl) ?_
  try simp only [go_sem,aA,aB,aC,an,aM]
  refine aT 5 rfl rfl rfl (aY rfl (aa _ _ om) rfl rfl) ?_
  try simp only [go_sem,aA,aB,aC,an,aM]
  repeat' (first
   |((with_reducible refine O _ ?_);clear O U;try simp only [go_sem,aA,aB,aC,an,aM])
   |((with_reducible refine bB ?_);first
    |((first|((with_reducible first|refine aS (fuel:=5) [1,3,6] ?_);refine ⟨⟨_,rfl,fun U O=>?_⟩,⟨_,rfl,fun U O=>?_⟩,⟨_,rfl,fun U O=>?_⟩,trivial⟩)|((with_reducible first|refine aS (fuel:=4) [3,6] ?_|refine aS (fuel:=4) [1,6] ?_|refine aS (fuel:=4) [1,3] ?_|refine aS (fuel:=3) [4,6] ?_);refine ⟨⟨_,rfl,fun U O=>?_⟩,⟨_,rfl,fun U O=>?_⟩,trivial⟩)|((with_reducible first|refine aS (fuel:=3) [3] ?_|refine aS (fuel:=3) [1] ?_|refine aS (fuel:=2) [6] ?_|refine aS (fuel:=2) [4] ?_|refine aS (fuel:=1) [7] ?_|refine aS (fuel:=0) [8] ?_);refine ⟨⟨_,rfl,fun U O=>?_⟩,trivial⟩))<;>((first|with_reducible refine aX rfl ?_|refine aP rfl ?_);simp only [go_sem,aA,aB,aC,an,aM]))
    |(refine bk (by decide +kernel) (hK _ ?_);clear hK K;try simp only [go_sem,aA,aB,aC,an,aM]))
   |((with_reducible apply CallK.eq);(focus (with_reducible first|exact hi));(focus (first|exact rfl|(simp [RV.flat,D.sc,ab];done)));try simp only [go_sem,aA,aB,aC,an,aM])
   |((refine CallK.po (jF rfl rfl (pg p.marks hpf.2) ⟨fun h=>by simp [AS.get,lk,fp,lm,mV] at h,?_⟩));(refine O _ ?_);(clear O U);(simp only [go_sem,an]))
   |with_reducible refine aI ?_)
  all_goals
   repeat' (first|((with_reducible first|(refine hK _ ?_;clear hK K)|refine aj fun U O=>?_|apply ah|(apply Z<;>(intro hc;try simp at hc;try omega)))<;>try simp only [go_sem])|(with_reducible first|apply ag|(refine O _ ?_;clear O U)|refine kN jX fun K hK=>?_|refine kO fun K hK=>?_|refine aI ?_)|(with_reducible apply cN jX ax)|(with_reducible refine eT ax ?_)|((first|refine ay aa [0,2,5] (by decide +kernel) rfl ?_|refine ay aa [1,2,5] (by decide +kernel) rfl ?_|refine ay aa [2,5] (by decide +kernel) rfl ?_|refine ay aa [3,5] (by decide +kernel) rfl ?_|refine ay aa [4,5] (by decide +kernel) rfl ?_|refine ay aa [5] (by decide +kernel) rfl ?_|refine ay aa [6] (by decide +kernel) rfl ?_|refine ay aa [7] (by decide +kernel) rfl ?_|refine ay aa [8] (by decide +kernel) rfl ?_|refine ay aa [4,6] (by decide +kernel) rfl ?_|refine ay aa [4] (by decide +kernel) rfl ?_|refine ay aa [3,6] (by decide +kernel) rfl ?_|refine ay aa [3] (by decide +kernel) rfl ?_|refine ay aa [2,6] (by decide +kernel) rfl ?_|refine ay aa [2] (by decide +kernel) rfl ?_|refine ay aa [1,3,5] (by decide +kernel) rfl ?_|refine ay aa [1,5] (by decide +kernel) rfl ?_|refine ay aa [1,6] (by decide +kernel) rfl ?_|refine ay aa [1] (by decide +kernel) rfl ?_|refine ay aa [1,3,6] (by decide +kernel) rfl ?_|refine ay aa [1,3] (by decide +kernel) rfl ?_|refine ay aa [1,2,6] (by decide +kernel) rfl ?_|refine ay aa [1,2] (by decide +kernel) rfl ?_|refine ay aa [0,3,5] (by decide +kernel) rfl ?_|refine ay aa [0,5] (by decide +kernel) rfl ?_|refine ay aa [0,6] (by decide +kernel) rfl ?_|refine ay aa [0] (by decide +kernel) rfl ?_|refine ay aa [0,3,6] (by decide +kernel) rfl ?_|refine ay aa [0,3] (by decide +kernel) rfl ?_|refine ay aa [0,2,6] (by decide +kernel) rfl ?_|refine ay aa [0,2] (by decide +kernel) rfl ?_);(repeat' with_reducible first|exact True.intro|refine And.intro ?_ ?_)<;>refine ⟨_,rfl,fun U O=>?_⟩<;>((first|with_reducible refine aX rfl ?_|refine aP rfl ?_);simp only [go_sem]))|(refine ej (by decide +kernel) ?_;try simp only [go_sem])|(with_reducible exact Or.inl rfl)|(exact Or.inr (ao [] (by simp [lk,ae]<;>omega)))|fail)
   refine ⟨_,rfl,by simp only [bl,bn,ae,lk,List.take_succ_cons,List.take_zero,List.drop_zero,an,aM,if_true,if_false,Nat.reduceEqDiff],by simp [am,bb,lk]⟩
theorem mh (p:PerfD) (l:List ItemD) (hpf:PfFit 1048576 p) (hn:l.length≤1048576) (hs:∀ r ∈ l,ItFit 1048576 r):FnEq Tryz.prog 82 [.agg p.cs,.d (.lst 3 (l.map ItemD.dat))] [.agg [.lst 3 (l.map ItemD.dat),.lst 1 (p.marks.grades.map (aF 1 ab)),.lst 1 (p.marks.components.map (aF 1 ab)),.int .i64 p.slips.falls,.int .i64 p.slips.seconds,.int .i64 p.slips.other]]:=
 wx (uB p l hpf hn hs) (by simp only [aJ,aH,ga];rfl)
theorem kg (c:CodeD) (p:PerfD) (f:Int) (q:List InquiryD) (hcf:CdFit 1048576 c) (hpf:PfFit 1048576 p) (hq:q.length≤1048576):FnEq Tryz.prog 19 [.agg c.cs,.agg p.cs,.d (.int .i64 f),.d (.lst 5 (q.map InquiryD.dat))] [.d (.int .i64 ((bG c p f q).getD 0)),.d (.bool (bG c p f q).isSome)]:=by
 have hs0:=sq c p f hcf hpf
 refine aO aa Tryz.func19 rfl rfl ?_;simp only [Tryz.ntmps19,aR,aM,Nat.reduceAdd,Nat.reduceSub,aW]
 by_cases hA:dK c p f
 ·have hb:=aQ hA
  have hd:=cf (jo p.items q hpf.1.1 hpf.1.2 hA.1.2.1 (by omega))
  rw [iF] at hd
  by_cases hI:cz p.items q∧q.length≤20
  ·have hb2:=aQ hI
   rw [show bG c p f q = _ from cW ⟨hA,hI⟩]
   have hw:tX p.items q = bS p.items q q.length:=if_pos (aQ hI.1)
   rw [hw] at hd
   have hfit:∀ r ∈ bS p.items q q.length,ItFit 1048576 r:=fun r hr=>by
    obtain ⟨j,hj⟩:=List.getElem?_of_mem hr
    have hlt:=(List.getElem?_eq_some_iff.1 hj).1
    rw [dq] at hlt
    have ha:=List.getElem?_eq_getElem hlt
    obtain ⟨b,hb,h1,h2,h3⟩:=fI (q:=q) ha q.length
    rw [hj] at hb
    cases hb
    obtain ⟨g1,g2,g3⟩:=hpf.1.2 _ (List.mem_of_getElem? ha)
    exact ⟨by rw [h1];exact g1,by rw [h1];exact g2,by rw [h2];exact g3⟩
   have hs1:=mh p (bS p.items q q.length) hpf (by rw [dq];exact hpf.1.1) hfit
   have hs2:=sJ c _ f (lV hA hI.1)
   generalize bS p.items q q.length = l at hd hs1 hs2 ⊢
   simp only [dz] at hs2 ⊢
   repeat' (first|((with_reducible first|(refine hK _ ?_;clear hK K)|refine aj fun U O=>?_|apply ah|(apply Z<;>(intro hc;try simp at hc;try omega)))<;>try simp only [go_sem,hb,hb2])|(with_reducible first|apply ag|(refine O _ ?_;clear O U)|refine kN kF fun K hK=>?_|refine kO fun K hK=>?_|refine aI ?_)|((with_reducible apply CallK.eq);(· with_reducible first|exact hs0|exact hd);(· simp [RV.flat,D.sc,ab]);try simp only [go_sem,hb,hb2])|fail)
   all_goals first
    |(exfalso;omega)
    |skip
   refine rf kF ax [[4],[5],[10],[27,28],[2],[26,29,30],[31],[]] 32 rfl (by decide +kernel) (fun K hK=>?_)
   repeat (first|(apply uF rfl rfl;(· simp only [go_sem,cq,aA,aB,aC];with_reducible first|exact hs1|exact hs2);(· first|rfl|simp [cq,AS.get,lk,fp,lm,mV]);try simp only [go_sem,cq,aA,aB,aC])|(apply tL rfl rfl;(· simp only [go_sem,cq,aA,aB,aC];with_reducible first|exact hs1|exact hs2);(· first|rfl|simp [cq,AS.get,lk,fp,lm,mV]);try simp only [go_sem,cq,aA,aB,aC])|(apply sT (ds:=[]) rfl rfl;(· simp only [go_sem,cq,aA,aB,aC];with_reducible first|exact hs1|exact hs2);(· first|rfl|simp [cq,AS.get,lk,fp,lm,mV]);try simp only [go_sem,cq,aA,aB,aC])|(refine sE aa fun KP hKP=>?_;simp only [go_sem,cq,aA,aB,aC];repeat (first|(with_reducible refine hKP _ ?_;clear hKP KP)|((with_reducible apply CallQ.eqs);(· with_reducible first|exact hs1|exact hs2);(· first|exact rfl|(simp [RV.flat,D.sc,ab];done));try simp only [go_sem,cq,aA,aB,aC])|with_reducible refine aI ?_|(with_reducible refine Z ?_ ?_<;>(intro hc;(try simp only [go_sem,cq,aA,aB,aC]);(try simp at hc);try (exfalso;omega))));try simp only [go_sem,cq,aA,aB,aC]))
   refine vA ?_
   refine hK _ ?_
   clear hK K
   try simp only [go_sem,cq,aA,aB,aC]
   repeat' (first|((with_reducible first|(refine hK _ ?_;clear hK K)|refine aj fun U O=>?_|apply ah|(apply Z<;>(intro hc;try simp at hc;try omega)))<;>try simp only [go_sem])|(with_reducible first|apply ag|(refine O _ ?_;clear O U)|refine kN kF fun K hK=>?_|refine kO fun K hK=>?_|refine aI ?_)|(with_reducible apply cN kF ax)|(with_reducible refine eT ax ?_)|((first|refine ay aa [0,1,2,4] (by decide +kernel) rfl ?_|refine ay aa [1,2,4] (by decide +kernel) rfl ?_|refine ay aa [2,4] (by decide +kernel) rfl ?_|refine ay aa [3,4] (by decide +kernel) rfl ?_|refine ay aa [4] (by decide +kernel) rfl ?_|refine ay aa [5] (by decide +kernel) rfl ?_|refine ay aa [6] (by decide +kernel) rfl ?_|refine ay aa [7] (by decide +kernel) rfl ?_|refine ay aa [3] (by decide +kernel) rfl ?_|refine ay aa [2] (by decide +kernel) rfl ?_|refine ay aa [1,4] (by decide +kernel) rfl ?_|refine ay aa [1] (by decide +kernel) rfl ?_|refine ay aa [1,2] (by decide +kernel) rfl ?_|refine ay aa [0,2,4] (by decide +kernel) rfl ?_|refine ay aa [0,3,4] (by decide +kernel) rfl ?_|refine ay aa [0,4] (by decide +kernel) rfl ?_|refine ay aa [0] (by decide +kernel) rfl ?_|refine ay aa [0,3] (by decide +kernel) rfl ?_|refine ay aa [0,2] (by decide +kernel) rfl ?_|refine ay aa [0,1,4] (by decide +kernel) rfl ?_|refine ay aa [0,1] (by decide +kernel) rfl ?_|refine ay aa [0,1,2] (by decide +kernel) rfl ?_);(repeat' with_reducible first|exact True.intro|refine And.intro ?_ ?_)<;>refine ⟨_,rfl,fun U O=>?_⟩<;>((first|with_reducible refine aX rfl ?_|refine aP rfl ?_);simp only [go_sem]))|(refine ej (by decide +kernel) ?_;try simp only [go_sem])|(with_reducible exact Or.inl rfl)|(exact Or.inr (ao [] (by simp [lk,ae]<;>omega)))|fail)
   refine ak rfl rfl (by simp [am,lk]) ?_;rfl
  ·have hb2:=aG hI
   rw [show bG c p f q = _ from dF fun h=>hI h.2]
   repeat' (first|((with_reducible first|(refine hK _ ?_;clear hK K)|refine aj fun U O=>?_|apply ah|(apply Z<;>(intro hc;try simp at hc;try omega)))<;>try simp only [go_sem,hb,hb2])|(with_reducible first|apply ag|(refine O _ ?_;clear O U)|refine kN kF fun K hK=>?_|refine kO fun K hK=>?_|refine aI ?_)|((with_reducible first|apply CallK.eq|apply CallQ.eqs);(· with_reducible first|exact hs0|exact hd);(· first|exact rfl|(simp [RV.flat,D.sc,ab];done));try simp only [go_sem,hb,hb2])|(with_reducible apply cN kF ax)|(with_reducible refine eT ax ?_)|((first|refine ay aa [0,1,2,4] (by decide +kernel) rfl ?_|refine ay aa [1,2,4] (by decide +kernel) rfl ?_|refine ay aa [2,4] (by decide +kernel) rfl ?_|refine ay aa [3,4] (by decide +kernel) rfl ?_|refine ay aa [4] (by decide +kernel) rfl ?_|refine ay aa [5] (by decide +kernel) rfl ?_|refine ay aa [6] (by decide +kernel) rfl ?_|refine ay aa [7] (by decide +kernel) rfl ?_|refine ay aa [3] (by decide +kernel) rfl ?_|refine ay aa [2] (by decide +kernel) rfl ?_|refine ay aa [1,4] (by decide +kernel) rfl ?_|refine ay aa [1] (by decide +kernel) rfl ?_|refine ay aa [1,2] (by decide +kernel) rfl ?_|refine ay aa [0,2,4] (by decide +kernel) rfl ?_|refine ay aa [0,3,4] (by decide +kernel) rfl ?_|refine ay aa [0,4] (by decide +kernel) rfl ?_|refine ay aa [0] (by decide +kernel) rfl ?_|refine ay aa [0,3] (by decide +kernel) rfl ?_|refine ay aa [0,2] (by decide +kernel) rfl ?_|refine ay aa [0,1,4] (by decide +kernel) rfl ?_|refine ay aa [0,1] (by decide +kernel) rfl ?_|refine ay aa [0,1,2] (by decide +kernel) rfl ?_);(repeat' with_reducible first|exact True.intro|refine And.intro ?_ ?_)<;>refine ⟨_,rfl,fun U O=>?_⟩<;>((first|with_reducible refine aX rfl ?_|refine aP rfl ?_);simp only [go_sem,hb,hb2]))|(refine ej (by decide +kernel) ?_;try simp only [go_sem,hb,hb2])|(with_reducible exact Or.inl rfl)|(exact Or.inr (ao [] (by simp [lk,ae]<;>omega)))|fail)
   all_goals first
    |(exfalso;omega)
    |(refine ak rfl rfl (by simp [am,lk]) ?_;rfl)
 ·have hb:=aG hA
  rw [show bG c p f q = _ from dF fun h=>hA h.1]
  repeat' (first|((with_reducible first|(refine hK _ ?_;clear hK K)|refine aj fun U O=>?_|apply ah|(apply Z<;>(intro hc;try simp at hc;try omega)))<;>try simp only [go_sem,hb])|(with_reducible first|apply ag|(refine O _ ?_;clear O U)|refine kN kF fun K hK=>?_|refine kO fun K hK=>?_|refine aI ?_)|((with_reducible first|apply CallK.eq|apply CallQ.eqs);(· with_reducible first|exact hs0);(· first|exact rfl|(simp [RV.flat,D.sc,ab];done));try simp only [go_sem,hb])|(with_reducible apply cN kF ax)|(with_reducible refine eT ax ?_)|((first|refine ay aa [0,1,2,4] (by decide +kernel) rfl ?_|refine ay aa [1,2,4] (by decide +kernel) rfl ?_|refine ay aa [2,4] (by decide +kernel) rfl ?_|refine ay aa [3,4] (by decide +kernel) rfl ?_|refine ay aa [4] (by decide +kernel) rfl ?_|refine ay aa [5] (by decide +kernel) rfl ?_|refine ay aa [6] (by decide +kernel) rfl ?_|refine ay aa [7] (by decide +kernel) rfl ?_|refine ay aa [3] (by decide +kernel) rfl ?_|refine ay aa [2] (by decide +kernel) rfl ?_|refine ay aa [1,4] (by decide +kernel) rfl ?_|refine ay aa [1] (by decide +kernel) rfl ?_|refine ay aa [1,2] (by decide +kernel) rfl ?_|refine ay aa [0,2,4] (by decide +kernel) rfl ?_|refine ay aa [0,3,4] (by decide +kernel) rfl ?_|refine ay aa [0,4] (by decide +kernel) rfl ?_|refine ay aa [0] (by decide +kernel) rfl ?_|refine ay aa [0,3] (by decide +kernel) rfl ?_|refine ay aa [0,2] (by decide +kernel) rfl ?_|refine ay aa [0,1,4] (by decide +kernel) rfl ?_|refine ay aa [0,1] (by decide +kernel) rfl ?_|refine ay aa [0,1,2] (by decide +kernel) rfl ?_);(repeat' with_reducible first|exact True.intro|refine And.intro ?_ ?_)<;>refine ⟨_,rfl,fun U O=>?_⟩<;>((first|with_reducible refine aX rfl ?_|refine aP rfl ?_);simp only [go_sem,hb]))|(refine ej (by decide +kernel) ?_;try simp only [go_sem,hb])|(with_reducible exact Or.inl rfl)|(exact Or.inr (ao [] (by simp [lk,ae]<;>omega)))|fail)
  all_goals first
   |(exfalso;omega)
   |(refine ak rfl rfl (by simp [am,lk]) ?_;rfl)
end Go.Proofs.YtphakidbddamfaaGreat
