/-
  Scores after inquiries: the reference's functions, in the abstract machine.
-/
import Derived.Test.YtphakidbddamfaaGreatZSg
import Derived.Test.YtphakidbddamfaaGreatZIu
import Derived.Test.YtphakidbddamfaaGreatZIq
import Derived.Test.YtphakidbddamfaaGreatZJc
import Derived.Test.YtphakidbddamfaaGreatZTk
import Derived.Test.YtphakidbddamfaaGreatZPt
set_option linter.unusedSimpArgs false
set_option linter.unusedVariables false
set_option maxHeartbeats 2000000
set_option maxRecDepth 100000
namespace Go.Proofs.YtphakidbddamfaaGreat
open Go.RowKit
theorem pO (m:MarksD) (hf:MkFit 1048576 m):FnAg Tryz.prog 132 [.agg m.cs] [.deep 23 1 (m.grades.map (ax 1 aa)),.deep 23 1 (m.components.map (ax 1 aa))]:=by
 obtain ⟨⟨hf1,hf2⟩,hf3,hf4⟩:=hf
 refine mj ae Tryz.func132 rfl rfl ?_;simp only [Tryz.ntmps132,aP,aK,Nat.reduceAdd,Nat.reduceSub,aV]
 repeat' (first|with_reducible refine bs (id:=1) ?_|with_reducible refine br (id:=1) ?_|((with_reducible first|(apply hK;clear hK K)|refine ah fun U O=>?_|apply ag|(apply Z<;>(intro hc;try simp at hc;try omega)))<;>try simp only [go_sem])|(with_reducible first|apply aj|(apply O;clear O U)|refine kN fv fun K hK=>?_|refine kO fun K hK=>?_|refine aI ?_)|(with_reducible apply d3 fv ay)|(with_reducible refine gE ay ?_)|((first|refine aJ ae [0,2] (by decide +kernel) rfl ?_|refine aJ ae [1,2] (by decide +kernel) rfl ?_|refine aJ ae [2] (by decide +kernel) rfl ?_|refine aJ ae [3] (by decide +kernel) rfl ?_|refine aJ ae [4] (by decide +kernel) rfl ?_|refine aJ ae [5] (by decide +kernel) rfl ?_|refine aJ ae [6] (by decide +kernel) rfl ?_|refine aJ ae [7] (by decide +kernel) rfl ?_|refine aJ ae [1,3] (by decide +kernel) rfl ?_|refine aJ ae [1,4] (by decide +kernel) rfl ?_|refine aJ ae [1] (by decide +kernel) rfl ?_|refine aJ ae [0,3] (by decide +kernel) rfl ?_|refine aJ ae [0,4] (by decide +kernel) rfl ?_|refine aJ ae [0] (by decide +kernel) rfl ?_);(repeat' with_reducible first|exact True.intro|refine And.intro ?_ ?_)<;>refine ⟨_,rfl,fun U O=>?_⟩<;>((first|with_reducible refine bA rfl ?_|refine bl rfl ?_);simp only [go_sem]))|(refine fA (by decide +kernel) ?_;try simp only [go_sem])|(with_reducible exact Or.inl rfl)|(exact Or.inr (an [] (by simp [lk,ab]<;>omega)))|apply iB)
 unfold eu
 refine cM (cI ?_)
 refine dH 23 1 23 1 rfl (ae _ _ gL) rfl ?_
 refine bw ae ?_
 simp only [go_sem]
 refine bw ae ?_
 simp only [go_sem,gc,fz]
 refine aZ ?_
 refine cS 2 rfl (fun _ h=>by cases h) ?_
 refine cS 3 rfl (fun _ h=>by cases h) ?_
 simp only [go_sem]
 repeat' (first|((with_reducible first|(apply hK;clear hK K)|refine ah fun U O=>?_|apply ag|(apply Z<;>(intro hc;try simp at hc;try omega)))<;>try simp only [go_sem])|(with_reducible first|apply aj|(apply O;clear O U)|refine kN fv fun K hK=>?_|refine kO fun K hK=>?_|refine aI ?_)|apply iB)
 refine aA [5,12,13,14,15,16,17,18,19,20,21,22,23] (fun k:Nat=>[(1,.bptr 0 0),(2,.bptr 1 0),(3,.bptr 2 0),(8,.und),(12,.d (.int .i64 (k:Int)))]) (fun k=>[(0,.box 45 m.cs),(1,.box 45 [.d (.lst 1 []),.d (.lst 1 [])]),(2,.box 45 [.row 3 k,.row 4 0]),(3,.deep 0 23 1 ((m.grades.take k).map (ax 1 aa))),(4,.deep 0 23 1 [])]) 5 (fun k=>k≤m.grades.length) (fun k=>m.grades.length - k) 0 (Nat.zero_le _) (an [(3,2),(4,3)] (by simp [lk,ab,List.take_zero]<;>omega)) ?_
 intro k hk;simp only [bc,wipe,wl,bb,bx,rm,if_true,if_false,Nat.reduceEqDiff,Bool.false_eq_true,reduceCtorEq]
 by_cases hlt:k < m.grades.length
 ·have hx:=List.getElem?_eq_getElem hlt
  generalize m.grades[k] = x at hx
  have hxl:=hf2 x (List.mem_of_getElem? hx)
  have hyt:=bJ hx
  have htl:((m.grades.take k).map (ax 1 aa)).length = k:=by simp;omega
  repeat' (first|((with_reducible first|(apply hK;clear hK K)|refine ah fun U O=>?_|apply ag|(apply Z<;>(intro hc;try simp at hc;try omega)))<;>try simp only [go_sem,ap,hx,ar,ax,hlt])|(with_reducible first|apply aj|(apply O;clear O U)|refine kN fv fun K hK=>?_|refine kO fun K hK=>?_|refine aI ?_)|apply iB)
  refine bH 8 ay rfl (fun K hK=>?_)
  refine aT 0 rfl rfl rfl (aY rfl (ae _ _ gL) rfl rfl) ?_
  try simp only [go_sem,aB,aD,aE,ao,ax]
  refine aT 2 rfl rfl rfl (aM (.inl rfl)) ?_
  try simp only [go_sem,aB,aD,aE,ao,ax]
  repeat' (first
   |((with_reducible refine O _ ?_);clear O U;try simp only [go_sem,aB,aD,aE,ao,ax])
   |((with_reducible refine bB ?_);first
    |(refine aT 6 rfl rfl rfl (aY rfl (ae _ _ gL) rfl rfl) ?_;try simp only [go_sem,aB,aD,aE,ao,ax])
    |((first|((with_reducible first|refine aS (fuel:=5) [1,3] ?_|refine aS (fuel:=4) [1,4] ?_);refine ⟨⟨_,rfl,fun U O=>?_⟩,⟨_,rfl,fun U O=>?_⟩,trivial⟩)|((with_reducible first|refine aS (fuel:=4) [3] ?_|refine aS (fuel:=3) [4] ?_|refine aS (fuel:=3) [1] ?_|refine aS (fuel:=2) [5] ?_|refine aS (fuel:=0) [7] ?_);refine ⟨⟨_,rfl,fun U O=>?_⟩,trivial⟩))<;>((first|with_reducible refine bA rfl ?_|refine bl rfl ?_);simp only [go_sem,aB,aD,aE,ao,ax]))
    |(refine bi (by decide +kernel) (hK _ ?_);clear hK K;try simp only [go_sem,aB,aD,aE,ao,ax]))
   |((with_reducible apply CallK.eq);(focus (with_reducible first|exact i3 x (by omega)));(focus (first|exact rfl|(simp [RV.flat,D.sc,aa];done)));try simp only [go_sem,aB,aD,aE,ao,ax])
   |((refine bq (cs:=[.row 5 x.length]) (ds:=ax 1 aa x) rfl (ae _ _ gK) (by decide) rfl (by simp [dm,dA,ab,D.scB,ax]) (by simp [a9]) (by simp only [cD,cr,ab,if_true,if_false,Nat.reduceEqDiff];exact ⟨bU _,trivial⟩) ?_);(refine O _ ?_);(clear O U);(simp only [go_sem,ax,ao]))
   |((refine bG (es:=(m.grades.take k).map (ax 1 aa)) (fs:=[ax 1 aa x]) (n:=k) (n2:=1) rfl (ae _ _ gK) rfl rfl rfl rfl (by decide) htl rfl (by exact True.intro) (by exact True.intro) (by simp<;>omega) ?_);(refine O _ ?_);(clear O U);(simp only [go_sem,ax,ao]))
   |with_reducible refine aI ?_
   |with_reducible refine aZ ?_|with_reducible refine bh ?_|with_reducible refine ba ?_)
  all_goals
   repeat' (first|((with_reducible first|(apply hK;clear hK K)|refine ah fun U O=>?_|apply ag|(apply Z<;>(intro hc;try simp at hc;try omega)))<;>try simp only [go_sem])|(with_reducible first|apply aj|(apply O;clear O U)|refine kN fv fun K hK=>?_|refine kO fun K hK=>?_|refine aI ?_)|(with_reducible apply d3 fv ay)|(with_reducible refine gE ay ?_)|((first|refine aJ ae [0,2] (by decide +kernel) rfl ?_|refine aJ ae [1,2] (by decide +kernel) rfl ?_|refine aJ ae [2] (by decide +kernel) rfl ?_|refine aJ ae [3] (by decide +kernel) rfl ?_|refine aJ ae [4] (by decide +kernel) rfl ?_|refine aJ ae [5] (by decide +kernel) rfl ?_|refine aJ ae [6] (by decide +kernel) rfl ?_|refine aJ ae [7] (by decide +kernel) rfl ?_|refine aJ ae [1,3] (by decide +kernel) rfl ?_|refine aJ ae [1,4] (by decide +kernel) rfl ?_|refine aJ ae [1] (by decide +kernel) rfl ?_|refine aJ ae [0,3] (by decide +kernel) rfl ?_|refine aJ ae [0,4] (by decide +kernel) rfl ?_|refine aJ ae [0] (by decide +kernel) rfl ?_);(repeat' with_reducible first|exact True.intro|refine And.intro ?_ ?_)<;>refine ⟨_,rfl,fun U O=>?_⟩<;>((first|with_reducible refine bA rfl ?_|refine bl rfl ?_);simp only [go_sem]))|(refine fA (by decide +kernel) ?_;try simp only [go_sem])|(with_reducible exact Or.inl rfl)|(exact Or.inr (an [] (by simp [lk,ab]<;>omega)))|apply iB)
   exact ⟨k + 1,by omega,by omega,(an [(3,7),(4,4)] (by simp [lk,ab,ax,hyt,-List.map_take]<;>omega))⟩
 obtain rfl:k = m.grades.length:=by omega
 rw [List.take_length]
 repeat' (first|((with_reducible first|(apply hK;clear hK K)|refine ah fun U O=>?_|apply ag|(apply Z<;>(intro hc;try simp at hc;try omega)))<;>try simp only [go_sem])|(with_reducible first|apply aj|(apply O;clear O U)|refine kN fv fun K hK=>?_|refine kO fun K hK=>?_|refine aI ?_)|apply iB)
 refine aA [7,27,28,29,30,31,32,33,34,35,36,37,38] (fun k:Nat=>[(1,.bptr 0 0),(2,.bptr 1 0),(3,.bptr 2 0),(27,.d (.int .i64 (k:Int)))]) (fun k=>[(0,.box 45 m.cs),(1,.box 45 [.d (.lst 1 []),.d (.lst 1 [])]),(2,.box 45 [.row 3 m.grades.length,.row 4 k]),(3,.deep 0 23 1 (m.grades.map (ax 1 aa))),(4,.deep 0 23 1 ((m.components.take k).map (ax 1 aa)))]) 5 (fun k=>k≤m.components.length) (fun k=>m.components.length - k) 0 (Nat.zero_le _) (an [(3,3),(4,4)] (by simp [lk,ab,List.take_zero]<;>omega)) ?_
 intro k hk;simp only [bc,wipe,wl,bb,bx,rm,if_true,if_false,Nat.reduceEqDiff,Bool.false_eq_true,reduceCtorEq]
 by_cases hlt:k < m.components.length
 ·have hx:=List.getElem?_eq_getElem hlt
  generalize m.components[k] = x at hx
  have hxl:=hf4 x (List.mem_of_getElem? hx)
  have hyt:=bJ hx
  have htl:((m.components.take k).map (ax 1 aa)).length = k:=by simp;omega
  repeat' (first|((with_reducible first|(apply hK;clear hK K)|refine ah fun U O=>?_|apply ag|(apply Z<;>(intro hc;try simp at hc;try omega)))<;>try simp only [go_sem,ap,hx,ar,ax,hlt])|(with_reducible first|apply aj|(apply O;clear O U)|refine kN fv fun K hK=>?_|refine kO fun K hK=>?_|refine aI ?_)|apply iB)
  refine bH 8 ay rfl (fun K hK=>?_)
  refine aT 0 rfl rfl rfl (aY rfl (ae _ _ gL) rfl rfl) ?_
  try simp only [go_sem,aB,aD,aE,ao,ax]
  refine aT 2 rfl rfl rfl (aM (.inl rfl)) ?_
  try simp only [go_sem,aB,aD,aE,ao,ax]
  repeat' (first
   |((with_reducible refine O _ ?_);clear O U;try simp only [go_sem,aB,aD,aE,ao,ax])
   |((with_reducible refine bB ?_);first
    |(refine aT 6 rfl rfl rfl (aY rfl (ae _ _ gL) rfl rfl) ?_;try simp only [go_sem,aB,aD,aE,ao,ax])
    |((first|((with_reducible first|refine aS (fuel:=5) [1,3] ?_|refine aS (fuel:=4) [1,4] ?_);refine ⟨⟨_,rfl,fun U O=>?_⟩,⟨_,rfl,fun U O=>?_⟩,trivial⟩)|((with_reducible first|refine aS (fuel:=4) [3] ?_|refine aS (fuel:=3) [4] ?_|refine aS (fuel:=3) [1] ?_|refine aS (fuel:=2) [5] ?_|refine aS (fuel:=0) [7] ?_);refine ⟨⟨_,rfl,fun U O=>?_⟩,trivial⟩))<;>((first|with_reducible refine bA rfl ?_|refine bl rfl ?_);simp only [go_sem,aB,aD,aE,ao,ax]))
    |(refine bi (by decide +kernel) (hK _ ?_);clear hK K;try simp only [go_sem,aB,aD,aE,ao,ax]))
   |((with_reducible apply CallK.eq);(focus (with_reducible first|exact i3 x (by omega)));(focus (first|exact rfl|(simp [RV.flat,D.sc,aa];done)));try simp only [go_sem,aB,aD,aE,ao,ax])
   |((refine bq (cs:=[.row 5 x.length]) (ds:=ax 1 aa x) rfl (ae _ _ gK) (by decide) rfl (by simp [dm,dA,ab,D.scB,ax]) (by simp [a9]) (by simp only [cD,cr,ab,if_true,if_false,Nat.reduceEqDiff];exact ⟨bU _,trivial⟩) ?_);(refine O _ ?_);(clear O U);(simp only [go_sem,ax,ao]))
   |((refine bG (es:=(m.components.take k).map (ax 1 aa)) (fs:=[ax 1 aa x]) (n:=k) (n2:=1) rfl (ae _ _ gK) rfl rfl rfl rfl (by decide) htl rfl (by exact True.intro) (by exact True.intro) (by simp<;>omega) ?_);(refine O _ ?_);(clear O U);(simp only [go_sem,ax,ao]))
   |with_reducible refine aI ?_
   |with_reducible refine aZ ?_|with_reducible refine bh ?_|with_reducible refine ba ?_)
  all_goals
   repeat' (first|((with_reducible first|(apply hK;clear hK K)|refine ah fun U O=>?_|apply ag|(apply Z<;>(intro hc;try simp at hc;try omega)))<;>try simp only [go_sem])|(with_reducible first|apply aj|(apply O;clear O U)|refine kN fv fun K hK=>?_|refine kO fun K hK=>?_|refine aI ?_)|(with_reducible apply d3 fv ay)|(with_reducible refine gE ay ?_)|((first|refine aJ ae [0,2] (by decide +kernel) rfl ?_|refine aJ ae [1,2] (by decide +kernel) rfl ?_|refine aJ ae [2] (by decide +kernel) rfl ?_|refine aJ ae [3] (by decide +kernel) rfl ?_|refine aJ ae [4] (by decide +kernel) rfl ?_|refine aJ ae [5] (by decide +kernel) rfl ?_|refine aJ ae [6] (by decide +kernel) rfl ?_|refine aJ ae [7] (by decide +kernel) rfl ?_|refine aJ ae [1,3] (by decide +kernel) rfl ?_|refine aJ ae [1,4] (by decide +kernel) rfl ?_|refine aJ ae [1] (by decide +kernel) rfl ?_|refine aJ ae [0,3] (by decide +kernel) rfl ?_|refine aJ ae [0,4] (by decide +kernel) rfl ?_|refine aJ ae [0] (by decide +kernel) rfl ?_);(repeat' with_reducible first|exact True.intro|refine And.intro ?_ ?_)<;>refine ⟨_,rfl,fun U O=>?_⟩<;>((first|with_reducible refine bA rfl ?_|refine bl rfl ?_);simp only [go_sem]))|(refine fA (by decide +kernel) ?_;try simp only [go_sem])|(with_reducible exact Or.inl rfl)|(exact Or.inr (an [] (by simp [lk,ab]<;>omega)))|apply iB)
   exact ⟨k + 1,by omega,by omega,(an [(3,3),(4,7)] (by simp [lk,ab,ax,hyt,-List.map_take]<;>omega))⟩
 obtain rfl:k = m.components.length:=by omega
 rw [List.take_length]
 repeat' (first|((with_reducible first|(apply hK;clear hK K)|refine ah fun U O=>?_|apply ag|(apply Z<;>(intro hc;try simp at hc;try omega)))<;>try simp only [go_sem])|(with_reducible first|apply aj|(apply O;clear O U)|refine kN fv fun K hK=>?_|refine kO fun K hK=>?_|refine aI ?_)|(with_reducible apply d3 fv ay)|(with_reducible refine gE ay ?_)|((first|refine aJ ae [0,2] (by decide +kernel) rfl ?_|refine aJ ae [1,2] (by decide +kernel) rfl ?_|refine aJ ae [2] (by decide +kernel) rfl ?_|refine aJ ae [3] (by decide +kernel) rfl ?_|refine aJ ae [4] (by decide +kernel) rfl ?_|refine aJ ae [5] (by decide +kernel) rfl ?_|refine aJ ae [6] (by decide +kernel) rfl ?_|refine aJ ae [7] (by decide +kernel) rfl ?_|refine aJ ae [1,3] (by decide +kernel) rfl ?_|refine aJ ae [1,4] (by decide +kernel) rfl ?_|refine aJ ae [1] (by decide +kernel) rfl ?_|refine aJ ae [0,3] (by decide +kernel) rfl ?_|refine aJ ae [0,4] (by decide +kernel) rfl ?_|refine aJ ae [0] (by decide +kernel) rfl ?_);(repeat' with_reducible first|exact True.intro|refine And.intro ?_ ?_)<;>refine ⟨_,rfl,fun U O=>?_⟩<;>((first|with_reducible refine bA rfl ?_|refine bl rfl ?_);simp only [go_sem]))|(refine fA (by decide +kernel) ?_;try simp only [go_sem])|(with_reducible exact Or.inl rfl)|(exact Or.inr (an [] (by simp [lk,ab]<;>omega)))|apply iB)
 refine ⟨_,rfl,by simp only [bj,bn,ab,lk,List.take_succ_cons,List.take_zero,List.drop_zero,ao,if_true,if_false,Nat.reduceEqDiff],by simp [am,lk]⟩
theorem nT (p:PerfD) (l:List ItemD) (hpf:PfFit 1048576 p) (hn:l.length≤1048576) (hs:∀ r ∈ l,ItFit 1048576 r):FnAg Tryz.prog 82 [.agg p.cs,.d (.lst 3 (l.map ItemD.dat))] [eg l,.deep 23 1 (p.marks.grades.map (ax 1 aa)),.deep 23 1 (p.marks.components.map (ax 1 aa)),.d (.int .i64 p.slips.falls),.d (.int .i64 p.slips.seconds),.d (.int .i64 p.slips.other)]:=by
 have hi:=iE l hn hs
 by_cases h0:l.length = 0
 ·rw [show eg l = _ from if_pos h0] at hi ⊢
  refine mj ae Tryz.func82 rfl rfl ?_;simp only [Tryz.ntmps82,aP,aK,Nat.reduceAdd,Nat.reduceSub,aV]
  repeat' (first|((with_reducible first|(apply hK;clear hK K)|refine ah fun U O=>?_|apply ag|(apply Z<;>(intro hc;try simp at hc;try omega)))<;>try simp only [go_sem])|(with_reducible first|apply aj|(apply O;clear O U)|refine kN ki fun K hK=>?_|refine kO fun K hK=>?_|refine aI ?_)|fail)
  refine cb 9 ki ay rfl (fun K hK=>?_)
  refine aT 0 rfl rfl rfl (aM (.inl rfl)) ?_
  try simp only [go_sem,aB,aD,aE,ao,aK]
  refine aT 2 rfl rfl rfl (aY rfl (ae _ _ tZ) rfl rfl) ?_
  try simp only [go_sem,aB,aD,aE,ao,aK]
  refine aT 5 rfl rfl rfl (aY rfl (ae _ _ tZ) rfl rfl) ?_
  try simp only [go_sem,aB,aD,aE,ao,aK]
  repeat' (first
   |((with_reducible refine O _ ?_);clear O U;try simp only [go_sem,aB,aD,aE,ao,aK])
   |((with_reducible refine bB ?_);first
    |((first|((with_reducible first|refine aS (fuel:=5) [1,3,6] ?_);refine ⟨⟨_,rfl,fun U O=>?_⟩,⟨_,rfl,fun U O=>?_⟩,⟨_,rfl,fun U O=>?_⟩,trivial⟩)|((with_reducible first|refine aS (fuel:=4) [3,6] ?_|refine aS (fuel:=4) [1,6] ?_|refine aS (fuel:=4) [1,3] ?_|refine aS (fuel:=3) [4,6] ?_);refine ⟨⟨_,rfl,fun U O=>?_⟩,⟨_,rfl,fun U O=>?_⟩,trivial⟩)|((with_reducible first|refine aS (fuel:=3) [3] ?_|refine aS (fuel:=3) [1] ?_|refine aS (fuel:=2) [6] ?_|refine aS (fuel:=2) [4] ?_|refine aS (fuel:=1) [7] ?_|refine aS (fuel:=0) [8] ?_);refine ⟨⟨_,rfl,fun U O=>?_⟩,trivial⟩))<;>((first|with_reducible refine bA rfl ?_|refine bl rfl ?_);simp only [go_sem,aB,aD,aE,ao,aK]))
    |(refine bi (by decide +kernel) (hK _ ?_);clear hK K;try simp only [go_sem,aB,aD,aE,ao,aK]))
   |((with_reducible apply CallK.eq);(focus (with_reducible first|exact hi));(focus (first|exact rfl|(simp [RV.flat,D.sc,aa];done)));try simp only [go_sem,aB,aD,aE,ao,aK])
   |((refine CallK.po (gb rfl rfl (pO p.marks hpf.2) ⟨fun h=>by simp [AS.get,lk,dM,fl,fC] at h,?_⟩));(refine O _ ?_);(clear O U);(simp only [go_sem,ao]))
   |with_reducible refine aI ?_)
  all_goals
   repeat' (first|((with_reducible first|(apply hK;clear hK K)|refine ah fun U O=>?_|apply ag|(apply Z<;>(intro hc;try simp at hc;try omega)))<;>try simp only [go_sem])|(with_reducible first|apply aj|(apply O;clear O U)|refine kN ki fun K hK=>?_|refine kO fun K hK=>?_|refine aI ?_)|(with_reducible apply d3 ki ay)|(with_reducible refine gE ay ?_)|((first|refine aJ ae [0,2,5] (by decide +kernel) rfl ?_|refine aJ ae [1,2,5] (by decide +kernel) rfl ?_|refine aJ ae [2,5] (by decide +kernel) rfl ?_|refine aJ ae [3,5] (by decide +kernel) rfl ?_|refine aJ ae [4,5] (by decide +kernel) rfl ?_|refine aJ ae [5] (by decide +kernel) rfl ?_|refine aJ ae [6] (by decide +kernel) rfl ?_|refine aJ ae [7] (by decide +kernel) rfl ?_|refine aJ ae [8] (by decide +kernel) rfl ?_|refine aJ ae [4,6] (by decide +kernel) rfl ?_|refine aJ ae [4] (by decide +kernel) rfl ?_|refine aJ ae [3,6] (by decide +kernel) rfl ?_|refine aJ ae [3] (by decide +kernel) rfl ?_|refine aJ ae [2,6] (by decide +kernel) rfl ?_|refine aJ ae [2] (by decide +kernel) rfl ?_|refine aJ ae [1,3,5] (by decide +kernel) rfl ?_|refine aJ ae [1,5] (by decide +kernel) rfl ?_|refine aJ ae [1,6] (by decide +kernel) rfl ?_|refine aJ ae [1] (by decide +kernel) rfl ?_|refine aJ ae [1,3,6] (by decide +kernel) rfl ?_|refine aJ ae [1,3] (by decide +kernel) rfl ?_|refine aJ ae [1,2,6] (by decide +kernel) rfl ?_|refine aJ ae [1,2] (by decide +kernel) rfl ?_|refine aJ ae [0,3,5] (by decide +kernel) rfl ?_|refine aJ ae [0,5] (by decide +kernel) rfl ?_|refine aJ ae [0,6] (by decide +kernel) rfl ?_|refine aJ ae [0] (by decide +kernel) rfl ?_|refine aJ ae [0,3,6] (by decide +kernel) rfl ?_|refine aJ ae [0,3] (by decide +kernel) rfl ?_|refine aJ ae [0,2,6] (by decide +kernel) rfl ?_|refine aJ ae [0,2] (by decide +kernel) rfl ?_);(repeat' with_reducible first|exact True.intro|refine And.intro ?_ ?_)<;>refine ⟨_,rfl,fun U O=>?_⟩<;>((first|with_reducible refine bA rfl ?_|refine bl rfl ?_);simp only [go_sem]))|(refine fA (by decide +kernel) ?_;try simp only [go_sem])|(with_reducible exact Or.inl rfl)|(exact Or.inr (an [] (by simp [lk,ab]<;>omega)))|fail)
   refine ⟨_,rfl,by simp only [bj,bn,ab,lk,List.take_succ_cons,List.take_zero,List.drop_zero,ao,aK,if_true,if_false,Nat.reduceEqDiff],by simp [am,a9,lk]⟩
 ·rw [show eg l = _ from if_neg h0] at hi ⊢
  refine mj ae Tryz.func82 rfl rfl ?_;simp only [Tryz.ntmps82,aP,aK,Nat.reduceAdd,Nat.reduceSub,aV]
  repeat' (first|((with_reducible first|(apply hK;clear hK K)|refine ah fun U O=>?_|apply ag|(apply Z<;>(intro hc;try simp at hc;try omega)))<;>try simp only [go_sem])|(with_reducible first|apply aj|(apply O;clear O U)|refine kN ki fun K hK=>?_|refine kO fun K hK=>?_|refine aI ?_)|fail)
  refine cb 9 ki ay rfl (fun K hK=>?_)
  refine aT 0 rfl rfl rfl (aM (.inl rfl)) ?_
  try simp only [go_sem,aB,aD,aE,ao,aK]
  refine aT 2 rfl rfl rfl (aY rfl (ae _ _ tZ) rfl rfl) ?_
  try simp only [go_sem,aB,aD,aE,ao,aK]
  refine aT 5 rfl rfl rfl (aY rfl (ae _ _ tZ) rfl rfl) ?_
  try simp only [go_sem,aB,aD,aE,ao,aK]
  repeat' (first
   |((with_reducible refine O _ ?_);clear O U;try simp only [go_sem,aB,aD,aE,ao,aK])
   |((with_reducible refine bB ?_);first
    |((first|((with_reducible first|refine aS (fuel:=5) [1,3,6] ?_);refine ⟨⟨_,rfl,fun U O=>?_⟩,⟨_,rfl,fun U O=>?_⟩,⟨_,rfl,fun U O=>?_⟩,trivial⟩)|((with_reducible first|refine aS (fuel:=4) [3,6] ?_|refine aS (fuel:=4) [1,6] ?_|refine aS (fuel:=4) [1,3] ?_|refine aS (fuel:=3) [4,6] ?_);refine ⟨⟨_,rfl,fun U O=>?_⟩,⟨_,rfl,fun U O=>?_⟩,trivial⟩)|((with_reducible first|refine aS (fuel:=3) [3] ?_|refine aS (fuel:=3) [1] ?_|refine aS (fuel:=2) [6] ?_|refine aS (fuel:=2) [4] ?_|refine aS (fuel:=1) [7] ?_|refine aS (fuel:=0) [8] ?_);refine ⟨⟨_,rfl,fun U O=>?_⟩,trivial⟩))<;>((first|with_reducible refine bA rfl ?_|refine bl rfl ?_);simp only [go_sem,aB,aD,aE,ao,aK]))
    |(refine bi (by decide +kernel) (hK _ ?_);clear hK K;try simp only [go_sem,aB,aD,aE,ao,aK]))
   |((with_reducible apply CallK.eq);(focus (with_reducible first|exact hi));(focus (first|exact rfl|(simp [RV.flat,D.sc,aa];done)));try simp only [go_sem,aB,aD,aE,ao,aK])
   |((refine CallK.po (gb rfl rfl (pO p.marks hpf.2) ⟨fun h=>by simp [AS.get,lk,dM,fl,fC] at h,?_⟩));(refine O _ ?_);(clear O U);(simp only [go_sem,ao]))
   |with_reducible refine aI ?_)
  all_goals
   repeat' (first|((with_reducible first|(apply hK;clear hK K)|refine ah fun U O=>?_|apply ag|(apply Z<;>(intro hc;try simp at hc;try omega)))<;>try simp only [go_sem])|(with_reducible first|apply aj|(apply O;clear O U)|refine kN ki fun K hK=>?_|refine kO fun K hK=>?_|refine aI ?_)|(with_reducible apply d3 ki ay)|(with_reducible refine gE ay ?_)|((first|refine aJ ae [0,2,5] (by decide +kernel) rfl ?_|refine aJ ae [1,2,5] (by decide +kernel) rfl ?_|refine aJ ae [2,5] (by decide +kernel) rfl ?_|refine aJ ae [3,5] (by decide +kernel) rfl ?_|refine aJ ae [4,5] (by decide +kernel) rfl ?_|refine aJ ae [5] (by decide +kernel) rfl ?_|refine aJ ae [6] (by decide +kernel) rfl ?_|refine aJ ae [7] (by decide +kernel) rfl ?_|refine aJ ae [8] (by decide +kernel) rfl ?_|refine aJ ae [4,6] (by decide +kernel) rfl ?_|refine aJ ae [4] (by decide +kernel) rfl ?_|refine aJ ae [3,6] (by decide +kernel) rfl ?_|refine aJ ae [3] (by decide +kernel) rfl ?_|refine aJ ae [2,6] (by decide +kernel) rfl ?_|refine aJ ae [2] (by decide +kernel) rfl ?_|refine aJ ae [1,3,5] (by decide +kernel) rfl ?_|refine aJ ae [1,5] (by decide +kernel) rfl ?_|refine aJ ae [1,6] (by decide +kernel) rfl ?_|refine aJ ae [1] (by decide +kernel) rfl ?_|refine aJ ae [1,3,6] (by decide +kernel) rfl ?_|refine aJ ae [1,3] (by decide +kernel) rfl ?_|refine aJ ae [1,2,6] (by decide +kernel) rfl ?_|refine aJ ae [1,2] (by decide +kernel) rfl ?_|refine aJ ae [0,3,5] (by decide +kernel) rfl ?_|refine aJ ae [0,5] (by decide +kernel) rfl ?_|refine aJ ae [0,6] (by decide +kernel) rfl ?_|refine aJ ae [0] (by decide +kernel) rfl ?_|refine aJ ae [0,3,6] (by decide +kernel) rfl ?_|refine aJ ae [0,3] (by decide +kernel) rfl ?_|refine aJ ae [0,2,6] (by decide +kernel) rfl ?_|refine aJ ae [0,2] (by decide +kernel) rfl ?_);(repeat' with_reducible first|exact True.intro|refine And.intro ?_ ?_)<;>refine ⟨_,rfl,fun U O=>?_⟩<;>((first|with_reducible refine bA rfl ?_|refine bl rfl ?_);simp only [go_sem]))|(refine fA (by decide +kernel) ?_;try simp only [go_sem])|(with_reducible exact Or.inl rfl)|(exact Or.inr (an [] (by simp [lk,ab]<;>omega)))|fail)
   refine ⟨_,rfl,by simp only [bj,bn,ab,lk,List.take_succ_cons,List.take_zero,List.drop_zero,ao,aK,if_true,if_false,Nat.reduceEqDiff],by simp [am,a9,lk]⟩
theorem kq (c:CodeD) (p:PerfD) (f:Int) (i k m:Int) (hpf:PfFit 1048576 p) (hA:bO c p f) (hN:HasNm p.items i k) (hm1:0≤m) (hm2:m≤3):FnEq Tryz.prog 65 [.agg c.cs,.agg p.cs,.d (.int .i64 f),.d (.int .i64 i),.d (.int .i64 k),.d (.int .i64 m)] [.d (.int .i64 (bF c (cW p (cv p.items (dR i k m))) f))]:=by
 have hi0:=hN.1
 have hj0:=hN.2.1
 obtain ⟨a,b,mk,ha,hb,hnm,hml,hjn,hmn,hm,hmk⟩:=hN.there (q:=[]) hA.1.2.1 0
 rw [fE] at hb
 have hilt:i.toNat < p.items.length:=(List.getElem?_eq_some_iff.1 ha).1
 have hjlt:k.toNat < b.marks.length:=by omega
 have h0:p.items.length≠0:=by omega
 have hw:=nT p p.items hpf hpf.1.1 hpf.1.2
 rw [show eg p.items = _ from if_neg h0] at hw
 have bf:=ou (j:=k) (m:=m) hb
 have hs2:=ii c _ f (iu (i:=i) (k:=k) hA hm1 hm2)
 simp only [cW] at hs2 ⊢
 refine aN ae Tryz.func65 rfl rfl ?_;simp only [Tryz.ntmps65,aP,aK,Nat.reduceAdd,Nat.reduceSub,aV]
 repeat' (first|((with_reducible first|(apply hK;clear hK K)|refine ah fun U O=>?_|apply ag|(apply Z<;>(intro hc;try simp at hc;try omega)))<;>try simp only [go_sem])|(with_reducible first|apply aj|(apply O;clear O U)|refine kN vG fun K hK=>?_|refine kO fun K hK=>?_|refine aI ?_)|fail)
 refine CallK.po (gb rfl rfl hw ⟨fun h=>by simp [AS.get,lk,dM,fl,fC] at h,?_⟩)
 repeat' (first|((with_reducible first|(apply hK;clear hK K)|refine ah fun U O=>?_|apply ag|(apply Z<;>(intro hc;try simp at hc;try omega)))<;>try simp only [go_sem,ap,ar,ItemD.dat,hb,hilt,hjlt,hm,aa,ao,hi0,hj0])|(with_reducible first|apply aj|(apply O;clear O U)|refine kN vG fun K hK=>?_|refine kO fun K hK=>?_|refine aI ?_)|((with_reducible apply CallK.eq);(· with_reducible first|exact hs2);(· simp [RV.flat,D.sc,aa]);try simp only [go_sem,ap,ar,ItemD.dat,hb,hilt,hjlt,hm,aa,ao,hi0,hj0])|fail)
 all_goals first
  |(exfalso;omega)
  |skip
 refine cA (es':=b.marks.map aa) (e1:=aa mk) (ds:=[.int .i64 m]) rfl (ae _ _ G3) rfl rfl rfl (by simp [cU,hb,ItemD.dat]) (by rw [ap,hm];rfl) rfl rfl rfl (Nat.le_refl _) ?_
 have hln:=gH p.items (dR i k m)
 repeat' (first|((with_reducible first|(apply hK;clear hK K)|refine ah fun U O=>?_|apply ag|(apply Z<;>(intro hc;try simp at hc;try omega)))<;>try simp only [go_sem,ce,ap,hb,ar,ItemD.dat,List.set_cons_succ,List.set_cons_zero,bC,aa,bf,hln,ao])|(with_reducible first|apply aj|(apply O;clear O U)|refine kN vG fun K hK=>?_|refine kO fun K hK=>?_|refine aI ?_)|((with_reducible apply CallK.eq);(· with_reducible first|exact hs2);(· simp [RV.flat,D.sc,aa]);try simp only [go_sem,ce,ap,hb,ar,ItemD.dat,List.set_cons_succ,List.set_cons_zero,bC,aa,bf,hln,ao])|fail)
 all_goals first
  |(exfalso;omega)
  |(refine ak rfl rfl (by simp [am,lk]) ?_;rfl)
theorem j0 (c:CodeD) (p:PerfD) (f:Int) (x:InquiryD) (hcf:CdFit 1048576 c) (hpf:PfFit 1048576 p):FnEq Tryz.prog 11 [.agg c.cs,.agg p.cs,.d (.int .i64 f),.agg [.d (.int .i64 x.tick),.d (.int .i64 x.item),.d (.int .i64 x.name),.d (.int .i64 x.mark),.d (.bool x.acc)]] [.d (.int .i64 ((bm c p f x).getD 0)),.d (.bool (bm c p f x).isSome)]:=by
 have hs0:=e9 c p f hcf hpf
 refine aN ae Tryz.func11 rfl rfl ?_;simp only [Tryz.ntmps11,aP,aK,Nat.reduceAdd,Nat.reduceSub,aV]
 by_cases hA:bO c p f
 ·have hb:=aW hA
  have hd:=p4 p.items [x] hpf.1.1 hpf.1.2 hA.1.2.1 (by simp)
  simp only [aH,aG,InquiryD.dat] at hd
  by_cases hI:eG p.items [x]
  ·have hx0:=hI 0 x rfl
   have hN:HasNm p.items x.item x.name:=hx0.2.2.2.1
   have hne:(de p.items [x] [x].length).length≠0:=by
    obtain ⟨_,_,y,hy,_⟩:=hN
    have:=(List.getElem?_eq_some_iff.1 hy).1
    rw [gi];omega
   rw [fy hI,show eg (de p.items [x] [x].length) = _ from if_neg hne,show decide ((([x]:List InquiryD).length:Int)≤20) = true from by simp] at hd
   rw [show bm c p f x = _ from cy ⟨hA,hI⟩]
   have hs1:=kq c p f x.item x.name x.mark hpf hA hN hx0.2.2.2.2.1 hx0.2.2.2.2.2.1
   have hA1:=iu (i:=x.item) (k:=x.name) hA hx0.2.2.2.2.1 hx0.2.2.2.2.2.1
   have hs2:=ii c p f hA
   have hb3:=gd hA
   have hb4:=gd hA1
   generalize bF c p f = u at hs2 hb3 ⊢
   generalize bF c (cW p (cv p.items (dR x.item x.name x.mark))) f = v at hs1 hb4 ⊢
   repeat' (first|((with_reducible first|(apply hK;clear hK K)|refine ah fun U O=>?_|apply ag|(apply Z<;>(intro hc;try simp at hc;try omega)))<;>try simp only [go_sem,hb])|(with_reducible first|apply aj|(apply O;clear O U)|refine kN j1 fun K hK=>?_|refine kO fun K hK=>?_|refine aI ?_)|((with_reducible apply CallK.eq);(· with_reducible first|exact hs0|exact hd);(· simp [RV.flat,D.sc,aa]);try simp only [go_sem,hb])|fail)
   all_goals first
    |(exfalso;omega)
    |skip
   refine fk j1 ay [[4],[5],[2],[7],[30],[7],[32],[7],[34],[27,28,29,31,33,35],[4],[5],[2],[37,38,39],[36,40],[41],[]] 42 rfl (by decide +kernel) (fun K hK=>?_)
   repeat (first|(refine fJ ae fun KP hKP=>?_;simp only [go_sem,bk,aB,aD,aE];repeat (first|(with_reducible refine hKP _ ?_;clear hKP KP)|((with_reducible apply CallQ.eqs);(· with_reducible first|exact hs1|exact hs2);(· first|exact rfl|(simp [RV.flat,D.sc,aa];done));try simp only [go_sem,bk,aB,aD,aE])|with_reducible refine aI ?_|(with_reducible refine Z ?_ ?_<;>(intro hc;(try simp only [go_sem,bk,aB,aD,aE]);(try simp at hc);try (exfalso;omega))));try simp only [go_sem,bk,aB,aD,aE]))
   refine iG ?_
   refine hK _ ?_
   clear hK K
   try simp only [go_sem,bk,aB,aD,aE]
   repeat' (first|((with_reducible first|(apply hK;clear hK K)|refine ah fun U O=>?_|apply ag|(apply Z<;>(intro hc;try simp at hc;try omega)))<;>try simp only [go_sem])|(with_reducible first|apply aj|(apply O;clear O U)|refine kN j1 fun K hK=>?_|refine kO fun K hK=>?_|refine aI ?_)|(with_reducible refine az j1 ae ay (by kernel_rfl) (fun K hK=>?_))|(with_reducible refine aO ae ay (by kernel_rfl) ?_)|fail)
   refine ak rfl rfl (by simp [am,lk]) ?_;rfl
  ·rw [d4 hI] at hd
   rw [show bm c p f x = _ from bZ fun h=>hI h.2]
   repeat' (first|((with_reducible first|(apply hK;clear hK K)|refine ah fun U O=>?_|apply ag|(apply Z<;>(intro hc;try simp at hc;try omega)))<;>try simp only [go_sem,hb])|(with_reducible first|apply aj|(apply O;clear O U)|refine kN j1 fun K hK=>?_|refine kO fun K hK=>?_|refine aI ?_)|((with_reducible first|apply CallK.eq|apply CallQ.eqs);(· with_reducible first|exact hs0|exact hd);(· first|exact rfl|(simp [RV.flat,D.sc,aa];done));try simp only [go_sem,hb])|(with_reducible refine az j1 ae ay (by kernel_rfl) (fun K hK=>?_))|(with_reducible refine aO ae ay (by kernel_rfl) ?_)|fail)
   all_goals first
    |(exfalso;omega)
    |(refine ak rfl rfl (by simp [am,lk]) ?_;rfl)
 ·have hb:=aL hA
  rw [show bm c p f x = _ from bZ fun h=>hA h.1]
  repeat' (first|((with_reducible first|(apply hK;clear hK K)|refine ah fun U O=>?_|apply ag|(apply Z<;>(intro hc;try simp at hc;try omega)))<;>try simp only [go_sem,hb])|(with_reducible first|apply aj|(apply O;clear O U)|refine kN j1 fun K hK=>?_|refine kO fun K hK=>?_|refine aI ?_)|((with_reducible first|apply CallK.eq|apply CallQ.eqs);(· with_reducible first|exact hs0);(· first|exact rfl|(simp [RV.flat,D.sc,aa];done));try simp only [go_sem,hb])|(with_reducible refine az j1 ae ay (by kernel_rfl) (fun K hK=>?_))|(with_reducible refine aO ae ay (by kernel_rfl) ?_)|fail)
  all_goals first
   |(exfalso;omega)
   |(refine ak rfl rfl (by simp [am,lk]) ?_;rfl)
end Go.Proofs.YtphakidbddamfaaGreat
