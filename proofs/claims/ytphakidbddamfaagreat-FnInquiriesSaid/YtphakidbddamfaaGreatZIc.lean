/-
  Items copied: the program's functions and the reference's, in the abstract machine.
-/
import Derived.Test.YtphakidbddamfaaGreatZPt
import Derived.Test.YtphakidbddamfaaGreatZIk
import Derived.Test.YtphakidbddamfaaGreatZTk
import Derived.Test.YtphakidbddamfaaGreatZOrd
set_option linter.unusedSimpArgs false
set_option linter.unusedVariables false
set_option maxHeartbeats 2000000
set_option maxRecDepth 100000
namespace Go.Proofs.YtphakidbddamfaaGreat
open Go.RowKit
theorem lr (r:ItemD) (hf:ItFit 1048576 r):FnAg Tryz.prog 145 [.agg [.d (.lst 1 (r.names.map aX)),.d (.lst 1 (r.marks.map aa)),.d (.bool r.late)]] [.row 9 1 (r.names.map aX),.row 3 1 (r.marks.map aa),.d (.bool r.late)]:=by
 obtain ⟨hf1,hf2,hf3⟩:=hf
 refine mj ae Tryz.func145 rfl rfl ?_;simp only [Tryz.ntmps145,aP,aK,Nat.reduceAdd,Nat.reduceSub,aV]
 repeat' (first|((with_reducible first|(apply hK;clear hK K)|refine ah fun U O=>?_|apply ag|(apply Z<;>(intro hc;try simp at hc;try omega)))<;>try simp only [go_sem])|(with_reducible first|apply aj|(apply O;clear O U)|refine kN sG fun K hK=>?_|refine kO fun K hK=>?_|refine aI ?_)|fail)
 refine cb 11 sG ay rfl (fun K hK=>?_)
 refine aT 1 rfl rfl rfl (aY rfl (ae _ _ dY) rfl rfl) ?_
 try simp only [go_sem,aB,aD,aE,ao]
 refine aT 4 rfl rfl rfl (aY rfl (ae _ _ dY) rfl rfl) ?_
 try simp only [go_sem,aB,aD,aE,ao]
 refine aT 7 rfl rfl rfl (aY rfl (ae _ _ dY) rfl rfl) ?_
 try simp only [go_sem,aB,aD,aE,ao]
 repeat' (first
  |((with_reducible refine O _ ?_);clear O U;try simp only [go_sem,aB,aD,aE,ao])
  |((with_reducible refine bB ?_);first
   |((first|((with_reducible first|refine aS (fuel:=7) [0,2,5,8] ?_);refine ⟨⟨_,rfl,fun U O=>?_⟩,⟨_,rfl,fun U O=>?_⟩,⟨_,rfl,fun U O=>?_⟩,⟨_,rfl,fun U O=>?_⟩,trivial⟩)|((with_reducible first|refine aS (fuel:=6) [2,5,8] ?_|refine aS (fuel:=6) [0,5,8] ?_|refine aS (fuel:=6) [0,2,8] ?_|refine aS (fuel:=6) [0,2,5] ?_|refine aS (fuel:=5) [3,5,8] ?_);refine ⟨⟨_,rfl,fun U O=>?_⟩,⟨_,rfl,fun U O=>?_⟩,⟨_,rfl,fun U O=>?_⟩,trivial⟩)|((with_reducible first|refine aS (fuel:=5) [2,8] ?_|refine aS (fuel:=5) [2,5] ?_|refine aS (fuel:=5) [0,8] ?_|refine aS (fuel:=5) [0,5] ?_|refine aS (fuel:=5) [0,2] ?_|refine aS (fuel:=4) [5,8] ?_|refine aS (fuel:=4) [3,8] ?_|refine aS (fuel:=4) [3,5] ?_|refine aS (fuel:=3) [6,8] ?_);refine ⟨⟨_,rfl,fun U O=>?_⟩,⟨_,rfl,fun U O=>?_⟩,trivial⟩)|((with_reducible first|refine aS (fuel:=4) [2] ?_|refine aS (fuel:=4) [0] ?_|refine aS (fuel:=3) [5] ?_|refine aS (fuel:=3) [3] ?_|refine aS (fuel:=2) [8] ?_|refine aS (fuel:=2) [6] ?_|refine aS (fuel:=1) [9] ?_|refine aS (fuel:=0) [10] ?_);refine ⟨⟨_,rfl,fun U O=>?_⟩,trivial⟩))<;>((first|with_reducible refine bA rfl ?_|refine bl rfl ?_);simp only [go_sem,aB,aD,aE,ao]))
   |(refine bi (by decide +kernel) (hK _ ?_);clear hK K;try simp only [go_sem,aB,aD,aE,ao]))
  |((with_reducible apply CallK.eq);(focus (with_reducible first|exact ra r.marks hf3));(focus (first|exact rfl|(simp [RV.flat,D.sc,aa];done)));try simp only [go_sem,aB,aD,aE,ao])
  |with_reducible refine aI ?_)
 all_goals
  repeat' (first|((with_reducible first|(apply hK;clear hK K)|refine ah fun U O=>?_|apply ag|(apply Z<;>(intro hc;try simp at hc;try omega)))<;>try simp only [go_sem])|(with_reducible first|apply aj|(apply O;clear O U)|refine kN sG fun K hK=>?_|refine kO fun K hK=>?_|refine aI ?_)|fail)
  refine ⟨_,rfl,by simp only [bj,bn,ab,lk,List.take_succ_cons,List.take_zero,List.drop_zero,ao,if_true,if_false,Nat.reduceEqDiff],by simp [am,lk]⟩
def lH (l:List ItemD) (k:Nat):Blk:=if k = 0 then .row 143 3 [] else .deep 0 143 3 ((l.take k).map ItemD.dat)
theorem n5 (l:List ItemD):lH l 0 = .row 143 3 []:=rfl
theorem eP {l:List ItemD} {k:Nat} (h:0 < k):lH l k = .deep 0 143 3 ((l.take k).map ItemD.dat):=by unfold lH;rw [if_neg (by omega)]
theorem mK {l:List ItemD} {k:Nat} (h:k = 0):lH l k = .row 143 3 []:=by unfold lH;rw [if_pos h]
def eg (l:List ItemD):RV:=if l.length = 0 then .row 143 3 [] else .deep 143 3 (l.map ItemD.dat)
theorem ww (x:ItemD):∀ r ∈ [RV.row 9 1 (x.names.map aX),RV.row 3 1 (x.marks.map aa),RV.d (.bool x.late)],r.flat:=by
 intro r hr
 simp only [List.mem_cons,List.not_mem_nil,or_false] at hr
 rcases hr with rfl|rfl|rfl
 ·exact cP _
 ·exact bU _
 ·simp [RV.flat,D.sc]
theorem iS (l:List ItemD) (hn:l.length≤1048576) (hs:∀ r ∈ l,ItFit 1048576 r):FnEq Tryz.prog 100 [.d (.lst 3 (l.map ItemD.dat))] [eg l]:=by
 refine aN ae Tryz.func100 rfl rfl ?_;simp only [Tryz.ntmps100,aP,aK,Nat.reduceAdd,Nat.reduceSub,aV]
 repeat' (first|((with_reducible first|(apply hK;clear hK K)|refine ah fun U O=>?_|apply ag|(apply Z<;>(intro hc;try simp at hc;try omega)))<;>try simp only [go_sem])|(with_reducible first|apply aj|(apply O;clear O U)|refine kN fM fun K hK=>?_|refine kO fun K hK=>?_|refine aI ?_)|apply iB)
 refine aA [2,3,5,9,10,11,12,13,14,15,16,17,18] (fun k:Nat=>[(9,.d (.int .i64 (k:Int))),(3,.row 0 k)]) (fun k:Nat=>[(0,lH l k)]) 1 (fun k:Nat=>k≤l.length) (fun k:Nat=>l.length - k) 0 (Nat.zero_le _) (an [] (by simp [lk,ab,n5]<;>omega)) ?_
 intro k hk
 simp only [bc,wipe,wl,bb,bx,rm,if_true,if_false,Nat.reduceEqDiff,Bool.false_eq_true,reduceCtorEq]
 by_cases hlt:k < l.length
 ·have hx:=List.getElem?_eq_getElem hlt
  generalize l[k] = x at hx
  have hyt:=bJ hx
  have htl:((l.take k).map ItemD.dat).length = k:=by simp;omega
  by_cases hk0:k = 0
  ·have htk:l.take k = []:=by rw [hk0];rfl
   rw [mK hk0]
   repeat' (first|((with_reducible first|(apply hK;clear hK K)|refine ah fun U O=>?_|apply ag|(apply Z<;>(intro hc;try simp at hc;try omega)))<;>try simp only [go_sem,ap,hx,ar,ItemD.dat,hlt])|(with_reducible first|apply aj|(apply O;clear O U)|refine kN fM fun K hK=>?_|refine kO fun K hK=>?_|refine aI ?_)|apply iB)
   refine CallK.po (gb rfl rfl (lr x (hs x (List.mem_of_getElem? hx))) ⟨fun _=>ww x,?_⟩)
   repeat' (first|((with_reducible first|(apply hK;clear hK K)|refine ah fun U O=>?_|apply ag|(apply Z<;>(intro hc;try simp at hc;try omega)))<;>try simp only [go_sem])|(with_reducible first|apply aj|(apply O;clear O U)|refine kN fM fun K hK=>?_|refine kO fun K hK=>?_|refine aI ?_)|apply iB)
   refine bq (cs:=[.row 2 x.names.length,.row 3 x.marks.length,.d (.bool x.late)]) (ds:=x.dat) rfl (ae _ _ ff) (by decide) rfl (by simp [dm,dA,ab,D.scB,ItemD.dat]) (by simp [a9]) (by simp only [cD,cr,ab,if_true,if_false,Nat.reduceEqDiff];exact ⟨cP _,bU _,trivial,trivial⟩) ?_
   repeat' (first|((with_reducible first|(apply hK;clear hK K)|refine ah fun U O=>?_|apply ag|(apply Z<;>(intro hc;try simp at hc;try omega)))<;>try simp only [go_sem,ItemD.dat])|(with_reducible first|apply aj|(apply O;clear O U)|refine kN fM fun K hK=>?_|refine kO fun K hK=>?_|refine aI ?_)|apply iB)
   refine bG (es:=[]) (fs:=[x.dat]) (n:=k) (n2:=1) rfl (ae _ _ ff) rfl rfl rfl rfl (by decide) (by simp;omega) rfl (by intro e he;simp at he) (by exact True.intro) (by simp<;>omega) ?_
   repeat' (first|((with_reducible first|(apply hK;clear hK K)|refine ah fun U O=>?_|apply ag|(apply Z<;>(intro hc;try simp at hc;try omega)))<;>try simp only [go_sem,ItemD.dat])|(with_reducible first|apply aj|(apply O;clear O U)|refine kN fM fun K hK=>?_|refine kO fun K hK=>?_|refine aI ?_)|apply iB)
   exact ⟨k + 1,by omega,by omega,(an [] (by simp [lk,ab,htk,ItemD.dat,hyt,eP (Nat.succ_pos k),-List.map_take]<;>omega))⟩
  ·rw [eP (show 0 < k by omega)]
   repeat' (first|((with_reducible first|(apply hK;clear hK K)|refine ah fun U O=>?_|apply ag|(apply Z<;>(intro hc;try simp at hc;try omega)))<;>try simp only [go_sem,ap,hx,ar,ItemD.dat,hlt])|(with_reducible first|apply aj|(apply O;clear O U)|refine kN fM fun K hK=>?_|refine kO fun K hK=>?_|refine aI ?_)|apply iB)
   refine CallK.po (gb rfl rfl (lr x (hs x (List.mem_of_getElem? hx))) ⟨fun _=>ww x,?_⟩)
   repeat' (first|((with_reducible first|(apply hK;clear hK K)|refine ah fun U O=>?_|apply ag|(apply Z<;>(intro hc;try simp at hc;try omega)))<;>try simp only [go_sem])|(with_reducible first|apply aj|(apply O;clear O U)|refine kN fM fun K hK=>?_|refine kO fun K hK=>?_|refine aI ?_)|apply iB)
   refine bq (cs:=[.row 2 x.names.length,.row 3 x.marks.length,.d (.bool x.late)]) (ds:=x.dat) rfl (ae _ _ ff) (by decide) rfl (by simp [dm,dA,ab,D.scB,ItemD.dat]) (by simp [a9]) (by simp only [cD,cr,ab,if_true,if_false,Nat.reduceEqDiff];exact ⟨cP _,bU _,trivial,trivial⟩) ?_
   repeat' (first|((with_reducible first|(apply hK;clear hK K)|refine ah fun U O=>?_|apply ag|(apply Z<;>(intro hc;try simp at hc;try omega)))<;>try simp only [go_sem,ItemD.dat])|(with_reducible first|apply aj|(apply O;clear O U)|refine kN fM fun K hK=>?_|refine kO fun K hK=>?_|refine aI ?_)|apply iB)
   refine bG (es:=(l.take k).map ItemD.dat) (fs:=[x.dat]) (n:=k) (n2:=1) rfl (ae _ _ ff) rfl rfl rfl rfl (by decide) htl rfl (by exact True.intro) (by exact True.intro) (by simp<;>omega) ?_
   repeat' (first|((with_reducible first|(apply hK;clear hK K)|refine ah fun U O=>?_|apply ag|(apply Z<;>(intro hc;try simp at hc;try omega)))<;>try simp only [go_sem,ItemD.dat])|(with_reducible first|apply aj|(apply O;clear O U)|refine kN fM fun K hK=>?_|refine kO fun K hK=>?_|refine aI ?_)|apply iB)
   exact ⟨k + 1,by omega,by omega,(an [] (by simp [lk,ab,ItemD.dat,hyt,eP (Nat.succ_pos k),-List.map_take]<;>omega))⟩
 ·obtain rfl:k = l.length:=by omega
  by_cases h0:l.length = 0
  ·rw [mK h0,show eg l = _ from if_pos h0]
   repeat' (first|((with_reducible first|(apply hK;clear hK K)|refine ah fun U O=>?_|apply ag|(apply Z<;>(intro hc;try simp at hc;try omega)))<;>try simp only [go_sem,h0])|(with_reducible first|apply aj|(apply O;clear O U)|refine kN fM fun K hK=>?_|refine kO fun K hK=>?_|refine aI ?_)|apply iB)
   refine ak rfl (by simp only [h0,bj,bn,ab,lk,ao,aK,List.length_append,List.length_take,if_true,if_false,Nat.reduceEqDiff,Nat.reduceBEq,Bool.false_eq_true,Option.some.injEq];rfl) (by simp [am,lk]) ?_;rfl
  ·rw [eP (by omega),List.take_length,show eg l = _ from if_neg h0]
   repeat' (first|((with_reducible first|(apply hK;clear hK K)|refine ah fun U O=>?_|apply ag|(apply Z<;>(intro hc;try simp at hc;try omega)))<;>try simp only [go_sem])|(with_reducible first|apply aj|(apply O;clear O U)|refine kN fM fun K hK=>?_|refine kO fun K hK=>?_|refine aI ?_)|apply iB)
   refine ak rfl (by simp only [ao,bj,bn,ab,lk,ao,aK,List.length_append,List.length_take,if_true,if_false,Nat.reduceEqDiff,Nat.reduceBEq,Bool.false_eq_true,Option.some.injEq];rfl) (by simp [am,lk]) ?_;rfl
theorem nZ (xs:List ByteArray) (hb:xs.length≤16777216):FnEq Tryz.prog 156 [.d (.lst 1 (xs.map aX))] [.row 9 1 (xs.map aX)]:=by
 refine aN ae Tryz.func156 rfl rfl ?_;simp only [Tryz.ntmps156,aP,aK,Nat.reduceAdd,Nat.reduceSub,aV]
 repeat' (first|((with_reducible first|(apply hK;clear hK K)|refine ah fun U O=>?_|apply ag|(apply Z<;>(intro hc;try simp at hc;try omega)))<;>try simp only [go_sem,ao])|(with_reducible first|apply aj|(apply O;clear O U)|refine kN x7 fun K hK=>?_|refine kO fun K hK=>?_|refine aI ?_)|fail)
 refine ak rfl (by simp only [ao,bj,bn,ab,lk,ao,aK,List.length_append,List.length_take,if_true,if_false,Nat.reduceEqDiff,Nat.reduceBEq,Bool.false_eq_true,Option.some.injEq];rfl) (by simp [am,lk]) ?_;rfl
theorem i3 (xs:List Int) (hb:xs.length≤16777216):FnEq Tryz.prog 157 [.d (.lst 1 (xs.map aa))] [.row 3 1 (xs.map aa)]:=by
 refine aN ae Tryz.func157 rfl rfl ?_;simp only [Tryz.ntmps157,aP,aK,Nat.reduceAdd,Nat.reduceSub,aV]
 repeat' (first|((with_reducible first|(apply hK;clear hK K)|refine ah fun U O=>?_|apply ag|(apply Z<;>(intro hc;try simp at hc;try omega)))<;>try simp only [go_sem,ao])|(with_reducible first|apply aj|(apply O;clear O U)|refine kN x8 fun K hK=>?_|refine kO fun K hK=>?_|refine aI ?_)|fail)
 refine ak rfl (by simp only [ao,bj,bn,ab,lk,ao,aK,List.length_append,List.length_take,if_true,if_false,Nat.reduceEqDiff,Nat.reduceBEq,Bool.false_eq_true,Option.some.injEq];rfl) (by simp [am,lk]) ?_;rfl
theorem iE (l:List ItemD) (hn:l.length≤1048576) (hs:∀ r ∈ l,ItFit 1048576 r):FnEq Tryz.prog 120 [.d (.lst 3 (l.map ItemD.dat))] [eg l]:=by
 refine aN ae Tryz.func120 rfl rfl ?_;simp only [Tryz.ntmps120,aP,aK,Nat.reduceAdd,Nat.reduceSub,aV]
 repeat' (first|((with_reducible first|(apply hK;clear hK K)|refine ah fun U O=>?_|apply ag|(apply Z<;>(intro hc;try simp at hc;try omega)))<;>try simp only [go_sem])|(with_reducible first|apply aj|(apply O;clear O U)|refine kN ju fun K hK=>?_|refine kO fun K hK=>?_|refine aI ?_)|apply iB)
 refine aA [2,3,5,8,9,10,11,12,13,14,15,16,17,18,19,20,21,22,23,24] (fun k:Nat=>[(8,.d (.int .i64 (k:Int))),(3,.row 0 k)]) (fun k:Nat=>[(0,lH l k)]) 1 (fun k:Nat=>k≤l.length) (fun k:Nat=>l.length - k) 0 (Nat.zero_le _) (an [] (by simp [lk,ab,n5]<;>omega)) ?_
 intro k hk
 simp only [bc,wipe,wl,bb,bx,rm,if_true,if_false,Nat.reduceEqDiff,Bool.false_eq_true,reduceCtorEq]
 by_cases hlt:k < l.length
 ·have hx:=List.getElem?_eq_getElem hlt
  generalize l[k] = x at hx
  have hyt:=bJ hx
  have htl:((l.take k).map ItemD.dat).length = k:=by simp;omega
  obtain ⟨hf1,hf2,hf3⟩:=hs x (List.mem_of_getElem? hx)
  by_cases hk0:k = 0
  ·have htk:l.take k = []:=by rw [hk0];rfl
   rw [mK hk0]
   repeat' (first|((with_reducible first|(apply hK;clear hK K)|refine ah fun U O=>?_|apply ag|(apply Z<;>(intro hc;try simp at hc;try omega)))<;>try simp only [go_sem,ap,hx,ar,ItemD.dat,hlt])|(with_reducible first|apply aj|(apply O;clear O U)|refine kN ju fun K hK=>?_|refine kO fun K hK=>?_|refine aI ?_)|apply iB)
   refine bH 13 ay rfl (fun K hK=>?_)
   refine aT 0 rfl rfl rfl (aM (.inl rfl)) ?_
   try simp only [go_sem,aB,aD,aE,ao,ItemD.dat]
   refine aT 1 rfl rfl rfl (aY rfl (ae _ _ dY) rfl rfl) ?_
   try simp only [go_sem,aB,aD,aE,ao,ItemD.dat]
   refine aT 4 rfl rfl rfl (aY rfl (ae _ _ dY) rfl rfl) ?_
   try simp only [go_sem,aB,aD,aE,ao,ItemD.dat]
   refine aT 7 rfl rfl rfl (aY rfl (ae _ _ dY) rfl rfl) ?_
   try simp only [go_sem,aB,aD,aE,ao,ItemD.dat]
   repeat' (first
    |((with_reducible refine O _ ?_);clear O U;try simp only [go_sem,aB,aD,aE,ao,ItemD.dat])
    |((with_reducible refine bB ?_);first
     |(refine aT 12 rfl rfl rfl (aM (.inr rfl)) ?_;try simp only [go_sem,aB,aD,aE,ao,ItemD.dat])
     |((first|((with_reducible first|refine aS (fuel:=8) [2,5,8] ?_|refine aS (fuel:=7) [3,5,8] ?_);refine ⟨⟨_,rfl,fun U O=>?_⟩,⟨_,rfl,fun U O=>?_⟩,⟨_,rfl,fun U O=>?_⟩,trivial⟩)|((with_reducible first|refine aS (fuel:=7) [2,8] ?_|refine aS (fuel:=7) [2,5] ?_|refine aS (fuel:=6) [5,8] ?_|refine aS (fuel:=6) [3,8] ?_|refine aS (fuel:=6) [3,5] ?_|refine aS (fuel:=5) [6,8] ?_);refine ⟨⟨_,rfl,fun U O=>?_⟩,⟨_,rfl,fun U O=>?_⟩,trivial⟩)|((with_reducible first|refine aS (fuel:=6) [2] ?_|refine aS (fuel:=5) [5] ?_|refine aS (fuel:=5) [3] ?_|refine aS (fuel:=4) [8] ?_|refine aS (fuel:=4) [6] ?_|refine aS (fuel:=3) [9] ?_|refine aS (fuel:=2) [10] ?_|refine aS (fuel:=1) [11] ?_);refine ⟨⟨_,rfl,fun U O=>?_⟩,trivial⟩))<;>((first|with_reducible refine bA rfl ?_|refine bl rfl ?_);simp only [go_sem,aB,aD,aE,ao,ItemD.dat]))
     |(refine bi (by decide +kernel) (hK _ ?_);clear hK K;try simp only [go_sem,aB,aD,aE,ao,ItemD.dat]))
    |((with_reducible apply CallK.eq);(focus (with_reducible first|exact nZ x.names (by omega)|exact i3 x.marks (by omega)));(focus (first|exact rfl|(simp [RV.flat,D.sc,aa];done)));try simp only [go_sem,aB,aD,aE,ao,ItemD.dat])
    |(((first|(refine bq (cs:=[.row 2 x.names.length,.row 3 x.marks.length,.d (.bool x.late)]) (ds:=x.dat) rfl (ae _ _ ff) (by decide) rfl (by simp [dm,dA,ab,D.scB,ItemD.dat]) (by simp [a9]) (by simp only [cD,cr,ab,if_true,if_false,Nat.reduceEqDiff];exact ⟨cP _,bU _,trivial,trivial⟩) ?_)|(refine bq (cs:=[.row 3 x.names.length,.row 2 x.marks.length,.d (.bool x.late)]) (ds:=x.dat) rfl (ae _ _ ff) (by decide) rfl (by simp [dm,dA,ab,D.scB,ItemD.dat]) (by simp [a9]) (by simp only [cD,cr,ab,if_true,if_false,Nat.reduceEqDiff];exact ⟨cP _,bU _,trivial,trivial⟩) ?_)));(refine O _ ?_);(clear O U);(simp only [go_sem,ItemD.dat,ao]))
    |((refine bG (es:=[]) (fs:=[x.dat]) (n:=k) (n2:=1) rfl (ae _ _ ff) rfl rfl rfl rfl (by decide) (by simp;omega) rfl (by intro e he;simp at he) (by exact True.intro) (by simp<;>omega) ?_);(refine O _ ?_);(clear O U);(simp only [go_sem,ItemD.dat,ao]))
    |with_reducible refine aI ?_
    |with_reducible refine aZ ?_|with_reducible refine bh ?_|with_reducible refine ba ?_)
   all_goals
    repeat' (first|((with_reducible first|(apply hK;clear hK K)|refine ah fun U O=>?_|apply ag|(apply Z<;>(intro hc;try simp at hc;try omega)))<;>try simp only [go_sem])|(with_reducible first|apply aj|(apply O;clear O U)|refine kN ju fun K hK=>?_|refine kO fun K hK=>?_|refine aI ?_)|apply iB)
    exact ⟨k + 1,by omega,by omega,(an [] (by simp [lk,ab,htk,ItemD.dat,hyt,eP (Nat.succ_pos k),-List.map_take]<;>omega))⟩
  ·rw [eP (show 0 < k by omega)]
   repeat' (first|((with_reducible first|(apply hK;clear hK K)|refine ah fun U O=>?_|apply ag|(apply Z<;>(intro hc;try simp at hc;try omega)))<;>try simp only [go_sem,ap,hx,ar,ItemD.dat,hlt])|(with_reducible first|apply aj|(apply O;clear O U)|refine kN ju fun K hK=>?_|refine kO fun K hK=>?_|refine aI ?_)|apply iB)
   refine bH 13 ay rfl (fun K hK=>?_)
   refine aT 0 rfl rfl rfl (aM (.inl rfl)) ?_
   try simp only [go_sem,aB,aD,aE,ao,ItemD.dat]
   refine aT 1 rfl rfl rfl (aY rfl (ae _ _ dY) rfl rfl) ?_
   try simp only [go_sem,aB,aD,aE,ao,ItemD.dat]
   refine aT 4 rfl rfl rfl (aY rfl (ae _ _ dY) rfl rfl) ?_
   try simp only [go_sem,aB,aD,aE,ao,ItemD.dat]
   refine aT 7 rfl rfl rfl (aY rfl (ae _ _ dY) rfl rfl) ?_
   try simp only [go_sem,aB,aD,aE,ao,ItemD.dat]
   repeat' (first
    |((with_reducible refine O _ ?_);clear O U;try simp only [go_sem,aB,aD,aE,ao,ItemD.dat])
    |((with_reducible refine bB ?_);first
     |(refine aT 12 rfl rfl rfl (aM (.inr rfl)) ?_;try simp only [go_sem,aB,aD,aE,ao,ItemD.dat])
     |((first|((with_reducible first|refine aS (fuel:=8) [2,5,8] ?_|refine aS (fuel:=7) [3,5,8] ?_);refine ⟨⟨_,rfl,fun U O=>?_⟩,⟨_,rfl,fun U O=>?_⟩,⟨_,rfl,fun U O=>?_⟩,trivial⟩)|((with_reducible first|refine aS (fuel:=7) [2,8] ?_|refine aS (fuel:=7) [2,5] ?_|refine aS (fuel:=6) [5,8] ?_|refine aS (fuel:=6) [3,8] ?_|refine aS (fuel:=6) [3,5] ?_|refine aS (fuel:=5) [6,8] ?_);refine ⟨⟨_,rfl,fun U O=>?_⟩,⟨_,rfl,fun U O=>?_⟩,trivial⟩)|((with_reducible first|refine aS (fuel:=6) [2] ?_|refine aS (fuel:=5) [5] ?_|refine aS (fuel:=5) [3] ?_|refine aS (fuel:=4) [8] ?_|refine aS (fuel:=4) [6] ?_|refine aS (fuel:=3) [9] ?_|refine aS (fuel:=2) [10] ?_|refine aS (fuel:=1) [11] ?_);refine ⟨⟨_,rfl,fun U O=>?_⟩,trivial⟩))<;>((first|with_reducible refine bA rfl ?_|refine bl rfl ?_);simp only [go_sem,aB,aD,aE,ao,ItemD.dat]))
     |(refine bi (by decide +kernel) (hK _ ?_);clear hK K;try simp only [go_sem,aB,aD,aE,ao,ItemD.dat]))
    |((with_reducible apply CallK.eq);(focus (with_reducible first|exact nZ x.names (by omega)|exact i3 x.marks (by omega)));(focus (first|exact rfl|(simp [RV.flat,D.sc,aa];done)));try simp only [go_sem,aB,aD,aE,ao,ItemD.dat])
    |(((first|(refine bq (cs:=[.row 2 x.names.length,.row 3 x.marks.length,.d (.bool x.late)]) (ds:=x.dat) rfl (ae _ _ ff) (by decide) rfl (by simp [dm,dA,ab,D.scB,ItemD.dat]) (by simp [a9]) (by simp only [cD,cr,ab,if_true,if_false,Nat.reduceEqDiff];exact ⟨cP _,bU _,trivial,trivial⟩) ?_)|(refine bq (cs:=[.row 3 x.names.length,.row 2 x.marks.length,.d (.bool x.late)]) (ds:=x.dat) rfl (ae _ _ ff) (by decide) rfl (by simp [dm,dA,ab,D.scB,ItemD.dat]) (by simp [a9]) (by simp only [cD,cr,ab,if_true,if_false,Nat.reduceEqDiff];exact ⟨cP _,bU _,trivial,trivial⟩) ?_)));(refine O _ ?_);(clear O U);(simp only [go_sem,ItemD.dat,ao]))
    |((refine bG (es:=(l.take k).map ItemD.dat) (fs:=[x.dat]) (n:=k) (n2:=1) rfl (ae _ _ ff) rfl rfl rfl rfl (by decide) htl rfl (by exact True.intro) (by exact True.intro) (by simp<;>omega) ?_);(refine O _ ?_);(clear O U);(simp only [go_sem,ItemD.dat,ao]))
    |with_reducible refine aI ?_
    |with_reducible refine aZ ?_|with_reducible refine bh ?_|with_reducible refine ba ?_)
   all_goals
    repeat' (first|((with_reducible first|(apply hK;clear hK K)|refine ah fun U O=>?_|apply ag|(apply Z<;>(intro hc;try simp at hc;try omega)))<;>try simp only [go_sem])|(with_reducible first|apply aj|(apply O;clear O U)|refine kN ju fun K hK=>?_|refine kO fun K hK=>?_|refine aI ?_)|apply iB)
    exact ⟨k + 1,by omega,by omega,(an [] (by simp [lk,ab,ItemD.dat,hyt,eP (Nat.succ_pos k),-List.map_take]<;>omega))⟩
 ·obtain rfl:k = l.length:=by omega
  by_cases h0:l.length = 0
  ·rw [mK h0,show eg l = _ from if_pos h0]
   repeat' (first|((with_reducible first|(apply hK;clear hK K)|refine ah fun U O=>?_|apply ag|(apply Z<;>(intro hc;try simp at hc;try omega)))<;>try simp only [go_sem,h0])|(with_reducible first|apply aj|(apply O;clear O U)|refine kN ju fun K hK=>?_|refine kO fun K hK=>?_|refine aI ?_)|apply iB)
   refine ak rfl (by simp only [h0,bj,bn,ab,lk,ao,aK,List.length_append,List.length_take,if_true,if_false,Nat.reduceEqDiff,Nat.reduceBEq,Bool.false_eq_true,Option.some.injEq];rfl) (by simp [am,lk]) ?_;rfl
  ·rw [eP (by omega),List.take_length,show eg l = _ from if_neg h0]
   repeat' (first|((with_reducible first|(apply hK;clear hK K)|refine ah fun U O=>?_|apply ag|(apply Z<;>(intro hc;try simp at hc;try omega)))<;>try simp only [go_sem])|(with_reducible first|apply aj|(apply O;clear O U)|refine kN ju fun K hK=>?_|refine kO fun K hK=>?_|refine aI ?_)|apply iB)
   refine ak rfl (by simp only [ao,bj,bn,ab,lk,ao,aK,List.length_append,List.length_take,if_true,if_false,Nat.reduceEqDiff,Nat.reduceBEq,Bool.false_eq_true,Option.some.injEq];rfl) (by simp [am,lk]) ?_;rfl
end Go.Proofs.YtphakidbddamfaaGreat
