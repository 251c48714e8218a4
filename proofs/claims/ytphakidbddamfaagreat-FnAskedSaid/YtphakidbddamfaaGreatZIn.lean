/-
  Items copied: the program's functions and the reference's, in the abstract machine.
-/
import Derived.Test.YtphakidbddamfaaGreatZMst
import Derived.Test.YtphakidbddamfaaGreatZIk
import Derived.Test.YtphakidbddamfaaGreatZOrd
import Derived.Test.YtphakidbddamfaaGreatZM11
set_option linter.unusedSimpArgs false
set_option linter.unusedVariables false
set_option maxHeartbeats 2000000
set_option maxRecDepth 100000
namespace Go.Proofs.YtphakidbddamfaaGreat
open Go.RowKit
theorem lg (r:ItemD) (hf:ItFit 1048576 r):FnAg Tryz.prog 145 [.agg [.d (.lst 1 (r.names.map aZ)),.d (.lst 1 (r.marks.map ab)),.d (.bool r.late)]] [.row 9 1 (r.names.map aZ),.row 3 1 (r.marks.map ab),.d (.bool r.late)]:=by
 obtain ⟨hf1,hf2,hf3⟩:=hf
 refine mt aa Tryz.func145 rfl rfl ?_;simp only [Tryz.ntmps145,aR,aM,Nat.reduceAdd,Nat.reduceSub,aW]
 repeat' (first|((with_reducible first|(refine hK _ ?_;clear hK K)|refine aj fun U O=>?_|apply ah|(apply Z<;>(intro hc;try simp at hc;try omega)))<;>try simp only [go_sem])|(with_reducible first|apply ag|(refine O _ ?_;clear O U)|refine kN tH fun K hK=>?_|refine kO fun K hK=>?_|refine aI ?_)|fail)
 refine bJ 11 tH ax rfl (fun K hK=>?_)
 refine aT 1 rfl rfl rfl (aY rfl (aa _ _ d3) rfl rfl) ?_
 try simp only [go_sem,aA,aB,aC,an]
 refine aT 4 rfl rfl rfl (aY rfl (aa _ _ d3) rfl rfl) ?_
 try simp only [go_sem,aA,aB,aC,an]
 refine aT 7 rfl rfl rfl (aY rfl (aa _ _ d3) rfl rfl) ?_
 try simp only [go_sem,aA,aB,aC,an]
 repeat' (first
  |((with_reducible refine O _ ?_);clear O U;try simp only [go_sem,aA,aB,aC,an])
  |((with_reducible refine bB ?_);first
   |((first|((with_reducible first|refine aS (fuel:=7) [0,2,5,8] ?_);refine ⟨⟨_,rfl,fun U O=>?_⟩,⟨_,rfl,fun U O=>?_⟩,⟨_,rfl,fun U O=>?_⟩,⟨_,rfl,fun U O=>?_⟩,trivial⟩)|((with_reducible first|refine aS (fuel:=6) [2,5,8] ?_|refine aS (fuel:=6) [0,5,8] ?_|refine aS (fuel:=6) [0,2,8] ?_|refine aS (fuel:=6) [0,2,5] ?_|refine aS (fuel:=5) [3,5,8] ?_);refine ⟨⟨_,rfl,fun U O=>?_⟩,⟨_,rfl,fun U O=>?_⟩,⟨_,rfl,fun U O=>?_⟩,trivial⟩)|((with_reducible first|refine aS (fuel:=5) [2,8] ?_|refine aS (fuel:=5) [2,5] ?_|refine aS (fuel:=5) [0,8] ?_|refine aS (fuel:=5) [0,5] ?_|refine aS (fuel:=5) [0,2] ?_|refine aS (fuel:=4) [5,8] ?_|refine aS (fuel:=4) [3,8] ?_|refine aS (fuel:=4) [3,5] ?_|refine aS (fuel:=3) [6,8] ?_);refine ⟨⟨_,rfl,fun U O=>?_⟩,⟨_,rfl,fun U O=>?_⟩,trivial⟩)|((with_reducible first|refine aS (fuel:=4) [2] ?_|refine aS (fuel:=4) [0] ?_|refine aS (fuel:=3) [5] ?_|refine aS (fuel:=3) [3] ?_|refine aS (fuel:=2) [8] ?_|refine aS (fuel:=2) [6] ?_|refine aS (fuel:=1) [9] ?_|refine aS (fuel:=0) [10] ?_);refine ⟨⟨_,rfl,fun U O=>?_⟩,trivial⟩))<;>((first|with_reducible refine aX rfl ?_|refine aP rfl ?_);simp only [go_sem,aA,aB,aC,an]))
   |(refine bk (by decide +kernel) (hK _ ?_);clear hK K;try simp only [go_sem,aA,aB,aC,an]))
  |((with_reducible apply CallK.eq);(focus (with_reducible first|exact lq r.marks hf3));(focus (first|exact rfl|(simp [RV.flat,D.sc,ab];done)));try simp only [go_sem,aA,aB,aC,an])
  |with_reducible refine aI ?_)
 all_goals
  repeat' (first|((with_reducible first|(refine hK _ ?_;clear hK K)|refine aj fun U O=>?_|apply ah|(apply Z<;>(intro hc;try simp at hc;try omega)))<;>try simp only [go_sem])|(with_reducible first|apply ag|(refine O _ ?_;clear O U)|refine kN tH fun K hK=>?_|refine kO fun K hK=>?_|refine aI ?_)|fail)
  refine ⟨_,rfl,by simp only [bl,bn,ae,lk,List.take_succ_cons,List.take_zero,List.drop_zero,an,if_true,if_false,Nat.reduceEqDiff],by simp [am,lk]⟩
def lP (l:List ItemD) (k:Nat):Blk:=if k = 0 then .row 143 3 [] else .deep 0 143 3 ((l.take k).map ItemD.dat)
theorem oh (l:List ItemD):lP l 0 = .row 143 3 []:=rfl
theorem eS {l:List ItemD} {k:Nat} (h:0 < k):lP l k = .deep 0 143 3 ((l.take k).map ItemD.dat):=by unfold lP;rw [if_neg (by omega)]
theorem mg {l:List ItemD} {k:Nat} (h:k = 0):lP l k = .row 143 3 []:=by unfold lP;rw [if_pos h]
def dO (l:List ItemD):RV:=if l.length = 0 then .row 143 3 [] else .deep 143 3 (l.map ItemD.dat)
theorem vV (x:ItemD):∀ r ∈ [RV.row 9 1 (x.names.map aZ),RV.row 3 1 (x.marks.map ab),RV.d (.bool x.late)],r.flat:=by
 intro r hr
 simp only [List.mem_cons,List.not_mem_nil,or_false] at hr
 rcases hr with rfl|rfl|rfl
 ·exact cP _
 ·exact bT _
 ·simp [RV.flat,D.sc]
theorem fV (l:List ItemD) (hn:l.length≤1048576) (hs:∀ r ∈ l,ItFit 1048576 r):FnEq Tryz.prog 100 [.d (.lst 3 (l.map ItemD.dat))] [dO l]:=by
 refine aO aa Tryz.func100 rfl rfl ?_;simp only [Tryz.ntmps100,aR,aM,Nat.reduceAdd,Nat.reduceSub,aW]
 repeat' (first|((with_reducible first|(refine hK _ ?_;clear hK K)|refine aj fun U O=>?_|apply ah|(apply Z<;>(intro hc;try simp at hc;try omega)))<;>try simp only [go_sem])|(with_reducible first|apply ag|(refine O _ ?_;clear O U)|refine kN fR fun K hK=>?_|refine kO fun K hK=>?_|refine aI ?_)|apply iB)
 refine aD [2,3,5,9,10,11,12,13,14,15,16,17,18] (fun k:Nat=>[(9,.d (.int .i64 (k:Int))),(3,.row 0 k)]) (fun k:Nat=>[(0,lP l k)]) 1 (fun k:Nat=>k≤l.length) (fun k:Nat=>l.length - k) 0 (Nat.zero_le _) (ao [] (by simp [lk,ae,oh]<;>omega)) ?_
 intro k hk
 simp only [bi,wipe,wl,bh,bw,rm,if_true,if_false,Nat.reduceEqDiff,Bool.false_eq_true,reduceCtorEq]
 by_cases hlt:k < l.length
 ·have hx:=List.getElem?_eq_getElem hlt
  generalize l[k] = x at hx
  have hyt:=bW hx
  have htl:((l.take k).map ItemD.dat).length = k:=by simp;omega
  by_cases hk0:k = 0
  ·have htk:l.take k = []:=by rw [hk0];rfl
   rw [mg hk0]
   repeat' (first|((with_reducible first|(refine hK _ ?_;clear hK K)|refine aj fun U O=>?_|apply ah|(apply Z<;>(intro hc;try simp at hc;try omega)))<;>try simp only [go_sem,ap,hx,aq,ItemD.dat,hlt])|(with_reducible first|apply ag|(refine O _ ?_;clear O U)|refine kN fR fun K hK=>?_|refine kO fun K hK=>?_|refine aI ?_)|apply iB)
   refine CallK.po (jF rfl rfl (lg x (hs x (List.mem_of_getElem? hx))) ⟨fun _=>vV x,?_⟩)
   repeat' (first|((with_reducible first|(refine hK _ ?_;clear hK K)|refine aj fun U O=>?_|apply ah|(apply Z<;>(intro hc;try simp at hc;try omega)))<;>try simp only [go_sem])|(with_reducible first|apply ag|(refine O _ ?_;clear O U)|refine kN fR fun K hK=>?_|refine kO fun K hK=>?_|refine aI ?_)|apply iB)
   refine bA (cs:=[.row 2 x.names.length,.row 3 x.marks.length,.d (.bool x.late)]) (ds:=x.dat) rfl (aa _ _ fk) (by decide) rfl (by simp [dE,dL,ae,D.scB,ItemD.dat]) (by simp [bb]) (by simp only [cY,cy,ae,if_true,if_false,Nat.reduceEqDiff];exact ⟨cP _,bT _,trivial,trivial⟩) ?_
   repeat' (first|((with_reducible first|(refine hK _ ?_;clear hK K)|refine aj fun U O=>?_|apply ah|(apply Z<;>(intro hc;try simp at hc;try omega)))<;>try simp only [go_sem,ItemD.dat])|(with_reducible first|apply ag|(refine O _ ?_;clear O U)|refine kN fR fun K hK=>?_|refine kO fun K hK=>?_|refine aI ?_)|apply iB)
   refine bM (es:=[]) (fs:=[x.dat]) (n:=k) (n2:=1) rfl (aa _ _ fk) rfl rfl rfl rfl (by decide) (by simp;omega) rfl (by intro e he;simp at he) (by exact True.intro) (by simp<;>omega) ?_
   repeat' (first|((with_reducible first|(refine hK _ ?_;clear hK K)|refine aj fun U O=>?_|apply ah|(apply Z<;>(intro hc;try simp at hc;try omega)))<;>try simp only [go_sem,ItemD.dat])|(with_reducible first|apply ag|(refine O _ ?_;clear O U)|refine kN fR fun K hK=>?_|refine kO fun K hK=>?_|refine aI ?_)|apply iB)
   exact ⟨k + 1,by omega,by omega,(ao [] (by simp [lk,ae,htk,ItemD.dat,hyt,eS (Nat.succ_pos k),-List.map_take]<;>omega))⟩
  ·rw [eS (show 0 < k by omega)]
   repeat' (first|((with_reducible first|(refine hK _ ?_;clear hK K)|refine aj fun U O=>?_|apply ah|(apply Z<;>(intro hc;try simp at hc;try omega)))<;>try simp only [go_sem,ap,hx,aq,ItemD.dat,hlt])|(with_reducible first|apply ag|(refine O _ ?_;clear O U)|refine kN fR fun K hK=>?_|refine kO fun K hK=>?_|refine aI ?_)|apply iB)
   refine CallK.po (jF rfl rfl (lg x (hs x (List.mem_of_getElem? hx))) ⟨fun _=>vV x,?_⟩)
   repeat' (first|((with_reducible first|(refine hK _ ?_;clear hK K)|refine aj fun U O=>?_|apply ah|(apply Z<;>(intro hc;try simp at hc;try omega)))<;>try simp only [go_sem])|(with_reducible first|apply ag|(refine O _ ?_;clear O U)|refine kN fR fun K hK=>?_|refine kO fun K hK=>?_|refine aI ?_)|apply iB)
   refine bA (cs:=[.row 2 x.names.length,.row 3 x.marks.length,.d (.bool x.late)]) (ds:=x.dat) rfl (aa _ _ fk) (by decide) rfl (by simp [dE,dL,ae,D.scB,ItemD.dat]) (by simp [bb]) (by simp only [cY,cy,ae,if_true,if_false,Nat.reduceEqDiff];exact ⟨cP _,bT _,trivial,trivial⟩) ?_
   repeat' (first|((with_reducible first|(refine hK _ ?_;clear hK K)|refine aj fun U O=>?_|apply ah|(apply Z<;>(intro hc;try simp at hc;try omega)))<;>try simp only [go_sem,ItemD.dat])|(with_reducible first|apply ag|(refine O _ ?_;clear O U)|refine kN fR fun K hK=>?_|refine kO fun K hK=>?_|refine aI ?_)|apply iB)
   refine bM (es:=(l.take k).map ItemD.dat) (fs:=[x.dat]) (n:=k) (n2:=1) rfl (aa _ _ fk) rfl rfl rfl rfl (by decide) htl rfl (by exact True.intro) (by exact True.intro) (by simp<;>omega) ?_
   repeat' (first|((with_reducible first|(refine hK _ ?_;clear hK K)|refine aj fun U O=>?_|apply ah|(apply Z<;>(intro hc;try simp at hc;try omega)))<;>try simp only [go_sem,ItemD.dat])|(with_reducible first|apply ag|(refine O _ ?_;clear O U)|refine kN fR fun K hK=>?_|refine kO fun K hK=>?_|refine aI ?_)|apply iB)
   exact ⟨k + 1,by omega,by omega,(ao [] (by simp [lk,ae,ItemD.dat,hyt,eS (Nat.succ_pos k),-List.map_take]<;>omega))⟩
 ·obtain rfl:k = l.length:=by omega
  by_cases h0:l.length = 0
  ·rw [mg h0,show dO l = _ from if_pos h0]
   repeat' (first|((with_reducible first|(refine hK _ ?_;clear hK K)|refine aj fun U O=>?_|apply ah|(apply Z<;>(intro hc;try simp at hc;try omega)))<;>try simp only [go_sem,h0])|(with_reducible first|apply ag|(refine O _ ?_;clear O U)|refine kN fR fun K hK=>?_|refine kO fun K hK=>?_|refine aI ?_)|apply iB)
   refine ak rfl (by simp only [h0,bl,bn,ae,lk,an,aM,List.length_append,List.length_take,if_true,if_false,Nat.reduceEqDiff,Nat.reduceBEq,Bool.false_eq_true,Option.some.injEq];rfl) (by simp [am,lk]) ?_;rfl
  ·rw [eS (by omega),List.take_length,show dO l = _ from if_neg h0]
   repeat' (first|((with_reducible first|(refine hK _ ?_;clear hK K)|refine aj fun U O=>?_|apply ah|(apply Z<;>(intro hc;try simp at hc;try omega)))<;>try simp only [go_sem])|(with_reducible first|apply ag|(refine O _ ?_;clear O U)|refine kN fR fun K hK=>?_|refine kO fun K hK=>?_|refine aI ?_)|apply iB)
   refine ak rfl (by simp only [an,bl,bn,ae,lk,an,aM,List.length_append,List.length_take,if_true,if_false,Nat.reduceEqDiff,Nat.reduceBEq,Bool.false_eq_true,Option.some.injEq];rfl) (by simp [am,lk]) ?_;rfl
theorem nM (xs:List ByteArray) (hb:xs.length≤16777216):FnEq Tryz.prog 156 [.d (.lst 1 (xs.map aZ))] [.row 9 1 (xs.map aZ)]:=by
 refine aO aa Tryz.func156 rfl rfl ?_;simp only [Tryz.ntmps156,aR,aM,Nat.reduceAdd,Nat.reduceSub,aW]
 repeat' (first|((with_reducible first|(refine hK _ ?_;clear hK K)|refine aj fun U O=>?_|apply ah|(apply Z<;>(intro hc;try simp at hc;try omega)))<;>try simp only [go_sem,an])|(with_reducible first|apply ag|(refine O _ ?_;clear O U)|refine kN x5 fun K hK=>?_|refine kO fun K hK=>?_|refine aI ?_)|fail)
 refine ak rfl (by simp only [an,bl,bn,ae,lk,an,aM,List.length_append,List.length_take,if_true,if_false,Nat.reduceEqDiff,Nat.reduceBEq,Bool.false_eq_true,Option.some.injEq];rfl) (by simp [am,lk]) ?_;rfl
theorem iI (xs:List Int) (hb:xs.length≤16777216):FnEq Tryz.prog 157 [.d (.lst 1 (xs.map ab))] [.row 3 1 (xs.map ab)]:=by
 refine aO aa Tryz.func157 rfl rfl ?_;simp only [Tryz.ntmps157,aR,aM,Nat.reduceAdd,Nat.reduceSub,aW]
 repeat' (first|((with_reducible first|(refine hK _ ?_;clear hK K)|refine aj fun U O=>?_|apply ah|(apply Z<;>(intro hc;try simp at hc;try omega)))<;>try simp only [go_sem,an])|(with_reducible first|apply ag|(refine O _ ?_;clear O U)|refine kN xT fun K hK=>?_|refine kO fun K hK=>?_|refine aI ?_)|fail)
 refine ak rfl (by simp only [an,bl,bn,ae,lk,an,aM,List.length_append,List.length_take,if_true,if_false,Nat.reduceEqDiff,Nat.reduceBEq,Bool.false_eq_true,Option.some.injEq];rfl) (by simp [am,lk]) ?_;rfl
theorem ir (l:List ItemD) (hn:l.length≤1048576) (hs:∀ r ∈ l,ItFit 1048576 r):FnEq Tryz.prog 120 [.d (.lst 3 (l.map ItemD.dat))] [dO l]:=by
 refine aO aa Tryz.func120 rfl rfl ?_;simp only [Tryz.ntmps120,aR,aM,Nat.reduceAdd,Nat.reduceSub,aW]
 repeat' (first|((with_reducible first|(refine hK _ ?_;clear hK K)|refine aj fun U O=>?_|apply ah|(apply Z<;>(intro hc;try simp at hc;try omega)))<;>try simp only [go_sem])|(with_reducible first|apply ag|(refine O _ ?_;clear O U)|refine kN jA fun K hK=>?_|refine kO fun K hK=>?_|refine aI ?_)|apply iB)
 refine aD [2,3,5,8,9,10,11,12,13,14,15,16,17,18,19,20,21,22,23,24] (fun k:Nat=>[(8,.d (.int .i64 (k:Int))),(3,.row 0 k)]) (fun k:Nat=>[(0,lP l k)]) 1 (fun k:Nat=>k≤l.length) (fun k:Nat=>l.length - k) 0 (Nat.zero_le _) (ao [] (by simp [lk,ae,oh]<;>omega)) ?_
 intro k hk
 simp only [bi,wipe,wl,bh,bw,rm,if_true,if_false,Nat.reduceEqDiff,Bool.false_eq_true,reduceCtorEq]
 by_cases hlt:k < l.length
 ·have hx:=List.getElem?_eq_getElem hlt
  generalize l[k] = x at hx
  have hyt:=bW hx
  have htl:((l.take k).map ItemD.dat).length = k:=by simp;omega
  obtain ⟨hf1,hf2,hf3⟩:=hs x (List.mem_of_getElem? hx)
  by_cases hk0:k = 0
  ·have htk:l.take k = []:=by rw [hk0];rfl
   rw [mg hk0]
   repeat' (first|((with_reducible first|(refine hK _ ?_;clear hK K)|refine aj fun U O=>?_|apply ah|(apply Z<;>(intro hc;try simp at hc;try omega)))<;>try simp only [go_sem,ap,hx,aq,ItemD.dat,hlt])|(with_reducible first|apply ag|(refine O _ ?_;clear O U)|refine kN jA fun K hK=>?_|refine kO fun K hK=>?_|refine aI ?_)|apply iB)
   refine bF 13 ax rfl (fun K hK=>?_)
   refine aT 0 rfl rfl rfl (aL (.inl rfl)) ?_
   try simp only [go_sem,aA,aB,aC,an,ItemD.dat]
   refine aT 1 rfl rfl rfl (aY rfl (aa _ _ d3) rfl rfl) ?_
   try simp only [go_sem,aA,aB,aC,an,ItemD.dat]
   refine aT 4 rfl rfl rfl (aY rfl (aa _ _ d3) rfl rfl) ?_
   try simp only [go_sem,aA,aB,aC,an,ItemD.dat]
   refine aT 7 rfl rfl rfl (aY rfl (aa _ _ d3) rfl rfl) ?_
   try simp only [go_sem,aA,aB,aC,an,ItemD.dat]
   repeat' (first
    |((with_reducible refine O _ ?_);clear O U;try simp only [go_sem,aA,aB,aC,an,ItemD.dat])
    |((with_reducible refine bB ?_);first
     |(refine aT 12 rfl rfl rfl (aL (.inr rfl)) ?_;try simp only [go_sem,aA,aB,aC,an,ItemD.dat])
     |((first|((with_reducible first|refine aS (fuel:=8) [2,5,8] ?_|refine aS (fuel:=7) [3,5,8] ?_);refine ⟨⟨_,rfl,fun U O=>?_⟩,⟨_,rfl,fun U O=>?_⟩,⟨_,rfl,fun U O=>?_⟩,trivial⟩)|((with_reducible first|refine aS (fuel:=7) [2,8] ?_|refine aS (fuel:=7) [2,5] ?_|refine aS (fuel:=6) [5,8] ?_|refine aS (fuel:=6) [3,8] ?_|refine aS (fuel:=6) [3,5] ?_|refine aS (fuel:=5) [6,8] ?_);refine ⟨⟨_,rfl,fun U O=>?_⟩,⟨_,rfl,fun U O=>?_⟩,trivial⟩)|((with_reducible first|refine aS (fuel:=6) [2] ?_|refine aS (fuel:=5) [5] ?_|refine aS (fuel:=5) [3] ?_|refine aS (fuel:=4) [8] ?_|refine aS (fuel:=4) [6] ?_|refine aS (fuel:=3) [9] ?_|refine aS (fuel:=2) [10] ?_|refine aS (fuel:=1) [11] ?_);refine ⟨⟨_,rfl,fun U O=>?_⟩,trivial⟩))<;>((first|with_reducible refine aX rfl ?_|refine aP rfl ?_);simp only [go_sem,aA,aB,aC,an,ItemD.dat]))
     |(refine bk (by decide +kernel) (hK _ ?_);clear hK K;try simp only [go_sem,aA,aB,aC,an,ItemD.dat]))
    |((with_reducible apply CallK.eq);(focus (with_reducible first|exact nM x.names (by omega)|exact iI x.marks (by omega)));(focus (first|exact rfl|(simp [RV.flat,D.sc,ab];done)));try simp only [go_sem,aA,aB,aC,an,ItemD.dat])
    |(((first|(refine bA (cs:=[.row 2 x.names.length,.row 3 x.marks.length,.d (.bool x.late)]) (ds:=x.dat) rfl (aa _ _ fk) (by decide) rfl (by simp [dE,dL,ae,D.scB,ItemD.dat]) (by simp [bb]) (by simp only [cY,cy,ae,if_true,if_false,Nat.reduceEqDiff];exact ⟨cP _,bT _,trivial,trivial⟩) ?_)|(refine bA (cs:=[.row 3 x.names.length,.row 2 x.marks.length,.d (.bool x.late)]) (ds:=x.dat) rfl (aa _ _ fk) (by decide) rfl (by simp [dE,dL,ae,D.scB,ItemD.dat]) (by simp [bb]) (by simp only [cY,cy,ae,if_true,if_false,Nat.reduceEqDiff];exact ⟨cP _,bT _,trivial,trivial⟩) ?_)));(refine O _ ?_);(clear O U);(simp only [go_sem,ItemD.dat,an]))
    |((refine bM (es:=[]) (fs:=[x.dat]) (n:=k) (n2:=1) rfl (aa _ _ fk) rfl rfl rfl rfl (by decide) (by simp;omega) rfl (by intro e he;simp at he) (by exact True.intro) (by simp<;>omega) ?_);(refine O _ ?_);(clear O U);(simp only [go_sem,ItemD.dat,an]))
    |with_reducible refine aI ?_
    |with_reducible refine ba ?_|with_reducible refine bm ?_|with_reducible refine bc ?_)
   all_goals
    repeat' (first|((with_reducible first|(refine hK _ ?_;clear hK K)|refine aj fun U O=>?_|apply ah|(apply Z<;>(intro hc;try simp at hc;try omega)))<;>try simp only [go_sem])|(with_reducible first|apply ag|(refine O _ ?_;clear O U)|refine kN jA fun K hK=>?_|refine kO fun K hK=>?_|refine aI ?_)|apply iB)
    exact ⟨k + 1,by omega,by omega,(ao [] (by simp [lk,ae,htk,ItemD.dat,hyt,eS (Nat.succ_pos k),-List.map_take]<;>omega))⟩
  ·rw [eS (show 0 < k by omega)]
   repeat' (first|((with_reducible first|(refine hK _ ?_;clear hK K)|refine aj fun U O=>?_|apply ah|(apply Z<;>(intro hc;try simp at hc;try omega)))<;>try simp only [go_sem,ap,hx,aq,ItemD.dat,hlt])|(with_reducible first|apply ag|(refine O _ ?_;clear O U)|refine kN jA fun K hK=>?_|refine kO fun K hK=>?_|refine aI ?_)|apply iB)
   refine bF 13 ax rfl (fun K hK=>?_)
   refine aT 0 rfl rfl rfl (aL (.inl rfl)) ?_
   try simp only [go_sem,aA,aB,aC,an,ItemD.dat]
   refine aT 1 rfl rfl rfl (aY rfl (aa _ _ d3) rfl rfl) ?_
   try simp only [go_sem,aA,aB,aC,an,ItemD.dat]
   refine aT 4 rfl rfl rfl (aY rfl (aa _ _ d3) rfl rfl) ?_
   try simp only [go_sem,aA,aB,aC,an,ItemD.dat]
   refine aT 7 rfl rfl rfl (aY rfl (aa _ _ d3) rfl rfl) ?_
   try simp only [go_sem,aA,aB,aC,an,ItemD.dat]
   repeat' (first
    |((with_reducible refine O _ ?_);clear O U;try simp only [go_sem,aA,aB,aC,an,ItemD.dat])
    |((with_reducible refine bB ?_);first
     |(refine aT 12 rfl rfl rfl (aL (.inr rfl)) ?_;try simp only [go_sem,aA,aB,aC,an,ItemD.dat])
     |((first|((with_reducible first|refine aS (fuel:=8) [2,5,8] ?_|refine aS (fuel:=7) [3,5,8] ?_);refine ⟨⟨_,rfl,fun U O=>?_⟩,⟨_,rfl,fun U O=>?_⟩,⟨_,rfl,fun U O=>?_⟩,trivial⟩)|((with_reducible first|refine aS (fuel:=7) [2,8] ?_|refine aS (fuel:=7) [2,5] ?_|refine aS (fuel:=6) [5,8] ?_|refine aS (fuel:=6) [3,8] ?_|refine aS (fuel:=6) [3,5] ?_|refine aS (fuel:=5) [6,8] ?_);refine ⟨⟨_,rfl,fun U O=>?_⟩,⟨_,rfl,fun U O=>?_⟩,trivial⟩)|((with_reducible first|refine aS (fuel:=6) [2] ?_|refine aS (fuel:=5) [5] ?_|refine aS (fuel:=5) [3] ?_|refine aS (fuel:=4) [8] ?_|refine aS (fuel:=4) [6] ?_|refine aS (fuel:=3) [9] ?_|refine aS (fuel:=2) [10] ?_|refine aS (fuel:=1) [11] ?_);refine ⟨⟨_,rfl,fun U O=>?_⟩,trivial⟩))<;>((first|with_reducible refine aX rfl ?_|refine aP rfl ?_);simp only [go_sem,aA,aB,aC,an,ItemD.dat]))
     |(refine bk (by decide +kernel) (hK _ ?_);clear hK K;try simp only [go_sem,aA,aB,aC,an,ItemD.dat]))
    |((with_reducible apply CallK.eq);(focus (with_reducible first|exact nM x.names (by omega)|exact iI x.marks (by omega)));(focus (first|exact rfl|(simp [RV.flat,D.sc,ab];done)));try simp only [go_sem,aA,aB,aC,an,ItemD.dat])
    |(((first|(refine bA (cs:=[.row 2 x.names.length,.row 3 x.marks.length,.d (.bool x.late)]) (ds:=x.dat) rfl (aa _ _ fk) (by decide) rfl (by simp [dE,dL,ae,D.scB,ItemD.dat]) (by simp [bb]) (by simp only [cY,cy,ae,if_true,if_false,Nat.reduceEqDiff];exact ⟨cP _,bT _,trivial,trivial⟩) ?_)|(refine bA (cs:=[.row 3 x.names.length,.row 2 x.marks.length,.d (.bool x.late)]) (ds:=x.dat) rfl (aa _ _ fk) (by decide) rfl (by simp [dE,dL,ae,D.scB,ItemD.dat]) (by simp [bb]) (by simp only [cY,cy,ae,if_true,if_false,Nat.reduceEqDiff];exact ⟨cP _,bT _,trivial,trivial⟩) ?_)));(refine O _ ?_);(clear O U);(simp only [go_sem,ItemD.dat,an]))
    |((refine bM (es:=(l.take k).map ItemD.dat) (fs:=[x.dat]) (n:=k) (n2:=1) rfl (aa _ _ fk) rfl rfl rfl rfl (by decide) htl rfl (by exact True.intro) (by exact True.intro) (by simp<;>omega) ?_);(refine O _ ?_);(clear O U);(simp only [go_sem,ItemD.dat,an]))
    |with_reducible refine aI ?_
    |with_reducible refine ba ?_|with_reducible refine bm ?_|with_reducible refine bc ?_)
   all_goals
    repeat' (first|((with_reducible first|(refine hK _ ?_;clear hK K)|refine aj fun U O=>?_|apply ah|(apply Z<;>(intro hc;try simp at hc;try omega)))<;>try simp only [go_sem])|(with_reducible first|apply ag|(refine O _ ?_;clear O U)|refine kN jA fun K hK=>?_|refine kO fun K hK=>?_|refine aI ?_)|apply iB)
    exact ⟨k + 1,by omega,by omega,(ao [] (by simp [lk,ae,ItemD.dat,hyt,eS (Nat.succ_pos k),-List.map_take]<;>omega))⟩
 ·obtain rfl:k = l.length:=by omega
  by_cases h0:l.length = 0
  ·rw [mg h0,show dO l = _ from if_pos h0]
   repeat' (first|((with_reducible first|(refine hK _ ?_;clear hK K)|refine aj fun U O=>?_|apply ah|(apply Z<;>(intro hc;try simp at hc;try omega)))<;>try simp only [go_sem,h0])|(with_reducible first|apply ag|(refine O _ ?_;clear O U)|refine kN jA fun K hK=>?_|refine kO fun K hK=>?_|refine aI ?_)|apply iB)
   refine ak rfl (by simp only [h0,bl,bn,ae,lk,an,aM,List.length_append,List.length_take,if_true,if_false,Nat.reduceEqDiff,Nat.reduceBEq,Bool.false_eq_true,Option.some.injEq];rfl) (by simp [am,lk]) ?_;rfl
  ·rw [eS (by omega),List.take_length,show dO l = _ from if_neg h0]
   repeat' (first|((with_reducible first|(refine hK _ ?_;clear hK K)|refine aj fun U O=>?_|apply ah|(apply Z<;>(intro hc;try simp at hc;try omega)))<;>try simp only [go_sem])|(with_reducible first|apply ag|(refine O _ ?_;clear O U)|refine kN jA fun K hK=>?_|refine kO fun K hK=>?_|refine aI ?_)|apply iB)
   refine ak rfl (by simp only [an,bl,bn,ae,lk,an,aM,List.length_append,List.length_take,if_true,if_false,Nat.reduceEqDiff,Nat.reduceBEq,Bool.false_eq_true,Option.some.injEq];rfl) (by simp [am,lk]) ?_;rfl
end Go.Proofs.YtphakidbddamfaaGreat
namespace Go.Proofs.YtphakidbddamfaaGreat
open Go.RowKit
structure InquiryD where
 tick:Int
 item:Int
 name:Int
 mark:Int
 acc:Bool
def InquiryD.enc (x:InquiryD):List Value:=[.int .i64 x.tick,.int .i64 x.item,.int .i64 x.name,.int .i64 x.mark,.bool x.acc]
theorem InquiryD.eq {x y:InquiryD} (h0:x.tick = y.tick) (h1:x.item = y.item) (h2:x.name = y.name) (h3:x.mark = y.mark) (h4:x.acc = y.acc):x = y:=by cases x;cases y;cases h0;cases h1;cases h2;cases h3;cases h4;rfl
end Go.Proofs.YtphakidbddamfaaGreat
set_option linter.unusedSimpArgs false
set_option linter.unusedVariables false
set_option maxHeartbeats 2000000
set_option maxRecDepth 100000
namespace Go.Proofs.YtphakidbddamfaaGreat
open Go.ChangeShapes Go.WideShapes Go.ChangeAt Go.RowKit Go.Deep
def InquiryD.dat (x:InquiryD):List D:=[.int .i64 x.tick,.int .i64 x.item,.int .i64 x.name,.int .i64 x.mark,.bool x.acc]
section
variable {H:Type} {enc:TypeId × Value→H} {w:World} {base:Nat} {spare:Nat→Bool} {held:Bool}
end
end Go.Proofs.YtphakidbddamfaaGreat
