/-
  Drawn slips and performances.
-/
import Derived.Test.YtphakidbddamfaaGreatZDn
set_option linter.unusedSimpArgs false
set_option linter.unusedVariables false
set_option maxHeartbeats 2000000
set_option maxRecDepth 100000
namespace Go.Proofs.YtphakidbddamfaaGreat
open Go.RowKit
theorem rG {k:Nat} {cs:List D} (hC:Cur k cs) (hk:k≤900000000):FnC Tryz.prog 141 3 [] cs (dd (k + 12) rX fun s=>[.d (.int .i64 s.falls),.d (.int .i64 s.seconds),.d (.int .i64 s.other)]) .agg:=by
 refine cq ae Tryz.func141 rfl rfl hC.len fun ty=>?_;simp only [Tryz.ntmps141,aP,aK,Nat.reduceAdd,Nat.reduceSub,aH,aG,ao,aV]
 repeat' (first|((with_reducible first|(apply hK;clear hK K)|refine ah fun U O=>?_|apply ag|(apply Z<;>(intro hc;try simp at hc;try omega)))<;>try simp only [go_sem])|(with_reducible first|apply aj|(apply O;clear O U)|refine kN kU fun K hK=>?_|refine kO fun K hK=>?_|refine aI ?_)|fail)
 refine CallK.curA (some 0) (lF hC (by omega)) rfl rfl rfl rfl rfl rfl ?_
 rintro c3 _ ⟨⟨fa,se,ot⟩,⟨h1,h2,h3,h4,h5,h6⟩,rfl,hC⟩
 try simp only [aU,go_sem]
 repeat' (first|((with_reducible first|(apply hK;clear hK K)|refine ah fun U O=>?_|apply ag|(apply Z<;>(intro hc;try simp at hc;try omega)))<;>try simp only [go_sem])|(with_reducible first|apply aj|(apply O;clear O U)|refine kN kU fun K hK=>?_|refine kO fun K hK=>?_|refine aI ?_)|fail)
 refine CallK.cur (some 0) (a_ hC (by omega)) rfl rfl rfl rfl rfl rfl ?_;rintro c2 _ ⟨x,hx,rfl,hC⟩;try simp only [aU,go_sem]
 simp only at h1 h2 h3 h4 h5 h6
 by_cases h0:x = 0
 ·subst h0
  repeat' (first|((with_reducible first|(apply hK;clear hK K)|refine ah fun U O=>?_|apply ag|(apply Z<;>(intro hc;try simp at hc;try omega)))<;>try simp only [go_sem,aH,aG,aa])|(with_reducible first|apply aj|(apply O;clear O U)|refine kN kU fun K hK=>?_|refine kO fun K hK=>?_|refine aI ?_)|((first|refine CallK.cur (some 0) (bv (l:=[-1,9,10]) (by assumption) (by omega) (by simp) (by simp)) rfl rfl rfl rfl rfl rfl ?_);rintro c2 _ ⟨x,hx,rfl,hC⟩;try simp only [aU,go_sem,aH,aG,aa])|((first|refine CallK.cur (some 0) (bv (l:=[-1,9,10]) (by assumption) (by omega) (by simp) (by simp)) rfl rfl rfl rfl rfl rfl ?_);rintro c2 _ ⟨x,hx,rfl,hC⟩;try simp only [aU,go_sem,aH,aG,aa])|fail)
  have hb:-1≤x∧x≤10:=by simp at hx;omega
  refine cG (id:=0) (xs:=[.d (.int .i64 _),.d (.int .i64 _),.d (.int .i64 _)]) _ rfl rfl (by simp [am,lk]) rfl (Cur.len (by assumption)) ⟨⟨_,_,_⟩,?_,rfl,Cur.mono (by assumption) (by omega)⟩
  exact ⟨hb.1,hb.2,h3,h4,h5,h6⟩
 by_cases h10:x = 1
 ·subst h10
  repeat' (first|((with_reducible first|(apply hK;clear hK K)|refine ah fun U O=>?_|apply ag|(apply Z<;>(intro hc;try simp at hc;try omega)))<;>try simp only [go_sem,aH,aG,aa])|(with_reducible first|apply aj|(apply O;clear O U)|refine kN kU fun K hK=>?_|refine kO fun K hK=>?_|refine aI ?_)|((first|refine CallK.cur (some 0) (bv (l:=[-1,60,61]) (by assumption) (by omega) (by simp) (by simp)) rfl rfl rfl rfl rfl rfl ?_);rintro c2 _ ⟨x,hx,rfl,hC⟩;try simp only [aU,go_sem,aH,aG,aa])|((first|refine CallK.cur (some 0) (bv (l:=[-1,60,61]) (by assumption) (by omega) (by simp) (by simp)) rfl rfl rfl rfl rfl rfl ?_);rintro c2 _ ⟨x,hx,rfl,hC⟩;try simp only [aU,go_sem,aH,aG,aa])|fail)
  have hb:-1≤x∧x≤61:=by simp at hx;omega
  refine cG (id:=0) (xs:=[.d (.int .i64 _),.d (.int .i64 _),.d (.int .i64 _)]) _ rfl rfl (by simp [am,lk]) rfl (Cur.len (by assumption)) ⟨⟨_,_,_⟩,?_,rfl,Cur.mono (by assumption) (by omega)⟩
  exact ⟨h1,h2,hb.1,hb.2,h5,h6⟩
 by_cases h20:x = 2
 ·subst h20
  repeat' (first|((with_reducible first|(apply hK;clear hK K)|refine ah fun U O=>?_|apply ag|(apply Z<;>(intro hc;try simp at hc;try omega)))<;>try simp only [go_sem,aH,aG,aa])|(with_reducible first|apply aj|(apply O;clear O U)|refine kN kU fun K hK=>?_|refine kO fun K hK=>?_|refine aI ?_)|((first|refine CallK.cur (some 0) (bv (l:=[-1,500,501]) (by assumption) (by omega) (by simp) (by simp)) rfl rfl rfl rfl rfl rfl ?_);rintro c2 _ ⟨x,hx,rfl,hC⟩;try simp only [aU,go_sem,aH,aG,aa])|((first|refine CallK.cur (some 0) (bv (l:=[-1,500,501]) (by assumption) (by omega) (by simp) (by simp)) rfl rfl rfl rfl rfl rfl ?_);rintro c2 _ ⟨x,hx,rfl,hC⟩;try simp only [aU,go_sem,aH,aG,aa])|fail)
  have hb:-1≤x∧x≤501:=by simp at hx;omega
  refine cG (id:=0) (xs:=[.d (.int .i64 _),.d (.int .i64 _),.d (.int .i64 _)]) _ rfl rfl (by simp [am,lk]) rfl (Cur.len (by assumption)) ⟨⟨_,_,_⟩,?_,rfl,Cur.mono (by assumption) (by omega)⟩
  exact ⟨h1,h2,h3,h4,hb.1,hb.2⟩
 repeat' (first|((with_reducible first|(apply hK;clear hK K)|refine ah fun U O=>?_|apply ag|(apply Z<;>(intro hc;try simp at hc;try omega)))<;>try simp only [go_sem,h0,h10,h20])|(with_reducible first|apply aj|(apply O;clear O U)|refine kN kU fun K hK=>?_|refine kO fun K hK=>?_|refine aI ?_)|fail)
 refine cG (id:=0) (xs:=[.d (.int .i64 _),.d (.int .i64 _),.d (.int .i64 _)]) _ rfl rfl (by simp [am,lk]) rfl (Cur.len (by assumption)) ⟨⟨_,_,_⟩,?_,rfl,Cur.mono (by assumption) (by omega)⟩
 exact ⟨h1,h2,h3,h4,h5,h6⟩
def pfB (q:CodeD × PerfD):Prop:=yN (q.1,q.2.items,q.2.marks)∧rX q.2.slips
theorem go {k:Nat} {cs:List D} (hC:Cur k cs) (hk:k≤600000000):FnC Tryz.prog 94 3 [] cs (dd (k + 5100) pfB fun q=>[.agg q.1.dat,.agg [.lst 3 (q.2.items.map ItemD.dat),.lst 1 (q.2.marks.grades.map (ax 1 aa)),.lst 1 (q.2.marks.components.map (ax 1 aa)),.int .i64 q.2.slips.falls,.int .i64 q.2.slips.seconds,.int .i64 q.2.slips.other]]):=by
 refine cq ae Tryz.func94 rfl rfl hC.len fun ty=>?_;simp only [Tryz.ntmps94,aP,aK,Nat.reduceAdd,Nat.reduceSub,aH,aG,ao,aV]
 repeat' (first|((with_reducible first|(apply hK;clear hK K)|refine ah fun U O=>?_|apply ag|(apply Z<;>(intro hc;try simp at hc;try omega)))<;>try simp only [go_sem])|(with_reducible first|apply aj|(apply O;clear O U)|refine kN jN fun K hK=>?_|refine kO fun K hK=>?_|refine aI ?_)|fail)
 refine CallK.cur (some 0) (oO hC (by omega)) rfl rfl rfl rfl rfl rfl ?_
 rintro c3 _ ⟨⟨⟨es,L,re,bo,ke,fa⟩,l,m⟩,hq,rfl,hC⟩
 try simp only [aU,go_sem]
 obtain ⟨hpc,hl15,hl,hm⟩:=hq
 simp only at hpc hl15 hl hm
 repeat' (first|with_reducible refine bs (id:=2) ?_|with_reducible refine br (id:=2) ?_|((with_reducible first|(apply hK;clear hK K)|refine ah fun U O=>?_|apply ag|(apply Z<;>(intro hc;try simp at hc;try omega)))<;>try simp only [go_sem,CodeD.dat,aH,aG])|(with_reducible first|apply aj|(apply O;clear O U)|refine kN jN fun K hK=>?_|refine kO fun K hK=>?_|refine aI ?_)|fail)
 unfold eu
 refine cM ?_
 refine dF (fun q:SlipsD × List D=>⟨⟨26,[(0,.bptr 0 0),(2,.bptr 1 0),(3,.bptr 2 0),(4,.bptr 3 0),(7,.bptr 4 0)]⟩,[(0,.pbox 0 ty (q.2.map .d)),(1,.box 42 [.d (.lst 4 []),.d (.lst 1 []),.d (.int .i64 0),.d (.int .i64 0),.d (.int .i64 0),.d (.int .i64 0)]),(2,.box 48 [.d (.lst 3 []),.d (.lst 1 []),.d (.lst 1 []),.d (.int .i64 0),.d (.int .i64 0),.d (.int .i64 0)]),(3,.box 42 [.d (.lst 4 (es.map ElementD.dat)),.d (.lst 1 (L.map aa)),.d (.int .i64 re),.d (.int .i64 bo),.d (.int .i64 ke),.d (.int .i64 fa)]),(4,.box 48 [.d (.lst 3 (l.map ItemD.dat)),.d (.lst 1 (m.grades.map (ax 1 aa))),.d (.lst 1 (m.components.map (ax 1 aa))),.d (.int .i64 q.1.falls),.d (.int .i64 q.1.seconds),.d (.int .i64 q.1.other)])],5⟩) (fun q=>rX q.1∧Cur (k + 5006) q.2) ?_ ?_
 ·intro K hK
  repeat' (first|((with_reducible first|(apply hK;clear hK K)|refine ah fun U O=>?_|apply ag|(apply Z<;>(intro hc;try simp at hc;try omega)))<;>try simp only [go_sem])|(with_reducible first|apply aj|(apply O;clear O U)|refine kN jN fun K hK=>?_|refine kO fun K hK=>?_|refine aI ?_)|fail)
  refine bH 7 ay rfl (fun K hK=>?_)
  refine aT 0 rfl rfl rfl (aM (.inl rfl)) ?_
  try simp only [go_sem,aB,aD,aE,aH,aG]
  refine aT 2 rfl rfl rfl (aM (.inl rfl)) ?_
  try simp only [go_sem,aB,aD,aE,aH,aG]
  repeat' (first
   |((with_reducible refine O _ ?_);clear O U;try simp only [go_sem,aB,aD,aE,aH,aG])
   |((with_reducible refine bB ?_);first
    |((first|((with_reducible first|refine aS (fuel:=4) [1,3,5] ?_);refine ⟨⟨_,rfl,fun U O=>?_⟩,⟨_,rfl,fun U O=>?_⟩,⟨_,rfl,fun U O=>?_⟩,trivial⟩)|((with_reducible first|refine aS (fuel:=3) [3,5] ?_|refine aS (fuel:=3) [1,5] ?_|refine aS (fuel:=3) [1,3] ?_|refine aS (fuel:=2) [4,5] ?_);refine ⟨⟨_,rfl,fun U O=>?_⟩,⟨_,rfl,fun U O=>?_⟩,trivial⟩)|((with_reducible first|refine aS (fuel:=2) [3] ?_|refine aS (fuel:=2) [1] ?_|refine aS (fuel:=1) [5] ?_|refine aS (fuel:=1) [4] ?_|refine aS (fuel:=0) [6] ?_);refine ⟨⟨_,rfl,fun U O=>?_⟩,trivial⟩))<;>((first|with_reducible refine bA rfl ?_|refine bl rfl ?_);simp only [go_sem,aB,aD,aE,aH,aG]))
    |(refine bi (by decide +kernel) (hK _ ?_);clear hK K;try simp only [go_sem,aB,aD,aE,aH,aG]))
   |((refine CallK.curA (some 0) (lF hC (by omega)) rfl rfl rfl rfl rfl rfl ?_);(rintro c4 _ ⟨⟨fa,se,ot⟩,hs,rfl,hC4⟩);(try simp only [aU,go_sem]);(refine O _ ?_);(clear O U);(try simp only [go_sem]))
   |with_reducible refine aI ?_
   |with_reducible refine aZ ?_|with_reducible refine bh ?_|with_reducible refine ba ?_)
  all_goals
   skip
  all_goals
   repeat' (first|((with_reducible first|(apply hK;clear hK K)|refine ah fun U O=>?_|apply ag|(apply Z<;>(intro hc;try simp at hc;try omega)))<;>try simp only [go_sem])|(with_reducible first|apply aj|(apply O;clear O U)|refine kN jN fun K hK=>?_|refine kO fun K hK=>?_|refine aI ?_)|fail)
   exact hK (⟨fa,se,ot⟩,c4) _ ⟨hs,hC4.mono (by omega)⟩ (an [] (by simp [lk,ab]<;>omega))
 ·rintro ⟨⟨f0,s0,o0⟩,c4⟩ ⟨hs,hC4⟩
  simp only at hC4
  dsimp only
  refine cM ?_
  refine dF (fun q:SlipsD × List D=>⟨⟨26,[(0,.bptr 0 0),(2,.bptr 1 0),(3,.bptr 2 0),(4,.bptr 3 0),(7,.bptr 4 0)]⟩,[(0,.pbox 0 ty (q.2.map .d)),(1,.box 42 [.d (.lst 4 []),.d (.lst 1 []),.d (.int .i64 0),.d (.int .i64 0),.d (.int .i64 0),.d (.int .i64 0)]),(2,.box 48 [.d (.lst 3 []),.d (.lst 1 []),.d (.lst 1 []),.d (.int .i64 0),.d (.int .i64 0),.d (.int .i64 0)]),(3,.box 42 [.d (.lst 4 (es.map ElementD.dat)),.d (.lst 1 (L.map aa)),.d (.int .i64 re),.d (.int .i64 bo),.d (.int .i64 ke),.d (.int .i64 fa)]),(4,.box 48 [.d (.lst 3 (l.map ItemD.dat)),.d (.lst 1 (m.grades.map (ax 1 aa))),.d (.lst 1 (m.components.map (ax 1 aa))),.d (.int .i64 q.1.falls),.d (.int .i64 q.1.seconds),.d (.int .i64 q.1.other)])],5⟩) (fun q=>rX q.1∧Cur (k + 5100) q.2) ?_ ?_
  ·intro K hK
   repeat' (first|((with_reducible first|(apply hK;clear hK K)|refine ah fun U O=>?_|apply ag|(apply Z<;>(intro hc;try simp at hc;try omega)))<;>try simp only [go_sem])|(with_reducible first|apply aj|(apply O;clear O U)|refine kN jN fun K hK=>?_|refine kO fun K hK=>?_|refine aI ?_)|((first|refine CallK.cur (some 0) (bQ hC4 (by omega)) rfl rfl rfl rfl rfl rfl ?_);rintro c2 _ ⟨x,hx,rfl,hC⟩;try simp only [aU,go_sem])|((first|refine CallK.cur (some 0) (bQ hC4 (by omega)) rfl rfl rfl rfl rfl rfl ?_);rintro c2 _ ⟨x,hx,rfl,hC⟩;try simp only [aU,go_sem])|fail)
   ·refine CallK.curA (some 0) (rG hC (by omega)) rfl rfl rfl rfl rfl rfl ?_
    rintro c5 _ ⟨⟨f1,s1,o1⟩,hs1,rfl,hC5⟩
    try simp only [aU,go_sem]
    repeat' (first|((with_reducible first|(apply hK;clear hK K)|refine ah fun U O=>?_|apply ag|(apply Z<;>(intro hc;try simp at hc;try omega)))<;>try simp only [go_sem])|(with_reducible first|apply aj|(apply O;clear O U)|refine kN jN fun K hK=>?_|refine kO fun K hK=>?_|refine aI ?_)|fail)
    exact hK (⟨f1,s1,o1⟩,c5) _ ⟨hs1,hC5.mono (by omega)⟩ (an [] (by simp [lk,ab]<;>omega))
   ·exact hK (⟨f0,s0,o0⟩,c2) _ ⟨hs,hC.mono (by omega)⟩ (an [] (by simp [lk,ab]<;>omega))
  ·rintro ⟨⟨f0,s0,o0⟩,c4⟩ ⟨hs,hC4⟩
   simp only at hC4
   dsimp only
   repeat' (first|((with_reducible first|(apply hK;clear hK K)|refine ah fun U O=>?_|apply ag|(apply Z<;>(intro hc;try simp at hc;try omega)))<;>try simp only [go_sem])|(with_reducible first|apply aj|(apply O;clear O U)|refine kN jN fun K hK=>?_|refine kO fun K hK=>?_|refine aI ?_)|fail)
   refine cb 4 jN ay rfl (fun K hK=>?_)
   repeat' (first
    |((with_reducible refine O _ ?_);clear O U;try simp only [go_sem,aB,aD,aE,aH,aG])
    |((with_reducible refine bB ?_);first
     |((first|((with_reducible first|refine aS (fuel:=3) [0,1] ?_|refine aS (fuel:=2) [1,2] ?_);refine ⟨⟨_,rfl,fun U O=>?_⟩,⟨_,rfl,fun U O=>?_⟩,trivial⟩)|((with_reducible first|refine aS (fuel:=2) [0] ?_|refine aS (fuel:=1) [2] ?_|refine aS (fuel:=1) [1] ?_|refine aS (fuel:=0) [3] ?_);refine ⟨⟨_,rfl,fun U O=>?_⟩,trivial⟩))<;>((first|with_reducible refine bA rfl ?_|refine bl rfl ?_);simp only [go_sem,aB,aD,aE,aH,aG]))
     |(refine bi (by decide +kernel) (hK _ ?_);clear hK K;try simp only [go_sem,aB,aD,aE,aH,aG]))
    |with_reducible refine aI ?_)
   all_goals
    skip
   all_goals
    repeat' (first|((with_reducible first|(apply hK;clear hK K)|refine ah fun U O=>?_|apply ag|(apply Z<;>(intro hc;try simp at hc;try omega)))<;>try simp only [go_sem])|(with_reducible first|apply aj|(apply O;clear O U)|refine kN jN fun K hK=>?_|refine kO fun K hK=>?_|refine aI ?_)|fail)
    refine bN (id:=0) (xs:=[.agg [.d _,.d _,.d _,.d _,.d _,.d _],.agg [.d _,.d _,.d _,.d _,.d _,.d _]]) _ rfl (by simp only [bj,bn,cJ,dD,ab,lk,ao,aP,aK,if_true,if_false,Nat.reduceEqDiff,Nat.reduceBEq,Nat.reduceAdd,Bool.false_eq_true,Option.some.injEq]<;>rfl) (by simp [am,a9]) rfl (Cur.len (by assumption)) ⟨(⟨es,L,re,bo,ke,fa⟩,⟨l,m,⟨f0,s0,o0⟩⟩),⟨⟨hpc,hl15,hl,hm⟩,hs⟩,by simp [CodeD.dat],hC4⟩
end Go.Proofs.YtphakidbddamfaaGreat
