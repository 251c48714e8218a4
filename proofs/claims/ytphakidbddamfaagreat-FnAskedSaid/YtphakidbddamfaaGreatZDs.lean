/-
  Drawn slips and performances.
-/
import Derived.Test.YtphakidbddamfaaGreatZDn
import Derived.Test.YtphakidbddamfaaGreatZJd
import Derived.Test.YtphakidbddamfaaGreatZDa
set_option linter.unusedSimpArgs false
set_option linter.unusedVariables false
set_option maxHeartbeats 2000000
set_option maxRecDepth 100000
namespace Go.Proofs.YtphakidbddamfaaGreat
open Go.RowKit
theorem ro {k:Nat} {cs:List D} (hC:Cur k cs) (hk:k≤900000000):FnC Tryz.prog 141 3 [] cs (dn (k + 12) ua fun s=>[.d (.int .i64 s.falls),.d (.int .i64 s.seconds),.d (.int .i64 s.other)]) .agg:=by
 refine co aa Tryz.func141 rfl rfl hC.len fun ty=>?_;simp only [Tryz.ntmps141,aR,aM,Nat.reduceAdd,Nat.reduceSub,aJ,aH,an,aW]
 repeat' (first|((with_reducible first|(refine hK _ ?_;clear hK K)|refine aj fun U O=>?_|apply ah|(apply Z<;>(intro hc;try simp at hc;try omega)))<;>try simp only [go_sem])|(with_reducible first|apply ag|(refine O _ ?_;clear O U)|refine kN kH fun K hK=>?_|refine kO fun K hK=>?_|refine aI ?_)|fail)
 refine CallK.curA (some 0) (pV hC (by omega)) rfl rfl rfl rfl rfl rfl ?_
 rintro c3 _ ⟨⟨fa,se,ot⟩,⟨h1,h2,h3,h4,h5,h6⟩,rfl,hC⟩
 try simp only [a_,go_sem]
 repeat' (first|((with_reducible first|(refine hK _ ?_;clear hK K)|refine aj fun U O=>?_|apply ah|(apply Z<;>(intro hc;try simp at hc;try omega)))<;>try simp only [go_sem])|(with_reducible first|apply ag|(refine O _ ?_;clear O U)|refine kN kH fun K hK=>?_|refine kO fun K hK=>?_|refine aI ?_)|fail)
 refine CallK.cur (some 0) (be hC (by omega)) rfl rfl rfl rfl rfl rfl ?_;rintro c2 _ ⟨x,hx,rfl,hC⟩;try simp only [a_,go_sem]
 simp only at h1 h2 h3 h4 h5 h6
 by_cases h0:x = 0
 ·subst h0
  repeat' (first|((with_reducible first|(refine hK _ ?_;clear hK K)|refine aj fun U O=>?_|apply ah|(apply Z<;>(intro hc;try simp at hc;try omega)))<;>try simp only [go_sem,aJ,aH,ab])|(with_reducible first|apply ag|(refine O _ ?_;clear O U)|refine kN kH fun K hK=>?_|refine kO fun K hK=>?_|refine aI ?_)|((first|refine CallK.cur (some 0) (bu (l:=[-1,9,10]) (by assumption) (by omega) (by simp) (by simp)) rfl rfl rfl rfl rfl rfl ?_);rintro c2 _ ⟨x,hx,rfl,hC⟩;try simp only [a_,go_sem,aJ,aH,ab])|((first|refine CallK.cur (some 0) (bu (l:=[-1,9,10]) (by assumption) (by omega) (by simp) (by simp)) rfl rfl rfl rfl rfl rfl ?_);rintro c2 _ ⟨x,hx,rfl,hC⟩;try simp only [a_,go_sem,aJ,aH,ab])|fail)
  have hb:-1≤x∧x≤10:=by simp at hx;omega
  refine cE (id:=0) (xs:=[.d (.int .i64 _),.d (.int .i64 _),.d (.int .i64 _)]) _ rfl rfl (by simp [am,lk]) rfl (Cur.len (by assumption)) ⟨⟨_,_,_⟩,?_,rfl,Cur.mono (by assumption) (by omega)⟩
  exact ⟨hb.1,hb.2,h3,h4,h5,h6⟩
 by_cases h10:x = 1
 ·subst h10
  repeat' (first|((with_reducible first|(refine hK _ ?_;clear hK K)|refine aj fun U O=>?_|apply ah|(apply Z<;>(intro hc;try simp at hc;try omega)))<;>try simp only [go_sem,aJ,aH,ab])|(with_reducible first|apply ag|(refine O _ ?_;clear O U)|refine kN kH fun K hK=>?_|refine kO fun K hK=>?_|refine aI ?_)|((first|refine CallK.cur (some 0) (bu (l:=[-1,60,61]) (by assumption) (by omega) (by simp) (by simp)) rfl rfl rfl rfl rfl rfl ?_);rintro c2 _ ⟨x,hx,rfl,hC⟩;try simp only [a_,go_sem,aJ,aH,ab])|((first|refine CallK.cur (some 0) (bu (l:=[-1,60,61]) (by assumption) (by omega) (by simp) (by simp)) rfl rfl rfl rfl rfl rfl ?_);rintro c2 _ ⟨x,hx,rfl,hC⟩;try simp only [a_,go_sem,aJ,aH,ab])|fail)
  have hb:-1≤x∧x≤61:=by simp at hx;omega
  refine cE (id:=0) (xs:=[.d (.int .i64 _),.d (.int .i64 _),.d (.int .i64 _)]) _ rfl rfl (by simp [am,lk]) rfl (Cur.len (by assumption)) ⟨⟨_,_,_⟩,?_,rfl,Cur.mono (by assumption) (by omega)⟩
  exact ⟨h1,h2,hb.1,hb.2,h5,h6⟩
 by_cases h20:x = 2
 ·subst h20
  repeat' (first|((with_reducible first|(refine hK _ ?_;clear hK K)|refine aj fun U O=>?_|apply ah|(apply Z<;>(intro hc;try simp at hc;try omega)))<;>try simp only [go_sem,aJ,aH,ab])|(with_reducible first|apply ag|(refine O _ ?_;clear O U)|refine kN kH fun K hK=>?_|refine kO fun K hK=>?_|refine aI ?_)|((first|refine CallK.cur (some 0) (bu (l:=[-1,500,501]) (by assumption) (by omega) (by simp) (by simp)) rfl rfl rfl rfl rfl rfl ?_);rintro c2 _ ⟨x,hx,rfl,hC⟩;try simp only [a_,go_sem,aJ,aH,ab])|((first|refine CallK.cur (some 0) (bu (l:=[-1,500,501]) (by assumption) (by omega) (by simp) (by simp)) rfl rfl rfl rfl rfl rfl ?_);rintro c2 _ ⟨x,hx,rfl,hC⟩;try simp only [a_,go_sem,aJ,aH,ab])|fail)
  have hb:-1≤x∧x≤501:=by simp at hx;omega
  refine cE (id:=0) (xs:=[.d (.int .i64 _),.d (.int .i64 _),.d (.int .i64 _)]) _ rfl rfl (by simp [am,lk]) rfl (Cur.len (by assumption)) ⟨⟨_,_,_⟩,?_,rfl,Cur.mono (by assumption) (by omega)⟩
  exact ⟨h1,h2,h3,h4,hb.1,hb.2⟩
 repeat' (first|((with_reducible first|(refine hK _ ?_;clear hK K)|refine aj fun U O=>?_|apply ah|(apply Z<;>(intro hc;try simp at hc;try omega)))<;>try simp only [go_sem,h0,h10,h20])|(with_reducible first|apply ag|(refine O _ ?_;clear O U)|refine kN kH fun K hK=>?_|refine kO fun K hK=>?_|refine aI ?_)|fail)
 refine cE (id:=0) (xs:=[.d (.int .i64 _),.d (.int .i64 _),.d (.int .i64 _)]) _ rfl rfl (by simp [am,lk]) rfl (Cur.len (by assumption)) ⟨⟨_,_,_⟩,?_,rfl,Cur.mono (by assumption) (by omega)⟩
 exact ⟨h1,h2,h3,h4,h5,h6⟩
def pfB (q:CodeD × PerfD):Prop:=yC (q.1,q.2.items,q.2.marks)∧ua q.2.slips
theorem nu {k:Nat} {cs:List D} (hC:Cur k cs) (hk:k≤600000000):FnC Tryz.prog 94 3 [] cs (dn (k + 5100) pfB fun q=>[.agg q.1.dat,.agg [.lst 3 (q.2.items.map ItemD.dat),.lst 1 (q.2.marks.grades.map (aF 1 ab)),.lst 1 (q.2.marks.components.map (aF 1 ab)),.int .i64 q.2.slips.falls,.int .i64 q.2.slips.seconds,.int .i64 q.2.slips.other]]):=by
 refine co aa Tryz.func94 rfl rfl hC.len fun ty=>?_;simp only [Tryz.ntmps94,aR,aM,Nat.reduceAdd,Nat.reduceSub,aJ,aH,an,aW]
 repeat' (first|((with_reducible first|(refine hK _ ?_;clear hK K)|refine aj fun U O=>?_|apply ah|(apply Z<;>(intro hc;try simp at hc;try omega)))<;>try simp only [go_sem])|(with_reducible first|apply ag|(refine O _ ?_;clear O U)|refine kN jg fun K hK=>?_|refine kO fun K hK=>?_|refine aI ?_)|fail)
 refine CallK.cur (some 0) (oH hC (by omega)) rfl rfl rfl rfl rfl rfl ?_
 rintro c3 _ ⟨⟨⟨es,L,re,bo,ke,fa⟩,l,m⟩,hq,rfl,hC⟩
 try simp only [a_,go_sem]
 obtain ⟨hpc,hl15,hl,hm⟩:=hq
 simp only at hpc hl15 hl hm
 repeat' (first|with_reducible refine bs (id:=2) ?_|with_reducible refine br (id:=2) ?_|((with_reducible first|(refine hK _ ?_;clear hK K)|refine aj fun U O=>?_|apply ah|(apply Z<;>(intro hc;try simp at hc;try omega)))<;>try simp only [go_sem,CodeD.dat,aJ,aH])|(with_reducible first|apply ag|(refine O _ ?_;clear O U)|refine kN jg fun K hK=>?_|refine kO fun K hK=>?_|refine aI ?_)|fail)
 unfold eF
 refine cm ?_
 refine ec (fun q:SlipsD × List D=>⟨⟨26,[(0,.bptr 0 0),(2,.bptr 1 0),(3,.bptr 2 0),(4,.bptr 3 0),(7,.bptr 4 0)]⟩,[(0,.pbox 0 ty (q.2.map .d)),(1,.box 42 [.d (.lst 4 []),.d (.lst 1 []),.d (.int .i64 0),.d (.int .i64 0),.d (.int .i64 0),.d (.int .i64 0)]),(2,.box 48 [.d (.lst 3 []),.d (.lst 1 []),.d (.lst 1 []),.d (.int .i64 0),.d (.int .i64 0),.d (.int .i64 0)]),(3,.box 42 [.d (.lst 4 (es.map ElementD.dat)),.d (.lst 1 (L.map ab)),.d (.int .i64 re),.d (.int .i64 bo),.d (.int .i64 ke),.d (.int .i64 fa)]),(4,.box 48 [.d (.lst 3 (l.map ItemD.dat)),.d (.lst 1 (m.grades.map (aF 1 ab))),.d (.lst 1 (m.components.map (aF 1 ab))),.d (.int .i64 q.1.falls),.d (.int .i64 q.1.seconds),.d (.int .i64 q.1.other)])],5⟩) (fun q=>ua q.1∧Cur (k + 5006) q.2) ?_ ?_
 ·intro K hK
  repeat' (first|((with_reducible first|(refine hK _ ?_;clear hK K)|refine aj fun U O=>?_|apply ah|(apply Z<;>(intro hc;try simp at hc;try omega)))<;>try simp only [go_sem])|(with_reducible first|apply ag|(refine O _ ?_;clear O U)|refine kN jg fun K hK=>?_|refine kO fun K hK=>?_|refine aI ?_)|fail)
  refine bF 7 ax rfl (fun K hK=>?_)
  refine aT 0 rfl rfl rfl (aL (.inl rfl)) ?_
  try simp only [go_sem,aA,aB,aC,aJ,aH]
  refine aT 2 rfl rfl rfl (aL (.inl rfl)) ?_
  try simp only [go_sem,aA,aB,aC,aJ,aH]
  repeat' (first
   |((with_reducible refine O _ ?_);clear O U;try simp only [go_sem,aA,aB,aC,aJ,aH])
   |((with_reducible refine bB ?_);first
    |((first|((with_reducible first|refine aS (fuel:=4) [1,3,5] ?_);refine ⟨⟨_,rfl,fun U O=>?_⟩,⟨_,rfl,fun U O=>?_⟩,⟨_,rfl,fun U O=>?_⟩,trivial⟩)|((with_reducible first|refine aS (fuel:=3) [3,5] ?_|refine aS (fuel:=3) [1,5] ?_|refine aS (fuel:=3) [1,3] ?_|refine aS (fuel:=2) [4,5] ?_);refine ⟨⟨_,rfl,fun U O=>?_⟩,⟨_,rfl,fun U O=>?_⟩,trivial⟩)|((with_reducible first|refine aS (fuel:=2) [3] ?_|refine aS (fuel:=2) [1] ?_|refine aS (fuel:=1) [5] ?_|refine aS (fuel:=1) [4] ?_|refine aS (fuel:=0) [6] ?_);refine ⟨⟨_,rfl,fun U O=>?_⟩,trivial⟩))<;>((first|with_reducible refine aX rfl ?_|refine aP rfl ?_);simp only [go_sem,aA,aB,aC,aJ,aH]))
    |(refine bk (by decide +kernel) (hK _ ?_);clear hK K;try simp only [go_sem,aA,aB,aC,aJ,aH]))
   |((refine CallK.curA (some 0) (pV hC (by omega)) rfl rfl rfl rfl rfl rfl ?_);(rintro c4 _ ⟨⟨fa,se,ot⟩,hs,rfl,hC4⟩);(try simp only [a_,go_sem]);(refine O _ ?_);(clear O U);(try simp only [go_sem]))
   |with_reducible refine aI ?_
   |with_reducible refine ba ?_|with_reducible refine bm ?_|with_reducible refine bc ?_)
  all_goals
   skip
  all_goals
   repeat' (first|((with_reducible first|(refine hK _ ?_;clear hK K)|refine aj fun U O=>?_|apply ah|(apply Z<;>(intro hc;try simp at hc;try omega)))<;>try simp only [go_sem])|(with_reducible first|apply ag|(refine O _ ?_;clear O U)|refine kN jg fun K hK=>?_|refine kO fun K hK=>?_|refine aI ?_)|fail)
   exact hK (⟨fa,se,ot⟩,c4) _ ⟨hs,hC4.mono (by omega)⟩ (ao [] (by simp [lk,ae]<;>omega))
 ·rintro ⟨⟨f0,s0,o0⟩,c4⟩ ⟨hs,hC4⟩
  simp only at hC4
  dsimp only
  refine cm ?_
  refine ec (fun q:SlipsD × List D=>⟨⟨26,[(0,.bptr 0 0),(2,.bptr 1 0),(3,.bptr 2 0),(4,.bptr 3 0),(7,.bptr 4 0)]⟩,[(0,.pbox 0 ty (q.2.map .d)),(1,.box 42 [.d (.lst 4 []),.d (.lst 1 []),.d (.int .i64 0),.d (.int .i64 0),.d (.int .i64 0),.d (.int .i64 0)]),(2,.box 48 [.d (.lst 3 []),.d (.lst 1 []),.d (.lst 1 []),.d (.int .i64 0),.d (.int .i64 0),.d (.int .i64 0)]),(3,.box 42 [.d (.lst 4 (es.map ElementD.dat)),.d (.lst 1 (L.map ab)),.d (.int .i64 re),.d (.int .i64 bo),.d (.int .i64 ke),.d (.int .i64 fa)]),(4,.box 48 [.d (.lst 3 (l.map ItemD.dat)),.d (.lst 1 (m.grades.map (aF 1 ab))),.d (.lst 1 (m.components.map (aF 1 ab))),.d (.int .i64 q.1.falls),.d (.int .i64 q.1.seconds),.d (.int .i64 q.1.other)])],5⟩) (fun q=>ua q.1∧Cur (k + 5100) q.2) ?_ ?_
  ·intro K hK
   repeat' (first|((with_reducible first|(refine hK _ ?_;clear hK K)|refine aj fun U O=>?_|apply ah|(apply Z<;>(intro hc;try simp at hc;try omega)))<;>try simp only [go_sem])|(with_reducible first|apply ag|(refine O _ ?_;clear O U)|refine kN jg fun K hK=>?_|refine kO fun K hK=>?_|refine aI ?_)|((first|refine CallK.cur (some 0) (bI hC4 (by omega)) rfl rfl rfl rfl rfl rfl ?_);rintro c2 _ ⟨x,hx,rfl,hC⟩;try simp only [a_,go_sem])|((first|refine CallK.cur (some 0) (bI hC4 (by omega)) rfl rfl rfl rfl rfl rfl ?_);rintro c2 _ ⟨x,hx,rfl,hC⟩;try simp only [a_,go_sem])|fail)
   ·refine CallK.curA (some 0) (ro hC (by omega)) rfl rfl rfl rfl rfl rfl ?_
    rintro c5 _ ⟨⟨f1,s1,o1⟩,hs1,rfl,hC5⟩
    try simp only [a_,go_sem]
    repeat' (first|((with_reducible first|(refine hK _ ?_;clear hK K)|refine aj fun U O=>?_|apply ah|(apply Z<;>(intro hc;try simp at hc;try omega)))<;>try simp only [go_sem])|(with_reducible first|apply ag|(refine O _ ?_;clear O U)|refine kN jg fun K hK=>?_|refine kO fun K hK=>?_|refine aI ?_)|fail)
    exact hK (⟨f1,s1,o1⟩,c5) _ ⟨hs1,hC5.mono (by omega)⟩ (ao [] (by simp [lk,ae]<;>omega))
   ·exact hK (⟨f0,s0,o0⟩,c2) _ ⟨hs,hC.mono (by omega)⟩ (ao [] (by simp [lk,ae]<;>omega))
  ·rintro ⟨⟨f0,s0,o0⟩,c4⟩ ⟨hs,hC4⟩
   simp only at hC4
   dsimp only
   repeat' (first|((with_reducible first|(refine hK _ ?_;clear hK K)|refine aj fun U O=>?_|apply ah|(apply Z<;>(intro hc;try simp at hc;try omega)))<;>try simp only [go_sem])|(with_reducible first|apply ag|(refine O _ ?_;clear O U)|refine kN jg fun K hK=>?_|refine kO fun K hK=>?_|refine aI ?_)|fail)
   refine bJ 4 jg ax rfl (fun K hK=>?_)
   repeat' (first
    |((with_reducible refine O _ ?_);clear O U;try simp only [go_sem,aA,aB,aC,aJ,aH])
    |((with_reducible refine bB ?_);first
     |((first|((with_reducible first|refine aS (fuel:=3) [0,1] ?_|refine aS (fuel:=2) [1,2] ?_);refine ⟨⟨_,rfl,fun U O=>?_⟩,⟨_,rfl,fun U O=>?_⟩,trivial⟩)|((with_reducible first|refine aS (fuel:=2) [0] ?_|refine aS (fuel:=1) [2] ?_|refine aS (fuel:=1) [1] ?_|refine aS (fuel:=0) [3] ?_);refine ⟨⟨_,rfl,fun U O=>?_⟩,trivial⟩))<;>((first|with_reducible refine aX rfl ?_|refine aP rfl ?_);simp only [go_sem,aA,aB,aC,aJ,aH]))
     |(refine bk (by decide +kernel) (hK _ ?_);clear hK K;try simp only [go_sem,aA,aB,aC,aJ,aH]))
    |with_reducible refine aI ?_)
   all_goals
    skip
   all_goals
    repeat' (first|((with_reducible first|(refine hK _ ?_;clear hK K)|refine aj fun U O=>?_|apply ah|(apply Z<;>(intro hc;try simp at hc;try omega)))<;>try simp only [go_sem])|(with_reducible first|apply ag|(refine O _ ?_;clear O U)|refine kN jg fun K hK=>?_|refine kO fun K hK=>?_|refine aI ?_)|fail)
    refine bQ (id:=0) (xs:=[.agg [.d _,.d _,.d _,.d _,.d _,.d _],.agg [.d _,.d _,.d _,.d _,.d _,.d _]]) _ rfl (by simp only [bl,bn,cX,dT,ae,lk,an,aR,aM,if_true,if_false,Nat.reduceEqDiff,Nat.reduceBEq,Nat.reduceAdd,Bool.false_eq_true,Option.some.injEq]<;>rfl) (by simp [am,bb]) rfl (Cur.len (by assumption)) ⟨(⟨es,L,re,bo,ke,fa⟩,⟨l,m,⟨f0,s0,o0⟩⟩),⟨⟨hpc,hl15,hl,hm⟩,hs⟩,by simp [CodeD.dat],hC4⟩
end Go.Proofs.YtphakidbddamfaaGreat
set_option linter.unusedSimpArgs false
set_option linter.unusedVariables false
set_option maxHeartbeats 2000000
set_option maxRecDepth 100000
namespace Go.Proofs.YtphakidbddamfaaGreat
open Go.RowKit
theorem pfB.fit {c:CodeD} {p:PerfD} (h:pfB (c,p)):PfFit 1048576 p:=by
 obtain ⟨⟨_,h1,h2,⟨h3,h4⟩,h5,h6⟩,_⟩:=h
 simp only at h1 h2 h3 h4 h5 h6
 exact ⟨⟨by omega,fun x hx=>(h2 x hx).fit⟩,⟨by omega,fun x hx=>by have:=h4 x hx;omega⟩,⟨by omega,fun x hx=>by have:=h6 x hx;omega⟩⟩
end Go.Proofs.YtphakidbddamfaaGreat
set_option linter.unusedSimpArgs false
set_option linter.unusedVariables false
set_option maxHeartbeats 2000000
set_option maxRecDepth 100000
namespace Go.Proofs.YtphakidbddamfaaGreat
open Go.RowKit
end Go.Proofs.YtphakidbddamfaaGreat
