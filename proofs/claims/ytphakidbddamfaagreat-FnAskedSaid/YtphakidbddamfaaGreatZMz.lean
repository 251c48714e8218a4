/-
  Drawn codes.
-/
import Derived.Test.YtphakidbddamfaaGreatZMnb
import Derived.Test.YtphakidbddamfaaGreatZCw
import Derived.Test.YtphakidbddamfaaGreatZM11
set_option linter.unusedSimpArgs false
set_option linter.unusedVariables false
set_option maxHeartbeats 2000000
set_option maxRecDepth 100000
namespace Go.Proofs.YtphakidbddamfaaGreat
open Go.RowKit
def elNames:List ByteArray:=[⟨#[49,65]⟩,⟨#[49,84]⟩,⟨#[50,65]⟩,⟨#[50,70]⟩,⟨#[50,76,90]⟩,⟨#[50,83]⟩,⟨#[50,84]⟩,⟨#[51,65]⟩,⟨#[51,70]⟩,⟨#[51,76,79]⟩,⟨#[51,76,90]⟩,⟨#[51,83]⟩,⟨#[51,84]⟩,⟨#[52,83]⟩,⟨#[52,84]⟩,⟨#[67,67,83,80]⟩,⟨#[67,72,83,81]⟩,⟨#[70,83,83,80]⟩,⟨#[76,53]⟩,⟨#[76,83,80]⟩,⟨#[83,81]⟩,⟨#[83,83,80]⟩,⟨#[83,84,83,81]⟩,⟨#[85,83,80]⟩]
theorem gk:elNames.length = 24:=rfl
theorem fS:∀ s ∈ elNames,s.size≤8:=by decide
theorem eP:FnEq Tryz.prog 205 [] [.row 9 1 (elNames.map aZ)]:=by
 refine aO aa Tryz.func205 rfl rfl ?_;simp only [Tryz.ntmps205,aR,aM,Nat.reduceAdd,Nat.reduceSub,aW]
 repeat' (first|((with_reducible first|(refine hK _ ?_;clear hK K)|refine aj fun U O=>?_|apply ah|(apply Z<;>(intro hc;try simp at hc;try omega)))<;>try simp only [go_sem])|(with_reducible first|apply ag|(refine O _ ?_;clear O U)|refine kN xJ fun K hK=>?_|refine kO fun K hK=>?_|refine aI ?_)|fail)
 refine ak rfl (by simp only [bl,bn,ae,lk,an,aM,List.length_append,List.length_take,if_true,if_false,Nat.reduceEqDiff,Nat.reduceBEq,Bool.false_eq_true,Option.some.injEq];rfl) (by simp [am,lk]) ?_
 rfl
def pcB (c:CodeD):Prop:=1≤c.elements.length∧c.elements.length≤24∧(∀ x ∈ c.elements,x.name.size≤8)∧c.limits.length = 5
theorem jP {k:Nat} {cs:List D} (hC:Cur k cs) (hk:k≤1000000000):FnC Tryz.prog 200 3 [] cs (dn (k + 600) pcB fun c=>[.row 161 4 (c.elements.map ElementD.dat),.row 3 1 (c.limits.map ab),.d (.int .i64 c.repeats),.d (.int .i64 c.bonus),.d (.int .i64 c.keeps),.d (.int .i64 c.fall)]) .agg:=by
 refine co aa Tryz.func200 rfl rfl hC.len fun ty=>?_;simp only [Tryz.ntmps200,aR,aM,Nat.reduceAdd,Nat.reduceSub,aJ,aH,an,aW]
 repeat' (first|with_reducible refine bs (id:=1) ?_|with_reducible refine br (id:=1) ?_|((with_reducible first|(refine hK _ ?_;clear hK K)|refine aj fun U O=>?_|apply ah|(apply Z<;>(intro hc;try simp at hc;try omega)))<;>try simp only [go_sem])|(with_reducible first|apply ag|(refine O _ ?_;clear O U)|refine kN fy fun K hK=>?_|refine kO fun K hK=>?_|refine aI ?_)|(refine xS rfl fun U O=>?_;simp only [go_sem])|apply iB)
 unfold eF
 refine cm (ck ?_)
 iterate 2 (refine a9 aa ?_;simp only [go_sem])
 refine CallK.cur (some 0) (be (by assumption) (by omega)) rfl rfl rfl rfl rfl rfl ?_;rintro c2 _ ⟨x,hx,rfl,hC⟩;try simp only [a_,go_sem]
 have hr:0≤x∧x≤2:=by omega
 generalize x = rp at hr ⊢
 refine a9 aa ?_
 simp only [go_sem]
 refine And.intro (by unfold jO;omega) ?_
 iterate 3 (refine a9 aa ?_;simp only [go_sem])
 refine CallK.cur (some 0) (bu (l:=[0,10,20]) (by assumption) (by omega) (by simp) (by simp)) rfl rfl rfl rfl rfl rfl ?_;rintro c2 _ ⟨x,hx,rfl,hC⟩;try simp only [a_,go_sem]
 generalize x = bo
 iterate 3 (refine a9 aa ?_;simp only [go_sem])
 refine CallK.cur (some 0) (bu (l:=[50,70,80,100]) (by assumption) (by omega) (by simp) (by simp)) rfl rfl rfl rfl rfl rfl ?_;rintro c2 _ ⟨x,hx,rfl,hC⟩;try simp only [a_,go_sem]
 generalize x = ke
 iterate 3 (refine a9 aa ?_;simp only [go_sem])
 refine CallK.cur (some 0) (bu (l:=[0,100,500]) (by assumption) (by omega) (by simp) (by simp)) rfl rfl rfl rfl rfl rfl ?_;rintro c2 _ ⟨x,hx,rfl,hC⟩;try simp only [a_,go_sem]
 generalize x = fa
 refine dJ 161 4 3 1 rfl (aa _ _ gB) rfl ?_
 refine a9 aa ?_
 simp only [go_sem]
 refine a9 aa ?_
 simp only [go_sem,ge,fC]
 refine ba ?_
 repeat' (first|((with_reducible first|(refine hK _ ?_;clear hK K)|refine aj fun U O=>?_|apply ah|(apply Z<;>(intro hc;try simp at hc;try omega)))<;>try simp only [go_sem])|(with_reducible first|apply ag|(refine O _ ?_;clear O U)|refine kN fy fun K hK=>?_|refine kO fun K hK=>?_|refine aI ?_)|(refine xS rfl fun U O=>?_;simp only [go_sem])|apply iB)
 generalize 1 + rp = re
 replace hC:Cur (k + 8) c2:=hC.mono (by omega)
 refine aD [4,22,23,24,25,26,27,28,29,30,31,32,33] (fun q:List Int × List D=>[(0,.bptr 0 0),(2,.bptr 1 0),(3,.bptr 2 0),(4,.d (.int .i64 (q.1.length:Int))),(9,.und),(10,.und),(11,.und),(12,.und),(13,.und),(14,.und),(15,.und),(16,.und),(17,.und),(18,.und),(19,.und),(20,.und),(21,.und)]) (fun q=>[(0,.pbox 0 ty (q.2.map .d)),(1,.box 42 [.d (.lst 4 []),.d (.lst 1 []),.d (.int .i64 0),.d (.int .i64 0),.d (.int .i64 0),.d (.int .i64 0)]),(2,.box 42 [.row 3 0,.row 4 q.1.length,.d (.int .i64 re),.d (.int .i64 bo),.d (.int .i64 ke),.d (.int .i64 fa)]),(3,.row 161 4 []),(4,.row 3 1 (q.1.map ab))]) 5 (fun q=>q.1.length≤5∧Cur (k + 8 + 2 * q.1.length) q.2) (fun q=>5 - q.1.length) ([],c2) ⟨by simp,hC.mono (by simp)⟩ (ao [(3,21),(4,22)] (by simp [lk,ae]<;>omega)) ?_
 rintro ⟨L,c0⟩ ⟨hL,hC0⟩;simp only [bi,wipe,wl,bh,bw,rm,if_true,if_false,Nat.reduceEqDiff,Bool.false_eq_true,reduceCtorEq]
 simp only at hL hC0
 by_cases hlt:L.length < 5
 ·have hlt':(L.length:Int) < 5:=by omega
  repeat' (first|((with_reducible first|(refine hK _ ?_;clear hK K)|refine aj fun U O=>?_|apply ah|(apply Z<;>(intro hc;try simp at hc;try omega)))<;>try simp only [go_sem,hlt'])|(with_reducible first|apply ag|(refine O _ ?_;clear O U)|refine kN fy fun K hK=>?_|refine kO fun K hK=>?_|refine aI ?_)|(refine xS rfl fun U O=>?_;simp only [go_sem,hlt'])|apply iB)
  all_goals first
   |(exfalso;omega)
   |skip
  refine bF 9 ax rfl (fun K hK=>?_)
  refine aT 0 rfl rfl rfl (aY rfl (aa _ _ gB) rfl rfl) ?_
  try simp only [go_sem,aA,aB,aC,an,aJ,aH]
  refine aT 2 rfl rfl rfl (aL (.inl rfl)) ?_
  try simp only [go_sem,aA,aB,aC,an,aJ,aH]
  repeat' (first
   |((with_reducible refine O _ ?_);clear O U;try simp only [go_sem,aA,aB,aC,an,aJ,aH])
   |((with_reducible refine bB ?_);first
    |(refine aT 7 rfl rfl rfl (aY rfl (aa _ _ gB) rfl rfl) ?_;try simp only [go_sem,aA,aB,aC,an,aJ,aH])
    |((first|((with_reducible first|refine aS (fuel:=6) [1,3] ?_|refine aS (fuel:=5) [1,4] ?_|refine aS (fuel:=4) [1,5] ?_);refine ⟨⟨_,rfl,fun U O=>?_⟩,⟨_,rfl,fun U O=>?_⟩,trivial⟩)|((with_reducible first|refine aS (fuel:=5) [3] ?_|refine aS (fuel:=4) [4] ?_|refine aS (fuel:=3) [5] ?_|refine aS (fuel:=3) [1] ?_|refine aS (fuel:=2) [6] ?_|refine aS (fuel:=0) [8] ?_);refine ⟨⟨_,rfl,fun U O=>?_⟩,trivial⟩))<;>((first|with_reducible refine aX rfl ?_|refine aP rfl ?_);simp only [go_sem,aA,aB,aC,an,aJ,aH]))
    |(refine bk (by decide +kernel) (hK _ ?_);clear hK K;try simp only [go_sem,aA,aB,aC,an,aJ,aH]))
   |((refine CallK.cur (some 0) (bu (l:=[0,1,2,3,7,9]) hC0 (by omega) (by simp) (by simp)) rfl rfl rfl rfl rfl rfl ?_);(rintro c1 _ ⟨u1,hu1,rfl,hC1⟩);(try simp only [a_,go_sem]);(refine O _ ?_);(clear O U);(try simp only [go_sem]))
   |with_reducible refine aI ?_
   |with_reducible refine ba ?_|with_reducible refine bm ?_|with_reducible refine bc ?_)
  all_goals
   skip
  all_goals
   repeat' (first|((with_reducible first|(refine hK _ ?_;clear hK K)|refine aj fun U O=>?_|apply ah|(apply Z<;>(intro hc;try simp at hc;try omega)))<;>try simp only [go_sem])|(with_reducible first|apply ag|(refine O _ ?_;clear O U)|refine kN fy fun K hK=>?_|refine kO fun K hK=>?_|refine aI ?_)|(refine xS rfl fun U O=>?_;simp only [go_sem])|apply iB)
   exact ⟨(L++[u1],c1),⟨by simp;omega,hC1.mono (by simp;omega)⟩,by simp;omega,(ao [(4,11)] (by simp [lk,ae,ab]<;>omega))⟩
 ·have hlt':¬ (L.length:Int) < 5:=by omega
  have hL5:L.length = 5:=by omega
  have hen:=eP
  have hnl:=gk
  have hns:=fS
  generalize elNames = nm at hen hnl hns
  repeat' (first|((with_reducible first|(refine hK _ ?_;clear hK K)|refine aj fun U O=>?_|apply ah|(apply Z<;>(intro hc;try simp at hc;try omega)))<;>try simp only [go_sem,hlt',hnl,an])|(with_reducible first|apply ag|(refine O _ ?_;clear O U)|refine kN fy fun K hK=>?_|refine kO fun K hK=>?_|refine aI ?_)|(refine xS rfl fun U O=>?_;simp only [go_sem,hlt',hnl,an])|((with_reducible apply CallK.eq);(· with_reducible first|exact hen);(· simp [RV.flat,D.sc,ab]);try simp only [go_sem,hlt',hnl,an])|apply iB)
  replace hC0:Cur (k + 18) c0:=hC0.mono (by omega)
  refine aD [5,6,36,37,38,39,40,41,42,43,44,45,46,47,48,49,50,51,52,53,54,55,56,57,58,59,60,61] (fun q:Nat × List ElementD × List D=>[(0,.bptr 0 0),(2,.bptr 1 0),(3,.bptr 2 0),(36,.d (.int .i64 (q.1:Int))),(34,.row 5 24),(4,.und),(23,.und)]) (fun q=>[(0,.pbox 0 ty (q.2.2.map .d)),(1,.box 42 [.d (.lst 4 []),.d (.lst 1 []),.d (.int .i64 0),.d (.int .i64 0),.d (.int .i64 0),.d (.int .i64 0)]),(2,.box 42 [.row 3 q.2.1.length,.row 4 L.length,.d (.int .i64 re),.d (.int .i64 bo),.d (.int .i64 ke),.d (.int .i64 fa)]),(3,.row 161 4 (q.2.1.map ElementD.dat)),(4,.row 3 1 (L.map ab)),(5,.row 9 1 (nm.map aZ))]) 6 (fun q=>q.1≤24∧Cur (k + 18 + 10 * q.1) q.2.2∧q.2.1.length≤q.1∧(8≤q.1→1≤q.2.1.length)∧∀ x ∈ q.2.1,x.name.size≤8) (fun q=>24 - q.1) (0,[],c0) ⟨by simp,hC0.mono (by simp),by simp,by simp,by simp⟩ (ao [] (by simp [lk,ae]<;>omega)) ?_
  rintro ⟨i,es,c0⟩ ⟨hi,hC0,hel,he1,hes⟩;simp only [bi,wipe,wl,bh,bw,rm,if_true,if_false,Nat.reduceEqDiff,Bool.false_eq_true,reduceCtorEq]
  simp only at hi hC0 hel he1 hes
  by_cases hlt2:i < 24
  ·have hlt2':(i:Int) < 24:=by omega
   obtain ⟨y,hy⟩:∃ y,nm[i]? = some y:=⟨_,List.getElem?_eq_getElem (by omega)⟩
   have hys:=hns y (List.mem_of_getElem? hy)
   refine (fun (key:∀ c2:List D,Cur (k + 18 + 10 * i + 2) c2→PW Tryz.prog ?c ?Q ⟨⟨85,[(6,.d (.str y)),(36,.d (.int .i64 (i:Int))),(35,.d (.int .i64 ((24:Nat):Int))),(34,.row 5 24),(3,.bptr 2 0),(2,.bptr 1 0),(0,.bptr 0 0)]⟩,[(0,.pbox 0 ty (c2.map .d)),(1,.box 42 [.d (.lst 4 []),.d (.lst 1 []),.d (.int .i64 0),.d (.int .i64 0),.d (.int .i64 0),.d (.int .i64 0)]),(2,.box 42 [.row 3 es.length,.row 4 L.length,.d (.int .i64 re),.d (.int .i64 bo),.d (.int .i64 ke),.d (.int .i64 fa)]),(3,.row 161 4 (es.map ElementD.dat)),(4,.row 3 1 (L.map ab)),(5,.row 9 1 (nm.map aZ))],10⟩)=>?main) ?key
   case main=>
    repeat' (first|((with_reducible first|(refine hK _ ?_;clear hK K)|refine aj fun U O=>?_|apply ah|(apply Z<;>(intro hc;try simp at hc;try omega)))<;>try simp only [go_sem,hlt2',hlt2,hnl,an,ap,hy,aq,aZ])|(with_reducible first|apply ag|(refine O _ ?_;clear O U)|refine kN fy fun K hK=>?_|refine kO fun K hK=>?_|refine aI ?_)|(refine xS rfl fun U O=>?_;simp only [go_sem,hlt2',hlt2,hnl,an,ap,hy,aq,aZ])|((first|refine CallK.cur (some 0) (bI hC0 (by omega)) rfl rfl rfl rfl rfl rfl ?_);rintro c2 _ ⟨x,hx,rfl,hC⟩;try simp only [a_,go_sem,hlt2',hlt2,hnl,an,ap,hy,aq,aZ])|((first|refine CallK.cur (some 0) (bI hC0 (by omega)) rfl rfl rfl rfl rfl rfl ?_);rintro c2 _ ⟨x,hx,rfl,hC⟩;try simp only [a_,go_sem,hlt2',hlt2,hnl,an,ap,hy,aq,aZ])|apply iB)
    all_goals first
     |(exfalso;omega)
     |exact ⟨(i + 1,es,c2),⟨by simp only;omega,hC.mono (by simp only;omega),by simp only;omega,by simp only;omega,hes⟩,by simp only;omega,(ao [] (by simp [lk,ae]<;>omega))⟩
     |(apply i1;rotate_left;(focus exact key c2 hC);exact (ao [] (by simp [lk,ae]<;>omega)))
   case key=>
    intro c2 hC
    refine bF 15 ax rfl (fun K hK=>?_)
    refine aT 0 rfl rfl rfl (aY rfl (aa _ _ gB) rfl rfl) ?_
    try simp only [go_sem,aA,aB,aC,an,aJ,aH]
    refine aT 2 rfl rfl rfl (aL (.inl rfl)) ?_
    try simp only [go_sem,aA,aB,aC,an,aJ,aH]
    refine aT 3 rfl rfl rfl (aL (.inl rfl)) ?_
    try simp only [go_sem,aA,aB,aC,an,aJ,aH]
    refine aT 5 rfl rfl rfl (aL (.inl rfl)) ?_
    try simp only [go_sem,aA,aB,aC,an,aJ,aH]
    refine aT 7 rfl rfl rfl (aL (.inl rfl)) ?_
    try simp only [go_sem,aA,aB,aC,an,aJ,aH]
    repeat' (first
     |((with_reducible refine O _ ?_);clear O U;try simp only [go_sem,aA,aB,aC,an,aJ,aH])
     |((with_reducible refine bB ?_);first
      |(refine aT 13 rfl rfl rfl (aY rfl (aa _ _ gB) rfl rfl) ?_;try simp only [go_sem,aA,aB,aC,an,aJ,aH])
      |((first|((with_reducible first|refine aS (fuel:=9) [1,4,8] ?_|refine aS (fuel:=8) [1,6,8] ?_);refine ⟨⟨_,rfl,fun U O=>?_⟩,⟨_,rfl,fun U O=>?_⟩,⟨_,rfl,fun U O=>?_⟩,trivial⟩)|((with_reducible first|refine aS (fuel:=8) [4,8] ?_|refine aS (fuel:=8) [1,4] ?_|refine aS (fuel:=7) [6,8] ?_|refine aS (fuel:=7) [1,8] ?_|refine aS (fuel:=7) [1,6] ?_|refine aS (fuel:=6) [1,9] ?_|refine aS (fuel:=5) [1,10] ?_|refine aS (fuel:=4) [1,11] ?_);refine ⟨⟨_,rfl,fun U O=>?_⟩,⟨_,rfl,fun U O=>?_⟩,trivial⟩)|((with_reducible first|refine aS (fuel:=7) [4] ?_|refine aS (fuel:=6) [8] ?_|refine aS (fuel:=6) [6] ?_|refine aS (fuel:=5) [9] ?_|refine aS (fuel:=4) [10] ?_|refine aS (fuel:=3) [11] ?_|refine aS (fuel:=3) [1] ?_|refine aS (fuel:=2) [12] ?_|refine aS (fuel:=0) [14] ?_);refine ⟨⟨_,rfl,fun U O=>?_⟩,trivial⟩))<;>((first|with_reducible refine aX rfl ?_|refine aP rfl ?_);simp only [go_sem,aA,aB,aC,an,aJ,aH]))
      |(refine bk (by decide +kernel) (hK _ ?_);clear hK K;try simp only [go_sem,aA,aB,aC,an,aJ,aH]))
     |((refine CallK.cur (some 0) (be hC (by omega)) rfl rfl rfl rfl rfl rfl ?_);(rintro c3 _ ⟨u1,hu1,rfl,hC3⟩);(try simp only [a_,go_sem]);(refine O _ ?_);(clear O U);(try simp only [go_sem]))
     |((refine CallK.cur (some 0) (be hC3 (by omega)) rfl rfl rfl rfl rfl rfl ?_);(rintro c4 _ ⟨u2,hu2,rfl,hC4⟩);(try simp only [a_,go_sem]);(refine O _ ?_);(clear O U);(try simp only [go_sem]))
     |((refine CallK.cur (some 0) (bu (l:=[1,50,130,420,800,1105,2000]) hC4 (by omega) (by simp) (by simp)) rfl rfl rfl rfl rfl rfl ?_);(rintro c5 _ ⟨u3,hu3,rfl,hC5⟩);(try simp only [a_,go_sem]);(refine O _ ?_);(clear O U);(try simp only [go_sem]))
     |with_reducible refine aI ?_
     |with_reducible refine ba ?_|with_reducible refine bm ?_|with_reducible refine bc ?_)
    all_goals
     skip
    all_goals
     repeat' (first|((with_reducible first|(refine hK _ ?_;clear hK K)|refine aj fun U O=>?_|apply ah|(apply Z<;>(intro hc;try simp at hc;try omega)))<;>try simp only [go_sem])|(with_reducible first|apply ag|(refine O _ ?_;clear O U)|refine kN fy fun K hK=>?_|refine kO fun K hK=>?_|refine aI ?_)|(refine xS rfl fun U O=>?_;simp only [go_sem])|apply iB)
     exact ⟨(i + 1,es++[⟨y,u1,u2,u3⟩],c5),⟨by simp only;omega,hC5.mono (by simp only;omega),by simp;omega,by simp,cg hes hys⟩,by simp only;omega,(ao [(3,24)] (by simp [lk,ae,ElementD.dat]<;>omega))⟩
  ·have hlt2':¬ (i:Int) < 24:=by omega
   have he24:=he1 (by omega)
   replace hC0:Cur (k + 258) c0:=hC0.mono (by omega)
   repeat' (first|with_reducible refine bs (id:=13) ?_|with_reducible refine br (id:=13) ?_|((with_reducible first|(refine hK _ ?_;clear hK K)|refine aj fun U O=>?_|apply ah|(apply Z<;>(intro hc;try simp at hc;try omega)))<;>try simp only [go_sem,hlt2',hnl,an])|(with_reducible first|apply ag|(refine O _ ?_;clear O U)|refine kN fy fun K hK=>?_|refine kO fun K hK=>?_|refine aI ?_)|(refine xS rfl fun U O=>?_;simp only [go_sem,hlt2',hnl,an])|((first|refine CallK.cur (some 0) (bI hC0 (by omega)) rfl rfl rfl rfl rfl rfl ?_);rintro c2 _ ⟨x,hx,rfl,hC⟩;try simp only [a_,go_sem,hlt2',hnl,an])|((first|refine CallK.cur (some 0) (bI hC0 (by omega)) rfl rfl rfl rfl rfl rfl ?_);rintro c2 _ ⟨x,hx,rfl,hC⟩;try simp only [a_,go_sem,hlt2',hnl,an])|apply iB)
   ·unfold eF
    refine cm (ck ?_)
    refine a9 aa ?_
    simp only [go_sem]
    refine fA 161 4 rfl (aa _ _ vN) rfl rfl rfl (show 0 + 1≤6 by decide) ?_
    simp only [go_sem]
    refine ba ?_
    repeat' (first|((with_reducible first|(refine hK _ ?_;clear hK K)|refine aj fun U O=>?_|apply ah|(apply Z<;>(intro hc;try simp at hc;try omega)))<;>try simp only [go_sem,hnl,an])|(with_reducible first|apply ag|(refine O _ ?_;clear O U)|refine kN fy fun K hK=>?_|refine kO fun K hK=>?_|refine aI ?_)|(refine xS rfl fun U O=>?_;simp only [go_sem,hnl,an])|((with_reducible apply CallK.eq);(· with_reducible first|exact hen);(· simp [RV.flat,D.sc,ab]);try simp only [go_sem,hnl,an])|apply iB)
    clear he1 he24 hes hel
    refine aD [8,67,68,69,70,71,72,73,74,75,76,77,78,79,80,81,82,83] (fun q:Nat × List ElementD × List D=>[(0,.bptr 0 0),(2,.bptr 1 0),(3,.bptr 2 0),(67,.d (.int .i64 (q.1:Int))),(65,.row 5 24),(34,.und),(64,.und),(63,.und)]) (fun q=>[(0,.pbox 0 ty (q.2.2.map .d)),(1,.box 42 [.d (.lst 4 []),.d (.lst 1 []),.d (.int .i64 0),.d (.int .i64 0),.d (.int .i64 0),.d (.int .i64 0)]),(2,.box 42 [.row 3 q.2.1.length,.row 4 L.length,.d (.int .i64 re),.d (.int .i64 bo),.d (.int .i64 ke),.d (.int .i64 fa)]),(3,.row 161 4 (q.2.1.map ElementD.dat)),(4,.row 3 1 (L.map ab)),(5,.row 9 1 (nm.map aZ))]) 6 (fun q=>q.1≤24∧Cur (k + 260 + 4 * q.1) q.2.2∧q.2.1.length = q.1∧∀ x ∈ q.2.1,x.name.size≤8) (fun q=>24 - q.1) (0,[],c2) ⟨by simp,hC.mono (by simp),by simp,by simp⟩ (ao [(3,10)] (by simp [lk,ae]<;>omega)) ?_
    clear hC0
    rintro ⟨i,es,c0⟩ ⟨hi,hC0,hel,hes⟩;simp only [bi,wipe,wl,bh,bw,rm,if_true,if_false,Nat.reduceEqDiff,Bool.false_eq_true,reduceCtorEq]
    simp only at hi hC0 hel hes
    by_cases hlt2:i < 24
    ·have hlt2':(i:Int) < 24:=by omega
     obtain ⟨y,hy⟩:∃ y,nm[i]? = some y:=⟨_,List.getElem?_eq_getElem (by omega)⟩
     have hys:=hns y (List.mem_of_getElem? hy)
     repeat' (first|((with_reducible first|(refine hK _ ?_;clear hK K)|refine aj fun U O=>?_|apply ah|(apply Z<;>(intro hc;try simp at hc;try omega)))<;>try simp only [go_sem,hlt2',hlt2,hnl,an,ap,hy,aq,aZ])|(with_reducible first|apply ag|(refine O _ ?_;clear O U)|refine kN fy fun K hK=>?_|refine kO fun K hK=>?_|refine aI ?_)|(refine xS rfl fun U O=>?_;simp only [go_sem,hlt2',hlt2,hnl,an,ap,hy,aq,aZ])|apply iB)
     all_goals first
      |(exfalso;omega)
      |skip
     refine bF 13 ax rfl (fun K hK=>?_)
     refine aT 0 rfl rfl rfl (aY rfl (aa _ _ gB) rfl rfl) ?_
     try simp only [go_sem,aA,aB,aC,an,aJ,aH]
     refine aT 2 rfl rfl rfl (aL (.inl rfl)) ?_
     try simp only [go_sem,aA,aB,aC,an,aJ,aH]
     refine aT 3 rfl rfl rfl (aL (.inl rfl)) ?_
     try simp only [go_sem,aA,aB,aC,an,aJ,aH]
     refine aT 5 rfl rfl rfl (aL (.inl rfl)) ?_
     try simp only [go_sem,aA,aB,aC,an,aJ,aH]
     repeat' (first
      |((with_reducible refine O _ ?_);clear O U;try simp only [go_sem,aA,aB,aC,an,aJ,aH])
      |((with_reducible refine bB ?_);first
       |(refine aT 11 rfl rfl rfl (aY rfl (aa _ _ gB) rfl rfl) ?_;try simp only [go_sem,aA,aB,aC,an,aJ,aH])
       |((first|((with_reducible first|refine aS (fuel:=8) [1,4] ?_|refine aS (fuel:=7) [1,6] ?_|refine aS (fuel:=6) [1,7] ?_|refine aS (fuel:=5) [1,8] ?_|refine aS (fuel:=4) [1,9] ?_);refine ⟨⟨_,rfl,fun U O=>?_⟩,⟨_,rfl,fun U O=>?_⟩,trivial⟩)|((with_reducible first|refine aS (fuel:=7) [4] ?_|refine aS (fuel:=6) [6] ?_|refine aS (fuel:=5) [7] ?_|refine aS (fuel:=4) [8] ?_|refine aS (fuel:=3) [9] ?_|refine aS (fuel:=3) [1] ?_|refine aS (fuel:=2) [10] ?_|refine aS (fuel:=0) [12] ?_);refine ⟨⟨_,rfl,fun U O=>?_⟩,trivial⟩))<;>((first|with_reducible refine aX rfl ?_|refine aP rfl ?_);simp only [go_sem,aA,aB,aC,an,aJ,aH]))
       |(refine bk (by decide +kernel) (hK _ ?_);clear hK K;try simp only [go_sem,aA,aB,aC,an,aJ,aH]))
      |((refine CallK.cur (some 0) (be hC0 (by omega)) rfl rfl rfl rfl rfl rfl ?_);(rintro c3 _ ⟨u1,hu1,rfl,hC3⟩);(try simp only [a_,go_sem]);(refine O _ ?_);(clear O U);(try simp only [go_sem]))
      |((refine CallK.cur (some 0) (be hC3 (by omega)) rfl rfl rfl rfl rfl rfl ?_);(rintro c4 _ ⟨u2,hu2,rfl,hC4⟩);(try simp only [a_,go_sem]);(refine O _ ?_);(clear O U);(try simp only [go_sem]))
      |with_reducible refine aI ?_
      |with_reducible refine ba ?_|with_reducible refine bm ?_|with_reducible refine bc ?_)
     all_goals
      skip
     all_goals
      repeat' (first|((with_reducible first|(refine hK _ ?_;clear hK K)|refine aj fun U O=>?_|apply ah|(apply Z<;>(intro hc;try simp at hc;try omega)))<;>try simp only [go_sem])|(with_reducible first|apply ag|(refine O _ ?_;clear O U)|refine kN fy fun K hK=>?_|refine kO fun K hK=>?_|refine aI ?_)|(refine xS rfl fun U O=>?_;simp only [go_sem])|apply iB)
      exact ⟨(i + 1,es++[⟨y,u1,0,100 + u2⟩],c4),⟨by simp only;omega,hC4.mono (by simp only;omega),by simp;omega,cg hes hys⟩,by simp only;omega,(ao [(3,15)] (by simp [lk,ae,ElementD.dat]<;>omega))⟩
    ·have hlt2':¬ (i:Int) < 24:=by omega
     have hel24:es.length = 24:=by omega
     repeat' (first|((with_reducible first|(refine hK _ ?_;clear hK K)|refine aj fun U O=>?_|apply ah|(apply Z<;>(intro hc;try simp at hc;try omega)))<;>try simp only [go_sem,hlt2'])|(with_reducible first|apply ag|(refine O _ ?_;clear O U)|refine kN fy fun K hK=>?_|refine kO fun K hK=>?_|refine aI ?_)|(refine xS rfl fun U O=>?_;simp only [go_sem,hlt2'])|apply iB)
     refine cE (id:=0) (xs:=[.row _ _,.row _ _,.d (.int .i64 re),.d (.int .i64 bo),.d (.int .i64 ke),.d (.int .i64 fa)]) _ rfl (by simp only [bl,bn,ae,lk,an,if_true,if_false,Nat.reduceEqDiff,Nat.reduceBEq,Bool.false_eq_true,Option.some.injEq]<;>rfl) (by simp [am,lk]) rfl (Cur.len (by assumption)) ⟨⟨es,L,re,bo,ke,fa⟩,⟨by simp only;omega,by simp only;omega,hes,hL5⟩,rfl,Cur.mono (by assumption) (by omega)⟩
   ·refine cE (id:=0) (xs:=[.row _ _,.row _ _,.d (.int .i64 re),.d (.int .i64 bo),.d (.int .i64 ke),.d (.int .i64 fa)]) _ rfl (by simp only [bl,bn,ae,lk,an,if_true,if_false,Nat.reduceEqDiff,Nat.reduceBEq,Bool.false_eq_true,Option.some.injEq]<;>rfl) (by simp [am,lk]) rfl (Cur.len (by assumption)) ⟨⟨es,L,re,bo,ke,fa⟩,⟨by simp only;omega,by simp only;omega,hes,hL5⟩,rfl,Cur.mono (by assumption) (by omega)⟩
end Go.Proofs.YtphakidbddamfaaGreat
namespace Go.Proofs.YtphakidbddamfaaGreat
open Go.RowKit
theorem tZ:∀ {l:List (Nat × PV)} {t:Nat} {x:PV} (i:Nat),lk l t≠.und→lk (upl l t x) i = if i = t then x else lk l i
 |[],t,x,i,h=>(h rfl).elim
 |(k,y)::r,t,x,i,h=>by
  simp only [upl]
  by_cases e:t = k
  ·subst e
   simp only [if_true,lk]
   split<;>rfl
  ·have h':lk r t≠.und:=by simpa only [lk,if_neg e] using h
   simp only [if_neg e,lk]
   by_cases e2:i = k
   ·subst e2
    rw [if_pos rfl,if_neg (Ne.symm e)]
    simp
   ·rw [if_neg e2,if_neg e2,tZ i h']
theorem nH {P:Program} {Q:Exit→AS→Prop} {c:Code} {s:AS} (t:Nat) {id n:Nat} {ty:TypeId} {sz:Nat} {es:List (List D)} (ht:lk s.fr.l t = .row id n) (hg:ae s.hp id = some (.row ty sz es)) (hn:es.length = n) (h:PW P c Q ⟨⟨s.fr.n,upl s.fr.l t (.d (.lst sz es))⟩,dH s.hp id,s.nx⟩):PW P c Q s:=by
 intro X0 w0 m a w hs
 have hk:=hs.kill (dH s.hp id) (fun id' blk hb=>by rw [cR] at hb;split at hb;cases hb;exact hb) (fun id' par k j ha=>by
  rw [cR] at ha ⊢
  split at ha
  ·cases ha
  ·obtain ⟨q,ty',sz',es2,_,_,_,_,_,_,a1,_⟩:=hs.al id' par k j ha
   rw [if_neg fun e=>by subst e;rw [hg] at a1;cases a1])
 have hst:Stay w w (aU X0 m s.hp) (aU X0 m (dH s.hp id)):=by
  intro b _ hb2
  refine ⟨rfl,?_⟩
  rintro (hx|⟨id',blk,h1,h2⟩)
  ·exact hb2 (.inl hx)
  ·rw [cR] at h1
   split at h1
   ·cases h1
   ·exact hb2 (.inr ⟨id',blk,h1,h2⟩)
 have hR:=hs.fr t
 rw [ht] at hR
 have hnew:R m.loc (aU X0 m (dH s.hp id)) w (.d (.lst sz es)) (a.tmps.getD t undef):=by
  obtain ⟨l,hl,hok⟩:=hs.hp id _ hg
  rcases hR.row_inv with ⟨h1,h2,h3⟩|⟨b,cc,h1,h2,h3⟩
  ·rw [h3]
   have e:es = []:=List.length_eq_zero_iff.1 (hn.trans h2)
   subst e
   exact .d _ _ (.nil _ _ _)
  ·rw [h1] at hl
   cases hl
   obtain ⟨arr,hh,hc⟩:=hok
   rw [h3,←hn]
   have hnb:¬ aU X0 m (dH s.hp id) b:=by
    have how:=hs.own id _ b hg ⟨cc,h1⟩
    rintro (hx|⟨id',blk,g1,g2⟩)
    ·obtain ⟨g3,g4⟩:=hs.x0 b hx
     rcases how.1 with g5|g5
     ·omega
     ·exact g4 g5
    ·rw [cR] at g1
     split at g1
     ·cases g1
     ·rename_i hne
      exact hne (hs.inj id' id blk _ b g1 hg g2 ⟨cc,h1⟩)
   refine .d _ _ (.lst sz es b 0 cc hc.2.1 hc.2.2.2.1 (fun k e j d he hd=>?_) (fun k e j d u he hd hu=>?_))
   ·obtain ⟨u,p1,_,_⟩:=cZ hc hh he hd
    exact ⟨hnb,u,by rw [aA];exact p1⟩
   ·obtain ⟨u',p1,_,p3⟩:=cZ hc hh he hd
    rw [aA,p1] at hu
    cases hu
    exact p3.mono hst
 refine h X0 w0 m a w ⟨hk.below,hk.x0,hk.size,fun i=>?_,hk.df,hk.hp,hk.dp,hk.al,hk.pin,hk.inj,hk.own,hk.nx,hk.gl⟩
 show R m.loc (aU X0 m (dH s.hp id)) w (lk (upl s.fr.l t (.d (.lst sz es))) i) _
 rw [tZ i (by rw [ht];intro h;cases h)]
 split
 ·rename_i e;subst e;exact hnew
 ·exact hk.fr i
end Go.Proofs.YtphakidbddamfaaGreat
