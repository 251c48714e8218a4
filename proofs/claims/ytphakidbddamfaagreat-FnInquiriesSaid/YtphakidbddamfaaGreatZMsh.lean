/-
  Drawn codes.
-/
import Derived.Test.YtphakidbddamfaaGreatZMnb
import Derived.Test.YtphakidbddamfaaGreatZIu
import Derived.Test.YtphakidbddamfaaGreatZTk
import Derived.Test.YtphakidbddamfaaGreatZSq
set_option linter.unusedSimpArgs false
set_option linter.unusedVariables false
set_option maxHeartbeats 2000000
set_option maxRecDepth 100000
namespace Go.Proofs.YtphakidbddamfaaGreat
open Go.RowKit
def elNames:List ByteArray:=[⟨#[49,65]⟩,⟨#[49,84]⟩,⟨#[50,65]⟩,⟨#[50,70]⟩,⟨#[50,76,90]⟩,⟨#[50,83]⟩,⟨#[50,84]⟩,⟨#[51,65]⟩,⟨#[51,70]⟩,⟨#[51,76,79]⟩,⟨#[51,76,90]⟩,⟨#[51,83]⟩,⟨#[51,84]⟩,⟨#[52,83]⟩,⟨#[52,84]⟩,⟨#[67,67,83,80]⟩,⟨#[67,72,83,81]⟩,⟨#[70,83,83,80]⟩,⟨#[76,53]⟩,⟨#[76,83,80]⟩,⟨#[83,81]⟩,⟨#[83,83,80]⟩,⟨#[83,84,83,81]⟩,⟨#[85,83,80]⟩]
theorem gx:elNames.length = 24:=rfl
theorem fL:∀ s ∈ elNames,s.size≤8:=by decide
theorem eM:FnEq Tryz.prog 205 [] [.row 9 1 (elNames.map aX)]:=by
 refine aN ae Tryz.func205 rfl rfl ?_;simp only [Tryz.ntmps205,aP,aK,Nat.reduceAdd,Nat.reduceSub,aV]
 repeat' (first|((with_reducible first|(apply hK;clear hK K)|refine ah fun U O=>?_|apply ag|(apply Z<;>(intro hc;try simp at hc;try omega)))<;>try simp only [go_sem])|(with_reducible first|apply aj|(apply O;clear O U)|refine kN yC fun K hK=>?_|refine kO fun K hK=>?_|refine aI ?_)|fail)
 refine ak rfl (by simp only [bj,bn,ab,lk,ao,aK,List.length_append,List.length_take,if_true,if_false,Nat.reduceEqDiff,Nat.reduceBEq,Bool.false_eq_true,Option.some.injEq];rfl) (by simp [am,lk]) ?_
 rfl
def pcB (c:CodeD):Prop:=1≤c.elements.length∧c.elements.length≤24∧(∀ x ∈ c.elements,x.name.size≤8)∧c.limits.length = 5
theorem jU {k:Nat} {cs:List D} (hC:Cur k cs) (hk:k≤1000000000):FnC Tryz.prog 200 3 [] cs (dd (k + 600) pcB fun c=>[.row 161 4 (c.elements.map ElementD.dat),.row 3 1 (c.limits.map aa),.d (.int .i64 c.repeats),.d (.int .i64 c.bonus),.d (.int .i64 c.keeps),.d (.int .i64 c.fall)]) .agg:=by
 refine cq ae Tryz.func200 rfl rfl hC.len fun ty=>?_;simp only [Tryz.ntmps200,aP,aK,Nat.reduceAdd,Nat.reduceSub,aH,aG,ao,aV]
 repeat' (first|with_reducible refine bs (id:=1) ?_|with_reducible refine br (id:=1) ?_|((with_reducible first|(apply hK;clear hK K)|refine ah fun U O=>?_|apply ag|(apply Z<;>(intro hc;try simp at hc;try omega)))<;>try simp only [go_sem])|(with_reducible first|apply aj|(apply O;clear O U)|refine kN fq fun K hK=>?_|refine kO fun K hK=>?_|refine aI ?_)|(refine xS rfl fun U O=>?_;simp only [go_sem])|apply iB)
 unfold eu
 refine cM (cI ?_)
 iterate 2 (refine bw ae ?_;simp only [go_sem])
 refine CallK.cur (some 0) (a_ (by assumption) (by omega)) rfl rfl rfl rfl rfl rfl ?_;rintro c2 _ ⟨x,hx,rfl,hC⟩;try simp only [aU,go_sem]
 have hr:0≤x∧x≤2:=by omega
 generalize x = rp at hr ⊢
 refine bw ae ?_
 simp only [go_sem]
 refine And.intro (by unfold jX;omega) ?_
 iterate 3 (refine bw ae ?_;simp only [go_sem])
 refine CallK.cur (some 0) (bv (l:=[0,10,20]) (by assumption) (by omega) (by simp) (by simp)) rfl rfl rfl rfl rfl rfl ?_;rintro c2 _ ⟨x,hx,rfl,hC⟩;try simp only [aU,go_sem]
 generalize x = bo
 iterate 3 (refine bw ae ?_;simp only [go_sem])
 refine CallK.cur (some 0) (bv (l:=[50,70,80,100]) (by assumption) (by omega) (by simp) (by simp)) rfl rfl rfl rfl rfl rfl ?_;rintro c2 _ ⟨x,hx,rfl,hC⟩;try simp only [aU,go_sem]
 generalize x = ke
 iterate 3 (refine bw ae ?_;simp only [go_sem])
 refine CallK.cur (some 0) (bv (l:=[0,100,500]) (by assumption) (by omega) (by simp) (by simp)) rfl rfl rfl rfl rfl rfl ?_;rintro c2 _ ⟨x,hx,rfl,hC⟩;try simp only [aU,go_sem]
 generalize x = fa
 refine dH 161 4 3 1 rfl (ae _ _ gX) rfl ?_
 refine bw ae ?_
 simp only [go_sem]
 refine bw ae ?_
 simp only [go_sem,gc,fz]
 refine aZ ?_
 repeat' (first|((with_reducible first|(apply hK;clear hK K)|refine ah fun U O=>?_|apply ag|(apply Z<;>(intro hc;try simp at hc;try omega)))<;>try simp only [go_sem])|(with_reducible first|apply aj|(apply O;clear O U)|refine kN fq fun K hK=>?_|refine kO fun K hK=>?_|refine aI ?_)|(refine xS rfl fun U O=>?_;simp only [go_sem])|apply iB)
 generalize 1 + rp = re
 replace hC:Cur (k + 8) c2:=hC.mono (by omega)
 refine aA [4,22,23,24,25,26,27,28,29,30,31,32,33] (fun q:List Int × List D=>[(0,.bptr 0 0),(2,.bptr 1 0),(3,.bptr 2 0),(4,.d (.int .i64 (q.1.length:Int))),(9,.und),(10,.und),(11,.und),(12,.und),(13,.und),(14,.und),(15,.und),(16,.und),(17,.und),(18,.und),(19,.und),(20,.und),(21,.und)]) (fun q=>[(0,.pbox 0 ty (q.2.map .d)),(1,.box 42 [.d (.lst 4 []),.d (.lst 1 []),.d (.int .i64 0),.d (.int .i64 0),.d (.int .i64 0),.d (.int .i64 0)]),(2,.box 42 [.row 3 0,.row 4 q.1.length,.d (.int .i64 re),.d (.int .i64 bo),.d (.int .i64 ke),.d (.int .i64 fa)]),(3,.row 161 4 []),(4,.row 3 1 (q.1.map aa))]) 5 (fun q=>q.1.length≤5∧Cur (k + 8 + 2 * q.1.length) q.2) (fun q=>5 - q.1.length) ([],c2) ⟨by simp,hC.mono (by simp)⟩ (an [(3,21),(4,22)] (by simp [lk,ab]<;>omega)) ?_
 rintro ⟨L,c0⟩ ⟨hL,hC0⟩;simp only [bc,wipe,wl,bb,bx,rm,if_true,if_false,Nat.reduceEqDiff,Bool.false_eq_true,reduceCtorEq]
 simp only at hL hC0
 by_cases hlt:L.length < 5
 ·have hlt':(L.length:Int) < 5:=by omega
  repeat' (first|((with_reducible first|(apply hK;clear hK K)|refine ah fun U O=>?_|apply ag|(apply Z<;>(intro hc;try simp at hc;try omega)))<;>try simp only [go_sem,hlt'])|(with_reducible first|apply aj|(apply O;clear O U)|refine kN fq fun K hK=>?_|refine kO fun K hK=>?_|refine aI ?_)|(refine xS rfl fun U O=>?_;simp only [go_sem,hlt'])|apply iB)
  all_goals first
   |(exfalso;omega)
   |skip
  refine bH 9 ay rfl (fun K hK=>?_)
  refine aT 0 rfl rfl rfl (aY rfl (ae _ _ gX) rfl rfl) ?_
  try simp only [go_sem,aB,aD,aE,ao,aH,aG]
  refine aT 2 rfl rfl rfl (aM (.inl rfl)) ?_
  try simp only [go_sem,aB,aD,aE,ao,aH,aG]
  repeat' (first
   |((with_reducible refine O _ ?_);clear O U;try simp only [go_sem,aB,aD,aE,ao,aH,aG])
   |((with_reducible refine bB ?_);first
    |(refine aT 7 rfl rfl rfl (aY rfl (ae _ _ gX) rfl rfl) ?_;try simp only [go_sem,aB,aD,aE,ao,aH,aG])
    |((first|((with_reducible first|refine aS (fuel:=6) [1,3] ?_|refine aS (fuel:=5) [1,4] ?_|refine aS (fuel:=4) [1,5] ?_);refine ⟨⟨_,rfl,fun U O=>?_⟩,⟨_,rfl,fun U O=>?_⟩,trivial⟩)|((with_reducible first|refine aS (fuel:=5) [3] ?_|refine aS (fuel:=4) [4] ?_|refine aS (fuel:=3) [5] ?_|refine aS (fuel:=3) [1] ?_|refine aS (fuel:=2) [6] ?_|refine aS (fuel:=0) [8] ?_);refine ⟨⟨_,rfl,fun U O=>?_⟩,trivial⟩))<;>((first|with_reducible refine bA rfl ?_|refine bl rfl ?_);simp only [go_sem,aB,aD,aE,ao,aH,aG]))
    |(refine bi (by decide +kernel) (hK _ ?_);clear hK K;try simp only [go_sem,aB,aD,aE,ao,aH,aG]))
   |((refine CallK.cur (some 0) (bv (l:=[0,1,2,3,7,9]) hC0 (by omega) (by simp) (by simp)) rfl rfl rfl rfl rfl rfl ?_);(rintro c1 _ ⟨u1,hu1,rfl,hC1⟩);(try simp only [aU,go_sem]);(refine O _ ?_);(clear O U);(try simp only [go_sem]))
   |with_reducible refine aI ?_
   |with_reducible refine aZ ?_|with_reducible refine bh ?_|with_reducible refine ba ?_)
  all_goals
   skip
  all_goals
   repeat' (first|((with_reducible first|(apply hK;clear hK K)|refine ah fun U O=>?_|apply ag|(apply Z<;>(intro hc;try simp at hc;try omega)))<;>try simp only [go_sem])|(with_reducible first|apply aj|(apply O;clear O U)|refine kN fq fun K hK=>?_|refine kO fun K hK=>?_|refine aI ?_)|(refine xS rfl fun U O=>?_;simp only [go_sem])|apply iB)
   exact ⟨(L++[u1],c1),⟨by simp;omega,hC1.mono (by simp;omega)⟩,by simp;omega,(an [(4,11)] (by simp [lk,ab,aa]<;>omega))⟩
 ·have hlt':¬ (L.length:Int) < 5:=by omega
  have hL5:L.length = 5:=by omega
  have hen:=eM
  have hnl:=gx
  have hns:=fL
  generalize elNames = nm at hen hnl hns
  repeat' (first|((with_reducible first|(apply hK;clear hK K)|refine ah fun U O=>?_|apply ag|(apply Z<;>(intro hc;try simp at hc;try omega)))<;>try simp only [go_sem,hlt',hnl,ao])|(with_reducible first|apply aj|(apply O;clear O U)|refine kN fq fun K hK=>?_|refine kO fun K hK=>?_|refine aI ?_)|(refine xS rfl fun U O=>?_;simp only [go_sem,hlt',hnl,ao])|((with_reducible apply CallK.eq);(· with_reducible first|exact hen);(· simp [RV.flat,D.sc,aa]);try simp only [go_sem,hlt',hnl,ao])|apply iB)
  replace hC0:Cur (k + 18) c0:=hC0.mono (by omega)
  refine aA [5,6,36,37,38,39,40,41,42,43,44,45,46,47,48,49,50,51,52,53,54,55,56,57,58,59,60,61] (fun q:Nat × List ElementD × List D=>[(0,.bptr 0 0),(2,.bptr 1 0),(3,.bptr 2 0),(36,.d (.int .i64 (q.1:Int))),(34,.row 5 24),(4,.und),(23,.und)]) (fun q=>[(0,.pbox 0 ty (q.2.2.map .d)),(1,.box 42 [.d (.lst 4 []),.d (.lst 1 []),.d (.int .i64 0),.d (.int .i64 0),.d (.int .i64 0),.d (.int .i64 0)]),(2,.box 42 [.row 3 q.2.1.length,.row 4 L.length,.d (.int .i64 re),.d (.int .i64 bo),.d (.int .i64 ke),.d (.int .i64 fa)]),(3,.row 161 4 (q.2.1.map ElementD.dat)),(4,.row 3 1 (L.map aa)),(5,.row 9 1 (nm.map aX))]) 6 (fun q=>q.1≤24∧Cur (k + 18 + 10 * q.1) q.2.2∧q.2.1.length≤q.1∧(8≤q.1→1≤q.2.1.length)∧∀ x ∈ q.2.1,x.name.size≤8) (fun q=>24 - q.1) (0,[],c0) ⟨by simp,hC0.mono (by simp),by simp,by simp,by simp⟩ (an [] (by simp [lk,ab]<;>omega)) ?_
  rintro ⟨i,es,c0⟩ ⟨hi,hC0,hel,he1,hes⟩;simp only [bc,wipe,wl,bb,bx,rm,if_true,if_false,Nat.reduceEqDiff,Bool.false_eq_true,reduceCtorEq]
  simp only at hi hC0 hel he1 hes
  by_cases hlt2:i < 24
  ·have hlt2':(i:Int) < 24:=by omega
   obtain ⟨y,hy⟩:∃ y,nm[i]? = some y:=⟨_,List.getElem?_eq_getElem (by omega)⟩
   have hys:=hns y (List.mem_of_getElem? hy)
   refine (fun (key:∀ c2:List D,Cur (k + 18 + 10 * i + 2) c2→PW Tryz.prog ?c ?Q ⟨⟨85,[(6,.d (.str y)),(36,.d (.int .i64 (i:Int))),(35,.d (.int .i64 ((24:Nat):Int))),(34,.row 5 24),(3,.bptr 2 0),(2,.bptr 1 0),(0,.bptr 0 0)]⟩,[(0,.pbox 0 ty (c2.map .d)),(1,.box 42 [.d (.lst 4 []),.d (.lst 1 []),.d (.int .i64 0),.d (.int .i64 0),.d (.int .i64 0),.d (.int .i64 0)]),(2,.box 42 [.row 3 es.length,.row 4 L.length,.d (.int .i64 re),.d (.int .i64 bo),.d (.int .i64 ke),.d (.int .i64 fa)]),(3,.row 161 4 (es.map ElementD.dat)),(4,.row 3 1 (L.map aa)),(5,.row 9 1 (nm.map aX))],10⟩)=>?main) ?key
   case main=>
    repeat' (first|((with_reducible first|(apply hK;clear hK K)|refine ah fun U O=>?_|apply ag|(apply Z<;>(intro hc;try simp at hc;try omega)))<;>try simp only [go_sem,hlt2',hlt2,hnl,ao,ap,hy,ar,aX])|(with_reducible first|apply aj|(apply O;clear O U)|refine kN fq fun K hK=>?_|refine kO fun K hK=>?_|refine aI ?_)|(refine xS rfl fun U O=>?_;simp only [go_sem,hlt2',hlt2,hnl,ao,ap,hy,ar,aX])|((first|refine CallK.cur (some 0) (bQ hC0 (by omega)) rfl rfl rfl rfl rfl rfl ?_);rintro c2 _ ⟨x,hx,rfl,hC⟩;try simp only [aU,go_sem,hlt2',hlt2,hnl,ao,ap,hy,ar,aX])|((first|refine CallK.cur (some 0) (bQ hC0 (by omega)) rfl rfl rfl rfl rfl rfl ?_);rintro c2 _ ⟨x,hx,rfl,hC⟩;try simp only [aU,go_sem,hlt2',hlt2,hnl,ao,ap,hy,ar,aX])|apply iB)
    all_goals first
     |(exfalso;omega)
     |exact ⟨(i + 1,es,c2),⟨by simp only;omega,hC.mono (by simp only;omega),by simp only;omega,by simp only;omega,hes⟩,by simp only;omega,(an [] (by simp [lk,ab]<;>omega))⟩
     |(apply no;rotate_left;(focus exact key c2 hC);exact (an [] (by simp [lk,ab]<;>omega)))
   case key=>
    intro c2 hC
    refine bH 15 ay rfl (fun K hK=>?_)
    refine aT 0 rfl rfl rfl (aY rfl (ae _ _ gX) rfl rfl) ?_
    try simp only [go_sem,aB,aD,aE,ao,aH,aG]
    refine aT 2 rfl rfl rfl (aM (.inl rfl)) ?_
    try simp only [go_sem,aB,aD,aE,ao,aH,aG]
    refine aT 3 rfl rfl rfl (aM (.inl rfl)) ?_
    try simp only [go_sem,aB,aD,aE,ao,aH,aG]
    refine aT 5 rfl rfl rfl (aM (.inl rfl)) ?_
    try simp only [go_sem,aB,aD,aE,ao,aH,aG]
    refine aT 7 rfl rfl rfl (aM (.inl rfl)) ?_
    try simp only [go_sem,aB,aD,aE,ao,aH,aG]
    repeat' (first
     |((with_reducible refine O _ ?_);clear O U;try simp only [go_sem,aB,aD,aE,ao,aH,aG])
     |((with_reducible refine bB ?_);first
      |(refine aT 13 rfl rfl rfl (aY rfl (ae _ _ gX) rfl rfl) ?_;try simp only [go_sem,aB,aD,aE,ao,aH,aG])
      |((first|((with_reducible first|refine aS (fuel:=9) [1,4,8] ?_|refine aS (fuel:=8) [1,6,8] ?_);refine ⟨⟨_,rfl,fun U O=>?_⟩,⟨_,rfl,fun U O=>?_⟩,⟨_,rfl,fun U O=>?_⟩,trivial⟩)|((with_reducible first|refine aS (fuel:=8) [4,8] ?_|refine aS (fuel:=8) [1,4] ?_|refine aS (fuel:=7) [6,8] ?_|refine aS (fuel:=7) [1,8] ?_|refine aS (fuel:=7) [1,6] ?_|refine aS (fuel:=6) [1,9] ?_|refine aS (fuel:=5) [1,10] ?_|refine aS (fuel:=4) [1,11] ?_);refine ⟨⟨_,rfl,fun U O=>?_⟩,⟨_,rfl,fun U O=>?_⟩,trivial⟩)|((with_reducible first|refine aS (fuel:=7) [4] ?_|refine aS (fuel:=6) [8] ?_|refine aS (fuel:=6) [6] ?_|refine aS (fuel:=5) [9] ?_|refine aS (fuel:=4) [10] ?_|refine aS (fuel:=3) [11] ?_|refine aS (fuel:=3) [1] ?_|refine aS (fuel:=2) [12] ?_|refine aS (fuel:=0) [14] ?_);refine ⟨⟨_,rfl,fun U O=>?_⟩,trivial⟩))<;>((first|with_reducible refine bA rfl ?_|refine bl rfl ?_);simp only [go_sem,aB,aD,aE,ao,aH,aG]))
      |(refine bi (by decide +kernel) (hK _ ?_);clear hK K;try simp only [go_sem,aB,aD,aE,ao,aH,aG]))
     |((refine CallK.cur (some 0) (a_ hC (by omega)) rfl rfl rfl rfl rfl rfl ?_);(rintro c3 _ ⟨u1,hu1,rfl,hC3⟩);(try simp only [aU,go_sem]);(refine O _ ?_);(clear O U);(try simp only [go_sem]))
     |((refine CallK.cur (some 0) (a_ hC3 (by omega)) rfl rfl rfl rfl rfl rfl ?_);(rintro c4 _ ⟨u2,hu2,rfl,hC4⟩);(try simp only [aU,go_sem]);(refine O _ ?_);(clear O U);(try simp only [go_sem]))
     |((refine CallK.cur (some 0) (bv (l:=[1,50,130,420,800,1105,2000]) hC4 (by omega) (by simp) (by simp)) rfl rfl rfl rfl rfl rfl ?_);(rintro c5 _ ⟨u3,hu3,rfl,hC5⟩);(try simp only [aU,go_sem]);(refine O _ ?_);(clear O U);(try simp only [go_sem]))
     |with_reducible refine aI ?_
     |with_reducible refine aZ ?_|with_reducible refine bh ?_|with_reducible refine ba ?_)
    all_goals
     skip
    all_goals
     repeat' (first|((with_reducible first|(apply hK;clear hK K)|refine ah fun U O=>?_|apply ag|(apply Z<;>(intro hc;try simp at hc;try omega)))<;>try simp only [go_sem])|(with_reducible first|apply aj|(apply O;clear O U)|refine kN fq fun K hK=>?_|refine kO fun K hK=>?_|refine aI ?_)|(refine xS rfl fun U O=>?_;simp only [go_sem])|apply iB)
     exact ⟨(i + 1,es++[⟨y,u1,u2,u3⟩],c5),⟨by simp only;omega,hC5.mono (by simp only;omega),by simp;omega,by simp,cl hes hys⟩,by simp only;omega,(an [(3,24)] (by simp [lk,ab,ElementD.dat]<;>omega))⟩
  ·have hlt2':¬ (i:Int) < 24:=by omega
   have he24:=he1 (by omega)
   replace hC0:Cur (k + 258) c0:=hC0.mono (by omega)
   repeat' (first|with_reducible refine bs (id:=13) ?_|with_reducible refine br (id:=13) ?_|((with_reducible first|(apply hK;clear hK K)|refine ah fun U O=>?_|apply ag|(apply Z<;>(intro hc;try simp at hc;try omega)))<;>try simp only [go_sem,hlt2',hnl,ao])|(with_reducible first|apply aj|(apply O;clear O U)|refine kN fq fun K hK=>?_|refine kO fun K hK=>?_|refine aI ?_)|(refine xS rfl fun U O=>?_;simp only [go_sem,hlt2',hnl,ao])|((first|refine CallK.cur (some 0) (bQ hC0 (by omega)) rfl rfl rfl rfl rfl rfl ?_);rintro c2 _ ⟨x,hx,rfl,hC⟩;try simp only [aU,go_sem,hlt2',hnl,ao])|((first|refine CallK.cur (some 0) (bQ hC0 (by omega)) rfl rfl rfl rfl rfl rfl ?_);rintro c2 _ ⟨x,hx,rfl,hC⟩;try simp only [aU,go_sem,hlt2',hnl,ao])|apply iB)
   ·unfold eu
    refine cM (cI ?_)
    refine bw ae ?_
    simp only [go_sem]
    refine fp 161 4 rfl (ae _ _ wj) rfl rfl rfl (show 0 + 1≤6 by decide) ?_
    simp only [go_sem]
    refine aZ ?_
    repeat' (first|((with_reducible first|(apply hK;clear hK K)|refine ah fun U O=>?_|apply ag|(apply Z<;>(intro hc;try simp at hc;try omega)))<;>try simp only [go_sem,hnl,ao])|(with_reducible first|apply aj|(apply O;clear O U)|refine kN fq fun K hK=>?_|refine kO fun K hK=>?_|refine aI ?_)|(refine xS rfl fun U O=>?_;simp only [go_sem,hnl,ao])|((with_reducible apply CallK.eq);(· with_reducible first|exact hen);(· simp [RV.flat,D.sc,aa]);try simp only [go_sem,hnl,ao])|apply iB)
    clear he1 he24 hes hel
    refine aA [8,67,68,69,70,71,72,73,74,75,76,77,78,79,80,81,82,83] (fun q:Nat × List ElementD × List D=>[(0,.bptr 0 0),(2,.bptr 1 0),(3,.bptr 2 0),(67,.d (.int .i64 (q.1:Int))),(65,.row 5 24),(34,.und),(64,.und),(63,.und)]) (fun q=>[(0,.pbox 0 ty (q.2.2.map .d)),(1,.box 42 [.d (.lst 4 []),.d (.lst 1 []),.d (.int .i64 0),.d (.int .i64 0),.d (.int .i64 0),.d (.int .i64 0)]),(2,.box 42 [.row 3 q.2.1.length,.row 4 L.length,.d (.int .i64 re),.d (.int .i64 bo),.d (.int .i64 ke),.d (.int .i64 fa)]),(3,.row 161 4 (q.2.1.map ElementD.dat)),(4,.row 3 1 (L.map aa)),(5,.row 9 1 (nm.map aX))]) 6 (fun q=>q.1≤24∧Cur (k + 260 + 4 * q.1) q.2.2∧q.2.1.length = q.1∧∀ x ∈ q.2.1,x.name.size≤8) (fun q=>24 - q.1) (0,[],c2) ⟨by simp,hC.mono (by simp),by simp,by simp⟩ (an [(3,10)] (by simp [lk,ab]<;>omega)) ?_
    clear hC0
    rintro ⟨i,es,c0⟩ ⟨hi,hC0,hel,hes⟩;simp only [bc,wipe,wl,bb,bx,rm,if_true,if_false,Nat.reduceEqDiff,Bool.false_eq_true,reduceCtorEq]
    simp only at hi hC0 hel hes
    by_cases hlt2:i < 24
    ·have hlt2':(i:Int) < 24:=by omega
     obtain ⟨y,hy⟩:∃ y,nm[i]? = some y:=⟨_,List.getElem?_eq_getElem (by omega)⟩
     have hys:=hns y (List.mem_of_getElem? hy)
     repeat' (first|((with_reducible first|(apply hK;clear hK K)|refine ah fun U O=>?_|apply ag|(apply Z<;>(intro hc;try simp at hc;try omega)))<;>try simp only [go_sem,hlt2',hlt2,hnl,ao,ap,hy,ar,aX])|(with_reducible first|apply aj|(apply O;clear O U)|refine kN fq fun K hK=>?_|refine kO fun K hK=>?_|refine aI ?_)|(refine xS rfl fun U O=>?_;simp only [go_sem,hlt2',hlt2,hnl,ao,ap,hy,ar,aX])|apply iB)
     all_goals first
      |(exfalso;omega)
      |skip
     refine bH 13 ay rfl (fun K hK=>?_)
     refine aT 0 rfl rfl rfl (aY rfl (ae _ _ gX) rfl rfl) ?_
     try simp only [go_sem,aB,aD,aE,ao,aH,aG]
     refine aT 2 rfl rfl rfl (aM (.inl rfl)) ?_
     try simp only [go_sem,aB,aD,aE,ao,aH,aG]
     refine aT 3 rfl rfl rfl (aM (.inl rfl)) ?_
     try simp only [go_sem,aB,aD,aE,ao,aH,aG]
     refine aT 5 rfl rfl rfl (aM (.inl rfl)) ?_
     try simp only [go_sem,aB,aD,aE,ao,aH,aG]
     repeat' (first
      |((with_reducible refine O _ ?_);clear O U;try simp only [go_sem,aB,aD,aE,ao,aH,aG])
      |((with_reducible refine bB ?_);first
       |(refine aT 11 rfl rfl rfl (aY rfl (ae _ _ gX) rfl rfl) ?_;try simp only [go_sem,aB,aD,aE,ao,aH,aG])
       |((first|((with_reducible first|refine aS (fuel:=8) [1,4] ?_|refine aS (fuel:=7) [1,6] ?_|refine aS (fuel:=6) [1,7] ?_|refine aS (fuel:=5) [1,8] ?_|refine aS (fuel:=4) [1,9] ?_);refine ⟨⟨_,rfl,fun U O=>?_⟩,⟨_,rfl,fun U O=>?_⟩,trivial⟩)|((with_reducible first|refine aS (fuel:=7) [4] ?_|refine aS (fuel:=6) [6] ?_|refine aS (fuel:=5) [7] ?_|refine aS (fuel:=4) [8] ?_|refine aS (fuel:=3) [9] ?_|refine aS (fuel:=3) [1] ?_|refine aS (fuel:=2) [10] ?_|refine aS (fuel:=0) [12] ?_);refine ⟨⟨_,rfl,fun U O=>?_⟩,trivial⟩))<;>((first|with_reducible refine bA rfl ?_|refine bl rfl ?_);simp only [go_sem,aB,aD,aE,ao,aH,aG]))
       |(refine bi (by decide +kernel) (hK _ ?_);clear hK K;try simp only [go_sem,aB,aD,aE,ao,aH,aG]))
      |((refine CallK.cur (some 0) (a_ hC0 (by omega)) rfl rfl rfl rfl rfl rfl ?_);(rintro c3 _ ⟨u1,hu1,rfl,hC3⟩);(try simp only [aU,go_sem]);(refine O _ ?_);(clear O U);(try simp only [go_sem]))
      |((refine CallK.cur (some 0) (a_ hC3 (by omega)) rfl rfl rfl rfl rfl rfl ?_);(rintro c4 _ ⟨u2,hu2,rfl,hC4⟩);(try simp only [aU,go_sem]);(refine O _ ?_);(clear O U);(try simp only [go_sem]))
      |with_reducible refine aI ?_
      |with_reducible refine aZ ?_|with_reducible refine bh ?_|with_reducible refine ba ?_)
     all_goals
      skip
     all_goals
      repeat' (first|((with_reducible first|(apply hK;clear hK K)|refine ah fun U O=>?_|apply ag|(apply Z<;>(intro hc;try simp at hc;try omega)))<;>try simp only [go_sem])|(with_reducible first|apply aj|(apply O;clear O U)|refine kN fq fun K hK=>?_|refine kO fun K hK=>?_|refine aI ?_)|(refine xS rfl fun U O=>?_;simp only [go_sem])|apply iB)
      exact ⟨(i + 1,es++[⟨y,u1,0,100 + u2⟩],c4),⟨by simp only;omega,hC4.mono (by simp only;omega),by simp;omega,cl hes hys⟩,by simp only;omega,(an [(3,15)] (by simp [lk,ab,ElementD.dat]<;>omega))⟩
    ·have hlt2':¬ (i:Int) < 24:=by omega
     have hel24:es.length = 24:=by omega
     repeat' (first|((with_reducible first|(apply hK;clear hK K)|refine ah fun U O=>?_|apply ag|(apply Z<;>(intro hc;try simp at hc;try omega)))<;>try simp only [go_sem,hlt2'])|(with_reducible first|apply aj|(apply O;clear O U)|refine kN fq fun K hK=>?_|refine kO fun K hK=>?_|refine aI ?_)|(refine xS rfl fun U O=>?_;simp only [go_sem,hlt2'])|apply iB)
     refine cG (id:=0) (xs:=[.row _ _,.row _ _,.d (.int .i64 re),.d (.int .i64 bo),.d (.int .i64 ke),.d (.int .i64 fa)]) _ rfl (by simp only [bj,bn,ab,lk,ao,if_true,if_false,Nat.reduceEqDiff,Nat.reduceBEq,Bool.false_eq_true,Option.some.injEq]<;>rfl) (by simp [am,lk]) rfl (Cur.len (by assumption)) ⟨⟨es,L,re,bo,ke,fa⟩,⟨by simp only;omega,by simp only;omega,hes,hL5⟩,rfl,Cur.mono (by assumption) (by omega)⟩
   ·refine cG (id:=0) (xs:=[.row _ _,.row _ _,.d (.int .i64 re),.d (.int .i64 bo),.d (.int .i64 ke),.d (.int .i64 fa)]) _ rfl (by simp only [bj,bn,ab,lk,ao,if_true,if_false,Nat.reduceEqDiff,Nat.reduceBEq,Bool.false_eq_true,Option.some.injEq]<;>rfl) (by simp [am,lk]) rfl (Cur.len (by assumption)) ⟨⟨es,L,re,bo,ke,fa⟩,⟨by simp only;omega,by simp only;omega,hes,hL5⟩,rfl,Cur.mono (by assumption) (by omega)⟩
end Go.Proofs.YtphakidbddamfaaGreat
namespace Go.Proofs.YtphakidbddamfaaGreat
open Go.RowKit
theorem Sim.shallow {X0:Nat→Prop} {w0:Base} {m:Mp} {s:AS} {a:Act} {w:World} (hs:Sim X0 w0 m s a w) {id:Nat} {ty:TypeId} {sz:Nat} {es:List (List D)} (hg:ab s.hp id = some (.deep 0 ty sz es)):∃ m',Sim X0 w0 m' ⟨s.fr,bf (d6 s.hp [] id) id (.row ty sz es),s.nx⟩ a w:=by
 obtain ⟨l,hl,_⟩:=hs.hp id _ hg
 have hdp:=hs.dp id 0 ty sz es hg
 rw [hl] at hdp
 have hg2:ab (d6 s.hp [] id) id = some (.deep 0 ty sz es):=ip hg (by simp) rfl
 refine ⟨bT m id l fun _=>False,hs.changeD (i:=id) (blk':=.row ty sz es) (F':=fun _=>False) (fun b=>(Blk.deep 0 ty sz es).has m id b) (.inr hl) (by rw [bu];simp [hg2]) (fun id' hne blk hb=>by rw [bu,if_neg hne] at hb;exact (fd hb).2) rfl (fun id' par k j hne ha'=>?_) (Nat.le_refl _) (hs.lt_nx hl) (KeepB.refl _ _) (fun _ _ _=>rfl) (fun b hb=>⟨id,_,hg,hb,.inl rfl⟩) (fun b hb=>?_) (fun p e=>by cases e) (fun p ty' sz' es' e=>by cases e) fun hst=>?_⟩
 ·rw [bu,if_neg hne] at ha'
  have h2:=(fd ha').2
  have h3:=(qJ ha').2
  obtain ⟨q,ty',sz',es2,_,_,_,_,_,_,a1,_⟩:=hs.al id' par k j h2
  exact .inl ⟨h3,by rw [bu,if_neg h3,ip a1 (by simp) rfl,a1]⟩
 ·obtain ⟨c,hc⟩:=hb
  rw [bt] at hc
  have hb2:(Blk.deep 0 ty sz es).has m id b:=.inl ⟨c,by rw [hl];exact hc⟩
  have:=hs.own id _ b hg hb2
  exact ⟨this.1,this.2,.inr hb2⟩
 ·refine Blk.ok_of ?_
  have hno:∀ x,m.ft id x→¬ aR X0 (bT m id l fun _=>False) (bf (d6 s.hp [] id) id (.row ty sz es)) x:=by
   intro x hx
   have how:=hs.own id _ x hg (.inr hx)
   rintro (h|⟨id',blk,h1,h2⟩)
   ·obtain ⟨h3,h4⟩:=hs.x0 x h
    rcases how.1 with h5|h5
    ·omega
    ·exact h4 h5
   ·by_cases e:id' = id
    ·subst e
     rw [bu] at h1
     simp [hg2] at h1
     subst h1
     obtain ⟨c,hc⟩:=h2
     rw [bt] at hc
     cases hc
     exact hdp.1 hx
    ·rw [bu,if_neg e] at h1
     exact e (hs.inj id' id blk _ x (fd h1).2 hg ((Blk.has_upd e).1 h2) (.inr hx))
  cases l with
  |nil=>exact hdp.1
  |blk b c=>
   obtain ⟨_,arr,h2,h3,h4,h5,h6,Fp,h7,_,h9⟩:=hdp
   exact ⟨arr,h2,h3,h4,h5,h6,fun k e j d v he hd hv=>(h9 k e j d v he hd hv).rd fun x hx=>hno x (h7 k j x hx)⟩
section
variable {P:Program} {s:AS} {id:Nat} {ty:TypeId} {sz:Nat} {es:List (List D)}
theorem d5 {Q:Exit→AS→Prop} {c:Code} (id:Nat) (hg:ab s.hp id = some (.deep 0 ty sz es)) (h:PW P c Q ⟨s.fr,bf (d6 s.hp [] id) id (.row ty sz es),s.nx⟩):PW P c Q s:=fun X0 w0 _ a w hs=>
 let ⟨m',h'⟩:=hs.shallow hg
 h X0 w0 m' a w h'
theorem e8 {o:Oper} {K:AS→Prop} (id:Nat) (hg:ab s.hp id = some (.deep 0 ty sz es)) (h:PO P o ⟨s.fr,bf (d6 s.hp [] id) id (.row ty sz es),s.nx⟩ K):PO P o s K:=fun X0 w0 _ a w Q hs=>
 let ⟨m',h'⟩:=hs.shallow hg
 h X0 w0 m' a w Q h'
end
end Go.Proofs.YtphakidbddamfaaGreat
