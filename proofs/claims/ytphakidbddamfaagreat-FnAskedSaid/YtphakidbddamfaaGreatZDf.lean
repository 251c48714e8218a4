/-
  The drawn programme that has all elements.
-/
import Derived.Test.YtphakidbddamfaaGreatZDd
import Derived.Test.YtphakidbddamfaaGreatZDj
set_option linter.unusedSimpArgs false
set_option linter.unusedVariables false
set_option maxHeartbeats 2000000
set_option maxRecDepth 100000
namespace Go.Proofs.YtphakidbddamfaaGreat
open Go.RowKit
def we (q:CodeD × List ItemD):Prop:=acB q.1∧q.2.length≤18∧∀ x ∈ q.2,aiB x
theorem itB.ai {x:ItemD} (h:itB x):aiB x:=⟨by have:=h.2.1;omega,by have:=h.2.1;have:=h.2.2.1;omega,h.2.2.2⟩
theorem LikeI.ai {l l':List ItemD} (h:LikeI l l') (hl:∀ x ∈ l,aiB x):∀ x ∈ l',aiB x:=by
 intro r hr
 obtain ⟨a,ha⟩:=List.getElem?_of_mem hr
 obtain ⟨y,h1,h2,h3⟩:=h.2 a r ha
 have hb:=hl y (List.mem_of_getElem? h1)
 unfold aiB at *
 rw [h2,h3]
 exact hb
theorem lK {k:Nat} {cs:List D} (hC:Cur k cs) (hk:k≤1000000000):FnC Tryz.prog 203 3 [] cs (dn (k + 4) we fun q=>[.agg q.1.dat,.deep 143 3 (q.2.map ItemD.dat)]):=by
 refine co aa Tryz.func203 rfl rfl hC.len fun ty=>?_;simp only [Tryz.ntmps203,aR,aM,Nat.reduceAdd,Nat.reduceSub,aJ,aH,an,aW]
 repeat' (first|with_reducible refine bs (id:=1) ?_|with_reducible refine br (id:=1) ?_|((with_reducible first|(refine hK _ ?_;clear hK K)|refine aj fun U O=>?_|apply ah|(apply Z<;>(intro hc;try simp at hc;try omega)))<;>try simp only [go_sem])|(with_reducible first|apply ag|(refine O _ ?_;clear O U)|refine kN gM fun K hK=>?_|refine kO fun K hK=>?_|refine aI ?_)|apply iB)
 unfold eF
 refine cm (ck ?_)
 refine a9 aa ?_
 simp only [go_sem]
 refine pp 161 4 rfl (aa _ _ gB) rfl ?_
 refine a9 aa ?_
 simp only [go_sem]
 refine a9 aa ?_
 simp only [go_sem,ge]
 refine ba ?_
 have hen:=eP
 have hnl:=gk
 have hns:=fS
 generalize elNames = nm at hen hnl hns
 repeat' (first|((with_reducible first|(refine hK _ ?_;clear hK K)|refine aj fun U O=>?_|apply ah|(apply Z<;>(intro hc;try simp at hc;try omega)))<;>try simp only [go_sem,hnl,an])|(with_reducible first|apply ag|(refine O _ ?_;clear O U)|refine kN gM fun K hK=>?_|refine kO fun K hK=>?_|refine aI ?_)|((with_reducible apply CallK.eq);(· with_reducible first|exact hen);(· simp [RV.flat,D.sc,ab]);try simp only [go_sem,hnl,an])|((first|refine CallK.cur (some 0) (be hC (by omega)) rfl rfl rfl rfl rfl rfl ?_);rintro c2 _ ⟨x,hx,rfl,hC⟩;try simp only [a_,go_sem,hnl,an])|apply iB)
 obtain ⟨n,hn⟩:∃ n:Nat,14 + x = (n:Int):=⟨(14 + x).toNat,by omega⟩
 have hn15:n≤15:=by omega
 rw [hn]
 replace hC:Cur (k + 2) c2:=hC
 clear hx hn
 refine dP 6 rfl (by intro e he;cases he) ?_
 simp only [go_sem]
 refine aD [3,5,7,8,16,17,18,19,20,21,22,23,24,25,26,27,28,29,30,31,32,33,34,35,36,37,38,39,40,41,42,43] (fun q:Nat × List ElementD × List ItemD=>[(0,.bptr 0 0),(2,.bptr 1 0),(4,.bptr 2 0),(16,.d (.int .i64 (q.1:Int))),(14,.row 6 24),(5,.row 5 q.2.2.length),(9,.und),(10,.und),(3,.und)]) (fun q=>[(0,.pbox 0 ty (c2.map .d)),(1,.box 42 [.d (.lst 4 []),.d (.lst 1 []),.d (.int .i64 0),.d (.int .i64 0),.d (.int .i64 0),.d (.int .i64 0)]),(2,.box 42 [.row 3 q.2.1.length,.row 4 5,.d (.int .i64 1),.d (.int .i64 0),.d (.int .i64 80),.d (.int .i64 0)]),(3,.row 161 4 (q.2.1.map ElementD.dat)),(4,.row 3 1 (([9,9,9,9,9]:List Int).map ab)),(5,.deep 0 143 3 (q.2.2.map ItemD.dat)),(6,.row 9 1 (nm.map aZ))]) 7 (fun q=>q.1≤24∧q.2.1.length = q.1∧(∀ x ∈ q.2.1,x.name.size≤8)∧(q.2.2.length≤q.1∧q.2.2.length≤n)∧∀ x ∈ q.2.2,aiB x) (fun q=>24 - q.1) (0,[],[]) ⟨by simp,by simp,by simp,by simp,by simp⟩ (ao [(3,4),(4,3)] (by simp [lk,ae,ab]<;>omega)) ?_
 rintro ⟨i,es,l⟩ ⟨hi,hel,hes,⟨hli,hln⟩,hl⟩;simp only [bi,wipe,wl,bh,bw,rm,if_true,if_false,Nat.reduceEqDiff,Bool.false_eq_true,reduceCtorEq]
 simp only at hi hel hes hli hln hl
 by_cases hlt:i < 24
 ·have hlt':(i:Int) < 24:=by omega
  obtain ⟨y,hy⟩:∃ y,nm[i]? = some y:=⟨_,List.getElem?_eq_getElem (by omega)⟩
  have hys:=hns y (List.mem_of_getElem? hy)
  have hib:aiB ⟨[y],[0],false⟩:=⟨by simp,by simp,fun s hs=>by rw [List.mem_singleton.1 hs];exact hys⟩
  by_cases hin:(i:Int) < (n:Int)
  ·repeat' (first|((with_reducible first|(refine hK _ ?_;clear hK K)|refine aj fun U O=>?_|apply ah|(apply Z<;>(intro hc;try simp at hc;try omega)))<;>try simp only [go_sem,hlt',hlt,hnl,hin,an,ap,hy,aq,aZ])|(with_reducible first|apply ag|(refine O _ ?_;clear O U)|refine kN gM fun K hK=>?_|refine kO fun K hK=>?_|refine aI ?_)|apply iB)
   all_goals first
    |(exfalso;omega)
    |skip
   refine bA (cs:=[.row 9 1,.row 10 1,.d (.bool false)]) (ds:=ItemD.dat ⟨[y],[0],false⟩) rfl (aa _ _ fk) (by decide) rfl (by simp [dE,dL,ae,D.scB,ItemD.dat,aZ,ab]) (by simp [bb]) (by simp only [cY,cy,ae,if_true,if_false,Nat.reduceEqDiff];exact ⟨cP [y],bT [0],trivial,trivial⟩) ?_
   repeat' (first|((with_reducible first|(refine hK _ ?_;clear hK K)|refine aj fun U O=>?_|apply ah|(apply Z<;>(intro hc;try simp at hc;try omega)))<;>try simp only [go_sem])|(with_reducible first|apply ag|(refine O _ ?_;clear O U)|refine kN gM fun K hK=>?_|refine kO fun K hK=>?_|refine aI ?_)|apply iB)
   refine bM (es:=l.map ItemD.dat) (fs:=[ItemD.dat ⟨[y],[0],false⟩]) (n:=l.length) (n2:=1) rfl (aa _ _ fk) rfl rfl rfl rfl (by decide) (by simp) rfl (by exact True.intro) (by exact True.intro) (by simp<;>omega) ?_
   repeat' (first|((with_reducible first|(refine hK _ ?_;clear hK K)|refine aj fun U O=>?_|apply ah|(apply Z<;>(intro hc;try simp at hc;try omega)))<;>try simp only [go_sem])|(with_reducible first|apply ag|(refine O _ ?_;clear O U)|refine kN gM fun K hK=>?_|refine kO fun K hK=>?_|refine aI ?_)|apply iB)
   exact ⟨(i + 1,es++[⟨y,(i:Int).tmod 5,0,100 + 10 * (i:Int)⟩],l++[⟨[y],[0],false⟩]),⟨by simp only;omega,by simp;omega,cg hes hys,⟨by simp;omega,by simp;omega⟩,cg hl hib⟩,by simp only;omega,(ao [(3,8)] (by simp [lk,ae,ElementD.dat]<;>omega))⟩
  ·repeat' (first|((with_reducible first|(refine hK _ ?_;clear hK K)|refine aj fun U O=>?_|apply ah|(apply Z<;>(intro hc;try simp at hc;try omega)))<;>try simp only [go_sem,hlt',hlt,hnl,hin,an,ap,hy,aq,aZ])|(with_reducible first|apply ag|(refine O _ ?_;clear O U)|refine kN gM fun K hK=>?_|refine kO fun K hK=>?_|refine aI ?_)|apply iB)
   all_goals first
    |(exfalso;omega)
    |exact ⟨(i + 1,es++[⟨y,(i:Int).tmod 5,0,100 + 10 * (i:Int)⟩],l),⟨by simp only;omega,by simp;omega,cg hes hys,⟨by simp only;omega,hln⟩,hl⟩,by simp only;omega,(ao [(3,8)] (by simp [lk,ae,ElementD.dat]<;>omega))⟩
 ·have hlt':¬ (i:Int) < 24:=by omega
  have hfit:∀ r ∈ l,ItFit 1048576 r:=fun r hr=>(hl r hr).fit
  repeat' (first|((with_reducible first|(refine hK _ ?_;clear hK K)|refine aj fun U O=>?_|apply ah|(apply Z<;>(intro hc;try simp at hc;try omega)))<;>try simp only [go_sem,hlt'])|(with_reducible first|apply ag|(refine O _ ?_;clear O U)|refine kN gM fun K hK=>?_|refine kO fun K hK=>?_|refine aI ?_)|apply iB)
  all_goals first
   |(exfalso;omega)
   |skip
  refine bJ 5 gM ax rfl (fun K hK=>?_)
  refine aT 1 rfl rfl rfl (aL (.inl rfl)) ?_
  try simp only [go_sem,aA,aB,aC,an]
  repeat' (first
   |((with_reducible refine O _ ?_);clear O U;try simp only [go_sem,aA,aB,aC,an])
   |((with_reducible refine bB ?_);first
    |(refine aT 4 rfl rfl rfl (aL (.inr rfl)) ?_;try simp only [go_sem,aA,aB,aC,an])
    |((first|((with_reducible first|refine aS (fuel:=3) [0,2] ?_);refine ⟨⟨_,rfl,fun U O=>?_⟩,⟨_,rfl,fun U O=>?_⟩,trivial⟩)|((with_reducible first|refine aS (fuel:=2) [2] ?_|refine aS (fuel:=2) [0] ?_|refine aS (fuel:=1) [3] ?_);refine ⟨⟨_,rfl,fun U O=>?_⟩,trivial⟩))<;>((first|with_reducible refine aX rfl ?_|refine aP rfl ?_);simp only [go_sem,aA,aB,aC,an]))
    |(refine bk (by decide +kernel) (hK _ ?_);clear hK K;try simp only [go_sem,aA,aB,aC,an]))
   |((refine CallK.of (kn l (by omega) hfit) ?_);(rintro _ ⟨l2,hl2,rfl⟩);(refine ⟨(fun _=>by simp [RV.flat]),?_⟩);(try simp only [go_sem]);(refine O _ ?_);(clear O U);(try simp only [go_sem]))
   |with_reducible refine aI ?_)
  all_goals
   skip
  all_goals
   have hl2l:=hl2.1
   have hl2i:=hl2.ai hl
   repeat' (first|((with_reducible first|(refine hK _ ?_;clear hK K)|refine aj fun U O=>?_|apply ah|(apply Z<;>(intro hc;try simp at hc;try omega)))<;>try simp only [go_sem])|(with_reducible first|apply ag|(refine O _ ?_;clear O U)|refine kN gM fun K hK=>?_|refine kO fun K hK=>?_|refine aI ?_)|apply iB)
   refine bQ (id:=0) (xs:=[.agg [.row _ _,.row _ _,.d (.int .i64 1),.d (.int .i64 0),.d (.int .i64 80),.d (.int .i64 0)],.row _ _]) _ rfl (by simp only [bl,bn,cX,dT,ae,lk,an,aR,aM,if_true,if_false,Nat.reduceEqDiff,Nat.reduceBEq,Nat.reduceAdd,Bool.false_eq_true,Option.some.injEq]<;>rfl) (by simp [am,bb]) rfl (Cur.len (by assumption)) ⟨(⟨es,[9,9,9,9,9],1,0,80,0⟩,l2),⟨⟨by simp only;omega,hes,by simp⟩,by simp only;omega,hl2i⟩,rfl,Cur.mono (by assumption) (by omega)⟩
end Go.Proofs.YtphakidbddamfaaGreat
