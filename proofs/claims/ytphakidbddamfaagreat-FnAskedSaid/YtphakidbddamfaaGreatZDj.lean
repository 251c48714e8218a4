/-
  Drawn items and lists of items, valid or not.
-/
import Derived.Test.YtphakidbddamfaaGreatZDe
import Derived.Test.YtphakidbddamfaaGreatZIk
import Derived.Test.YtphakidbddamfaaGreatZIn
set_option linter.unusedSimpArgs false
set_option linter.unusedVariables false
set_option maxHeartbeats 2000000
set_option maxRecDepth 100000
namespace Go.Proofs.YtphakidbddamfaaGreat
open Go.RowKit
def aiB (x:ItemD):Prop:=x.names.length≤4∧x.marks.length≤5∧∀ s ∈ x.names,s.size≤8
theorem aiB.fit {x:ItemD} (h:aiB x):ItFit 1048576 x:=⟨by have:=h.1;omega,fun s hs=>by have:=h.2.2 s hs;omega,by have:=h.2.1;omega⟩
def nP:List ByteArray:=[⟨#[51,65]⟩,⟨#[50,84]⟩,⟨#[52,83]⟩,⟨#[67,67,79,83,80]⟩,⟨#[83,84]⟩,⟨#[65]⟩,⟨#[48]⟩]
def qg:List ByteArray:=[⟨#[]⟩,⟨#[97]⟩,⟨#[65,66,67,68,69]⟩,⟨#[65,66,67,68,69,70]⟩,⟨#[51,65,60]⟩,⟨#[65,32,66]⟩]
theorem m7:∀ s ∈ nP,s.size≤8:=by decide
theorem oN:∀ s ∈ qg,s.size≤8:=by decide
theorem uS {l:List ByteArray} {y:ByteArray} (h:∀ x ∈ l,x.size≤8) (hy:y.size≤8) (i:Nat):∀ x ∈ l.set i y,x.size≤8:=by
 intro x hx
 rcases List.mem_or_eq_of_mem_set hx with h1|h1
 ·exact h x h1
 ·rw [h1];exact hy
theorem sf {k:Nat} {cs:List D} (hC:Cur k cs) (hk:k≤1000000000):FnC Tryz.prog 168 3 [] cs (dn (k + 60) aiB fun x=>[.row 9 1 (x.names.map aZ),.row 3 1 (x.marks.map ab),.d (.bool x.late)]) .agg:=by
 refine co aa Tryz.func168 rfl rfl hC.len fun ty=>?_;simp only [Tryz.ntmps168,aR,aM,Nat.reduceAdd,Nat.reduceSub,aJ,aH,an,aW]
 repeat' (first|with_reducible refine bs (id:=2) ?_|with_reducible refine br (id:=2) ?_|((with_reducible first|(refine hK _ ?_;clear hK K)|refine aj fun U O=>?_|apply ah|(apply Z<;>(intro hc;try simp at hc;try omega)))<;>try simp only [go_sem])|(with_reducible first|apply ag|(refine O _ ?_;clear O U)|refine kN eo fun K hK=>?_|refine kO fun K hK=>?_|refine aI ?_)|apply iB)
 refine CallK.curA (some 0) (ue (nm:=nP) hC (by omega) (by decide) (by decide)) rfl rfl rfl rfl rfl rfl ?_
 rintro c2 _ ⟨x,hx,rfl,hC⟩
 try simp only [a_,go_sem]
 obtain ⟨g,mk,la⟩:=x
 obtain ⟨g1,g3,gn,gm,_⟩:=hx
 simp only at g1 g3 gn gm
 have hgs:∀ s ∈ g,s.size≤8:=fun s hs=>m7 s (gn s hs)
 obtain ⟨y,hy⟩:∃ y,g[0]? = some y:=⟨_,List.getElem?_eq_getElem (by omega)⟩
 obtain ⟨z,hz⟩:∃ z,mk[0]? = some z:=⟨_,List.getElem?_eq_getElem (by omega)⟩
 have g0:0 < g.length:=by omega
 have m0:0 < mk.length:=by omega
 repeat' (first|with_reducible refine bs (id:=2) ?_|with_reducible refine br (id:=2) ?_|((with_reducible first|(refine hK _ ?_;clear hK K)|refine aj fun U O=>?_|apply ah|(apply Z<;>(intro hc;try simp at hc;try omega)))<;>try simp only [go_sem])|(with_reducible first|apply ag|(refine O _ ?_;clear O U)|refine kN eo fun K hK=>?_|refine kO fun K hK=>?_|refine aI ?_)|apply iB)
 refine ec (fun q:ItemD × List D=>⟨⟨57,[(0,.bptr 0 0),(2,.bptr 1 0),(3,.bptr 2 0)]⟩,[(0,.pbox 0 ty (q.2.map .d)),(1,.box 143 [.d (.lst 1 []),.d (.lst 1 []),.d (.bool false)]),(2,.box 143 [.row 3 q.1.names.length,.row 4 q.1.marks.length,.d (.bool q.1.late)]),(3,.row 9 1 (q.1.names.map aZ)),(4,.row 3 1 (q.1.marks.map ab))],5⟩) (fun q=>aiB q.1∧Cur (k + 50) q.2) ?_ ?_
 ·intro K hK
  repeat' (first|((with_reducible first|(refine hK _ ?_;clear hK K)|refine aj fun U O=>?_|apply ah|(apply Z<;>(intro hc;try simp at hc;try omega)))<;>try simp only [go_sem])|(with_reducible first|apply ag|(refine O _ ?_;clear O U)|refine kN eo fun K hK=>?_|refine kO fun K hK=>?_|refine aI ?_)|apply iB)
  refine CallK.cur (some 0) (be hC (by omega)) rfl rfl rfl rfl rfl rfl ?_;rintro c2 _ ⟨x,hx,rfl,hC⟩;try simp only [a_,go_sem]
  clear hx
  replace hC:Cur (k + 42) c2:=hC
  by_cases h0:x = 0
  ·subst h0
   repeat' (first|((with_reducible first|(refine hK _ ?_;clear hK K)|refine aj fun U O=>?_|apply ah|(apply Z<;>(intro hc;try simp at hc;try omega)))<;>try simp only [go_sem])|(with_reducible first|apply ag|(refine O _ ?_;clear O U)|refine kN eo fun K hK=>?_|refine kO fun K hK=>?_|refine aI ?_)|apply iB)
   refine bF 7 ax rfl (fun K hK=>?_)
   refine aT 0 rfl rfl rfl (aY rfl (aa _ _ d3) rfl rfl) ?_
   try simp only [go_sem,aA,aB,aC,an,ap,hy,aq,aZ,g0,aJ,aH]
   refine aT 2 rfl rfl rfl (aL (.inl rfl)) ?_
   try simp only [go_sem,aA,aB,aC,an,ap,hy,aq,aZ,g0,aJ,aH]
   repeat' (first
    |((with_reducible refine O _ ?_);clear O U;try simp only [go_sem,aA,aB,aC,an,ap,hy,aq,aZ,g0,aJ,aH])
    |((with_reducible refine bB ?_);first
     |((first|((with_reducible first|refine aS (fuel:=4) [1,3] ?_|refine aS (fuel:=3) [1,4] ?_);refine ⟨⟨_,rfl,fun U O=>?_⟩,⟨_,rfl,fun U O=>?_⟩,trivial⟩)|((with_reducible first|refine aS (fuel:=3) [3] ?_|refine aS (fuel:=2) [4] ?_|refine aS (fuel:=2) [1] ?_|refine aS (fuel:=1) [5] ?_|refine aS (fuel:=0) [6] ?_);refine ⟨⟨_,rfl,fun U O=>?_⟩,trivial⟩))<;>((first|with_reducible refine aX rfl ?_|refine aP rfl ?_);simp only [go_sem,aA,aB,aC,an,ap,hy,aq,aZ,g0,aJ,aH]))
     |(refine bk (by decide +kernel) (hK _ ?_);clear hK K;try simp only [go_sem,aA,aB,aC,an,ap,hy,aq,aZ,g0,aJ,aH]))
    |((refine CallK.cur (some 0) (mD (l:=qg) hC (by omega) (by decide) (by decide)) rfl rfl rfl rfl rfl rfl ?_);(rintro c3 _ ⟨u,hu,rfl,hC3⟩);(try simp only [a_,go_sem]);(refine O _ ?_);(clear O U);(try simp only [go_sem]))
    |with_reducible refine aI ?_
    |with_reducible refine ba ?_|with_reducible refine bm ?_|with_reducible refine bc ?_)
   all_goals
    skip
   all_goals
    repeat' (first|((with_reducible first|(refine hK _ ?_;clear hK K)|refine aj fun U O=>?_|apply ah|(apply Z<;>(intro hc;try simp at hc;try omega)))<;>try simp only [go_sem])|(with_reducible first|apply ag|(refine O _ ?_;clear O U)|refine kN eo fun K hK=>?_|refine kO fun K hK=>?_|refine aI ?_)|apply iB)
    exact hK (⟨g.set 0 u,mk,la⟩,c3) _ ⟨⟨by simp only [cl];omega,by simp only;omega,uS (y:=u) hgs (oN u hu) 0⟩,hC3.mono (by omega)⟩ (ao [] (by simp [lk,ae,aZ,cl]<;>omega))
  by_cases h1:x = 1
  ·subst h1
   repeat' (first|((with_reducible first|(refine hK _ ?_;clear hK K)|refine aj fun U O=>?_|apply ah|(apply Z<;>(intro hc;try simp at hc;try omega)))<;>try simp only [go_sem])|(with_reducible first|apply ag|(refine O _ ?_;clear O U)|refine kN eo fun K hK=>?_|refine kO fun K hK=>?_|refine aI ?_)|apply iB)
   refine bF 7 ax rfl (fun K hK=>?_)
   refine aT 0 rfl rfl rfl (aY rfl (aa _ _ d3) rfl rfl) ?_
   try simp only [go_sem,aA,aB,aC,an,ap,hz,aq,ab,m0,aJ,aH]
   refine aT 2 rfl rfl rfl (aL (.inl rfl)) ?_
   try simp only [go_sem,aA,aB,aC,an,ap,hz,aq,ab,m0,aJ,aH]
   repeat' (first
    |((with_reducible refine O _ ?_);clear O U;try simp only [go_sem,aA,aB,aC,an,ap,hz,aq,ab,m0,aJ,aH])
    |((with_reducible refine bB ?_);first
     |((first|((with_reducible first|refine aS (fuel:=4) [1,3] ?_|refine aS (fuel:=3) [1,4] ?_);refine ⟨⟨_,rfl,fun U O=>?_⟩,⟨_,rfl,fun U O=>?_⟩,trivial⟩)|((with_reducible first|refine aS (fuel:=3) [3] ?_|refine aS (fuel:=2) [4] ?_|refine aS (fuel:=2) [1] ?_|refine aS (fuel:=1) [5] ?_|refine aS (fuel:=0) [6] ?_);refine ⟨⟨_,rfl,fun U O=>?_⟩,trivial⟩))<;>((first|with_reducible refine aX rfl ?_|refine aP rfl ?_);simp only [go_sem,aA,aB,aC,an,ap,hz,aq,ab,m0,aJ,aH]))
     |(refine bk (by decide +kernel) (hK _ ?_);clear hK K;try simp only [go_sem,aA,aB,aC,an,ap,hz,aq,ab,m0,aJ,aH]))
    |((refine CallK.cur (some 0) (bu (l:=[-1,3,4]) hC (by omega) (by simp) (by simp)) rfl rfl rfl rfl rfl rfl ?_);(rintro c3 _ ⟨u,hu,rfl,hC3⟩);(try simp only [a_,go_sem]);(refine O _ ?_);(clear O U);(try simp only [go_sem]))
    |with_reducible refine aI ?_
    |with_reducible refine ba ?_|with_reducible refine bm ?_|with_reducible refine bc ?_)
   all_goals
    skip
   all_goals
    repeat' (first|((with_reducible first|(refine hK _ ?_;clear hK K)|refine aj fun U O=>?_|apply ah|(apply Z<;>(intro hc;try simp at hc;try omega)))<;>try simp only [go_sem])|(with_reducible first|apply ag|(refine O _ ?_;clear O U)|refine kN eo fun K hK=>?_|refine kO fun K hK=>?_|refine aI ?_)|apply iB)
    exact hK (⟨g,mk.set 0 u,la⟩,c3) _ ⟨⟨by simp only;omega,by simp only [cl];omega,hgs⟩,hC3.mono (by omega)⟩ (ao [] (by simp [lk,ae,ab,cl]<;>omega))
  by_cases h2:x = 2
  ·subst h2
   repeat' (first|((with_reducible first|(refine hK _ ?_;clear hK K)|refine aj fun U O=>?_|apply ah|(apply Z<;>(intro hc;try simp at hc;try omega)))<;>try simp only [go_sem,an])|(with_reducible first|apply ag|(refine O _ ?_;clear O U)|refine kN eo fun K hK=>?_|refine kO fun K hK=>?_|refine aI ?_)|apply iB)
   exact hK (⟨g,mk++[0],la⟩,c2) _ ⟨⟨by simp only;omega,by simp;omega,hgs⟩,hC.mono (by omega)⟩ (ao [(4,15)] (by simp [lk,ae,ab]<;>omega))
  by_cases h3:x = 3
  ·subst h3
   repeat' (first|((with_reducible first|(refine hK _ ?_;clear hK K)|refine aj fun U O=>?_|apply ah|(apply Z<;>(intro hc;try simp at hc;try omega)))<;>try simp only [go_sem])|(with_reducible first|apply ag|(refine O _ ?_;clear O U)|refine kN eo fun K hK=>?_|refine kO fun K hK=>?_|refine aI ?_)|apply iB)
   refine CallK.cur (some 0) (be hC (by omega)) rfl rfl rfl rfl rfl rfl ?_;rintro c2 _ ⟨x,hx,rfl,hC⟩;try simp only [a_,go_sem]
   repeat' (first|((with_reducible first|(refine hK _ ?_;clear hK K)|refine aj fun U O=>?_|apply ah|(apply Z<;>(intro hc;try simp at hc;try omega)))<;>try simp only [go_sem])|(with_reducible first|apply ag|(refine O _ ?_;clear O U)|refine kN eo fun K hK=>?_|refine kO fun K hK=>?_|refine aI ?_)|apply iB)
   obtain ⟨n,hn⟩:∃ n:Nat,3 + x = (n:Int):=⟨(3 + x).toNat,by omega⟩
   have hn4:n≤4:=by omega
   rw [hn]
   replace hC:Cur (k + 50) c2:=hC.mono (by omega)
   clear hx hn hy hz g0 m0
   refine aD [38,39,40,41,42,43,44,45,46,47,48,49,50,51,52] (fun q:List ByteArray × List Int=>[(0,.bptr 0 0),(2,.bptr 1 0),(3,.bptr 2 0)]) (fun q=>[(0,.pbox 0 ty (c2.map .d)),(1,.box 143 [.d (.lst 1 []),.d (.lst 1 []),.d (.bool false)]),(2,.box 143 [.row 3 q.1.length,.row 4 q.2.length,.d (.bool la)]),(3,.row 9 1 (q.1.map aZ)),(4,.row 3 1 (q.2.map ab))]) 5 (fun q=>q.1.length≤4∧q.2.length = q.1.length∧∀ s ∈ q.1,s.size≤8) (fun q=>4 - q.1.length) (g,mk) ⟨by simp only;omega,by simp only;omega,hgs⟩ (ao [] (by simp [lk,ae]<;>omega)) ?_
   rintro ⟨p,q⟩ ⟨hp,hq,ci⟩;simp only [bi,wipe,wl,bh,bw,rm,if_true,if_false,Nat.reduceEqDiff,Bool.false_eq_true,reduceCtorEq]
   simp only at hp hq ci
   by_cases hlt:p.length < n
   ·have hlt':(p.length:Int) < (n:Int):=by omega
    repeat' (first|((with_reducible first|(refine hK _ ?_;clear hK K)|refine aj fun U O=>?_|apply ah|(apply Z<;>(intro hc;try simp at hc;try omega)))<;>try simp only [go_sem,hlt',an])|(with_reducible first|apply ag|(refine O _ ?_;clear O U)|refine kN eo fun K hK=>?_|refine kO fun K hK=>?_|refine aI ?_)|apply iB)
    all_goals first
     |(exfalso;omega)
     |exact ⟨(p++[⟨#[49,84]⟩],q++[1]),⟨by simp;omega,by simp;omega,cg ci (by decide)⟩,by simp;omega,(ao [(3,6),(4,8)] (by simp [lk,ae,aZ,ab]<;>omega))⟩
   ·have hlt':¬ (p.length:Int) < (n:Int):=by omega
    repeat' (first|((with_reducible first|(refine hK _ ?_;clear hK K)|refine aj fun U O=>?_|apply ah|(apply Z<;>(intro hc;try simp at hc;try omega)))<;>try simp only [go_sem,hlt',an])|(with_reducible first|apply ag|(refine O _ ?_;clear O U)|refine kN eo fun K hK=>?_|refine kO fun K hK=>?_|refine aI ?_)|apply iB)
    exact hK (⟨p,q,la⟩,c2) _ ⟨⟨hp,by simp only;omega,ci⟩,hC⟩ (ao [] (by simp [lk,ae]<;>omega))
  by_cases h4:x = 4
  ·subst h4
   repeat' (first|with_reducible refine bs (id:=15) ?_|with_reducible refine br (id:=15) ?_|((with_reducible first|(refine hK _ ?_;clear hK K)|refine aj fun U O=>?_|apply ah|(apply Z<;>(intro hc;try simp at hc;try omega)))<;>try simp only [go_sem])|(with_reducible first|apply ag|(refine O _ ?_;clear O U)|refine kN eo fun K hK=>?_|refine kO fun K hK=>?_|refine aI ?_)|apply iB)
   unfold eF
   refine ck ?_
   refine dJ 9 1 3 1 rfl (aa _ _ d3) rfl ?_
   simp only [go_sem,ge,fC]
   refine a9 aa ?_
   simp only [go_sem,PL]
   repeat' (first|((with_reducible first|(refine hK _ ?_;clear hK K)|refine aj fun U O=>?_|apply ah|(apply Z<;>(intro hc;try simp at hc;try omega)))<;>try simp only [go_sem])|(with_reducible first|apply ag|(refine O _ ?_;clear O U)|refine kN eo fun K hK=>?_|refine kO fun K hK=>?_|refine aI ?_)|apply iB)
   exact hK (⟨[],[],false⟩,c2) _ ⟨⟨by simp,by simp,by simp⟩,hC.mono (by omega)⟩ (ao [(3,14),(4,15)] (by simp [lk,ae]<;>omega))
  repeat' (first|((with_reducible first|(refine hK _ ?_;clear hK K)|refine aj fun U O=>?_|apply ah|(apply Z<;>(intro hc;try simp at hc;try omega)))<;>try simp only [go_sem,h0,h1,h2,h3,h4])|(with_reducible first|apply ag|(refine O _ ?_;clear O U)|refine kN eo fun K hK=>?_|refine kO fun K hK=>?_|refine aI ?_)|apply iB)
  exact hK (⟨g,mk,la⟩,c2) _ ⟨⟨by simp only;omega,by simp only;omega,hgs⟩,hC.mono (by omega)⟩ (ao [] (by simp [lk,ae]<;>omega))
 ·rintro ⟨⟨g,mk,la⟩,c0⟩ ⟨hai,hC0⟩
  dsimp only
  repeat' (first|((with_reducible first|(refine hK _ ?_;clear hK K)|refine aj fun U O=>?_|apply ah|(apply Z<;>(intro hc;try simp at hc;try omega)))<;>try simp only [go_sem])|(with_reducible first|apply ag|(refine O _ ?_;clear O U)|refine kN eo fun K hK=>?_|refine kO fun K hK=>?_|refine aI ?_)|apply iB)
  refine cE (id:=0) (xs:=[.row _ _,.row _ _,.d (.bool la)]) _ rfl (by simp only [bl,bn,ae,lk,an,if_true,if_false,Nat.reduceEqDiff,Nat.reduceBEq,Bool.false_eq_true,Option.some.injEq]<;>rfl) (by simp [am,lk]) rfl (Cur.len (by assumption)) ⟨⟨g,mk,la⟩,hai,rfl,Cur.mono (by assumption) (by omega)⟩
end Go.Proofs.YtphakidbddamfaaGreat
set_option linter.unusedSimpArgs false
set_option linter.unusedVariables false
set_option maxHeartbeats 2000000
set_option maxRecDepth 100000
namespace Go.Proofs.YtphakidbddamfaaGreat
open Go.RowKit
def sW (l:List ItemD):Prop:=l.length≤16∧∀ x ∈ l,aiB x
theorem lC {k:Nat} {cs:List D} (hC:Cur k cs) (hk:k≤900000000):FnC Tryz.prog 135 3 [] cs (dn (k + 500) sW fun l=>[.deep 143 3 (l.map ItemD.dat)]):=by
 refine co aa Tryz.func135 rfl rfl hC.len fun ty=>?_;simp only [Tryz.ntmps135,aR,aM,Nat.reduceAdd,Nat.reduceSub,aJ,aH,an,aW]
 repeat' (first|((with_reducible first|(refine hK _ ?_;clear hK K)|refine aj fun U O=>?_|apply ah|(apply Z<;>(intro hc;try simp at hc;try omega)))<;>try simp only [go_sem])|(with_reducible first|apply ag|(refine O _ ?_;clear O U)|refine kN d9 fun K hK=>?_|refine kO fun K hK=>?_|refine aI ?_)|(refine xS rfl fun U O=>?_;simp only [go_sem])|((first|refine CallK.cur (some 0) (be hC (by omega)) rfl rfl rfl rfl rfl rfl ?_);rintro c2 _ ⟨x,hx,rfl,hC⟩;try simp only [a_,go_sem])|((first|refine CallK.cur (some 0) (be hC (by omega)) rfl rfl rfl rfl rfl rfl ?_);rintro c2 _ ⟨x,hx,rfl,hC⟩;try simp only [a_,go_sem])|apply iB)
 obtain ⟨n,rfl⟩:∃ n:Nat,x = (n:Int):=⟨x.toNat,by omega⟩
 have hn:n≤6:=by omega
 replace hC:Cur (k + 2) c2:=hC
 refine dP 2 rfl (by intro e he;cases he) ?_
 simp only [go_sem]
 refine aD [2,3,4,5,9,10,11,12,13,14,15,16,17,18,19,20,21,22,23,24] (fun q:Nat × List ItemD × List D=>[(0,.bptr 0 0),(4,.d (.int .i64 (q.1:Int))),(3,.row 1 q.2.1.length)]) (fun q=>[(0,.pbox 0 ty (q.2.2.map .d)),(1,.deep 0 143 3 (q.2.1.map ItemD.dat))]) 2 (fun q=>(q.1≤6∧q.1 + q.2.1.length≤6)∧Cur (k + 2 + 62 * (6 - q.1)) q.2.2∧∀ x ∈ q.2.1,aiB x) (fun q=>q.1) (n,[],c2) ⟨by simp;omega,hC.mono (by simp),by simp⟩ (ao [] (by simp [lk,ae]<;>omega)) ?_
 rintro ⟨j,l,c0⟩ ⟨⟨hj6,hj⟩,hC0,hl⟩;simp only [bi,wipe,wl,bh,bw,rm,if_true,if_false,Nat.reduceEqDiff,Bool.false_eq_true,reduceCtorEq]
 simp only at hj6 hj hC0 hl
 by_cases hj0:0 < j
 ·obtain ⟨i,rfl⟩:∃ i,j = i + 1:=⟨j - 1,by omega⟩
  have hj':(0:Int) < ((i + 1:Nat):Int):=by omega
  repeat' (first|((with_reducible first|(refine hK _ ?_;clear hK K)|refine aj fun U O=>?_|apply ah|(apply Z<;>(intro hc;try simp at hc;try omega)))<;>try simp only [go_sem,hj'])|(with_reducible first|apply ag|(refine O _ ?_;clear O U)|refine kN d9 fun K hK=>?_|refine kO fun K hK=>?_|refine aI ?_)|(refine xS rfl fun U O=>?_;simp only [go_sem,hj'])|apply iB)
  all_goals first
   |(exfalso;omega)
   |skip
  refine CallK.curA (some 0) (sf hC0 (by omega)) rfl rfl rfl rfl rfl rfl ?_
  rintro c2 _ ⟨it,hit,rfl,hC⟩
  try simp only [a_,go_sem]
  have hg:=ki it ((aiB.fit hit).mono (by decide))
  generalize bP (ItOk it) = b at hg
  have h63:Cur (k + 2 + 62 * (6 - i)) c2:=hC.mono (by omega)
  cases b
  ·repeat' (first|((with_reducible first|(refine hK _ ?_;clear hK K)|refine aj fun U O=>?_|apply ah|(apply Z<;>(intro hc;try simp at hc;try omega)))<;>try simp only [go_sem])|(with_reducible first|apply ag|(refine O _ ?_;clear O U)|refine kN d9 fun K hK=>?_|refine kO fun K hK=>?_|refine aI ?_)|(refine xS rfl fun U O=>?_;simp only [go_sem])|((with_reducible apply CallK.eq);(· with_reducible first|exact hg);(· simp [RV.flat,D.sc,ab]);try simp only [go_sem])|apply iB)
   refine CallK.cur (some 0) (bI hC (by omega)) rfl rfl rfl rfl rfl rfl ?_;rintro c2 _ ⟨x,hx,rfl,hC⟩;try simp only [a_,go_sem]
   have h64:Cur (k + 2 + 62 * (6 - i)) c2:=hC.mono (by omega)
   cases x
   ·repeat' (first|((with_reducible first|(refine hK _ ?_;clear hK K)|refine aj fun U O=>?_|apply ah|(apply Z<;>(intro hc;try simp at hc;try omega)))<;>try simp only [go_sem])|(with_reducible first|apply ag|(refine O _ ?_;clear O U)|refine kN d9 fun K hK=>?_|refine kO fun K hK=>?_|refine aI ?_)|(refine xS rfl fun U O=>?_;simp only [go_sem])|apply iB)
    exact ⟨(i,l,c2),⟨by simp only;omega,h64,hl⟩,by simp only;omega,(ao [] (by simp [lk,ae]<;>omega))⟩
   ·repeat' (first|((with_reducible first|(refine hK _ ?_;clear hK K)|refine aj fun U O=>?_|apply ah|(apply Z<;>(intro hc;try simp at hc;try omega)))<;>try simp only [go_sem])|(with_reducible first|apply ag|(refine O _ ?_;clear O U)|refine kN d9 fun K hK=>?_|refine kO fun K hK=>?_|refine aI ?_)|(refine xS rfl fun U O=>?_;simp only [go_sem])|apply iB)
    refine bA (cs:=[.row 2 it.names.length,.row 3 it.marks.length,.d (.bool it.late)]) (ds:=it.dat) rfl (aa _ _ fk) (by decide) rfl (by simp [dE,dL,ae,D.scB,ItemD.dat]) (by simp [bb]) (by simp only [cY,cy,ae,if_true,if_false,Nat.reduceEqDiff];exact ⟨cP _,bT _,trivial,trivial⟩) ?_
    repeat' (first|((with_reducible first|(refine hK _ ?_;clear hK K)|refine aj fun U O=>?_|apply ah|(apply Z<;>(intro hc;try simp at hc;try omega)))<;>try simp only [go_sem])|(with_reducible first|apply ag|(refine O _ ?_;clear O U)|refine kN d9 fun K hK=>?_|refine kO fun K hK=>?_|refine aI ?_)|(refine xS rfl fun U O=>?_;simp only [go_sem])|apply iB)
    refine bM (es:=l.map ItemD.dat) (fs:=[it.dat]) (n:=l.length) (n2:=1) rfl (aa _ _ fk) rfl rfl rfl rfl (by decide) (by simp) rfl (by exact True.intro) (by exact True.intro) (by simp<;>omega) ?_
    repeat' (first|((with_reducible first|(refine hK _ ?_;clear hK K)|refine aj fun U O=>?_|apply ah|(apply Z<;>(intro hc;try simp at hc;try omega)))<;>try simp only [go_sem])|(with_reducible first|apply ag|(refine O _ ?_;clear O U)|refine kN d9 fun K hK=>?_|refine kO fun K hK=>?_|refine aI ?_)|(refine xS rfl fun U O=>?_;simp only [go_sem])|apply iB)
    exact ⟨(i,l++[it],c2),⟨by simp;omega,h64,cg hl hit⟩,by simp only;omega,(ao [] (by simp [lk,ae]<;>omega))⟩
  ·repeat' (first|((with_reducible first|(refine hK _ ?_;clear hK K)|refine aj fun U O=>?_|apply ah|(apply Z<;>(intro hc;try simp at hc;try omega)))<;>try simp only [go_sem])|(with_reducible first|apply ag|(refine O _ ?_;clear O U)|refine kN d9 fun K hK=>?_|refine kO fun K hK=>?_|refine aI ?_)|(refine xS rfl fun U O=>?_;simp only [go_sem])|((with_reducible apply CallK.eq);(· with_reducible first|exact hg);(· simp [RV.flat,D.sc,ab]);try simp only [go_sem])|apply iB)
   have h64:=h63
   refine bA (cs:=[.row 2 it.names.length,.row 3 it.marks.length,.d (.bool it.late)]) (ds:=it.dat) rfl (aa _ _ fk) (by decide) rfl (by simp [dE,dL,ae,D.scB,ItemD.dat]) (by simp [bb]) (by simp only [cY,cy,ae,if_true,if_false,Nat.reduceEqDiff];exact ⟨cP _,bT _,trivial,trivial⟩) ?_
   repeat' (first|((with_reducible first|(refine hK _ ?_;clear hK K)|refine aj fun U O=>?_|apply ah|(apply Z<;>(intro hc;try simp at hc;try omega)))<;>try simp only [go_sem])|(with_reducible first|apply ag|(refine O _ ?_;clear O U)|refine kN d9 fun K hK=>?_|refine kO fun K hK=>?_|refine aI ?_)|(refine xS rfl fun U O=>?_;simp only [go_sem])|apply iB)
   refine bM (es:=l.map ItemD.dat) (fs:=[it.dat]) (n:=l.length) (n2:=1) rfl (aa _ _ fk) rfl rfl rfl rfl (by decide) (by simp) rfl (by exact True.intro) (by exact True.intro) (by simp<;>omega) ?_
   repeat' (first|((with_reducible first|(refine hK _ ?_;clear hK K)|refine aj fun U O=>?_|apply ah|(apply Z<;>(intro hc;try simp at hc;try omega)))<;>try simp only [go_sem])|(with_reducible first|apply ag|(refine O _ ?_;clear O U)|refine kN d9 fun K hK=>?_|refine kO fun K hK=>?_|refine aI ?_)|(refine xS rfl fun U O=>?_;simp only [go_sem])|apply iB)
   exact ⟨(i,l++[it],c2),⟨by simp;omega,h64,cg hl hit⟩,by simp only;omega,(ao [] (by simp [lk,ae]<;>omega))⟩
 ·obtain rfl:j = 0:=by omega
  have hj':¬ (0:Int) < ((0:Nat):Int):=by omega
  replace hC0:Cur (k + 374) c0:=hC0
  have hl6:l.length≤6:=by omega
  repeat' (first|((with_reducible first|(refine hK _ ?_;clear hK K)|refine aj fun U O=>?_|apply ah|(apply Z<;>(intro hc;try simp at hc;try omega)))<;>try simp only [go_sem,hj'])|(with_reducible first|apply ag|(refine O _ ?_;clear O U)|refine kN d9 fun K hK=>?_|refine kO fun K hK=>?_|refine aI ?_)|(refine xS rfl fun U O=>?_;simp only [go_sem,hj'])|apply iB)
  all_goals first
   |(exfalso;omega)
   |skip
  refine CallK.cur (some 0) (bI hC0 (by omega)) rfl rfl rfl rfl rfl rfl ?_;rintro c2 _ ⟨x,hx,rfl,hC⟩;try simp only [a_,go_sem]
  cases x
  ·repeat' (first|((with_reducible first|(refine hK _ ?_;clear hK K)|refine aj fun U O=>?_|apply ah|(apply Z<;>(intro hc;try simp at hc;try omega)))<;>try simp only [go_sem])|(with_reducible first|apply ag|(refine O _ ?_;clear O U)|refine kN d9 fun K hK=>?_|refine kO fun K hK=>?_|refine aI ?_)|(refine xS rfl fun U O=>?_;simp only [go_sem])|apply iB)
   refine bQ (id:=0) (xs:=[.row _ _]) _ rfl (by simp only [bl,bn,ae,lk,an,if_true,if_false,Nat.reduceEqDiff,Nat.reduceBEq,Bool.false_eq_true,Option.some.injEq]<;>rfl) (by simp [am]) rfl (Cur.len (by assumption)) ⟨l,⟨by omega,hl⟩,rfl,Cur.mono (by assumption) (by omega)⟩
  ·repeat' (first|((with_reducible first|(refine hK _ ?_;clear hK K)|refine aj fun U O=>?_|apply ah|(apply Z<;>(intro hc;try simp at hc;try omega)))<;>try simp only [go_sem])|(with_reducible first|apply ag|(refine O _ ?_;clear O U)|refine kN d9 fun K hK=>?_|refine kO fun K hK=>?_|refine aI ?_)|(refine xS rfl fun U O=>?_;simp only [go_sem])|((first|refine CallK.cur (some 0) (be hC (by omega)) rfl rfl rfl rfl rfl rfl ?_);rintro c2 _ ⟨x,hx,rfl,hC⟩;try simp only [a_,go_sem])|((first|refine CallK.cur (some 0) (be hC (by omega)) rfl rfl rfl rfl rfl rfl ?_);rintro c2 _ ⟨x,hx,rfl,hC⟩;try simp only [a_,go_sem])|apply iB)
   obtain ⟨n,hn⟩:∃ n:Nat,14 + x = (n:Int):=⟨(14 + x).toNat,by omega⟩
   have hn15:n≤15:=by omega
   rw [hn]
   replace hC:Cur (k + 378) c2:=hC
   clear hx hn hC0
   refine aD [2,3,30,31,32,33,34,35,36,37,38,39] (fun q:List ItemD=>[(0,.bptr 0 0),(3,.row 1 q.length)]) (fun q=>[(0,.pbox 0 ty (c2.map .d)),(1,.deep 0 143 3 (q.map ItemD.dat))]) 2 (fun q=>q.length≤15∧∀ x ∈ q,aiB x) (fun q=>15 - q.length) l ⟨by omega,hl⟩ (ao [] (by simp [lk,ae]<;>omega)) ?_
   clear hj hl hl6
   rintro l ⟨hl15,hl⟩;simp only [bi,wipe,wl,bh,bw,rm,if_true,if_false,Nat.reduceEqDiff,Bool.false_eq_true,reduceCtorEq]
   by_cases hlt:l.length < n
   ·have hlt':(l.length:Int) < (n:Int):=by omega
    repeat' (first|((with_reducible first|(refine hK _ ?_;clear hK K)|refine aj fun U O=>?_|apply ah|(apply Z<;>(intro hc;try simp at hc;try omega)))<;>try simp only [go_sem,hlt',an])|(with_reducible first|apply ag|(refine O _ ?_;clear O U)|refine kN d9 fun K hK=>?_|refine kO fun K hK=>?_|refine aI ?_)|(refine xS rfl fun U O=>?_;simp only [go_sem,hlt',an])|apply iB)
    all_goals first
     |(exfalso;omega)
     |skip
    have hib:aiB ⟨[⟨#[49,84]⟩],[0],false⟩:=⟨by simp,by simp,fun s hs=>by rw [List.mem_singleton.1 hs];decide⟩
    refine bA (cs:=[.row 2 1,.row 3 1,.d (.bool false)]) (ds:=ItemD.dat ⟨[⟨#[49,84]⟩],[0],false⟩) rfl (aa _ _ fk) (by decide) rfl (by simp [dE,dL,ae,D.scB,ItemD.dat,aZ,ab]) (by simp [bb]) (by simp only [cY,cy,ae,if_true,if_false,Nat.reduceEqDiff];exact ⟨cP [⟨#[49,84]⟩],bT [0],trivial,trivial⟩) ?_
    repeat' (first|((with_reducible first|(refine hK _ ?_;clear hK K)|refine aj fun U O=>?_|apply ah|(apply Z<;>(intro hc;try simp at hc;try omega)))<;>try simp only [go_sem])|(with_reducible first|apply ag|(refine O _ ?_;clear O U)|refine kN d9 fun K hK=>?_|refine kO fun K hK=>?_|refine aI ?_)|(refine xS rfl fun U O=>?_;simp only [go_sem])|apply iB)
    refine bM (es:=l.map ItemD.dat) (fs:=[ItemD.dat ⟨[⟨#[49,84]⟩],[0],false⟩]) (n:=l.length) (n2:=1) rfl (aa _ _ fk) rfl rfl rfl rfl (by decide) (by simp) rfl (by exact True.intro) (by exact True.intro) (by simp<;>omega) ?_
    repeat' (first|((with_reducible first|(refine hK _ ?_;clear hK K)|refine aj fun U O=>?_|apply ah|(apply Z<;>(intro hc;try simp at hc;try omega)))<;>try simp only [go_sem])|(with_reducible first|apply ag|(refine O _ ?_;clear O U)|refine kN d9 fun K hK=>?_|refine kO fun K hK=>?_|refine aI ?_)|(refine xS rfl fun U O=>?_;simp only [go_sem])|apply iB)
    exact ⟨l++[⟨[⟨#[49,84]⟩],[0],false⟩],⟨by simp;omega,cg hl hib⟩,by simp;omega,(ao [] (by simp [lk,ae]<;>omega))⟩
   ·have hlt':¬ (l.length:Int) < (n:Int):=by omega
    repeat' (first|((with_reducible first|(refine hK _ ?_;clear hK K)|refine aj fun U O=>?_|apply ah|(apply Z<;>(intro hc;try simp at hc;try omega)))<;>try simp only [go_sem,hlt',an])|(with_reducible first|apply ag|(refine O _ ?_;clear O U)|refine kN d9 fun K hK=>?_|refine kO fun K hK=>?_|refine aI ?_)|(refine xS rfl fun U O=>?_;simp only [go_sem,hlt',an])|apply iB)
    refine bQ (id:=0) (xs:=[.row _ _]) _ rfl (by simp only [bl,bn,ae,lk,an,if_true,if_false,Nat.reduceEqDiff,Nat.reduceBEq,Bool.false_eq_true,Option.some.injEq]<;>rfl) (by simp [am]) rfl (Cur.len (by assumption)) ⟨l,⟨by omega,hl⟩,rfl,Cur.mono (by assumption) (by omega)⟩
end Go.Proofs.YtphakidbddamfaaGreat
