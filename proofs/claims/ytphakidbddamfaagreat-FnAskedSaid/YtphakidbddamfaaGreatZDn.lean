/-
  Drawn performances: a programme with marks.
-/
import Derived.Test.YtphakidbddamfaaGreatZDm
import Derived.Test.YtphakidbddamfaaGreatZDl
import Derived.Test.YtphakidbddamfaaGreatZMdp
set_option linter.unusedSimpArgs false
set_option linter.unusedVariables false
set_option maxHeartbeats 2000000
set_option maxRecDepth 100000
namespace Go.Proofs.YtphakidbddamfaaGreat
open Go.RowKit
theorem oz {k:Nat} {cs:List D} (hC:Cur k cs) (hk:k≤1000000000):FnC Tryz.prog 173 3 [] cs (dn (k + 900) yy fun q=>[.d (.lst 4 (q.1.elements.map ElementD.dat)),.d (.lst 1 (q.1.limits.map ab)),.d (.int .i64 q.1.repeats),.d (.int .i64 q.1.bonus),.d (.int .i64 q.1.keeps),.d (.int .i64 q.1.fall),.deep 143 3 (q.2.map ItemD.dat)]) (.grp [some 6,none]):=
 (j8 hC hk).dataP (fun i=>i < 6) fun cs' rs ⟨q,h1,h2,h3⟩=>⟨q,h1,by rw [h2];rfl,h3⟩
theorem uz {k:Nat} {cs:List D} {n:Nat} (hC:Cur k cs) (hk:k≤1000000000) (hn:n≤16):FnC Tryz.prog 176 3 [.int .i64 (n:Int)] cs (dn (k + 500) (mkB2 n) fun m=>[.d (.lst 1 (m.grades.map (aF 1 ab))),.d (.lst 1 (m.components.map (aF 1 ab)))]) .agg:=
 (p9 hC hk hn).dataP (fun _=>true) fun cs' rs ⟨q,h1,h2,h3⟩=>⟨q,h1,by rw [h2];rfl,h3⟩
theorem mkB2.a {n:Nat} {m:MarksD} (h:mkB2 n m) (hn:n≤16):uD m:=by
 obtain ⟨j,h3,h9,⟨h1,h2⟩,h4,h5⟩:=h
 exact ⟨⟨by omega,fun x hx=>by rw [h2 x hx];omega⟩,⟨by omega,fun x hx=>by rw [h5 x hx];omega⟩⟩
theorem xU {l:List ItemD} {a b:Nat} {e:ItemD} {m0 u:Int} (he:l[a]? = some e) (hm:e.marks[b]? = some m0):ce (l.map ItemD.dat) a 1 (.lst 1 ((e.marks.map ab).set b (bx (ab m0) 0 [.int .i64 u]))) = (l.set a ⟨e.names,e.marks.set b u,e.late⟩).map ItemD.dat:=by
 simp only [ce,ap,he,aq]
 rw [List.map_set]
 simp [ItemD.dat,List.map_set,bx,ab]
def yC (q:CodeD × List ItemD × MarksD):Prop:=acB q.1∧q.2.1.length≤15∧(∀ x ∈ q.2.1,aiB x)∧uD q.2.2
theorem oH {k:Nat} {cs:List D} (hC:Cur k cs) (hk:k≤700000000):FnC Tryz.prog 138 3 [] cs (dn (k + 5000) yC fun q=>[.agg q.1.dat,.d (.lst 3 (q.2.1.map ItemD.dat)),.agg [.lst 1 (q.2.2.grades.map (aF 1 ab)),.lst 1 (q.2.2.components.map (aF 1 ab))]]):=by
 refine co aa Tryz.func138 rfl rfl hC.len fun ty=>?_;simp only [Tryz.ntmps138,aR,aM,Nat.reduceAdd,Nat.reduceSub,aJ,aH,an,aW]
 repeat' (first|((with_reducible first|(refine hK _ ?_;clear hK K)|refine aj fun U O=>?_|apply ah|(apply Z<;>(intro hc;try simp at hc;try omega)))<;>try simp only [go_sem])|(with_reducible first|apply ag|(refine O _ ?_;clear O U)|refine kN dl fun K hK=>?_|refine kO fun K hK=>?_|refine aI ?_)|(refine xS rfl fun U O=>?_;simp only [go_sem])|apply iB)
 refine CallK.curG (some 0) (oz hC (by omega)) rfl rfl rfl rfl rfl rfl ?_
 rintro c3 _ ⟨q,hq,rfl,hC⟩
 try simp only [a_,go_sem]
 simp only [gP,dG,List.take_succ_cons,List.take_zero,List.drop_succ_cons,List.drop_zero]
 obtain ⟨⟨es,L,re,bo,ke,fa⟩,l⟩:=q
 obtain ⟨⟨e1,e24,es8,hL5⟩,hl9,hl⟩:=hq
 simp only at e1 e24 es8 hL5 hl9 hl
 have hla:∀ x ∈ l,aiB x:=fun x hx=>(hl x hx).ai
 repeat' (first|with_reducible refine bs (id:=2) ?_|with_reducible refine br (id:=2) ?_|((with_reducible first|(refine hK _ ?_;clear hK K)|refine aj fun U O=>?_|apply ah|(apply Z<;>(intro hc;try simp at hc;try omega)))<;>try simp only [go_sem])|(with_reducible first|apply ag|(refine O _ ?_;clear O U)|refine kN dl fun K hK=>?_|refine kO fun K hK=>?_|refine aI ?_)|(refine xS rfl fun U O=>?_;simp only [go_sem])|apply iB)
 have hpc:acB ⟨es,L,re,bo,ke,fa⟩:=⟨by simp only;omega,es8,by simp only;omega⟩
 refine ec (fun q:CodeD × List ItemD × List D=>⟨⟨82,[(0,.bptr 0 0),(2,.bptr 1 0),(4,.bptr 2 0),(5,.bptr 3 0),(6,.row 4 q.2.1.length)]⟩,[(0,.pbox 0 ty (q.2.2.map .d)),(1,.box 42 [.d (.lst 4 []),.d (.lst 1 []),.d (.int .i64 0),.d (.int .i64 0),.d (.int .i64 0),.d (.int .i64 0)]),(2,.box 45 [.d (.lst 1 []),.d (.lst 1 [])]),(3,.box 42 (q.1.dat.map .d)),(4,.deep 0 143 3 (q.2.1.map ItemD.dat))],5⟩) (fun q=>we (q.1,q.2.1)∧Cur (k + 2502) q.2.2) ?_ ?_
 ·intro K hK
  repeat' (first|((with_reducible first|(refine hK _ ?_;clear hK K)|refine aj fun U O=>?_|apply ah|(apply Z<;>(intro hc;try simp at hc;try omega)))<;>try simp only [go_sem])|(with_reducible first|apply ag|(refine O _ ?_;clear O U)|refine kN dl fun K hK=>?_|refine kO fun K hK=>?_|refine aI ?_)|(refine xS rfl fun U O=>?_;simp only [go_sem])|((first|refine CallK.cur (some 0) (bI hC (by omega)) rfl rfl rfl rfl rfl rfl ?_);rintro c2 _ ⟨x,hx,rfl,hC⟩;try simp only [a_,go_sem])|((first|refine CallK.cur (some 0) (bI hC (by omega)) rfl rfl rfl rfl rfl rfl ?_);rintro c2 _ ⟨x,hx,rfl,hC⟩;try simp only [a_,go_sem])|apply iB)
  ·refine CallK.cur (some 0) (mX hC (by omega)) rfl rfl rfl rfl rfl rfl ?_
   rintro c4 _ ⟨⟨⟨es,L,re,bo,ke,fa⟩,l⟩,hq,rfl,hC⟩
   try simp only [a_,go_sem]
   repeat' (first|((with_reducible first|(refine hK _ ?_;clear hK K)|refine aj fun U O=>?_|apply ah|(apply Z<;>(intro hc;try simp at hc;try omega)))<;>try simp only [go_sem,CodeD.dat,aJ,aH])|(with_reducible first|apply ag|(refine O _ ?_;clear O U)|refine kN dl fun K hK=>?_|refine kO fun K hK=>?_|refine aI ?_)|(refine xS rfl fun U O=>?_;simp only [go_sem,CodeD.dat,aJ,aH])|apply iB)
   exact hK (⟨es,L,re,bo,ke,fa⟩,l,c4) _ ⟨hq,hC.mono (by omega)⟩ (ao [] (by simp [lk,ae,CodeD.dat]<;>omega))
  ·exact hK (⟨es,L,re,bo,ke,fa⟩,l,c2) _ ⟨⟨hpc,by simp only;omega,hla⟩,hC.mono (by omega)⟩ (ao [] (by simp [lk,ae,CodeD.dat]<;>omega))
 clear hC hl9 hl hla hpc e1 e24 es8 hL5
 rintro ⟨c,l,c0⟩ ⟨⟨hpc,hl18,hl⟩,hC⟩
 simp only at hpc hl18 hl hC
 dsimp only
 obtain ⟨cc,hcc⟩:∃ cc,c.dat = cc:=⟨_,rfl⟩
 repeat' (first|((with_reducible first|(refine hK _ ?_;clear hK K)|refine aj fun U O=>?_|apply ah|(apply Z<;>(intro hc;try simp at hc;try omega)))<;>try simp only [go_sem])|(with_reducible first|apply ag|(refine O _ ?_;clear O U)|refine kN dl fun K hK=>?_|refine kO fun K hK=>?_|refine aI ?_)|(refine xS rfl fun U O=>?_;simp only [go_sem])|apply iB)
 refine aD [3,7,8,25,26,27,28,29,30,31,32,33,34,35,36,37,38,39,40,41,42,43,44,45,46,47,48,49] (fun q:Nat × List ItemD × List D=>[(0,.bptr 0 0),(2,.bptr 1 0),(4,.bptr 2 0),(5,.bptr 3 0),(6,.row 4 q.2.1.length),(24,.d (.int .i64 (l.length:Int))),(25,.d (.int .i64 (q.1:Int)))]) (fun q=>[(0,.pbox 0 ty (q.2.2.map .d)),(1,.box 42 [.d (.lst 4 []),.d (.lst 1 []),.d (.int .i64 0),.d (.int .i64 0),.d (.int .i64 0),.d (.int .i64 0)]),(2,.box 45 [.d (.lst 1 []),.d (.lst 1 [])]),(3,.box 42 (c.dat.map .d)),(4,.deep 0 143 3 (q.2.1.map ItemD.dat))]) 5 (fun q=>q.1≤l.length∧q.2.1.length = l.length∧(∀ x ∈ q.2.1,aiB x)∧Cur (k + 2502 + 20 * q.1) q.2.2) (fun q=>l.length - q.1) (0,l,c0) ⟨Nat.zero_le _,rfl,hl,hC⟩ (ao [] (by simp [lk,ae]<;>omega)) ?_
 rintro ⟨i,M,c1⟩ ⟨hi,hM,hMl,hC1⟩;simp only [bi,wipe,wl,bh,bw,rm,if_true,if_false,Nat.reduceEqDiff,Bool.false_eq_true,reduceCtorEq]
 simp only at hi hM hMl hC1
 by_cases hlt:i < l.length
 ·obtain ⟨e,he⟩:∃ e,M[i]? = some e:=⟨_,List.getElem?_eq_getElem (by omega)⟩
  have hiM:i < M.length:=by omega
  obtain ⟨en,em,es8⟩:=hMl e (List.mem_of_getElem? he)
  repeat' (first|((with_reducible first|(refine hK _ ?_;clear hK K)|refine aj fun U O=>?_|apply ah|(apply Z<;>(intro hc;try simp at hc;try omega)))<;>try simp only [go_sem,hlt,hiM,an,ap,he,aq,ItemD.dat])|(with_reducible first|apply ag|(refine O _ ?_;clear O U)|refine kN dl fun K hK=>?_|refine kO fun K hK=>?_|refine aI ?_)|(refine xS rfl fun U O=>?_;simp only [go_sem,hlt,hiM,an,ap,he,aq,ItemD.dat])|apply iB)
  refine aD [3,8,34,35,36,37,38,39,40,41,42,43,44,45,46,47,48] (fun q:Nat × List ItemD × List D=>[(0,.bptr 0 0),(2,.bptr 1 0),(4,.bptr 2 0),(5,.bptr 3 0),(6,.row 4 q.2.1.length),(24,.d (.int .i64 (l.length:Int))),(25,.d (.int .i64 (i:Int))),(7,.d (.int .i64 (i:Int))),(33,.d (.int .i64 (e.marks.length:Int))),(34,.d (.int .i64 (q.1:Int)))]) (fun q=>[(0,.pbox 0 ty (q.2.2.map .d)),(1,.box 42 [.d (.lst 4 []),.d (.lst 1 []),.d (.int .i64 0),.d (.int .i64 0),.d (.int .i64 0),.d (.int .i64 0)]),(2,.box 45 [.d (.lst 1 []),.d (.lst 1 [])]),(3,.box 42 (c.dat.map .d)),(4,.deep 0 143 3 (q.2.1.map ItemD.dat))]) 5 (fun q=>q.1≤e.marks.length∧(q.2.1.length = l.length∧(∀ x ∈ q.2.1,aiB x)∧∃ y,q.2.1[i]? = some y∧y.marks.length = e.marks.length)∧Cur (k + 2502 + 20 * i + 4 * q.1) q.2.2) (fun q=>e.marks.length - q.1) (0,M,c1) ⟨Nat.zero_le _,⟨hM,hMl,e,he,rfl⟩,hC1⟩ (ao [] (by simp [lk,ae]<;>omega)) ?_
  rintro ⟨j,N,c4⟩ ⟨hj,⟨hN,hNl,y,hy,hyl⟩,hC4⟩;simp only [bi,wipe,wl,bh,bw,rm,if_true,if_false,Nat.reduceEqDiff,Bool.false_eq_true,reduceCtorEq]
  simp only at hj hN hNl hy hC4
  by_cases hlt2:j < e.marks.length
  ·obtain ⟨v,hv⟩:∃ v,y.marks[j]? = some v:=⟨_,List.getElem?_eq_getElem (by omega)⟩
   have hjy:j < y.marks.length:=by omega
   have hiN:i < N.length:=by omega
   obtain ⟨yn,ym,ys8⟩:=hNl y (List.mem_of_getElem? hy)
   repeat' (first|((with_reducible first|(refine hK _ ?_;clear hK K)|refine aj fun U O=>?_|apply ah|(apply Z<;>(intro hc;try simp at hc;try omega)))<;>try simp only [go_sem,hlt2])|(with_reducible first|apply ag|(refine O _ ?_;clear O U)|refine kN dl fun K hK=>?_|refine kO fun K hK=>?_|refine aI ?_)|(refine xS rfl fun U O=>?_;simp only [go_sem,hlt2])|((first|refine CallK.cur (some 0) (bI hC4 (by omega)) rfl rfl rfl rfl rfl rfl ?_);rintro c2 _ ⟨x,hx,rfl,hC⟩;try simp only [a_,go_sem,hlt2])|((first|refine CallK.cur (some 0) (bI hC4 (by omega)) rfl rfl rfl rfl rfl rfl ?_);rintro c2 _ ⟨x,hx,rfl,hC⟩;try simp only [a_,go_sem,hlt2])|apply iB)
   all_goals first
    |(exfalso;omega)
    |skip
   ·skip
    refine bF 10 ax rfl (fun K hK=>?_)
    refine aT 0 rfl rfl rfl (aL (.inl rfl)) ?_
    try simp only [go_sem,aA,aB,aC,an,ap,aq,ItemD.dat,hy,hiN,hjy,aJ,aH]
    refine aT 1 rfl rfl rfl (aL (.inl rfl)) ?_
    try simp only [go_sem,aA,aB,aC,an,ap,aq,ItemD.dat,hy,hiN,hjy,aJ,aH]
    refine aT 5 rfl rfl rfl (aL (.inl rfl)) ?_
    try simp only [go_sem,aA,aB,aC,an,ap,aq,ItemD.dat,hy,hiN,hjy,aJ,aH]
    refine aT 6 rfl rfl rfl (aL (.inl rfl)) ?_
    try simp only [go_sem,aA,aB,aC,an,ap,aq,ItemD.dat,hy,hiN,hjy,aJ,aH]
    repeat' (first
     |((with_reducible refine O _ ?_);clear O U;try simp only [go_sem,aA,aB,aC,an,ap,aq,ItemD.dat,hy,hiN,hjy,aJ,aH])
     |((with_reducible refine bB ?_);first
      |((first|((with_reducible first|refine aS (fuel:=5) [2,7] ?_|refine aS (fuel:=4) [3,7] ?_|refine aS (fuel:=3) [4,7] ?_);refine ⟨⟨_,rfl,fun U O=>?_⟩,⟨_,rfl,fun U O=>?_⟩,trivial⟩)|((with_reducible first|refine aS (fuel:=4) [2] ?_|refine aS (fuel:=3) [3] ?_|refine aS (fuel:=2) [7] ?_|refine aS (fuel:=2) [4] ?_|refine aS (fuel:=1) [8] ?_|refine aS (fuel:=0) [9] ?_);refine ⟨⟨_,rfl,fun U O=>?_⟩,trivial⟩))<;>((first|with_reducible refine aX rfl ?_|refine aP rfl ?_);simp only [go_sem,aA,aB,aC,an,ap,aq,ItemD.dat,hy,hiN,hjy,aJ,aH]))
      |(refine bk (by decide +kernel) (hK _ ?_);clear hK K;try simp only [go_sem,aA,aB,aC,an,ap,aq,ItemD.dat,hy,hiN,hjy,aJ,aH]))
     |((refine CallK.cur (some 0) (be hC (by omega)) rfl rfl rfl rfl rfl rfl ?_);(rintro c5 _ ⟨u,hu,rfl,hC5⟩);(try simp only [a_,go_sem]);(refine O _ ?_);(clear O U);(try simp only [go_sem]))
     |((refine cU (es':=y.marks.map ab) (e1:=ab v) (ds:=[.int .i64 u]) rfl (aa _ _ G3) rfl rfl rfl (by simp only [dd,ap,hy,aq,ItemD.dat];rfl) (by rw [ap,hv];rfl) rfl rfl rfl (Nat.le_refl _) ?_);(rw [xU hy hv]);(refine O _ ?_);(clear O U);(try simp only [go_sem]))
     |with_reducible refine aI ?_
     |with_reducible refine ba ?_|with_reducible refine bm ?_|with_reducible refine bc ?_)
    all_goals
     skip
    all_goals
     repeat' (first|((with_reducible first|(refine hK _ ?_;clear hK K)|refine aj fun U O=>?_|apply ah|(apply Z<;>(intro hc;try simp at hc;try omega)))<;>try simp only [go_sem])|(with_reducible first|apply ag|(refine O _ ?_;clear O U)|refine kN dl fun K hK=>?_|refine kO fun K hK=>?_|refine aI ?_)|(refine xS rfl fun U O=>?_;simp only [go_sem])|apply iB)
     exact ⟨(j + 1,N.set i ⟨y.names,y.marks.set j u,y.late⟩,c5),⟨by simp only;omega,⟨by simp only [cl];omega,mT hNl i ⟨by simp only;omega,by simp only [cl];omega,ys8⟩,_,List.getElem?_set_self hiN,by simp only [cl];omega⟩,hC5.mono (by simp only;omega)⟩,by simp only;omega,(ao [] (by simp [lk,ae,cl]<;>omega))⟩
   ·repeat' (first|((with_reducible first|(refine hK _ ?_;clear hK K)|refine aj fun U O=>?_|apply ah|(apply Z<;>(intro hc;try simp at hc;try omega)))<;>try simp only [go_sem])|(with_reducible first|apply ag|(refine O _ ?_;clear O U)|refine kN dl fun K hK=>?_|refine kO fun K hK=>?_|refine aI ?_)|(refine xS rfl fun U O=>?_;simp only [go_sem])|apply iB)
    exact ⟨(j + 1,N,c2),⟨by simp only;omega,⟨hN,hNl,y,hy,hyl⟩,hC.mono (by simp only;omega)⟩,by simp only;omega,(ao [] (by simp [lk,ae]<;>omega))⟩
  ·repeat' (first|((with_reducible first|(refine hK _ ?_;clear hK K)|refine aj fun U O=>?_|apply ah|(apply Z<;>(intro hc;try simp at hc;try omega)))<;>try simp only [go_sem,hlt2])|(with_reducible first|apply ag|(refine O _ ?_;clear O U)|refine kN dl fun K hK=>?_|refine kO fun K hK=>?_|refine aI ?_)|(refine xS rfl fun U O=>?_;simp only [go_sem,hlt2])|apply iB)
   exact ⟨(i + 1,N,c4),⟨by simp only;omega,hN,hNl,hC4.mono (by simp only;omega)⟩,by simp only;omega,(ao [] (by simp [lk,ae]<;>omega))⟩
 ·clear hl
  have hfit:∀ r ∈ M,ItFit 1048576 r:=fun r hr=>(hMl r hr).fit
  obtain rfl:i = l.length:=by omega
  have hM18:M.length≤18:=by omega
  replace hC1:Cur (k + 2862) c1:=hC1.mono (by omega)
  repeat' (first|with_reducible refine bs (id:=14) ?_|with_reducible refine br (id:=14) ?_|((with_reducible first|(refine hK _ ?_;clear hK K)|refine aj fun U O=>?_|apply ah|(apply Z<;>(intro hc;try simp at hc;try omega)))<;>try simp only [go_sem,hlt])|(with_reducible first|apply ag|(refine O _ ?_;clear O U)|refine kN dl fun K hK=>?_|refine kO fun K hK=>?_|refine aI ?_)|(refine xS rfl fun U O=>?_;simp only [go_sem,hlt])|apply iB)
  refine ec (fun q:List ItemD × Bool × List D=>⟨⟨82,[(0,.bptr 0 0),(2,.bptr 1 0),(4,.bptr 2 0),(5,.bptr 3 0),(6,.row 4 q.1.length)]⟩,[(0,.pbox 0 ty (q.2.2.map .d)),(1,.box 42 [.d (.lst 4 []),.d (.lst 1 []),.d (.int .i64 0),.d (.int .i64 0),.d (.int .i64 0),.d (.int .i64 0)]),(2,.box 45 [.d (.lst 1 []),.d (.lst 1 [])]),(3,.box 42 (c.dat.map .d)),(4,cond q.2.1 (.deep 0 143 3 (q.1.map ItemD.dat)) (.row 143 3 (q.1.map ItemD.dat)))],5⟩) (fun q=>q.1.length≤22∧(∀ x ∈ q.1,aiB x)∧Cur (k + 2864) q.2.2) ?_ ?_
  ·intro K hK
   by_cases h1:1 < M.length
   ·have h1':(1:Int) < (M.length:Int):=by omega
    have hown:=j4 M (by omega) hfit
    repeat' (first|((with_reducible first|(refine hK _ ?_;clear hK K)|refine aj fun U O=>?_|apply ah|(apply Z<;>(intro hc;try simp at hc;try omega)))<;>try simp only [go_sem,h1,h1',an])|(with_reducible first|apply ag|(refine O _ ?_;clear O U)|refine kN dl fun K hK=>?_|refine kO fun K hK=>?_|refine aI ?_)|(refine xS rfl fun U O=>?_;simp only [go_sem,h1,h1',an])|((with_reducible apply CallK.eq);(· with_reducible first|exact hown|exact ff _ _);(· simp [RV.flat,D.sc,ab]);try simp only [go_sem,h1,h1',an])|((first|refine CallK.cur (some 0) (bI hC1 (by omega)) rfl rfl rfl rfl rfl rfl ?_);rintro c2 _ ⟨x,hx,rfl,hC⟩;try simp only [a_,go_sem,h1,h1',an])|apply iB)
    all_goals first
     |(exfalso;omega)
     |skip
    ·obtain ⟨n,hn⟩:∃ n:Nat,(min (M.length:Int) 4).toNat = n:=⟨_,rfl⟩
     have hnl:n≤M.length∧n≤4:=by omega
     rw [hn]
     refine fc 4 rfl ?_
     simp only [go_sem]
     refine fc 9 rfl ?_
     simp only [go_sem]
     have hap:List.map ItemD.dat M++List.take n (List.map ItemD.dat M) = List.map ItemD.dat (M++M.take n):=by simp
     have hl2b:∀ r ∈ M++M.take n,aiB r:=fun r hr=>(List.mem_append.1 hr).elim (hMl r) fun h=>hMl r (List.mem_of_mem_take h)
     have hl2n:(M++M.take n).length≤22:=by simp;omega
     have hln:M.length + n = (M++M.take n).length:=by simp;omega
     generalize M++M.take n = lx at hap hl2b hl2n hln
     refine jZ (es:=M.map ItemD.dat) (fs:=(M.map ItemD.dat).take n) rfl (aa _ _ fk) rfl rfl rfl (by simp) (by simp [hH,AS.get,lk,ae,hnl.1]) (by simp;omega) ?_
     rw [List.length_take,an,Nat.min_eq_left hnl.1,hap,hln]
     repeat' (first|((with_reducible first|(refine hK _ ?_;clear hK K)|refine aj fun U O=>?_|apply ah|(apply Z<;>(intro hc;try simp at hc;try omega)))<;>try simp only [go_sem,an])|(with_reducible first|apply ag|(refine O _ ?_;clear O U)|refine kN dl fun K hK=>?_|refine kO fun K hK=>?_|refine aI ?_)|(refine xS rfl fun U O=>?_;simp only [go_sem,an])|apply iB)
     exact hK (lx,false,c2) _ ⟨hl2n,hl2b,hC.mono (by omega)⟩ (ao [] (by simp [lk,ae,cond]<;>omega))
    ·skip
     exact hK (M,true,c2) _ ⟨by simp only;omega,hMl,hC.mono (by omega)⟩ (ao [] (by simp [lk,ae,cond]<;>omega))
   ·have h1':¬ (1:Int) < (M.length:Int):=by omega
    repeat' (first|((with_reducible first|(refine hK _ ?_;clear hK K)|refine aj fun U O=>?_|apply ah|(apply Z<;>(intro hc;try simp at hc;try omega)))<;>try simp only [go_sem,h1,h1',an])|(with_reducible first|apply ag|(refine O _ ?_;clear O U)|refine kN dl fun K hK=>?_|refine kO fun K hK=>?_|refine aI ?_)|(refine xS rfl fun U O=>?_;simp only [go_sem,h1,h1',an])|apply iB)
    all_goals first
     |(exfalso;omega)
     |exact hK (M,true,c1) _ ⟨by simp only;omega,hMl,hC1.mono (by omega)⟩ (ao [] (by simp [lk,ae,cond]<;>omega))
  ·rintro ⟨M2,f,c2⟩ ⟨hM2,hM2l,hC2⟩
   simp only at hM2 hM2l hC2
   dsimp only
   cases f
   all_goals
    dsimp only [cond]
    first
     |(refine gG 4 rfl ?_;simp only [go_sem])
     |skip
    refine nH 6 rfl rfl (by rw [an]) ?_
    simp only [upl,dH,ae,Nat.reduceEqDiff,if_true,if_false]
    repeat' (first|((with_reducible first|(refine hK _ ?_;clear hK K)|refine aj fun U O=>?_|apply ah|(apply Z<;>(intro hc;try simp at hc;try omega)))<;>try simp only [go_sem,an])|(with_reducible first|apply ag|(refine O _ ?_;clear O U)|refine kN dl fun K hK=>?_|refine kO fun K hK=>?_|refine aI ?_)|(refine xS rfl fun U O=>?_;simp only [go_sem,an])|((with_reducible apply CallK.eq);(· with_reducible first|exact ff _ _);(· simp [RV.flat,D.sc,ab]);try simp only [go_sem,an])|apply iB)
    obtain ⟨n,hn⟩:∃ n:Nat,min (M2.length:Int) 15 = (n:Int):=⟨(min (M2.length:Int) 15).toNat,by omega⟩
    have hn15:n≤15∧n≤M2.length:=by omega
    rw [hn]
    refine CallK.curA (some 0) (uz hC2 (by omega) (by omega)) rfl rfl rfl rfl rfl rfl ?_
    rintro c3 _ ⟨m,hm,rfl,hC⟩
    try simp only [a_,go_sem]
    have hma:=hm.a (by omega)
    repeat' (first|with_reducible refine bs (id:=18) ?_|with_reducible refine br (id:=18) ?_|((with_reducible first|(refine hK _ ?_;clear hK K)|refine aj fun U O=>?_|apply ah|(apply Z<;>(intro hc;try simp at hc;try omega)))<;>try simp only [go_sem])|(with_reducible first|apply ag|(refine O _ ?_;clear O U)|refine kN dl fun K hK=>?_|refine kO fun K hK=>?_|refine aI ?_)|(refine xS rfl fun U O=>?_;simp only [go_sem])|apply iB)
    refine ec (fun q:MarksD × List D=>⟨⟨82,[(0,.bptr 0 0),(2,.bptr 1 0),(4,.bptr 2 0),(5,.bptr 3 0),(6,.d (.lst 3 (M2.map ItemD.dat))),(9,.d (.int .i64 (n:Int))),(10,.bptr 4 0)]⟩,[(0,.pbox 0 ty (q.2.map .d)),(1,.box 42 [.d (.lst 4 []),.d (.lst 1 []),.d (.int .i64 0),.d (.int .i64 0),.d (.int .i64 0),.d (.int .i64 0)]),(2,.box 45 [.d (.lst 1 []),.d (.lst 1 [])]),(3,.box 42 (c.dat.map .d)),(4,.box 45 [.d (.lst 1 (q.1.grades.map (aF 1 ab))),.d (.lst 1 (q.1.components.map (aF 1 ab)))])],5⟩) (fun q=>uD q.1∧Cur (k + 5000) q.2) ?_ ?_
    ·intro K hK
     repeat' (first|((with_reducible first|(refine hK _ ?_;clear hK K)|refine aj fun U O=>?_|apply ah|(apply Z<;>(intro hc;try simp at hc;try omega)))<;>try simp only [go_sem])|(with_reducible first|apply ag|(refine O _ ?_;clear O U)|refine kN dl fun K hK=>?_|refine kO fun K hK=>?_|refine aI ?_)|(refine xS rfl fun U O=>?_;simp only [go_sem])|((first|refine CallK.cur (some 0) (bI hC (by omega)) rfl rfl rfl rfl rfl rfl ?_);rintro c2 _ ⟨x,hx,rfl,hC⟩;try simp only [a_,go_sem])|((first|refine CallK.cur (some 0) (bI hC (by omega)) rfl rfl rfl rfl rfl rfl ?_);rintro c2 _ ⟨x,hx,rfl,hC⟩;try simp only [a_,go_sem])|apply iB)
     ·repeat' (first|((with_reducible first|(refine hK _ ?_;clear hK K)|refine aj fun U O=>?_|apply ah|(apply Z<;>(intro hc;try simp at hc;try omega)))<;>try simp only [go_sem])|(with_reducible first|apply ag|(refine O _ ?_;clear O U)|refine kN dl fun K hK=>?_|refine kO fun K hK=>?_|refine aI ?_)|(refine xS rfl fun U O=>?_;simp only [go_sem])|((first|refine CallK.cur (some 0) (be hC (by omega)) rfl rfl rfl rfl rfl rfl ?_);rintro c2 _ ⟨x,hx,rfl,hC⟩;try simp only [a_,go_sem])|((first|refine CallK.cur (some 0) (be hC (by omega)) rfl rfl rfl rfl rfl rfl ?_);rintro c2 _ ⟨x,hx,rfl,hC⟩;try simp only [a_,go_sem])|apply iB)
      obtain ⟨b,rfl⟩:∃ b:Nat,x = (b:Int):=⟨x.toNat,by omega⟩
      refine CallK.curA (some 0) (rB hC (by omega) (by omega)) rfl rfl rfl rfl rfl rfl ?_
      rintro c5 _ ⟨m,hm,rfl,hC⟩
      try simp only [a_,go_sem]
      repeat' (first|((with_reducible first|(refine hK _ ?_;clear hK K)|refine aj fun U O=>?_|apply ah|(apply Z<;>(intro hc;try simp at hc;try omega)))<;>try simp only [go_sem])|(with_reducible first|apply ag|(refine O _ ?_;clear O U)|refine kN dl fun K hK=>?_|refine kO fun K hK=>?_|refine aI ?_)|(refine xS rfl fun U O=>?_;simp only [go_sem])|apply iB)
      exact hK (m,c5) _ ⟨hm,hC.mono (by omega)⟩ (ao [] (by simp [lk,ae]<;>omega))
     ·exact hK (m,c2) _ ⟨hma,hC.mono (by omega)⟩ (ao [] (by simp [lk,ae]<;>omega))
    ·rintro ⟨m,c4⟩ ⟨hma,hC4⟩
     simp only at hma hC4
     dsimp only
     obtain ⟨es,L,re,bo,ke,fa⟩:=c
     have hn2:=hn15.2
     repeat' (first|((with_reducible first|(refine hK _ ?_;clear hK K)|refine aj fun U O=>?_|apply ah|(apply Z<;>(intro hc;try simp at hc;try omega)))<;>try simp only [go_sem])|(with_reducible first|apply ag|(refine O _ ?_;clear O U)|refine kN dl fun K hK=>?_|refine kO fun K hK=>?_|refine aI ?_)|(refine xS rfl fun U O=>?_;simp only [go_sem])|apply iB)
     simp only [CodeD.dat,aJ,aH]
     refine bJ 8 dl ax rfl (fun K hK=>?_)
     refine aT 1 rfl rfl rfl (aL (.inl rfl)) ?_
     try simp only [go_sem,aA,aB,aC,an,hn2,aJ,aH]
     refine aT 2 rfl rfl rfl (aL (.inl rfl)) ?_
     try simp only [go_sem,aA,aB,aC,an,hn2,aJ,aH]
     repeat' (first
      |((with_reducible refine O _ ?_);clear O U;try simp only [go_sem,aA,aB,aC,an,hn2,aJ,aH])
      |((with_reducible refine bB ?_);first
       |(refine aT 6 rfl rfl rfl (aL (.inr rfl)) ?_;try simp only [go_sem,aA,aB,aC,an,hn2,aJ,aH])
       |((first|((with_reducible first|refine aS (fuel:=5) [0,3,4] ?_|refine aS (fuel:=4) [3,4,5] ?_);refine ⟨⟨_,rfl,fun U O=>?_⟩,⟨_,rfl,fun U O=>?_⟩,⟨_,rfl,fun U O=>?_⟩,trivial⟩)|((with_reducible first|refine aS (fuel:=4) [0,4] ?_|refine aS (fuel:=4) [0,3] ?_|refine aS (fuel:=3) [4,5] ?_|refine aS (fuel:=3) [3,5] ?_|refine aS (fuel:=3) [3,4] ?_);refine ⟨⟨_,rfl,fun U O=>?_⟩,⟨_,rfl,fun U O=>?_⟩,trivial⟩)|((with_reducible first|refine aS (fuel:=3) [0] ?_|refine aS (fuel:=2) [5] ?_|refine aS (fuel:=2) [3] ?_|refine aS (fuel:=1) [4] ?_|refine aS (fuel:=0) [7] ?_);refine ⟨⟨_,rfl,fun U O=>?_⟩,trivial⟩))<;>((first|with_reducible refine aX rfl ?_|refine aP rfl ?_);simp only [go_sem,aA,aB,aC,an,hn2,aJ,aH]))
       |(refine bk (by decide +kernel) (hK _ ?_);clear hK K;try simp only [go_sem,aA,aB,aC,an,hn2,aJ,aH]))
      |with_reducible refine aI ?_)
     all_goals
      skip
     all_goals
      repeat' (first|((with_reducible first|(refine hK _ ?_;clear hK K)|refine aj fun U O=>?_|apply ah|(apply Z<;>(intro hc;try simp at hc;try omega)))<;>try simp only [go_sem])|(with_reducible first|apply ag|(refine O _ ?_;clear O U)|refine kN dl fun K hK=>?_|refine kO fun K hK=>?_|refine aI ?_)|(refine xS rfl fun U O=>?_;simp only [go_sem])|apply iB)
      refine bQ (id:=0) (xs:=[.agg [.d _,.d _,.d _,.d _,.d _,.d _],.d _,.agg [.d _,.d _]]) _ rfl (by simp only [bl,bn,cX,dT,ae,lk,an,aR,aM,if_true,if_false,Nat.reduceEqDiff,Nat.reduceBEq,Nat.reduceAdd,Bool.false_eq_true,Option.some.injEq]<;>rfl) (by simp [am,bb]) rfl (Cur.len (by assumption)) ⟨(⟨es,L,re,bo,ke,fa⟩,M2.take n,m),⟨hpc,by simp only [List.length_take];omega,fun x hx=>hM2l x (List.mem_of_mem_take hx),hma⟩,by simp [CodeD.dat],hC4⟩
end Go.Proofs.YtphakidbddamfaaGreat
