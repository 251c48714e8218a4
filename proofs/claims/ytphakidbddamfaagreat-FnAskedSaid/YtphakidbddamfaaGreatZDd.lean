/-
  Drawn programmes.
-/
import Derived.Test.YtphakidbddamfaaGreatZMz
import Derived.Test.YtphakidbddamfaaGreatZPg
import Derived.Test.YtphakidbddamfaaGreatZPga
import Derived.Test.YtphakidbddamfaaGreatZDh
set_option linter.unusedSimpArgs false
set_option linter.unusedVariables false
set_option maxHeartbeats 2000000
set_option maxRecDepth 100000
namespace Go.Proofs.YtphakidbddamfaaGreat
open Go.RowKit
theorem j4 (l:List ItemD) (hn:l.length≤1048576) (hs:∀ r ∈ l,ItFit 1048576 r):FnEq Tryz.prog 120 [.d (.lst 3 (l.map ItemD.dat))] [.deep 143 3 (l.map ItemD.dat)]:=by
 have h:=ir l hn hs
 unfold dO at h
 split at h
 ·rename_i h0
  rw [List.length_eq_zero_iff.1 h0] at h ⊢
  exact h.deepen
 ·exact h
def itB (x:ItemD):Prop:=1≤x.names.length∧x.names.length≤3∧x.marks.length = x.names.length∧∀ s ∈ x.names,s.size≤8
theorem itB.fit {x:ItemD} (h:itB x):ItFit 1048576 x:=⟨by have:=h.2.1;omega,fun s hs=>by have:=h.2.2.2 s hs;omega,by have:=h.2.1;have:=h.2.2.1;omega⟩
def qe (n:Nat):List (List D):=List.replicate n [.int .i64 0]
theorem wV (n:Nat):(qe n).length = n:=List.length_replicate
theorem vE (n:Nat):qe (n + 1) = qe n++[[.int .i64 0]]:=List.replicate_succ'
theorem wQ (n:Nat):qe n = (List.replicate n (0:Int)).map ab:=by unfold qe;rw [List.map_replicate];rfl
def yy (q:CodeD × List ItemD):Prop:=pcB q.1∧q.2.length≤9∧∀ x ∈ q.2,itB x
theorem j8 {k:Nat} {cs:List D} (hC:Cur k cs) (hk:k≤1000000000):FnC Tryz.prog 173 3 [] cs (dn (k + 900) yy fun q=>[.row 161 4 (q.1.elements.map ElementD.dat),.row 3 1 (q.1.limits.map ab),.d (.int .i64 q.1.repeats),.d (.int .i64 q.1.bonus),.d (.int .i64 q.1.keeps),.d (.int .i64 q.1.fall),.deep 143 3 (q.2.map ItemD.dat)]) (.grp [some 6,none]):=by
 refine co aa Tryz.func173 rfl rfl hC.len fun ty=>?_;simp only [Tryz.ntmps173,aR,aM,Nat.reduceAdd,Nat.reduceSub,aJ,aH,an,aW]
 repeat' (first|with_reducible refine bs (id:=2) ?_|with_reducible refine br (id:=2) ?_|((with_reducible first|(refine hK _ ?_;clear hK K)|refine aj fun U O=>?_|apply ah|(apply Z<;>(intro hc;try simp at hc;try omega)))<;>try simp only [go_sem])|(with_reducible first|apply ag|(refine O _ ?_;clear O U)|refine kN dM fun K hK=>?_|refine kO fun K hK=>?_|refine aI ?_)|(refine xS rfl fun U O=>?_;simp only [go_sem])|apply iB)
 refine CallK.curA (some 0) (jP hC (by omega)) rfl rfl rfl rfl rfl rfl ?_
 rintro c2 _ ⟨x,hx,rfl,hC⟩
 try simp only [a_,go_sem]
 obtain ⟨es,L,re,bo,ke,fa⟩:=x
 obtain ⟨e1,e24,es8,hL5⟩:=hx
 simp only at e1 e24 es8 hL5
 repeat' (first|with_reducible refine bs (id:=2) ?_|with_reducible refine br (id:=2) ?_|((with_reducible first|(refine hK _ ?_;clear hK K)|refine aj fun U O=>?_|apply ah|(apply Z<;>(intro hc;try simp at hc;try omega)))<;>try simp only [go_sem])|(with_reducible first|apply ag|(refine O _ ?_;clear O U)|refine kN dM fun K hK=>?_|refine kO fun K hK=>?_|refine aI ?_)|(refine xS rfl fun U O=>?_;simp only [go_sem])|apply iB)
 refine ec (fun q:List Int × List D=>⟨⟨78,[(0,.bptr 0 0),(2,.bptr 1 0),(4,.bptr 2 0)]⟩,[(0,.pbox 0 ty (q.2.map .d)),(1,.box 42 [.d (.lst 4 []),.d (.lst 1 []),.d (.int .i64 0),.d (.int .i64 0),.d (.int .i64 0),.d (.int .i64 0)]),(2,.box 42 [.row 3 es.length,.row 4 q.1.length,.d (.int .i64 re),.d (.int .i64 bo),.d (.int .i64 ke),.d (.int .i64 fa)]),(3,.row 161 4 (es.map ElementD.dat)),(4,.row 3 1 (q.1.map ab))],5⟩) (fun q=>q.1.length = 5∧Cur (k + 602) q.2) ?_ ?_
 ·intro K hK
  repeat' (first|((with_reducible first|(refine hK _ ?_;clear hK K)|refine aj fun U O=>?_|apply ah|(apply Z<;>(intro hc;try simp at hc;try omega)))<;>try simp only [go_sem])|(with_reducible first|apply ag|(refine O _ ?_;clear O U)|refine kN dM fun K hK=>?_|refine kO fun K hK=>?_|refine aI ?_)|(refine xS rfl fun U O=>?_;simp only [go_sem])|((first|refine CallK.cur (some 0) (bI hC (by omega)) rfl rfl rfl rfl rfl rfl ?_);rintro c2 _ ⟨x,hx,rfl,hC⟩;try simp only [a_,go_sem])|((first|refine CallK.cur (some 0) (bI hC (by omega)) rfl rfl rfl rfl rfl rfl ?_);rintro c2 _ ⟨x,hx,rfl,hC⟩;try simp only [a_,go_sem])|apply iB)
  ·refine aD [3,5,18,19,20,21,22,23,24,25] (fun q:Nat × List Int=>[(0,.bptr 0 0),(2,.bptr 1 0),(4,.bptr 2 0),(18,.d (.int .i64 (q.1:Int))),(3,.und),(14,.und)]) (fun q=>[(0,.pbox 0 ty (c2.map .d)),(1,.box 42 [.d (.lst 4 []),.d (.lst 1 []),.d (.int .i64 0),.d (.int .i64 0),.d (.int .i64 0),.d (.int .i64 0)]),(2,.box 42 [.row 3 es.length,.row 4 q.2.length,.d (.int .i64 re),.d (.int .i64 bo),.d (.int .i64 ke),.d (.int .i64 fa)]),(3,.row 161 4 (es.map ElementD.dat)),(4,.row 3 1 (q.2.map ab))]) 5 (fun q=>q.1≤L.length∧q.2.length = 5) (fun q=>L.length - q.1) (0,L) ⟨by simp,hL5⟩ (ao [] (by simp [lk,ae]<;>omega)) ?_
   rintro ⟨i,M⟩ ⟨hi,hM⟩;simp only [bi,wipe,wl,bh,bw,rm,if_true,if_false,Nat.reduceEqDiff,Bool.false_eq_true,reduceCtorEq]
   simp only at hi hM
   by_cases hlt:i < L.length
   ·have hiM:i < M.length:=by omega
    obtain ⟨v,hv⟩:∃ v,M[i]? = some v:=⟨_,List.getElem?_eq_getElem hiM⟩
    have bj:(List.map ab M).set i [D.int .i64 9] = List.map ab (M.set i 9):=by rw [List.map_set];rfl
    repeat' (first|((with_reducible first|(refine hK _ ?_;clear hK K)|refine aj fun U O=>?_|apply ah|(apply Z<;>(intro hc;try simp at hc;try omega)))<;>try simp only [go_sem,hlt,hiM,bj,cl,ap,hv,aq,ab])|(with_reducible first|apply ag|(refine O _ ?_;clear O U)|refine kN dM fun K hK=>?_|refine kO fun K hK=>?_|refine aI ?_)|(refine xS rfl fun U O=>?_;simp only [go_sem,hlt,hiM,bj,cl,ap,hv,aq,ab])|apply iB)
    all_goals first
     |(exfalso;omega)
     |exact ⟨(i + 1,M.set i 9),⟨by simp only;omega,by simp only [cl];omega⟩,by simp only;omega,(ao [] (by simp [lk,ae,bj,cl,-List.map_set]<;>omega))⟩
   ·repeat' (first|((with_reducible first|(refine hK _ ?_;clear hK K)|refine aj fun U O=>?_|apply ah|(apply Z<;>(intro hc;try simp at hc;try omega)))<;>try simp only [go_sem,hlt])|(with_reducible first|apply ag|(refine O _ ?_;clear O U)|refine kN dM fun K hK=>?_|refine kO fun K hK=>?_|refine aI ?_)|(refine xS rfl fun U O=>?_;simp only [go_sem,hlt])|apply iB)
    exact hK (M,c2) _ ⟨hM,hC⟩ (ao [] (by simp [lk,ae]<;>omega))
  ·exact hK (L,c2) _ ⟨hL5,hC⟩ (ao [] (by simp [lk,ae]<;>omega))
 ·rintro ⟨L,c0⟩ ⟨hL5,hC0⟩
  simp only at hL5 hC0
  dsimp only
  repeat' (first|((with_reducible first|(refine hK _ ?_;clear hK K)|refine aj fun U O=>?_|apply ah|(apply Z<;>(intro hc;try simp at hc;try omega)))<;>try simp only [go_sem])|(with_reducible first|apply ag|(refine O _ ?_;clear O U)|refine kN dM fun K hK=>?_|refine kO fun K hK=>?_|refine aI ?_)|(refine xS rfl fun U O=>?_;simp only [go_sem])|((first|refine CallK.cur (some 0) (be hC0 (by omega)) rfl rfl rfl rfl rfl rfl ?_);rintro c2 _ ⟨x,hx,rfl,hC⟩;try simp only [a_,go_sem])|((first|refine CallK.cur (some 0) (be hC0 (by omega)) rfl rfl rfl rfl rfl rfl ?_);rintro c2 _ ⟨x,hx,rfl,hC⟩;try simp only [a_,go_sem])|apply iB)
  obtain ⟨n,hn⟩:∃ n:Nat,1 + x = (n:Int):=⟨(1 + x).toNat,by omega⟩
  have hn9:n≤9:=by omega
  rw [hn]
  refine dP 5 rfl (by intro e he;cases he) ?_
  simp only [go_sem]
  replace hC:Cur (k + 604) c2:=hC.mono (by omega)
  clear hC0 hx hn
  refine aD [3,6,7,8,9,10,29,30,31,32,33,34,35,36,37,38,39,40,41,42,43,44,45,46,47,48,49,50,51,52,53,54,55,56,57,58,59,60,61,62,63,64,65,66,67,68,69,70,71,72,73,74,75] (fun q:Nat × List ItemD × List D=>[(0,.bptr 0 0),(2,.bptr 1 0),(4,.bptr 2 0),(7,.d (.int .i64 (q.1:Int))),(6,.row 5 q.2.1.length)]) (fun q=>[(0,.pbox 0 ty (q.2.2.map .d)),(1,.box 42 [.d (.lst 4 []),.d (.lst 1 []),.d (.int .i64 0),.d (.int .i64 0),.d (.int .i64 0),.d (.int .i64 0)]),(2,.box 42 [.row 3 es.length,.row 4 L.length,.d (.int .i64 re),.d (.int .i64 bo),.d (.int .i64 ke),.d (.int .i64 fa)]),(3,.row 161 4 (es.map ElementD.dat)),(4,.row 3 1 (L.map ab)),(5,.deep 0 143 3 (q.2.1.map ItemD.dat))]) 6 (fun q=>q.1 + q.2.1.length≤9∧Cur (k + 604 + 30 * (9 - q.1)) q.2.2∧∀ x ∈ q.2.1,itB x) (fun q=>q.1) (n,[],c2) ⟨by simp;omega,hC.mono (by simp),by simp⟩ (ao [] (by simp [lk,ae]<;>omega)) ?_
  rintro ⟨j,l,c0⟩ ⟨hj,hC0,hl⟩;simp only [bi,wipe,wl,bh,bw,rm,if_true,if_false,Nat.reduceEqDiff,Bool.false_eq_true,reduceCtorEq]
  simp only at hj hC0 hl
  by_cases hj0:0 < j
  ·obtain ⟨i,rfl⟩:∃ i,j = i + 1:=⟨j - 1,by omega⟩
   have hj':(0:Int) < ((i + 1:Nat):Int):=by omega
   repeat' (first|with_reducible refine bs (id:=12) ?_|with_reducible refine br (id:=12) ?_|((with_reducible first|(refine hK _ ?_;clear hK K)|refine aj fun U O=>?_|apply ah|(apply Z<;>(intro hc;try simp at hc;try omega)))<;>try simp only [go_sem,hj'])|(with_reducible first|apply ag|(refine O _ ?_;clear O U)|refine kN dM fun K hK=>?_|refine kO fun K hK=>?_|refine aI ?_)|(refine xS rfl fun U O=>?_;simp only [go_sem,hj'])|apply iB)
   all_goals first
    |(exfalso;omega)
    |skip
   unfold eF
   refine cm (ck ?_)
   refine dJ 9 1 3 1 rfl (aa _ _ d3) rfl ?_
   refine a9 aa ?_
   simp only [go_sem]
   refine a9 aa ?_
   simp only [go_sem,ge,fC]
   refine ba ?_
   repeat' (first|((with_reducible first|(refine hK _ ?_;clear hK K)|refine aj fun U O=>?_|apply ah|(apply Z<;>(intro hc;try simp at hc;try omega)))<;>try simp only [go_sem])|(with_reducible first|apply ag|(refine O _ ?_;clear O U)|refine kN dM fun K hK=>?_|refine kO fun K hK=>?_|refine aI ?_)|(refine xS rfl fun U O=>?_;simp only [go_sem])|((first|refine CallK.cur (some 0) (bu (l:=[1,1,1,1,2,2,3]) hC0 (by omega) (by simp) (by simp)) rfl rfl rfl rfl rfl rfl ?_);rintro c2 _ ⟨x,hx,rfl,hC⟩;try simp only [a_,go_sem])|((first|refine CallK.cur (some 0) (bu (l:=[1,1,1,1,2,2,3]) hC0 (by omega) (by simp) (by simp)) rfl rfl rfl rfl rfl rfl ?_);rintro c2 _ ⟨x,hx,rfl,hC⟩;try simp only [a_,go_sem])|apply iB)
   have h3:1≤x∧x≤3:=by simp at hx;omega
   obtain ⟨m,rfl⟩:∃ m:Nat,x = (m:Int):=⟨x.toNat,by omega⟩
   clear hx
   replace hC:Cur (k + 604 + 30 * (9 - (i + 1)) + 2) c2:=hC
   refine aD [3,37,38,39,40,41,42,43,44,45,46,47,48,49,50,51,52,53,54,55,56,57,58,59,60,61] (fun q:List ByteArray × List D=>[(0,.bptr 0 0),(2,.bptr 1 0),(4,.bptr 2 0),(8,.bptr 6 0),(6,.row 5 l.length),(33,.und)]) (fun q=>[(0,.pbox 0 ty (q.2.map .d)),(1,.box 42 [.d (.lst 4 []),.d (.lst 1 []),.d (.int .i64 0),.d (.int .i64 0),.d (.int .i64 0),.d (.int .i64 0)]),(2,.box 42 [.row 3 es.length,.row 4 L.length,.d (.int .i64 re),.d (.int .i64 bo),.d (.int .i64 ke),.d (.int .i64 fa)]),(3,.row 161 4 (es.map ElementD.dat)),(4,.row 3 1 (L.map ab)),(5,.deep 0 143 3 (l.map ItemD.dat)),(6,.box 143 [.row 7 q.1.length,.row 8 q.1.length,.d (.bool false)]),(7,.row 9 1 (q.1.map aZ)),(8,.row 3 1 (qe q.1.length))]) 9 (fun q=>q.1.length≤m∧Cur (k + 604 + 30 * (9 - (i + 1)) + 2 + 2 * q.1.length) q.2∧∀ s ∈ q.1,s.size≤8) (fun q=>m - q.1.length) ([],c2) ⟨by simp,hC.mono (by simp),by simp⟩ (ao [(7,6),(8,7)] (by simp [lk,ae,qe]<;>omega)) ?_
   rintro ⟨g,c0⟩ ⟨hg,hC0,hgs⟩;simp only [bi,wipe,wl,bh,bw,rm,if_true,if_false,Nat.reduceEqDiff,Bool.false_eq_true,reduceCtorEq]
   simp only at hg hC0 hgs
   have hzl:=wV g.length
   by_cases hgm:g.length < m
   ·have hgm':(g.length:Int) < (m:Int):=by omega
    repeat' (first|((with_reducible first|(refine hK _ ?_;clear hK K)|refine aj fun U O=>?_|apply ah|(apply Z<;>(intro hc;try simp at hc;try omega)))<;>try simp only [go_sem,hgm',an])|(with_reducible first|apply ag|(refine O _ ?_;clear O U)|refine kN dM fun K hK=>?_|refine kO fun K hK=>?_|refine aI ?_)|(refine xS rfl fun U O=>?_;simp only [go_sem,hgm',an])|apply iB)
    all_goals first
     |(exfalso;omega)
     |skip
    refine bJ 16 dM ax rfl (fun K hK=>?_)
    refine aT 0 rfl rfl rfl (aY rfl (aa _ _ d3) rfl rfl) ?_
    try (first|simp only [go_sem,aA,aB,aC,an,ap,aq,ElementD.dat,he,hea]|simp only [go_sem,aA,aB,aC,an,ap,aq,ElementD.dat])
    refine aT 2 rfl rfl rfl (aY rfl (aa _ _ gB) rfl rfl) ?_
    try (first|simp only [go_sem,aA,aB,aC,an,ap,aq,ElementD.dat,he,hea]|simp only [go_sem,aA,aB,aC,an,ap,aq,ElementD.dat])
    refine aT 4 rfl rfl rfl (aL (.inl rfl)) ?_
    try (first|simp only [go_sem,aA,aB,aC,an,ap,aq,ElementD.dat,he,hea]|simp only [go_sem,aA,aB,aC,an,ap,aq,ElementD.dat])
    refine aT 5 rfl rfl rfl (aY rfl (aa _ _ gB) rfl rfl) ?_
    try (first|simp only [go_sem,aA,aB,aC,an,ap,aq,ElementD.dat,he,hea]|simp only [go_sem,aA,aB,aC,an,ap,aq,ElementD.dat])
    repeat' (first
     |((with_reducible refine O _ ?_);clear O U;try (first|simp only [go_sem,aA,aB,aC,an,ap,aq,ElementD.dat,he,hea]|simp only [go_sem,aA,aB,aC,an,ap,aq,ElementD.dat]))
     |((with_reducible refine bB ?_);first
      |(refine aT 7 rfl rfl rfl (vk rfl (aa _ _ vN) rfl) ?_;try (first|simp only [go_sem,aA,aB,aC,an,ap,aq,ElementD.dat,he,hea]|simp only [go_sem,aA,aB,aC,an,ap,aq,ElementD.dat]))
      |(refine aT 14 rfl rfl rfl (aY rfl (aa _ _ d3) rfl rfl) ?_;try (first|simp only [go_sem,aA,aB,aC,an,ap,aq,ElementD.dat,he,hea]|simp only [go_sem,aA,aB,aC,an,ap,aq,ElementD.dat]))
      |((first|((with_reducible first|refine aS (fuel:=11) [1,3,6] ?_|refine aS (fuel:=9) [1,3,8] ?_);refine ⟨⟨_,rfl,fun U O=>?_⟩,⟨_,rfl,fun U O=>?_⟩,⟨_,rfl,fun U O=>?_⟩,trivial⟩)|((with_reducible first|refine aS (fuel:=10) [3,6] ?_|refine aS (fuel:=10) [1,6] ?_|refine aS (fuel:=8) [3,8] ?_|refine aS (fuel:=8) [1,8] ?_|refine aS (fuel:=8) [1,3] ?_|refine aS (fuel:=7) [1,9] ?_|refine aS (fuel:=6) [1,10] ?_|refine aS (fuel:=5) [1,11] ?_|refine aS (fuel:=4) [1,12] ?_);refine ⟨⟨_,rfl,fun U O=>?_⟩,⟨_,rfl,fun U O=>?_⟩,trivial⟩)|((with_reducible first|refine aS (fuel:=9) [6] ?_|refine aS (fuel:=7) [8] ?_|refine aS (fuel:=7) [3] ?_|refine aS (fuel:=6) [9] ?_|refine aS (fuel:=5) [10] ?_|refine aS (fuel:=4) [11] ?_|refine aS (fuel:=3) [12] ?_|refine aS (fuel:=3) [1] ?_|refine aS (fuel:=2) [13] ?_|refine aS (fuel:=0) [15] ?_);refine ⟨⟨_,rfl,fun U O=>?_⟩,trivial⟩))<;>((first|with_reducible refine aX rfl ?_|refine aP rfl ?_);(first|simp only [go_sem,aA,aB,aC,an,ap,aq,ElementD.dat,he,hea]|simp only [go_sem,aA,aB,aC,an,ap,aq,ElementD.dat])))
      |(refine bk (by decide +kernel) (hK _ ?_);clear hK K;try (first|simp only [go_sem,aA,aB,aC,an,ap,aq,ElementD.dat,he,hea]|simp only [go_sem,aA,aB,aC,an,ap,aq,ElementD.dat])))
     |((refine CallK.cur (some 0) (be hC0 (by omega)) rfl rfl rfl rfl rfl rfl ?_);(rintro c3 _ ⟨u,hu,rfl,hC3⟩);(obtain ⟨a,rfl⟩:∃ a:Nat,u = (a:Int):=⟨u.toNat,by omega⟩);(have hea:a < es.length:=(by omega));(obtain ⟨e,he⟩:∃ e,es[a]? = some e:=⟨_,List.getElem?_eq_getElem hea⟩);(try simp only [a_,go_sem]);(refine O _ ?_);(clear O U);(try simp only [go_sem]))
     |with_reducible refine aI ?_)
    all_goals
     skip
    all_goals
     repeat' (first|((with_reducible first|(refine hK _ ?_;clear hK K)|refine aj fun U O=>?_|apply ah|(apply Z<;>(intro hc;try simp at hc;try omega)))<;>try simp only [go_sem,hzl])|(with_reducible first|apply ag|(refine O _ ?_;clear O U)|refine kN dM fun K hK=>?_|refine kO fun K hK=>?_|refine aI ?_)|(refine xS rfl fun U O=>?_;simp only [go_sem,hzl])|apply iB)
     exact ⟨(g++[e.name],c3),⟨by simp;omega,hC3.mono (by simp;omega),cg hgs (es8 e (List.mem_of_getElem? he))⟩,by simp;omega,(ao [(7,14),(8,16)] (by simp [lk,ae,aZ,vE]<;>omega))⟩
   ·have hgm':¬ (g.length:Int) < (m:Int):=by omega
    have hxb:itB ⟨g,List.replicate g.length 0,false⟩:=⟨by simp only;omega,by simp only;omega,by simp,hgs⟩
    have hap:List.map ItemD.dat l++[ItemD.dat ⟨g,List.replicate g.length 0,false⟩] = List.map ItemD.dat (l++[⟨g,List.replicate g.length 0,false⟩]):=by simp
    have hl2b:=cg (p:=itB) hl hxb
    have hfit:=fun r hr=>(hl r hr).fit
    have hfit2:∀ r ∈ l++[(⟨g,List.replicate g.length 0,false⟩:ItemD)],ItFit 1048576 r:=fun r hr=>(hl2b r hr).fit
    have hown:=j4 l (by omega) hfit
    rw [wQ]
    repeat' (first|((with_reducible first|(refine hK _ ?_;clear hK K)|refine aj fun U O=>?_|apply ah|(apply Z<;>(intro hc;try simp at hc;try omega)))<;>try simp only [go_sem,hgm',an])|(with_reducible first|apply ag|(refine O _ ?_;clear O U)|refine kN dM fun K hK=>?_|refine kO fun K hK=>?_|refine aI ?_)|(refine xS rfl fun U O=>?_;simp only [go_sem,hgm',an])|apply iB)
    all_goals first
     |(exfalso;omega)
     |skip
    refine bJ 7 dM ax rfl (fun K hK=>?_)
    refine aT 0 rfl rfl rfl (aL (.inl rfl)) ?_
    try simp only [go_sem,aA,aB,aC,hap,an,List.length_append,aR,aM]
    repeat' (first
     |((with_reducible refine O _ ?_);clear O U;try simp only [go_sem,aA,aB,aC,hap,an,List.length_append,aR,aM])
     |((with_reducible refine bB ?_);first
      |(refine aT 6 rfl rfl rfl (aL (.inr rfl)) ?_;try simp only [go_sem,aA,aB,aC,hap,an,List.length_append,aR,aM])
      |((first|((with_reducible first|refine aS (fuel:=5) [1,2] ?_|refine aS (fuel:=4) [1,3] ?_);refine ⟨⟨_,rfl,fun U O=>?_⟩,⟨_,rfl,fun U O=>?_⟩,trivial⟩)|((with_reducible first|refine aS (fuel:=4) [2] ?_|refine aS (fuel:=3) [3] ?_|refine aS (fuel:=3) [1] ?_|refine aS (fuel:=2) [4] ?_|refine aS (fuel:=1) [5] ?_);refine ⟨⟨_,rfl,fun U O=>?_⟩,trivial⟩))<;>((first|with_reducible refine aX rfl ?_|refine aP rfl ?_);simp only [go_sem,aA,aB,aC,hap,an,List.length_append,aR,aM]))
      |(refine bk (by decide +kernel) (hK _ ?_);clear hK K;try simp only [go_sem,aA,aB,aC,hap,an,List.length_append,aR,aM]))
     |((with_reducible apply CallK.eq);(focus (with_reducible first|exact hown));(focus (first|exact rfl|(simp [RV.flat,D.sc,ab];done)));try simp only [go_sem,aA,aB,aC,hap,an,List.length_append,aR,aM])
     |((refine bA (cs:=[.row 7 g.length,.row 8 g.length,.d (.bool false)]) (ds:=ItemD.dat ⟨g,List.replicate g.length 0,false⟩) rfl (aa _ _ fk) (by decide) rfl (by simp [dE,dL,ae,D.scB,ItemD.dat]) (by simp [bb]) (by simp only [cY,cy,ae,if_true,if_false,Nat.reduceEqDiff];exact ⟨cP _,bT _,trivial,trivial⟩) ?_);(try simp only [go_sem]);(refine O _ ?_);(clear O U);(try simp only [go_sem]))
     |((refine bM (es:=l.map ItemD.dat) (fs:=[ItemD.dat ⟨g,List.replicate g.length 0,false⟩]) (n:=l.length) (n2:=1) rfl (aa _ _ fk) rfl rfl rfl rfl (by decide) (by simp) rfl (by exact True.intro) (by exact True.intro) (by simp<;>omega) ?_);(try simp only [go_sem]);(refine O _ ?_);(clear O U);(try simp only [go_sem]))
     |((refine CallK.of (kn (l++[⟨g,List.replicate g.length 0,false⟩]) (by simp;omega) hfit2) ?_);(rintro _ ⟨l2,hl2,rfl⟩);(refine ⟨(fun _=>by simp [RV.flat]),?_⟩);(try simp only [go_sem]);(refine O _ ?_);(clear O U);(try simp only [go_sem]))
     |with_reducible refine aI ?_)
    all_goals
     skip
    all_goals
     have hl2l:=hl2.1
     have hl2i:∀ r ∈ l2,itB r:=by
      intro r hr
      obtain ⟨a,ha⟩:=List.getElem?_of_mem hr
      obtain ⟨y,h1,h2,h3⟩:=hl2.2 a r ha
      have hb:=hl2b y (List.mem_of_getElem? h1)
      unfold itB at *
      rw [h2,h3]
      exact hb
     clear hl2
     repeat' (first|((with_reducible first|(refine hK _ ?_;clear hK K)|refine aj fun U O=>?_|apply ah|(apply Z<;>(intro hc;try simp at hc;try omega)))<;>try simp only [go_sem])|(with_reducible first|apply ag|(refine O _ ?_;clear O U)|refine kN dM fun K hK=>?_|refine kO fun K hK=>?_|refine aI ?_)|(refine xS rfl fun U O=>?_;simp only [go_sem])|apply iB)
     refine CallK.of (uR ⟨es,L,re,bo,ke,fa⟩ l2 ⟨by simp only;omega,fun y hy=>by have:=es8 y hy;unfold tc;omega,by simp only;omega⟩ (by rw [hl2l];simp;omega) (fun r hr=>(hl2i r hr).fit)) ?_
     rintro _ ⟨b,_,rfl⟩
     refine ⟨(fun _=>by simp [RV.flat,D.sc]),?_⟩
     try simp only [go_sem]
     rw [List.length_append,List.length_singleton] at hl2l
     cases b
     ·repeat' (first|((with_reducible first|(refine hK _ ?_;clear hK K)|refine aj fun U O=>?_|apply ah|(apply Z<;>(intro hc;try simp at hc;try omega)))<;>try simp only [go_sem])|(with_reducible first|apply ag|(refine O _ ?_;clear O U)|refine kN dM fun K hK=>?_|refine kO fun K hK=>?_|refine aI ?_)|(refine xS rfl fun U O=>?_;simp only [go_sem])|apply iB)
      refine CallK.cur (some 0) (bI hC0 (by omega)) rfl rfl rfl rfl rfl rfl ?_;rintro c2 _ ⟨x,hx,rfl,hC⟩;try simp only [a_,go_sem]
      cases x
      ·repeat' (first|((with_reducible first|(refine hK _ ?_;clear hK K)|refine aj fun U O=>?_|apply ah|(apply Z<;>(intro hc;try simp at hc;try omega)))<;>try simp only [go_sem])|(with_reducible first|apply ag|(refine O _ ?_;clear O U)|refine kN dM fun K hK=>?_|refine kO fun K hK=>?_|refine aI ?_)|(refine xS rfl fun U O=>?_;simp only [go_sem])|apply iB)
       exact ⟨(i,l,c2),⟨by simp only;omega,hC.mono (by simp only;omega),hl⟩,by simp only;omega,(ao [] (by simp [lk,ae]<;>omega))⟩
      ·repeat' (first|((with_reducible first|(refine hK _ ?_;clear hK K)|refine aj fun U O=>?_|apply ah|(apply Z<;>(intro hc;try simp at hc;try omega)))<;>try simp only [go_sem])|(with_reducible first|apply ag|(refine O _ ?_;clear O U)|refine kN dM fun K hK=>?_|refine kO fun K hK=>?_|refine aI ?_)|(refine xS rfl fun U O=>?_;simp only [go_sem])|apply iB)
       exact ⟨(i,l2,c2),⟨by simp only;omega,hC.mono (by simp only;omega),hl2i⟩,by simp only;omega,(ao [] (by simp [lk,ae]<;>omega))⟩
     ·repeat' (first|((with_reducible first|(refine hK _ ?_;clear hK K)|refine aj fun U O=>?_|apply ah|(apply Z<;>(intro hc;try simp at hc;try omega)))<;>try simp only [go_sem])|(with_reducible first|apply ag|(refine O _ ?_;clear O U)|refine kN dM fun K hK=>?_|refine kO fun K hK=>?_|refine aI ?_)|(refine xS rfl fun U O=>?_;simp only [go_sem])|apply iB)
      exact ⟨(i,l2,c0),⟨by simp only;omega,hC0.mono (by simp only;omega),hl2i⟩,by simp only;omega,(ao [] (by simp [lk,ae]<;>omega))⟩
  ·obtain rfl:j = 0:=by omega
   have hj':¬ (0:Int) < ((0:Nat):Int):=by omega
   repeat' (first|((with_reducible first|(refine hK _ ?_;clear hK K)|refine aj fun U O=>?_|apply ah|(apply Z<;>(intro hc;try simp at hc;try omega)))<;>try simp only [go_sem,hj'])|(with_reducible first|apply ag|(refine O _ ?_;clear O U)|refine kN dM fun K hK=>?_|refine kO fun K hK=>?_|refine aI ?_)|(refine xS rfl fun U O=>?_;simp only [go_sem,hj'])|apply iB)
   refine t6 (id:=0) (xs:=[.row _ _,.row _ _,.d (.int .i64 re),.d (.int .i64 bo),.d (.int .i64 ke),.d (.int .i64 fa),.row _ _]) _ rfl rfl (by simp only [bl,bn,ae,lk,an,if_true,if_false,Nat.reduceEqDiff,Nat.reduceBEq,Bool.false_eq_true,Option.some.injEq]<;>rfl) (by simp [am,lk]) rfl (Cur.len (by assumption)) ⟨(⟨es,L,re,bo,ke,fa⟩,l),⟨⟨by simp only;omega,by simp only;omega,es8,hL5⟩,by simp only;omega,hl⟩,rfl,Cur.mono (by assumption) (by omega)⟩
end Go.Proofs.YtphakidbddamfaaGreat
