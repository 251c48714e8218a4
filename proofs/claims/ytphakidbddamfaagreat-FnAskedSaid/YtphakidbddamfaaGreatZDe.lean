/-
  Drawn codes that need not be valid.
-/
import Derived.Test.YtphakidbddamfaaGreatZMz
import Derived.Test.YtphakidbddamfaaGreatZDh
set_option linter.unusedSimpArgs false
set_option linter.unusedVariables false
set_option maxHeartbeats 2000000
set_option maxRecDepth 100000
namespace Go.Proofs.YtphakidbddamfaaGreat
open Go.RowKit
def acB (c:CodeD):Prop:=c.elements.length≤25∧(∀ x ∈ c.elements,x.name.size≤8)∧c.limits.length≤6
theorem acB.fit {c:CodeD} (h:acB c):CdFit 1048576 c:=⟨by have:=h.1;omega,fun x hx=>by have:=h.2.1 x hx;unfold tc;omega,by have:=h.2.2;omega⟩
theorem pcB.ac {c:CodeD} (h:pcB c):acB c:=⟨by have:=h.2.1;omega,h.2.2.1,by have:=h.2.2.2;omega⟩
theorem iv {es:List ElementD} {y:ElementD} (h:∀ x ∈ es,x.name.size≤8) (hy:y.name.size≤8) (i:Nat):∀ x ∈ es.set i y,x.name.size≤8:=by
 intro x hx
 rcases List.mem_or_eq_of_mem_set hx with h1|h1
 ·exact h x h1
 ·rw [h1];exact hy
def qh:List ByteArray:=[⟨#[]⟩,⟨#[51,97]⟩,⟨#[65,66,67,68,69,70]⟩,⟨#[51,65]⟩,⟨#[90,90,90,90,90]⟩,⟨#[48]⟩]
theorem oB:∀ s ∈ qh,s.size≤8:=by decide
theorem mY {k:Nat} {cs:List D} (hC:Cur k cs) (hk:k≤1000000000):FnC Tryz.prog 204 3 [] cs (dn (k + 620) acB fun c=>[.row 161 4 (c.elements.map ElementD.dat),.row 3 1 (c.limits.map ab),.d (.int .i64 c.repeats),.d (.int .i64 c.bonus),.d (.int .i64 c.keeps),.d (.int .i64 c.fall)]) .agg:=by
 refine co aa Tryz.func204 rfl rfl hC.len fun ty=>?_;simp only [Tryz.ntmps204,aR,aM,Nat.reduceAdd,Nat.reduceSub,aJ,aH,an,aW]
 repeat' (first|with_reducible refine bs (id:=2) ?_|with_reducible refine br (id:=2) ?_|((with_reducible first|(refine hK _ ?_;clear hK K)|refine aj fun U O=>?_|apply ah|(apply Z<;>(intro hc;try simp at hc;try omega)))<;>try simp only [go_sem])|(with_reducible first|apply ag|(refine O _ ?_;clear O U)|refine kN cF fun K hK=>?_|refine kO fun K hK=>?_|refine aI ?_)|apply iB)
 refine CallK.curA (some 0) (jP hC (by omega)) rfl rfl rfl rfl rfl rfl ?_
 rintro c2 _ ⟨x,hx,rfl,hC⟩
 try simp only [a_,go_sem]
 have hac:=hx.ac
 obtain ⟨es,L,re,bo,ke,fa⟩:=x
 obtain ⟨e1,e24,es8,hL5⟩:=hx
 simp only at e1 e24 es8 hL5
 repeat' (first|with_reducible refine bs (id:=3) ?_|with_reducible refine br (id:=3) ?_|((with_reducible first|(refine hK _ ?_;clear hK K)|refine aj fun U O=>?_|apply ah|(apply Z<;>(intro hc;try simp at hc;try omega)))<;>try simp only [go_sem,an])|(with_reducible first|apply ag|(refine O _ ?_;clear O U)|refine kN cF fun K hK=>?_|refine kO fun K hK=>?_|refine aI ?_)|((first|refine CallK.cur (some 0) (be hC (by omega)) rfl rfl rfl rfl rfl rfl ?_);rintro c2 _ ⟨x,hx,rfl,hC⟩;try simp only [a_,go_sem,an])|((first|refine CallK.cur (some 0) (be hC (by omega)) rfl rfl rfl rfl rfl rfl ?_);rintro c2 _ ⟨x,hx,rfl,hC⟩;try simp only [a_,go_sem,an])|apply iB)
 obtain ⟨a,rfl⟩:∃ a:Nat,x = (a:Int):=⟨x.toNat,by omega⟩
 have hea:a < es.length:=by omega
 obtain ⟨e,he⟩:∃ e,es[a]? = some e:=⟨_,List.getElem?_eq_getElem hea⟩
 have hes8:=es8 e (List.mem_of_getElem? he)
 replace hC:Cur (k + 602) c2:=hC.mono (by omega)
 clear hx
 refine ec (fun q:CodeD × List D=>⟨⟨120,[(0,.bptr 0 0),(2,.bptr 1 0),(3,.bptr 2 0)]⟩,[(0,.pbox 0 ty (q.2.map .d)),(1,.box 42 [.d (.lst 4 []),.d (.lst 1 []),.d (.int .i64 0),.d (.int .i64 0),.d (.int .i64 0),.d (.int .i64 0)]),(2,.box 42 [.row 3 q.1.elements.length,.row 4 q.1.limits.length,.d (.int .i64 q.1.repeats),.d (.int .i64 q.1.bonus),.d (.int .i64 q.1.keeps),.d (.int .i64 q.1.fall)]),(3,.row 161 4 (q.1.elements.map ElementD.dat)),(4,.row 3 1 (q.1.limits.map ab))],5⟩) (fun q=>acB q.1∧Cur (k + 610) q.2) ?_ ?_
 ·intro K hK
  repeat' (first|((with_reducible first|(refine hK _ ?_;clear hK K)|refine aj fun U O=>?_|apply ah|(apply Z<;>(intro hc;try simp at hc;try omega)))<;>try simp only [go_sem])|(with_reducible first|apply ag|(refine O _ ?_;clear O U)|refine kN cF fun K hK=>?_|refine kO fun K hK=>?_|refine aI ?_)|apply iB)
  refine CallK.cur (some 0) (be hC (by omega)) rfl rfl rfl rfl rfl rfl ?_;rintro c2 _ ⟨x,hx,rfl,hC⟩;try simp only [a_,go_sem]
  clear hx
  replace hC:Cur (k + 604) c2:=hC
  by_cases h0:x = 0
  ·subst h0
   repeat' (first|((with_reducible first|(refine hK _ ?_;clear hK K)|refine aj fun U O=>?_|apply ah|(apply Z<;>(intro hc;try simp at hc;try omega)))<;>try simp only [go_sem])|(with_reducible first|apply ag|(refine O _ ?_;clear O U)|refine kN cF fun K hK=>?_|refine kO fun K hK=>?_|refine aI ?_)|apply iB)
   refine bF 9 ax rfl (fun K hK=>?_)
   refine aT 0 rfl rfl rfl (aY rfl (aa _ _ gB) rfl rfl) ?_
   try simp only [go_sem,aA,aB,aC,an,ap,he,aq,ElementD.dat,hea,aJ,aH]
   refine aT 2 rfl rfl rfl (aL (.inl rfl)) ?_
   try simp only [go_sem,aA,aB,aC,an,ap,he,aq,ElementD.dat,hea,aJ,aH]
   refine aT 3 rfl rfl rfl (aL (.inl rfl)) ?_
   try simp only [go_sem,aA,aB,aC,an,ap,he,aq,ElementD.dat,hea,aJ,aH]
   repeat' (first
    |((with_reducible refine O _ ?_);clear O U;try simp only [go_sem,aA,aB,aC,an,ap,he,aq,ElementD.dat,hea,aJ,aH])
    |((with_reducible refine bB ?_);first
     |((first|((with_reducible first|refine aS (fuel:=5) [1,4] ?_|refine aS (fuel:=4) [1,5] ?_);refine ⟨⟨_,rfl,fun U O=>?_⟩,⟨_,rfl,fun U O=>?_⟩,trivial⟩)|((with_reducible first|refine aS (fuel:=4) [4] ?_|refine aS (fuel:=3) [5] ?_|refine aS (fuel:=3) [1] ?_|refine aS (fuel:=2) [6] ?_|refine aS (fuel:=1) [7] ?_|refine aS (fuel:=0) [8] ?_);refine ⟨⟨_,rfl,fun U O=>?_⟩,trivial⟩))<;>((first|with_reducible refine aX rfl ?_|refine aP rfl ?_);simp only [go_sem,aA,aB,aC,an,ap,he,aq,ElementD.dat,hea,aJ,aH]))
     |(refine bk (by decide +kernel) (hK _ ?_);clear hK K;try simp only [go_sem,aA,aB,aC,an,ap,he,aq,ElementD.dat,hea,aJ,aH]))
    |((refine CallK.cur (some 0) (mD (l:=qh) hC (by omega) (by decide) (by decide)) rfl rfl rfl rfl rfl rfl ?_);(rintro c3 _ ⟨u,hu,rfl,hC3⟩);(try simp only [a_,go_sem]);(refine O _ ?_);(clear O U);(try simp only [go_sem]))
    |with_reducible refine aI ?_
    |with_reducible refine ba ?_|with_reducible refine bm ?_|with_reducible refine bc ?_)
   all_goals
    skip
   all_goals
    repeat' (first|((with_reducible first|(refine hK _ ?_;clear hK K)|refine aj fun U O=>?_|apply ah|(apply Z<;>(intro hc;try simp at hc;try omega)))<;>try simp only [go_sem])|(with_reducible first|apply ag|(refine O _ ?_;clear O U)|refine kN cF fun K hK=>?_|refine kO fun K hK=>?_|refine aI ?_)|apply iB)
    exact hK (⟨es.set a ⟨u,e.family,e.level,e.base⟩,L,re,bo,ke,fa⟩,c3) _ ⟨⟨by simp only [cl];omega,iv (y:=⟨u,e.family,e.level,e.base⟩) es8 (oB u hu) a,by simp only;omega⟩,hC3.mono (by omega)⟩ (ao [(3,2),(4,3)] (by simp [lk,ae,ElementD.dat,cl]<;>omega))
  by_cases h1:x = 1
  ·subst h1
   repeat' (first|((with_reducible first|(refine hK _ ?_;clear hK K)|refine aj fun U O=>?_|apply ah|(apply Z<;>(intro hc;try simp at hc;try omega)))<;>try simp only [go_sem])|(with_reducible first|apply ag|(refine O _ ?_;clear O U)|refine kN cF fun K hK=>?_|refine kO fun K hK=>?_|refine aI ?_)|apply iB)
   refine bF 9 ax rfl (fun K hK=>?_)
   refine aT 0 rfl rfl rfl (aY rfl (aa _ _ gB) rfl rfl) ?_
   try simp only [go_sem,aA,aB,aC,an,ap,he,aq,ElementD.dat,hea,aJ,aH]
   refine aT 2 rfl rfl rfl (aL (.inl rfl)) ?_
   try simp only [go_sem,aA,aB,aC,an,ap,he,aq,ElementD.dat,hea,aJ,aH]
   refine aT 3 rfl rfl rfl (aL (.inl rfl)) ?_
   try simp only [go_sem,aA,aB,aC,an,ap,he,aq,ElementD.dat,hea,aJ,aH]
   repeat' (first
    |((with_reducible refine O _ ?_);clear O U;try simp only [go_sem,aA,aB,aC,an,ap,he,aq,ElementD.dat,hea,aJ,aH])
    |((with_reducible refine bB ?_);first
     |((first|((with_reducible first|refine aS (fuel:=5) [1,4] ?_|refine aS (fuel:=4) [1,5] ?_);refine ⟨⟨_,rfl,fun U O=>?_⟩,⟨_,rfl,fun U O=>?_⟩,trivial⟩)|((with_reducible first|refine aS (fuel:=4) [4] ?_|refine aS (fuel:=3) [5] ?_|refine aS (fuel:=3) [1] ?_|refine aS (fuel:=2) [6] ?_|refine aS (fuel:=1) [7] ?_|refine aS (fuel:=0) [8] ?_);refine ⟨⟨_,rfl,fun U O=>?_⟩,trivial⟩))<;>((first|with_reducible refine aX rfl ?_|refine aP rfl ?_);simp only [go_sem,aA,aB,aC,an,ap,he,aq,ElementD.dat,hea,aJ,aH]))
     |(refine bk (by decide +kernel) (hK _ ?_);clear hK K;try simp only [go_sem,aA,aB,aC,an,ap,he,aq,ElementD.dat,hea,aJ,aH]))
    |((refine CallK.cur (some 0) (bu (l:=[-1,4,5]) hC (by omega) (by simp) (by simp)) rfl rfl rfl rfl rfl rfl ?_);(rintro c3 _ ⟨u,hu,rfl,hC3⟩);(try simp only [a_,go_sem]);(refine O _ ?_);(clear O U);(try simp only [go_sem]))
    |with_reducible refine aI ?_
    |with_reducible refine ba ?_|with_reducible refine bm ?_|with_reducible refine bc ?_)
   all_goals
    skip
   all_goals
    repeat' (first|((with_reducible first|(refine hK _ ?_;clear hK K)|refine aj fun U O=>?_|apply ah|(apply Z<;>(intro hc;try simp at hc;try omega)))<;>try simp only [go_sem])|(with_reducible first|apply ag|(refine O _ ?_;clear O U)|refine kN cF fun K hK=>?_|refine kO fun K hK=>?_|refine aI ?_)|apply iB)
    exact hK (⟨es.set a ⟨e.name,u,e.level,e.base⟩,L,re,bo,ke,fa⟩,c3) _ ⟨⟨by simp only [cl];omega,iv (y:=⟨e.name,u,e.level,e.base⟩) es8 (hes8) a,by simp only;omega⟩,hC3.mono (by omega)⟩ (ao [(3,2),(4,3)] (by simp [lk,ae,ElementD.dat,cl]<;>omega))
  by_cases h2:x = 2
  ·subst h2
   repeat' (first|((with_reducible first|(refine hK _ ?_;clear hK K)|refine aj fun U O=>?_|apply ah|(apply Z<;>(intro hc;try simp at hc;try omega)))<;>try simp only [go_sem])|(with_reducible first|apply ag|(refine O _ ?_;clear O U)|refine kN cF fun K hK=>?_|refine kO fun K hK=>?_|refine aI ?_)|apply iB)
   refine bF 9 ax rfl (fun K hK=>?_)
   refine aT 0 rfl rfl rfl (aY rfl (aa _ _ gB) rfl rfl) ?_
   try simp only [go_sem,aA,aB,aC,an,ap,he,aq,ElementD.dat,hea,aJ,aH]
   refine aT 2 rfl rfl rfl (aL (.inl rfl)) ?_
   try simp only [go_sem,aA,aB,aC,an,ap,he,aq,ElementD.dat,hea,aJ,aH]
   refine aT 3 rfl rfl rfl (aL (.inl rfl)) ?_
   try simp only [go_sem,aA,aB,aC,an,ap,he,aq,ElementD.dat,hea,aJ,aH]
   repeat' (first
    |((with_reducible refine O _ ?_);clear O U;try simp only [go_sem,aA,aB,aC,an,ap,he,aq,ElementD.dat,hea,aJ,aH])
    |((with_reducible refine bB ?_);first
     |((first|((with_reducible first|refine aS (fuel:=5) [1,4] ?_|refine aS (fuel:=4) [1,5] ?_);refine ⟨⟨_,rfl,fun U O=>?_⟩,⟨_,rfl,fun U O=>?_⟩,trivial⟩)|((with_reducible first|refine aS (fuel:=4) [4] ?_|refine aS (fuel:=3) [5] ?_|refine aS (fuel:=3) [1] ?_|refine aS (fuel:=2) [6] ?_|refine aS (fuel:=1) [7] ?_|refine aS (fuel:=0) [8] ?_);refine ⟨⟨_,rfl,fun U O=>?_⟩,trivial⟩))<;>((first|with_reducible refine aX rfl ?_|refine aP rfl ?_);simp only [go_sem,aA,aB,aC,an,ap,he,aq,ElementD.dat,hea,aJ,aH]))
     |(refine bk (by decide +kernel) (hK _ ?_);clear hK K;try simp only [go_sem,aA,aB,aC,an,ap,he,aq,ElementD.dat,hea,aJ,aH]))
    |((refine CallK.cur (some 0) (bu (l:=[-1,4,5]) hC (by omega) (by simp) (by simp)) rfl rfl rfl rfl rfl rfl ?_);(rintro c3 _ ⟨u,hu,rfl,hC3⟩);(try simp only [a_,go_sem]);(refine O _ ?_);(clear O U);(try simp only [go_sem]))
    |with_reducible refine aI ?_
    |with_reducible refine ba ?_|with_reducible refine bm ?_|with_reducible refine bc ?_)
   all_goals
    skip
   all_goals
    repeat' (first|((with_reducible first|(refine hK _ ?_;clear hK K)|refine aj fun U O=>?_|apply ah|(apply Z<;>(intro hc;try simp at hc;try omega)))<;>try simp only [go_sem])|(with_reducible first|apply ag|(refine O _ ?_;clear O U)|refine kN cF fun K hK=>?_|refine kO fun K hK=>?_|refine aI ?_)|apply iB)
    exact hK (⟨es.set a ⟨e.name,e.family,u,e.base⟩,L,re,bo,ke,fa⟩,c3) _ ⟨⟨by simp only [cl];omega,iv (y:=⟨e.name,e.family,u,e.base⟩) es8 (hes8) a,by simp only;omega⟩,hC3.mono (by omega)⟩ (ao [(3,2),(4,3)] (by simp [lk,ae,ElementD.dat,cl]<;>omega))
  by_cases h3:x = 3
  ·subst h3
   repeat' (first|((with_reducible first|(refine hK _ ?_;clear hK K)|refine aj fun U O=>?_|apply ah|(apply Z<;>(intro hc;try simp at hc;try omega)))<;>try simp only [go_sem])|(with_reducible first|apply ag|(refine O _ ?_;clear O U)|refine kN cF fun K hK=>?_|refine kO fun K hK=>?_|refine aI ?_)|apply iB)
   refine bF 9 ax rfl (fun K hK=>?_)
   refine aT 0 rfl rfl rfl (aY rfl (aa _ _ gB) rfl rfl) ?_
   try simp only [go_sem,aA,aB,aC,an,ap,he,aq,ElementD.dat,hea,aJ,aH]
   refine aT 2 rfl rfl rfl (aL (.inl rfl)) ?_
   try simp only [go_sem,aA,aB,aC,an,ap,he,aq,ElementD.dat,hea,aJ,aH]
   refine aT 3 rfl rfl rfl (aL (.inl rfl)) ?_
   try simp only [go_sem,aA,aB,aC,an,ap,he,aq,ElementD.dat,hea,aJ,aH]
   repeat' (first
    |((with_reducible refine O _ ?_);clear O U;try simp only [go_sem,aA,aB,aC,an,ap,he,aq,ElementD.dat,hea,aJ,aH])
    |((with_reducible refine bB ?_);first
     |((first|((with_reducible first|refine aS (fuel:=5) [1,4] ?_|refine aS (fuel:=4) [1,5] ?_);refine ⟨⟨_,rfl,fun U O=>?_⟩,⟨_,rfl,fun U O=>?_⟩,trivial⟩)|((with_reducible first|refine aS (fuel:=4) [4] ?_|refine aS (fuel:=3) [5] ?_|refine aS (fuel:=3) [1] ?_|refine aS (fuel:=2) [6] ?_|refine aS (fuel:=1) [7] ?_|refine aS (fuel:=0) [8] ?_);refine ⟨⟨_,rfl,fun U O=>?_⟩,trivial⟩))<;>((first|with_reducible refine aX rfl ?_|refine aP rfl ?_);simp only [go_sem,aA,aB,aC,an,ap,he,aq,ElementD.dat,hea,aJ,aH]))
     |(refine bk (by decide +kernel) (hK _ ?_);clear hK K;try simp only [go_sem,aA,aB,aC,an,ap,he,aq,ElementD.dat,hea,aJ,aH]))
    |((refine CallK.cur (some 0) (bu (l:=[0,1,2000,2001]) hC (by omega) (by simp) (by simp)) rfl rfl rfl rfl rfl rfl ?_);(rintro c3 _ ⟨u,hu,rfl,hC3⟩);(try simp only [a_,go_sem]);(refine O _ ?_);(clear O U);(try simp only [go_sem]))
    |with_reducible refine aI ?_
    |with_reducible refine ba ?_|with_reducible refine bm ?_|with_reducible refine bc ?_)
   all_goals
    skip
   all_goals
    repeat' (first|((with_reducible first|(refine hK _ ?_;clear hK K)|refine aj fun U O=>?_|apply ah|(apply Z<;>(intro hc;try simp at hc;try omega)))<;>try simp only [go_sem])|(with_reducible first|apply ag|(refine O _ ?_;clear O U)|refine kN cF fun K hK=>?_|refine kO fun K hK=>?_|refine aI ?_)|apply iB)
    exact hK (⟨es.set a ⟨e.name,e.family,e.level,u⟩,L,re,bo,ke,fa⟩,c3) _ ⟨⟨by simp only [cl];omega,iv (y:=⟨e.name,e.family,e.level,u⟩) es8 (hes8) a,by simp only;omega⟩,hC3.mono (by omega)⟩ (ao [(3,2),(4,3)] (by simp [lk,ae,ElementD.dat,cl]<;>omega))
  by_cases h4:x = 4
  ·subst h4
   repeat' (first|((with_reducible first|(refine hK _ ?_;clear hK K)|refine aj fun U O=>?_|apply ah|(apply Z<;>(intro hc;try simp at hc;try omega)))<;>try simp only [go_sem])|(with_reducible first|apply ag|(refine O _ ?_;clear O U)|refine kN cF fun K hK=>?_|refine kO fun K hK=>?_|refine aI ?_)|apply iB)
   refine bF 9 ax rfl (fun K hK=>?_)
   refine aT 0 rfl rfl rfl (aY rfl (aa _ _ gB) rfl rfl) ?_
   try (first|simp only [go_sem,aA,aB,aC,an,ap,aq,ab,aJ,aH,hy,hbl]|simp only [go_sem,aA,aB,aC,an,ap,aq,ab,aJ,aH])
   refine aT 2 rfl rfl rfl (aL (.inl rfl)) ?_
   try (first|simp only [go_sem,aA,aB,aC,an,ap,aq,ab,aJ,aH,hy,hbl]|simp only [go_sem,aA,aB,aC,an,ap,aq,ab,aJ,aH])
   refine aT 4 rfl rfl rfl (aL (.inl rfl)) ?_
   try (first|simp only [go_sem,aA,aB,aC,an,ap,aq,ab,aJ,aH,hy,hbl]|simp only [go_sem,aA,aB,aC,an,ap,aq,ab,aJ,aH])
   repeat' (first
    |((with_reducible refine O _ ?_);clear O U;try (first|simp only [go_sem,aA,aB,aC,an,ap,aq,ab,aJ,aH,hy,hbl]|simp only [go_sem,aA,aB,aC,an,ap,aq,ab,aJ,aH]))
    |((with_reducible refine bB ?_);first
     |((first|((with_reducible first|refine aS (fuel:=5) [1,3,5] ?_);refine ⟨⟨_,rfl,fun U O=>?_⟩,⟨_,rfl,fun U O=>?_⟩,⟨_,rfl,fun U O=>?_⟩,trivial⟩)|((with_reducible first|refine aS (fuel:=4) [3,5] ?_|refine aS (fuel:=4) [1,5] ?_|refine aS (fuel:=4) [1,3] ?_|refine aS (fuel:=3) [1,6] ?_);refine ⟨⟨_,rfl,fun U O=>?_⟩,⟨_,rfl,fun U O=>?_⟩,trivial⟩)|((with_reducible first|refine aS (fuel:=3) [5] ?_|refine aS (fuel:=3) [3] ?_|refine aS (fuel:=2) [6] ?_|refine aS (fuel:=2) [1] ?_|refine aS (fuel:=1) [7] ?_|refine aS (fuel:=0) [8] ?_);refine ⟨⟨_,rfl,fun U O=>?_⟩,trivial⟩))<;>((first|with_reducible refine aX rfl ?_|refine aP rfl ?_);(first|simp only [go_sem,aA,aB,aC,an,ap,aq,ab,aJ,aH,hy,hbl]|simp only [go_sem,aA,aB,aC,an,ap,aq,ab,aJ,aH])))
     |(refine bk (by decide +kernel) (hK _ ?_);clear hK K;try (first|simp only [go_sem,aA,aB,aC,an,ap,aq,ab,aJ,aH,hy,hbl]|simp only [go_sem,aA,aB,aC,an,ap,aq,ab,aJ,aH])))
    |((refine CallK.cur (some 0) (be hC (by omega)) rfl rfl rfl rfl rfl rfl ?_);(rintro c3 _ ⟨u,hu,rfl,hC3⟩);(obtain ⟨b,rfl⟩:∃ b:Nat,u = (b:Int):=⟨u.toNat,by omega⟩);(have hbl:b < L.length:=(by omega));(obtain ⟨y,hy⟩:∃ y,L[b]? = some y:=⟨_,List.getElem?_eq_getElem hbl⟩);(try simp only [a_,go_sem]);(refine O _ ?_);(clear O U);(try simp only [go_sem]))
    |((refine CallK.cur (some 0) (bu (l:=[-1,9,10]) hC3 (by omega) (by simp) (by simp)) rfl rfl rfl rfl rfl rfl ?_);(rintro c4 _ ⟨v,hv,rfl,hC4⟩);(try simp only [a_,go_sem]);(refine O _ ?_);(clear O U);(try simp only [go_sem]))
    |with_reducible refine aI ?_
    |with_reducible refine ba ?_|with_reducible refine bm ?_|with_reducible refine bc ?_)
   all_goals
    skip
   all_goals
    repeat' (first|((with_reducible first|(refine hK _ ?_;clear hK K)|refine aj fun U O=>?_|apply ah|(apply Z<;>(intro hc;try simp at hc;try omega)))<;>try simp only [go_sem])|(with_reducible first|apply ag|(refine O _ ?_;clear O U)|refine kN cF fun K hK=>?_|refine kO fun K hK=>?_|refine aI ?_)|apply iB)
    exact hK (⟨es,L.set b v,re,bo,ke,fa⟩,c4) _ ⟨⟨by simp only;omega,es8,by simp only [cl];omega⟩,hC4.mono (by omega)⟩ (ao [(3,2),(4,3)] (by simp [lk,ae,ab,cl]<;>omega))
  by_cases h5:x = 5
  ·subst h5
   repeat' (first|((with_reducible first|(refine hK _ ?_;clear hK K)|refine aj fun U O=>?_|apply ah|(apply Z<;>(intro hc;try simp at hc;try omega)))<;>try simp only [go_sem,an])|(with_reducible first|apply ag|(refine O _ ?_;clear O U)|refine kN cF fun K hK=>?_|refine kO fun K hK=>?_|refine aI ?_)|apply iB)
   exact hK (⟨es,L++[0],re,bo,ke,fa⟩,c2) _ ⟨⟨by simp only;omega,es8,by simp;omega⟩,hC.mono (by omega)⟩ (ao [(3,2),(4,21)] (by simp [lk,ae,ab]<;>omega))
  by_cases h6:x = 6
  ·subst h6
   repeat' (first|((with_reducible first|(refine hK _ ?_;clear hK K)|refine aj fun U O=>?_|apply ah|(apply Z<;>(intro hc;try simp at hc;try omega)))<;>try simp only [go_sem])|(with_reducible first|apply ag|(refine O _ ?_;clear O U)|refine kN cF fun K hK=>?_|refine kO fun K hK=>?_|refine aI ?_)|((first|refine CallK.cur (some 0) (bu (l:=[0,3,4]) hC (by omega) (by simp) (by simp)) rfl rfl rfl rfl rfl rfl ?_);rintro c2 _ ⟨x,hx,rfl,hC⟩;try simp only [a_,go_sem])|((first|refine CallK.cur (some 0) (bu (l:=[0,3,4]) hC (by omega) (by simp) (by simp)) rfl rfl rfl rfl rfl rfl ?_);rintro c2 _ ⟨x,hx,rfl,hC⟩;try simp only [a_,go_sem])|apply iB)
   exact hK (⟨es,L,x,bo,ke,fa⟩,c2) _ ⟨⟨by simp only;omega,es8,by simp only;omega⟩,Cur.mono (by assumption) (by omega)⟩ (ao [(3,2),(4,3)] (by simp [lk,ae]<;>omega))
  by_cases h7:x = 7
  ·subst h7
   repeat' (first|((with_reducible first|(refine hK _ ?_;clear hK K)|refine aj fun U O=>?_|apply ah|(apply Z<;>(intro hc;try simp at hc;try omega)))<;>try simp only [go_sem])|(with_reducible first|apply ag|(refine O _ ?_;clear O U)|refine kN cF fun K hK=>?_|refine kO fun K hK=>?_|refine aI ?_)|((first|refine CallK.cur (some 0) (bu (l:=[-1,20,21]) hC (by omega) (by simp) (by simp)) rfl rfl rfl rfl rfl rfl ?_);rintro c2 _ ⟨x,hx,rfl,hC⟩;try simp only [a_,go_sem])|((first|refine CallK.cur (some 0) (bu (l:=[-1,20,21]) hC (by omega) (by simp) (by simp)) rfl rfl rfl rfl rfl rfl ?_);rintro c2 _ ⟨x,hx,rfl,hC⟩;try simp only [a_,go_sem])|apply iB)
   exact hK (⟨es,L,re,x,ke,fa⟩,c2) _ ⟨⟨by simp only;omega,es8,by simp only;omega⟩,Cur.mono (by assumption) (by omega)⟩ (ao [(3,2),(4,3)] (by simp [lk,ae]<;>omega))
  by_cases h8:x = 8
  ·subst h8
   repeat' (first|((with_reducible first|(refine hK _ ?_;clear hK K)|refine aj fun U O=>?_|apply ah|(apply Z<;>(intro hc;try simp at hc;try omega)))<;>try simp only [go_sem])|(with_reducible first|apply ag|(refine O _ ?_;clear O U)|refine kN cF fun K hK=>?_|refine kO fun K hK=>?_|refine aI ?_)|((first|refine CallK.cur (some 0) (bu (l:=[49,50,100,101]) hC (by omega) (by simp) (by simp)) rfl rfl rfl rfl rfl rfl ?_);rintro c2 _ ⟨x,hx,rfl,hC⟩;try simp only [a_,go_sem])|((first|refine CallK.cur (some 0) (bu (l:=[49,50,100,101]) hC (by omega) (by simp) (by simp)) rfl rfl rfl rfl rfl rfl ?_);rintro c2 _ ⟨x,hx,rfl,hC⟩;try simp only [a_,go_sem])|apply iB)
   exact hK (⟨es,L,re,bo,x,fa⟩,c2) _ ⟨⟨by simp only;omega,es8,by simp only;omega⟩,Cur.mono (by assumption) (by omega)⟩ (ao [(3,2),(4,3)] (by simp [lk,ae]<;>omega))
  by_cases h9:x = 9
  ·subst h9
   repeat' (first|((with_reducible first|(refine hK _ ?_;clear hK K)|refine aj fun U O=>?_|apply ah|(apply Z<;>(intro hc;try simp at hc;try omega)))<;>try simp only [go_sem])|(with_reducible first|apply ag|(refine O _ ?_;clear O U)|refine kN cF fun K hK=>?_|refine kO fun K hK=>?_|refine aI ?_)|((first|refine CallK.cur (some 0) (bu (l:=[-1,500,501]) hC (by omega) (by simp) (by simp)) rfl rfl rfl rfl rfl rfl ?_);rintro c2 _ ⟨x,hx,rfl,hC⟩;try simp only [a_,go_sem])|((first|refine CallK.cur (some 0) (bu (l:=[-1,500,501]) hC (by omega) (by simp) (by simp)) rfl rfl rfl rfl rfl rfl ?_);rintro c2 _ ⟨x,hx,rfl,hC⟩;try simp only [a_,go_sem])|apply iB)
   exact hK (⟨es,L,re,bo,ke,x⟩,c2) _ ⟨⟨by simp only;omega,es8,by simp only;omega⟩,Cur.mono (by assumption) (by omega)⟩ (ao [(3,2),(4,3)] (by simp [lk,ae]<;>omega))
  by_cases h10:x = 10
  ·subst h10
   repeat' (first|with_reducible refine bs (id:=25) ?_|with_reducible refine br (id:=25) ?_|((with_reducible first|(refine hK _ ?_;clear hK K)|refine aj fun U O=>?_|apply ah|(apply Z<;>(intro hc;try simp at hc;try omega)))<;>try simp only [go_sem])|(with_reducible first|apply ag|(refine O _ ?_;clear O U)|refine kN cF fun K hK=>?_|refine kO fun K hK=>?_|refine aI ?_)|apply iB)
   unfold eF
   refine ck ?_
   refine a9 aa ?_
   simp only [go_sem]
   refine fA 161 4 rfl (aa _ _ vN) rfl rfl rfl (show 0 + 1≤6 by decide) ?_
   simp only [go_sem,PL]
   repeat' (first|((with_reducible first|(refine hK _ ?_;clear hK K)|refine aj fun U O=>?_|apply ah|(apply Z<;>(intro hc;try simp at hc;try omega)))<;>try simp only [go_sem])|(with_reducible first|apply ag|(refine O _ ?_;clear O U)|refine kN cF fun K hK=>?_|refine kO fun K hK=>?_|refine aI ?_)|apply iB)
   exact hK (⟨[],L,re,bo,ke,fa⟩,c2) _ ⟨⟨by simp,by simp,by simp only;omega⟩,hC.mono (by omega)⟩ (ao [(3,20),(4,3)] (by simp [lk,ae]<;>omega))
  by_cases h11:x = 11
  ·subst h11
   repeat' (first|with_reducible refine bs (id:=27) ?_|with_reducible refine br (id:=27) ?_|((with_reducible first|(refine hK _ ?_;clear hK K)|refine aj fun U O=>?_|apply ah|(apply Z<;>(intro hc;try simp at hc;try omega)))<;>try simp only [go_sem])|(with_reducible first|apply ag|(refine O _ ?_;clear O U)|refine kN cF fun K hK=>?_|refine kO fun K hK=>?_|refine aI ?_)|apply iB)
   unfold eF
   refine cm (ck ?_)
   refine a9 aa ?_
   simp only [go_sem]
   refine fA 161 4 rfl (aa _ _ vN) rfl rfl rfl (show 0 + 1≤6 by decide) ?_
   simp only [go_sem]
   refine ba ?_
   have hen:=eP
   have hnl:=gk
   have hns:=fS
   generalize elNames = nm at hen hnl hns
   have hn2:∀ s ∈ nm++[(⟨#[90,90]⟩:ByteArray)],s.size≤8:=cg hns (by decide)
   have hl2:(nm++[(⟨#[90,90]⟩:ByteArray)]).length = 25:=by simp [hnl]
   have hap:List.map aZ nm++[[D.str ⟨#[90,90]⟩]] = List.map aZ (nm++[⟨#[90,90]⟩]):=by simp [aZ]
   generalize nm++[(⟨#[90,90]⟩:ByteArray)] = nm2 at hn2 hl2 hap
   repeat' (first|((with_reducible first|(refine hK _ ?_;clear hK K)|refine aj fun U O=>?_|apply ah|(apply Z<;>(intro hc;try simp at hc;try omega)))<;>try simp only [go_sem,hnl,hap,hl2,an])|(with_reducible first|apply ag|(refine O _ ?_;clear O U)|refine kN cF fun K hK=>?_|refine kO fun K hK=>?_|refine aI ?_)|((with_reducible apply CallK.eq);(· with_reducible first|exact hen);(· simp [RV.flat,D.sc,ab]);try simp only [go_sem,hnl,hap,hl2,an])|apply iB)
   clear he hea hes8 hen hnl hns hap
   refine aD [6,107,108,109,110,111,112,113,114,115,116,117,118] (fun q:Nat × List ElementD=>[(0,.bptr 0 0),(2,.bptr 1 0),(3,.bptr 2 0),(107,.d (.int .i64 (q.1:Int))),(105,.row 5 25),(102,.und)]) (fun q=>[(0,.pbox 0 ty (c2.map .d)),(1,.box 42 [.d (.lst 4 []),.d (.lst 1 []),.d (.int .i64 0),.d (.int .i64 0),.d (.int .i64 0),.d (.int .i64 0)]),(2,.box 42 [.row 3 q.2.length,.row 4 L.length,.d (.int .i64 re),.d (.int .i64 bo),.d (.int .i64 ke),.d (.int .i64 fa)]),(3,.row 161 4 (q.2.map ElementD.dat)),(4,.row 3 1 (L.map ab)),(5,.row 9 1 (nm2.map aZ))]) 6 (fun q=>q.1≤25∧q.2.length = q.1∧∀ x ∈ q.2,x.name.size≤8) (fun q=>25 - q.1) (0,[]) ⟨by simp,by simp,by simp⟩ (ao [(3,20),(4,3)] (by simp [lk,ae]<;>omega)) ?_
   rintro ⟨i,fs⟩ ⟨hi,hfl,hfs⟩;simp only [bi,wipe,wl,bh,bw,rm,if_true,if_false,Nat.reduceEqDiff,Bool.false_eq_true,reduceCtorEq]
   simp only at hi hfl hfs
   by_cases hlt2:i < 25
   ·have hlt2':(i:Int) < 25:=by omega
    obtain ⟨y,hy⟩:∃ y,nm2[i]? = some y:=⟨_,List.getElem?_eq_getElem (by omega)⟩
    have hys:=hn2 y (List.mem_of_getElem? hy)
    repeat' (first|((with_reducible first|(refine hK _ ?_;clear hK K)|refine aj fun U O=>?_|apply ah|(apply Z<;>(intro hc;try simp at hc;try omega)))<;>try simp only [go_sem,hlt2',hlt2,hl2,an,ap,hy,aq,aZ])|(with_reducible first|apply ag|(refine O _ ?_;clear O U)|refine kN cF fun K hK=>?_|refine kO fun K hK=>?_|refine aI ?_)|apply iB)
    all_goals first
     |(exfalso;omega)
     |exact ⟨(i + 1,fs++[⟨y,0,0,100⟩]),⟨by simp only;omega,by simp;omega,cg hfs hys⟩,by simp only;omega,(ao [(3,7)] (by simp [lk,ae,ElementD.dat]<;>omega))⟩
   ·have hlt2':¬ (i:Int) < 25:=by omega
    repeat' (first|((with_reducible first|(refine hK _ ?_;clear hK K)|refine aj fun U O=>?_|apply ah|(apply Z<;>(intro hc;try simp at hc;try omega)))<;>try simp only [go_sem,hlt2'])|(with_reducible first|apply ag|(refine O _ ?_;clear O U)|refine kN cF fun K hK=>?_|refine kO fun K hK=>?_|refine aI ?_)|apply iB)
    exact hK (⟨fs,L,re,bo,ke,fa⟩,c2) _ ⟨⟨by simp only;omega,hfs,by simp only;omega⟩,hC.mono (by omega)⟩ (ao [] (by simp [lk,ae]<;>omega))
  repeat' (first|((with_reducible first|(refine hK _ ?_;clear hK K)|refine aj fun U O=>?_|apply ah|(apply Z<;>(intro hc;try simp at hc;try omega)))<;>try simp only [go_sem,h0,h1,h2,h3,h4,h5,h6,h7,h8,h9,h10,h11])|(with_reducible first|apply ag|(refine O _ ?_;clear O U)|refine kN cF fun K hK=>?_|refine kO fun K hK=>?_|refine aI ?_)|apply iB)
  exact hK (⟨es,L,re,bo,ke,fa⟩,c2) _ ⟨hac,hC.mono (by omega)⟩ (ao [(3,2),(4,3)] (by simp [lk,ae]<;>omega))
 ·rintro ⟨⟨es,L,re,bo,ke,fa⟩,c0⟩ ⟨hac,hC0⟩
  dsimp only
  repeat' (first|((with_reducible first|(refine hK _ ?_;clear hK K)|refine aj fun U O=>?_|apply ah|(apply Z<;>(intro hc;try simp at hc;try omega)))<;>try simp only [go_sem])|(with_reducible first|apply ag|(refine O _ ?_;clear O U)|refine kN cF fun K hK=>?_|refine kO fun K hK=>?_|refine aI ?_)|apply iB)
  refine cE (id:=0) (xs:=[.row _ _,.row _ _,.d (.int .i64 re),.d (.int .i64 bo),.d (.int .i64 ke),.d (.int .i64 fa)]) _ rfl (by simp only [bl,bn,ae,lk,an,if_true,if_false,Nat.reduceEqDiff,Nat.reduceBEq,Bool.false_eq_true,Option.some.injEq]<;>rfl) (by simp [am,lk]) rfl (Cur.len (by assumption)) ⟨⟨es,L,re,bo,ke,fa⟩,hac,rfl,Cur.mono (by assumption) (by omega)⟩
end Go.Proofs.YtphakidbddamfaaGreat
