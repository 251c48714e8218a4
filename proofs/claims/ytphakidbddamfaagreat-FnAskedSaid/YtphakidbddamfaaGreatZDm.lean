/-
  Drawn programmes, valid or not.
-/
import Derived.Test.YtphakidbddamfaaGreatZDf
import Derived.Test.YtphakidbddamfaaGreatZDe
import Derived.Test.YtphakidbddamfaaGreatZSa
import Derived.Test.YtphakidbddamfaaGreatZPg
set_option linter.unusedSimpArgs false
set_option linter.unusedVariables false
set_option maxHeartbeats 2000000
set_option maxRecDepth 100000
namespace Go.Proofs.YtphakidbddamfaaGreat
open Go.RowKit
theorem yZ {l:List ItemD} {a:Nat} {e:ItemD} {m0 u:Int} (he:l[a]? = some e) (hm:e.marks[0]? = some m0):ce (l.map ItemD.dat) a 1 (.lst 1 ((e.marks.map ab).set 0 (bx (ab m0) 0 [.int .i64 u]))) = (l.set a ⟨e.names,e.marks.set 0 u,e.late⟩).map ItemD.dat:=by
 simp only [ce,ap,he,aq]
 rw [List.map_set]
 simp [ItemD.dat,List.map_set,bx,ab]
theorem yJ {l:List ItemD} {a:Nat} {e:ItemD} {m0 u:ByteArray} (he:l[a]? = some e) (hm:e.names[0]? = some m0):ce (l.map ItemD.dat) a 0 (.lst 1 ((e.names.map aZ).set 0 (bx (aZ m0) 0 [.str u]))) = (l.set a ⟨e.names.set 0 u,e.marks,e.late⟩).map ItemD.dat:=by
 simp only [ce,ap,he,aq]
 rw [List.map_set]
 simp [ItemD.dat,List.map_set,bx,aZ]
theorem xw {l:List ByteArray} {n:Nat} (h:∀ s ∈ l,s.size≤n) {u:ByteArray} (hu:u.size≤n) (a:Nat):∀ s ∈ l.set a u,s.size≤n:=by
 intro x hx
 rcases List.mem_or_eq_of_mem_set hx with h1|h1
 ·exact h x h1
 ·rw [h1];exact hu
theorem mT {l:List ItemD} (h:∀ x ∈ l,aiB x) (a:Nat) {y:ItemD} (hy:aiB y):∀ x ∈ l.set a y,aiB x:=by
 intro x hx
 rcases List.mem_or_eq_of_mem_set hx with h1|h1
 ·exact h x h1
 ·rw [h1];exact hy
theorem mX {k:Nat} {cs:List D} (hC:Cur k cs) (hk:k≤800000000):FnC Tryz.prog 174 3 [] cs (dn (k + 1600) we fun q=>[.agg q.1.dat,.deep 143 3 (q.2.map ItemD.dat)]):=by
 refine co aa Tryz.func174 rfl rfl hC.len fun ty=>?_;simp only [Tryz.ntmps174,aR,aM,Nat.reduceAdd,Nat.reduceSub,aJ,aH,an,aW]
 repeat' (first|((with_reducible first|(refine hK _ ?_;clear hK K)|refine aj fun U O=>?_|apply ah|(apply Z<;>(intro hc;try simp at hc;try omega)))<;>try simp only [go_sem])|(with_reducible first|apply ag|(refine O _ ?_;clear O U)|refine kN cS fun K hK=>?_|refine kO fun K hK=>?_|refine aI ?_)|(refine xS rfl fun U O=>?_;simp only [go_sem])|((first|refine CallK.cur (some 0) (bI hC (by omega)) rfl rfl rfl rfl rfl rfl ?_);rintro c2 _ ⟨x,hx,rfl,hC⟩;try simp only [a_,go_sem])|((first|refine CallK.cur (some 0) (bI hC (by omega)) rfl rfl rfl rfl rfl rfl ?_);rintro c2 _ ⟨x,hx,rfl,hC⟩;try simp only [a_,go_sem])|fail)
 ·refine CallK.cur (some 0) (lK hC (by omega)) rfl rfl rfl rfl rfl rfl ?_
  rintro c3 _ ⟨q,hq,rfl,hC⟩
  try simp only [a_,go_sem]
  obtain ⟨⟨es,L,re,bo,ke,fa⟩,l⟩:=q
  repeat' (first|((with_reducible first|(refine hK _ ?_;clear hK K)|refine aj fun U O=>?_|apply ah|(apply Z<;>(intro hc;try simp at hc;try omega)))<;>try simp only [go_sem,CodeD.dat,aJ,aH])|(with_reducible first|apply ag|(refine O _ ?_;clear O U)|refine kN cS fun K hK=>?_|refine kO fun K hK=>?_|refine aI ?_)|(refine xS rfl fun U O=>?_;simp only [go_sem,CodeD.dat,aJ,aH])|fail)
  refine bQ (id:=0) (xs:=[.agg [.d _,.d _,.d _,.d _,.d _,.d _],.row _ _]) _ rfl (by simp only [bl,bn,cX,dT,ae,lk,an,aR,aM,if_true,if_false,Nat.reduceEqDiff,Nat.reduceBEq,Nat.reduceAdd,Bool.false_eq_true,Option.some.injEq]<;>rfl) (by simp [am,bb]) rfl (Cur.len (by assumption)) ⟨(⟨es,L,re,bo,ke,fa⟩,l),hq,rfl,Cur.mono (by assumption) (by omega)⟩
 ·repeat' (first|((with_reducible first|(refine hK _ ?_;clear hK K)|refine aj fun U O=>?_|apply ah|(apply Z<;>(intro hc;try simp at hc;try omega)))<;>try simp only [go_sem])|(with_reducible first|apply ag|(refine O _ ?_;clear O U)|refine kN cS fun K hK=>?_|refine kO fun K hK=>?_|refine aI ?_)|(refine xS rfl fun U O=>?_;simp only [go_sem])|fail)
  refine CallK.curG (some 0) (j8 hC (by omega)) rfl rfl rfl rfl rfl rfl ?_
  rintro c3 _ ⟨q,hq,rfl,hC⟩
  try simp only [a_,go_sem]
  simp only [gP,dG,List.take_succ_cons,List.take_zero,List.drop_succ_cons,List.drop_zero]
  obtain ⟨⟨es,L,re,bo,ke,fa⟩,l⟩:=q
  obtain ⟨⟨e1,e24,es8,hL5⟩,hl9,hl⟩:=hq
  simp only at e1 e24 es8 hL5 hl9 hl
  have hla:∀ x ∈ l,aiB x:=fun x hx=>(hl x hx).ai
  by_cases h0:l.length = 0
  ·repeat' (first|((with_reducible first|(refine hK _ ?_;clear hK K)|refine aj fun U O=>?_|apply ah|(apply Z<;>(intro hc;try simp at hc;try omega)))<;>try simp only [go_sem,h0,an])|(with_reducible first|apply ag|(refine O _ ?_;clear O U)|refine kN cS fun K hK=>?_|refine kO fun K hK=>?_|refine aI ?_)|(refine xS rfl fun U O=>?_;simp only [go_sem,h0,an])|fail)
   ·refine CallK.curA (some 0) (mY hC (by omega)) rfl rfl rfl rfl rfl rfl ?_
    rintro c4 _ ⟨c,hc,rfl,hC⟩
    try simp only [a_,go_sem]
    obtain ⟨es,L,re,bo,ke,fa⟩:=c
    repeat' (first|((with_reducible first|(refine hK _ ?_;clear hK K)|refine aj fun U O=>?_|apply ah|(apply Z<;>(intro hc;try simp at hc;try omega)))<;>try simp only [go_sem])|(with_reducible first|apply ag|(refine O _ ?_;clear O U)|refine kN cS fun K hK=>?_|refine kO fun K hK=>?_|refine aI ?_)|(refine xS rfl fun U O=>?_;simp only [go_sem])|fail)
    refine bQ (id:=0) (xs:=[.agg [.row _ _,.row _ _,.d _,.d _,.d _,.d _],.row _ _]) _ rfl (by simp only [bl,bn,cX,dT,ae,lk,h0,an,aR,aM,if_true,if_false,Nat.reduceEqDiff,Nat.reduceBEq,Nat.reduceAdd,Bool.false_eq_true,Option.some.injEq]<;>rfl) (by simp [am,bb]) rfl (Cur.len (by assumption)) ⟨(⟨es,L,re,bo,ke,fa⟩,l),⟨hc,by simp only;omega,hla⟩,rfl,Cur.mono (by assumption) (by omega)⟩
  ·have hne:¬ l = []:=by intro h;rw [h] at h0;exact h0 rfl
   repeat' (first|with_reducible refine bs (id:=7) ?_|with_reducible refine br (id:=7) ?_|((with_reducible first|(refine hK _ ?_;clear hK K)|refine aj fun U O=>?_|apply ah|(apply Z<;>(intro hc;try simp at hc;try omega)))<;>try simp only [go_sem,h0,hne,an])|(with_reducible first|apply ag|(refine O _ ?_;clear O U)|refine kN cS fun K hK=>?_|refine kO fun K hK=>?_|refine aI ?_)|(refine xS rfl fun U O=>?_;simp only [go_sem,h0,hne,an])|((first|refine CallK.cur (some 0) (bI hC (by omega)) rfl rfl rfl rfl rfl rfl ?_);rintro c2 _ ⟨x,hx,rfl,hC⟩;try simp only [a_,go_sem,h0,hne,an])|((first|refine CallK.cur (some 0) (bI hC (by omega)) rfl rfl rfl rfl rfl rfl ?_);rintro c2 _ ⟨x,hx,rfl,hC⟩;try simp only [a_,go_sem,h0,hne,an])|fail)
   ·refine CallK.curA (some 0) (mY hC (by omega)) rfl rfl rfl rfl rfl rfl ?_
    rintro c4 _ ⟨c,hc,rfl,hC⟩
    try simp only [a_,go_sem]
    obtain ⟨es,L,re,bo,ke,fa⟩:=c
    repeat' (first|((with_reducible first|(refine hK _ ?_;clear hK K)|refine aj fun U O=>?_|apply ah|(apply Z<;>(intro hc;try simp at hc;try omega)))<;>try simp only [go_sem])|(with_reducible first|apply ag|(refine O _ ?_;clear O U)|refine kN cS fun K hK=>?_|refine kO fun K hK=>?_|refine aI ?_)|(refine xS rfl fun U O=>?_;simp only [go_sem])|fail)
    refine bQ (id:=0) (xs:=[.agg [.row _ _,.row _ _,.d _,.d _,.d _,.d _],.row _ _]) _ rfl (by simp only [bl,bn,cX,dT,ae,lk,an,aR,aM,if_true,if_false,Nat.reduceEqDiff,Nat.reduceBEq,Nat.reduceAdd,Bool.false_eq_true,Option.some.injEq]<;>rfl) (by simp [am,bb]) rfl (Cur.len (by assumption)) ⟨(⟨es,L,re,bo,ke,fa⟩,l),⟨hc,by simp only;omega,hla⟩,rfl,Cur.mono (by assumption) (by omega)⟩
   refine CallK.cur (some 0) (be hC (by omega)) rfl rfl rfl rfl rfl rfl ?_
   rintro c4 _ ⟨x,hx,rfl,hC⟩
   try simp only [a_,go_sem]
   obtain ⟨a,rfl⟩:∃ a:Nat,x = (a:Int):=⟨x.toNat,by omega⟩
   have hal:a < l.length:=by omega
   obtain ⟨e,he⟩:∃ e,l[a]? = some e:=⟨_,List.getElem?_eq_getElem hal⟩
   obtain ⟨en1,en3,eml,esz⟩:=hl e (List.mem_of_getElem? he)
   obtain ⟨m0,hm0⟩:∃ y,e.marks[0]? = some y:=⟨_,List.getElem?_eq_getElem (by omega)⟩
   obtain ⟨n0,hn0⟩:∃ y,e.names[0]? = some y:=⟨_,List.getElem?_eq_getElem (by omega)⟩
   have hml:0 < e.marks.length:=by omega
   have hnl0:0 < e.names.length:=by omega
   replace hC:Cur (k + 908) c4:=hC.mono (by omega)
   have hpc:acB ⟨es,L,re,bo,ke,fa⟩:=⟨by simp only;omega,es8,by simp only;omega⟩
   clear hx
   repeat' (first|with_reducible refine bs (id:=7) ?_|with_reducible refine br (id:=7) ?_|((with_reducible first|(refine hK _ ?_;clear hK K)|refine aj fun U O=>?_|apply ah|(apply Z<;>(intro hc;try simp at hc;try omega)))<;>try simp only [go_sem])|(with_reducible first|apply ag|(refine O _ ?_;clear O U)|refine kN cS fun K hK=>?_|refine kO fun K hK=>?_|refine aI ?_)|(refine xS rfl fun U O=>?_;simp only [go_sem])|fail)
   refine ec (fun q:CodeD × List ItemD × List D=>⟨⟨97,[(0,.bptr 0 0),(2,.bptr 1 0),(4,.bptr 2 0),(5,.row 5 q.2.1.length)]⟩,[(0,.pbox 0 ty (q.2.2.map .d)),(1,.box 42 [.d (.lst 4 []),.d (.lst 1 []),.d (.int .i64 0),.d (.int .i64 0),.d (.int .i64 0),.d (.int .i64 0)]),(2,.box 42 [.row 3 q.1.elements.length,.row 4 q.1.limits.length,.d (.int .i64 q.1.repeats),.d (.int .i64 q.1.bonus),.d (.int .i64 q.1.keeps),.d (.int .i64 q.1.fall)]),(3,.row 161 4 (q.1.elements.map ElementD.dat)),(4,.row 3 1 (q.1.limits.map ab)),(5,.deep 0 143 3 (q.2.1.map ItemD.dat))],6⟩) (fun q=>we (q.1,q.2.1)∧Cur (k + 1600) q.2.2) ?_ ?_
   ·intro K hK
    repeat' (first|((with_reducible first|(refine hK _ ?_;clear hK K)|refine aj fun U O=>?_|apply ah|(apply Z<;>(intro hc;try simp at hc;try omega)))<;>try simp only [go_sem])|(with_reducible first|apply ag|(refine O _ ?_;clear O U)|refine kN cS fun K hK=>?_|refine kO fun K hK=>?_|refine aI ?_)|(refine xS rfl fun U O=>?_;simp only [go_sem])|fail)
    refine CallK.cur (some 0) (be hC (by omega)) rfl rfl rfl rfl rfl rfl ?_;rintro c2 _ ⟨x,hx,rfl,hC⟩;try simp only [a_,go_sem]
    clear hx
    replace hC:Cur (k + 910) c2:=hC
    by_cases h0:x = 0
    ·subst h0
     repeat' (first|((with_reducible first|(refine hK _ ?_;clear hK K)|refine aj fun U O=>?_|apply ah|(apply Z<;>(intro hc;try simp at hc;try omega)))<;>try simp only [go_sem])|(with_reducible first|apply ag|(refine O _ ?_;clear O U)|refine kN cS fun K hK=>?_|refine kO fun K hK=>?_|refine aI ?_)|(refine xS rfl fun U O=>?_;simp only [go_sem])|fail)
     refine bF 9 ax rfl (fun K hK=>?_)
     refine aT 0 rfl rfl rfl (aL (.inl rfl)) ?_
     try simp only [go_sem,aA,aB,aC,an,ap,aq,ItemD.dat,he,hal,hml,aJ,aH]
     refine aT 1 rfl rfl rfl (aL (.inl rfl)) ?_
     try simp only [go_sem,aA,aB,aC,an,ap,aq,ItemD.dat,he,hal,hml,aJ,aH]
     refine aT 5 rfl rfl rfl (aL (.inl rfl)) ?_
     try simp only [go_sem,aA,aB,aC,an,ap,aq,ItemD.dat,he,hal,hml,aJ,aH]
     repeat' (first
      |((with_reducible refine O _ ?_);clear O U;try simp only [go_sem,aA,aB,aC,an,ap,aq,ItemD.dat,he,hal,hml,aJ,aH])
      |((with_reducible refine bB ?_);first
       |((first|((with_reducible first|refine aS (fuel:=5) [2,6] ?_|refine aS (fuel:=4) [3,6] ?_|refine aS (fuel:=3) [4,6] ?_);refine ⟨⟨_,rfl,fun U O=>?_⟩,⟨_,rfl,fun U O=>?_⟩,trivial⟩)|((with_reducible first|refine aS (fuel:=4) [2] ?_|refine aS (fuel:=3) [3] ?_|refine aS (fuel:=2) [6] ?_|refine aS (fuel:=2) [4] ?_|refine aS (fuel:=1) [7] ?_|refine aS (fuel:=0) [8] ?_);refine ⟨⟨_,rfl,fun U O=>?_⟩,trivial⟩))<;>((first|with_reducible refine aX rfl ?_|refine aP rfl ?_);simp only [go_sem,aA,aB,aC,an,ap,aq,ItemD.dat,he,hal,hml,aJ,aH]))
       |(refine bk (by decide +kernel) (hK _ ?_);clear hK K;try simp only [go_sem,aA,aB,aC,an,ap,aq,ItemD.dat,he,hal,hml,aJ,aH]))
      |((refine CallK.cur (some 0) (be hC (by omega)) rfl rfl rfl rfl rfl rfl ?_);(rintro c3 _ ⟨u,hu,rfl,hC3⟩);(try simp only [a_,go_sem]);(refine O _ ?_);(clear O U);(try simp only [go_sem]))
      |((refine cU (es':=e.marks.map ab) (e1:=ab m0) (ds:=[.int .i64 u]) rfl (aa _ _ G3) rfl rfl rfl (by simp only [dd,ap,he,aq,ItemD.dat];rfl) (by rw [ap,hm0];rfl) rfl rfl rfl (Nat.le_refl _) ?_);(rw [yZ he hm0]);(refine O _ ?_);(clear O U);(try simp only [go_sem]))
      |with_reducible refine aI ?_
      |with_reducible refine ba ?_|with_reducible refine bm ?_|with_reducible refine bc ?_)
     all_goals
      skip
     all_goals
      repeat' (first|((with_reducible first|(refine hK _ ?_;clear hK K)|refine aj fun U O=>?_|apply ah|(apply Z<;>(intro hc;try simp at hc;try omega)))<;>try simp only [go_sem])|(with_reducible first|apply ag|(refine O _ ?_;clear O U)|refine kN cS fun K hK=>?_|refine kO fun K hK=>?_|refine aI ?_)|(refine xS rfl fun U O=>?_;simp only [go_sem])|fail)
      exact hK (⟨es,L,re,bo,ke,fa⟩,l.set a ⟨e.names,e.marks.set 0 u,e.late⟩,c3) _ ⟨⟨hpc,by simp only [cl];omega,mT hla a ⟨by simp only;omega,by simp only [cl];omega,esz⟩⟩,hC3.mono (by omega)⟩ (ao [(3,7),(4,8)] (by simp [lk,ae,cl]<;>omega))
    by_cases h1:x = 1
    ·subst h1
     repeat' (first|((with_reducible first|(refine hK _ ?_;clear hK K)|refine aj fun U O=>?_|apply ah|(apply Z<;>(intro hc;try simp at hc;try omega)))<;>try simp only [go_sem,an,ap,aq,ItemD.dat,he,hal])|(with_reducible first|apply ag|(refine O _ ?_;clear O U)|refine kN cS fun K hK=>?_|refine kO fun K hK=>?_|refine aI ?_)|(refine xS rfl fun U O=>?_;simp only [go_sem,an,ap,aq,ItemD.dat,he,hal])|fail)
     refine jM (e:=e.dat) (ds:=[.bool (!e.late)]) rfl (aa _ _ G4) rfl rfl (by rw [ap,he];rfl) rfl rfl rfl rfl (by simp [ItemD.dat];decide) ?_
     have bj:(List.map ItemD.dat l).set a (bx e.dat 2 [.bool (!e.late)]) = List.map ItemD.dat (l.set a ⟨e.names,e.marks,!e.late⟩):=by rw [List.map_set];rfl
     rw [bj]
     repeat' (first|((with_reducible first|(refine hK _ ?_;clear hK K)|refine aj fun U O=>?_|apply ah|(apply Z<;>(intro hc;try simp at hc;try omega)))<;>try simp only [go_sem])|(with_reducible first|apply ag|(refine O _ ?_;clear O U)|refine kN cS fun K hK=>?_|refine kO fun K hK=>?_|refine aI ?_)|(refine xS rfl fun U O=>?_;simp only [go_sem])|fail)
     exact hK (⟨es,L,re,bo,ke,fa⟩,l.set a ⟨e.names,e.marks,!e.late⟩,c2) _ ⟨⟨hpc,by simp only [cl];omega,mT hla a ⟨by simp only;omega,by simp only;omega,esz⟩⟩,hC.mono (by omega)⟩ (ao [(3,7),(4,8)] (by simp [lk,ae,cl]<;>omega))
    by_cases h2:x = 2
    ·subst h2
     have hen:=eP
     have hnl:=gk
     have hns:=fS
     generalize elNames = nm at hen hnl hns
     have hn2:∀ s ∈ nm++[(⟨#[81,81]⟩:ByteArray),⟨#[]⟩],s.size≤8:=by
      intro s hs
      rcases List.mem_append.1 hs with h|h
      ·exact hns s h
      ·simp at h;rcases h with rfl|rfl<;>decide
     have hl2:(nm++[(⟨#[81,81]⟩:ByteArray),⟨#[]⟩]).length = 26:=by simp [hnl]
     have hap:List.map aZ nm++[[D.str ⟨#[81,81]⟩],[D.str ⟨#[]⟩]] = List.map aZ (nm++[⟨#[81,81]⟩,⟨#[]⟩]):=by simp [aZ]
     generalize nm++[(⟨#[81,81]⟩:ByteArray),⟨#[]⟩] = nm2 at hn2 hl2 hap
     repeat' (first|((with_reducible first|(refine hK _ ?_;clear hK K)|refine aj fun U O=>?_|apply ah|(apply Z<;>(intro hc;try simp at hc;try omega)))<;>try simp only [go_sem])|(with_reducible first|apply ag|(refine O _ ?_;clear O U)|refine kN cS fun K hK=>?_|refine kO fun K hK=>?_|refine aI ?_)|(refine xS rfl fun U O=>?_;simp only [go_sem])|fail)
     refine bF 12 ax rfl (fun K hK=>?_)
     refine aT 0 rfl rfl rfl (aL (.inl rfl)) ?_
     try simp only [go_sem,aA,aB,aC,an,ap,aq,ItemD.dat,he,hal,hnl0,hnl,hap,hl2,aJ,aH]
     refine aT 1 rfl rfl rfl (aL (.inl rfl)) ?_
     try simp only [go_sem,aA,aB,aC,an,ap,aq,ItemD.dat,he,hal,hnl0,hnl,hap,hl2,aJ,aH]
     refine aT 5 rfl rfl rfl (aL (.inl rfl)) ?_
     try simp only [go_sem,aA,aB,aC,an,ap,aq,ItemD.dat,he,hal,hnl0,hnl,hap,hl2,aJ,aH]
     repeat' (first
      |((with_reducible refine O _ ?_);clear O U;try simp only [go_sem,aA,aB,aC,an,ap,aq,ItemD.dat,he,hal,hnl0,hnl,hap,hl2,aJ,aH])
      |((with_reducible refine bB ?_);first
       |((first|((with_reducible first|refine aS (fuel:=8) [2,6,7] ?_|refine aS (fuel:=7) [3,6,7] ?_|refine aS (fuel:=6) [4,6,7] ?_);refine ⟨⟨_,rfl,fun U O=>?_⟩,⟨_,rfl,fun U O=>?_⟩,⟨_,rfl,fun U O=>?_⟩,trivial⟩)|((with_reducible first|refine aS (fuel:=7) [2,7] ?_|refine aS (fuel:=7) [2,6] ?_|refine aS (fuel:=6) [3,7] ?_|refine aS (fuel:=6) [3,6] ?_|refine aS (fuel:=6) [2,8] ?_|refine aS (fuel:=5) [6,7] ?_|refine aS (fuel:=5) [4,7] ?_|refine aS (fuel:=5) [4,6] ?_|refine aS (fuel:=5) [3,8] ?_|refine aS (fuel:=5) [2,9] ?_|refine aS (fuel:=4) [4,8] ?_|refine aS (fuel:=4) [3,9] ?_|refine aS (fuel:=3) [4,9] ?_);refine ⟨⟨_,rfl,fun U O=>?_⟩,⟨_,rfl,fun U O=>?_⟩,trivial⟩)|((with_reducible first|refine aS (fuel:=4) [7] ?_|refine aS (fuel:=4) [6] ?_|refine aS (fuel:=4) [2] ?_|refine aS (fuel:=3) [8] ?_|refine aS (fuel:=3) [3] ?_|refine aS (fuel:=2) [9] ?_|refine aS (fuel:=2) [4] ?_|refine aS (fuel:=1) [10] ?_|refine aS (fuel:=0) [11] ?_);refine ⟨⟨_,rfl,fun U O=>?_⟩,trivial⟩))<;>((first|with_reducible refine aX rfl ?_|refine aP rfl ?_);simp only [go_sem,aA,aB,aC,an,ap,aq,ItemD.dat,he,hal,hnl0,hnl,hap,hl2,aJ,aH]))
       |(refine bk (by decide +kernel) (hK _ ?_);clear hK K;try simp only [go_sem,aA,aB,aC,an,ap,aq,ItemD.dat,he,hal,hnl0,hnl,hap,hl2,aJ,aH]))
      |((with_reducible apply CallK.eq);(focus (with_reducible first|exact hen));(focus (first|exact rfl|(simp [RV.flat,D.sc,ab];done)));try simp only [go_sem,aA,aB,aC,an,ap,aq,ItemD.dat,he,hal,hnl0,hnl,hap,hl2,aJ,aH])
      |((refine CallK.cur (some 0) (mD (l:=nm2) hC (by omega) (by omega) (by omega)) rfl rfl rfl rfl rfl ?hd ?_);((case hd=>simp [cX,dT,AS.get,lk,ae,hl2]));(rintro c3 _ ⟨u,hu,rfl,hC3⟩);(try simp only [a_,go_sem]);(refine O _ ?_);(clear O U);(try simp only [go_sem]))
      |((refine cU (es':=e.names.map aZ) (e1:=aZ n0) (ds:=[.str u]) rfl (aa _ _ G9) rfl rfl rfl (by simp only [dd,ap,he,aq,ItemD.dat];rfl) (by rw [ap,hn0];rfl) rfl rfl rfl (Nat.le_refl _) ?_);(rw [yJ he hn0]);(refine O _ ?_);(clear O U);(try simp only [go_sem]))
      |with_reducible refine aI ?_
      |with_reducible refine ba ?_|with_reducible refine bm ?_|with_reducible refine bc ?_)
     all_goals
      skip
     all_goals
      repeat' (first|((with_reducible first|(refine hK _ ?_;clear hK K)|refine aj fun U O=>?_|apply ah|(apply Z<;>(intro hc;try simp at hc;try omega)))<;>try simp only [go_sem])|(with_reducible first|apply ag|(refine O _ ?_;clear O U)|refine kN cS fun K hK=>?_|refine kO fun K hK=>?_|refine aI ?_)|(refine xS rfl fun U O=>?_;simp only [go_sem])|fail)
      exact hK (⟨es,L,re,bo,ke,fa⟩,l.set a ⟨e.names.set 0 u,e.marks,e.late⟩,c3) _ ⟨⟨hpc,by simp only [cl];omega,mT hla a ⟨by simp only [cl];omega,by simp only;omega,xw esz (hn2 u hu) 0⟩⟩,hC3.mono (by omega)⟩ (ao [(3,7),(4,8)] (by simp [lk,ae,cl]<;>omega))
    by_cases h3:x = 3
    ·subst h3
     repeat' (first|((with_reducible first|(refine hK _ ?_;clear hK K)|refine aj fun U O=>?_|apply ah|(apply Z<;>(intro hc;try simp at hc;try omega)))<;>try simp only [go_sem])|(with_reducible first|apply ag|(refine O _ ?_;clear O U)|refine kN cS fun K hK=>?_|refine kO fun K hK=>?_|refine aI ?_)|(refine xS rfl fun U O=>?_;simp only [go_sem])|fail)
     refine bF 8 ax rfl (fun K hK=>?_)
     refine aT 0 rfl rfl rfl (aY rfl (aa _ _ gB) rfl rfl) ?_
     try (first|simp only [go_sem,aA,aB,aC,an,ap,aq,ab,aJ,aH,hy,hbl]|simp only [go_sem,aA,aB,aC,an,ap,aq,ab,aJ,aH])
     refine aT 2 rfl rfl rfl (aL (.inl rfl)) ?_
     try (first|simp only [go_sem,aA,aB,aC,an,ap,aq,ab,aJ,aH,hy,hbl]|simp only [go_sem,aA,aB,aC,an,ap,aq,ab,aJ,aH])
     refine aT 4 rfl rfl rfl (aL (.inl rfl)) ?_
     try (first|simp only [go_sem,aA,aB,aC,an,ap,aq,ab,aJ,aH,hy,hbl]|simp only [go_sem,aA,aB,aC,an,ap,aq,ab,aJ,aH])
     repeat' (first
      |((with_reducible refine O _ ?_);clear O U;try (first|simp only [go_sem,aA,aB,aC,an,ap,aq,ab,aJ,aH,hy,hbl]|simp only [go_sem,aA,aB,aC,an,ap,aq,ab,aJ,aH]))
      |((with_reducible refine bB ?_);first
       |((first|((with_reducible first|refine aS (fuel:=4) [1,3] ?_|refine aS (fuel:=3) [1,5] ?_);refine ⟨⟨_,rfl,fun U O=>?_⟩,⟨_,rfl,fun U O=>?_⟩,trivial⟩)|((with_reducible first|refine aS (fuel:=3) [3] ?_|refine aS (fuel:=2) [5] ?_|refine aS (fuel:=2) [1] ?_|refine aS (fuel:=1) [6] ?_|refine aS (fuel:=0) [7] ?_);refine ⟨⟨_,rfl,fun U O=>?_⟩,trivial⟩))<;>((first|with_reducible refine aX rfl ?_|refine aP rfl ?_);(first|simp only [go_sem,aA,aB,aC,an,ap,aq,ab,aJ,aH,hy,hbl]|simp only [go_sem,aA,aB,aC,an,ap,aq,ab,aJ,aH])))
       |(refine bk (by decide +kernel) (hK _ ?_);clear hK K;try (first|simp only [go_sem,aA,aB,aC,an,ap,aq,ab,aJ,aH,hy,hbl]|simp only [go_sem,aA,aB,aC,an,ap,aq,ab,aJ,aH])))
      |((refine CallK.cur (some 0) (be hC (by omega)) rfl rfl rfl rfl rfl rfl ?_);(rintro c3 _ ⟨u,hu,rfl,hC3⟩);(obtain ⟨b,rfl⟩:∃ b:Nat,u = (b:Int):=⟨u.toNat,by omega⟩);(have hbl:b < L.length:=(by omega));(obtain ⟨y,hy⟩:∃ y,L[b]? = some y:=⟨_,List.getElem?_eq_getElem hbl⟩);(try simp only [a_,go_sem]);(refine O _ ?_);(clear O U);(try simp only [go_sem]))
      |((refine CallK.cur (some 0) (be hC3 (by omega)) rfl rfl rfl rfl rfl rfl ?_);(rintro c4 _ ⟨v,hv,rfl,hC4⟩);(try simp only [a_,go_sem]);(refine O _ ?_);(clear O U);(try simp only [go_sem]))
      |with_reducible refine aI ?_
      |with_reducible refine ba ?_|with_reducible refine bm ?_|with_reducible refine bc ?_)
     all_goals
      skip
     all_goals
      repeat' (first|((with_reducible first|(refine hK _ ?_;clear hK K)|refine aj fun U O=>?_|apply ah|(apply Z<;>(intro hc;try simp at hc;try omega)))<;>try simp only [go_sem])|(with_reducible first|apply ag|(refine O _ ?_;clear O U)|refine kN cS fun K hK=>?_|refine kO fun K hK=>?_|refine aI ?_)|(refine xS rfl fun U O=>?_;simp only [go_sem])|fail)
      exact hK (⟨es,L.set b v,re,bo,ke,fa⟩,l,c4) _ ⟨⟨⟨by simp only;omega,es8,by simp only [cl];omega⟩,by simp only;omega,hla⟩,hC4.mono (by omega)⟩ (ao [(3,7),(4,8)] (by simp [lk,ae,ab,cl]<;>omega))
    by_cases h4:x = 4
    ·subst h4
     have hown:=j4 l (by omega) (fun r hr=>(hla r hr).fit)
     repeat' (first|((with_reducible first|(refine hK _ ?_;clear hK K)|refine aj fun U O=>?_|apply ah|(apply Z<;>(intro hc;try simp at hc;try omega)))<;>try simp only [go_sem,an])|(with_reducible first|apply ag|(refine O _ ?_;clear O U)|refine kN cS fun K hK=>?_|refine kO fun K hK=>?_|refine aI ?_)|(refine xS rfl fun U O=>?_;simp only [go_sem,an])|((with_reducible apply CallK.eq);(· with_reducible first|exact hown|exact ff _ _);(· simp [RV.flat,D.sc,ab]);try simp only [go_sem,an])|fail)
     obtain ⟨n,hn⟩:∃ n:Nat,(min (l.length:Int) 5).toNat = n:=⟨_,rfl⟩
     have hnl:n≤l.length∧n≤5:=by omega
     rw [hn]
     refine fc 30 rfl ?_
     simp only [go_sem]
     refine fc 31 rfl ?_
     simp only [go_sem]
     have hap:List.map ItemD.dat l++List.take n (List.map ItemD.dat l) = List.map ItemD.dat (l++l.take n):=by simp
     have hl2b:∀ r ∈ l++l.take n,aiB r:=fun r hr=>(List.mem_append.1 hr).elim (hla r) fun h=>hla r (List.mem_of_mem_take h)
     have hl2n:(l++l.take n).length≤14:=by simp;omega
     have hln:l.length + n = (l++l.take n).length:=by simp;omega
     generalize l++l.take n = lx at hap hl2b hl2n hln
     refine jZ (es:=l.map ItemD.dat) (fs:=(l.map ItemD.dat).take n) rfl (aa _ _ fk) rfl rfl rfl (by simp) (by simp [hH,AS.get,lk,ae,hnl.1]) (by simp;omega) ?_
     rw [List.length_take,an,Nat.min_eq_left hnl.1,hap,hln]
     repeat' (first|((with_reducible first|(refine hK _ ?_;clear hK K)|refine aj fun U O=>?_|apply ah|(apply Z<;>(intro hc;try simp at hc;try omega)))<;>try simp only [go_sem,an])|(with_reducible first|apply ag|(refine O _ ?_;clear O U)|refine kN cS fun K hK=>?_|refine kO fun K hK=>?_|refine aI ?_)|(refine xS rfl fun U O=>?_;simp only [go_sem,an])|fail)
     refine CallK.of (kn lx (by omega) (fun r hr=>(hl2b r hr).fit)) ?_
     rintro _ ⟨l2,hl2,rfl⟩
     refine ⟨(fun _=>by simp [RV.flat]),?_⟩
     try simp only [go_sem]
     have hl2l:=hl2.1
     repeat' (first|((with_reducible first|(refine hK _ ?_;clear hK K)|refine aj fun U O=>?_|apply ah|(apply Z<;>(intro hc;try simp at hc;try omega)))<;>try simp only [go_sem])|(with_reducible first|apply ag|(refine O _ ?_;clear O U)|refine kN cS fun K hK=>?_|refine kO fun K hK=>?_|refine aI ?_)|(refine xS rfl fun U O=>?_;simp only [go_sem])|fail)
     exact hK (⟨es,L,1,bo,ke,fa⟩,l2,c2) _ ⟨⟨⟨by simp only;omega,es8,by simp only;omega⟩,by simp only;omega,hl2.ai hl2b⟩,hC.mono (by omega)⟩ (ao [(3,7),(4,8)] (by simp [lk,ae]<;>omega))
    by_cases h5:x = 5
    ·subst h5
     repeat' (first|((with_reducible first|(refine hK _ ?_;clear hK K)|refine aj fun U O=>?_|apply ah|(apply Z<;>(intro hc;try simp at hc;try omega)))<;>try simp only [go_sem])|(with_reducible first|apply ag|(refine O _ ?_;clear O U)|refine kN cS fun K hK=>?_|refine kO fun K hK=>?_|refine aI ?_)|(refine xS rfl fun U O=>?_;simp only [go_sem])|fail)
     refine CallK.cur (some 0) (lC hC (by omega)) rfl rfl rfl rfl rfl rfl ?_
     rintro c3 _ ⟨l2,hl2,rfl,hC3⟩
     try simp only [a_,go_sem]
     repeat' (first|((with_reducible first|(refine hK _ ?_;clear hK K)|refine aj fun U O=>?_|apply ah|(apply Z<;>(intro hc;try simp at hc;try omega)))<;>try simp only [go_sem])|(with_reducible first|apply ag|(refine O _ ?_;clear O U)|refine kN cS fun K hK=>?_|refine kO fun K hK=>?_|refine aI ?_)|(refine xS rfl fun U O=>?_;simp only [go_sem])|fail)
     exact hK (⟨es,L,re,bo,ke,fa⟩,l2,c3) _ ⟨⟨hpc,by have:=hl2.1;simp only;omega,hl2.2⟩,hC3.mono (by omega)⟩ (ao [(3,7),(4,8)] (by simp [lk,ae]<;>omega))
    repeat' (first|((with_reducible first|(refine hK _ ?_;clear hK K)|refine aj fun U O=>?_|apply ah|(apply Z<;>(intro hc;try simp at hc;try omega)))<;>try simp only [go_sem,h0,h1,h2,h3,h4,h5])|(with_reducible first|apply ag|(refine O _ ?_;clear O U)|refine kN cS fun K hK=>?_|refine kO fun K hK=>?_|refine aI ?_)|(refine xS rfl fun U O=>?_;simp only [go_sem,h0,h1,h2,h3,h4,h5])|fail)
    exact hK (⟨es,L,re,bo,ke,fa⟩,l,c2) _ ⟨⟨hpc,by simp only;omega,hla⟩,hC.mono (by omega)⟩ (ao [(3,7),(4,8)] (by simp [lk,ae]<;>omega))
   ·rintro ⟨⟨es,L,re,bo,ke,fa⟩,l,c0⟩ ⟨hA,hC0⟩
    dsimp only
    repeat' (first|((with_reducible first|(refine hK _ ?_;clear hK K)|refine aj fun U O=>?_|apply ah|(apply Z<;>(intro hc;try simp at hc;try omega)))<;>try simp only [go_sem])|(with_reducible first|apply ag|(refine O _ ?_;clear O U)|refine kN cS fun K hK=>?_|refine kO fun K hK=>?_|refine aI ?_)|(refine xS rfl fun U O=>?_;simp only [go_sem])|fail)
    refine bQ (id:=0) (xs:=[.agg [.row _ _,.row _ _,.d _,.d _,.d _,.d _],.row _ _]) _ rfl (by simp only [bl,bn,cX,dT,ae,lk,an,aR,aM,if_true,if_false,Nat.reduceEqDiff,Nat.reduceBEq,Nat.reduceAdd,Bool.false_eq_true,Option.some.injEq]<;>rfl) (by simp [am,bb]) rfl (Cur.len (by assumption)) ⟨(⟨es,L,re,bo,ke,fa⟩,l),hA,rfl,hC0⟩
   exact absurd (by assumption) hne
end Go.Proofs.YtphakidbddamfaaGreat
