/-
  Drawn marks, valid or not.
-/
import Derived.Test.YtphakidbddamfaaGreatZMu
import Derived.Test.YtphakidbddamfaaGreatZPg
import Derived.Test.YtphakidbddamfaaGreatZMnb
set_option linter.unusedSimpArgs false
set_option linter.unusedVariables false
set_option maxHeartbeats 2000000
set_option maxRecDepth 100000
namespace Go.Proofs.YtphakidbddamfaaGreat
open Go.RowKit
theorem qT (m:MarksD) {g:List Int} (hg:m.components[0]? = some g):FnEq Tryz.prog 207 [.agg m.cs] [.d (.int .i64 (g.length:Int))]:=by
 refine aO aa Tryz.func207 rfl rfl ?_;simp only [Tryz.ntmps207,aR,aM,Nat.reduceAdd,Nat.reduceSub,aW]
 have h0:0 < m.components.length:=(List.getElem?_eq_some_iff.1 hg).1
 repeat' (first|((with_reducible first|(refine hK _ ?_;clear hK K)|refine aj fun U O=>?_|apply ah|(apply Z<;>(intro hc;try simp at hc;try omega)))<;>try simp only [go_sem,h0,an,ap,hg,aq,aF,MarksD.cs])|(with_reducible first|apply ag|(refine O _ ?_;clear O U)|refine kN xY fun K hK=>?_|refine kO fun K hK=>?_|refine aI ?_)|fail)
 refine ak rfl rfl (by simp [am,lk]) ?_;rfl
def lsB (n:Nat) (g:List (List Int)):Prop:=g.length≤n∧∀ x ∈ g,x.length≤10
theorem w9 {g:List (List Int)} {a b:Nat} {e:List Int} {e1 v:Int} (he:g[a]? = some e) (he1:e[b]? = some e1):ce (g.map (aF 1 ab)) a 0 (.lst 1 ((e.map ab).set b (bx (ab e1) 0 [.int .i64 v]))) = (g.set a (e.set b v)).map (aF 1 ab):=by
 simp only [ce,ap,he,aq]
 rw [List.map_set]
 simp [aF,List.map_set,bx,ab]
theorem yo {g:List (List Int)} {a:Nat} {e:List Int} (he:g[a]? = some e):ce (g.map (aF 1 ab)) a 0 .hole = (g.map (aF 1 ab)).set a [.hole]:=by
 simp only [ce,ap,he,aq]
 rfl
theorem yS (g:List (List Int)) (a:Nat) (e:List Int) (d:List D):((g.map (aF 1 ab)).set a d).set a (bx [.hole] 0 [.lst 1 ((e++[0]).map ab)]) = (g.set a (e++[0])).map (aF 1 ab):=by
 rw [List.map_set,List.set_set]
 rfl
theorem tu (n:Nat):iE (List.replicate n [D.int .i64 0]):=by rw [show List.replicate n [D.int .i64 0] = (List.replicate n (0:Int)).map ab by rw [List.map_replicate];rfl];exact bT _
theorem yY (g:List (List Int)) (a n:Nat) (u:List Int):(g.map (aF 1 ab)).set a (bx (aF 1 ab u) 0 [.lst 1 (List.replicate n [.int .i64 0])]) = (g.set a (List.replicate n 0)).map (aF 1 ab):=by
 rw [List.map_set]
 simp [aF,bx,ab]
theorem lsB.set {n:Nat} {g:List (List Int)} (h:lsB n g) (a:Nat) {e:List Int} (he:e.length≤10):lsB n (g.set a e):=⟨by rw [cl];exact h.1,fun x hx=>by
 rcases List.mem_or_eq_of_mem_set hx with h1|h1
 ·exact h.2 x h1
 ·rw [h1];exact he⟩
def uD (m:MarksD):Prop:=lsB 16 m.grades∧lsB 4 m.components
theorem rB {k:Nat} {cs:List D} {n:Nat} (hC:Cur k cs) (hk:k≤900000000) (hn:n≤16):FnC Tryz.prog 177 3 [.int .i64 (n:Int)] cs (dn (k + 600) uD fun m=>[.d (.lst 1 (m.grades.map (aF 1 ab))),.d (.lst 1 (m.components.map (aF 1 ab)))]) .agg:=by
 refine FnC.data ?_
 refine co aa Tryz.func177 rfl rfl hC.len fun ty=>?_;simp only [Tryz.ntmps177,aR,aM,Nat.reduceAdd,Nat.reduceSub,aJ,aH,an,aW]
 repeat' (first|with_reducible refine bs (id:=2) ?_|with_reducible refine br (id:=2) ?_|((with_reducible first|(refine hK _ ?_;clear hK K)|refine aj fun U O=>?_|apply ah|(apply Z<;>(intro hc;try simp at hc;try omega)))<;>try simp only [go_sem])|(with_reducible first|apply ag|(refine O _ ?_;clear O U)|refine kN cD fun K hK=>?_|refine kO fun K hK=>?_|refine aI ?_)|apply iB)
 refine CallK.curA (some 0) (p9 hC (by omega) hn) rfl rfl rfl rfl rfl rfl ?_
 rintro c2 _ ⟨m,hm,rfl,hC⟩
 try simp only [a_,go_sem]
 obtain ⟨g,p⟩:=m
 obtain ⟨j,hj3,hj9,⟨hg,hgj⟩,hp,hpj⟩:=hm
 simp only at hg hgj hp hpj
 subst hg
 obtain ⟨y,hy⟩:∃ y,p[0]? = some y:=⟨_,List.getElem?_eq_getElem (by omega)⟩
 obtain ⟨y1,hy1⟩:∃ y,p[1]? = some y:=⟨_,List.getElem?_eq_getElem (by omega)⟩
 have hyl:=hpj y (List.mem_of_getElem? hy)
 have hj:=qT ⟨g,p⟩ hy
 rw [hyl] at hj
 repeat' (first|with_reducible refine bs (id:=3) ?_|with_reducible refine br (id:=3) ?_|((with_reducible first|(refine hK _ ?_;clear hK K)|refine aj fun U O=>?_|apply ah|(apply Z<;>(intro hc;try simp at hc;try omega)))<;>try simp only [go_sem])|(with_reducible first|apply ag|(refine O _ ?_;clear O U)|refine kN cD fun K hK=>?_|refine kO fun K hK=>?_|refine aI ?_)|((with_reducible apply CallK.eq);(· with_reducible first|exact hj);(· simp [RV.flat,D.sc,ab]);try simp only [go_sem])|((first|refine CallK.cur (some 0) (be (by assumption) (by omega)) rfl rfl rfl rfl rfl rfl ?_);rintro c2 _ ⟨x,hx,rfl,hC⟩;try simp only [a_,go_sem])|apply iB)
 obtain ⟨b,rfl⟩:∃ b:Nat,x = (b:Int):=⟨x.toNat,by omega⟩
 have hbj:b < j:=by omega
 replace hC:Cur (k + 502) c2:=hC
 clear hx hj
 have hgb:lsB 16 g:=⟨hn,fun x hx=>by rw [hgj x hx];omega⟩
 have hpb:lsB 4 p:=⟨by omega,fun x hx=>by rw [hpj x hx];omega⟩
 refine ec (fun q:MarksD × Bool × List D=>⟨⟨110,[(0,.bptr 0 0),(4,.bptr 1 0),(5,.bptr 2 0)]⟩,[(0,.pbox 0 ty (q.2.2.map .d)),(1,.box 45 [.d (.lst 1 []),.d (.lst 1 [])]),(2,.box 45 [.row 3 q.1.grades.length,.row 4 q.1.components.length]),(3,.deep 0 23 1 (q.1.grades.map (aF 1 ab))),(4,cond q.2.1 (.deep 0 23 1 (q.1.components.map (aF 1 ab))) (.row 23 1 (q.1.components.map (aF 1 ab))))],5⟩) (fun q=>uD q.1∧Cur (k + 600) q.2.2) ?_ ?_
 ·intro K hK
  repeat' (first|((with_reducible first|(refine hK _ ?_;clear hK K)|refine aj fun U O=>?_|apply ah|(apply Z<;>(intro hc;try simp at hc;try omega)))<;>try simp only [go_sem])|(with_reducible first|apply ag|(refine O _ ?_;clear O U)|refine kN cD fun K hK=>?_|refine kO fun K hK=>?_|refine aI ?_)|apply iB)
  refine CallK.cur (some 0) (be hC (by omega)) rfl rfl rfl rfl rfl rfl ?_;rintro c2 _ ⟨x,hx,rfl,hC⟩;try simp only [a_,go_sem]
  clear hx
  replace hC:Cur (k + 504) c2:=hC
  by_cases h0:x = 0
  ·subst h0
   by_cases hn0:(0:Int) < (g.length:Int)
   ·repeat' (first|((with_reducible first|(refine hK _ ?_;clear hK K)|refine aj fun U O=>?_|apply ah|(apply Z<;>(intro hc;try simp at hc;try omega)))<;>try simp only [go_sem,hn0])|(with_reducible first|apply ag|(refine O _ ?_;clear O U)|refine kN cD fun K hK=>?_|refine kO fun K hK=>?_|refine aI ?_)|apply iB)
    refine bF 13 ax rfl (fun K hK=>?_)
    refine aT 0 rfl rfl rfl (aY rfl (aa _ _ fT) rfl rfl) ?_
    try (first|simp only [go_sem,aA,aB,aC,an,ap,aq,aF,aJ,aH,he,hag,hbl]|simp only [go_sem,aA,aB,aC,an,ap,aq,aF,aJ,aH])
    refine aT 2 rfl rfl rfl (aL (.inl rfl)) ?_
    try (first|simp only [go_sem,aA,aB,aC,an,ap,aq,aF,aJ,aH,he,hag,hbl]|simp only [go_sem,aA,aB,aC,an,ap,aq,aF,aJ,aH])
    refine aT 3 rfl rfl rfl (aL (.inl rfl)) ?_
    try (first|simp only [go_sem,aA,aB,aC,an,ap,aq,aF,aJ,aH,he,hag,hbl]|simp only [go_sem,aA,aB,aC,an,ap,aq,aF,aJ,aH])
    refine aT 7 rfl rfl rfl (aL (.inl rfl)) ?_
    try (first|simp only [go_sem,aA,aB,aC,an,ap,aq,aF,aJ,aH,he,hag,hbl]|simp only [go_sem,aA,aB,aC,an,ap,aq,aF,aJ,aH])
    refine aT 8 rfl rfl rfl (aL (.inl rfl)) ?_
    try (first|simp only [go_sem,aA,aB,aC,an,ap,aq,aF,aJ,aH,he,hag,hbl]|simp only [go_sem,aA,aB,aC,an,ap,aq,aF,aJ,aH])
    repeat' (first
     |((with_reducible refine O _ ?_);clear O U;try (first|simp only [go_sem,aA,aB,aC,an,ap,aq,aF,aJ,aH,he,hag,hbl]|simp only [go_sem,aA,aB,aC,an,ap,aq,aF,aJ,aH]))
     |((with_reducible refine bB ?_);first
      |((first|((with_reducible first|refine aS (fuel:=7) [1,4,9] ?_);refine ⟨⟨_,rfl,fun U O=>?_⟩,⟨_,rfl,fun U O=>?_⟩,⟨_,rfl,fun U O=>?_⟩,trivial⟩)|((with_reducible first|refine aS (fuel:=6) [4,9] ?_|refine aS (fuel:=6) [1,9] ?_|refine aS (fuel:=6) [1,4] ?_|refine aS (fuel:=5) [5,9] ?_|refine aS (fuel:=5) [1,10] ?_|refine aS (fuel:=4) [6,9] ?_|refine aS (fuel:=4) [5,10] ?_|refine aS (fuel:=3) [6,10] ?_);refine ⟨⟨_,rfl,fun U O=>?_⟩,⟨_,rfl,fun U O=>?_⟩,trivial⟩)|((with_reducible first|refine aS (fuel:=5) [4] ?_|refine aS (fuel:=4) [1] ?_|refine aS (fuel:=3) [9] ?_|refine aS (fuel:=3) [5] ?_|refine aS (fuel:=2) [10] ?_|refine aS (fuel:=2) [6] ?_|refine aS (fuel:=1) [11] ?_|refine aS (fuel:=0) [12] ?_);refine ⟨⟨_,rfl,fun U O=>?_⟩,trivial⟩))<;>((first|with_reducible refine aX rfl ?_|refine aP rfl ?_);(first|simp only [go_sem,aA,aB,aC,an,ap,aq,aF,aJ,aH,he,hag,hbl]|simp only [go_sem,aA,aB,aC,an,ap,aq,aF,aJ,aH])))
      |(refine bk (by decide +kernel) (hK _ ?_);clear hK K;try (first|simp only [go_sem,aA,aB,aC,an,ap,aq,aF,aJ,aH,he,hag,hbl]|simp only [go_sem,aA,aB,aC,an,ap,aq,aF,aJ,aH])))
     |((refine CallK.cur (some 0) (be hC (by omega)) rfl rfl rfl rfl rfl rfl ?_);(rintro c3 _ ⟨u,hu,rfl,hC3⟩);(obtain ⟨a,rfl⟩:∃ a:Nat,u = (a:Int):=⟨u.toNat,by omega⟩);(have hag:a < g.length:=(by omega));(obtain ⟨e,he⟩:∃ e,g[a]? = some e:=⟨_,List.getElem?_eq_getElem hag⟩);(have hel:=hgj e (List.mem_of_getElem? he));(have hbl:b < e.length:=(by omega));(obtain ⟨e1,he1⟩:∃ y,e[b]? = some y:=⟨_,List.getElem?_eq_getElem hbl⟩);(try simp only [a_,go_sem]);(refine O _ ?_);(clear O U);(try simp only [go_sem]))
     |((refine CallK.cur (some 0) (bu (l:=[-6,-5,5,6]) hC3 (by omega) (by simp) (by simp)) rfl rfl rfl rfl rfl rfl ?_);(rintro c4 _ ⟨v,hv,rfl,hC4⟩);(try simp only [a_,go_sem]);(refine O _ ?_);(clear O U);(try simp only [go_sem]))
     |((refine cU (es':=e.map ab) (e1:=ab e1) (ds:=[.int .i64 v]) rfl (aa _ _ G3) rfl rfl rfl (by simp only [dd,ap,he,aq,aF];rfl) (by rw [ap,he1];rfl) rfl rfl rfl (Nat.le_refl _) ?_);(rw [w9 he he1]);(refine O _ ?_);(clear O U);(try simp only [go_sem]))
     |with_reducible refine aI ?_
     |with_reducible refine ba ?_|with_reducible refine bm ?_|with_reducible refine bc ?_)
    all_goals
     skip
    all_goals
     repeat' (first|((with_reducible first|(refine hK _ ?_;clear hK K)|refine aj fun U O=>?_|apply ah|(apply Z<;>(intro hc;try simp at hc;try omega)))<;>try simp only [go_sem])|(with_reducible first|apply ag|(refine O _ ?_;clear O U)|refine kN cD fun K hK=>?_|refine kO fun K hK=>?_|refine aI ?_)|apply iB)
     exact hK (⟨g.set a (e.set b v),p⟩,true,c4) _ ⟨⟨hgb.set a (by rw [cl];omega),hpb⟩,hC4.mono (by omega)⟩ (ao [(3,2),(4,3)] (by simp [lk,ae,aF,cl,cond]<;>omega))
   ·repeat' (first|((with_reducible first|(refine hK _ ?_;clear hK K)|refine aj fun U O=>?_|apply ah|(apply Z<;>(intro hc;try simp at hc;try omega)))<;>try simp only [go_sem,hn0])|(with_reducible first|apply ag|(refine O _ ?_;clear O U)|refine kN cD fun K hK=>?_|refine kO fun K hK=>?_|refine aI ?_)|apply iB)
    exact hK (⟨g,p⟩,true,c2) _ ⟨⟨hgb,hpb⟩,hC.mono (by omega)⟩ (ao [(3,2),(4,3)] (by simp [lk,ae,cond]<;>omega))
  by_cases h1:x = 1
  ·subst h1
   repeat' (first|((with_reducible first|(refine hK _ ?_;clear hK K)|refine aj fun U O=>?_|apply ah|(apply Z<;>(intro hc;try simp at hc;try omega)))<;>try simp only [go_sem])|(with_reducible first|apply ag|(refine O _ ?_;clear O U)|refine kN cD fun K hK=>?_|refine kO fun K hK=>?_|refine aI ?_)|apply iB)
   refine bF 12 ax rfl (fun K hK=>?_)
   refine aT 0 rfl rfl rfl (aY rfl (aa _ _ fT) rfl rfl) ?_
   try (first|simp only [go_sem,aA,aB,aC,an,ap,aq,aF,aJ,aH,he,hag,hbl]|simp only [go_sem,aA,aB,aC,an,ap,aq,aF,aJ,aH])
   refine aT 2 rfl rfl rfl (aL (.inl rfl)) ?_
   try (first|simp only [go_sem,aA,aB,aC,an,ap,aq,aF,aJ,aH,he,hag,hbl]|simp only [go_sem,aA,aB,aC,an,ap,aq,aF,aJ,aH])
   refine aT 6 rfl rfl rfl (aL (.inl rfl)) ?_
   try (first|simp only [go_sem,aA,aB,aC,an,ap,aq,aF,aJ,aH,he,hag,hbl]|simp only [go_sem,aA,aB,aC,an,ap,aq,aF,aJ,aH])
   refine aT 7 rfl rfl rfl (aL (.inl rfl)) ?_
   try (first|simp only [go_sem,aA,aB,aC,an,ap,aq,aF,aJ,aH,he,hag,hbl]|simp only [go_sem,aA,aB,aC,an,ap,aq,aF,aJ,aH])
   repeat' (first
    |((with_reducible refine O _ ?_);clear O U;try (first|simp only [go_sem,aA,aB,aC,an,ap,aq,aF,aJ,aH,he,hag,hbl]|simp only [go_sem,aA,aB,aC,an,ap,aq,aF,aJ,aH]))
    |((with_reducible refine bB ?_);first
     |((first|((with_reducible first|refine aS (fuel:=7) [1,3,8] ?_);refine ⟨⟨_,rfl,fun U O=>?_⟩,⟨_,rfl,fun U O=>?_⟩,⟨_,rfl,fun U O=>?_⟩,trivial⟩)|((with_reducible first|refine aS (fuel:=6) [3,8] ?_|refine aS (fuel:=6) [1,8] ?_|refine aS (fuel:=6) [1,3] ?_|refine aS (fuel:=5) [4,8] ?_|refine aS (fuel:=5) [1,9] ?_|refine aS (fuel:=4) [5,8] ?_|refine aS (fuel:=4) [4,9] ?_|refine aS (fuel:=3) [5,9] ?_);refine ⟨⟨_,rfl,fun U O=>?_⟩,⟨_,rfl,fun U O=>?_⟩,trivial⟩)|((with_reducible first|refine aS (fuel:=5) [3] ?_|refine aS (fuel:=4) [1] ?_|refine aS (fuel:=3) [8] ?_|refine aS (fuel:=3) [4] ?_|refine aS (fuel:=2) [9] ?_|refine aS (fuel:=2) [5] ?_|refine aS (fuel:=1) [10] ?_|refine aS (fuel:=0) [11] ?_);refine ⟨⟨_,rfl,fun U O=>?_⟩,trivial⟩))<;>((first|with_reducible refine aX rfl ?_|refine aP rfl ?_);(first|simp only [go_sem,aA,aB,aC,an,ap,aq,aF,aJ,aH,he,hag,hbl]|simp only [go_sem,aA,aB,aC,an,ap,aq,aF,aJ,aH])))
     |(refine bk (by decide +kernel) (hK _ ?_);clear hK K;try (first|simp only [go_sem,aA,aB,aC,an,ap,aq,aF,aJ,aH,he,hag,hbl]|simp only [go_sem,aA,aB,aC,an,ap,aq,aF,aJ,aH])))
    |((refine CallK.cur (some 0) (be (n:=3) hC (by omega)) rfl rfl rfl rfl rfl rfl ?_);(rintro c3 _ ⟨u,hu,rfl,hC3⟩);(obtain ⟨a,rfl⟩:∃ a:Nat,u = (a:Int):=⟨u.toNat,by omega⟩);(have hag:a < p.length:=(by omega));(obtain ⟨e,he⟩:∃ e,p[a]? = some e:=⟨_,List.getElem?_eq_getElem hag⟩);(have hel:=hpj e (List.mem_of_getElem? he));(have hbl:b < e.length:=(by omega));(obtain ⟨e1,he1⟩:∃ y,e[b]? = some y:=⟨_,List.getElem?_eq_getElem hbl⟩);(try simp only [a_,go_sem]);(refine O _ ?_);(clear O U);(try simp only [go_sem]))
    |((refine CallK.cur (some 0) (bu (l:=[-25,0,10,1000,1025]) hC3 (by omega) (by simp) (by simp)) rfl rfl rfl rfl rfl rfl ?_);(rintro c4 _ ⟨v,hv,rfl,hC4⟩);(try simp only [a_,go_sem]);(refine O _ ?_);(clear O U);(try simp only [go_sem]))
    |((refine cU (es':=e.map ab) (e1:=ab e1) (ds:=[.int .i64 v]) rfl (aa _ _ G3) rfl rfl rfl (by simp only [dd,ap,he,aq,aF];rfl) (by rw [ap,he1];rfl) rfl rfl rfl (Nat.le_refl _) ?_);(rw [w9 he he1]);(refine O _ ?_);(clear O U);(try simp only [go_sem]))
    |with_reducible refine aI ?_
    |with_reducible refine ba ?_|with_reducible refine bm ?_|with_reducible refine bc ?_)
   all_goals
    skip
   all_goals
    repeat' (first|((with_reducible first|(refine hK _ ?_;clear hK K)|refine aj fun U O=>?_|apply ah|(apply Z<;>(intro hc;try simp at hc;try omega)))<;>try simp only [go_sem])|(with_reducible first|apply ag|(refine O _ ?_;clear O U)|refine kN cD fun K hK=>?_|refine kO fun K hK=>?_|refine aI ?_)|apply iB)
    exact hK (⟨g,p.set a (e.set b v)⟩,true,c4) _ ⟨⟨hgb,hpb.set a (by rw [cl];omega)⟩,hC4.mono (by omega)⟩ (ao [(3,2),(4,3)] (by simp [lk,ae,aF,cl,cond]<;>omega))
  by_cases h2:x = 2
  ·subst h2
   by_cases hn0:(0:Int) < (g.length:Int)
   ·repeat' (first|((with_reducible first|(refine hK _ ?_;clear hK K)|refine aj fun U O=>?_|apply ah|(apply Z<;>(intro hc;try simp at hc;try omega)))<;>try simp only [go_sem,hn0])|(with_reducible first|apply ag|(refine O _ ?_;clear O U)|refine kN cD fun K hK=>?_|refine kO fun K hK=>?_|refine aI ?_)|apply iB)
    refine CallK.cur (some 0) (be hC (by omega)) rfl rfl rfl rfl rfl rfl ?_;rintro c2 _ ⟨x,hx,rfl,hC⟩;try simp only [a_,go_sem]
    obtain ⟨a,rfl⟩:∃ a:Nat,x = (a:Int):=⟨x.toNat,by omega⟩
    have hag:a < g.length:=by omega
    obtain ⟨e,he⟩:∃ e,g[a]? = some e:=⟨_,List.getElem?_eq_getElem hag⟩
    have hel:=hgj e (List.mem_of_getElem? he)
    have hG:=yo he
    have hapG:=yS g a e
    have hfl:iE (e.map ab++[[.int .i64 0]]):=by rw [show e.map ab++[[.int .i64 0]] = (e++[0]).map ab by simp [ab]];exact bT _
    repeat' (first|((with_reducible first|(refine hK _ ?_;clear hK K)|refine aj fun U O=>?_|apply ah|(apply Z<;>(intro hc;try simp at hc;try omega)))<;>try simp only [go_sem])|(with_reducible first|apply ag|(refine O _ ?_;clear O U)|refine kN cD fun K hK=>?_|refine kO fun K hK=>?_|refine aI ?_)|apply iB)
    refine bF 12 ax rfl (fun K hK=>?_)
    refine aT 0 rfl rfl rfl (aY rfl (aa _ _ fT) rfl rfl) ?_
    try simp only [go_sem,aA,aB,aC,an,ap,aq,aF,he,hag,aJ,aH]
    refine aT 2 rfl rfl rfl (aL (.inl rfl)) ?_
    try simp only [go_sem,aA,aB,aC,an,ap,aq,aF,he,hag,aJ,aH]
    refine aT 3 rfl rfl rfl (aY rfl (aa _ _ fT) rfl rfl) ?_
    try simp only [go_sem,aA,aB,aC,an,ap,aq,aF,he,hag,aJ,aH]
    refine aT 5 rfl rfl rfl (aL (.inl rfl)) ?_
    try simp only [go_sem,aA,aB,aC,an,ap,aq,aF,he,hag,aJ,aH]
    repeat' (first
     |((with_reducible refine O _ ?_);clear O U;try simp only [go_sem,aA,aB,aC,an,ap,aq,aF,he,hag,aJ,aH])
     |((with_reducible refine bB ?_);first
      |((first|((with_reducible first|refine aS (fuel:=7) [1,4,8] ?_|refine aS (fuel:=6) [1,6,8] ?_|refine aS (fuel:=5) [1,7,8] ?_);refine ⟨⟨_,rfl,fun U O=>?_⟩,⟨_,rfl,fun U O=>?_⟩,⟨_,rfl,fun U O=>?_⟩,trivial⟩)|((with_reducible first|refine aS (fuel:=6) [4,8] ?_|refine aS (fuel:=6) [1,4] ?_|refine aS (fuel:=5) [6,8] ?_|refine aS (fuel:=5) [1,6] ?_|refine aS (fuel:=4) [7,8] ?_|refine aS (fuel:=4) [1,8] ?_|refine aS (fuel:=4) [1,7] ?_|refine aS (fuel:=3) [1,9] ?_);refine ⟨⟨_,rfl,fun U O=>?_⟩,⟨_,rfl,fun U O=>?_⟩,trivial⟩)|((with_reducible first|refine aS (fuel:=5) [4] ?_|refine aS (fuel:=4) [6] ?_|refine aS (fuel:=3) [8] ?_|refine aS (fuel:=3) [7] ?_|refine aS (fuel:=2) [9] ?_|refine aS (fuel:=2) [1] ?_|refine aS (fuel:=1) [10] ?_|refine aS (fuel:=0) [11] ?_);refine ⟨⟨_,rfl,fun U O=>?_⟩,trivial⟩))<;>((first|with_reducible refine aX rfl ?_|refine aP rfl ?_);simp only [go_sem,aA,aB,aC,an,ap,aq,aF,he,hag,aJ,aH]))
      |(refine bk (by decide +kernel) (hK _ ?_);clear hK K;try simp only [go_sem,aA,aB,aC,an,ap,aq,aF,he,hag,aJ,aH]))
     |(((first|(refine rF (id:=21) (par:=2) (k:=a) (j:=0) rfl rfl (show dd _ _ _ = some (1,e.map ab) by simp [dd,he,aF]) (by simp [io]) fun ty2=>?_;simp only [go_sem,hG];refine fc 21 rfl ?_;simp only [go_sem];refine ln (es:=e.map ab) (fs:=[[.int .i64 0]]) rfl (aa _ _ jR) rfl rfl (by simp) rfl (by simp;omega) fun ty3=>?_;simp only [go_sem,hG,an])|(refine rF (id:=22) (par:=2) (k:=a) (j:=0) rfl rfl (show dd _ _ _ = some (1,e.map ab) by simp [dd,he,aF]) (by simp [io]) fun ty2=>?_;simp only [go_sem,hG];refine fc 22 rfl ?_;simp only [go_sem];refine ln (es:=e.map ab) (fs:=[[.int .i64 0]]) rfl (aa _ _ jR) rfl rfl (by simp) rfl (by simp;omega) fun ty3=>?_;simp only [go_sem,hG,an])));(refine O _ ?_);(clear O U);(try simp only [go_sem]))
     |((refine j7 (e:=[.hole]) (ds:=[.lst 1 ((e++[0]).map ab)]) rfl (aa _ _ jR) rfl rfl (by simp [hag]) (by simp [dE,dL,bg,AS.get,lk,ae,ab]) (by simp [bg,AS.get,lk,bb]) (by simp only [bg,AS.get,lk,cY,cy,ae,if_true,if_false,Nat.reduceEqDiff,Option.getD_some,Option.getD_none];exact ⟨hfl,trivial⟩) (by simp [bg,AS.get,lk,bb]) rfl (Nat.le_refl _) ?_);(rw [hapG]);(refine O _ ?_);(clear O U);(try simp only [go_sem]))
     |with_reducible refine aI ?_
     |with_reducible refine ba ?_|with_reducible refine bm ?_|with_reducible refine bc ?_)
    all_goals
     skip
    all_goals
     repeat' (first|((with_reducible first|(refine hK _ ?_;clear hK K)|refine aj fun U O=>?_|apply ah|(apply Z<;>(intro hc;try simp at hc;try omega)))<;>try simp only [go_sem])|(with_reducible first|apply ag|(refine O _ ?_;clear O U)|refine kN cD fun K hK=>?_|refine kO fun K hK=>?_|refine aI ?_)|apply iB)
     exact hK (⟨g.set a (e++[0]),p⟩,true,c2) _ ⟨⟨hgb.set a (by simp;omega),hpb⟩,hC.mono (by omega)⟩ (ao [(3,2),(4,3)] (by simp [lk,ae,cl,cond]<;>omega))
   ·repeat' (first|((with_reducible first|(refine hK _ ?_;clear hK K)|refine aj fun U O=>?_|apply ah|(apply Z<;>(intro hc;try simp at hc;try omega)))<;>try simp only [go_sem,hn0])|(with_reducible first|apply ag|(refine O _ ?_;clear O U)|refine kN cD fun K hK=>?_|refine kO fun K hK=>?_|refine aI ?_)|apply iB)
    exact hK (⟨g,p⟩,true,c2) _ ⟨⟨hgb,hpb⟩,hC.mono (by omega)⟩ (ao [(3,2),(4,3)] (by simp [lk,ae,cond]<;>omega))
  by_cases h3:x = 3
  ·subst h3
   repeat' (first|((with_reducible first|(refine hK _ ?_;clear hK K)|refine aj fun U O=>?_|apply ah|(apply Z<;>(intro hc;try simp at hc;try omega)))<;>try simp only [go_sem])|(with_reducible first|apply ag|(refine O _ ?_;clear O U)|refine kN cD fun K hK=>?_|refine kO fun K hK=>?_|refine aI ?_)|apply iB)
   refine gG 3 rfl ?_
   simp only [go_sem]
   refine bF 10 ax rfl (fun K hK=>?_)
   refine aT 0 rfl rfl rfl (aY rfl (aa _ _ fT) rfl rfl) ?_
   try simp only [go_sem,aA,aB,aC,an,ap,aq,aF,hy,hp,aJ,aH]
   refine aT 2 rfl rfl rfl (aY rfl (aa _ _ fT) rfl rfl) ?_
   try simp only [go_sem,aA,aB,aC,an,ap,aq,aF,hy,hp,aJ,aH]
   repeat' (first
    |((with_reducible refine O _ ?_);clear O U;try simp only [go_sem,aA,aB,aC,an,ap,aq,aF,hy,hp,aJ,aH])
    |((with_reducible refine bB ?_);first
     |(refine aT 8 rfl rfl rfl (aY rfl (aa _ _ fT) rfl rfl) ?_;try simp only [go_sem,aA,aB,aC,an,ap,aq,aF,hy,hp,aJ,aH])
     |((first|((with_reducible first|refine aS (fuel:=7) [1,3] ?_|refine aS (fuel:=6) [1,4] ?_|refine aS (fuel:=5) [1,5] ?_|refine aS (fuel:=4) [1,6] ?_);refine ⟨⟨_,rfl,fun U O=>?_⟩,⟨_,rfl,fun U O=>?_⟩,trivial⟩)|((with_reducible first|refine aS (fuel:=6) [3] ?_|refine aS (fuel:=5) [4] ?_|refine aS (fuel:=4) [5] ?_|refine aS (fuel:=3) [6] ?_|refine aS (fuel:=3) [1] ?_|refine aS (fuel:=2) [7] ?_|refine aS (fuel:=0) [9] ?_);refine ⟨⟨_,rfl,fun U O=>?_⟩,trivial⟩))<;>((first|with_reducible refine aX rfl ?_|refine aP rfl ?_);simp only [go_sem,aA,aB,aC,an,ap,aq,aF,hy,hp,aJ,aH]))
     |(refine bk (by decide +kernel) (hK _ ?_);clear hK K;try simp only [go_sem,aA,aB,aC,an,ap,aq,aF,hy,hp,aJ,aH]))
    |with_reducible refine aI ?_
    |with_reducible refine ba ?_|with_reducible refine bm ?_|with_reducible refine bc ?_)
   all_goals
    skip
   all_goals
    repeat' (first|((with_reducible first|(refine hK _ ?_;clear hK K)|refine aj fun U O=>?_|apply ah|(apply Z<;>(intro hc;try simp at hc;try omega)))<;>try simp only [go_sem])|(with_reducible first|apply ag|(refine O _ ?_;clear O U)|refine kN cD fun K hK=>?_|refine kO fun K hK=>?_|refine aI ?_)|apply iB)
    exact hK (⟨g,p++[y]⟩,false,c2) _ ⟨⟨hgb,⟨by simp;omega,cg hpb.2 (by omega)⟩⟩,hC.mono (by omega)⟩ (ao [(3,2),(4,18)] (by simp [lk,ae,aF,cond]<;>omega))
  by_cases h4:x = 4
  ·subst h4
   repeat' (first|((with_reducible first|(refine hK _ ?_;clear hK K)|refine aj fun U O=>?_|apply ah|(apply Z<;>(intro hc;try simp at hc;try omega)))<;>try simp only [go_sem])|(with_reducible first|apply ag|(refine O _ ?_;clear O U)|refine kN cD fun K hK=>?_|refine kO fun K hK=>?_|refine aI ?_)|apply iB)
   refine gG 3 rfl ?_
   simp only [go_sem]
   have h1p:1 < p.length:=by omega
   have hy1l:=hpj y1 (List.mem_of_getElem? hy1)
   have htk:(y1.map ab).take y1.length = y1.map ab:=List.take_of_length_le (by simp)
   refine bF 9 ax rfl (fun K hK=>?_)
   refine aT 0 rfl rfl rfl (aY rfl (aa _ _ fT) rfl rfl) ?_
   try simp only [go_sem,aA,aB,aC,an,ap,aq,aF,hy1,h1p,Int.toNat_one,aJ,aH]
   refine aT 2 rfl rfl rfl (aY rfl (aa _ _ fT) rfl rfl) ?_
   try simp only [go_sem,aA,aB,aC,an,ap,aq,aF,hy1,h1p,Int.toNat_one,aJ,aH]
   repeat' (first
    |((with_reducible refine O _ ?_);clear O U;try simp only [go_sem,aA,aB,aC,an,ap,aq,aF,hy1,h1p,Int.toNat_one,aJ,aH])
    |((with_reducible refine bB ?_);first
     |((first|((with_reducible first|refine aS (fuel:=6) [1,3] ?_|refine aS (fuel:=5) [1,4] ?_|refine aS (fuel:=4) [1,5] ?_|refine aS (fuel:=3) [1,6] ?_);refine ⟨⟨_,rfl,fun U O=>?_⟩,⟨_,rfl,fun U O=>?_⟩,trivial⟩)|((with_reducible first|refine aS (fuel:=5) [3] ?_|refine aS (fuel:=4) [4] ?_|refine aS (fuel:=3) [5] ?_|refine aS (fuel:=2) [6] ?_|refine aS (fuel:=2) [1] ?_|refine aS (fuel:=1) [7] ?_|refine aS (fuel:=0) [8] ?_);refine ⟨⟨_,rfl,fun U O=>?_⟩,trivial⟩))<;>((first|with_reducible refine aX rfl ?_|refine aP rfl ?_);simp only [go_sem,aA,aB,aC,an,ap,aq,aF,hy1,h1p,Int.toNat_one,aJ,aH]))
     |(refine bk (by decide +kernel) (hK _ ?_);clear hK K;try simp only [go_sem,aA,aB,aC,an,ap,aq,aF,hy1,h1p,Int.toNat_one,aJ,aH]))
    |with_reducible refine aI ?_
    |with_reducible refine ba ?_|with_reducible refine bm ?_|with_reducible refine bc ?_)
   all_goals
    skip
   all_goals
    repeat' (first|((with_reducible first|(refine hK _ ?_;clear hK K)|refine aj fun U O=>?_|apply ah|(apply Z<;>(intro hc;try simp at hc;try omega)))<;>try simp only [go_sem])|(with_reducible first|apply ag|(refine O _ ?_;clear O U)|refine kN cD fun K hK=>?_|refine kO fun K hK=>?_|refine aI ?_)|apply iB)
    exact hK (⟨g,p.set 1 (y1.drop 1)⟩,false,c2) _ ⟨⟨hgb,hpb.set 1 (by simp;omega)⟩,hC.mono (by omega)⟩ (ao [(3,2),(4,3)] (by simp [lk,ae,aF,cond,htk]<;>omega))
  by_cases h5:x = 5
  ·subst h5
   repeat' (first|((with_reducible first|(refine hK _ ?_;clear hK K)|refine aj fun U O=>?_|apply ah|(apply Z<;>(intro hc;try simp at hc;try omega)))<;>try simp only [go_sem])|(with_reducible first|apply ag|(refine O _ ?_;clear O U)|refine kN cD fun K hK=>?_|refine kO fun K hK=>?_|refine aI ?_)|apply iB)
   refine CallK.cur (some 0) (bu (l:=[2,9,10]) hC (by omega) (by simp) (by simp)) rfl rfl rfl rfl rfl rfl ?_;rintro c2 _ ⟨x,hx,rfl,hC⟩;try simp only [a_,go_sem]
   obtain ⟨n,rfl,hn10⟩:∃ n:Nat,x = (n:Int)∧n≤10:=⟨x.toNat,by simp at hx;omega,by simp at hx;omega⟩
   repeat' (first|with_reducible refine bs (id:=19) ?_|with_reducible refine br (id:=19) ?_|((with_reducible first|(refine hK _ ?_;clear hK K)|refine aj fun U O=>?_|apply ah|(apply Z<;>(intro hc;try simp at hc;try omega)))<;>try simp only [go_sem])|(with_reducible first|apply ag|(refine O _ ?_;clear O U)|refine kN cD fun K hK=>?_|refine kO fun K hK=>?_|refine aI ?_)|apply iB)
   unfold eF
   refine cm (ck ?_)
   refine a9 aa ?_
   simp only [go_sem]
   refine fA 23 1 rfl (aa _ _ jU) rfl rfl rfl (show 0 + 1≤2 by decide) ?_
   simp only [go_sem]
   refine ba ?_
   refine dP 22 rfl (by intro e he;cases he) ?_
   simp only [go_sem]
   repeat' (first|((with_reducible first|(refine hK _ ?_;clear hK K)|refine aj fun U O=>?_|apply ah|(apply Z<;>(intro hc;try simp at hc;try omega)))<;>try simp only [go_sem])|(with_reducible first|apply ag|(refine O _ ?_;clear O U)|refine kN cD fun K hK=>?_|refine kO fun K hK=>?_|refine aI ?_)|apply iB)
   refine aD [9,96,97,98,99,100,101,102,103,104,105] (fun q:Nat × List (List Int)=>[(0,.bptr 0 0),(4,.bptr 1 0),(5,.bptr 2 0),(8,.d (.int .i64 (n:Int))),(95,.d (.int .i64 (p.length:Int))),(96,.d (.int .i64 (q.1:Int))),(9,.und),(92,.und)]) (fun q=>[(0,.pbox 0 ty (c2.map .d)),(1,.box 45 [.d (.lst 1 []),.d (.lst 1 [])]),(2,.box 45 [.row 3 0,.row 4 q.2.length]),(3,.deep 0 23 1 []),(4,.deep 0 23 1 (q.2.map (aF 1 ab)))]) 5 (fun q=>q.1≤p.length∧q.2.length = p.length∧lsB 4 q.2) (fun q=>p.length - q.1) (0,p) ⟨Nat.zero_le _,rfl,hpb⟩ (ao [(3,22),(4,3)] (by simp [lk,ae]<;>omega)) ?_
   rintro ⟨i,q⟩ ⟨hi,hq,hqb⟩;simp only [bi,wipe,wl,bh,bw,rm,if_true,if_false,Nat.reduceEqDiff,Bool.false_eq_true,reduceCtorEq]
   simp only at hi hq hqb
   by_cases hlt:i < p.length
   ·obtain ⟨u,hu⟩:∃ u,q[i]? = some u:=⟨_,List.getElem?_eq_getElem (by omega)⟩
    have hiq:i < q.length:=by omega
    repeat' (first|((with_reducible first|(refine hK _ ?_;clear hK K)|refine aj fun U O=>?_|apply ah|(apply Z<;>(intro hc;try simp at hc;try omega)))<;>try simp only [go_sem,hlt])|(with_reducible first|apply ag|(refine O _ ?_;clear O U)|refine kN cD fun K hK=>?_|refine kO fun K hK=>?_|refine aI ?_)|apply iB)
    refine bF 7 ax rfl (fun K hK=>?_)
    refine aT 0 rfl rfl rfl (aY rfl (aa _ _ fT) rfl rfl) ?_
    try simp only [go_sem,aA,aB,aC,an,ap,aq,aF,hiq,aJ,aH]
    refine aT 2 rfl rfl rfl (aL (.inl rfl)) ?_
    try simp only [go_sem,aA,aB,aC,an,ap,aq,aF,hiq,aJ,aH]
    refine aT 3 rfl rfl rfl (aL (.inl rfl)) ?_
    try simp only [go_sem,aA,aB,aC,an,ap,aq,aF,hiq,aJ,aH]
    repeat' (first
     |((with_reducible refine O _ ?_);clear O U;try simp only [go_sem,aA,aB,aC,an,ap,aq,aF,hiq,aJ,aH])
     |((with_reducible refine bB ?_);first
      |((first|((with_reducible first|refine aS (fuel:=3) [1,4] ?_);refine ⟨⟨_,rfl,fun U O=>?_⟩,⟨_,rfl,fun U O=>?_⟩,trivial⟩)|((with_reducible first|refine aS (fuel:=2) [4] ?_|refine aS (fuel:=2) [1] ?_|refine aS (fuel:=1) [5] ?_|refine aS (fuel:=0) [6] ?_);refine ⟨⟨_,rfl,fun U O=>?_⟩,trivial⟩))<;>((first|with_reducible refine aX rfl ?_|refine aP rfl ?_);simp only [go_sem,aA,aB,aC,an,ap,aq,aF,hiq,aJ,aH]))
      |(refine bk (by decide +kernel) (hK _ ?_);clear hK K;try simp only [go_sem,aA,aB,aC,an,ap,aq,aF,hiq,aJ,aH]))
     |((refine j7 (e:=aF 1 ab u) (ds:=[.lst 1 (List.replicate n [.int .i64 0])]) rfl (aa _ _ jR) rfl rfl (by rw [ap,hu];rfl) (by simp [dE,dL,bg,AS.get,lk,ae]) (by simp [bg,AS.get,lk,bb]) (by simp only [bg,AS.get,lk,cY,cy,ae,if_true,if_false,Nat.reduceEqDiff,Option.getD_some,Option.getD_none];exact ⟨tu n,trivial⟩) (by simp [bg,AS.get,lk,bb]) rfl (Nat.le_refl _) ?_);(rw [yY]);(refine O _ ?_);(clear O U);(try simp only [go_sem]))
     |with_reducible refine aI ?_
     |with_reducible refine ba ?_|with_reducible refine bm ?_|with_reducible refine bc ?_)
    all_goals
     skip
    all_goals
     repeat' (first|((with_reducible first|(refine hK _ ?_;clear hK K)|refine aj fun U O=>?_|apply ah|(apply Z<;>(intro hc;try simp at hc;try omega)))<;>try simp only [go_sem])|(with_reducible first|apply ag|(refine O _ ?_;clear O U)|refine kN cD fun K hK=>?_|refine kO fun K hK=>?_|refine aI ?_)|apply iB)
     exact ⟨(i + 1,q.set i (List.replicate n 0)),⟨by simp only;omega,by simp only [cl];omega,hqb.set i (by simp;omega)⟩,by simp only;omega,(ao [] (by simp [lk,ae,cl]<;>omega))⟩
   ·have hlt':¬ (i:Int) < (p.length:Int):=by omega
    repeat' (first|((with_reducible first|(refine hK _ ?_;clear hK K)|refine aj fun U O=>?_|apply ah|(apply Z<;>(intro hc;try simp at hc;try omega)))<;>try simp only [go_sem,hlt'])|(with_reducible first|apply ag|(refine O _ ?_;clear O U)|refine kN cD fun K hK=>?_|refine kO fun K hK=>?_|refine aI ?_)|apply iB)
    exact hK (⟨[],q⟩,true,c2) _ ⟨⟨⟨by simp,by simp⟩,hqb⟩,hC.mono (by omega)⟩ (ao [] (by simp [lk,ae,cond]<;>omega))
  by_cases h6:x = 6
  ·subst h6
   repeat' (first|with_reducible refine bs (id:=26) ?_|with_reducible refine br (id:=26) ?_|((with_reducible first|(refine hK _ ?_;clear hK K)|refine aj fun U O=>?_|apply ah|(apply Z<;>(intro hc;try simp at hc;try omega)))<;>try simp only [go_sem])|(with_reducible first|apply ag|(refine O _ ?_;clear O U)|refine kN cD fun K hK=>?_|refine kO fun K hK=>?_|refine aI ?_)|apply iB)
   unfold eF
   refine ck ?_
   refine dJ 23 1 23 1 rfl (aa _ _ fT) rfl ?_
   simp only [go_sem,ge,fC]
   refine uk 17 rfl (by intro e he;cases he) ?_
   simp only [go_sem]
   refine a9 aa ?_
   simp only [go_sem,PL]
   repeat' (first|((with_reducible first|(refine hK _ ?_;clear hK K)|refine aj fun U O=>?_|apply ah|(apply Z<;>(intro hc;try simp at hc;try omega)))<;>try simp only [go_sem])|(with_reducible first|apply ag|(refine O _ ?_;clear O U)|refine kN cD fun K hK=>?_|refine kO fun K hK=>?_|refine aI ?_)|apply iB)
   exact hK (⟨[],[]⟩,false,c2) _ ⟨⟨⟨by simp,by simp⟩,⟨by simp,by simp⟩⟩,hC.mono (by omega)⟩ (ao [(3,17),(4,18)] (by simp [lk,ae,cond]<;>omega))
  repeat' (first|((with_reducible first|(refine hK _ ?_;clear hK K)|refine aj fun U O=>?_|apply ah|(apply Z<;>(intro hc;try simp at hc;try omega)))<;>try simp only [go_sem,h0,h1,h2,h3,h4,h5,h6])|(with_reducible first|apply ag|(refine O _ ?_;clear O U)|refine kN cD fun K hK=>?_|refine kO fun K hK=>?_|refine aI ?_)|apply iB)
  exact hK (⟨g,p⟩,true,c2) _ ⟨⟨hgb,hpb⟩,hC.mono (by omega)⟩ (ao [(3,2),(4,3)] (by simp [lk,ae,cond]<;>omega))
 ·rintro ⟨⟨g,p⟩,f,c0⟩ ⟨hA,hC0⟩
  dsimp only
  cases f
  all_goals
   dsimp only [cond]
   repeat' (first|((with_reducible first|(refine hK _ ?_;clear hK K)|refine aj fun U O=>?_|apply ah|(apply Z<;>(intro hc;try simp at hc;try omega)))<;>try simp only [go_sem])|(with_reducible first|apply ag|(refine O _ ?_;clear O U)|refine kN cD fun K hK=>?_|refine kO fun K hK=>?_|refine aI ?_)|apply iB)
   refine cE (id:=0) (xs:=[.row _ _,.row _ _]) _ rfl (by simp only [bl,bn,ae,lk,an,if_true,if_false,Nat.reduceEqDiff,Nat.reduceBEq,Bool.false_eq_true,Option.some.injEq]<;>rfl) (by simp [am,lk]) rfl (Cur.len (by assumption)) ⟨⟨g,p⟩,hA,rfl,hC0⟩
end Go.Proofs.YtphakidbddamfaaGreat
