/-
  The final state of a history: stateOf, isHistory, StateAt, FinalState of a valid history without reviews, in the abstract machine.
-/
import Derived.Test.YtphakidbddamfaaGreatZDh
set_option linter.unusedSimpArgs false
set_option linter.unusedVariables false
set_option maxHeartbeats 2000000
set_option maxRecDepth 100000
namespace Go.Proofs.YtphakidbddamfaaGreat
open Go.RowKit
theorem vD (l:List ItemD) (hn:l.length≤1048576) (hs:∀ r ∈ l,ItFit 1048576 r):FnEq Tryz.prog 100 [.d (.lst 3 (l.map ItemD.dat))] [.deep 143 3 (l.map ItemD.dat)]:=by
 have h:=fV l hn hs
 unfold dO at h
 split at h
 ·rename_i h0
  rw [List.length_eq_zero_iff.1 h0] at h ⊢
  exact h.deepen
 ·exact h
set_option maxHeartbeats 8000000 in
theorem mi {c:Code} (hb:Tryz.f151.body = some c) {Q:Exit→AS→Prop} (l:List ItemD) (h:List ChangeD) (t:Int) (hn:l.length≤1048576) (hs:∀ r ∈ l,ItFit 1048576 r) (hv:ItsOk l) (hh:i5 l h)
  (hQ:Q .ret ⟨⟨60,[(6,.bptr 1 0),(7,.d (.bool true))]⟩,[(0,.deep 0 143 3 ((eI t l h h.length).map ItemD.dat)),(1,.box 184 [.row 0 l.length,.d .emap])],4⟩):PW Tryz.prog c Q ⟨⟨60,[(0,.d (.lst 3 (l.map ItemD.dat))),(1,.d (.lst 6 (h.map ChangeD.dat))),(2,.d (.int .i64 t))]⟩,[],0⟩:=by
 have hci:=vD l hn hs
 have hs63:∀ r ∈ l,ItFit 9223372036854775807 r:=fun r hr=>(hs r hr).mono (by decide)
 have hh2:=hh.2
 refine nB ?_
 have hc:=Option.some.inj (show some _ = some c from hb);subst hc;clear hb
 repeat' (first|with_reducible refine bs (id:=1) ?_|with_reducible refine br (id:=1) ?_|((with_reducible first|(refine hK _ ?_;clear hK K)|refine aj fun U O=>?_|apply ah|(apply Z<;>(intro hc;try simp at hc;try omega)))<;>try simp only [go_sem])|(with_reducible first|apply ag|(refine O _ ?_;clear O U)|refine kN fx fun K hK=>?_|refine kO fun K hK=>?_|refine aI ?_)|(refine xS rfl fun U O=>?_;simp only [go_sem])|apply iB)
 unfold eF
 refine cm (ck ?_)
 refine a9 aa ?_
 simp only [go_sem]
 refine a9 aa ?_
 simp only [go_sem]
 refine CallK.eq hci (by simp [RV.flat,D.sc,ab]) ?_
 simp only [go_sem]
 refine mE rfl ?_
 simp only [go_sem]
 refine a9 aa ?_
 simp only [go_sem]
 refine a9 aa ?_
 simp only [go_sem]
 refine a9 aa ?_
 simp only [go_sem]
 refine a9 aa ?_
 simp only [go_sem]
 refine CallK.eq hci (by simp [RV.flat,D.sc,ab]) ?_
 simp only [go_sem]
 refine mE rfl ?_
 simp only [go_sem]
 refine a9 aa ?_
 simp only [go_sem]
 refine a9 aa ?_
 simp only [go_sem]
 refine a9 aa ?_
 simp only [go_sem]
 refine a9 aa ?_
 simp only [go_sem]
 refine ba ?_
 repeat' (first|((with_reducible first|(refine hK _ ?_;clear hK K)|refine aj fun U O=>?_|apply ah|(apply Z<;>(intro hc;try simp at hc;try omega)))<;>try simp only [go_sem,an])|(with_reducible first|apply ag|(refine O _ ?_;clear O U)|refine kN fx fun K hK=>?_|refine kO fun K hK=>?_|refine aI ?_)|(refine xS rfl fun U O=>?_;simp only [go_sem,an])|apply iB)
 refine aD [6,7,10,11,24,25,26,27,28,29,30,31,32,33,34,35,36,37,38,39,40,41,42,43,44,45,46,47,48,49,50,51,52,53,54,55] (fun k:Nat=>[(24,.d (.int .i64 (k:Int))),(21,.und),(20,.und),(18,.und),(16,.und),(15,.und),(13,.und)]) (fun k=>[(0,.deep 0 143 3 ((eI t l h k).map ItemD.dat)),(1,.box 184 [.row 0 l.length,.d .emap]),(2,.deep 0 143 3 ((eI 100000 l h k).map ItemD.dat)),(3,.box 184 [.row 2 l.length,.d .emap])]) 4 (fun k=>k≤h.length) (fun k=>h.length - k) 0 (Nat.zero_le _) (ao [] (by simp [lk,ae,uc]<;>omega)) ?_
 rintro k hk;simp only [bi,wipe,wl,bh,bw,rm,if_true,if_false,Nat.reduceEqDiff,Bool.false_eq_true,reduceCtorEq]
 by_cases hlt:k < h.length
 ·obtain ⟨x,hx⟩:∃ x,h[k]? = some x:=⟨_,List.getElem?_eq_getElem hlt⟩
  obtain ⟨a1,a2,a3,a4,a5,a6,a7⟩:=hh.1 k x hx
  obtain ⟨_,b1,m1,_,hb1,_,_,_,_,hm1,_⟩:=a5.there (q:=h.map (jC 100000)) hv k
  have e1:=lF (t:=100000) hx hb1 a2
  have hl1:=lR 100000 l h k
  have hi1:oX (eI 100000 l h k) x:=⟨⟨a1,a2⟩,a4,a5.to _ _,a6,a7⟩
  have hf1:∀ r ∈ eI 100000 l h k,ItFit 9223372036854775807 r:=kD hs63 _ _
  obtain ⟨_,b2,m2,_,hb2,_,_,_,_,hm2,_⟩:=a5.there (q:=h.map (jC t)) hv k
  have hl2:=lR t l h k
  have hi2:oX (eI t l h k) x:=⟨⟨a1,a2⟩,a4,a5.to _ _,a6,a7⟩
  have hf2:∀ r ∈ eI t l h k,ItFit 9223372036854775807 r:=kD hs63 _ _
  repeat' (first|((with_reducible first|(refine hK _ ?_;clear hK K)|refine aj fun U O=>?_|apply ah|(apply Z<;>(intro hc;try simp at hc;try omega)))<;>try simp only [go_sem,an,ap,hx,aq,ChangeD.dat,hlt])|(with_reducible first|apply ag|(refine O _ ?_;clear O U)|refine kN fx fun K hK=>?_|refine kO fun K hK=>?_|refine aI ?_)|(refine xS rfl fun U O=>?_;simp only [go_sem,an,ap,hx,aq,ChangeD.dat,hlt])|apply iB)
  rcases Nat.eq_zero_or_pos k with hk0|hk0
  ·have hd:decide (0 < (k:Int)) = false:=by simp;omega
   refine bJ 19 fx ax rfl (fun K hK=>?_)
   refine aT 0 rfl rfl rfl (aL (.inl rfl)) ?_
   try simp only [go_sem,aA,aB,aC,Bool.not_true,Bool.not_false,hd,an]
   refine bf aa [1] (by decide +kernel) rfl ⟨⟨_,rfl,fun U O=>?_⟩,trivial⟩
   ((first|with_reducible refine aX rfl ?_|refine aP rfl ?_);simp only [go_sem,aA,aB,aC,Bool.not_true,Bool.not_false,hd,an])
   repeat' (first|(with_reducible refine O _ ?_;clear O U;try simp only [go_sem,aA,aB,aC,Bool.not_true,Bool.not_false,hd,an])|with_reducible refine aI ?_|((refine CallK.po (ct aa rfl rfl Tryz.func183 rfl rfl rfl ?_));(refine cI (cs:=ChangeD.dat x) rfl hl1 (by omega) hf1 hi1 hb1 hm1 e1 ?_);(refine du rfl rfl rfl ?_);(simp only [fM,dc,d_,cj,cA,dG,go_sem,ChangeD.dat,aJ,aH]);(refine O _ ?_);(clear O U);(try simp only [go_sem])))
   refine bf aa [2] (by decide +kernel) rfl ⟨⟨_,rfl,fun U O=>?_⟩,trivial⟩
   ((first|with_reducible refine aX rfl ?_|refine aP rfl ?_);simp only [go_sem,aA,aB,aC,Bool.not_true,Bool.not_false,hd,an])
   repeat' (first|(with_reducible refine O _ ?_;clear O U;try simp only [go_sem,aA,aB,aC,Bool.not_true,Bool.not_false,hd,an])|with_reducible refine aI ?_|((refine CallK.po (ct aa rfl rfl Tryz.func183 rfl rfl rfl ?_));(refine cI (cs:=ChangeD.dat x) rfl hl1 (by omega) hf1 hi1 hb1 hm1 e1 ?_);(refine du rfl rfl rfl ?_);(simp only [fM,dc,d_,cj,cA,dG,go_sem,ChangeD.dat,aJ,aH]);(refine O _ ?_);(clear O U);(try simp only [go_sem])))
   refine bf aa [3] (by decide +kernel) rfl ⟨⟨_,rfl,fun U O=>?_⟩,trivial⟩
   ((first|with_reducible refine aX rfl ?_|refine aP rfl ?_);simp only [go_sem,aA,aB,aC,Bool.not_true,Bool.not_false,hd,an])
   repeat' (first|(with_reducible refine O _ ?_;clear O U;try simp only [go_sem,aA,aB,aC,Bool.not_true,Bool.not_false,hd,an])|with_reducible refine aI ?_|((refine CallK.po (ct aa rfl rfl Tryz.func183 rfl rfl rfl ?_));(refine cI (cs:=ChangeD.dat x) rfl hl1 (by omega) hf1 hi1 hb1 hm1 e1 ?_);(refine du rfl rfl rfl ?_);(simp only [fM,dc,d_,cj,cA,dG,go_sem,ChangeD.dat,aJ,aH]);(refine O _ ?_);(clear O U);(try simp only [go_sem])))
   refine aT 4 rfl rfl rfl (aL (.inl rfl)) ?_
   refine dA 5 4 rfl rfl rfl (by decide +kernel) rfl (by decide +kernel) (by decide +kernel) (aL (.inl rfl)) ?_
   try simp only [go_sem,aA,aB,aC,Bool.not_true,Bool.not_false,hd,an]
   refine bf aa [6] (by decide +kernel) rfl ⟨⟨_,rfl,fun U O=>?_⟩,trivial⟩
   ((first|with_reducible refine aX rfl ?_|refine aP rfl ?_);simp only [go_sem,aA,aB,aC,Bool.not_true,Bool.not_false,hd,an])
   repeat' (first|(with_reducible refine O _ ?_;clear O U;try simp only [go_sem,aA,aB,aC,Bool.not_true,Bool.not_false,hd,an])|with_reducible refine aI ?_|((refine CallK.po (ct aa rfl rfl Tryz.func183 rfl rfl rfl ?_));(refine cI (cs:=ChangeD.dat x) rfl hl1 (by omega) hf1 hi1 hb1 hm1 e1 ?_);(refine du rfl rfl rfl ?_);(simp only [fM,dc,d_,cj,cA,dG,go_sem,ChangeD.dat,aJ,aH]);(refine O _ ?_);(clear O U);(try simp only [go_sem])))
   refine dA 7 4 rfl rfl rfl (by decide +kernel) rfl (by decide +kernel) (by decide +kernel) (aL (.inl rfl)) ?_
   refine eg 8 7 rfl rfl rfl (by decide +kernel) rfl (by decide) (by decide +kernel) (by decide +kernel) ?_
   refine eg 9 7 rfl rfl rfl (by decide +kernel) rfl (by decide) (by decide +kernel) (by decide +kernel) ?_
   refine eg 10 7 rfl rfl rfl (by decide +kernel) rfl (by decide) (by decide +kernel) (by decide +kernel) ?_
   refine eg 11 7 rfl rfl rfl (by decide +kernel) rfl (by decide) (by decide +kernel) (by decide +kernel) ?_
   refine eg 12 7 rfl rfl rfl (by decide +kernel) rfl (by decide) (by decide +kernel) (by decide +kernel) ?_
   refine eg 13 7 rfl rfl rfl (by decide +kernel) rfl (by decide) (by decide +kernel) (by decide +kernel) ?_
   refine eg 14 7 rfl rfl rfl (by decide +kernel) rfl (by decide) (by decide +kernel) (by decide +kernel) ?_
   refine eg 15 7 rfl rfl rfl (by decide +kernel) rfl (by decide) (by decide +kernel) (by decide +kernel) ?_
   refine eg 16 7 rfl rfl rfl (by decide +kernel) rfl (by decide) (by decide +kernel) (by decide +kernel) ?_
   try simp only [go_sem,aA,aB,aC,Bool.not_true,Bool.not_false,hd,an]
   refine bf aa [17] (by decide +kernel) rfl ⟨⟨_,rfl,fun U O=>?_⟩,trivial⟩
   ((first|with_reducible refine aX rfl ?_|refine aP rfl ?_);simp only [go_sem,aA,aB,aC,Bool.not_true,Bool.not_false,hd,an])
   repeat' (first|(with_reducible refine O _ ?_;clear O U;try simp only [go_sem,aA,aB,aC,Bool.not_true,Bool.not_false,hd,an])|with_reducible refine aI ?_|((refine CallK.po (ct aa rfl rfl Tryz.func183 rfl rfl rfl ?_));(refine cI (cs:=ChangeD.dat x) rfl hl1 (by omega) hf1 hi1 hb1 hm1 e1 ?_);(refine du rfl rfl rfl ?_);(simp only [fM,dc,d_,cj,cA,dG,go_sem,ChangeD.dat,aJ,aH]);(refine O _ ?_);(clear O U);(try simp only [go_sem])))
   refine bf aa [18] (by decide +kernel) rfl ⟨⟨_,rfl,fun U O=>?_⟩,trivial⟩
   ((first|with_reducible refine aX rfl ?_|refine aP rfl ?_);simp only [go_sem,aA,aB,aC,Bool.not_true,Bool.not_false,hd,an])
   repeat' (first|(with_reducible refine O _ ?_;clear O U;try simp only [go_sem,aA,aB,aC,Bool.not_true,Bool.not_false,hd,an])|with_reducible refine aI ?_|((refine CallK.po (ct aa rfl rfl Tryz.func183 rfl rfl rfl ?_));(refine cI (cs:=ChangeD.dat x) rfl hl1 (by omega) hf1 hi1 hb1 hm1 e1 ?_);(refine du rfl rfl rfl ?_);(simp only [fM,dc,d_,cj,cA,dG,go_sem,ChangeD.dat,aJ,aH]);(refine O _ ?_);(clear O U);(try simp only [go_sem])))
   (refine bk (by decide +kernel) (hK _ ?_);clear hK K;try simp only [go_sem,aA,aB,aC,Bool.not_true,Bool.not_false,hd,an])
   all_goals
    skip
   all_goals
    by_cases ht:x.tick≤t
    ·have e2:=lF (t:=t) hx hb2 ht
     have hd2:decide (x.tick≤t) = true:=by simp;omega
     repeat' (first|((with_reducible first|(refine hK _ ?_;clear hK K)|refine aj fun U O=>?_|apply ah|(apply Z<;>(intro hc;try simp at hc;try omega)))<;>try simp only [go_sem,hd2])|(with_reducible first|apply ag|(refine O _ ?_;clear O U)|refine kN fx fun K hK=>?_|refine kO fun K hK=>?_|refine aI ?_)|(refine xS rfl fun U O=>?_;simp only [go_sem,hd2])|apply iB)
     refine CallK.po (ct aa rfl rfl Tryz.func183 rfl rfl rfl ?_)
     refine lr (cs:=ChangeD.dat x) rfl hl2 (by omega) hf2 hi2 hb2 hm2 e2 ?_
     refine du rfl rfl rfl ?_
     simp only [fM,dc,d_,cj,cA,dG,go_sem,ChangeD.dat,aJ,aH]
     repeat' (first|((with_reducible first|(refine hK _ ?_;clear hK K)|refine aj fun U O=>?_|apply ah|(apply Z<;>(intro hc;try simp at hc;try omega)))<;>try simp only [go_sem])|(with_reducible first|apply ag|(refine O _ ?_;clear O U)|refine kN fx fun K hK=>?_|refine kO fun K hK=>?_|refine aI ?_)|(refine xS rfl fun U O=>?_;simp only [go_sem])|apply iB)
     exact ⟨k + 1,by omega,by omega,(ao [] (by simp [lk,ae]<;>omega))⟩
    ·have e2:=px (t:=t) (l:=l) hx ht
     have hd2:decide (x.tick≤t) = false:=by simp;omega
     repeat' (first|((with_reducible first|(refine hK _ ?_;clear hK K)|refine aj fun U O=>?_|apply ah|(apply Z<;>(intro hc;try simp at hc;try omega)))<;>try simp only [go_sem,hd2])|(with_reducible first|apply ag|(refine O _ ?_;clear O U)|refine kN fx fun K hK=>?_|refine kO fun K hK=>?_|refine aI ?_)|(refine xS rfl fun U O=>?_;simp only [go_sem,hd2])|apply iB)
     exact ⟨k + 1,by omega,by omega,(ao [] (by simp [lk,ae,e2]<;>omega))⟩
  ·obtain ⟨y,hy⟩:∃ y,h[k - 1]? = some y:=⟨_,List.getElem?_eq_getElem (by omega)⟩
   have hyt:=a3 y hk0 hy
   have hd:decide (0 < (k:Int)) = true:=by simp;omega
   have hkt:((k:Int) - 1).toNat = k - 1:=by omega
   have hlt2:k - 1 < h.length:=by omega
   have hgt:decide (x.tick < y.tick) = false:=by simp;omega
   refine bJ 19 fx ax rfl (fun K hK=>?_)
   refine aT 0 rfl rfl rfl (aL (.inl rfl)) ?_
   try simp only [go_sem,aA,aB,aC,Bool.not_true,Bool.not_false,hd,hkt,hgt,hy,hlt2,an,ap,aq,ChangeD.dat]
   refine bf aa [1] (by decide +kernel) rfl ⟨⟨_,rfl,fun U O=>?_⟩,trivial⟩
   ((first|with_reducible refine aX rfl ?_|refine aP rfl ?_);simp only [go_sem,aA,aB,aC,Bool.not_true,Bool.not_false,hd,hkt,hgt,hy,hlt2,an,ap,aq,ChangeD.dat])
   repeat' (first|(with_reducible refine O _ ?_;clear O U;try simp only [go_sem,aA,aB,aC,Bool.not_true,Bool.not_false,hd,hkt,hgt,hy,hlt2,an,ap,aq,ChangeD.dat])|with_reducible refine aI ?_|((refine CallK.po (ct aa rfl rfl Tryz.func183 rfl rfl rfl ?_));(refine cI (cs:=ChangeD.dat x) rfl hl1 (by omega) hf1 hi1 hb1 hm1 e1 ?_);(refine du rfl rfl rfl ?_);(simp only [fM,dc,d_,cj,cA,dG,go_sem,ChangeD.dat,aJ,aH]);(refine O _ ?_);(clear O U);(try simp only [go_sem])))
   refine bf aa [2] (by decide +kernel) rfl ⟨⟨_,rfl,fun U O=>?_⟩,trivial⟩
   ((first|with_reducible refine aX rfl ?_|refine aP rfl ?_);simp only [go_sem,aA,aB,aC,Bool.not_true,Bool.not_false,hd,hkt,hgt,hy,hlt2,an,ap,aq,ChangeD.dat])
   repeat' (first|(with_reducible refine O _ ?_;clear O U;try simp only [go_sem,aA,aB,aC,Bool.not_true,Bool.not_false,hd,hkt,hgt,hy,hlt2,an,ap,aq,ChangeD.dat])|with_reducible refine aI ?_|((refine CallK.po (ct aa rfl rfl Tryz.func183 rfl rfl rfl ?_));(refine cI (cs:=ChangeD.dat x) rfl hl1 (by omega) hf1 hi1 hb1 hm1 e1 ?_);(refine du rfl rfl rfl ?_);(simp only [fM,dc,d_,cj,cA,dG,go_sem,ChangeD.dat,aJ,aH]);(refine O _ ?_);(clear O U);(try simp only [go_sem])))
   refine bf aa [3] (by decide +kernel) rfl ⟨⟨_,rfl,fun U O=>?_⟩,trivial⟩
   ((first|with_reducible refine aX rfl ?_|refine aP rfl ?_);simp only [go_sem,aA,aB,aC,Bool.not_true,Bool.not_false,hd,hkt,hgt,hy,hlt2,an,ap,aq,ChangeD.dat])
   repeat' (first|(with_reducible refine O _ ?_;clear O U;try simp only [go_sem,aA,aB,aC,Bool.not_true,Bool.not_false,hd,hkt,hgt,hy,hlt2,an,ap,aq,ChangeD.dat])|with_reducible refine aI ?_|((refine CallK.po (ct aa rfl rfl Tryz.func183 rfl rfl rfl ?_));(refine cI (cs:=ChangeD.dat x) rfl hl1 (by omega) hf1 hi1 hb1 hm1 e1 ?_);(refine du rfl rfl rfl ?_);(simp only [fM,dc,d_,cj,cA,dG,go_sem,ChangeD.dat,aJ,aH]);(refine O _ ?_);(clear O U);(try simp only [go_sem])))
   refine aT 4 rfl rfl rfl (aL (.inl rfl)) ?_
   refine dA 5 4 rfl rfl rfl (by decide +kernel) rfl (by decide +kernel) (by decide +kernel) (aL (.inl rfl)) ?_
   try simp only [go_sem,aA,aB,aC,Bool.not_true,Bool.not_false,hd,hkt,hgt,hy,hlt2,an,ap,aq,ChangeD.dat]
   refine bf aa [6] (by decide +kernel) rfl ⟨⟨_,rfl,fun U O=>?_⟩,trivial⟩
   ((first|with_reducible refine aX rfl ?_|refine aP rfl ?_);simp only [go_sem,aA,aB,aC,Bool.not_true,Bool.not_false,hd,hkt,hgt,hy,hlt2,an,ap,aq,ChangeD.dat])
   repeat' (first|(with_reducible refine O _ ?_;clear O U;try simp only [go_sem,aA,aB,aC,Bool.not_true,Bool.not_false,hd,hkt,hgt,hy,hlt2,an,ap,aq,ChangeD.dat])|with_reducible refine aI ?_|((refine CallK.po (ct aa rfl rfl Tryz.func183 rfl rfl rfl ?_));(refine cI (cs:=ChangeD.dat x) rfl hl1 (by omega) hf1 hi1 hb1 hm1 e1 ?_);(refine du rfl rfl rfl ?_);(simp only [fM,dc,d_,cj,cA,dG,go_sem,ChangeD.dat,aJ,aH]);(refine O _ ?_);(clear O U);(try simp only [go_sem])))
   refine dA 7 4 rfl rfl rfl (by decide +kernel) rfl (by decide +kernel) (by decide +kernel) (aL (.inl rfl)) ?_
   refine dA 8 7 rfl rfl rfl (by decide +kernel) rfl (by decide +kernel) (by decide +kernel) (aL (.inl rfl)) ?_
   refine dA 9 7 rfl rfl rfl (by decide +kernel) rfl (by decide +kernel) (by decide +kernel) (aL (.inl rfl)) ?_
   try simp only [go_sem,aA,aB,aC,Bool.not_true,Bool.not_false,hd,hkt,hgt,hy,hlt2,an,ap,aq,ChangeD.dat]
   repeat' (first
    |(with_reducible refine O _ ?_;clear O U;try simp only [go_sem,aA,aB,aC,Bool.not_true,Bool.not_false,hd,hkt,hgt,hy,hlt2,an,ap,aq,ChangeD.dat])|with_reducible refine aI ?_|((refine CallK.po (ct aa rfl rfl Tryz.func183 rfl rfl rfl ?_));(refine cI (cs:=ChangeD.dat x) rfl hl1 (by omega) hf1 hi1 hb1 hm1 e1 ?_);(refine du rfl rfl rfl ?_);(simp only [fM,dc,d_,cj,cA,dG,go_sem,ChangeD.dat,aJ,aH]);(refine O _ ?_);(clear O U);(try simp only [go_sem]))
    |(refine bf aa [10,14] (by decide +kernel) rfl ⟨⟨_,rfl,fun U O=>?_⟩,⟨_,rfl,fun U O=>?_⟩,trivial⟩<;>((first|with_reducible refine aX rfl ?_|refine aP rfl ?_);simp only [go_sem,aA,aB,aC,Bool.not_true,Bool.not_false,hd,hkt,hgt,hy,hlt2,an,ap,aq,ChangeD.dat]))
    |(refine bf aa [11,14] (by decide +kernel) rfl ⟨⟨_,rfl,fun U O=>?_⟩,⟨_,rfl,fun U O=>?_⟩,trivial⟩<;>((first|with_reducible refine aX rfl ?_|refine aP rfl ?_);simp only [go_sem,aA,aB,aC,Bool.not_true,Bool.not_false,hd,hkt,hgt,hy,hlt2,an,ap,aq,ChangeD.dat]))
    |(refine bf aa [12,14] (by decide +kernel) rfl ⟨⟨_,rfl,fun U O=>?_⟩,⟨_,rfl,fun U O=>?_⟩,trivial⟩<;>((first|with_reducible refine aX rfl ?_|refine aP rfl ?_);simp only [go_sem,aA,aB,aC,Bool.not_true,Bool.not_false,hd,hkt,hgt,hy,hlt2,an,ap,aq,ChangeD.dat]))
    |(refine bf aa [13,14] (by decide +kernel) rfl ⟨⟨_,rfl,fun U O=>?_⟩,⟨_,rfl,fun U O=>?_⟩,trivial⟩<;>((first|with_reducible refine aX rfl ?_|refine aP rfl ?_);simp only [go_sem,aA,aB,aC,Bool.not_true,Bool.not_false,hd,hkt,hgt,hy,hlt2,an,ap,aq,ChangeD.dat]))
    |(refine bf aa [14] (by decide +kernel) rfl ⟨⟨_,rfl,fun U O=>?_⟩,trivial⟩<;>((first|with_reducible refine aX rfl ?_|refine aP rfl ?_);simp only [go_sem,aA,aB,aC,Bool.not_true,Bool.not_false,hd,hkt,hgt,hy,hlt2,an,ap,aq,ChangeD.dat]))
    |(refine bf aa [15] (by decide +kernel) rfl ⟨⟨_,rfl,fun U O=>?_⟩,trivial⟩<;>((first|with_reducible refine aX rfl ?_|refine aP rfl ?_);simp only [go_sem,aA,aB,aC,Bool.not_true,Bool.not_false,hd,hkt,hgt,hy,hlt2,an,ap,aq,ChangeD.dat]))
    |(refine bf aa [16] (by decide +kernel) rfl ⟨⟨_,rfl,fun U O=>?_⟩,trivial⟩<;>((first|with_reducible refine aX rfl ?_|refine aP rfl ?_);simp only [go_sem,aA,aB,aC,Bool.not_true,Bool.not_false,hd,hkt,hgt,hy,hlt2,an,ap,aq,ChangeD.dat]))
    |(refine bf aa [17] (by decide +kernel) rfl ⟨⟨_,rfl,fun U O=>?_⟩,trivial⟩<;>((first|with_reducible refine aX rfl ?_|refine aP rfl ?_);simp only [go_sem,aA,aB,aC,Bool.not_true,Bool.not_false,hd,hkt,hgt,hy,hlt2,an,ap,aq,ChangeD.dat]))
    |(refine bf aa [18] (by decide +kernel) rfl ⟨⟨_,rfl,fun U O=>?_⟩,trivial⟩<;>((first|with_reducible refine aX rfl ?_|refine aP rfl ?_);simp only [go_sem,aA,aB,aC,Bool.not_true,Bool.not_false,hd,hkt,hgt,hy,hlt2,an,ap,aq,ChangeD.dat]))
    |(refine bf aa [13,15] (by decide +kernel) rfl ⟨⟨_,rfl,fun U O=>?_⟩,⟨_,rfl,fun U O=>?_⟩,trivial⟩<;>((first|with_reducible refine aX rfl ?_|refine aP rfl ?_);simp only [go_sem,aA,aB,aC,Bool.not_true,Bool.not_false,hd,hkt,hgt,hy,hlt2,an,ap,aq,ChangeD.dat]))
    |(refine bf aa [13] (by decide +kernel) rfl ⟨⟨_,rfl,fun U O=>?_⟩,trivial⟩<;>((first|with_reducible refine aX rfl ?_|refine aP rfl ?_);simp only [go_sem,aA,aB,aC,Bool.not_true,Bool.not_false,hd,hkt,hgt,hy,hlt2,an,ap,aq,ChangeD.dat]))
    |(refine bf aa [12,15] (by decide +kernel) rfl ⟨⟨_,rfl,fun U O=>?_⟩,⟨_,rfl,fun U O=>?_⟩,trivial⟩<;>((first|with_reducible refine aX rfl ?_|refine aP rfl ?_);simp only [go_sem,aA,aB,aC,Bool.not_true,Bool.not_false,hd,hkt,hgt,hy,hlt2,an,ap,aq,ChangeD.dat]))
    |(refine bf aa [12] (by decide +kernel) rfl ⟨⟨_,rfl,fun U O=>?_⟩,trivial⟩<;>((first|with_reducible refine aX rfl ?_|refine aP rfl ?_);simp only [go_sem,aA,aB,aC,Bool.not_true,Bool.not_false,hd,hkt,hgt,hy,hlt2,an,ap,aq,ChangeD.dat]))
    |(refine bf aa [11,15] (by decide +kernel) rfl ⟨⟨_,rfl,fun U O=>?_⟩,⟨_,rfl,fun U O=>?_⟩,trivial⟩<;>((first|with_reducible refine aX rfl ?_|refine aP rfl ?_);simp only [go_sem,aA,aB,aC,Bool.not_true,Bool.not_false,hd,hkt,hgt,hy,hlt2,an,ap,aq,ChangeD.dat]))
    |(refine bf aa [11] (by decide +kernel) rfl ⟨⟨_,rfl,fun U O=>?_⟩,trivial⟩<;>((first|with_reducible refine aX rfl ?_|refine aP rfl ?_);simp only [go_sem,aA,aB,aC,Bool.not_true,Bool.not_false,hd,hkt,hgt,hy,hlt2,an,ap,aq,ChangeD.dat]))
    |(refine bf aa [10,15] (by decide +kernel) rfl ⟨⟨_,rfl,fun U O=>?_⟩,⟨_,rfl,fun U O=>?_⟩,trivial⟩<;>((first|with_reducible refine aX rfl ?_|refine aP rfl ?_);simp only [go_sem,aA,aB,aC,Bool.not_true,Bool.not_false,hd,hkt,hgt,hy,hlt2,an,ap,aq,ChangeD.dat]))
    |(refine bf aa [10] (by decide +kernel) rfl ⟨⟨_,rfl,fun U O=>?_⟩,trivial⟩<;>((first|with_reducible refine aX rfl ?_|refine aP rfl ?_);simp only [go_sem,aA,aB,aC,Bool.not_true,Bool.not_false,hd,hkt,hgt,hy,hlt2,an,ap,aq,ChangeD.dat]))
    |(refine bk (by decide +kernel) (hK _ ?_);clear hK K;try simp only [go_sem,aA,aB,aC,Bool.not_true,Bool.not_false,hd,hkt,hgt,hy,hlt2,an,ap,aq,ChangeD.dat]))
   all_goals
    skip
   all_goals
    by_cases ht:x.tick≤t
    ·have e2:=lF (t:=t) hx hb2 ht
     have hd2:decide (x.tick≤t) = true:=by simp;omega
     repeat' (first|((with_reducible first|(refine hK _ ?_;clear hK K)|refine aj fun U O=>?_|apply ah|(apply Z<;>(intro hc;try simp at hc;try omega)))<;>try simp only [go_sem,hd2])|(with_reducible first|apply ag|(refine O _ ?_;clear O U)|refine kN fx fun K hK=>?_|refine kO fun K hK=>?_|refine aI ?_)|(refine xS rfl fun U O=>?_;simp only [go_sem,hd2])|apply iB)
     refine CallK.po (ct aa rfl rfl Tryz.func183 rfl rfl rfl ?_)
     refine lr (cs:=ChangeD.dat x) rfl hl2 (by omega) hf2 hi2 hb2 hm2 e2 ?_
     refine du rfl rfl rfl ?_
     simp only [fM,dc,d_,cj,cA,dG,go_sem,ChangeD.dat,aJ,aH]
     repeat' (first|((with_reducible first|(refine hK _ ?_;clear hK K)|refine aj fun U O=>?_|apply ah|(apply Z<;>(intro hc;try simp at hc;try omega)))<;>try simp only [go_sem])|(with_reducible first|apply ag|(refine O _ ?_;clear O U)|refine kN fx fun K hK=>?_|refine kO fun K hK=>?_|refine aI ?_)|(refine xS rfl fun U O=>?_;simp only [go_sem])|apply iB)
     exact ⟨k + 1,by omega,by omega,(ao [] (by simp [lk,ae]<;>omega))⟩
    ·have e2:=px (t:=t) (l:=l) hx ht
     have hd2:decide (x.tick≤t) = false:=by simp;omega
     repeat' (first|((with_reducible first|(refine hK _ ?_;clear hK K)|refine aj fun U O=>?_|apply ah|(apply Z<;>(intro hc;try simp at hc;try omega)))<;>try simp only [go_sem,hd2])|(with_reducible first|apply ag|(refine O _ ?_;clear O U)|refine kN fx fun K hK=>?_|refine kO fun K hK=>?_|refine aI ?_)|(refine xS rfl fun U O=>?_;simp only [go_sem,hd2])|apply iB)
     exact ⟨k + 1,by omega,by omega,(ao [] (by simp [lk,ae,e2]<;>omega))⟩
 ·obtain rfl:k = h.length:=by omega
  repeat' (first|((with_reducible first|(refine hK _ ?_;clear hK K)|refine aj fun U O=>?_|apply ah|(apply Z<;>(intro hc;try simp at hc;try omega)))<;>try simp only [go_sem,hlt,an])|(with_reducible first|apply ag|(refine O _ ?_;clear O U)|refine kN fx fun K hK=>?_|refine kO fun K hK=>?_|refine aI ?_)|(refine xS rfl fun U O=>?_;simp only [go_sem,hlt,an])|apply iB)
  have hd:decide ((h.length:Int)≤60) = true:=by simp;omega
  exact ⟨_,(ao [] (by simp [lk,ae,hd]<;>omega)),hQ⟩
theorem oI (l:List ItemD) (h:List ChangeD) (hn:l.length≤1048576) (hs:∀ r ∈ l,ItFit 1048576 r) (hv:ItsOk l) (hh:i5 l h):FnEq Tryz.prog 150 [.d (.lst 3 (l.map ItemD.dat)),.d (.lst 6 (h.map ChangeD.dat))] [.d (.bool true)]:=by
 have h1:=cV l (by omega) fun r hr=>(hs r hr).mono (by decide)
 rw [aQ hv] at h1
 refine aO aa Tryz.func150 rfl rfl ?_;simp only [Tryz.ntmps150,aR,aM,Nat.reduceAdd,Nat.reduceSub,aW]
 repeat' (first|((with_reducible first|(refine hK _ ?_;clear hK K)|refine aj fun U O=>?_|apply ah|(apply Z<;>(intro hc;try simp at hc;try omega)))<;>try simp only [go_sem])|(with_reducible first|apply ag|(refine O _ ?_;clear O U)|refine kN vT fun K hK=>?_|refine kO fun K hK=>?_|refine aI ?_)|((with_reducible apply CallK.eq);(· with_reducible first|exact h1);(· simp [RV.flat,D.sc,ab]);try simp only [go_sem])|fail)
 refine CallK.po (ct aa rfl rfl Tryz.func151 rfl rfl rfl ?_)
 simp only [Tryz.ntmps151,aW,iN,js,go_sem,List.size_toArray,Nat.reduceSub]
 refine i1 (s0:=⟨⟨60,[(0,.d (.lst 3 (l.map ItemD.dat))),(1,.d (.lst 6 (h.map ChangeD.dat))),(2,.d (.int .i64 0))]⟩,[],0⟩) (ao [] (by simp [lk,ae]<;>omega)) ?_
 refine mi rfl l h _ hn hs hv hh ?_
 refine du rfl rfl rfl ?_
 simp only [dc,d_,cj,cA,dG,go_sem]
 repeat' (first|((with_reducible first|(refine hK _ ?_;clear hK K)|refine aj fun U O=>?_|apply ah|(apply Z<;>(intro hc;try simp at hc;try omega)))<;>try simp only [go_sem])|(with_reducible first|apply ag|(refine O _ ?_;clear O U)|refine kN vT fun K hK=>?_|refine kO fun K hK=>?_|refine aI ?_)|fail)
 refine ak rfl rfl (by simp [am,lk]) ?_;rfl
theorem tC (l:List ItemD) (h:List ChangeD) (hn:l.length≤1048576) (hs:∀ r ∈ l,ItFit 1048576 r) (hv:ItsOk l) (hh:i5 l h):FnEq Tryz.prog 105 [.d (.lst 3 (l.map ItemD.dat)),.d (.lst 6 (h.map ChangeD.dat)),.d (.int .i64 100000)] [.deep 143 3 ((eI 100000 l h h.length).map ItemD.dat),.d (.bool true)]:=by
 have h1:=oI l h hn hs hv hh
 have h2:=eC 100000
 have hl:=lR 100000 l h h.length
 refine aO aa Tryz.func105 rfl rfl ?_;simp only [Tryz.ntmps105,aR,aM,Nat.reduceAdd,Nat.reduceSub,aW]
 repeat' (first|((with_reducible first|(refine hK _ ?_;clear hK K)|refine aj fun U O=>?_|apply ah|(apply Z<;>(intro hc;try simp at hc;try omega)))<;>try simp only [go_sem])|(with_reducible first|apply ag|(refine O _ ?_;clear O U)|refine kN wf fun K hK=>?_|refine kO fun K hK=>?_|refine aI ?_)|(refine xS rfl fun U O=>?_;simp only [go_sem])|((with_reducible apply CallK.eq);(· with_reducible first|exact h1|exact h2);(· simp [RV.flat,D.sc,ab]);try simp only [go_sem])|fail)
 refine CallK.po (ct aa rfl rfl Tryz.func151 rfl rfl rfl ?_)
 simp only [Tryz.ntmps151,aW,iN,js,go_sem,List.size_toArray,Nat.reduceSub]
 refine i1 (s0:=⟨⟨60,[(0,.d (.lst 3 (l.map ItemD.dat))),(1,.d (.lst 6 (h.map ChangeD.dat))),(2,.d (.int .i64 100000))]⟩,[],0⟩) (ao [] (by simp [lk,ae]<;>omega)) ?_
 refine mi rfl l h _ hn hs hv hh ?_
 refine du rfl rfl rfl ?_
 simp only [dc,d_,cj,cA,dG,go_sem]
 repeat' (first|((with_reducible first|(refine hK _ ?_;clear hK K)|refine aj fun U O=>?_|apply ah|(apply Z<;>(intro hc;try simp at hc;try omega)))<;>try simp only [go_sem])|(with_reducible first|apply ag|(refine O _ ?_;clear O U)|refine kN wf fun K hK=>?_|refine kO fun K hK=>?_|refine aI ?_)|(refine xS rfl fun U O=>?_;simp only [go_sem])|fail)
 refine ak rfl (by simp only [hl,bl,bn,ae,lk,an,aM,List.length_append,List.length_take,if_true,if_false,Nat.reduceEqDiff,Nat.reduceBEq,Bool.false_eq_true,Option.some.injEq];rfl) (by simp [am,lk]) ?_;rfl
theorem oD (l:List ItemD) (h:List ChangeD) (hn:l.length≤1048576) (hs:∀ r ∈ l,ItFit 1048576 r) (hv:ItsOk l) (hh:i5 l h):FnEq Tryz.prog 46 [.d (.lst 3 (l.map ItemD.dat)),.d (.lst 6 (h.map ChangeD.dat))] [.d (.lst 3 ((eI 100000 l h h.length).map ItemD.dat)),.d (.bool true)]:=by
 have h1:=cf (tC l h hn hs hv hh)
 simp only [aJ,aH,RV.data] at h1
 refine aO aa Tryz.func46 rfl rfl ?_;simp only [Tryz.ntmps46,aR,aM,Nat.reduceAdd,Nat.reduceSub,aW]
 repeat' (first|((with_reducible first|(refine hK _ ?_;clear hK K)|refine aj fun U O=>?_|apply ah|(apply Z<;>(intro hc;try simp at hc;try omega)))<;>try simp only [go_sem])|(with_reducible first|apply ag|(refine O _ ?_;clear O U)|refine kN yL fun K hK=>?_|refine kO fun K hK=>?_|refine aI ?_)|((with_reducible apply CallK.eq);(· with_reducible first|exact h1);(· simp [RV.flat,D.sc,ab]);try simp only [go_sem])|fail)
 refine ak rfl rfl (by simp [am,lk]) ?_;rfl
end Go.Proofs.YtphakidbddamfaaGreat
