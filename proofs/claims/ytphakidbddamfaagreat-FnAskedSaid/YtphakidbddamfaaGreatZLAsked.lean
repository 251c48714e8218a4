/- For all bytes, what the law FnAsked draws and asks holds: it returns true: the statement's row, proved. No conditions. -/
import Derived.Test.YtphakidbddamfaaGreatRows
import Derived.Test.YtphakidbddamfaaGreatZQsm
import Derived.Test.YtphakidbddamfaaGreatZDx
import Derived.Test.YtphakidbddamfaaGreatZJa
set_option linter.unusedSimpArgs false
set_option linter.unusedVariables false
set_option maxHeartbeats 2000000
set_option maxRecDepth 100000
namespace Go.Proofs.YtphakidbddamfaaGreat.lawAsked
open Go.ChangeShapes Go.WideShapes Go.ChangeAt Go.RowKit Go.Deep
theorem law_FnAsked_ok (xs0:List Int) (m0:xs0.length≤maxLen∧∀ x ∈ xs0,0≤x∧x≤255) (xs1:List Int) (m1:xs1.length≤maxLen∧∀ x ∈ xs1,0≤x∧x≤255):FnEq Tryz.prog 7 [.d (.lst 1 (xs0.map fF)),.d (.lst 1 (xs1.map fF))] [.d (.bool true)]:=by
 have hm0:=m0.1
 have hm1:=m1.1
 unfold maxLen at hm0 hm1
 refine aO aa Tryz.func7 rfl rfl ?_;simp only [Tryz.ntmps7,aR,aM,Nat.reduceAdd,Nat.reduceSub,aW]
 repeat' (first|with_reducible refine bs (id:=1) ?_|with_reducible refine br (id:=1) ?_|((with_reducible first|(refine hK _ ?_;clear hK K)|refine aj fun U O=>?_|apply ah|(apply Z<;>(intro hc;try simp at hc;try omega)))<;>try simp only [go_sem])|(with_reducible first|apply ag|(refine O _ ?_;clear O U)|refine kN iZ fun K hK=>?_|refine kO fun K hK=>?_|refine aI ?_)|(refine xS rfl fun U O=>?_;simp only [go_sem])|apply iB)
 unfold eF
 refine cm (ck ?_)
 refine a9 aa ?_
 simp only [go_sem]
 refine a9 aa ?_
 simp only [go_sem]
 refine a9 aa ?_
 simp only [go_sem]
 refine a9 aa ?_
 simp only [go_sem]
 refine PQ.po (wu rfl rfl rfl ?_)
 refine a9 aa ?_
 simp only [go_sem]
 refine ba ?_
 generalize IntKind.i64.wrap ((xs0.length:Int) + (xs1.length:Int)) = Wd
 by_cases hb:1048576 < Wd
 ·repeat' (first|((with_reducible first|(refine hK _ ?_;clear hK K)|refine aj fun U O=>?_|apply ah|(apply Z<;>(intro hc;try simp at hc;try omega)))<;>try simp only [go_sem,hb])|(with_reducible first|apply ag|(refine O _ ?_;clear O U)|refine kN iZ fun K hK=>?_|refine kO fun K hK=>?_|refine aI ?_)|(refine xS rfl fun U O=>?_;simp only [go_sem,hb])|apply iB)
  all_goals first
   |(exfalso;omega)
   |(refine ak rfl rfl (by simp [am,lk]) ?_;rfl)
 ·repeat' (first|((with_reducible first|(refine hK _ ?_;clear hK K)|refine aj fun U O=>?_|apply ah|(apply Z<;>(intro hc;try simp at hc;try omega)))<;>try simp only [go_sem,hb])|(with_reducible first|apply ag|(refine O _ ?_;clear O U)|refine kN iZ fun K hK=>?_|refine kO fun K hK=>?_|refine aI ?_)|(refine xS rfl fun U O=>?_;simp only [go_sem,hb])|apply iB)
  all_goals first
   |(exfalso;omega)
   |skip
  refine CallK.of (qj xs0 m0.2 hm0) ?_;rintro _ ⟨l,q,⟨hl,hq⟩,rfl⟩;refine ⟨(fun h=>by cases h),?_⟩;try simp only [go_sem]
  have hs:∀ r ∈ l,ItFit 1048576 r:=fun r hr=>(hl.2 r hr).fit
  have hn:l.length≤1048576:=by have:=hl.1;omega
  have hq2:q.length≤1048576:=by omega
  have ha1:=cf (eV l q hn hs hq2)
  have ha2:=cf (eY l q hn hs hq2)
  rw [jh] at ha1 ha2
  have hh1:=cf (lf l q hn hs hq2)
  have hh2:=cf (le l q hn hs hq2)
  simp only [aJ,aH,RV.data] at hh1 hh2
  have hr1:=ja l q hn hs hq2
  have hr2:=jc l q hn hs hq2
  have hF:=rq l q
  have hFin:=@rk l q
  obtain ⟨hWn,hWs⟩:=rY (q:=q) hn hs
  have hHn:=uW l q
  generalize iK l q = W at ha1 ha2 hWn hWs hFin
  generalize bP (eA l q) = ok at ha1 ha2 hF hFin
  generalize (bD l q).getD [] = H at hh1 hh2 hFin hHn
  generalize (bD l q).isSome = one at hh1 hh2 hF
  generalize (bv l q).getD false = was at hr1 hr2 hF
  generalize (bv l q).isSome = three at hr1 hr2 hF
  have hqW:=iO W hWn hWs
  have hqH:=oA H (by omega)
  repeat' (first|((with_reducible first|(refine hK _ ?_;clear hK K)|refine aj fun U O=>?_|apply ah|(apply Z<;>(intro hc;try simp at hc;try omega)))<;>try simp only [go_sem])|(with_reducible first|apply ag|(refine O _ ?_;clear O U)|refine kN iZ fun K hK=>?_|refine kO fun K hK=>?_|refine aI ?_)|(refine xS rfl fun U O=>?_;simp only [go_sem])|((with_reducible apply CallK.eq);(· with_reducible first|exact ha1|exact ha2|exact hh1|exact hh2|exact hr1|exact hr2);(· simp [RV.flat,D.sc,ab]);try simp only [go_sem])|apply iB)
  refine CallK.of (qG xs1 m1.2 hm1) ?_;rintro _ ⟨c,p,f,qa,⟨hcp,hqa⟩,rfl⟩;refine ⟨(fun h=>by cases h),?_⟩;try simp only [go_sem]
  have hcf:CdFit 1048576 c:=hcp.1.1.fit
  have hpf:=hcp.fit
  have hqa2:qa.length≤1048576:=by omega
  have hs1:=j_ c p f qa hcf hpf hqa2
  have hs2:=kg c p f qa hcf hpf hqa2
  have hS:=rA c p f qa
  generalize (bG c p f qa).getD 0 = sc at hs1 hs2 hS
  generalize (bG c p f qa).isSome = five at hs1 hs2 hS
  repeat' (first|with_reducible refine bs (id:=13) ?_|with_reducible refine br (id:=13) ?_|((with_reducible first|(refine hK _ ?_;clear hK K)|refine aj fun U O=>?_|apply ah|(apply Z<;>(intro hc;try simp at hc;try omega)))<;>try simp only [go_sem,CodeD.dat,aJ,aH])|(with_reducible first|apply ag|(refine O _ ?_;clear O U)|refine kN iZ fun K hK=>?_|refine kO fun K hK=>?_|refine aI ?_)|(refine xS rfl fun U O=>?_;simp only [go_sem,CodeD.dat,aJ,aH])|((with_reducible apply CallK.eq);(· with_reducible first|exact hs1|exact hs2);(· simp [RV.flat,D.sc,ab]);try simp only [go_sem,CodeD.dat,aJ,aH])|apply iB)
  clear ha1 ha2 hh1 hh2 hr1 hr2 hs1 hs2
  refine ec (fun _:Unit=>⟨⟨267,[(5,.d (.lst 3 (l.map ItemD.dat))),(6,.d (.lst 5 (q.map InquiryD.dat))),(8,.d (.bool ok)),(9,.d (.lst 3 (W.map ItemD.dat))),(11,.d (.lst 6 (H.map ChangeD.dat))),(13,.d (.lst 6 (H.map ChangeD.dat))),(19,.bptr 1 0),(20,.bptr 2 0),(21,.d (.int .i64 f)),(22,.d (.lst 5 (qa.map InquiryD.dat))),(24,.d (.bool five)),(25,.d (.int .i64 sc))]⟩,[(1,.box 42 c.cs),(2,.box 48 p.cs)],3⟩) (fun _=>True) ?_ ?_
  ·intro K hK
   rcases hF with ⟨rfl,rfl,rfl,rfl⟩|⟨rfl,rfl,rfl|⟨rfl,rfl⟩⟩
   all_goals
    repeat' (first|((with_reducible first|(refine hK _ ?_;clear hK K)|refine aj fun U O=>?_|apply ah|(apply Z<;>(intro hc;try simp at hc;try omega)))<;>try simp only [go_sem,bne_self_eq_false])|(with_reducible first|apply ag|(refine O _ ?_;clear O U)|refine kN iZ fun K hK=>?_|refine kO fun K hK=>?_|refine aI ?_)|(refine xS rfl fun U O=>?_;simp only [go_sem,bne_self_eq_false])|((with_reducible apply CallK.eq);(· with_reducible first|exact hqW|exact hqH);(· simp [RV.flat,D.sc,ab]);try simp only [go_sem,bne_self_eq_false])|apply iB)
    exact hK () _ trivial (ao [] (by simp [lk,ae]<;>omega))
  rintro ⟨⟩ _
  try dsimp only
  clear hF hqH
  refine cm ?_
  refine ec (fun _:Unit=>⟨⟨267,[(5,.d (.lst 3 (l.map ItemD.dat))),(6,.d (.lst 5 (q.map InquiryD.dat))),(8,.d (.bool ok)),(9,.d (.lst 3 (W.map ItemD.dat))),(11,.d (.lst 6 (H.map ChangeD.dat))),(13,.d (.lst 6 (H.map ChangeD.dat)))]⟩,[],0⟩) (fun _=>True) ?_ ?_
  ·intro K hK
   cases five
   ·repeat' (first|((with_reducible first|(refine hK _ ?_;clear hK K)|refine aj fun U O=>?_|apply ah|(apply Z<;>(intro hc;try simp at hc;try omega)))<;>try simp only [go_sem])|(with_reducible first|apply ag|(refine O _ ?_;clear O U)|refine kN iZ fun K hK=>?_|refine kO fun K hK=>?_|refine aI ?_)|(refine xS rfl fun U O=>?_;simp only [go_sem])|apply iB)
    exact hK () _ trivial (ao [] (by simp [lk,ae]<;>omega))
   ·obtain ⟨hA,hI,rfl,hA2,hv2,hN⟩:=hS rfl
    have hi1:=cf (eV p.items qa hpf.1.1 hpf.1.2 hqa2)
    have hi2:=cf (eY p.items qa hpf.1.1 hpf.1.2 hqa2)
    rw [jh,hI] at hi1 hi2
    obtain ⟨hVn,hVs⟩:=rY (q:=qa) hpf.1.1 hpf.1.2
    generalize iK p.items qa = V at hi1 hi2 hVn hVs hA2 hv2 hN ⊢
    have hc1:=k9 c p V hcf hpf hVn hVs hA.1 hv2 hN
    have hc2:=k_ c p V hcf hpf hVn hVs hA.1 hv2 hN hA2.1
    have hg:=mF c (dz p V) f hcf (kq hpf hVn hVs) hA2
    have hq1:=iO V hVn hVs
    have hq3:=k7 (dz p V) (kq hpf hVn hVs)
    generalize eh c (dz p V) f = sw at hg ⊢
    simp only [dz] at hg hq3
    repeat' (first|((with_reducible first|(refine hK _ ?_;clear hK K)|refine aj fun U O=>?_|apply ah|(apply Z<;>(intro hc;try simp at hc;try omega)))<;>try simp only [go_sem,bne_self_eq_false])|(with_reducible first|apply ag|(refine O _ ?_;clear O U)|refine kN iZ fun K hK=>?_|refine kO fun K hK=>?_|refine aI ?_)|(refine xS rfl fun U O=>?_;simp only [go_sem,bne_self_eq_false])|((with_reducible apply CallK.eq);(· with_reducible first|exact hi1|exact hi2|exact hc1|exact hc2|exact hg|exact hq1|exact hq3);(· simp [RV.flat,D.sc,ab]);try simp only [go_sem,bne_self_eq_false])|apply iB)
    exact hK () _ trivial (ao [] (by simp [lk,ae]<;>omega))
  rintro ⟨⟩ _
  try dsimp only
  clear hS
  cases ok
  ·repeat' (first|((with_reducible first|(refine hK _ ?_;clear hK K)|refine aj fun U O=>?_|apply ah|(apply Z<;>(intro hc;try simp at hc;try omega)))<;>try simp only [go_sem])|(with_reducible first|apply ag|(refine O _ ?_;clear O U)|refine kN iZ fun K hK=>?_|refine kO fun K hK=>?_|refine aI ?_)|(refine xS rfl fun U O=>?_;simp only [go_sem])|apply iB)
   refine ak rfl rfl (by simp [am,lk]) ?_;rfl
  ·obtain ⟨hv,hh,rfl,hWc⟩:=hFin rfl
   have hfs:=oD l (ca q) hn hs hv hh
   rw [←hWc] at hfs
   repeat' (first|((with_reducible first|(refine hK _ ?_;clear hK K)|refine aj fun U O=>?_|apply ah|(apply Z<;>(intro hc;try simp at hc;try omega)))<;>try simp only [go_sem,an])|(with_reducible first|apply ag|(refine O _ ?_;clear O U)|refine kN iZ fun K hK=>?_|refine kO fun K hK=>?_|refine aI ?_)|(refine xS rfl fun U O=>?_;simp only [go_sem,an])|((with_reducible apply CallK.eq);(· with_reducible first|exact hfs);(· simp [RV.flat,D.sc,ab]);try simp only [go_sem,an])|apply iB)
   refine aD [4,39,41,246,247,248,249,250,251,252,253,254] (fun k:Nat=>[(246,.d (.int .i64 (k:Int))),(39,.d (.int .i64 ((ca (q.take k)).length:Int)))]) (fun _=>[]) 0 (fun k=>k≤q.length) (fun k=>q.length - k) 0 (Nat.zero_le _) (ao [] (by simp [lk,ae,List.take_zero,jl,aM]<;>omega)) ?_
   rintro k hk;simp only [bi,wipe,wl,bh,bw,rm,if_true,if_false,Nat.reduceEqDiff,Bool.false_eq_true,reduceCtorEq]
   have hL:=jq q k
   by_cases hlt:k < q.length
   ·obtain ⟨x,hx⟩:∃ x,q[k]? = some x:=⟨_,List.getElem?_eq_getElem hlt⟩
    cases hacc:x.acc
    ·have hno:((ca (q.take (k + 1))).length:Int) = ((ca (q.take k)).length:Int):=by rw [kk hx hacc]
     repeat' (first|((with_reducible first|(refine hK _ ?_;clear hK K)|refine aj fun U O=>?_|apply ah|(apply Z<;>(intro hc;try simp at hc;try omega)))<;>try simp only [go_sem,an,ap,hx,aq,InquiryD.dat,hacc,hlt])|(with_reducible first|apply ag|(refine O _ ?_;clear O U)|refine kN iZ fun K hK=>?_|refine kO fun K hK=>?_|refine aI ?_)|(refine xS rfl fun U O=>?_;simp only [go_sem,an,ap,hx,aq,InquiryD.dat,hacc,hlt])|apply iB)
     exact ⟨k + 1,by omega,by omega,(ao [] (by simp [lk,ae,hno]<;>omega))⟩
    ·have hyes:((ca (q.take (k + 1))).length:Int) = ((ca (q.take k)).length:Int) + 1:=by rw [jG hx hacc];simp
     repeat' (first|((with_reducible first|(refine hK _ ?_;clear hK K)|refine aj fun U O=>?_|apply ah|(apply Z<;>(intro hc;try simp at hc;try omega)))<;>try simp only [go_sem,an,ap,hx,aq,InquiryD.dat,hacc,hlt])|(with_reducible first|apply ag|(refine O _ ?_;clear O U)|refine kN iZ fun K hK=>?_|refine kO fun K hK=>?_|refine aI ?_)|(refine xS rfl fun U O=>?_;simp only [go_sem,an,ap,hx,aq,InquiryD.dat,hacc,hlt])|apply iB)
     exact ⟨k + 1,by omega,by omega,(ao [] (by simp [lk,ae,hyes]<;>omega))⟩
   ·have e:q.take k = q:=List.take_of_length_le (by omega)
    rw [e]
    repeat' (first|((with_reducible first|(refine hK _ ?_;clear hK K)|refine aj fun U O=>?_|apply ah|(apply Z<;>(intro hc;try simp at hc;try omega)))<;>try simp only [go_sem,hlt,an,beq_self_eq_true])|(with_reducible first|apply ag|(refine O _ ?_;clear O U)|refine kN iZ fun K hK=>?_|refine kO fun K hK=>?_|refine aI ?_)|(refine xS rfl fun U O=>?_;simp only [go_sem,hlt,an,beq_self_eq_true])|((with_reducible apply CallK.eq);(· with_reducible first|exact hqW);(· simp [RV.flat,D.sc,ab]);try simp only [go_sem,hlt,an,beq_self_eq_true])|apply iB)
    refine ak rfl rfl (by simp [am,lk]) ?_;rfl
theorem own:ownKnob Tryz.prog.godebug = none:=by kernel_rfl
theorem r_:laidOutB Tryz.prog = true:=by kernel_rfl
set_option linter.unusedVariables false in
set_option maxRecDepth 100000 in
theorem xr (os:Os) (started:os.Started) (H:Type) (enc:TypeId × Value→H):
  ReturnsInHanded {} Tryz.checked os 7 .any (Rows.fnAskedSpec.pre6 enc Tryz.prog Tryz.f7 Rows.fnAskedRow.domain false) (Rows.fnAskedSpec.post enc Tryz.prog Tryz.f7 false true false false):=by
 refine returnsInHanded_of_change (C:=Tryz.checked) own started (by kernel_rfl) Tryz.func7
  (ChangeSpec.witness6 (enc:=enc) (C:=Tryz.checked) false ⟨#[],#[.slice none 0 0,.slice none 0 0],[]⟩ 8 (by kernel_rfl) (by kernel_rfl) (by kernel_rfl) (by kernel_rfl)) ?_
 intro W base args ds gs before hval0 hW hcnd _
 have hval:∀ (j:Nat) t v,Tryz.f7.params[j]? = some t→args[j]? = some v→Value.okWide Tryz.prog W .any base t v:=hval0
 have hW':=hW
 obtain ⟨p,q,hA0,hV,rfl,hfz,hnd⟩:=hW
 have hA:DataW.TrodAll enc Tryz.prog W 0 (fun _=>true) true Tryz.f7.params.toList args.toList ds p:=hA0
 rw [Tryz.params7] at hA hval
 obtain ⟨v0,vs0,d0,ds0,p0,q0,hargs,rfl,rfl,h0,r0⟩:=trodAll_cons hA
 obtain ⟨v1,vs1,d1,ds1,p1,q1,rfl,rfl,rfl,h1,r1⟩:=trodAll_cons r0
 obtain ⟨rfl,rfl,rfl⟩:=trodAll_nil r1
 obtain rfl:args = #[v0,v1]:=by cases args;simp_all
 obtain ⟨rfl,rfl⟩:=trodVars_none hV
 have k0:=h0
 have lt0:=pA k0
 obtain ⟨s0,len0,cap0,rfl⟩:=okWide_slice Tryz.underlying72 (hval 0 72 v0 rfl rfl)
 obtain ⟨fuel0,hf0⟩:=h0
 obtain ⟨x0,m0,rd0⟩:=open_bytes.2 _ _ _ hf0
 have R0:=nO rfl rd0
 clear hf0
 have k1:=h1
 have lt1:=pA k1
 obtain ⟨s1,len1,cap1,rfl⟩:=okWide_slice Tryz.underlying72 (hval 1 72 v1 rfl rfl)
 obtain ⟨fuel1,hf1⟩:=h1
 obtain ⟨x1,m1,rd1⟩:=open_bytes.2 _ _ _ hf1
 have R1:=nO rfl rd1
 clear hf1
 clear hA0 hval0
 refine (xE (law_FnAsked_ok x0 m0 x1 m1) W (xe W) _ rfl (ye R0 R1)).mono fun e W' ⟨he,bel⟩=>?_
 subst he
 exact ⟨_,rfl,_,_,_,[],_,[],hW',trodAll_mk1 (shut_bool Tryz.underlying4 _),(trodAll_cons_mk (Below.trod r_ (by kernel_rfl) (of_decide_eq_true (by kernel_rfl)) k0 bel lt0) (trodAll_cons_mk (Below.trod r_ (by kernel_rfl) (of_decide_eq_true (by kernel_rfl)) k1 bel lt1) trodAll_mk0)),rfl,bel.frame _,fun h=>by cases h⟩
theorem bi:Rows.fnAskedRow.holds Tryz.pinned (OpenSpec.ofChange Rows.fnAskedSpec):=
 OpenClaim.holds_of_wide 7 Tryz.f7 rfl rfl rfl rfl rfl rfl rfl ⟨rfl,rfl,rfl,rfl,rfl⟩ rfl rfl rfl rfl rfl (by kernel_rfl) Tryz.func7 (by kernel_rfl)
  (of_decide_eq_true (by kernel_rfl)) (by unfold Func.isWrapper;first|(rw [if_pos (by decide +kernel)];kernel_rfl)|(rw [if_neg (by decide +kernel)];exact ⟨rfl,rfl⟩))
  (fun os started H enc _=>xr os started H enc)
theorem proved:Rows.FnAskedSaid:=bi
end Go.Proofs.YtphakidbddamfaaGreat.lawAsked
