/-
  The draws of the law on asked scores.
-/
import Derived.Test.YtphakidbddamfaaGreatZDs
import Derived.Test.YtphakidbddamfaaGreatZDv
set_option linter.unusedSimpArgs false
set_option linter.unusedVariables false
set_option maxHeartbeats 2000000
set_option maxRecDepth 100000
namespace Go.Proofs.YtphakidbddamfaaGreat
open Go.RowKit
theorem qj (xs:List Int) (hx:∀ x ∈ xs,0≤x∧x≤255) (hn:xs.length≤9223372036854775807):FnOK Tryz.prog 32 [.d (.lst 1 (xs.map fF))] (fun rs=>∃ (l:List ItemD) (q:List InquiryD),(sW l∧q.length≤21)∧rs = [.d (.lst 3 (l.map ItemD.dat)),.d (.lst 5 (q.map InquiryD.dat))]):=by
 refine aO aa Tryz.func32 rfl rfl ?_;simp only [Tryz.ntmps32,aR,aM,Nat.reduceAdd,Nat.reduceSub,aW]
 repeat' (first|((with_reducible first|(refine hK _ ?_;clear hK K)|refine aj fun U O=>?_|apply ah|(apply Z<;>(intro hc;try simp at hc;try omega)))<;>try simp only [go_sem])|(with_reducible first|apply ag|(refine O _ ?_;clear O U)|refine kN xh fun K hK=>?_|refine kO fun K hK=>?_|refine aI ?_)|fail)
 refine CallK.of (so xs hx hn) ?_;rintro _ ⟨l,q,hq,rfl⟩;refine ⟨(fun h=>by cases h),?_⟩;try simp only [go_sem]
 repeat' (first|((with_reducible first|(refine hK _ ?_;clear hK K)|refine aj fun U O=>?_|apply ah|(apply Z<;>(intro hc;try simp at hc;try omega)))<;>try simp only [go_sem])|(with_reducible first|apply ag|(refine O _ ?_;clear O U)|refine kN xh fun K hK=>?_|refine kO fun K hK=>?_|refine aI ?_)|fail)
 refine ak (rs:=[.d (.lst 3 (l.map ItemD.dat)),.d (.lst 5 (q.map InquiryD.dat))]) rfl (by simp [bl,bn,cX,dT,ae,lk]) (by simp [am,bb,lk]) ?_
 exact ⟨l,q,hq,rfl⟩
theorem qG (xs:List Int) (hx:∀ x ∈ xs,0≤x∧x≤255) (hn:xs.length≤9223372036854775807):FnOK Tryz.prog 39 [.d (.lst 1 (xs.map fF))] (fun rs=>∃ (c:CodeD) (p:PerfD) (f:Int) (q:List InquiryD),(pfB (c,p)∧q.length≤21)∧rs = [.agg c.dat,.agg [.lst 3 (p.items.map ItemD.dat),.lst 1 (p.marks.grades.map (aF 1 ab)),.lst 1 (p.marks.components.map (aF 1 ab)),.int .i64 p.slips.falls,.int .i64 p.slips.seconds,.int .i64 p.slips.other],.d (.int .i64 f),.d (.lst 5 (q.map InquiryD.dat))]):=by
 refine FnOK.data ?_
 have hC:=xk hx hn
 refine aO aa Tryz.func39 rfl rfl ?_;simp only [Tryz.ntmps39,aR,aM,Nat.reduceAdd,Nat.reduceSub,aW]
 repeat' (first|((with_reducible first|(refine hK _ ?_;clear hK K)|refine aj fun U O=>?_|apply ah|(apply Z<;>(intro hc;try simp at hc;try omega)))<;>try simp only [go_sem])|(with_reducible first|apply ag|(refine O _ ?_;clear O U)|refine kN lX fun K hK=>?_|refine kO fun K hK=>?_|refine aI ?_)|fail)
 rw [w5 (.lst 1 (xs.map fF)) (.int .i64 0) (.int .u64 0)]
 generalize [D.lst 1 (xs.map fF),D.int .i64 0,D.int .u64 0] = cs at hC ⊢
 refine CallK.cur none (nu (by assumption) (by omega)) rfl rfl rfl rfl rfl rfl ?_
 rintro c3 _ ⟨⟨⟨es,L,re,bo,ke,fa⟩,p⟩,hq,rfl,hC⟩
 try simp only [a_,go_sem]
 have hpf:=hq.fit
 have hs63:∀ r ∈ p.items,ItFit 9223372036854775807 r:=fun r hr=>(hpf.1.2 r hr).mono (by decide)
 have hit:=di p.items (by have:=hpf.1.1;omega) hs63
 by_cases hv:ItsOk p.items
 ·rw [aQ hv] at hit
  repeat' (first|((with_reducible first|(refine hK _ ?_;clear hK K)|refine aj fun U O=>?_|apply ah|(apply Z<;>(intro hc;try simp at hc;try omega)))<;>try simp only [go_sem,CodeD.dat,aJ,aH])|(with_reducible first|apply ag|(refine O _ ?_;clear O U)|refine kN lX fun K hK=>?_|refine kO fun K hK=>?_|refine aI ?_)|((with_reducible apply CallK.eq);(· with_reducible first|exact hit);(· simp [RV.flat,D.sc,ab]);try simp only [go_sem,CodeD.dat,aJ,aH])|fail)
  refine bJ 12 lX ax rfl (fun K hK=>?_)
  refine aT 2 rfl rfl rfl (aL (.inl rfl)) ?_
  try simp only [go_sem,aA,aB,aC,aJ,aH]
  refine aT 4 rfl rfl rfl (aL (.inl rfl)) ?_
  try simp only [go_sem,aA,aB,aC,aJ,aH]
  refine aT 5 rfl rfl rfl (aY rfl (aa _ _ om) rfl rfl) ?_
  try simp only [go_sem,aA,aB,aC,aJ,aH]
  repeat' (first
   |((with_reducible refine O _ ?_);clear O U;try simp only [go_sem,aA,aB,aC,aJ,aH])
   |((with_reducible refine bB ?_);first
    |(refine aT 10 rfl rfl rfl (aL (.inr rfl)) ?_;try simp only [go_sem,aA,aB,aC,aJ,aH])
    |(refine aT 11 rfl rfl rfl (aL (.inr rfl)) ?_;try simp only [go_sem,aA,aB,aC,aJ,aH])
    |((first|((with_reducible first|refine aS (fuel:=8) [0,1,3,6] ?_);refine ⟨⟨_,rfl,fun U O=>?_⟩,⟨_,rfl,fun U O=>?_⟩,⟨_,rfl,fun U O=>?_⟩,⟨_,rfl,fun U O=>?_⟩,trivial⟩)|((with_reducible first|refine aS (fuel:=7) [1,3,6] ?_|refine aS (fuel:=7) [0,3,6] ?_|refine aS (fuel:=7) [0,1,6] ?_|refine aS (fuel:=7) [0,1,3] ?_|refine aS (fuel:=6) [0,1,7] ?_);refine ⟨⟨_,rfl,fun U O=>?_⟩,⟨_,rfl,fun U O=>?_⟩,⟨_,rfl,fun U O=>?_⟩,trivial⟩)|((with_reducible first|refine aS (fuel:=6) [3,6] ?_|refine aS (fuel:=6) [1,6] ?_|refine aS (fuel:=6) [1,3] ?_|refine aS (fuel:=6) [0,6] ?_|refine aS (fuel:=6) [0,3] ?_|refine aS (fuel:=5) [1,7] ?_|refine aS (fuel:=5) [0,7] ?_|refine aS (fuel:=5) [0,1] ?_|refine aS (fuel:=4) [1,8] ?_);refine ⟨⟨_,rfl,fun U O=>?_⟩,⟨_,rfl,fun U O=>?_⟩,trivial⟩)|((with_reducible first|refine aS (fuel:=5) [6] ?_|refine aS (fuel:=5) [3] ?_|refine aS (fuel:=4) [7] ?_|refine aS (fuel:=4) [0] ?_|refine aS (fuel:=3) [8] ?_|refine aS (fuel:=3) [1] ?_|refine aS (fuel:=2) [9] ?_);refine ⟨⟨_,rfl,fun U O=>?_⟩,trivial⟩))<;>((first|with_reducible refine aX rfl ?_|refine aP rfl ?_);simp only [go_sem,aA,aB,aC,aJ,aH]))
    |(refine bk (by decide +kernel) (hK _ ?_);clear hK K;try simp only [go_sem,aA,aB,aC,aJ,aH]))
   |((refine CallK.cur none (qH hC (by omega)) rfl rfl rfl rfl rfl rfl ?_);(rintro c4 _ ⟨f,hf,rfl,hC4⟩);(try simp only [a_,go_sem]);(refine O _ ?_);(clear O U);(try simp only [go_sem]))
   |((refine CallK.cur none (j1 hC4 (by omega) hpf.1.1 hpf.1.2 hv) rfl rfl rfl rfl rfl rfl ?_);(rintro c5 _ ⟨x,hx,rfl,hC5⟩);(try simp only [a_,go_sem]);(refine O _ ?_);(clear O U);(try simp only [go_sem]))
   |with_reducible refine aI ?_)
  all_goals
   skip
  all_goals
   repeat' (first|((with_reducible first|(refine hK _ ?_;clear hK K)|refine aj fun U O=>?_|apply ah|(apply Z<;>(intro hc;try simp at hc;try omega)))<;>try simp only [go_sem])|(with_reducible first|apply ag|(refine O _ ?_;clear O U)|refine kN lX fun K hK=>?_|refine kO fun K hK=>?_|refine aI ?_)|fail)
   refine ak (rs:=[.agg (CodeD.dat ⟨es,L,re,bo,ke,fa⟩),.agg [.lst 3 (p.items.map ItemD.dat),.lst 1 (p.marks.grades.map (aF 1 ab)),.lst 1 (p.marks.components.map (aF 1 ab)),.int .i64 p.slips.falls,.int .i64 p.slips.seconds,.int .i64 p.slips.other],.d (.int .i64 f),.row 50 5 (x.map InquiryD.dat)]) rfl (by simp [bl,bn,cX,dT,ae,lk,CodeD.dat]) (by simp [am,bb,lk]) ?_
   exact ⟨_,p,f,x,⟨hq,hx⟩,rfl⟩
 ·rw [aG hv] at hit
  repeat' (first|((with_reducible first|(refine hK _ ?_;clear hK K)|refine aj fun U O=>?_|apply ah|(apply Z<;>(intro hc;try simp at hc;try omega)))<;>try simp only [go_sem,CodeD.dat,aJ,aH])|(with_reducible first|apply ag|(refine O _ ?_;clear O U)|refine kN lX fun K hK=>?_|refine kO fun K hK=>?_|refine aI ?_)|((with_reducible apply CallK.eq);(· with_reducible first|exact hit);(· simp [RV.flat,D.sc,ab]);try simp only [go_sem,CodeD.dat,aJ,aH])|fail)
  refine bJ 6 lX ax rfl (fun K hK=>?_)
  repeat' (first
   |((with_reducible refine O _ ?_);clear O U;try simp only [go_sem,aA,aB,aC,aJ,aH])
   |((with_reducible refine bB ?_);first
    |(refine aT 4 rfl rfl rfl (aL (.inr rfl)) ?_;try simp only [go_sem,aA,aB,aC,aJ,aH])
    |((first|((with_reducible first|refine aS (fuel:=5) [0,1] ?_|refine aS (fuel:=4) [1,2] ?_);refine ⟨⟨_,rfl,fun U O=>?_⟩,⟨_,rfl,fun U O=>?_⟩,trivial⟩)|((with_reducible first|refine aS (fuel:=4) [0] ?_|refine aS (fuel:=3) [2] ?_|refine aS (fuel:=3) [1] ?_|refine aS (fuel:=2) [3] ?_|refine aS (fuel:=0) [5] ?_);refine ⟨⟨_,rfl,fun U O=>?_⟩,trivial⟩))<;>((first|with_reducible refine aX rfl ?_|refine aP rfl ?_);simp only [go_sem,aA,aB,aC,aJ,aH]))
    |(refine bk (by decide +kernel) (hK _ ?_);clear hK K;try simp only [go_sem,aA,aB,aC,aJ,aH]))
   |with_reducible refine aI ?_)
  all_goals
   skip
  all_goals
   repeat' (first|((with_reducible first|(refine hK _ ?_;clear hK K)|refine aj fun U O=>?_|apply ah|(apply Z<;>(intro hc;try simp at hc;try omega)))<;>try simp only [go_sem])|(with_reducible first|apply ag|(refine O _ ?_;clear O U)|refine kN lX fun K hK=>?_|refine kO fun K hK=>?_|refine aI ?_)|fail)
   refine ak (rs:=[.agg (CodeD.dat ⟨es,L,re,bo,ke,fa⟩),.agg [.lst 3 (p.items.map ItemD.dat),.lst 1 (p.marks.grades.map (aF 1 ab)),.lst 1 (p.marks.components.map (aF 1 ab)),.int .i64 p.slips.falls,.int .i64 p.slips.seconds,.int .i64 p.slips.other],.d (.int .i64 100),.row 50 5 []]) rfl (by simp [bl,bn,cX,dT,ae,lk,CodeD.dat]) (by simp [am,bb,lk]) ?_
   exact ⟨_,p,100,[],⟨hq,by simp⟩,rfl⟩
end Go.Proofs.YtphakidbddamfaaGreat
