/-
  The draws of codes and performances.
-/
import Derived.Test.YtphakidbddamfaaGreatZDr
import Derived.Test.YtphakidbddamfaaGreatZDa
set_option linter.unusedSimpArgs false
set_option linter.unusedVariables false
set_option maxHeartbeats 2000000
set_option maxRecDepth 100000
namespace Go.Proofs.YtphakidbddamfaaGreat
open Go.RowKit
theorem rl (xs:List Int) (hx:∀ x ∈ xs,0≤x∧x≤255) (hn:xs.length≤9223372036854775807):FnOK Tryz.prog 106 [.d (.lst 1 (xs.map dg))] (fun rs=>∃ (c:CodeD) (p:PerfD) (f:Int),(pfB (c,p)∧9≤f∧f≤401)∧rs = [.agg c.dat,.agg [.lst 3 (p.items.map ItemD.dat),.lst 1 (p.marks.grades.map (ax 1 aa)),.lst 1 (p.marks.components.map (ax 1 aa)),.int .i64 p.slips.falls,.int .i64 p.slips.seconds,.int .i64 p.slips.other],.d (.int .i64 f)]):=by
 have hC:=tq hx hn
 refine aN ae Tryz.func106 rfl rfl ?_;simp only [Tryz.ntmps106,aP,aK,Nat.reduceAdd,Nat.reduceSub,aV]
 repeat' (first|((with_reducible first|(apply hK;clear hK K)|refine ah fun U O=>?_|apply ag|(apply Z<;>(intro hc;try simp at hc;try omega)))<;>try simp only [go_sem])|(with_reducible first|apply aj|(apply O;clear O U)|refine kN pk fun K hK=>?_|refine kO fun K hK=>?_|refine aI ?_)|fail)
 rw [nj (.lst 1 (xs.map dg)) (.int .i64 0) (.int .u64 0)]
 generalize [D.lst 1 (xs.map dg),D.int .i64 0,D.int .u64 0] = cs at hC ⊢
 refine CallK.cur none (go (by assumption) (by omega)) rfl rfl rfl rfl rfl rfl ?_
 rintro c3 _ ⟨⟨⟨es,L,re,bo,ke,fa⟩,p⟩,hq,rfl,hC⟩
 try simp only [aU,go_sem]
 repeat' (first|((with_reducible first|(apply hK;clear hK K)|refine ah fun U O=>?_|apply ag|(apply Z<;>(intro hc;try simp at hc;try omega)))<;>try simp only [go_sem,CodeD.dat,aH,aG])|(with_reducible first|apply aj|(apply O;clear O U)|refine kN pk fun K hK=>?_|refine kO fun K hK=>?_|refine aI ?_)|fail)
 refine cb 7 pk ay rfl (fun K hK=>?_)
 refine aT 2 rfl rfl rfl (aM (.inl rfl)) ?_
 try simp only [go_sem,aB,aD,aE,aH,aG]
 repeat' (first
  |((with_reducible refine O _ ?_);clear O U;try simp only [go_sem,aB,aD,aE,aH,aG])
  |((with_reducible refine bB ?_);first
   |(refine aT 6 rfl rfl rfl (aM (.inr rfl)) ?_;try simp only [go_sem,aB,aD,aE,aH,aG])
   |((first|((with_reducible first|refine aS (fuel:=5) [0,1,3] ?_);refine ⟨⟨_,rfl,fun U O=>?_⟩,⟨_,rfl,fun U O=>?_⟩,⟨_,rfl,fun U O=>?_⟩,trivial⟩)|((with_reducible first|refine aS (fuel:=4) [1,3] ?_|refine aS (fuel:=4) [0,3] ?_|refine aS (fuel:=4) [0,1] ?_|refine aS (fuel:=3) [1,4] ?_);refine ⟨⟨_,rfl,fun U O=>?_⟩,⟨_,rfl,fun U O=>?_⟩,trivial⟩)|((with_reducible first|refine aS (fuel:=3) [3] ?_|refine aS (fuel:=3) [0] ?_|refine aS (fuel:=2) [4] ?_|refine aS (fuel:=2) [1] ?_|refine aS (fuel:=1) [5] ?_);refine ⟨⟨_,rfl,fun U O=>?_⟩,trivial⟩))<;>((first|with_reducible refine bA rfl ?_|refine bl rfl ?_);simp only [go_sem,aB,aD,aE,aH,aG]))
   |(refine bi (by decide +kernel) (hK _ ?_);clear hK K;try simp only [go_sem,aB,aD,aE,aH,aG]))
  |((refine CallK.cur none (iz hC (by omega)) rfl rfl rfl rfl rfl rfl ?_);(rintro c4 _ ⟨f,hf,rfl,hC4⟩);(try simp only [aU,go_sem]);(refine O _ ?_);(clear O U);(try simp only [go_sem]))
  |with_reducible refine aI ?_)
 all_goals
  skip
 all_goals
  repeat' (first|((with_reducible first|(apply hK;clear hK K)|refine ah fun U O=>?_|apply ag|(apply Z<;>(intro hc;try simp at hc;try omega)))<;>try simp only [go_sem])|(with_reducible first|apply aj|(apply O;clear O U)|refine kN pk fun K hK=>?_|refine kO fun K hK=>?_|refine aI ?_)|fail)
  refine ak (rs:=[.agg (CodeD.dat ⟨es,L,re,bo,ke,fa⟩),.agg [.lst 3 (p.items.map ItemD.dat),.lst 1 (p.marks.grades.map (ax 1 aa)),.lst 1 (p.marks.components.map (ax 1 aa)),.int .i64 p.slips.falls,.int .i64 p.slips.seconds,.int .i64 p.slips.other],.d (.int .i64 f)]) rfl (by simp [bj,bn,cJ,dD,ab,lk,CodeD.dat]) (by simp [am,a9,lk]) ?_
  exact ⟨_,p,f,⟨hq,hf⟩,rfl⟩
theorem rt (xs:List Int) (hx:∀ x ∈ xs,0≤x∧x≤255) (hn:xs.length≤9223372036854775807):FnOK Tryz.prog 47 [.d (.lst 1 (xs.map dg))] (fun rs=>∃ (c:CodeD) (p:PerfD) (f:Int),(pfB (c,p)∧9≤f∧f≤401)∧rs = [.agg c.dat,.agg [.lst 3 (p.items.map ItemD.dat),.lst 1 (p.marks.grades.map (ax 1 aa)),.lst 1 (p.marks.components.map (ax 1 aa)),.int .i64 p.slips.falls,.int .i64 p.slips.seconds,.int .i64 p.slips.other],.d (.int .i64 f)]):=by
 refine aN ae Tryz.func47 rfl rfl ?_;simp only [Tryz.ntmps47,aP,aK,Nat.reduceAdd,Nat.reduceSub,aV]
 repeat' (first|((with_reducible first|(apply hK;clear hK K)|refine ah fun U O=>?_|apply ag|(apply Z<;>(intro hc;try simp at hc;try omega)))<;>try simp only [go_sem])|(with_reducible first|apply aj|(apply O;clear O U)|refine kN xm fun K hK=>?_|refine kO fun K hK=>?_|refine aI ?_)|fail)
 refine CallK.of (rl xs hx hn) ?_;rintro _ ⟨⟨es,L,re,bo,ke,fa⟩,p,f,hq,rfl⟩;refine ⟨(fun h=>by cases h),?_⟩;try simp only [go_sem]
 repeat' (first|((with_reducible first|(apply hK;clear hK K)|refine ah fun U O=>?_|apply ag|(apply Z<;>(intro hc;try simp at hc;try omega)))<;>try simp only [go_sem,CodeD.dat,aH,aG])|(with_reducible first|apply aj|(apply O;clear O U)|refine kN xm fun K hK=>?_|refine kO fun K hK=>?_|refine aI ?_)|fail)
 refine ak (rs:=[.agg (CodeD.dat ⟨es,L,re,bo,ke,fa⟩),.agg [.lst 3 (p.items.map ItemD.dat),.lst 1 (p.marks.grades.map (ax 1 aa)),.lst 1 (p.marks.components.map (ax 1 aa)),.int .i64 p.slips.falls,.int .i64 p.slips.seconds,.int .i64 p.slips.other],.d (.int .i64 f)]) rfl (by simp [bj,bn,cJ,dD,ab,lk,CodeD.dat]) (by simp [am,a9,lk]) ?_
 exact ⟨_,p,f,hq,rfl⟩
theorem rn (xs:List Int) (hx:∀ x ∈ xs,0≤x∧x≤255) (hn:xs.length≤9223372036854775807):FnOK Tryz.prog 48 [.d (.lst 1 (xs.map dg))] (fun rs=>∃ (c:CodeD) (p:PerfD) (f:Int) (x:InquiryD),(pfB (c,p)∧9≤f∧f≤401)∧rs = [.agg c.dat,.agg [.lst 3 (p.items.map ItemD.dat),.lst 1 (p.marks.grades.map (ax 1 aa)),.lst 1 (p.marks.components.map (ax 1 aa)),.int .i64 p.slips.falls,.int .i64 p.slips.seconds,.int .i64 p.slips.other],.d (.int .i64 f),.agg [.int .i64 x.tick,.int .i64 x.item,.int .i64 x.name,.int .i64 x.mark,.bool x.acc]]):=by
 have hC:=tq hx hn
 refine aN ae Tryz.func48 rfl rfl ?_;simp only [Tryz.ntmps48,aP,aK,Nat.reduceAdd,Nat.reduceSub,aV]
 repeat' (first|((with_reducible first|(apply hK;clear hK K)|refine ah fun U O=>?_|apply ag|(apply Z<;>(intro hc;try simp at hc;try omega)))<;>try simp only [go_sem])|(with_reducible first|apply aj|(apply O;clear O U)|refine kN tn fun K hK=>?_|refine kO fun K hK=>?_|refine aI ?_)|fail)
 rw [nj (.lst 1 (xs.map dg)) (.int .i64 0) (.int .u64 0)]
 generalize [D.lst 1 (xs.map dg),D.int .i64 0,D.int .u64 0] = cs at hC ⊢
 refine CallK.cur none (go (by assumption) (by omega)) rfl rfl rfl rfl rfl rfl ?_
 rintro c3 _ ⟨⟨⟨es,L,re,bo,ke,fa⟩,p⟩,hq,rfl,hC⟩
 try simp only [aU,go_sem]
 have hpf:=hq.fit
 repeat' (first|((with_reducible first|(apply hK;clear hK K)|refine ah fun U O=>?_|apply ag|(apply Z<;>(intro hc;try simp at hc;try omega)))<;>try simp only [go_sem,CodeD.dat,aH,aG])|(with_reducible first|apply aj|(apply O;clear O U)|refine kN tn fun K hK=>?_|refine kO fun K hK=>?_|refine aI ?_)|fail)
 refine cb 14 tn ay rfl (fun K hK=>?_)
 refine aT 2 rfl rfl rfl (aM (.inl rfl)) ?_
 try simp only [go_sem,aB,aD,aE,aH,aG]
 refine aT 4 rfl rfl rfl (aM (.inl rfl)) ?_
 try simp only [go_sem,aB,aD,aE,aH,aG]
 refine aT 5 rfl rfl rfl (aY rfl (ae _ _ tZ) rfl rfl) ?_
 try simp only [go_sem,aB,aD,aE,aH,aG]
 refine aT 7 rfl rfl rfl (aM (.inl rfl)) ?_
 try simp only [go_sem,aB,aD,aE,aH,aG]
 repeat' (first
  |((with_reducible refine O _ ?_);clear O U;try simp only [go_sem,aB,aD,aE,aH,aG])
  |((with_reducible refine bB ?_);first
   |(refine aT 12 rfl rfl rfl (aM (.inr rfl)) ?_;try simp only [go_sem,aB,aD,aE,aH,aG])
   |((first|((with_reducible first|refine aS (fuel:=9) [0,1,3,6] ?_|refine aS (fuel:=8) [0,1,6,8] ?_);refine ⟨⟨_,rfl,fun U O=>?_⟩,⟨_,rfl,fun U O=>?_⟩,⟨_,rfl,fun U O=>?_⟩,⟨_,rfl,fun U O=>?_⟩,trivial⟩)|((with_reducible first|refine aS (fuel:=8) [1,3,6] ?_|refine aS (fuel:=8) [0,3,6] ?_|refine aS (fuel:=8) [0,1,3] ?_|refine aS (fuel:=7) [1,6,8] ?_|refine aS (fuel:=7) [0,6,8] ?_|refine aS (fuel:=7) [0,1,8] ?_|refine aS (fuel:=7) [0,1,6] ?_|refine aS (fuel:=6) [0,1,9] ?_);refine ⟨⟨_,rfl,fun U O=>?_⟩,⟨_,rfl,fun U O=>?_⟩,⟨_,rfl,fun U O=>?_⟩,trivial⟩)|((with_reducible first|refine aS (fuel:=7) [3,6] ?_|refine aS (fuel:=7) [1,3] ?_|refine aS (fuel:=7) [0,3] ?_|refine aS (fuel:=6) [6,8] ?_|refine aS (fuel:=6) [1,8] ?_|refine aS (fuel:=6) [1,6] ?_|refine aS (fuel:=6) [0,8] ?_|refine aS (fuel:=6) [0,6] ?_|refine aS (fuel:=5) [1,9] ?_|refine aS (fuel:=5) [0,9] ?_|refine aS (fuel:=5) [0,1] ?_|refine aS (fuel:=4) [1,10] ?_);refine ⟨⟨_,rfl,fun U O=>?_⟩,⟨_,rfl,fun U O=>?_⟩,trivial⟩)|((with_reducible first|refine aS (fuel:=6) [3] ?_|refine aS (fuel:=5) [8] ?_|refine aS (fuel:=5) [6] ?_|refine aS (fuel:=4) [9] ?_|refine aS (fuel:=4) [0] ?_|refine aS (fuel:=3) [10] ?_|refine aS (fuel:=3) [1] ?_|refine aS (fuel:=2) [11] ?_|refine aS (fuel:=0) [13] ?_);refine ⟨⟨_,rfl,fun U O=>?_⟩,trivial⟩))<;>((first|with_reducible refine bA rfl ?_|refine bl rfl ?_);simp only [go_sem,aB,aD,aE,aH,aG]))
   |(refine bi (by decide +kernel) (hK _ ?_);clear hK K;try simp only [go_sem,aB,aD,aE,aH,aG]))
  |((refine CallK.cur none (iz hC (by omega)) rfl rfl rfl rfl rfl rfl ?_);(rintro c4 _ ⟨f,hf,rfl,hC4⟩);(try simp only [aU,go_sem]);(refine O _ ?_);(clear O U);(try simp only [go_sem]))
  |((refine CallK.cur none (a_ hC4 (by omega)) rfl rfl rfl rfl rfl rfl ?_);(rintro c5 _ ⟨t,ht,rfl,hC5⟩);(try simp only [aU,go_sem]);(refine O _ ?_);(clear O U);(try simp only [go_sem]))
  |((refine CallK.curA none (mX hC5 (by omega) hpf.1.1 hpf.1.2) rfl rfl rfl rfl rfl rfl ?_);(rintro c6 _ ⟨x,hx,rfl,hC6⟩);(try simp only [aU,go_sem]);(refine O _ ?_);(clear O U);(try simp only [go_sem]))
  |with_reducible refine aI ?_)
 all_goals
  skip
 all_goals
  repeat' (first|((with_reducible first|(apply hK;clear hK K)|refine ah fun U O=>?_|apply ag|(apply Z<;>(intro hc;try simp at hc;try omega)))<;>try simp only [go_sem])|(with_reducible first|apply aj|(apply O;clear O U)|refine kN tn fun K hK=>?_|refine kO fun K hK=>?_|refine aI ?_)|fail)
  refine ak (rs:=[.agg (CodeD.dat ⟨es,L,re,bo,ke,fa⟩),.agg [.lst 3 (p.items.map ItemD.dat),.lst 1 (p.marks.grades.map (ax 1 aa)),.lst 1 (p.marks.components.map (ax 1 aa)),.int .i64 p.slips.falls,.int .i64 p.slips.seconds,.int .i64 p.slips.other],.d (.int .i64 f),.agg [.int .i64 x.tick,.int .i64 x.item,.int .i64 x.name,.int .i64 x.mark,.bool x.acc]]) rfl (by simp [bj,bn,cJ,dD,ab,lk,CodeD.dat]) (by simp [am,a9,lk]) ?_
  exact ⟨_,p,f,x,⟨hq,hf⟩,rfl⟩
theorem m3 (xs:List Int) (hx:∀ x ∈ xs,0≤x∧x≤255) (hn:xs.length≤9223372036854775807):FnOK Tryz.prog 109 [.d (.lst 1 (xs.map dg))] (fun rs=>∃ (c:CodeD) (p q:PerfD) (f:Int),(xG (c,p,q)∧9≤f∧f≤401)∧rs = [.agg c.dat,.agg [.lst 3 (p.items.map ItemD.dat),.lst 1 (p.marks.grades.map (ax 1 aa)),.lst 1 (p.marks.components.map (ax 1 aa)),.int .i64 p.slips.falls,.int .i64 p.slips.seconds,.int .i64 p.slips.other],.agg [.lst 3 (q.items.map ItemD.dat),.lst 1 (q.marks.grades.map (ax 1 aa)),.lst 1 (q.marks.components.map (ax 1 aa)),.int .i64 q.slips.falls,.int .i64 q.slips.seconds,.int .i64 q.slips.other],.d (.int .i64 f)]):=by
 have hC:=tq hx hn
 refine aN ae Tryz.func109 rfl rfl ?_;simp only [Tryz.ntmps109,aP,aK,Nat.reduceAdd,Nat.reduceSub,aV]
 repeat' (first|((with_reducible first|(apply hK;clear hK K)|refine ah fun U O=>?_|apply ag|(apply Z<;>(intro hc;try simp at hc;try omega)))<;>try simp only [go_sem])|(with_reducible first|apply aj|(apply O;clear O U)|refine kN o7 fun K hK=>?_|refine kO fun K hK=>?_|refine aI ?_)|fail)
 rw [nj (.lst 1 (xs.map dg)) (.int .i64 0) (.int .u64 0)]
 generalize [D.lst 1 (xs.map dg),D.int .i64 0,D.int .u64 0] = cs at hC ⊢
 refine CallK.cur none (w5 (by assumption) (by omega)) rfl rfl rfl rfl rfl rfl ?_
 rintro c3 _ ⟨⟨⟨es,L,re,bo,ke,fa⟩,p,q⟩,hq,rfl,hC⟩
 try simp only [aU,go_sem]
 repeat' (first|((with_reducible first|(apply hK;clear hK K)|refine ah fun U O=>?_|apply ag|(apply Z<;>(intro hc;try simp at hc;try omega)))<;>try simp only [go_sem,CodeD.dat,aH,aG])|(with_reducible first|apply aj|(apply O;clear O U)|refine kN o7 fun K hK=>?_|refine kO fun K hK=>?_|refine aI ?_)|fail)
 refine cb 9 o7 ay rfl (fun K hK=>?_)
 refine aT 3 rfl rfl rfl (aM (.inl rfl)) ?_
 try simp only [go_sem,aB,aD,aE,aH,aG]
 repeat' (first
  |((with_reducible refine O _ ?_);clear O U;try simp only [go_sem,aB,aD,aE,aH,aG])
  |((with_reducible refine bB ?_);first
   |(refine aT 8 rfl rfl rfl (aM (.inr rfl)) ?_;try simp only [go_sem,aB,aD,aE,aH,aG])
   |((first|((with_reducible first|refine aS (fuel:=7) [0,1,2,4] ?_);refine ⟨⟨_,rfl,fun U O=>?_⟩,⟨_,rfl,fun U O=>?_⟩,⟨_,rfl,fun U O=>?_⟩,⟨_,rfl,fun U O=>?_⟩,trivial⟩)|((with_reducible first|refine aS (fuel:=6) [1,2,4] ?_|refine aS (fuel:=6) [0,2,4] ?_|refine aS (fuel:=6) [0,1,4] ?_|refine aS (fuel:=6) [0,1,2] ?_|refine aS (fuel:=5) [1,2,5] ?_);refine ⟨⟨_,rfl,fun U O=>?_⟩,⟨_,rfl,fun U O=>?_⟩,⟨_,rfl,fun U O=>?_⟩,trivial⟩)|((with_reducible first|refine aS (fuel:=5) [2,4] ?_|refine aS (fuel:=5) [1,4] ?_|refine aS (fuel:=5) [0,4] ?_|refine aS (fuel:=5) [0,2] ?_|refine aS (fuel:=5) [0,1] ?_|refine aS (fuel:=4) [2,5] ?_|refine aS (fuel:=4) [1,5] ?_|refine aS (fuel:=4) [1,2] ?_|refine aS (fuel:=3) [2,6] ?_);refine ⟨⟨_,rfl,fun U O=>?_⟩,⟨_,rfl,fun U O=>?_⟩,trivial⟩)|((with_reducible first|refine aS (fuel:=4) [4] ?_|refine aS (fuel:=4) [0] ?_|refine aS (fuel:=3) [5] ?_|refine aS (fuel:=3) [1] ?_|refine aS (fuel:=2) [6] ?_|refine aS (fuel:=2) [2] ?_|refine aS (fuel:=1) [7] ?_);refine ⟨⟨_,rfl,fun U O=>?_⟩,trivial⟩))<;>((first|with_reducible refine bA rfl ?_|refine bl rfl ?_);simp only [go_sem,aB,aD,aE,aH,aG]))
   |(refine bi (by decide +kernel) (hK _ ?_);clear hK K;try simp only [go_sem,aB,aD,aE,aH,aG]))
  |((refine CallK.cur none (iz hC (by omega)) rfl rfl rfl rfl rfl rfl ?_);(rintro c4 _ ⟨f,hf,rfl,hC4⟩);(try simp only [aU,go_sem]);(refine O _ ?_);(clear O U);(try simp only [go_sem]))
  |with_reducible refine aI ?_)
 all_goals
  skip
 all_goals
  repeat' (first|((with_reducible first|(apply hK;clear hK K)|refine ah fun U O=>?_|apply ag|(apply Z<;>(intro hc;try simp at hc;try omega)))<;>try simp only [go_sem])|(with_reducible first|apply aj|(apply O;clear O U)|refine kN o7 fun K hK=>?_|refine kO fun K hK=>?_|refine aI ?_)|fail)
  refine ak (rs:=[.agg (CodeD.dat ⟨es,L,re,bo,ke,fa⟩),.agg [.lst 3 (p.items.map ItemD.dat),.lst 1 (p.marks.grades.map (ax 1 aa)),.lst 1 (p.marks.components.map (ax 1 aa)),.int .i64 p.slips.falls,.int .i64 p.slips.seconds,.int .i64 p.slips.other],.agg [.lst 3 (q.items.map ItemD.dat),.lst 1 (q.marks.grades.map (ax 1 aa)),.lst 1 (q.marks.components.map (ax 1 aa)),.int .i64 q.slips.falls,.int .i64 q.slips.seconds,.int .i64 q.slips.other],.d (.int .i64 f)]) rfl (by simp [bj,bn,cJ,dD,ab,lk,CodeD.dat]) (by simp [am,a9,lk]) ?_
  exact ⟨_,p,q,f,⟨hq,hf⟩,rfl⟩
theorem nF (xs:List Int) (hx:∀ x ∈ xs,0≤x∧x≤255) (hn:xs.length≤9223372036854775807):FnOK Tryz.prog 49 [.d (.lst 1 (xs.map dg))] (fun rs=>∃ (c:CodeD) (p q:PerfD) (f:Int),(xG (c,p,q)∧9≤f∧f≤401)∧rs = [.agg c.dat,.agg [.lst 3 (p.items.map ItemD.dat),.lst 1 (p.marks.grades.map (ax 1 aa)),.lst 1 (p.marks.components.map (ax 1 aa)),.int .i64 p.slips.falls,.int .i64 p.slips.seconds,.int .i64 p.slips.other],.agg [.lst 3 (q.items.map ItemD.dat),.lst 1 (q.marks.grades.map (ax 1 aa)),.lst 1 (q.marks.components.map (ax 1 aa)),.int .i64 q.slips.falls,.int .i64 q.slips.seconds,.int .i64 q.slips.other],.d (.int .i64 f)]):=by
 refine aN ae Tryz.func49 rfl rfl ?_;simp only [Tryz.ntmps49,aP,aK,Nat.reduceAdd,Nat.reduceSub,aV]
 repeat' (first|((with_reducible first|(apply hK;clear hK K)|refine ah fun U O=>?_|apply ag|(apply Z<;>(intro hc;try simp at hc;try omega)))<;>try simp only [go_sem])|(with_reducible first|apply aj|(apply O;clear O U)|refine kN xC fun K hK=>?_|refine kO fun K hK=>?_|refine aI ?_)|fail)
 refine CallK.of (m3 xs hx hn) ?_;rintro _ ⟨⟨es,L,re,bo,ke,fa⟩,p,q,f,hq,rfl⟩;refine ⟨(fun h=>by cases h),?_⟩;try simp only [go_sem]
 repeat' (first|((with_reducible first|(apply hK;clear hK K)|refine ah fun U O=>?_|apply ag|(apply Z<;>(intro hc;try simp at hc;try omega)))<;>try simp only [go_sem,CodeD.dat,aH,aG])|(with_reducible first|apply aj|(apply O;clear O U)|refine kN xC fun K hK=>?_|refine kO fun K hK=>?_|refine aI ?_)|fail)
 refine ak (rs:=[.agg (CodeD.dat ⟨es,L,re,bo,ke,fa⟩),.agg [.lst 3 (p.items.map ItemD.dat),.lst 1 (p.marks.grades.map (ax 1 aa)),.lst 1 (p.marks.components.map (ax 1 aa)),.int .i64 p.slips.falls,.int .i64 p.slips.seconds,.int .i64 p.slips.other],.agg [.lst 3 (q.items.map ItemD.dat),.lst 1 (q.marks.grades.map (ax 1 aa)),.lst 1 (q.marks.components.map (ax 1 aa)),.int .i64 q.slips.falls,.int .i64 q.slips.seconds,.int .i64 q.slips.other],.d (.int .i64 f)]) rfl (by simp [bj,bn,cJ,dD,ab,lk,CodeD.dat]) (by simp [am,a9,lk]) ?_
 exact ⟨_,p,q,f,hq,rfl⟩
end Go.Proofs.YtphakidbddamfaaGreat
