/-
  Drawn pairs of performances.
-/
import Derived.Test.YtphakidbddamfaaGreatZDo
import Derived.Test.YtphakidbddamfaaGreatZJd
set_option linter.unusedSimpArgs false
set_option linter.unusedVariables false
set_option maxHeartbeats 2000000
set_option maxRecDepth 100000
namespace Go.Proofs.YtphakidbddamfaaGreat
open Go.RowKit
theorem sV (p:PerfD) (l:List ItemD) (hpf:PfFit 1048576 p) (hn:l.length≤1048576) (hs:∀ r ∈ l,ItFit 1048576 r):FnAg Tryz.prog 82 [.agg p.cs,.d (.lst 3 (l.map ItemD.dat))] [.d (.lst 3 (l.map ItemD.dat)),.deep 23 1 (p.marks.grades.map (ax 1 aa)),.deep 23 1 (p.marks.components.map (ax 1 aa)),.d (.int .i64 p.slips.falls),.d (.int .i64 p.slips.seconds),.d (.int .i64 p.slips.other)]:=
 (nT p l hpf hn hs).dataP (fun i=>i == 0) (by
  unfold eg
  split
  ·rename_i h;rw [List.length_eq_zero_iff.1 h];rfl
  ·rfl)
theorem pfB.fit {c:CodeD} {p:PerfD} (h:pfB (c,p)):PfFit 1048576 p:=by
 obtain ⟨⟨_,h1,h2,⟨h3,h4⟩,h5,h6⟩,_⟩:=h
 simp only at h1 h2 h3 h4 h5 h6
 exact ⟨⟨by omega,fun x hx=>(h2 x hx).fit⟩,⟨by omega,fun x hx=>by have:=h4 x hx;omega⟩,⟨by omega,fun x hx=>by have:=h6 x hx;omega⟩⟩
theorem xE {G:List (List Int)} (h:∀ g ∈ G,ge g) {g:List Int} (hg:ge g) (i b:Nat) {v:Int} (hv:-5≤v∧v≤5):∀ x ∈ G.set i (g.set b v),ge x:=by
 intro x hx
 rcases List.mem_or_eq_of_mem_set hx with h1|h1
 ·exact h x h1
 ·subst h1
  refine ⟨by rw [cf];exact hg.1,by rw [cf];exact hg.2.1,fun y hy=>?_⟩
  rcases List.mem_or_eq_of_mem_set hy with h2|h2
  ·exact hg.2.2 y h2
  ·rw [h2];exact hv
theorem xu {G:List (List Int)} (h:∀ g ∈ G,jc g) {g:List Int} (hg:jc g) (i b:Nat) {v:Int} (hv:-1000≤v∧v≤1000):∀ x ∈ G.set i (g.set b v),jc x:=by
 intro x hx
 rcases List.mem_or_eq_of_mem_set hx with h1|h1
 ·exact h x h1
 ·subst h1
  refine ⟨by rw [cf];exact hg.1,by rw [cf];exact hg.2.1,fun y hy=>?_⟩
  rcases List.mem_or_eq_of_mem_set hy with h2|h2
  ·exact hg.2.2 y h2
  ·rw [h2];exact hv
def xG (q:CodeD × PerfD × PerfD):Prop:=pfB (q.1,q.2.1)∧pfB (q.1,q.2.2)
theorem w5 {k:Nat} {cs:List D} (hC:Cur k cs) (hk:k≤500000000):FnC Tryz.prog 154 3 [] cs (dd (k + 5800) xG fun q=>[.agg q.1.dat,.agg [.lst 3 (q.2.1.items.map ItemD.dat),.lst 1 (q.2.1.marks.grades.map (ax 1 aa)),.lst 1 (q.2.1.marks.components.map (ax 1 aa)),.int .i64 q.2.1.slips.falls,.int .i64 q.2.1.slips.seconds,.int .i64 q.2.1.slips.other],.agg [.lst 3 (q.2.2.items.map ItemD.dat),.lst 1 (q.2.2.marks.grades.map (ax 1 aa)),.lst 1 (q.2.2.marks.components.map (ax 1 aa)),.int .i64 q.2.2.slips.falls,.int .i64 q.2.2.slips.seconds,.int .i64 q.2.2.slips.other]]):=by
 refine cq ae Tryz.func154 rfl rfl hC.len fun ty=>?_;simp only [Tryz.ntmps154,aP,aK,Nat.reduceAdd,Nat.reduceSub,aH,aG,ao,aV]
 repeat' (first|((with_reducible first|(apply hK;clear hK K)|refine ah fun U O=>?_|apply ag|(apply Z<;>(intro hc;try simp at hc;try omega)))<;>try simp only [go_sem])|(with_reducible first|apply aj|(apply O;clear O U)|refine kN cV fun K hK=>?_|refine kO fun K hK=>?_|refine aI ?_)|apply iB)
 refine CallK.cur (some 0) (go hC (by omega)) rfl rfl rfl rfl rfl rfl ?_
 rintro c3 _ ⟨⟨⟨es,L,re,bo,ke,fa⟩,p⟩,hq,rfl,hC⟩
 try simp only [aU,go_sem]
 have hpf:=hq.fit
 have hsg:=sV p p.items hpf hpf.1.1 hpf.1.2
 repeat' (first|((with_reducible first|(apply hK;clear hK K)|refine ah fun U O=>?_|apply ag|(apply Z<;>(intro hc;try simp at hc;try omega)))<;>try simp only [go_sem,CodeD.dat,aH,aG])|(with_reducible first|apply aj|(apply O;clear O U)|refine kN cV fun K hK=>?_|refine kO fun K hK=>?_|refine aI ?_)|apply iB)
 refine CallK.po (gb rfl rfl hsg ⟨fun h=>by simp [AS.get,lk,dM,fl,fC] at h,?_⟩)
 have hm:=qc p.marks hpf.2
 by_cases hM:MarksOk p.marks
 ·rw [aW hM] at hm
  have hg0:∀ g ∈ p.marks.grades,ge g:=fun g hg=>by obtain ⟨a,ha⟩:=List.getElem?_of_mem hg;exact hM.grade ha
  have hc0:∀ g ∈ p.marks.components,jc g:=fun g hg=>by obtain ⟨a,ha⟩:=List.getElem?_of_mem hg;exact hM.comp ha
  have hgl:p.marks.grades.length≤14:=hM.2.1
  have hcl:p.marks.components.length = 3:=hM.1
  repeat' (first|((with_reducible first|(apply hK;clear hK K)|refine ah fun U O=>?_|apply ag|(apply Z<;>(intro hc;try simp at hc;try omega)))<;>try simp only [go_sem,ao])|(with_reducible first|apply aj|(apply O;clear O U)|refine kN cV fun K hK=>?_|refine kO fun K hK=>?_|refine aI ?_)|((with_reducible apply CallK.eq);(· with_reducible first|exact hm);(· simp [RV.flat,D.sc,aa]);try simp only [go_sem,ao])|apply iB)
  refine aA [9,10,34,35,36,37,38,39,40,41,42,43,44,45,46,47,48,49,50,51,52,53] (fun q:Nat × List (List Int) × List D=>[(0,.bptr 0 0),(2,.bptr 1 0),(3,.bptr 2 0),(4,.bptr 3 0),(5,.bptr 4 0),(6,.bptr 5 0),(7,.bptr 6 0),(32,.row 7 q.2.1.length),(33,.d (.int .i64 (p.marks.grades.length:Int))),(34,.d (.int .i64 (q.1:Int)))]) (fun q=>[(0,.pbox 0 ty (q.2.2.map .d)),(1,.box 42 [.d (.lst 4 []),.d (.lst 1 []),.d (.int .i64 0),.d (.int .i64 0),.d (.int .i64 0),.d (.int .i64 0)]),(2,.box 48 [.d (.lst 3 []),.d (.lst 1 []),.d (.lst 1 []),.d (.int .i64 0),.d (.int .i64 0),.d (.int .i64 0)]),(3,.box 48 [.d (.lst 3 []),.d (.lst 1 []),.d (.lst 1 []),.d (.int .i64 0),.d (.int .i64 0),.d (.int .i64 0)]),(4,.box 42 [.d (.lst 4 (es.map ElementD.dat)),.d (.lst 1 (L.map aa)),.d (.int .i64 re),.d (.int .i64 bo),.d (.int .i64 ke),.d (.int .i64 fa)]),(5,.box 48 [.d (.lst 3 (p.items.map ItemD.dat)),.d (.lst 1 (p.marks.grades.map (ax 1 aa))),.d (.lst 1 (p.marks.components.map (ax 1 aa))),.d (.int .i64 p.slips.falls),.d (.int .i64 p.slips.seconds),.d (.int .i64 p.slips.other)]),(6,.box 48 [.d (.lst 3 (p.items.map ItemD.dat)),.row 7 q.2.1.length,.row 8 p.marks.components.length,.d (.int .i64 p.slips.falls),.d (.int .i64 p.slips.seconds),.d (.int .i64 p.slips.other)]),(7,.deep 0 23 1 (q.2.1.map (ax 1 aa))),(8,.deep 0 23 1 (p.marks.components.map (ax 1 aa)))]) 9 (fun q=>q.1≤p.marks.grades.length∧q.2.1.length = p.marks.grades.length∧(∀ g ∈ q.2.1,ge g)∧Cur (k + 5100 + 4 * q.1) q.2.2) (fun q=>p.marks.grades.length - q.1) (0,p.marks.grades,c3) ⟨Nat.zero_le _,rfl,hg0,hC⟩ (an [(8,13)] (by simp [lk,ab]<;>omega)) ?_
  rintro ⟨i,G,c1⟩ ⟨hi,hG,hGo,hC1⟩;simp only [bc,wipe,wl,bb,bx,rm,if_true,if_false,Nat.reduceEqDiff,Bool.false_eq_true,reduceCtorEq]
  simp only at hi hG hGo hC1
  by_cases hlt:i < p.marks.grades.length
  ·have hlt':(i:Int) < (p.marks.grades.length:Int):=by omega
   obtain ⟨g,hg⟩:∃ g,G[i]? = some g:=⟨_,List.getElem?_eq_getElem (by omega)⟩
   have hiG:i < G.length:=by omega
   obtain ⟨g1,g9,gv⟩:=hGo g (List.mem_of_getElem? hg)
   repeat' (first|with_reducible refine bs (id:=9) ?_|with_reducible refine br (id:=9) ?_|((with_reducible first|(apply hK;clear hK K)|refine ah fun U O=>?_|apply ag|(apply Z<;>(intro hc;try simp at hc;try omega)))<;>try simp only [go_sem,hlt',hiG,ao,ap,hg,ar,ax])|(with_reducible first|apply aj|(apply O;clear O U)|refine kN cV fun K hK=>?_|refine kO fun K hK=>?_|refine aI ?_)|((first|refine CallK.cur (some 0) (a_ hC1 (by omega)) rfl rfl rfl rfl rfl rfl ?_);rintro c2 _ ⟨x,hx,rfl,hC⟩;try simp only [aU,go_sem,hlt',hiG,ao,ap,hg,ar,ax])|((first|refine CallK.cur (some 0) (a_ hC1 (by omega)) rfl rfl rfl rfl rfl rfl ?_);rintro c2 _ ⟨x,hx,rfl,hC⟩;try simp only [aU,go_sem,hlt',hiG,ao,ap,hg,ar,ax])|apply iB)
   obtain ⟨b,rfl⟩:∃ b:Nat,x = (b:Int):=⟨x.toNat,by omega⟩
   have hbg:b < g.length:=by omega
   obtain ⟨v,hv⟩:∃ v,g[b]? = some v:=⟨_,List.getElem?_eq_getElem hbg⟩
   have hv5:=gv v (List.mem_of_getElem? hv)
   clear hx
   unfold eu
   repeat' (first|((with_reducible first|(apply hK;clear hK K)|refine ah fun U O=>?_|apply ag|(apply Z<;>(intro hc;try simp at hc;try omega)))<;>try simp only [go_sem])|(with_reducible first|apply aj|(apply O;clear O U)|refine kN cV fun K hK=>?_|refine kO fun K hK=>?_|refine aI ?_)|apply iB)
   refine bH 12 ay rfl (fun K hK=>?_)
   refine aT 0 rfl rfl rfl (aM (.inl rfl)) ?_
   try simp only [go_sem,aB,aD,aE,ao,ap,ar,ax,aa,hg,hv,hbg,aH,aG]
   refine aT 1 rfl rfl rfl (aM (.inl rfl)) ?_
   try simp only [go_sem,aB,aD,aE,ao,ap,ar,ax,aa,hg,hv,hbg,aH,aG]
   refine aT 2 rfl rfl rfl (aM (.inl rfl)) ?_
   try simp only [go_sem,aB,aD,aE,ao,ap,ar,ax,aa,hg,hv,hbg,aH,aG]
   refine aT 3 rfl rfl rfl (aM (.inl rfl)) ?_
   try simp only [go_sem,aB,aD,aE,ao,ap,ar,ax,aa,hg,hv,hbg,aH,aG]
   refine aT 6 rfl rfl rfl (aM (.inl rfl)) ?_
   try simp only [go_sem,aB,aD,aE,ao,ap,ar,ax,aa,hg,hv,hbg,aH,aG]
   repeat' (first
    |((with_reducible refine O _ ?_);clear O U;try simp only [go_sem,aB,aD,aE,ao,ap,ar,ax,aa,hg,hv,hbg,aH,aG])
    |((with_reducible refine bB ?_);first
     |((first|((with_reducible first|refine aS (fuel:=6) [4,7] ?_|refine aS (fuel:=5) [5,7] ?_);refine ⟨⟨_,rfl,fun U O=>?_⟩,⟨_,rfl,fun U O=>?_⟩,trivial⟩)|((with_reducible first|refine aS (fuel:=5) [4] ?_|refine aS (fuel:=4) [7] ?_|refine aS (fuel:=4) [5] ?_|refine aS (fuel:=3) [8] ?_|refine aS (fuel:=2) [9] ?_|refine aS (fuel:=1) [10] ?_|refine aS (fuel:=0) [11] ?_);refine ⟨⟨_,rfl,fun U O=>?_⟩,trivial⟩))<;>((first|with_reducible refine bA rfl ?_|refine bl rfl ?_);simp only [go_sem,aB,aD,aE,ao,ap,ar,ax,aa,hg,hv,hbg,aH,aG]))
     |(refine bi (by decide +kernel) (hK _ ?_);clear hK K;try simp only [go_sem,aB,aD,aE,ao,ap,ar,ax,aa,hg,hv,hbg,aH,aG]))
    |((with_reducible apply CallK.eq);(focus (with_reducible first|exact ea _ _|exact gC _ _));(focus (first|exact rfl|(simp [RV.flat,D.sc,aa];done)));try simp only [go_sem,aB,aD,aE,ao,ap,ar,ax,aa,hg,hv,hbg,aH,aG])
    |((refine CallK.cur (some 0) (a_ hC (by omega)) rfl rfl rfl rfl rfl rfl ?_);(rintro c4 _ ⟨u,hu,rfl,hC4⟩);(try simp only [aU,go_sem]);(refine O _ ?_);(clear O U);(try simp only [go_sem]))
    |((refine cA (es':=g.map aa) (e1:=aa v) (ds:=[.int .i64 (min 5 (v + u))]) rfl (ae _ _ G3) rfl rfl rfl (by simp only [cU,ap,hg,ar,ax];rfl) (by rw [ap,hv];rfl) rfl rfl rfl (Nat.le_refl _) ?_);(rw [tP hg hv]);(refine O _ ?_);(clear O U);(try simp only [go_sem]))
    |with_reducible refine aI ?_
    |with_reducible refine aZ ?_|with_reducible refine bh ?_|with_reducible refine ba ?_)
   all_goals
    skip
   all_goals
    repeat' (first|((with_reducible first|(apply hK;clear hK K)|refine ah fun U O=>?_|apply ag|(apply Z<;>(intro hc;try simp at hc;try omega)))<;>try simp only [go_sem])|(with_reducible first|apply aj|(apply O;clear O U)|refine kN cV fun K hK=>?_|refine kO fun K hK=>?_|refine aI ?_)|apply iB)
    exact ⟨(i + 1,G.set i (g.set b (min 5 (v + u))),c4),⟨by simp only;omega,by simp only [cf];omega,xE hGo ⟨g1,g9,gv⟩ i b (by omega),hC4.mono (by simp only;omega)⟩,by simp only;omega,(an [] (by simp [lk,ab,cf]<;>omega))⟩
  ·have hlt':¬ (i:Int) < (p.marks.grades.length:Int):=by omega
   replace hC1:Cur (k + 5156) c1:=hC1.mono (by omega)
   repeat' (first|((with_reducible first|(apply hK;clear hK K)|refine ah fun U O=>?_|apply ag|(apply Z<;>(intro hc;try simp at hc;try omega)))<;>try simp only [go_sem,hlt'])|(with_reducible first|apply aj|(apply O;clear O U)|refine kN cV fun K hK=>?_|refine kO fun K hK=>?_|refine aI ?_)|apply iB)
   refine aA [12,13,58,59,60,61,62,63,64,65,66,67,68,69,70,71,72,73,74,75,76,77,78] (fun q:Nat × List (List Int) × List D=>[(0,.bptr 0 0),(2,.bptr 1 0),(3,.bptr 2 0),(4,.bptr 3 0),(5,.bptr 4 0),(6,.bptr 5 0),(7,.bptr 6 0),(56,.row 8 q.2.1.length),(57,.d (.int .i64 (p.marks.components.length:Int))),(58,.d (.int .i64 (q.1:Int)))]) (fun q=>[(0,.pbox 0 ty (q.2.2.map .d)),(1,.box 42 [.d (.lst 4 []),.d (.lst 1 []),.d (.int .i64 0),.d (.int .i64 0),.d (.int .i64 0),.d (.int .i64 0)]),(2,.box 48 [.d (.lst 3 []),.d (.lst 1 []),.d (.lst 1 []),.d (.int .i64 0),.d (.int .i64 0),.d (.int .i64 0)]),(3,.box 48 [.d (.lst 3 []),.d (.lst 1 []),.d (.lst 1 []),.d (.int .i64 0),.d (.int .i64 0),.d (.int .i64 0)]),(4,.box 42 [.d (.lst 4 (es.map ElementD.dat)),.d (.lst 1 (L.map aa)),.d (.int .i64 re),.d (.int .i64 bo),.d (.int .i64 ke),.d (.int .i64 fa)]),(5,.box 48 [.d (.lst 3 (p.items.map ItemD.dat)),.d (.lst 1 (p.marks.grades.map (ax 1 aa))),.d (.lst 1 (p.marks.components.map (ax 1 aa))),.d (.int .i64 p.slips.falls),.d (.int .i64 p.slips.seconds),.d (.int .i64 p.slips.other)]),(6,.box 48 [.d (.lst 3 (p.items.map ItemD.dat)),.row 7 G.length,.row 8 q.2.1.length,.d (.int .i64 p.slips.falls),.d (.int .i64 p.slips.seconds),.d (.int .i64 p.slips.other)]),(7,.deep 0 23 1 (G.map (ax 1 aa))),(8,.deep 0 23 1 (q.2.1.map (ax 1 aa)))]) 9 (fun q=>q.1≤3∧q.2.1.length = 3∧(∀ g ∈ q.2.1,jc g)∧Cur (k + 5156 + 4 * q.1) q.2.2) (fun q=>3 - q.1) (0,p.marks.components,c1) ⟨Nat.zero_le _,hcl,hc0,hC1⟩ (an [(7,7)] (by simp [lk,ab]<;>omega)) ?_
   rintro ⟨i,M,c1⟩ ⟨hi,hM,hMo,hC1⟩;simp only [bc,wipe,wl,bb,bx,rm,if_true,if_false,Nat.reduceEqDiff,Bool.false_eq_true,reduceCtorEq]
   simp only at hi hM hMo hC1
   by_cases hlt:i < 3
   ·have hlt':(i:Int) < (p.marks.components.length:Int):=by omega
    obtain ⟨g,hg⟩:∃ g,M[i]? = some g:=⟨_,List.getElem?_eq_getElem (by omega)⟩
    have hiM:i < M.length:=by omega
    obtain ⟨g1,g9,gv⟩:=hMo g (List.mem_of_getElem? hg)
    repeat' (first|with_reducible refine bs (id:=15) ?_|with_reducible refine br (id:=15) ?_|((with_reducible first|(apply hK;clear hK K)|refine ah fun U O=>?_|apply ag|(apply Z<;>(intro hc;try simp at hc;try omega)))<;>try simp only [go_sem,hlt',hiM,ao,ap,hg,ar,ax])|(with_reducible first|apply aj|(apply O;clear O U)|refine kN cV fun K hK=>?_|refine kO fun K hK=>?_|refine aI ?_)|((first|refine CallK.cur (some 0) (a_ hC1 (by omega)) rfl rfl rfl rfl rfl rfl ?_);rintro c2 _ ⟨x,hx,rfl,hC⟩;try simp only [aU,go_sem,hlt',hiM,ao,ap,hg,ar,ax])|((first|refine CallK.cur (some 0) (a_ hC1 (by omega)) rfl rfl rfl rfl rfl rfl ?_);rintro c2 _ ⟨x,hx,rfl,hC⟩;try simp only [aU,go_sem,hlt',hiM,ao,ap,hg,ar,ax])|apply iB)
    obtain ⟨b,rfl⟩:∃ b:Nat,x = (b:Int):=⟨x.toNat,by omega⟩
    have hbg:b < g.length:=by omega
    obtain ⟨v,hv⟩:∃ v,g[b]? = some v:=⟨_,List.getElem?_eq_getElem hbg⟩
    have hv5:=gv v (List.mem_of_getElem? hv)
    clear hx
    unfold eu
    repeat' (first|((with_reducible first|(apply hK;clear hK K)|refine ah fun U O=>?_|apply ag|(apply Z<;>(intro hc;try simp at hc;try omega)))<;>try simp only [go_sem])|(with_reducible first|apply aj|(apply O;clear O U)|refine kN cV fun K hK=>?_|refine kO fun K hK=>?_|refine aI ?_)|apply iB)
    refine bH 13 ay rfl (fun K hK=>?_)
    refine aT 0 rfl rfl rfl (aM (.inl rfl)) ?_
    try simp only [go_sem,aB,aD,aE,ao,ap,ar,ax,aa,hg,hv,hbg,aH,aG]
    refine aT 1 rfl rfl rfl (aM (.inl rfl)) ?_
    try simp only [go_sem,aB,aD,aE,ao,ap,ar,ax,aa,hg,hv,hbg,aH,aG]
    refine aT 2 rfl rfl rfl (aM (.inl rfl)) ?_
    try simp only [go_sem,aB,aD,aE,ao,ap,ar,ax,aa,hg,hv,hbg,aH,aG]
    refine aT 3 rfl rfl rfl (aM (.inl rfl)) ?_
    try simp only [go_sem,aB,aD,aE,ao,ap,ar,ax,aa,hg,hv,hbg,aH,aG]
    refine aT 6 rfl rfl rfl (aM (.inl rfl)) ?_
    try simp only [go_sem,aB,aD,aE,ao,ap,ar,ax,aa,hg,hv,hbg,aH,aG]
    repeat' (first
     |((with_reducible refine O _ ?_);clear O U;try simp only [go_sem,aB,aD,aE,ao,ap,ar,ax,aa,hg,hv,hbg,aH,aG])
     |((with_reducible refine bB ?_);first
      |((first|((with_reducible first|refine aS (fuel:=7) [4,7] ?_|refine aS (fuel:=6) [5,7] ?_|refine aS (fuel:=6) [4,8] ?_|refine aS (fuel:=5) [5,8] ?_);refine ⟨⟨_,rfl,fun U O=>?_⟩,⟨_,rfl,fun U O=>?_⟩,trivial⟩)|((with_reducible first|refine aS (fuel:=5) [7] ?_|refine aS (fuel:=5) [4] ?_|refine aS (fuel:=4) [8] ?_|refine aS (fuel:=4) [5] ?_|refine aS (fuel:=3) [9] ?_|refine aS (fuel:=2) [10] ?_|refine aS (fuel:=1) [11] ?_|refine aS (fuel:=0) [12] ?_);refine ⟨⟨_,rfl,fun U O=>?_⟩,trivial⟩))<;>((first|with_reducible refine bA rfl ?_|refine bl rfl ?_);simp only [go_sem,aB,aD,aE,ao,ap,ar,ax,aa,hg,hv,hbg,aH,aG]))
      |(refine bi (by decide +kernel) (hK _ ?_);clear hK K;try simp only [go_sem,aB,aD,aE,ao,ap,ar,ax,aa,hg,hv,hbg,aH,aG]))
     |((with_reducible apply CallK.eq);(focus (with_reducible first|exact ea _ _|exact gC _ _));(focus (first|exact rfl|(simp [RV.flat,D.sc,aa];done)));try simp only [go_sem,aB,aD,aE,ao,ap,ar,ax,aa,hg,hv,hbg,aH,aG])
     |((refine CallK.cur (some 0) (a_ hC (by omega)) rfl rfl rfl rfl rfl rfl ?_);(rintro c4 _ ⟨u,hu,rfl,hC4⟩);(try simp only [aU,go_sem]);(refine O _ ?_);(clear O U);(try simp only [go_sem]))
     |((refine cA (es':=g.map aa) (e1:=aa v) (ds:=[.int .i64 (max 0 (v - 25 * u))]) rfl (ae _ _ G3) rfl rfl rfl (by simp only [cU,ap,hg,ar,ax];rfl) (by rw [ap,hv];rfl) rfl rfl rfl (Nat.le_refl _) ?_);(rw [tP hg hv]);(refine O _ ?_);(clear O U);(try simp only [go_sem]))
     |with_reducible refine aI ?_
     |with_reducible refine aZ ?_|with_reducible refine bh ?_|with_reducible refine ba ?_)
    all_goals
     skip
    all_goals
     repeat' (first|((with_reducible first|(apply hK;clear hK K)|refine ah fun U O=>?_|apply ag|(apply Z<;>(intro hc;try simp at hc;try omega)))<;>try simp only [go_sem])|(with_reducible first|apply aj|(apply O;clear O U)|refine kN cV fun K hK=>?_|refine kO fun K hK=>?_|refine aI ?_)|apply iB)
     exact ⟨(i + 1,M.set i (g.set b (max 0 (v - 25 * u))),c4),⟨by simp only;omega,by simp only [cf];omega,xu hMo ⟨g1,g9,gv⟩ i b (by omega),hC4.mono (by simp only;omega)⟩,by simp only;omega,(an [] (by simp [lk,ab,cf]<;>omega))⟩
   ·have hlt':¬ (i:Int) < (p.marks.components.length:Int):=by omega
    replace hC1:Cur (k + 5168) c1:=hC1.mono (by omega)
    repeat' (first|with_reducible refine bs (id:=17) ?_|with_reducible refine br (id:=17) ?_|((with_reducible first|(apply hK;clear hK K)|refine ah fun U O=>?_|apply ag|(apply Z<;>(intro hc;try simp at hc;try omega)))<;>try simp only [go_sem,hlt'])|(with_reducible first|apply aj|(apply O;clear O U)|refine kN cV fun K hK=>?_|refine kO fun K hK=>?_|refine aI ?_)|apply iB)
    obtain ⟨⟨q1,q2,q3,q4⟩,q5⟩:=id hq
    simp only at q1 q2 q3 q4 q5
    have hma:pv ⟨G,M⟩:=⟨⟨by simp only;omega,fun x hx=>by have:=(hGo x hx).2.1;omega⟩,⟨by simp only;omega,fun x hx=>by have:=(hMo x hx).2.1;omega⟩⟩
    refine dF (fun q:MarksD × SlipsD × List D=>⟨⟨97,[(0,.bptr 0 0),(2,.bptr 1 0),(3,.bptr 2 0),(4,.bptr 3 0),(5,.bptr 4 0),(6,.bptr 5 0),(7,.bptr 6 0)]⟩,[(0,.pbox 0 ty (q.2.2.map .d)),(1,.box 42 [.d (.lst 4 []),.d (.lst 1 []),.d (.int .i64 0),.d (.int .i64 0),.d (.int .i64 0),.d (.int .i64 0)]),(2,.box 48 [.d (.lst 3 []),.d (.lst 1 []),.d (.lst 1 []),.d (.int .i64 0),.d (.int .i64 0),.d (.int .i64 0)]),(3,.box 48 [.d (.lst 3 []),.d (.lst 1 []),.d (.lst 1 []),.d (.int .i64 0),.d (.int .i64 0),.d (.int .i64 0)]),(4,.box 42 [.d (.lst 4 (es.map ElementD.dat)),.d (.lst 1 (L.map aa)),.d (.int .i64 re),.d (.int .i64 bo),.d (.int .i64 ke),.d (.int .i64 fa)]),(5,.box 48 [.d (.lst 3 (p.items.map ItemD.dat)),.d (.lst 1 (p.marks.grades.map (ax 1 aa))),.d (.lst 1 (p.marks.components.map (ax 1 aa))),.d (.int .i64 p.slips.falls),.d (.int .i64 p.slips.seconds),.d (.int .i64 p.slips.other)]),(6,.box 48 [.d (.lst 3 (p.items.map ItemD.dat)),.row 7 q.1.grades.length,.row 8 q.1.components.length,.d (.int .i64 q.2.1.falls),.d (.int .i64 q.2.1.seconds),.d (.int .i64 q.2.1.other)]),(7,.deep 0 23 1 (q.1.grades.map (ax 1 aa))),(8,.deep 0 23 1 (q.1.components.map (ax 1 aa)))],9⟩) (fun q=>pv q.1∧rX q.2.1∧Cur (k + 5800) q.2.2) ?_ ?_
    ·intro K hK
     repeat' (first|((with_reducible first|(apply hK;clear hK K)|refine ah fun U O=>?_|apply ag|(apply Z<;>(intro hc;try simp at hc;try omega)))<;>try simp only [go_sem])|(with_reducible first|apply aj|(apply O;clear O U)|refine kN cV fun K hK=>?_|refine kO fun K hK=>?_|refine aI ?_)|apply iB)
     refine CallK.cur (some 0) (a_ hC1 (by omega)) rfl rfl rfl rfl rfl rfl ?_;rintro c2 _ ⟨x,hx,rfl,hC⟩;try simp only [aU,go_sem]
     clear hx
     replace hC:Cur (k + 5170) c2:=hC
     by_cases h0:x = 0
     ·subst h0
      repeat' (first|((with_reducible first|(apply hK;clear hK K)|refine ah fun U O=>?_|apply ag|(apply Z<;>(intro hc;try simp at hc;try omega)))<;>try simp only [go_sem])|(with_reducible first|apply aj|(apply O;clear O U)|refine kN cV fun K hK=>?_|refine kO fun K hK=>?_|refine aI ?_)|apply iB)
      refine CallK.curA (some 0) (lF hC (by omega)) rfl rfl rfl rfl rfl rfl ?_
      rintro c5 _ ⟨⟨f1,s1,o1⟩,hs1,rfl,hC5⟩
      try simp only [aU,go_sem]
      repeat' (first|((with_reducible first|(apply hK;clear hK K)|refine ah fun U O=>?_|apply ag|(apply Z<;>(intro hc;try simp at hc;try omega)))<;>try simp only [go_sem])|(with_reducible first|apply aj|(apply O;clear O U)|refine kN cV fun K hK=>?_|refine kO fun K hK=>?_|refine aI ?_)|apply iB)
      exact hK (⟨G,M⟩,⟨f1,s1,o1⟩,c5) _ ⟨hma,hs1,hC5.mono (by omega)⟩ (an [(7,7),(8,8)] (by simp [lk,ab]<;>omega))
     by_cases h1:x = 1
     ·subst h1
      repeat' (first|((with_reducible first|(apply hK;clear hK K)|refine ah fun U O=>?_|apply ag|(apply Z<;>(intro hc;try simp at hc;try omega)))<;>try simp only [go_sem,ao])|(with_reducible first|apply aj|(apply O;clear O U)|refine kN cV fun K hK=>?_|refine kO fun K hK=>?_|refine aI ?_)|apply iB)
      refine CallK.curA (some 0) (mc hC (by omega) (by omega)) rfl rfl rfl rfl rfl rfl ?_
      rintro c5 _ ⟨m,hm,rfl,hC5⟩
      try simp only [aU,go_sem]
      repeat' (first|((with_reducible first|(apply hK;clear hK K)|refine ah fun U O=>?_|apply ag|(apply Z<;>(intro hc;try simp at hc;try omega)))<;>try simp only [go_sem,ao])|(with_reducible first|apply aj|(apply O;clear O U)|refine kN cV fun K hK=>?_|refine kO fun K hK=>?_|refine aI ?_)|apply iB)
      exact hK (m,p.slips,c5) _ ⟨hm.a (by omega),q5,hC5.mono (by omega)⟩ (an [(7,13),(8,14)] (by simp [lk,ab]<;>omega))
     repeat' (first|((with_reducible first|(apply hK;clear hK K)|refine ah fun U O=>?_|apply ag|(apply Z<;>(intro hc;try simp at hc;try omega)))<;>try simp only [go_sem,h0,h1])|(with_reducible first|apply aj|(apply O;clear O U)|refine kN cV fun K hK=>?_|refine kO fun K hK=>?_|refine aI ?_)|apply iB)
     exact hK (⟨G,M⟩,p.slips,c2) _ ⟨hma,q5,hC.mono (by omega)⟩ (an [(7,7),(8,8)] (by simp [lk,ab]<;>omega))
    ·rintro ⟨m,⟨f1,s1,o1⟩,c5⟩ ⟨hm1,hs1,hC5⟩
     simp only at hm1 hs1 hC5
     dsimp only
     refine d5 7 rfl ?_
     simp only [go_sem]
     refine d5 8 rfl ?_
     simp only [go_sem]
     repeat' (first|((with_reducible first|(apply hK;clear hK K)|refine ah fun U O=>?_|apply ag|(apply Z<;>(intro hc;try simp at hc;try omega)))<;>try simp only [go_sem])|(with_reducible first|apply aj|(apply O;clear O U)|refine kN cV fun K hK=>?_|refine kO fun K hK=>?_|refine aI ?_)|apply iB)
     refine cb 6 cV ay rfl (fun K hK=>?_)
     repeat' (first
      |((with_reducible refine O _ ?_);clear O U;try simp only [go_sem,aB,aD,aE,aH,aG])
      |((with_reducible refine bB ?_);first
       |((first|((with_reducible first|refine aS (fuel:=5) [0,1,2] ?_|refine aS (fuel:=4) [1,2,3] ?_);refine ⟨⟨_,rfl,fun U O=>?_⟩,⟨_,rfl,fun U O=>?_⟩,⟨_,rfl,fun U O=>?_⟩,trivial⟩)|((with_reducible first|refine aS (fuel:=4) [0,2] ?_|refine aS (fuel:=4) [0,1] ?_|refine aS (fuel:=3) [2,3] ?_|refine aS (fuel:=3) [1,3] ?_|refine aS (fuel:=3) [1,2] ?_|refine aS (fuel:=2) [2,4] ?_);refine ⟨⟨_,rfl,fun U O=>?_⟩,⟨_,rfl,fun U O=>?_⟩,trivial⟩)|((with_reducible first|refine aS (fuel:=3) [0] ?_|refine aS (fuel:=2) [3] ?_|refine aS (fuel:=2) [1] ?_|refine aS (fuel:=1) [4] ?_|refine aS (fuel:=1) [2] ?_|refine aS (fuel:=0) [5] ?_);refine ⟨⟨_,rfl,fun U O=>?_⟩,trivial⟩))<;>((first|with_reducible refine bA rfl ?_|refine bl rfl ?_);simp only [go_sem,aB,aD,aE,aH,aG]))
       |(refine bi (by decide +kernel) (hK _ ?_);clear hK K;try simp only [go_sem,aB,aD,aE,aH,aG]))
      |with_reducible refine aI ?_)
     all_goals
      skip
     all_goals
      repeat' (first|((with_reducible first|(apply hK;clear hK K)|refine ah fun U O=>?_|apply ag|(apply Z<;>(intro hc;try simp at hc;try omega)))<;>try simp only [go_sem])|(with_reducible first|apply aj|(apply O;clear O U)|refine kN cV fun K hK=>?_|refine kO fun K hK=>?_|refine aI ?_)|apply iB)
      refine bN (id:=0) (xs:=[.agg [.d _,.d _,.d _,.d _,.d _,.d _],.agg [.d _,.d _,.d _,.d _,.d _,.d _],.agg [.d _,.row _ _,.row _ _,.d _,.d _,.d _]]) _ rfl (by simp only [bj,bn,cJ,dD,ab,lk,ao,aP,aK,if_true,if_false,Nat.reduceEqDiff,Nat.reduceBEq,Nat.reduceAdd,Bool.false_eq_true,Option.some.injEq]<;>rfl) (by simp [am,a9]) rfl (Cur.len (by assumption)) ⟨(⟨es,L,re,bo,ke,fa⟩,p,⟨p.items,m,⟨f1,s1,o1⟩⟩),⟨hq,⟨q1,q2,q3,hm1⟩,hs1⟩,by simp [CodeD.dat],hC5⟩
 ·rw [aL hM] at hm
  repeat' (first|with_reducible refine bs (id:=4) ?_|with_reducible refine br (id:=4) ?_|((with_reducible first|(apply hK;clear hK K)|refine ah fun U O=>?_|apply ag|(apply Z<;>(intro hc;try simp at hc;try omega)))<;>try simp only [go_sem,ao])|(with_reducible first|apply aj|(apply O;clear O U)|refine kN cV fun K hK=>?_|refine kO fun K hK=>?_|refine aI ?_)|((with_reducible apply CallK.eq);(· with_reducible first|exact hm);(· simp [RV.flat,D.sc,aa]);try simp only [go_sem,ao])|apply iB)
  refine d5 12 rfl ?_
  simp only [go_sem]
  refine d5 13 rfl ?_
  simp only [go_sem]
  repeat' (first|((with_reducible first|(apply hK;clear hK K)|refine ah fun U O=>?_|apply ag|(apply Z<;>(intro hc;try simp at hc;try omega)))<;>try simp only [go_sem])|(with_reducible first|apply aj|(apply O;clear O U)|refine kN cV fun K hK=>?_|refine kO fun K hK=>?_|refine aI ?_)|apply iB)
  refine cb 6 cV ay rfl (fun K hK=>?_)
  repeat' (first
   |((with_reducible refine O _ ?_);clear O U;try simp only [go_sem,aB,aD,aE,aH,aG])
   |((with_reducible refine bB ?_);first
    |((first|((with_reducible first|refine aS (fuel:=5) [0,1,2] ?_|refine aS (fuel:=4) [1,2,3] ?_);refine ⟨⟨_,rfl,fun U O=>?_⟩,⟨_,rfl,fun U O=>?_⟩,⟨_,rfl,fun U O=>?_⟩,trivial⟩)|((with_reducible first|refine aS (fuel:=4) [0,2] ?_|refine aS (fuel:=4) [0,1] ?_|refine aS (fuel:=3) [2,3] ?_|refine aS (fuel:=3) [1,3] ?_|refine aS (fuel:=3) [1,2] ?_|refine aS (fuel:=2) [2,4] ?_);refine ⟨⟨_,rfl,fun U O=>?_⟩,⟨_,rfl,fun U O=>?_⟩,trivial⟩)|((with_reducible first|refine aS (fuel:=3) [0] ?_|refine aS (fuel:=2) [3] ?_|refine aS (fuel:=2) [1] ?_|refine aS (fuel:=1) [4] ?_|refine aS (fuel:=1) [2] ?_|refine aS (fuel:=0) [5] ?_);refine ⟨⟨_,rfl,fun U O=>?_⟩,trivial⟩))<;>((first|with_reducible refine bA rfl ?_|refine bl rfl ?_);simp only [go_sem,aB,aD,aE,aH,aG]))
    |(refine bi (by decide +kernel) (hK _ ?_);clear hK K;try simp only [go_sem,aB,aD,aE,aH,aG]))
   |with_reducible refine aI ?_)
  all_goals
   skip
  all_goals
   repeat' (first|((with_reducible first|(apply hK;clear hK K)|refine ah fun U O=>?_|apply ag|(apply Z<;>(intro hc;try simp at hc;try omega)))<;>try simp only [go_sem])|(with_reducible first|apply aj|(apply O;clear O U)|refine kN cV fun K hK=>?_|refine kO fun K hK=>?_|refine aI ?_)|apply iB)
   refine bN (id:=0) (xs:=[.agg [.d _,.d _,.d _,.d _,.d _,.d _],.agg [.d _,.d _,.d _,.d _,.d _,.d _],.agg [.d _,.row _ _,.row _ _,.d _,.d _,.d _]]) _ rfl (by simp only [bj,bn,cJ,dD,ab,lk,ao,aP,aK,if_true,if_false,Nat.reduceEqDiff,Nat.reduceBEq,Nat.reduceAdd,Bool.false_eq_true,Option.some.injEq]<;>rfl) (by simp [am,a9]) rfl (Cur.len (by assumption)) ⟨(⟨es,L,re,bo,ke,fa⟩,p,p),⟨hq,hq⟩,by simp [CodeD.dat],hC.mono (by omega)⟩
end Go.Proofs.YtphakidbddamfaaGreat
