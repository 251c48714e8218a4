/-
  The best inquiry: the program's function and the reference's, in the abstract machine.
-/
import Derived.Test.YtphakidbddamfaaGreatZSq
import Derived.Test.YtphakidbddamfaaGreatZJc
import Derived.Test.YtphakidbddamfaaGreatZJd
import Derived.Test.YtphakidbddamfaaGreatZIu
set_option linter.unusedSimpArgs false
set_option linter.unusedVariables false
set_option maxHeartbeats 2000000
set_option maxRecDepth 100000
namespace Go.Proofs.YtphakidbddamfaaGreat
open Go.RowKit
def u4 (b:List Int):List Int:=if b = [] then [0,0,0] else b
theorem nS {c:CodeD} {p:PerfD} {f m v:Int} {b x:List Int} (hv:eV c p f x = v) (h:m < v):i_ c p f (m,b) x = (v,x):=by unfold i_;rw [hv,if_pos h]
theorem qd {c:CodeD} {p:PerfD} {f m v:Int} {b x:List Int} (hv:eV c p f x = v) (h:¬ m < v):i_ c p f (m,b) x = (m,b):=by unfold i_;rw [hv,if_neg h]
theorem f5 (c:CodeD) (p:PerfD) (f:Int) (hcf:CdFit 1048576 c) (hpf:PfFit 1048576 p):FnEq Tryz.prog 24 [.agg c.cs,.agg p.cs,.d (.int .i64 f)] [.d (.int .i64 ((bg c p f).getD (0,0,0)).1),.d (.int .i64 ((bg c p f).getD (0,0,0)).2.1),.d (.int .i64 ((bg c p f).getD (0,0,0)).2.2),.d (.bool (bg c p f).isSome)]:=by
 have hs0:=ee c p f hcf hpf
 refine aN ae Tryz.func24 rfl rfl ?_;simp only [Tryz.ntmps24,aP,aK,Nat.reduceAdd,Nat.reduceSub,aV]
 by_cases hA:bO c p f
 ·have hb:=aW hA
  have hv:=hA.1.2.1
  have hs2:=d8 c p f hA
  have ho:=dS (jZ p.items hv)
  simp only [aH,aG,RV.data] at ho
  have hlen:=fO hv
  have hmem:∀ x ∈ bI p.items,∃ i k m:Int,x = [i,k,m]∧HasNm p.items i k∧0≤m∧m≤3:=fun x hx=>(eA hx).nm hv
  have hans:bg c p f = ix (bO c p f∧db c p f≠[]) ((db c p f).getD 0 0,(db c p f).getD 1 0,(db c p f).getD 2 0):=rfl
  have hbw:db c p f = (cp c p f (bI p.items) (bI p.items).length).2:=rfl
  have hbin:=i6 c p f (bI p.items) (bI p.items).length
  generalize bI p.items = w at ho hlen hmem hbw hbin
  repeat' (first|((with_reducible first|(apply hK;clear hK K)|refine ah fun U O=>?_|apply ag|(apply Z<;>(intro hc;try simp at hc;try omega)))<;>try simp only [go_sem,hb])|(with_reducible first|apply aj|(apply O;clear O U)|refine kN fY fun K hK=>?_|refine kO fun K hK=>?_|refine aI ?_)|((with_reducible first|apply CallK.eq|apply CallQ.eqs);(· with_reducible first|exact hs0|exact hs2|exact ho);(· first|exact rfl|(simp [RV.flat,D.sc,aa];done));try simp only [go_sem,hb])|(with_reducible refine az fY ae ay (by kernel_rfl) (fun K hK=>?_))|(with_reducible refine aO ae ay (by kernel_rfl) ?_)|apply iB)
  all_goals first
   |(exfalso;omega)
   |skip
  refine i0 11 rfl rfl rfl ?_
  simp only [go_sem]
  refine aA [6,7,8,9,10,11,13,14,29,30,31,32,33,34,35,36,37,38,39,40,41,42,43,44,45,46,47,48,49,50,51,52,53,54] (fun k:Nat=>[(29,.d (.int .i64 (k:Int))),(10,.d (.int .i64 (cp c p f w k).1)),(11,.d (.lst 1 ((cp c p f w k).2.map aa))),(3,.bptr 0 0),(4,.bptr 1 0),(24,.und)]) (fun k=>[(0,.box 42 c.cs),(1,.box 48 p.cs)]) 2 (fun k=>k≤w.length) (fun k=>w.length - k) 0 (Nat.zero_le _) (an [] (by simp [lk,ab,ld]<;>omega)) ?_
  intro k hk;simp only [bc,wipe,wl,bb,bx,rm,if_true,if_false,Nat.reduceEqDiff,Bool.false_eq_true,reduceCtorEq]
  have ht1:Int.toNat 1 = 1:=rfl
  have ht2:Int.toNat 2 = 2:=rfl
  by_cases hlt:k < w.length
  ·have hx:=List.getElem?_eq_getElem hlt
   have hxm:=List.getElem_mem hlt
   generalize w[k] = x at hx hxm
   obtain ⟨i,n,m,rfl,hN,hm1,hm2⟩:=hmem x hxm
   have hc1:=dS (jd p.items i n m hpf.1.1 hpf.1.2 hv hN)
   simp only [aH,aG,RV.data] at hc1
   have hs1:=iQ c p f _ (iu (i:=i) (k:=n) hA hm1 hm2)
   have hsc:eV c p f [i,n,m] = bF c (cW p (cv p.items (dR i n m))) f:=rfl
   have hsu:=gu (c:=c) (p:=p) (f:=f) hx
   generalize bF c (cW p (cv p.items (dR i n m))) f = v at hs1 hsc
   generalize cp c p f w k = s at hsu ⊢
   obtain ⟨most,best⟩:=s
   repeat' (first|((with_reducible first|(apply hK;clear hK K)|refine ah fun U O=>?_|apply ag|(apply Z<;>(intro hc;try simp at hc;try omega)))<;>try simp only [go_sem,ap,hx,ar,ax,aa,hlt,aH,aG])|(with_reducible first|apply aj|(apply O;clear O U)|refine kN fY fun K hK=>?_|refine kO fun K hK=>?_|refine aI ?_)|apply iB)
   refine fk fY ay [[3],[4],[2],[4],[36],[13],[38],[39],[13],[41],[42],[13],[44],[45],[37,40,43,46],[33,34,35,47],[48]] 67 rfl (by decide +kernel) (fun K hK=>?_)
   repeat (first|(apply iY rfl rfl;(· simp only [go_sem,bk,aB,aD,aE,aa,ht1,ht2];with_reducible first|exact hc1|exact hs1);(· first|rfl|simp [bk,AS.get,lk,dM,fl,fC]);try simp only [go_sem,bk,aB,aD,aE,aa,ht1,ht2])|(apply io rfl rfl;(· simp only [go_sem,bk,aB,aD,aE,aa,ht1,ht2];with_reducible first|exact hc1|exact hs1);(· first|rfl|simp [bk,AS.get,lk,dM,fl,fC]);try simp only [go_sem,bk,aB,aD,aE,aa,ht1,ht2])|(apply hU (ds:=[]) rfl rfl;(· simp only [go_sem,bk,aB,aD,aE,aa,ht1,ht2];with_reducible first|exact hc1|exact hs1);(· first|rfl|simp [bk,AS.get,lk,dM,fl,fC]);try simp only [go_sem,bk,aB,aD,aE,aa,ht1,ht2])|(refine fJ ae fun KP hKP=>?_;simp only [go_sem,bk,aB,aD,aE,aa,ht1,ht2];repeat (first|(with_reducible refine hKP _ ?_;clear hKP KP)|((with_reducible apply CallQ.eqs);(· with_reducible first|exact hc1|exact hs1);(· first|exact rfl|(simp [RV.flat,D.sc,aa];done));try simp only [go_sem,bk,aB,aD,aE,aa,ht1,ht2])|with_reducible refine aI ?_|(with_reducible refine Z ?_ ?_<;>(intro hc;(try simp only [go_sem,bk,aB,aD,aE,aa,ht1,ht2]);(try simp at hc);try (exfalso;omega))));try simp only [go_sem,bk,aB,aD,aE,aa,ht1,ht2]))
   refine iG ?_
   refine hK _ ?_
   clear hK K
   try simp only [go_sem,bk,aB,aD,aE,aa,ht1,ht2]
   by_cases hgt:most < v
   ·rw [nS hsc hgt] at hsu
    repeat' (first|((with_reducible first|(apply hK;clear hK K)|refine ah fun U O=>?_|apply ag|(apply Z<;>(intro hc;try simp at hc;try omega)))<;>try simp only [go_sem,hgt])|(with_reducible first|apply aj|(apply O;clear O U)|refine kN fY fun K hK=>?_|refine kO fun K hK=>?_|refine aI ?_)|(with_reducible refine az fY ae ay (by kernel_rfl) (fun K hK=>?_))|(with_reducible refine aO ae ay (by kernel_rfl) ?_)|apply iB)
    all_goals first
     |(exfalso;omega)
     |exact ⟨k + 1,by omega,by omega,(an [] (by simp [lk,ab,hsu,aa]<;>omega))⟩
   ·rw [qd hsc hgt] at hsu
    repeat' (first|((with_reducible first|(apply hK;clear hK K)|refine ah fun U O=>?_|apply ag|(apply Z<;>(intro hc;try simp at hc;try omega)))<;>try simp only [go_sem,hgt])|(with_reducible first|apply aj|(apply O;clear O U)|refine kN fY fun K hK=>?_|refine kO fun K hK=>?_|refine aI ?_)|(with_reducible refine az fY ae ay (by kernel_rfl) (fun K hK=>?_))|(with_reducible refine aO ae ay (by kernel_rfl) ?_)|apply iB)
    all_goals first
     |(exfalso;omega)
     |exact ⟨k + 1,by omega,by omega,(an [] (by simp [lk,ab,hsu,aa]<;>omega))⟩
  ·obtain rfl:k = w.length:=by omega
   rw [←hbw]
   by_cases hz:db c p f = []
   ·rw [hans,bZ fun h=>h.2 hz,hz]
    repeat' (first|((with_reducible first|(apply hK;clear hK K)|refine ah fun U O=>?_|apply ag|(apply Z<;>(intro hc;try simp at hc;try omega)))<;>try simp only [go_sem])|(with_reducible first|apply aj|(apply O;clear O U)|refine kN fY fun K hK=>?_|refine kO fun K hK=>?_|refine aI ?_)|(with_reducible refine az fY ae ay (by kernel_rfl) (fun K hK=>?_))|(with_reducible refine aO ae ay (by kernel_rfl) ?_)|apply iB)
    all_goals first
     |(exfalso;omega)
     |(refine ak rfl rfl (by simp [am,lk]) ?_;rfl)
   ·have hin:db c p f ∈ w:=by
     rcases hbin with h|h
     ·rw [hbw,h] at hz;exact (hz rfl).elim
     ·rw [hbw];exact h.1
    rw [hans,cy ⟨hA,hz⟩]
    obtain ⟨i,n,m,he,_⟩:=hmem _ hin
    rw [he]
    repeat' (first|((with_reducible first|(apply hK;clear hK K)|refine ah fun U O=>?_|apply ag|(apply Z<;>(intro hc;try simp at hc;try omega)))<;>try simp only [go_sem,ht1,ht2,aa,aH,aG])|(with_reducible first|apply aj|(apply O;clear O U)|refine kN fY fun K hK=>?_|refine kO fun K hK=>?_|refine aI ?_)|(with_reducible refine az fY ae ay (by kernel_rfl) (fun K hK=>?_))|(with_reducible refine aO ae ay (by kernel_rfl) ?_)|apply iB)
    all_goals first
     |(exfalso;omega)
     |(refine ak rfl rfl (by simp [am,lk]) ?_;rfl)
 ·have hb:=aL hA
  rw [show bg c p f = _ from bZ fun h=>hA h.1]
  repeat' (first|((with_reducible first|(apply hK;clear hK K)|refine ah fun U O=>?_|apply ag|(apply Z<;>(intro hc;try simp at hc;try omega)))<;>try simp only [go_sem,hb])|(with_reducible first|apply aj|(apply O;clear O U)|refine kN fY fun K hK=>?_|refine kO fun K hK=>?_|refine aI ?_)|((with_reducible first|apply CallK.eq|apply CallQ.eqs);(· with_reducible first|exact hs0);(· first|exact rfl|(simp [RV.flat,D.sc,aa];done));try simp only [go_sem,hb])|(with_reducible refine az fY ae ay (by kernel_rfl) (fun K hK=>?_))|(with_reducible refine aO ae ay (by kernel_rfl) ?_)|apply iB)
  all_goals first
   |(exfalso;omega)
   |(refine ak rfl rfl (by simp [am,lk]) ?_;rfl)
theorem f4 (c:CodeD) (p:PerfD) (f:Int) (hcf:CdFit 1048576 c) (hpf:PfFit 1048576 p):FnEq Tryz.prog 23 [.agg c.cs,.agg p.cs,.d (.int .i64 f)] [.d (.int .i64 ((bg c p f).getD (0,0,0)).1),.d (.int .i64 ((bg c p f).getD (0,0,0)).2.1),.d (.int .i64 ((bg c p f).getD (0,0,0)).2.2),.d (.bool (bg c p f).isSome)]:=by
 have hs0:=e9 c p f hcf hpf
 refine aN ae Tryz.func23 rfl rfl ?_;simp only [Tryz.ntmps23,aP,aK,Nat.reduceAdd,Nat.reduceSub,aV]
 by_cases hA:bO c p f
 ·have hb:=aW hA
  have hv:=hA.1.2.1
  have hs2:=ii c p f hA
  have ho:=dS (pT p.items hv)
  simp only [aH,aG,RV.data] at ho
  have hlen:=fO hv
  have hmem:∀ x ∈ bI p.items,∃ i k m:Int,x = [i,k,m]∧HasNm p.items i k∧0≤m∧m≤3:=fun x hx=>(eA hx).nm hv
  have hans:bg c p f = ix (bO c p f∧db c p f≠[]) ((db c p f).getD 0 0,(db c p f).getD 1 0,(db c p f).getD 2 0):=rfl
  have hbw:db c p f = (cp c p f (bI p.items) (bI p.items).length).2:=rfl
  have hbin:=i6 c p f (bI p.items) (bI p.items).length
  generalize bI p.items = w at ho hlen hmem hbw hbin
  repeat' (first|((with_reducible first|(apply hK;clear hK K)|refine ah fun U O=>?_|apply ag|(apply Z<;>(intro hc;try simp at hc;try omega)))<;>try simp only [go_sem,hb])|(with_reducible first|apply aj|(apply O;clear O U)|refine kN gW fun K hK=>?_|refine kO fun K hK=>?_|refine aI ?_)|((with_reducible first|apply CallK.eq|apply CallQ.eqs);(· with_reducible first|exact hs0|exact hs2|exact ho);(· first|exact rfl|(simp [RV.flat,D.sc,aa];done));try simp only [go_sem,hb])|(with_reducible refine az gW ae ay (by kernel_rfl) (fun K hK=>?_))|(with_reducible refine aO ae ay (by kernel_rfl) ?_)|apply iB)
  all_goals first
   |(exfalso;omega)
   |skip
  refine i0 10 rfl rfl rfl ?_
  simp only [go_sem]
  refine aA [6,7,8,9,10,11,12,14,15,30,31,32,33,34,35,36,37,38,39,40,41,42,43,44,45,46,47,48,49,50,51,52] (fun k:Nat=>[(30,.d (.int .i64 (k:Int))),(11,.d (.int .i64 (cp c p f w k).1)),(10,.d (.lst 1 ((u4 (cp c p f w k).2).map aa))),(12,.d (.bool (!(cp c p f w k).2.isEmpty))),(3,.bptr 0 0),(4,.bptr 1 0),(21,.und)]) (fun k=>[(0,.box 42 c.cs),(1,.box 48 p.cs)]) 2 (fun k=>k≤w.length) (fun k=>w.length - k) 0 (Nat.zero_le _) (an [] (by simp [lk,ab,ld,u4,aa]<;>omega)) ?_
  intro k hk;simp only [bc,wipe,wl,bb,bx,rm,if_true,if_false,Nat.reduceEqDiff,Bool.false_eq_true,reduceCtorEq]
  have ht1:Int.toNat 1 = 1:=rfl
  have ht2:Int.toNat 2 = 2:=rfl
  by_cases hlt:k < w.length
  ·have hx:=List.getElem?_eq_getElem hlt
   have hxm:=List.getElem_mem hlt
   generalize w[k] = x at hx hxm
   obtain ⟨i,n,m,rfl,hN,hm1,hm2⟩:=hmem x hxm
   have hs1:=kq c p f i n m hpf hA hN hm1 hm2
   have hsc:eV c p f [i,n,m] = bF c (cW p (cv p.items (dR i n m))) f:=rfl
   have hsu:=gu (c:=c) (p:=p) (f:=f) hx
   generalize bF c (cW p (cv p.items (dR i n m))) f = v at hs1 hsc
   generalize cp c p f w k = s at hsu ⊢
   obtain ⟨most,best⟩:=s
   by_cases hgt:most < v
   ·rw [nS hsc hgt] at hsu
    repeat' (first|((with_reducible first|(apply hK;clear hK K)|refine ah fun U O=>?_|apply ag|(apply Z<;>(intro hc;try simp at hc;try omega)))<;>try simp only [go_sem,ap,hx,ar,ax,aa,hlt,aH,aG,ht1,ht2,hgt])|(with_reducible first|apply aj|(apply O;clear O U)|refine kN gW fun K hK=>?_|refine kO fun K hK=>?_|refine aI ?_)|((with_reducible first|apply CallK.eq|apply CallQ.eqs);(· with_reducible first|exact hs1);(· first|exact rfl|(simp [RV.flat,D.sc,aa];done));try simp only [go_sem,ap,hx,ar,ax,aa,hlt,aH,aG,ht1,ht2,hgt])|(with_reducible refine az gW ae ay (by kernel_rfl) (fun K hK=>?_))|(with_reducible refine aO ae ay (by kernel_rfl) ?_)|apply iB)
    all_goals first
     |(exfalso;omega)
     |exact ⟨k + 1,by omega,by omega,(an [] (by simp [lk,ab,hsu,aa,u4]<;>omega))⟩
   ·rw [qd hsc hgt] at hsu
    repeat' (first|((with_reducible first|(apply hK;clear hK K)|refine ah fun U O=>?_|apply ag|(apply Z<;>(intro hc;try simp at hc;try omega)))<;>try simp only [go_sem,ap,hx,ar,ax,aa,hlt,aH,aG,ht1,ht2,hgt])|(with_reducible first|apply aj|(apply O;clear O U)|refine kN gW fun K hK=>?_|refine kO fun K hK=>?_|refine aI ?_)|((with_reducible first|apply CallK.eq|apply CallQ.eqs);(· with_reducible first|exact hs1);(· first|exact rfl|(simp [RV.flat,D.sc,aa];done));try simp only [go_sem,ap,hx,ar,ax,aa,hlt,aH,aG,ht1,ht2,hgt])|(with_reducible refine az gW ae ay (by kernel_rfl) (fun K hK=>?_))|(with_reducible refine aO ae ay (by kernel_rfl) ?_)|apply iB)
    all_goals first
     |(exfalso;omega)
     |exact ⟨k + 1,by omega,by omega,(an [] (by simp [lk,ab,hsu,aa]<;>omega))⟩
  ·obtain rfl:k = w.length:=by omega
   rw [←hbw]
   by_cases hz:db c p f = []
   ·rw [hans,bZ fun h=>h.2 hz,hz]
    repeat' (first|((with_reducible first|(apply hK;clear hK K)|refine ah fun U O=>?_|apply ag|(apply Z<;>(intro hc;try simp at hc;try omega)))<;>try simp only [go_sem,u4,aa,ht1,ht2,aH,aG])|(with_reducible first|apply aj|(apply O;clear O U)|refine kN gW fun K hK=>?_|refine kO fun K hK=>?_|refine aI ?_)|(with_reducible refine az gW ae ay (by kernel_rfl) (fun K hK=>?_))|(with_reducible refine aO ae ay (by kernel_rfl) ?_)|apply iB)
    all_goals first
     |(exfalso;omega)
     |(refine ak rfl rfl (by simp [am,lk]) ?_;rfl)
   ·have hin:db c p f ∈ w:=by
     rcases hbin with h|h
     ·rw [hbw,h] at hz;exact (hz rfl).elim
     ·rw [hbw];exact h.1
    rw [hans,cy ⟨hA,hz⟩]
    obtain ⟨i,n,m,he,_⟩:=hmem _ hin
    rw [he]
    rw [show u4 [i,n,m] = [i,n,m] from if_neg (by simp)]
    repeat' (first|((with_reducible first|(apply hK;clear hK K)|refine ah fun U O=>?_|apply ag|(apply Z<;>(intro hc;try simp at hc;try omega)))<;>try simp only [go_sem,ht1,ht2,aa,aH,aG,List.isEmpty_cons,Bool.not_false])|(with_reducible first|apply aj|(apply O;clear O U)|refine kN gW fun K hK=>?_|refine kO fun K hK=>?_|refine aI ?_)|(with_reducible refine az gW ae ay (by kernel_rfl) (fun K hK=>?_))|(with_reducible refine aO ae ay (by kernel_rfl) ?_)|apply iB)
    all_goals first
     |(exfalso;omega)
     |(refine ak rfl rfl (by simp [am,lk]) ?_;rfl)
 ·have hb:=aL hA
  rw [show bg c p f = _ from bZ fun h=>hA h.1]
  repeat' (first|((with_reducible first|(apply hK;clear hK K)|refine ah fun U O=>?_|apply ag|(apply Z<;>(intro hc;try simp at hc;try omega)))<;>try simp only [go_sem,hb])|(with_reducible first|apply aj|(apply O;clear O U)|refine kN gW fun K hK=>?_|refine kO fun K hK=>?_|refine aI ?_)|((with_reducible first|apply CallK.eq|apply CallQ.eqs);(· with_reducible first|exact hs0);(· first|exact rfl|(simp [RV.flat,D.sc,aa];done));try simp only [go_sem,hb])|(with_reducible refine az gW ae ay (by kernel_rfl) (fun K hK=>?_))|(with_reducible refine aO ae ay (by kernel_rfl) ?_)|apply iB)
  all_goals first
   |(exfalso;omega)
   |(refine ak rfl rfl (by simp [am,lk]) ?_;rfl)
end Go.Proofs.YtphakidbddamfaaGreat
namespace Go.Proofs.YtphakidbddamfaaGreat
open Go.RowKit
def fK (id par k j:Nat):List (Nat × Blk)→Prop
 |[]=>True
 |(i,.al p k' j')::r=>(i = id∨¬ (p = par∧k' = k∧j' = j))∧fK id par k j r
 |_::r=>fK id par k j r
theorem na {id par k j:Nat}:∀ {hp:List (Nat × Blk)},fK id par k j hp→∀ id',ab hp id' = some (.al par k j)→id' = id
 |[],_,id',h=>by cases h
 |(i,b)::r,hs,id',h=>by
  simp only [ab] at h
  split at h
  ·rename_i e
   cases h
   rcases hs.1 with h1|h1
   ·omega
   ·exact (h1 ⟨rfl,rfl,rfl⟩).elim
  ·refine na (hp:=r) ?_ id' h
   cases b<;>first|exact hs.2|exact hs
section
variable {X0:Nat→Prop} {w0:Base} {m:Mp} {s:AS} {a:Act} {w:World}
theorem Sim.takePart (hs:Sim X0 w0 m s a w) {id par k j q sz szp:Nat} {ty:TypeId} {es ei:List (List D)} (hg:ab s.hp id = some (.al par k j)) (hgp:ab s.hp par = some (.deep q ty szp es)) (hal:cU es k j = some (sz,ei)) (hsole:fK id par k j s.hp):
  ∃ ty2 m',Sim X0 w0 m' ⟨s.fr,bf (bf s.hp par (.deep q ty szp (ce es k j .hole))) id (.deep 0 ty2 sz ei),s.nx⟩ a w:=by
 obtain ⟨e,k1,k2⟩:=sb hal
 obtain ⟨q0,ty0,sz0,es0,e0,sz2,es2,b,c,arr,a1,a2,a3,a4,a5,a6⟩:=hs.al id par k j hg
 rw [hgp] at a1
 cases a1
 rw [k1] at a2
 cases a2
 rw [k2] at a3
 cases a3
 have hdp:=hs.dp par q ty szp es hgp
 rw [a4] at hdp
 obtain ⟨g1,arr_,hh,hsz,hec,hcm,hes,Fpp,f1,f2,f3⟩:=hdp
 rw [a5] at hh
 cases hh
 obtain ⟨l,v,hl,hv,hvl⟩:∃ l v,m.loc id = some l∧arr[k * szp + j]? = some v∧((l = .nil∧v = .slice none 0 0)∨∃ b' c',l = .blk b' c'∧v = .slice (some ⟨b',0,none⟩) ei.length c'):=by
  rcases a6 with ⟨h1,h2⟩|⟨b',c',h1,h2⟩
  ·exact ⟨_,_,h1,h2,.inl ⟨rfl,rfl⟩⟩
  ·exact ⟨_,_,h1,h2,.inr ⟨b',c',rfl,rfl⟩⟩
 have htr:=f3 k e j _ _ k1 k2 hv
 have hone:=htr.one
 have hcells:=htr.any.cells
 let F:Nat→Prop:=fun x=>l≠.nil∧Fpp k j x∧¬ l.at x
 have hroot:∃ ty2,DpOk w F ty2 sz ei (some l)∧∀ x,l.at x→Fpp k j x:=by
  rcases hvl with ⟨rfl,rfl⟩|⟨b',c',rfl,rfl⟩
  ·exact ⟨0,⟨htr.nil_inv,fun x h=>h.1 rfl⟩,fun x ⟨c,h⟩=>by cases h⟩
  ·generalize hD:D.lst sz ei = D0 at htr
   generalize hV:Value.slice (some ⟨b',0,none⟩) ei.length c' = V0 at htr
   cases htr with
   |int=>cases hD
   |bool=>cases hD
   |str=>cases hD
   |hole=>cases hD
   |nil=>cases hV
   |lst _ sz_ es_ b_ c_ arr2 ty2 Fp2 q1 q2 q3 q4 q5 q6 q7 q8 q9=>
    cases hD
    cases hV
    refine ⟨ty2,⟨fun h=>h.2.2 ⟨c',rfl⟩,arr2,q2,q3,q4,q5,q6,Fp2,fun k' j' x hx=>⟨(by simp),(q7 k' j' x hx).1,fun ⟨cc,hc⟩=>(q7 k' j' x hx).2 (by cases hc;rfl)⟩,q8,q9⟩,?_⟩
    rintro x ⟨cc,hc⟩
    cases hc
    exact q1
 obtain ⟨ty2,hdp2,hatF⟩:=hroot
 have hFpp:∀ x,F x∨l.at x→Fpp k j x:=fun x h=>h.elim (fun h=>h.2.1) (hatF x)
 have hft:∀ x,F x∨l.at x→m.ft par x:=fun x h=>f1 _ _ _ (hFpp x h)
 have hne:id≠par:=fun e=>by subst e;rw [hg] at hgp;cases hgp
 let np:Blk:=.deep q ty szp (ce es k j .hole)
 let ni:Blk:=.deep 0 ty2 sz ei
 let hp':=bf (bf s.hp par np) id ni
 have e_id:ab hp' id = some ni:=by rw [bu,if_pos rfl,bu,if_neg hne,hg];rfl
 have e_par:ab hp' par = some np:=by rw [bu,if_neg (Ne.symm hne),bu,if_pos rfl,hgp];rfl
 have e_oth:∀ i,i≠id→i≠par→ab hp' i = ab s.hp i:=fun i h1 h2=>by rw [bu,if_neg h1,bu,if_neg h2]
 let m':Mp:=⟨m.loc,fun i=>if i = id then F else if i = par then (fun y=>m.ft par y∧¬ (F y∨l.at y)) else m.ft i⟩
 have ft_id:m'.ft id = F:=if_pos rfl
 have ft_par:m'.ft par = fun y=>m.ft par y∧¬ (F y∨l.at y):=by show (if par = id then _ else _) = _;rw [if_neg (Ne.symm hne),if_pos rfl]
 have ft_oth:∀ i,i≠id→i≠par→m'.ft i = m.ft i:=fun i h1 h2=>by show (if i = id then _ else _) = _;rw [if_neg h1,if_neg h2]
 have has_id:∀ x,ni.has m' id x→F x∨l.at x:=by
  rintro x (⟨cc,h⟩|h)
  ·have h':m.loc id = some (.blk x cc):=h
   rw [hl] at h'
   exact .inr ⟨cc,Option.some.inj h'⟩
  ·rw [ft_id] at h;exact .inl h
 have has_par:∀ x,np.has m' par x→x = b∨(m.ft par x∧¬ (F x∨l.at x)):=by
  rintro x (⟨cc,h⟩|h)
  ·have h':m.loc par = some (.blk x cc):=h
   rw [a4] at h'
   cases h'
   exact .inl rfl
  ·rw [ft_par] at h;exact .inr h
 have has_oth:∀ (i:Nat) (blk:Blk) (x:Nat),i≠id→i≠par→(blk.has m' i x↔blk.has m i x):=fun i blk x h1 h2=>Blk.has_congr (m:=m) (m':=m') rfl (ft_oth i h1 h2)
 have old:∀ (i:Nat) (blk:Blk) (x:Nat),ab hp' i = some blk→blk.has m' i x→∃ blk0,ab s.hp (if i = id then par else i) = some blk0∧blk0.has m (if i = id then par else i) x:=by
  intro i blk x h1 h2
  by_cases c1:i = id
  ·subst c1
   rw [if_pos rfl]
   rw [e_id] at h1
   cases h1
   exact ⟨_,hgp,.inr (hft x (has_id x h2))⟩
  ·rw [if_neg c1]
   by_cases c2:i = par
   ·subst c2
    rw [e_par] at h1
    cases h1
    rcases has_par x h2 with h3|h3
    ·exact ⟨_,hgp,.inl ⟨c,by rw [h3];exact a4⟩⟩
    ·exact ⟨_,hgp,.inr h3.1⟩
   ·rw [e_oth i c1 c2] at h1
    exact ⟨_,h1,(has_oth i blk x c1 c2).1 h2⟩
 have hst:Stay w w (aR X0 m s.hp) (aR X0 m' hp'):=by
  intro y _ hb2
  refine ⟨rfl,?_⟩
  rintro (hx|⟨i,blk,h1,h2⟩)
  ·exact hb2 (.inl hx)
  ·obtain ⟨blk0,h3,h4⟩:=old i blk y h1 h2
   exact hb2 (.inr ⟨_,blk0,h3,h4⟩)
 refine ⟨ty2,m',hs.step (m':=m') (hp':=hp') (fun _ _ h=>h) (KeepB.refl _ _) hst (fun i blk h=>?_) (fun i p t z es' h=>?_) (fun i par' k' j' h=>?_) (fun i blk p h hpo=>?_) (fun i i' blk blk' x h h' h1 h2=>?_) (fun i blk x h hb=>?_) hs.nx⟩
 ·by_cases c1:i = id
  ·subst c1;rw [e_id] at h;cases h;exact ⟨l,hl,trivial⟩
  ·by_cases c2:i = par
   ·subst c2;rw [e_par] at h;cases h;exact ⟨_,a4,trivial⟩
   ·rw [e_oth i c1 c2] at h
    obtain ⟨l',h1,h2⟩:=hs.hp i blk h
    exact ⟨l',h1,h2.mono (fun _ _ h=>h) hst fun _ _ _ _=>rfl⟩
 ·by_cases c1:i = id
  ·subst c1
   rw [e_id] at h
   have h2:Blk.deep p t z es' = .deep 0 ty2 sz ei:=(Option.some.inj h).symm
   cases h2
   rw [ft_id]
   show DpOk w F ty2 sz ei (m.loc i)
   rw [hl]
   exact hdp2
  ·by_cases c2:i = par
   ·subst c2
    rw [e_par] at h
    have h2:Blk.deep p t z es' = .deep q ty szp (ce es k j .hole):=(Option.some.inj h).symm
    cases h2
    rw [ft_par]
    show DpOk w _ ty szp _ (m.loc i)
    rw [a4]
    refine ⟨fun h=>g1 h.1,arr,a5,hsz,by rw [qE];exact hec,hcm,qA hes,fun k' j' y=>¬ (k' = k∧j' = j)∧Fpp k' j' y,fun k' j' y hy=>⟨f1 _ _ _ hy.2,fun h=>hy.1 (f2 _ _ _ _ _ hy.2 (hFpp y h))⟩,fun k' j' k3 j3 y h1 h2=>f2 _ _ _ _ _ h1.2 h2.2,fun k' e' j' d u he' hd2 hu=>?_⟩
    rcases qb k1 he' hd2 with ⟨rfl,rfl,rfl⟩|⟨hne2,e0,h7,h8⟩
    ·rw [hv] at hu
     cases hu
     exact .hole _ _ hone hcells
    ·exact (f3 k' e0 j' d u h7 h8 hu).sub fun y hy=>⟨hne2,hy⟩
   ·rw [e_oth i c1 c2] at h
    rw [ft_oth i c1 c2]
    exact hs.dp i p t z es' h
 ·have c1:i≠id:=fun e=>by subst e;rw [e_id] at h;have h2:Blk.al par' k' j' = .deep 0 ty2 sz ei:=(Option.some.inj h).symm;cases h2
  have c2:i≠par:=fun e=>by subst e;rw [e_par] at h;have h2:Blk.al par' k' j' = .deep q ty szp (ce es k j .hole):=(Option.some.inj h).symm;cases h2
  rw [e_oth i c1 c2] at h
  obtain ⟨q',ty',sz',es3,e0,sz3,es4,b3,c3,arr',r1,r2,r3,r4,r5,r6⟩:=hs.al i par' k' j' h
  by_cases c3':par' = par
  ·subst c3'
   rw [hgp] at r1
   cases r1
   rw [a4] at r4
   cases r4
   rw [a5] at r5
   cases r5
   have hkj:¬ (k' = k∧j' = j):=by
    rintro ⟨rfl,rfl⟩
    exact c1 (na hsole i h)
   obtain ⟨e',s1,s2⟩:=mW (d:=.hole) k1 hkj r2 r3
   exact ⟨q,ty,szp,_,e',sz3,es4,b,c,arr,e_par,s1,s2,a4,a5,r6⟩
  ·have c4:par'≠id:=fun e=>by subst e;rw [hg] at r1;cases r1
   exact ⟨q',ty',sz',es3,e0,sz3,es4,b3,c3,arr',by rw [e_oth par' c4 c3'];exact r1,r2,r3,r4,r5,r6⟩
 ·by_cases c1:i = id
  ·subst c1;rw [e_id] at h;cases h;cases hpo
  ·by_cases c2:i = par
   ·subst c2
    rw [e_par] at h
    cases h
    exact hs.pin i _ p hgp (g_ hpo)
   ·rw [e_oth i c1 c2] at h
    exact hs.pin i blk p h hpo
 ·obtain ⟨b1,o1,o2⟩:=old i blk x h h1
  obtain ⟨b2,o3,o4⟩:=old i' blk' x h' h2
  have hij:=hs.inj _ _ b1 b2 x o1 o3 o2 o4
  have clash:∀ x,ni.has m' id x→np.has m' par x→False:=by
   intro x h3 h4
   have h5:=has_id x h3
   rcases has_par x h4 with h6|h6
   ·subst h6;exact g1 (hft _ h5)
   ·exact h6.2 h5
  by_cases c1:i = id
  ·by_cases c1':i' = id
   ·rw [c1,c1']
   ·rw [if_pos c1,if_neg c1'] at hij
    subst c1
    rw [←hij] at h' h2
    rw [e_id] at h
    rw [e_par] at h'
    cases h
    cases h'
    exact (clash x h1 h2).elim
  ·by_cases c1':i' = id
   ·rw [if_neg c1,if_pos c1'] at hij
    subst c1'
    rw [hij] at h h1
    rw [e_id] at h'
    rw [e_par] at h
    cases h
    cases h'
    exact (clash x h2 h1).elim
   ·rw [if_neg c1,if_neg c1'] at hij
    exact hij
 ·obtain ⟨b1,o1,o2⟩:=old i blk x h hb
  exact hs.own _ b1 x o1 o2
end
theorem kL {P:Program} {o:Oper} {s:AS} {K:AS→Prop} {id par k j q sz szp:Nat} {ty:TypeId} {es ei:List (List D)} (hg:ab s.hp id = some (.al par k j)) (hgp:ab s.hp par = some (.deep q ty szp es)) (hal:cU es k j = some (sz,ei)) (hsole:fK id par k j s.hp)
  (h:∀ ty2,PO P o ⟨s.fr,bf (bf s.hp par (.deep q ty szp (ce es k j .hole))) id (.deep 0 ty2 sz ei),s.nx⟩ K):PO P o s K:=fun X0 w0 _ a w Q hs=>
 let ⟨ty2,m',hs'⟩:=hs.takePart hg hgp hal hsole
 h ty2 X0 w0 m' a w Q hs'
end Go.Proofs.YtphakidbddamfaaGreat
