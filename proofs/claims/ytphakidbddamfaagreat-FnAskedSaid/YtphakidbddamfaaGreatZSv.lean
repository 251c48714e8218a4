/-
  Marks and slips: when they are valid: the program's functions and the reference's, in the abstract machine.
-/
import Derived.Test.YtphakidbddamfaaGreatZSx
set_option linter.unusedSimpArgs false
set_option linter.unusedVariables false
set_option maxHeartbeats 2000000
set_option maxRecDepth 100000
namespace Go.Proofs.YtphakidbddamfaaGreat
open Go.RowKit
def qP (x:Int):Bool:=!((decide (0≤x) && decide (x≤1000)) && (x.tmod 25 == 0))
theorem cpAt_iff {n k:Nat} {g:List Int}:ig n k g↔g.length = n∧g.any qP = false:=by
 unfold ig
 rw [List.any_eq_false]
 constructor
 ·rintro ⟨h1,h2,h3⟩
  refine ⟨h1,fun x hx=>?_⟩
  obtain ⟨i,hi⟩:=List.getElem?_of_mem hx
  have h4:=h2 i x hi
  have h5:x.tmod 25 = 0:=h3 i x hi
  simp [qP,h4.1,h4.2,h5]
 ·rintro ⟨h1,h2⟩
  refine ⟨h1,fun i x hi=>?_,fun i x hi=>?_⟩
  ·have h4:=h2 x (List.mem_of_getElem? hi)
   simp [qP] at h4
   exact ⟨h4.1.1,h4.1.2⟩
  ·have h4:=h2 x (List.mem_of_getElem? hi)
   simp [qP] at h4
   exact h4.2
theorem n7 {m:MarksD} {g:List Int} (h:m.components[0]? = some g):bX m = g.length:=by
 unfold bX
 cases hc:m.components with
 |nil=>rw [hc] at h;simp at h
 |cons a l=>rw [hc] at h;simp at h;rw [←h];rfl
theorem MarksOk.no_gr {m:MarksD} {k:Nat} {g:List Int} (hx:m.grades[k]? = some g) (h:¬ jd (bX m) k g):bP (MarksOk m) = false:=aG fun h'=>h (h'.2.2.2.2.1 k g hx)
theorem MarksOk.no_cp {m:MarksD} {k:Nat} {g:List Int} (hx:m.components[k]? = some g) (h:¬ ig (bX m) k g):bP (MarksOk m) = false:=aG fun h'=>h (h'.2.2.2.2.2 k g hx)
def pE (m:MarksD):Prop:=m.components.length = 3∧m.grades.length≤14∧3≤bX m∧bX m≤9
theorem MarksOk.no_nums {m:MarksD} (h:¬ pE m):bP (MarksOk m) = false:=aG fun h'=>h ⟨h'.1,h'.2.1,h'.2.2.1,h'.2.2.2.1⟩
theorem kA (n:Int) (h1:-1000000≤n∨True):FnEq Tryz.prog 237 [.d (.int .i64 n)] [.d (.bool ((decide (0≤n) && decide (n≤1000)) && (n.tmod 25 == 0)))]:=by
 have hq:0≤n∧n≤1000→jO (n.tmod 25):=fun h=>by have:=nz (a:=n) (b:=25) (A:=1000) (by omega) (by omega);unfold jO;omega
 refine aO aa Tryz.func237 rfl rfl ?_;simp only [Tryz.ntmps237,aR,aM,Nat.reduceAdd,Nat.reduceSub,aW]
 by_cases hr:0≤n∧n≤1000
 ·have hb:(decide (0≤n) && decide (n≤1000)) = true:=by simp [hr]
  have hq:=hq hr
  unfold jO at hq
  rw [hb]
  repeat' (first|((with_reducible first|(refine hK _ ?_;clear hK K)|refine aj fun U O=>?_|apply ah|(apply Z<;>(intro hc;try simp at hc;try omega)))<;>try simp only [go_sem,hb])|(with_reducible first|apply ag|(refine O _ ?_;clear O U)|refine kN vY fun K hK=>?_|refine kO fun K hK=>?_|refine aI ?_)|(refine xS rfl fun U O=>?_;simp only [go_sem,hb])|((with_reducible apply CallK.eq);(· with_reducible first|exact bE _ _ _);(· simp [RV.flat,D.sc,ab]);try simp only [go_sem,hb])|fail)
  all_goals first
   |(exfalso;omega)
   |(refine ak rfl rfl (by simp [am,lk]) ?_;simp)
 ·have hb:(decide (0≤n) && decide (n≤1000)) = false:=by rw [Bool.eq_false_iff];intro h;simp at h;omega
  rw [hb]
  repeat' (first|((with_reducible first|(refine hK _ ?_;clear hK K)|refine aj fun U O=>?_|apply ah|(apply Z<;>(intro hc;try simp at hc;try omega)))<;>try simp only [go_sem,hb])|(with_reducible first|apply ag|(refine O _ ?_;clear O U)|refine kN vY fun K hK=>?_|refine kO fun K hK=>?_|refine aI ?_)|(refine xS rfl fun U O=>?_;simp only [go_sem,hb])|((with_reducible apply CallK.eq);(· with_reducible first|exact bE _ _ _);(· simp [RV.flat,D.sc,ab]);try simp only [go_sem,hb])|fail)
  all_goals first
   |(exfalso;omega)
   |(refine ak rfl rfl (by simp [am,lk]) ?_;simp)
theorem rg (n:Int):FnEq Tryz.prog 236 [.d (.int .i64 n)] [.d (.bool (qP n))]:=by
 refine aO aa Tryz.func236 rfl rfl ?_;simp only [Tryz.ntmps236,aR,aM,Nat.reduceAdd,Nat.reduceSub,aW]
 repeat' (first|((with_reducible first|(refine hK _ ?_;clear hK K)|refine aj fun U O=>?_|apply ah|(apply Z<;>(intro hc;try simp at hc;try omega)))<;>try simp only [go_sem])|(with_reducible first|apply ag|(refine O _ ?_;clear O U)|refine kN yu fun K hK=>?_|refine kO fun K hK=>?_|refine aI ?_)|((with_reducible apply CallK.eq);(· with_reducible first|exact kA n (.inr trivial));(· simp [RV.flat,D.sc,ab]);try simp only [go_sem])|fail)
 refine ak rfl rfl (by simp [am,lk]) ?_;rfl
theorem uw (xs:List Int) (fid:Nat) (caps:List PV) (p:Int→Bool) (hn:xs.length≤16777216) (hcap:CapOK caps) (hf:∀ x:Int,FnEq Tryz.prog fid (.d (.int .i64 x)::caps) [.d (.bool (p x))]):
  FnEq Tryz.prog 251 [.d (.lst 1 (xs.map ab)),.fn fid caps] [.d (.int .i64 (ij p xs 0))]:=by
 refine aO aa Tryz.func251 rfl rfl ?_;simp only [Tryz.ntmps251,aR,aM,Nat.reduceAdd,Nat.reduceSub,aW]
 repeat' (first|((with_reducible first|(refine hK _ ?_;clear hK K)|refine aj fun U O=>?_|apply ah|(apply Z<;>(intro hc;try simp at hc;try omega)))<;>try simp only [go_sem])|(with_reducible first|apply ag|(refine O _ ?_;clear O U)|refine kN tx fun K hK=>?_|refine kO fun K hK=>?_|refine aI ?_)|apply iB)
 refine aD [4,5,8,9,10,11,12,13,14,15,16,17,18] (fun k:Nat=>[(8,.d (.int .i64 (k:Int)))]) (fun k:Nat=>[]) 0 (fun k:Nat=>k≤xs.length∧∀ y ∈ xs.take k,p y = false) (fun k:Nat=>xs.length - k) 0 ⟨Nat.zero_le _,by simp⟩ (ao [] (by simp [lk,ae,hcap.ren,hcap.bd]<;>omega)) ?_
 rintro k ⟨hk,hJ⟩
 simp only [bi,wipe,wl,bh,bw,rm,if_true,if_false,Nat.reduceEqDiff,Bool.false_eq_true,reduceCtorEq]
 by_cases hlt:k < xs.length
 ·have hx:=List.getElem?_eq_getElem hlt
  generalize xs[k] = x at hx
  repeat' (first|((with_reducible first|(refine hK _ ?_;clear hK K)|refine aj fun U O=>?_|apply ah|(apply Z<;>(intro hc;try simp at hc;try omega)))<;>try simp only [go_sem,ap,hx,aq,ab,hcap.t2])|(with_reducible first|apply ag|(refine O _ ?_;clear O U)|refine kN tx fun K hK=>?_|refine kO fun K hK=>?_|refine aI ?_)|((with_reducible apply CallK.eq);(· with_reducible first|exact hf x);(· simp [RV.flat,D.sc,ab]);try simp only [go_sem,ap,hx,aq,ab,hcap.t2])|apply iB)
  ·refine ak rfl rfl (by simp [am,lk]) ?_;rw [mx (i:=0) hx hc hJ];simp
  ·exact ⟨k + 1,⟨by omega,kh hJ hx hc⟩,by omega,(ao [] (by simp [lk,ae,hcap.ren,hcap.bd]<;>omega))⟩
 ·repeat' (first|((with_reducible first|(refine hK _ ?_;clear hK K)|refine aj fun U O=>?_|apply ah|(apply Z<;>(intro hc;try simp at hc;try omega)))<;>try simp only [go_sem])|(with_reducible first|apply ag|(refine O _ ?_;clear O U)|refine kN tx fun K hK=>?_|refine kO fun K hK=>?_|refine aI ?_)|apply iB)
  refine ak rfl rfl (by simp [am,lk]) ?_;rw [ji (me hJ (by omega))]
theorem qy (xs:List Int) (fid:Nat) (caps:List PV) (p:Int→Bool) (hn:xs.length≤16777216) (hcap:CapOK caps) (hf:∀ x:Int,FnEq Tryz.prog fid (.d (.int .i64 x)::caps) [.d (.bool (p x))]):
  FnEq Tryz.prog 235 [.d (.lst 1 (xs.map ab)),.fn fid caps] [.d (.bool (xs.any p))]:=by
 refine aO aa Tryz.func235 rfl rfl ?_;simp only [Tryz.ntmps235,aR,aM,Nat.reduceAdd,Nat.reduceSub,aW]
 repeat' (first|((with_reducible first|(refine hK _ ?_;clear hK K)|refine aj fun U O=>?_|apply ah|(apply Z<;>(intro hc;try simp at hc;try omega)))<;>try simp only [go_sem,hcap.t1])|(with_reducible first|apply ag|(refine O _ ?_;clear O U)|refine kN xL fun K hK=>?_|refine kO fun K hK=>?_|refine aI ?_)|((with_reducible apply CallK.eq);(· with_reducible first|exact uw xs fid caps p hn hcap hf);(· simp [RV.flat,D.sc,ab]);try simp only [go_sem,hcap.t1])|fail)
 refine ak rfl rfl (by simp [am,lk]) ?_;rw [wK]
theorem rh (m:MarksD) (g:List Int) (h0:m.components[0]? = some g):FnEq Tryz.prog 234 [.agg m.cs] [.d (.int .i64 (g.length:Nat))]:=by
 have hl:=(List.getElem?_eq_some_iff.1 h0).1
 refine aO aa Tryz.func234 rfl rfl ?_;simp only [Tryz.ntmps234,aR,aM,Nat.reduceAdd,Nat.reduceSub,aW]
 repeat' (first|((with_reducible first|(refine hK _ ?_;clear hK K)|refine aj fun U O=>?_|apply ah|(apply Z<;>(intro hc;try simp at hc;try omega)))<;>try simp only [go_sem,ap,h0,aq,aF,hl])|(with_reducible first|apply ag|(refine O _ ?_;clear O U)|refine kN yb fun K hK=>?_|refine kO fun K hK=>?_|refine aI ?_)|fail)
 all_goals first
  |(exfalso;omega)
  |(refine ak rfl rfl (by simp [am,lk]) ?_;simp)
set_option maxHeartbeats 8000000 in
theorem tJ (m:MarksD) (hf:MkFit 1048576 m):FnEq Tryz.prog 223 [.agg m.cs] [.d (.bool (bP (MarksOk m)))]:=by
 obtain ⟨⟨hf1,hf2⟩,hf3,hf4⟩:=hf
 refine aO aa Tryz.func223 rfl rfl ?_;simp only [Tryz.ntmps223,aR,aM,Nat.reduceAdd,Nat.reduceSub,aW]
 by_cases h3:m.components.length = 3
 ·have h0:=List.getElem?_eq_getElem (show 0 < m.components.length by omega)
  generalize m.components[0] = g0 at h0
  have hj:=n7 h0
  have hjo:=rh m g0 h0
  have hg0:=hf4 g0 (List.mem_of_getElem? h0)
  have hlt0:0 < m.components.length:=by omega
  repeat' (first|((with_reducible first|(refine hK _ ?_;clear hK K)|refine aj fun U O=>?_|apply ah|(apply Z<;>(intro hc;try simp at hc;try omega)))<;>try simp only [go_sem,ap,h0,aq,aF,hlt0])|(with_reducible first|apply ag|(refine O _ ?_;clear O U)|refine kN gi fun K hK=>?_|refine kO fun K hK=>?_|refine aI ?_)|(refine xS rfl fun U O=>?_;simp only [go_sem,ap,h0,aq,aF,hlt0])|((with_reducible apply CallK.eq);(· with_reducible first|exact bE _ _ _);(· simp [RV.flat,D.sc,ab]);try simp only [go_sem,ap,h0,aq,aF,hlt0])|apply iB)
  all_goals first
   |(exfalso;omega)
   |(refine ak rfl rfl (by simp [am,lk]) ?_;rw [MarksOk.no_nums (by unfold pE;omega)];done)
   |skip
  refine aD [2,4,29,30,31,32,33,34,35,36,37,38,39,40,41,42,43] (fun k:Nat=>[(29,.d (.int .i64 (k:Int)))]) (fun k:Nat=>[(0,.box 45 [.d (.lst 1 (m.grades.map (aF 1 ab))),.d (.lst 1 (m.components.map (aF 1 ab)))])]) 1 (fun k:Nat=>k≤m.grades.length∧Upto (jd (bX m)) m.grades k) (fun k:Nat=>m.grades.length - k) 0 ⟨Nat.zero_le _,Upto.zero _ _⟩ (ao [] (by simp [lk,ae]<;>omega)) ?_
  rintro k ⟨hk,hJ⟩
  simp only [bi,wipe,wl,bh,bw,rm,if_true,if_false,Nat.reduceEqDiff,Bool.false_eq_true,reduceCtorEq]
  by_cases hlt:k < m.grades.length
  ·have hx:=List.getElem?_eq_getElem hlt
   generalize m.grades[k] = x at hx
   have hxl:=hf2 x (List.mem_of_getElem? hx)
   by_cases hA:cv (-5) 5 x
   ·have hAb:=aQ hA
    by_cases hl:x.length = g0.length
    ·have hE:jd (bX m) k x:=⟨by omega,hA⟩
     have hJ':=hJ.succ hx hE
     repeat' (first|((with_reducible first|(refine hK _ ?_;clear hK K)|refine aj fun U O=>?_|apply ah|(apply Z<;>(intro hc;try simp at hc;try omega)))<;>try simp only [go_sem,ap,hx,aq,aF,hAb])|(with_reducible first|apply ag|(refine O _ ?_;clear O U)|refine kN gi fun K hK=>?_|refine kO fun K hK=>?_|refine aI ?_)|(refine xS rfl fun U O=>?_;simp only [go_sem,ap,hx,aq,aF,hAb])|((with_reducible apply CallK.eq);(· with_reducible first|exact hjo|exact dU x (-5) 5 (by omega));(· simp [RV.flat,D.sc,ab]);try simp only [go_sem,ap,hx,aq,aF,hAb])|apply iB)
     all_goals first
      |(exfalso;omega)
      |exact ⟨k + 1,⟨by omega,hJ'⟩,by omega,(ao [] (by simp [lk,ae]<;>omega))⟩
    ·have hE:¬ jd (bX m) k x:=fun h=>hl (by have:=h.1;omega)
     repeat' (first|((with_reducible first|(refine hK _ ?_;clear hK K)|refine aj fun U O=>?_|apply ah|(apply Z<;>(intro hc;try simp at hc;try omega)))<;>try simp only [go_sem,ap,hx,aq,aF,hAb])|(with_reducible first|apply ag|(refine O _ ?_;clear O U)|refine kN gi fun K hK=>?_|refine kO fun K hK=>?_|refine aI ?_)|(refine xS rfl fun U O=>?_;simp only [go_sem,ap,hx,aq,aF,hAb])|((with_reducible apply CallK.eq);(· with_reducible first|exact hjo|exact dU x (-5) 5 (by omega));(· simp [RV.flat,D.sc,ab]);try simp only [go_sem,ap,hx,aq,aF,hAb])|apply iB)
     all_goals first
      |(exfalso;omega)
      |(refine ak rfl rfl (by simp [am,lk]) ?_;rw [MarksOk.no_gr hx hE])
   ·have hAb:=aG hA
    have hE:¬ jd (bX m) k x:=fun h=>hA h.2
    repeat' (first|((with_reducible first|(refine hK _ ?_;clear hK K)|refine aj fun U O=>?_|apply ah|(apply Z<;>(intro hc;try simp at hc;try omega)))<;>try simp only [go_sem,ap,hx,aq,aF,hAb])|(with_reducible first|apply ag|(refine O _ ?_;clear O U)|refine kN gi fun K hK=>?_|refine kO fun K hK=>?_|refine aI ?_)|(refine xS rfl fun U O=>?_;simp only [go_sem,ap,hx,aq,aF,hAb])|((with_reducible apply CallK.eq);(· with_reducible first|exact hjo|exact dU x (-5) 5 (by omega));(· simp [RV.flat,D.sc,ab]);try simp only [go_sem,ap,hx,aq,aF,hAb])|apply iB)
    all_goals first
     |(exfalso;omega)
     |(refine ak rfl rfl (by simp [am,lk]) ?_;rw [MarksOk.no_gr hx hE])
  ·have hG:=hJ.all (show m.grades.length≤k by omega)
   repeat' (first|((with_reducible first|(refine hK _ ?_;clear hK K)|refine aj fun U O=>?_|apply ah|(apply Z<;>(intro hc;try simp at hc;try omega)))<;>try simp only [go_sem])|(with_reducible first|apply ag|(refine O _ ?_;clear O U)|refine kN gi fun K hK=>?_|refine kO fun K hK=>?_|refine aI ?_)|(refine xS rfl fun U O=>?_;simp only [go_sem])|apply iB)
   all_goals first
    |(exfalso;omega)
    |skip
   refine aD [2,6,47,48,49,50,51,52,53,54,55,56,57,58,59,60] (fun k:Nat=>[(47,.d (.int .i64 (k:Int)))]) (fun k:Nat=>[(0,.box 45 [.d (.lst 1 (m.grades.map (aF 1 ab))),.d (.lst 1 (m.components.map (aF 1 ab)))])]) 1 (fun k:Nat=>k≤m.components.length∧Upto (ig (bX m)) m.components k) (fun k:Nat=>m.components.length - k) 0 ⟨Nat.zero_le _,Upto.zero _ _⟩ (ao [] (by simp [lk,ae]<;>omega)) ?_
   rintro j ⟨hk2,hJ2⟩
   simp only [bi,wipe,wl,bh,bw,rm,if_true,if_false,Nat.reduceEqDiff,Bool.false_eq_true,reduceCtorEq]
   by_cases hlt2:j < m.components.length
   ·have hx:=List.getElem?_eq_getElem hlt2
    generalize m.components[j] = x at hx
    have hxl:=hf4 x (List.mem_of_getElem? hx)
    have hci:=qy x 236 [] qP (by omega) x7 (fun y=>rg y)
    by_cases hl:x.length = g0.length
    ·cases hA:x.any qP
     ·have hE:ig (bX m) j x:=cpAt_iff.2 ⟨by omega,hA⟩
      have hJ':=hJ2.succ hx hE
      rw [hA] at hci
      repeat' (first|((with_reducible first|(refine hK _ ?_;clear hK K)|refine aj fun U O=>?_|apply ah|(apply Z<;>(intro hc;try simp at hc;try omega)))<;>try simp only [go_sem,ap,hx,aq,aF])|(with_reducible first|apply ag|(refine O _ ?_;clear O U)|refine kN gi fun K hK=>?_|refine kO fun K hK=>?_|refine aI ?_)|(refine xS rfl fun U O=>?_;simp only [go_sem,ap,hx,aq,aF])|((with_reducible apply CallK.eq);(· with_reducible first|exact hjo|exact hci);(· simp [RV.flat,D.sc,ab]);try simp only [go_sem,ap,hx,aq,aF])|apply iB)
      all_goals first
       |(exfalso;omega)
       |exact ⟨j + 1,⟨by omega,hJ'⟩,by omega,(ao [] (by simp [lk,ae]<;>omega))⟩
     ·have hE:¬ ig (bX m) j x:=fun h=>by have:=(cpAt_iff.1 h).2;rw [hA] at this;cases this
      rw [hA] at hci
      repeat' (first|((with_reducible first|(refine hK _ ?_;clear hK K)|refine aj fun U O=>?_|apply ah|(apply Z<;>(intro hc;try simp at hc;try omega)))<;>try simp only [go_sem,ap,hx,aq,aF])|(with_reducible first|apply ag|(refine O _ ?_;clear O U)|refine kN gi fun K hK=>?_|refine kO fun K hK=>?_|refine aI ?_)|(refine xS rfl fun U O=>?_;simp only [go_sem,ap,hx,aq,aF])|((with_reducible apply CallK.eq);(· with_reducible first|exact hjo|exact hci);(· simp [RV.flat,D.sc,ab]);try simp only [go_sem,ap,hx,aq,aF])|apply iB)
      all_goals first
       |(exfalso;omega)
       |(refine ak rfl rfl (by simp [am,lk]) ?_;rw [MarksOk.no_cp hx hE])
    ·have hE:¬ ig (bX m) j x:=fun h=>hl (by have:=h.1;omega)
     repeat' (first|((with_reducible first|(refine hK _ ?_;clear hK K)|refine aj fun U O=>?_|apply ah|(apply Z<;>(intro hc;try simp at hc;try omega)))<;>try simp only [go_sem,ap,hx,aq,aF])|(with_reducible first|apply ag|(refine O _ ?_;clear O U)|refine kN gi fun K hK=>?_|refine kO fun K hK=>?_|refine aI ?_)|(refine xS rfl fun U O=>?_;simp only [go_sem,ap,hx,aq,aF])|((with_reducible apply CallK.eq);(· with_reducible first|exact hjo|exact hci);(· simp [RV.flat,D.sc,ab]);try simp only [go_sem,ap,hx,aq,aF])|apply iB)
     all_goals first
      |(exfalso;omega)
      |(refine ak rfl rfl (by simp [am,lk]) ?_;rw [MarksOk.no_cp hx hE])
   ·have hC:=hJ2.all (show m.components.length≤j by omega)
    repeat' (first|((with_reducible first|(refine hK _ ?_;clear hK K)|refine aj fun U O=>?_|apply ah|(apply Z<;>(intro hc;try simp at hc;try omega)))<;>try simp only [go_sem])|(with_reducible first|apply ag|(refine O _ ?_;clear O U)|refine kN gi fun K hK=>?_|refine kO fun K hK=>?_|refine aI ?_)|(refine xS rfl fun U O=>?_;simp only [go_sem])|apply iB)
    all_goals first
     |(exfalso;omega)
     |(refine ak rfl rfl (by simp [am,lk]) ?_;rw [aQ (show MarksOk m from ⟨h3,by omega,by omega,by omega,hG,hC⟩)])
 ·repeat' (first|((with_reducible first|(refine hK _ ?_;clear hK K)|refine aj fun U O=>?_|apply ah|(apply Z<;>(intro hc;try simp at hc;try omega)))<;>try simp only [go_sem])|(with_reducible first|apply ag|(refine O _ ?_;clear O U)|refine kN gi fun K hK=>?_|refine kO fun K hK=>?_|refine aI ?_)|(refine xS rfl fun U O=>?_;simp only [go_sem])|((with_reducible apply CallK.eq);(· with_reducible first|exact bE _ _ _);(· simp [RV.flat,D.sc,ab]);try simp only [go_sem])|apply iB)
  all_goals first
   |(exfalso;omega)
   |(refine ak rfl rfl (by simp [am,lk]) ?_;rw [MarksOk.no_nums (fun h=>h3 h.1)])
theorem qW (m:MarksD) (n:Int) (hf:MkFit 1048576 m):FnEq Tryz.prog 210 [.agg m.cs,.d (.int .i64 n)] [.d (.bool (bP (eJ m n)))]:=by
 have hi:=tJ m hf
 obtain ⟨⟨hf1,hf2⟩,hf3,hf4⟩:=hf
 refine aO aa Tryz.func210 rfl rfl ?_;simp only [Tryz.ntmps210,aR,aM,Nat.reduceAdd,Nat.reduceSub,aW]
 by_cases hm:MarksOk m
 ·have hb:=aQ hm
  have e:bP (eJ m n) = decide ((m.grades.length:Int) = n):=by rw [Bool.eq_iff_iff,bP_iff,decide_eq_true_eq];exact ⟨fun h=>h.2,fun h=>⟨hm,h⟩⟩
  rw [hb] at hi
  rw [e]
  repeat' (first|((with_reducible first|(refine hK _ ?_;clear hK K)|refine aj fun U O=>?_|apply ah|(apply Z<;>(intro hc;try simp at hc;try omega)))<;>try simp only [go_sem])|(with_reducible first|apply ag|(refine O _ ?_;clear O U)|refine kN vK fun K hK=>?_|refine kO fun K hK=>?_|refine aI ?_)|(refine xS rfl fun U O=>?_;simp only [go_sem])|((with_reducible apply CallK.eq);(· with_reducible first|exact hi);(· simp [RV.flat,D.sc,ab]);try simp only [go_sem])|fail)
  all_goals first
   |(exfalso;omega)
   |(refine ak rfl rfl (by simp [am,lk]) ?_;first|rfl|(simp;done)|(simp_all;done))
 ·have hb:=aG hm
  have e:bP (eJ m n) = false:=aG fun h=>hm h.1
  rw [hb] at hi
  rw [e]
  repeat' (first|((with_reducible first|(refine hK _ ?_;clear hK K)|refine aj fun U O=>?_|apply ah|(apply Z<;>(intro hc;try simp at hc;try omega)))<;>try simp only [go_sem])|(with_reducible first|apply ag|(refine O _ ?_;clear O U)|refine kN vK fun K hK=>?_|refine kO fun K hK=>?_|refine aI ?_)|(refine xS rfl fun U O=>?_;simp only [go_sem])|((with_reducible apply CallK.eq);(· with_reducible first|exact hi);(· simp [RV.flat,D.sc,ab]);try simp only [go_sem])|fail)
  all_goals first
   |(exfalso;omega)
   |(refine ak rfl rfl (by simp [am,lk]) ?_;first|rfl|(simp;done)|(simp_all;done))
theorem sB (g:List Int) (n:Int) (hg:g.length≤1048576):FnEq Tryz.prog 213 [.d (.lst 1 (g.map ab)),.d (.int .i64 n),.d (.bool false)] [.d (.bool (bP ((g.length:Int) = n∧cv (-5) 5 g)))]:=by
 refine aO aa Tryz.func213 rfl rfl ?_;simp only [Tryz.ntmps213,aR,aM,Nat.reduceAdd,Nat.reduceSub,aW]
 repeat' (first|((with_reducible first|(refine hK _ ?_;clear hK K)|refine aj fun U O=>?_|apply ah|(apply Z<;>(intro hc;try simp at hc;try omega)))<;>try simp only [go_sem])|(with_reducible first|apply ag|(refine O _ ?_;clear O U)|refine kN gU fun K hK=>?_|refine kO fun K hK=>?_|refine aI ?_)|(refine xS rfl fun U O=>?_;simp only [go_sem])|apply iB)
 refine aD [6,8,11,12,13,14,15,16,17,18,19,20,21] (fun k:Nat=>[(11,.d (.int .i64 (k:Int)))]) (fun k:Nat=>[]) 0 (fun k:Nat=>k≤g.length) (fun k:Nat=>g.length - k) 0 (Nat.zero_le _) (ao [] (by simp [lk,ae]<;>omega)) ?_
 intro k hk
 simp only [bi,wipe,wl,bh,bw,rm,if_true,if_false,Nat.reduceEqDiff,Bool.false_eq_true,reduceCtorEq]
 by_cases hlt:k < g.length
 ·have hx:=List.getElem?_eq_getElem hlt
  generalize g[k] = x at hx
  repeat' (first|((with_reducible first|(refine hK _ ?_;clear hK K)|refine aj fun U O=>?_|apply ah|(apply Z<;>(intro hc;try simp at hc;try omega)))<;>try simp only [go_sem,ap,hx,aq,ab])|(with_reducible first|apply ag|(refine O _ ?_;clear O U)|refine kN gU fun K hK=>?_|refine kO fun K hK=>?_|refine aI ?_)|(refine xS rfl fun U O=>?_;simp only [go_sem,ap,hx,aq,ab])|apply iB)
  all_goals first
   |(exfalso;omega)
   |exact ⟨k + 1,by omega,by omega,(ao [] (by simp [lk,ae]<;>omega))⟩
 ·by_cases hA:cv (-5) 5 g
  ·have hAb:=aQ hA
   have e:bP ((g.length:Int) = n∧cv (-5) 5 g) = decide ((g.length:Int) = n):=by rw [Bool.eq_iff_iff,bP_iff,decide_eq_true_eq];exact ⟨fun h=>h.1,fun h=>⟨h,hA⟩⟩
   rw [e]
   repeat' (first|((with_reducible first|(refine hK _ ?_;clear hK K)|refine aj fun U O=>?_|apply ah|(apply Z<;>(intro hc;try simp at hc;try omega)))<;>try simp only [go_sem,hAb])|(with_reducible first|apply ag|(refine O _ ?_;clear O U)|refine kN gU fun K hK=>?_|refine kO fun K hK=>?_|refine aI ?_)|(refine xS rfl fun U O=>?_;simp only [go_sem,hAb])|((with_reducible apply CallK.eq);(· with_reducible first|exact eH g (-5) 5 (by omega));(· simp [RV.flat,D.sc,ab]);try simp only [go_sem,hAb])|apply iB)
   all_goals first
    |(exfalso;omega)
    |(refine ak rfl rfl (by simp [am,lk]) ?_;first|rfl|(simp;done)|(simp_all;done))
  ·have hAb:=aG hA
   have e:bP ((g.length:Int) = n∧cv (-5) 5 g) = false:=aG fun h=>hA h.2
   rw [e]
   repeat' (first|((with_reducible first|(refine hK _ ?_;clear hK K)|refine aj fun U O=>?_|apply ah|(apply Z<;>(intro hc;try simp at hc;try omega)))<;>try simp only [go_sem,hAb])|(with_reducible first|apply ag|(refine O _ ?_;clear O U)|refine kN gU fun K hK=>?_|refine kO fun K hK=>?_|refine aI ?_)|(refine xS rfl fun U O=>?_;simp only [go_sem,hAb])|((with_reducible apply CallK.eq);(· with_reducible first|exact eH g (-5) 5 (by omega));(· simp [RV.flat,D.sc,ab]);try simp only [go_sem,hAb])|apply iB)
   all_goals first
    |(exfalso;omega)
    |(refine ak rfl rfl (by simp [am,lk]) ?_;first|rfl|(simp;done)|(simp_all;done))
theorem xQ (x:Int):-25 < x.tmod 25∧x.tmod 25 < 25:=by
 have h2:(x.tmod 25).natAbs < 25:=by rw [Int.natAbs_tmod];exact Nat.mod_lt _ (by decide)
 omega
theorem ta (g:List Int) (n:Int) (hg:g.length≤1048576):FnEq Tryz.prog 213 [.d (.lst 1 (g.map ab)),.d (.int .i64 n),.d (.bool true)] [.d (.bool (bP ((g.length:Int) = n∧cv 0 1000 g∧All nT g)))]:=by
 refine aO aa Tryz.func213 rfl rfl ?_;simp only [Tryz.ntmps213,aR,aM,Nat.reduceAdd,Nat.reduceSub,aW]
 repeat' (first|((with_reducible first|(refine hK _ ?_;clear hK K)|refine aj fun U O=>?_|apply ah|(apply Z<;>(intro hc;try simp at hc;try omega)))<;>try simp only [go_sem])|(with_reducible first|apply ag|(refine O _ ?_;clear O U)|refine kN gU fun K hK=>?_|refine kO fun K hK=>?_|refine aI ?_)|(refine xS rfl fun U O=>?_;simp only [go_sem])|apply iB)
 refine aD [6,8,11,12,13,14,15,16,17,18,19,20,21] (fun k:Nat=>[(11,.d (.int .i64 (k:Int)))]) (fun k:Nat=>[]) 0 (fun k:Nat=>k≤g.length∧Upto nT g k) (fun k:Nat=>g.length - k) 0 ⟨Nat.zero_le _,Upto.zero _ _⟩ (ao [] (by simp [lk,ae]<;>omega)) ?_
 rintro k ⟨hk,hJ⟩
 simp only [bi,wipe,wl,bh,bw,rm,if_true,if_false,Nat.reduceEqDiff,Bool.false_eq_true,reduceCtorEq]
 by_cases hlt:k < g.length
 ·have hx:=List.getElem?_eq_getElem hlt
  generalize g[k] = x at hx
  have hm:=xQ x
  by_cases hq:x.tmod 25 = 0
  ·have hJ':=hJ.succ hx (show nT k x from hq)
   have hqb:(x.tmod 25 != 0) = false:=by simp [hq]
   repeat' (first|((with_reducible first|(refine hK _ ?_;clear hK K)|refine aj fun U O=>?_|apply ah|(apply Z<;>(intro hc;try simp at hc;try omega)))<;>try simp only [go_sem,ap,hx,aq,ab,hq,hqb,bne_self_eq_false])|(with_reducible first|apply ag|(refine O _ ?_;clear O U)|refine kN gU fun K hK=>?_|refine kO fun K hK=>?_|refine aI ?_)|(refine xS rfl fun U O=>?_;simp only [go_sem,ap,hx,aq,ab,hq,hqb,bne_self_eq_false])|apply iB)
   all_goals first
    |(exfalso;omega)
    |exact ⟨k + 1,⟨by omega,hJ'⟩,by omega,(ao [] (by simp [lk,ae]<;>omega))⟩
  ·have e:bP ((g.length:Int) = n∧cv 0 1000 g∧All nT g) = false:=aG fun h=>hq (h.2.2 k x hx)
   rw [e]
   repeat' (first|((with_reducible first|(refine hK _ ?_;clear hK K)|refine aj fun U O=>?_|apply ah|(apply Z<;>(intro hc;try simp at hc;try omega)))<;>try simp only [go_sem,ap,hx,aq,ab])|(with_reducible first|apply ag|(refine O _ ?_;clear O U)|refine kN gU fun K hK=>?_|refine kO fun K hK=>?_|refine aI ?_)|(refine xS rfl fun U O=>?_;simp only [go_sem,ap,hx,aq,ab])|apply iB)
   all_goals first
    |(exfalso;omega)
    |(refine ak rfl rfl (by simp [am,lk]) ?_;rfl)
 ·have hQ:=hJ.all (show g.length≤k by omega)
  by_cases hA:cv 0 1000 g
  ·have hAb:=aQ hA
   have e:bP ((g.length:Int) = n∧cv 0 1000 g∧All nT g) = decide ((g.length:Int) = n):=by rw [Bool.eq_iff_iff,bP_iff,decide_eq_true_eq];exact ⟨fun h=>h.1,fun h=>⟨h,hA,hQ⟩⟩
   rw [e]
   repeat' (first|((with_reducible first|(refine hK _ ?_;clear hK K)|refine aj fun U O=>?_|apply ah|(apply Z<;>(intro hc;try simp at hc;try omega)))<;>try simp only [go_sem,hAb])|(with_reducible first|apply ag|(refine O _ ?_;clear O U)|refine kN gU fun K hK=>?_|refine kO fun K hK=>?_|refine aI ?_)|(refine xS rfl fun U O=>?_;simp only [go_sem,hAb])|((with_reducible apply CallK.eq);(· with_reducible first|exact eH g 0 1000 (by omega));(· simp [RV.flat,D.sc,ab]);try simp only [go_sem,hAb])|apply iB)
   all_goals first
    |(exfalso;omega)
    |(refine ak rfl rfl (by simp [am,lk]) ?_;first|rfl|(simp;done)|(simp_all;done))
  ·have hAb:=aG hA
   have e:bP ((g.length:Int) = n∧cv 0 1000 g∧All nT g) = false:=aG fun h=>hA h.2.1
   rw [e]
   repeat' (first|((with_reducible first|(refine hK _ ?_;clear hK K)|refine aj fun U O=>?_|apply ah|(apply Z<;>(intro hc;try simp at hc;try omega)))<;>try simp only [go_sem,hAb])|(with_reducible first|apply ag|(refine O _ ?_;clear O U)|refine kN gU fun K hK=>?_|refine kO fun K hK=>?_|refine aI ?_)|(refine xS rfl fun U O=>?_;simp only [go_sem,hAb])|((with_reducible apply CallK.eq);(· with_reducible first|exact eH g 0 1000 (by omega));(· simp [RV.flat,D.sc,ab]);try simp only [go_sem,hAb])|apply iB)
   all_goals first
    |(exfalso;omega)
    |(refine ak rfl rfl (by simp [am,lk]) ?_;first|rfl|(simp;done)|(simp_all;done))
set_option maxHeartbeats 8000000 in
theorem vc (m:MarksD) (hf:MkFit 1048576 m):FnEq Tryz.prog 184 [.agg m.cs] [.d (.bool (bP (MarksOk m)))]:=by
 obtain ⟨⟨hf1,hf2⟩,hf3,hf4⟩:=hf
 refine aO aa Tryz.func184 rfl rfl ?_;simp only [Tryz.ntmps184,aR,aM,Nat.reduceAdd,Nat.reduceSub,aW]
 by_cases h3:m.components.length = 3
 ·have h0:=List.getElem?_eq_getElem (show 0 < m.components.length by omega)
  generalize m.components[0] = g0 at h0
  have hj:=n7 h0
  have hg0:=hf4 g0 (List.mem_of_getElem? h0)
  have hlt0:0 < m.components.length:=by omega
  repeat' (first|((with_reducible first|(refine hK _ ?_;clear hK K)|refine aj fun U O=>?_|apply ah|(apply Z<;>(intro hc;try simp at hc;try omega)))<;>try simp only [go_sem,ap,h0,aq,aF,hlt0])|(with_reducible first|apply ag|(refine O _ ?_;clear O U)|refine kN iJ fun K hK=>?_|refine kO fun K hK=>?_|refine aI ?_)|(refine xS rfl fun U O=>?_;simp only [go_sem,ap,h0,aq,aF,hlt0])|apply iB)
  all_goals first
   |(exfalso;omega)
   |(refine ak rfl rfl (by simp [am,lk]) ?_;rw [MarksOk.no_nums (by unfold pE;omega)];done)
   |skip
  refine aD [2,5,26,27,28,29,30,31,32,33,34] (fun k:Nat=>[(26,.d (.int .i64 (k:Int)))]) (fun k:Nat=>[(0,.box 45 [.d (.lst 1 (m.grades.map (aF 1 ab))),.d (.lst 1 (m.components.map (aF 1 ab)))])]) 1 (fun k:Nat=>k≤m.grades.length∧Upto (jd (bX m)) m.grades k) (fun k:Nat=>m.grades.length - k) 0 ⟨Nat.zero_le _,Upto.zero _ _⟩ (ao [] (by simp [lk,ae]<;>omega)) ?_
  rintro k ⟨hk,hJ⟩
  simp only [bi,wipe,wl,bh,bw,rm,if_true,if_false,Nat.reduceEqDiff,Bool.false_eq_true,reduceCtorEq]
  by_cases hlt:k < m.grades.length
  ·have hx:=List.getElem?_eq_getElem hlt
   generalize m.grades[k] = x at hx
   have hxl:=hf2 x (List.mem_of_getElem? hx)
   have hml:=sB x (g0.length:Nat) hxl
   by_cases hA:(x.length:Int) = ((g0.length:Nat):Int)∧cv (-5) 5 x
   ·have hE:jd (bX m) k x:=⟨by have:=hA.1;omega,hA.2⟩
    have hJ':=hJ.succ hx hE
    rw [aQ hA] at hml
    repeat' (first|((with_reducible first|(refine hK _ ?_;clear hK K)|refine aj fun U O=>?_|apply ah|(apply Z<;>(intro hc;try simp at hc;try omega)))<;>try simp only [go_sem,ap,hx,aq,aF])|(with_reducible first|apply ag|(refine O _ ?_;clear O U)|refine kN iJ fun K hK=>?_|refine kO fun K hK=>?_|refine aI ?_)|(refine xS rfl fun U O=>?_;simp only [go_sem,ap,hx,aq,aF])|((with_reducible apply CallK.eq);(· with_reducible first|exact hml);(· simp [RV.flat,D.sc,ab]);try simp only [go_sem,ap,hx,aq,aF])|apply iB)
    all_goals first
     |(exfalso;omega)
     |exact ⟨k + 1,⟨by omega,hJ'⟩,by omega,(ao [] (by simp [lk,ae]<;>omega))⟩
   ·have hE:¬ jd (bX m) k x:=fun h=>hA ⟨by have:=h.1;omega,h.2⟩
    rw [aG hA] at hml
    repeat' (first|((with_reducible first|(refine hK _ ?_;clear hK K)|refine aj fun U O=>?_|apply ah|(apply Z<;>(intro hc;try simp at hc;try omega)))<;>try simp only [go_sem,ap,hx,aq,aF])|(with_reducible first|apply ag|(refine O _ ?_;clear O U)|refine kN iJ fun K hK=>?_|refine kO fun K hK=>?_|refine aI ?_)|(refine xS rfl fun U O=>?_;simp only [go_sem,ap,hx,aq,aF])|((with_reducible apply CallK.eq);(· with_reducible first|exact hml);(· simp [RV.flat,D.sc,ab]);try simp only [go_sem,ap,hx,aq,aF])|apply iB)
    all_goals first
     |(exfalso;omega)
     |(refine ak rfl rfl (by simp [am,lk]) ?_;rw [MarksOk.no_gr hx hE])
  ·have hG:=hJ.all (show m.grades.length≤k by omega)
   repeat' (first|((with_reducible first|(refine hK _ ?_;clear hK K)|refine aj fun U O=>?_|apply ah|(apply Z<;>(intro hc;try simp at hc;try omega)))<;>try simp only [go_sem])|(with_reducible first|apply ag|(refine O _ ?_;clear O U)|refine kN iJ fun K hK=>?_|refine kO fun K hK=>?_|refine aI ?_)|(refine xS rfl fun U O=>?_;simp only [go_sem])|apply iB)
   all_goals first
    |(exfalso;omega)
    |skip
   refine aD [2,7,38,39,40,41,42,43,44,45,46] (fun k:Nat=>[(38,.d (.int .i64 (k:Int)))]) (fun k:Nat=>[(0,.box 45 [.d (.lst 1 (m.grades.map (aF 1 ab))),.d (.lst 1 (m.components.map (aF 1 ab)))])]) 1 (fun k:Nat=>k≤m.components.length∧Upto (ig (bX m)) m.components k) (fun k:Nat=>m.components.length - k) 0 ⟨Nat.zero_le _,Upto.zero _ _⟩ (ao [] (by simp [lk,ae]<;>omega)) ?_
   rintro j ⟨hk2,hJ2⟩
   simp only [bi,wipe,wl,bh,bw,rm,if_true,if_false,Nat.reduceEqDiff,Bool.false_eq_true,reduceCtorEq]
   by_cases hlt2:j < m.components.length
   ·have hx:=List.getElem?_eq_getElem hlt2
    generalize m.components[j] = x at hx
    have hxl:=hf4 x (List.mem_of_getElem? hx)
    have hml:=ta x (g0.length:Nat) hxl
    by_cases hA:(x.length:Int) = ((g0.length:Nat):Int)∧cv 0 1000 x∧All nT x
    ·have hE:ig (bX m) j x:=⟨by have:=hA.1;omega,hA.2⟩
     have hJ':=hJ2.succ hx hE
     rw [aQ hA] at hml
     repeat' (first|((with_reducible first|(refine hK _ ?_;clear hK K)|refine aj fun U O=>?_|apply ah|(apply Z<;>(intro hc;try simp at hc;try omega)))<;>try simp only [go_sem,ap,hx,aq,aF])|(with_reducible first|apply ag|(refine O _ ?_;clear O U)|refine kN iJ fun K hK=>?_|refine kO fun K hK=>?_|refine aI ?_)|(refine xS rfl fun U O=>?_;simp only [go_sem,ap,hx,aq,aF])|((with_reducible apply CallK.eq);(· with_reducible first|exact hml);(· simp [RV.flat,D.sc,ab]);try simp only [go_sem,ap,hx,aq,aF])|apply iB)
     all_goals first
      |(exfalso;omega)
      |exact ⟨j + 1,⟨by omega,hJ'⟩,by omega,(ao [] (by simp [lk,ae]<;>omega))⟩
    ·have hE:¬ ig (bX m) j x:=fun h=>hA ⟨by have:=h.1;omega,h.2⟩
     rw [aG hA] at hml
     repeat' (first|((with_reducible first|(refine hK _ ?_;clear hK K)|refine aj fun U O=>?_|apply ah|(apply Z<;>(intro hc;try simp at hc;try omega)))<;>try simp only [go_sem,ap,hx,aq,aF])|(with_reducible first|apply ag|(refine O _ ?_;clear O U)|refine kN iJ fun K hK=>?_|refine kO fun K hK=>?_|refine aI ?_)|(refine xS rfl fun U O=>?_;simp only [go_sem,ap,hx,aq,aF])|((with_reducible apply CallK.eq);(· with_reducible first|exact hml);(· simp [RV.flat,D.sc,ab]);try simp only [go_sem,ap,hx,aq,aF])|apply iB)
     all_goals first
      |(exfalso;omega)
      |(refine ak rfl rfl (by simp [am,lk]) ?_;rw [MarksOk.no_cp hx hE])
   ·have hC:=hJ2.all (show m.components.length≤j by omega)
    repeat' (first|((with_reducible first|(refine hK _ ?_;clear hK K)|refine aj fun U O=>?_|apply ah|(apply Z<;>(intro hc;try simp at hc;try omega)))<;>try simp only [go_sem])|(with_reducible first|apply ag|(refine O _ ?_;clear O U)|refine kN iJ fun K hK=>?_|refine kO fun K hK=>?_|refine aI ?_)|(refine xS rfl fun U O=>?_;simp only [go_sem])|((with_reducible apply CallK.eq);(· with_reducible first|exact cx _ _ _);(· simp [RV.flat,D.sc,ab]);try simp only [go_sem])|apply iB)
    all_goals first
     |(exfalso;omega)
     |(refine ak rfl rfl (by simp [am,lk]) ?_;by_cases hj9:3≤bX m∧bX m≤9<;>first|(rw [aQ (show MarksOk m from ⟨h3,by omega,hj9.1,hj9.2,hG,hC⟩)];simp;omega)|(rw [aG (fun h:MarksOk m=>hj9 ⟨h.2.2.1,h.2.2.2.1⟩)];simp;omega))
 ·repeat' (first|((with_reducible first|(refine hK _ ?_;clear hK K)|refine aj fun U O=>?_|apply ah|(apply Z<;>(intro hc;try simp at hc;try omega)))<;>try simp only [go_sem])|(with_reducible first|apply ag|(refine O _ ?_;clear O U)|refine kN iJ fun K hK=>?_|refine kO fun K hK=>?_|refine aI ?_)|(refine xS rfl fun U O=>?_;simp only [go_sem])|apply iB)
  all_goals first
   |(exfalso;omega)
   |(refine ak rfl rfl (by simp [am,lk]) ?_;rw [MarksOk.no_nums (fun h=>h3 h.1)])
theorem uP (m:MarksD) (n:Int) (hf:MkFit 1048576 m):FnEq Tryz.prog 182 [.agg m.cs,.d (.int .i64 n)] [.d (.bool (bP (eJ m n)))]:=by
 have hi:=vc m hf
 obtain ⟨⟨hf1,hf2⟩,hf3,hf4⟩:=hf
 refine aO aa Tryz.func182 rfl rfl ?_;simp only [Tryz.ntmps182,aR,aM,Nat.reduceAdd,Nat.reduceSub,aW]
 by_cases hm:MarksOk m
 ·have hb:=aQ hm
  have e:bP (eJ m n) = decide ((m.grades.length:Int) = n):=by rw [Bool.eq_iff_iff,bP_iff,decide_eq_true_eq];exact ⟨fun h=>h.2,fun h=>⟨hm,h⟩⟩
  rw [hb] at hi
  rw [e]
  repeat' (first|((with_reducible first|(refine hK _ ?_;clear hK K)|refine aj fun U O=>?_|apply ah|(apply Z<;>(intro hc;try simp at hc;try omega)))<;>try simp only [go_sem])|(with_reducible first|apply ag|(refine O _ ?_;clear O U)|refine kN v7 fun K hK=>?_|refine kO fun K hK=>?_|refine aI ?_)|(refine xS rfl fun U O=>?_;simp only [go_sem])|((with_reducible apply CallK.eq);(· with_reducible first|exact hi);(· simp [RV.flat,D.sc,ab]);try simp only [go_sem])|fail)
  all_goals first
   |(exfalso;omega)
   |(refine ak rfl rfl (by simp [am,lk]) ?_;first|rfl|(simp;done)|(simp_all;done))
 ·have hb:=aG hm
  have e:bP (eJ m n) = false:=aG fun h=>hm h.1
  rw [hb] at hi
  rw [e]
  repeat' (first|((with_reducible first|(refine hK _ ?_;clear hK K)|refine aj fun U O=>?_|apply ah|(apply Z<;>(intro hc;try simp at hc;try omega)))<;>try simp only [go_sem])|(with_reducible first|apply ag|(refine O _ ?_;clear O U)|refine kN v7 fun K hK=>?_|refine kO fun K hK=>?_|refine aI ?_)|(refine xS rfl fun U O=>?_;simp only [go_sem])|((with_reducible apply CallK.eq);(· with_reducible first|exact hi);(· simp [RV.flat,D.sc,ab]);try simp only [go_sem])|fail)
  all_goals first
   |(exfalso;omega)
   |(refine ak rfl rfl (by simp [am,lk]) ?_;first|rfl|(simp;done)|(simp_all;done))
theorem nY (s:SlipsD):bP (ew s) = (((decide (0≤s.falls) && decide (s.falls≤9)) && (decide (0≤s.seconds) && decide (s.seconds≤60))) && (decide (0≤s.other) && decide (s.other≤500))):=by
 rw [Bool.eq_iff_iff,bP_iff];simp only [Bool.and_eq_true,decide_eq_true_eq];unfold ew;omega
theorem qY (s:SlipsD):FnEq Tryz.prog 143 [.agg s.cs] [.d (.bool (bP (ew s)))]:=by
 rw [nY]
 refine aO aa Tryz.func143 rfl rfl ?_;simp only [Tryz.ntmps143,aR,aM,Nat.reduceAdd,Nat.reduceSub,aW]
 repeat' (first|((with_reducible first|(refine hK _ ?_;clear hK K)|refine aj fun U O=>?_|apply ah|(apply Z<;>(intro hc;try simp at hc;try omega)))<;>try simp only [go_sem])|(with_reducible first|apply ag|(refine O _ ?_;clear O U)|refine kN x4 fun K hK=>?_|refine kO fun K hK=>?_|refine aI ?_)|(refine xS rfl fun U O=>?_;simp only [go_sem])|((with_reducible apply CallK.eq);(· with_reducible first|exact bE _ _ _);(· simp [RV.flat,D.sc,ab]);try simp only [go_sem])|fail)
 all_goals first
  |(exfalso;omega)
  |(refine ak rfl rfl (by simp [am,lk]) ?_;first|rfl|(simp;done)|(simp;omega)|(simp_all;done))
theorem ur (s:SlipsD):FnEq Tryz.prog 148 [.agg s.cs] [.d (.bool (bP (ew s)))]:=by
 rw [nY]
 refine aO aa Tryz.func148 rfl rfl ?_;simp only [Tryz.ntmps148,aR,aM,Nat.reduceAdd,Nat.reduceSub,aW]
 repeat' (first|((with_reducible first|(refine hK _ ?_;clear hK K)|refine aj fun U O=>?_|apply ah|(apply Z<;>(intro hc;try simp at hc;try omega)))<;>try simp only [go_sem])|(with_reducible first|apply ag|(refine O _ ?_;clear O U)|refine kN xV fun K hK=>?_|refine kO fun K hK=>?_|refine aI ?_)|(refine xS rfl fun U O=>?_;simp only [go_sem])|((with_reducible apply CallK.eq);(· with_reducible first|exact cx _ _ _);(· simp [RV.flat,D.sc,ab]);try simp only [go_sem])|fail)
 all_goals first
  |(exfalso;omega)
  |(refine ak rfl rfl (by simp [am,lk]) ?_;first|rfl|(simp;done)|(simp;omega)|(simp_all;done))
end Go.Proofs.YtphakidbddamfaaGreat
