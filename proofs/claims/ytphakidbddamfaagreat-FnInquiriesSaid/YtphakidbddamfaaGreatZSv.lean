/-
  Marks and slips: when they are valid: the program's functions and the reference's, in the abstract machine.
-/
import Derived.Test.YtphakidbddamfaaGreatZSx
set_option linter.unusedSimpArgs false
set_option linter.unusedVariables false
set_option maxHeartbeats 2000000
set_option maxRecDepth 100000
namespace Go.Proofs.YtphakidbddamfaaGreat
open Go.RowKit
def qP (x:Int):Bool:=!((decide (0≤x) && decide (x≤1000)) && (x.tmod 25 == 0))
theorem cpAt_iff {n k:Nat} {g:List Int}:iN n k g↔g.length = n∧g.any qP = false:=by
 unfold iN
 rw [List.any_eq_false]
 constructor
 ·rintro ⟨h1,h2,h3⟩
  refine ⟨h1,fun x hx=>?_⟩
  obtain ⟨i,hi⟩:=List.getElem?_of_mem hx
  have h4:=h2 i x hi
  have h5:x.tmod 25 = 0:=h3 i x hi
  simp [qP,h4.1,h4.2,h5]
 ·rintro ⟨h1,h2⟩
  refine ⟨h1,fun i x hi=>?_,fun i x hi=>?_⟩
  ·have h4:=h2 x (List.mem_of_getElem? hi)
   simp [qP] at h4
   exact ⟨h4.1.1,h4.1.2⟩
  ·have h4:=h2 x (List.mem_of_getElem? hi)
   simp [qP] at h4
   exact h4.2
theorem nY {m:MarksD} {g:List Int} (h:m.components[0]? = some g):cd m = g.length:=by
 unfold cd
 cases hc:m.components with
 |nil=>rw [hc] at h;simp at h
 |cons a l=>rw [hc] at h;simp at h;rw [←h];rfl
theorem MarksOk.no_gr {m:MarksD} {k:Nat} {g:List Int} (hx:m.grades[k]? = some g) (h:¬ jP (cd m) k g):bP (MarksOk m) = false:=aL fun h'=>h (h'.2.2.2.2.1 k g hx)
theorem MarksOk.no_cp {m:MarksD} {k:Nat} {g:List Int} (hx:m.components[k]? = some g) (h:¬ iN (cd m) k g):bP (MarksOk m) = false:=aL fun h'=>h (h'.2.2.2.2.2 k g hx)
def pL (m:MarksD):Prop:=m.components.length = 3∧m.grades.length≤14∧3≤cd m∧cd m≤9
theorem MarksOk.no_nums {m:MarksD} (h:¬ pL m):bP (MarksOk m) = false:=aL fun h'=>h ⟨h'.1,h'.2.1,h'.2.2.1,h'.2.2.2.1⟩
theorem ky (n:Int) (h1:-1000000≤n∨True):FnEq Tryz.prog 237 [.d (.int .i64 n)] [.d (.bool ((decide (0≤n) && decide (n≤1000)) && (n.tmod 25 == 0)))]:=by
 have hq:0≤n∧n≤1000→jX (n.tmod 25):=fun h=>by have:=nh (a:=n) (b:=25) (A:=1000) (by omega) (by omega);unfold jX;omega
 refine aN ae Tryz.func237 rfl rfl ?_;simp only [Tryz.ntmps237,aP,aK,Nat.reduceAdd,Nat.reduceSub,aV]
 by_cases hr:0≤n∧n≤1000
 ·have hb:(decide (0≤n) && decide (n≤1000)) = true:=by simp [hr]
  have hq:=hq hr
  unfold jX at hq
  rw [hb]
  repeat' (first|((with_reducible first|(apply hK;clear hK K)|refine ah fun U O=>?_|apply ag|(apply Z<;>(intro hc;try simp at hc;try omega)))<;>try simp only [go_sem,hb])|(with_reducible first|apply aj|(apply O;clear O U)|refine kN ws fun K hK=>?_|refine kO fun K hK=>?_|refine aI ?_)|(refine xS rfl fun U O=>?_;simp only [go_sem,hb])|((with_reducible apply CallK.eq);(· with_reducible first|exact bM _ _ _);(· simp [RV.flat,D.sc,aa]);try simp only [go_sem,hb])|fail)
  all_goals first
   |(exfalso;omega)
   |(refine ak rfl rfl (by simp [am,lk]) ?_;simp)
 ·have hb:(decide (0≤n) && decide (n≤1000)) = false:=by rw [Bool.eq_false_iff];intro h;simp at h;omega
  rw [hb]
  repeat' (first|((with_reducible first|(apply hK;clear hK K)|refine ah fun U O=>?_|apply ag|(apply Z<;>(intro hc;try simp at hc;try omega)))<;>try simp only [go_sem,hb])|(with_reducible first|apply aj|(apply O;clear O U)|refine kN ws fun K hK=>?_|refine kO fun K hK=>?_|refine aI ?_)|(refine xS rfl fun U O=>?_;simp only [go_sem,hb])|((with_reducible apply CallK.eq);(· with_reducible first|exact bM _ _ _);(· simp [RV.flat,D.sc,aa]);try simp only [go_sem,hb])|fail)
  all_goals first
   |(exfalso;omega)
   |(refine ak rfl rfl (by simp [am,lk]) ?_;simp)
theorem ro (n:Int):FnEq Tryz.prog 236 [.d (.int .i64 n)] [.d (.bool (qP n))]:=by
 refine aN ae Tryz.func236 rfl rfl ?_;simp only [Tryz.ntmps236,aP,aK,Nat.reduceAdd,Nat.reduceSub,aV]
 repeat' (first|((with_reducible first|(apply hK;clear hK K)|refine ah fun U O=>?_|apply ag|(apply Z<;>(intro hc;try simp at hc;try omega)))<;>try simp only [go_sem])|(with_reducible first|apply aj|(apply O;clear O U)|refine kN xZ fun K hK=>?_|refine kO fun K hK=>?_|refine aI ?_)|((with_reducible apply CallK.eq);(· with_reducible first|exact ky n (.inr trivial));(· simp [RV.flat,D.sc,aa]);try simp only [go_sem])|fail)
 refine ak rfl rfl (by simp [am,lk]) ?_;rfl
theorem t_ (xs:List Int) (fid:Nat) (caps:List PV) (p:Int→Bool) (hn:xs.length≤16777216) (hcap:CapOK caps) (hf:∀ x:Int,FnEq Tryz.prog fid (.d (.int .i64 x)::caps) [.d (.bool (p x))]):
  FnEq Tryz.prog 251 [.d (.lst 1 (xs.map aa)),.fn fid caps] [.d (.int .i64 (iL p xs 0))]:=by
 refine aN ae Tryz.func251 rfl rfl ?_;simp only [Tryz.ntmps251,aP,aK,Nat.reduceAdd,Nat.reduceSub,aV]
 repeat' (first|((with_reducible first|(apply hK;clear hK K)|refine ah fun U O=>?_|apply ag|(apply Z<;>(intro hc;try simp at hc;try omega)))<;>try simp only [go_sem])|(with_reducible first|apply aj|(apply O;clear O U)|refine kN tL fun K hK=>?_|refine kO fun K hK=>?_|refine aI ?_)|apply iB)
 refine aA [4,5,8,9,10,11,12,13,14,15,16,17,18] (fun k:Nat=>[(8,.d (.int .i64 (k:Int)))]) (fun k:Nat=>[]) 0 (fun k:Nat=>k≤xs.length∧∀ y ∈ xs.take k,p y = false) (fun k:Nat=>xs.length - k) 0 ⟨Nat.zero_le _,by simp⟩ (an [] (by simp [lk,ab,hcap.ren,hcap.bd]<;>omega)) ?_
 rintro k ⟨hk,hJ⟩
 simp only [bc,wipe,wl,bb,bx,rm,if_true,if_false,Nat.reduceEqDiff,Bool.false_eq_true,reduceCtorEq]
 by_cases hlt:k < xs.length
 ·have hx:=List.getElem?_eq_getElem hlt
  generalize xs[k] = x at hx
  repeat' (first|((with_reducible first|(apply hK;clear hK K)|refine ah fun U O=>?_|apply ag|(apply Z<;>(intro hc;try simp at hc;try omega)))<;>try simp only [go_sem,ap,hx,ar,aa,hcap.t2])|(with_reducible first|apply aj|(apply O;clear O U)|refine kN tL fun K hK=>?_|refine kO fun K hK=>?_|refine aI ?_)|((with_reducible apply CallK.eq);(· with_reducible first|exact hf x);(· simp [RV.flat,D.sc,aa]);try simp only [go_sem,ap,hx,ar,aa,hcap.t2])|apply iB)
  ·refine ak rfl rfl (by simp [am,lk]) ?_;rw [mD (i:=0) hx hc hJ];simp
  ·exact ⟨k + 1,⟨by omega,j4 hJ hx hc⟩,by omega,(an [] (by simp [lk,ab,hcap.ren,hcap.bd]<;>omega))⟩
 ·repeat' (first|((with_reducible first|(apply hK;clear hK K)|refine ah fun U O=>?_|apply ag|(apply Z<;>(intro hc;try simp at hc;try omega)))<;>try simp only [go_sem])|(with_reducible first|apply aj|(apply O;clear O U)|refine kN tL fun K hK=>?_|refine kO fun K hK=>?_|refine aI ?_)|apply iB)
  refine ak rfl rfl (by simp [am,lk]) ?_;rw [jF (lM hJ (by omega))]
theorem pM (xs:List Int) (fid:Nat) (caps:List PV) (p:Int→Bool) (hn:xs.length≤16777216) (hcap:CapOK caps) (hf:∀ x:Int,FnEq Tryz.prog fid (.d (.int .i64 x)::caps) [.d (.bool (p x))]):
  FnEq Tryz.prog 235 [.d (.lst 1 (xs.map aa)),.fn fid caps] [.d (.bool (xs.any p))]:=by
 refine aN ae Tryz.func235 rfl rfl ?_;simp only [Tryz.ntmps235,aP,aK,Nat.reduceAdd,Nat.reduceSub,aV]
 repeat' (first|((with_reducible first|(apply hK;clear hK K)|refine ah fun U O=>?_|apply ag|(apply Z<;>(intro hc;try simp at hc;try omega)))<;>try simp only [go_sem,hcap.t1])|(with_reducible first|apply aj|(apply O;clear O U)|refine kN yh fun K hK=>?_|refine kO fun K hK=>?_|refine aI ?_)|((with_reducible apply CallK.eq);(· with_reducible first|exact t_ xs fid caps p hn hcap hf);(· simp [RV.flat,D.sc,aa]);try simp only [go_sem,hcap.t1])|fail)
 refine ak rfl rfl (by simp [am,lk]) ?_;rw [xg]
theorem qT (m:MarksD) (g:List Int) (h0:m.components[0]? = some g):FnEq Tryz.prog 234 [.agg m.cs] [.d (.int .i64 (g.length:Nat))]:=by
 have hl:=(List.getElem?_eq_some_iff.1 h0).1
 refine aN ae Tryz.func234 rfl rfl ?_;simp only [Tryz.ntmps234,aP,aK,Nat.reduceAdd,Nat.reduceSub,aV]
 repeat' (first|((with_reducible first|(apply hK;clear hK K)|refine ah fun U O=>?_|apply ag|(apply Z<;>(intro hc;try simp at hc;try omega)))<;>try simp only [go_sem,ap,h0,ar,ax,hl])|(with_reducible first|apply aj|(apply O;clear O U)|refine kN xQ fun K hK=>?_|refine kO fun K hK=>?_|refine aI ?_)|fail)
 all_goals first
  |(exfalso;omega)
  |(refine ak rfl rfl (by simp [am,lk]) ?_;simp)
set_option maxHeartbeats 8000000 in
theorem su (m:MarksD) (hf:MkFit 1048576 m):FnEq Tryz.prog 223 [.agg m.cs] [.d (.bool (bP (MarksOk m)))]:=by
 obtain ⟨⟨hf1,hf2⟩,hf3,hf4⟩:=hf
 refine aN ae Tryz.func223 rfl rfl ?_;simp only [Tryz.ntmps223,aP,aK,Nat.reduceAdd,Nat.reduceSub,aV]
 by_cases h3:m.components.length = 3
 ·have h0:=List.getElem?_eq_getElem (show 0 < m.components.length by omega)
  generalize m.components[0] = g0 at h0
  have hj:=nY h0
  have hjo:=qT m g0 h0
  have hg0:=hf4 g0 (List.mem_of_getElem? h0)
  have hlt0:0 < m.components.length:=by omega
  repeat' (first|((with_reducible first|(apply hK;clear hK K)|refine ah fun U O=>?_|apply ag|(apply Z<;>(intro hc;try simp at hc;try omega)))<;>try simp only [go_sem,ap,h0,ar,ax,hlt0])|(with_reducible first|apply aj|(apply O;clear O U)|refine kN gy fun K hK=>?_|refine kO fun K hK=>?_|refine aI ?_)|(refine xS rfl fun U O=>?_;simp only [go_sem,ap,h0,ar,ax,hlt0])|((with_reducible apply CallK.eq);(· with_reducible first|exact bM _ _ _);(· simp [RV.flat,D.sc,aa]);try simp only [go_sem,ap,h0,ar,ax,hlt0])|apply iB)
  all_goals first
   |(exfalso;omega)
   |(refine ak rfl rfl (by simp [am,lk]) ?_;rw [MarksOk.no_nums (by unfold pL;omega)];done)
   |skip
  refine aA [2,4,29,30,31,32,33,34,35,36,37,38,39,40,41,42,43] (fun k:Nat=>[(29,.d (.int .i64 (k:Int)))]) (fun k:Nat=>[(0,.box 45 [.d (.lst 1 (m.grades.map (ax 1 aa))),.d (.lst 1 (m.components.map (ax 1 aa)))])]) 1 (fun k:Nat=>k≤m.grades.length∧Upto (jP (cd m)) m.grades k) (fun k:Nat=>m.grades.length - k) 0 ⟨Nat.zero_le _,Upto.zero _ _⟩ (an [] (by simp [lk,ab]<;>omega)) ?_
  rintro k ⟨hk,hJ⟩
  simp only [bc,wipe,wl,bb,bx,rm,if_true,if_false,Nat.reduceEqDiff,Bool.false_eq_true,reduceCtorEq]
  by_cases hlt:k < m.grades.length
  ·have hx:=List.getElem?_eq_getElem hlt
   generalize m.grades[k] = x at hx
   have hxl:=hf2 x (List.mem_of_getElem? hx)
   by_cases hA:cB (-5) 5 x
   ·have hAb:=aW hA
    by_cases hl:x.length = g0.length
    ·have hE:jP (cd m) k x:=⟨by omega,hA⟩
     have hJ':=hJ.succ hx hE
     repeat' (first|((with_reducible first|(apply hK;clear hK K)|refine ah fun U O=>?_|apply ag|(apply Z<;>(intro hc;try simp at hc;try omega)))<;>try simp only [go_sem,ap,hx,ar,ax,hAb])|(with_reducible first|apply aj|(apply O;clear O U)|refine kN gy fun K hK=>?_|refine kO fun K hK=>?_|refine aI ?_)|(refine xS rfl fun U O=>?_;simp only [go_sem,ap,hx,ar,ax,hAb])|((with_reducible apply CallK.eq);(· with_reducible first|exact hjo|exact dQ x (-5) 5 (by omega));(· simp [RV.flat,D.sc,aa]);try simp only [go_sem,ap,hx,ar,ax,hAb])|apply iB)
     all_goals first
      |(exfalso;omega)
      |exact ⟨k + 1,⟨by omega,hJ'⟩,by omega,(an [] (by simp [lk,ab]<;>omega))⟩
    ·have hE:¬ jP (cd m) k x:=fun h=>hl (by have:=h.1;omega)
     repeat' (first|((with_reducible first|(apply hK;clear hK K)|refine ah fun U O=>?_|apply ag|(apply Z<;>(intro hc;try simp at hc;try omega)))<;>try simp only [go_sem,ap,hx,ar,ax,hAb])|(with_reducible first|apply aj|(apply O;clear O U)|refine kN gy fun K hK=>?_|refine kO fun K hK=>?_|refine aI ?_)|(refine xS rfl fun U O=>?_;simp only [go_sem,ap,hx,ar,ax,hAb])|((with_reducible apply CallK.eq);(· with_reducible first|exact hjo|exact dQ x (-5) 5 (by omega));(· simp [RV.flat,D.sc,aa]);try simp only [go_sem,ap,hx,ar,ax,hAb])|apply iB)
     all_goals first
      |(exfalso;omega)
      |(refine ak rfl rfl (by simp [am,lk]) ?_;rw [MarksOk.no_gr hx hE])
   ·have hAb:=aL hA
    have hE:¬ jP (cd m) k x:=fun h=>hA h.2
    repeat' (first|((with_reducible first|(apply hK;clear hK K)|refine ah fun U O=>?_|apply ag|(apply Z<;>(intro hc;try simp at hc;try omega)))<;>try simp only [go_sem,ap,hx,ar,ax,hAb])|(with_reducible first|apply aj|(apply O;clear O U)|refine kN gy fun K hK=>?_|refine kO fun K hK=>?_|refine aI ?_)|(refine xS rfl fun U O=>?_;simp only [go_sem,ap,hx,ar,ax,hAb])|((with_reducible apply CallK.eq);(· with_reducible first|exact hjo|exact dQ x (-5) 5 (by omega));(· simp [RV.flat,D.sc,aa]);try simp only [go_sem,ap,hx,ar,ax,hAb])|apply iB)
    all_goals first
     |(exfalso;omega)
     |(refine ak rfl rfl (by simp [am,lk]) ?_;rw [MarksOk.no_gr hx hE])
  ·have hG:=hJ.all (show m.grades.length≤k by omega)
   repeat' (first|((with_reducible first|(apply hK;clear hK K)|refine ah fun U O=>?_|apply ag|(apply Z<;>(intro hc;try simp at hc;try omega)))<;>try simp only [go_sem])|(with_reducible first|apply aj|(apply O;clear O U)|refine kN gy fun K hK=>?_|refine kO fun K hK=>?_|refine aI ?_)|(refine xS rfl fun U O=>?_;simp only [go_sem])|apply iB)
   all_goals first
    |(exfalso;omega)
    |skip
   refine aA [2,6,47,48,49,50,51,52,53,54,55,56,57,58,59,60] (fun k:Nat=>[(47,.d (.int .i64 (k:Int)))]) (fun k:Nat=>[(0,.box 45 [.d (.lst 1 (m.grades.map (ax 1 aa))),.d (.lst 1 (m.components.map (ax 1 aa)))])]) 1 (fun k:Nat=>k≤m.components.length∧Upto (iN (cd m)) m.components k) (fun k:Nat=>m.components.length - k) 0 ⟨Nat.zero_le _,Upto.zero _ _⟩ (an [] (by simp [lk,ab]<;>omega)) ?_
   rintro j ⟨hk2,hJ2⟩
   simp only [bc,wipe,wl,bb,bx,rm,if_true,if_false,Nat.reduceEqDiff,Bool.false_eq_true,reduceCtorEq]
   by_cases hlt2:j < m.components.length
   ·have hx:=List.getElem?_eq_getElem hlt2
    generalize m.components[j] = x at hx
    have hxl:=hf4 x (List.mem_of_getElem? hx)
    have hci:=pM x 236 [] qP (by omega) xT (fun y=>ro y)
    by_cases hl:x.length = g0.length
    ·cases hA:x.any qP
     ·have hE:iN (cd m) j x:=cpAt_iff.2 ⟨by omega,hA⟩
      have hJ':=hJ2.succ hx hE
      rw [hA] at hci
      repeat' (first|((with_reducible first|(apply hK;clear hK K)|refine ah fun U O=>?_|apply ag|(apply Z<;>(intro hc;try simp at hc;try omega)))<;>try simp only [go_sem,ap,hx,ar,ax])|(with_reducible first|apply aj|(apply O;clear O U)|refine kN gy fun K hK=>?_|refine kO fun K hK=>?_|refine aI ?_)|(refine xS rfl fun U O=>?_;simp only [go_sem,ap,hx,ar,ax])|((with_reducible apply CallK.eq);(· with_reducible first|exact hjo|exact hci);(· simp [RV.flat,D.sc,aa]);try simp only [go_sem,ap,hx,ar,ax])|apply iB)
      all_goals first
       |(exfalso;omega)
       |exact ⟨j + 1,⟨by omega,hJ'⟩,by omega,(an [] (by simp [lk,ab]<;>omega))⟩
     ·have hE:¬ iN (cd m) j x:=fun h=>by have:=(cpAt_iff.1 h).2;rw [hA] at this;cases this
      rw [hA] at hci
      repeat' (first|((with_reducible first|(apply hK;clear hK K)|refine ah fun U O=>?_|apply ag|(apply Z<;>(intro hc;try simp at hc;try omega)))<;>try simp only [go_sem,ap,hx,ar,ax])|(with_reducible first|apply aj|(apply O;clear O U)|refine kN gy fun K hK=>?_|refine kO fun K hK=>?_|refine aI ?_)|(refine xS rfl fun U O=>?_;simp only [go_sem,ap,hx,ar,ax])|((with_reducible apply CallK.eq);(· with_reducible first|exact hjo|exact hci);(· simp [RV.flat,D.sc,aa]);try simp only [go_sem,ap,hx,ar,ax])|apply iB)
      all_goals first
       |(exfalso;omega)
       |(refine ak rfl rfl (by simp [am,lk]) ?_;rw [MarksOk.no_cp hx hE])
    ·have hE:¬ iN (cd m) j x:=fun h=>hl (by have:=h.1;omega)
     repeat' (first|((with_reducible first|(apply hK;clear hK K)|refine ah fun U O=>?_|apply ag|(apply Z<;>(intro hc;try simp at hc;try omega)))<;>try simp only [go_sem,ap,hx,ar,ax])|(with_reducible first|apply aj|(apply O;clear O U)|refine kN gy fun K hK=>?_|refine kO fun K hK=>?_|refine aI ?_)|(refine xS rfl fun U O=>?_;simp only [go_sem,ap,hx,ar,ax])|((with_reducible apply CallK.eq);(· with_reducible first|exact hjo|exact hci);(· simp [RV.flat,D.sc,aa]);try simp only [go_sem,ap,hx,ar,ax])|apply iB)
     all_goals first
      |(exfalso;omega)
      |(refine ak rfl rfl (by simp [am,lk]) ?_;rw [MarksOk.no_cp hx hE])
   ·have hC:=hJ2.all (show m.components.length≤j by omega)
    repeat' (first|((with_reducible first|(apply hK;clear hK K)|refine ah fun U O=>?_|apply ag|(apply Z<;>(intro hc;try simp at hc;try omega)))<;>try simp only [go_sem])|(with_reducible first|apply aj|(apply O;clear O U)|refine kN gy fun K hK=>?_|refine kO fun K hK=>?_|refine aI ?_)|(refine xS rfl fun U O=>?_;simp only [go_sem])|apply iB)
    all_goals first
     |(exfalso;omega)
     |(refine ak rfl rfl (by simp [am,lk]) ?_;rw [aW (show MarksOk m from ⟨h3,by omega,by omega,by omega,hG,hC⟩)])
 ·repeat' (first|((with_reducible first|(apply hK;clear hK K)|refine ah fun U O=>?_|apply ag|(apply Z<;>(intro hc;try simp at hc;try omega)))<;>try simp only [go_sem])|(with_reducible first|apply aj|(apply O;clear O U)|refine kN gy fun K hK=>?_|refine kO fun K hK=>?_|refine aI ?_)|(refine xS rfl fun U O=>?_;simp only [go_sem])|((with_reducible apply CallK.eq);(· with_reducible first|exact bM _ _ _);(· simp [RV.flat,D.sc,aa]);try simp only [go_sem])|apply iB)
  all_goals first
   |(exfalso;omega)
   |(refine ak rfl rfl (by simp [am,lk]) ?_;rw [MarksOk.no_nums (fun h=>h3 h.1)])
theorem rH (m:MarksD) (n:Int) (hf:MkFit 1048576 m):FnEq Tryz.prog 210 [.agg m.cs,.d (.int .i64 n)] [.d (.bool (bP (eF m n)))]:=by
 have hi:=su m hf
 obtain ⟨⟨hf1,hf2⟩,hf3,hf4⟩:=hf
 refine aN ae Tryz.func210 rfl rfl ?_;simp only [Tryz.ntmps210,aP,aK,Nat.reduceAdd,Nat.reduceSub,aV]
 by_cases hm:MarksOk m
 ·have hb:=aW hm
  have e:bP (eF m n) = decide ((m.grades.length:Int) = n):=by rw [Bool.eq_iff_iff,dw,decide_eq_true_eq];exact ⟨fun h=>h.2,fun h=>⟨hm,h⟩⟩
  rw [hb] at hi
  rw [e]
  repeat' (first|((with_reducible first|(apply hK;clear hK K)|refine ah fun U O=>?_|apply ag|(apply Z<;>(intro hc;try simp at hc;try omega)))<;>try simp only [go_sem])|(with_reducible first|apply aj|(apply O;clear O U)|refine kN wu fun K hK=>?_|refine kO fun K hK=>?_|refine aI ?_)|(refine xS rfl fun U O=>?_;simp only [go_sem])|((with_reducible apply CallK.eq);(· with_reducible first|exact hi);(· simp [RV.flat,D.sc,aa]);try simp only [go_sem])|fail)
  all_goals first
   |(exfalso;omega)
   |(refine ak rfl rfl (by simp [am,lk]) ?_;first|rfl|(simp;done)|(simp_all;done))
 ·have hb:=aL hm
  have e:bP (eF m n) = false:=aL fun h=>hm h.1
  rw [hb] at hi
  rw [e]
  repeat' (first|((with_reducible first|(apply hK;clear hK K)|refine ah fun U O=>?_|apply ag|(apply Z<;>(intro hc;try simp at hc;try omega)))<;>try simp only [go_sem])|(with_reducible first|apply aj|(apply O;clear O U)|refine kN wu fun K hK=>?_|refine kO fun K hK=>?_|refine aI ?_)|(refine xS rfl fun U O=>?_;simp only [go_sem])|((with_reducible apply CallK.eq);(· with_reducible first|exact hi);(· simp [RV.flat,D.sc,aa]);try simp only [go_sem])|fail)
  all_goals first
   |(exfalso;omega)
   |(refine ak rfl rfl (by simp [am,lk]) ?_;first|rfl|(simp;done)|(simp_all;done))
theorem tt (g:List Int) (n:Int) (hg:g.length≤1048576):FnEq Tryz.prog 213 [.d (.lst 1 (g.map aa)),.d (.int .i64 n),.d (.bool false)] [.d (.bool (bP ((g.length:Int) = n∧cB (-5) 5 g)))]:=by
 refine aN ae Tryz.func213 rfl rfl ?_;simp only [Tryz.ntmps213,aP,aK,Nat.reduceAdd,Nat.reduceSub,aV]
 repeat' (first|((with_reducible first|(apply hK;clear hK K)|refine ah fun U O=>?_|apply ag|(apply Z<;>(intro hc;try simp at hc;try omega)))<;>try simp only [go_sem])|(with_reducible first|apply aj|(apply O;clear O U)|refine kN hZ fun K hK=>?_|refine kO fun K hK=>?_|refine aI ?_)|(refine xS rfl fun U O=>?_;simp only [go_sem])|apply iB)
 refine aA [6,8,11,12,13,14,15,16,17,18,19,20,21] (fun k:Nat=>[(11,.d (.int .i64 (k:Int)))]) (fun k:Nat=>[]) 0 (fun k:Nat=>k≤g.length) (fun k:Nat=>g.length - k) 0 (Nat.zero_le _) (an [] (by simp [lk,ab]<;>omega)) ?_
 intro k hk
 simp only [bc,wipe,wl,bb,bx,rm,if_true,if_false,Nat.reduceEqDiff,Bool.false_eq_true,reduceCtorEq]
 by_cases hlt:k < g.length
 ·have hx:=List.getElem?_eq_getElem hlt
  generalize g[k] = x at hx
  repeat' (first|((with_reducible first|(apply hK;clear hK K)|refine ah fun U O=>?_|apply ag|(apply Z<;>(intro hc;try simp at hc;try omega)))<;>try simp only [go_sem,ap,hx,ar,aa])|(with_reducible first|apply aj|(apply O;clear O U)|refine kN hZ fun K hK=>?_|refine kO fun K hK=>?_|refine aI ?_)|(refine xS rfl fun U O=>?_;simp only [go_sem,ap,hx,ar,aa])|apply iB)
  all_goals first
   |(exfalso;omega)
   |exact ⟨k + 1,by omega,by omega,(an [] (by simp [lk,ab]<;>omega))⟩
 ·by_cases hA:cB (-5) 5 g
  ·have hAb:=aW hA
   have e:bP ((g.length:Int) = n∧cB (-5) 5 g) = decide ((g.length:Int) = n):=by rw [Bool.eq_iff_iff,dw,decide_eq_true_eq];exact ⟨fun h=>h.1,fun h=>⟨h,hA⟩⟩
   rw [e]
   repeat' (first|((with_reducible first|(apply hK;clear hK K)|refine ah fun U O=>?_|apply ag|(apply Z<;>(intro hc;try simp at hc;try omega)))<;>try simp only [go_sem,hAb])|(with_reducible first|apply aj|(apply O;clear O U)|refine kN hZ fun K hK=>?_|refine kO fun K hK=>?_|refine aI ?_)|(refine xS rfl fun U O=>?_;simp only [go_sem,hAb])|((with_reducible apply CallK.eq);(· with_reducible first|exact eD g (-5) 5 (by omega));(· simp [RV.flat,D.sc,aa]);try simp only [go_sem,hAb])|apply iB)
   all_goals first
    |(exfalso;omega)
    |(refine ak rfl rfl (by simp [am,lk]) ?_;first|rfl|(simp;done)|(simp_all;done))
  ·have hAb:=aL hA
   have e:bP ((g.length:Int) = n∧cB (-5) 5 g) = false:=aL fun h=>hA h.2
   rw [e]
   repeat' (first|((with_reducible first|(apply hK;clear hK K)|refine ah fun U O=>?_|apply ag|(apply Z<;>(intro hc;try simp at hc;try omega)))<;>try simp only [go_sem,hAb])|(with_reducible first|apply aj|(apply O;clear O U)|refine kN hZ fun K hK=>?_|refine kO fun K hK=>?_|refine aI ?_)|(refine xS rfl fun U O=>?_;simp only [go_sem,hAb])|((with_reducible apply CallK.eq);(· with_reducible first|exact eD g (-5) 5 (by omega));(· simp [RV.flat,D.sc,aa]);try simp only [go_sem,hAb])|apply iB)
   all_goals first
    |(exfalso;omega)
    |(refine ak rfl rfl (by simp [am,lk]) ?_;first|rfl|(simp;done)|(simp_all;done))
theorem yg (x:Int):-25 < x.tmod 25∧x.tmod 25 < 25:=by
 have h2:(x.tmod 25).natAbs < 25:=by rw [Int.natAbs_tmod];exact Nat.mod_lt _ (by decide)
 omega
theorem sM (g:List Int) (n:Int) (hg:g.length≤1048576):FnEq Tryz.prog 213 [.d (.lst 1 (g.map aa)),.d (.int .i64 n),.d (.bool true)] [.d (.bool (bP ((g.length:Int) = n∧cB 0 1000 g∧All oq g)))]:=by
 refine aN ae Tryz.func213 rfl rfl ?_;simp only [Tryz.ntmps213,aP,aK,Nat.reduceAdd,Nat.reduceSub,aV]
 repeat' (first|((with_reducible first|(apply hK;clear hK K)|refine ah fun U O=>?_|apply ag|(apply Z<;>(intro hc;try simp at hc;try omega)))<;>try simp only [go_sem])|(with_reducible first|apply aj|(apply O;clear O U)|refine kN hZ fun K hK=>?_|refine kO fun K hK=>?_|refine aI ?_)|(refine xS rfl fun U O=>?_;simp only [go_sem])|apply iB)
 refine aA [6,8,11,12,13,14,15,16,17,18,19,20,21] (fun k:Nat=>[(11,.d (.int .i64 (k:Int)))]) (fun k:Nat=>[]) 0 (fun k:Nat=>k≤g.length∧Upto oq g k) (fun k:Nat=>g.length - k) 0 ⟨Nat.zero_le _,Upto.zero _ _⟩ (an [] (by simp [lk,ab]<;>omega)) ?_
 rintro k ⟨hk,hJ⟩
 simp only [bc,wipe,wl,bb,bx,rm,if_true,if_false,Nat.reduceEqDiff,Bool.false_eq_true,reduceCtorEq]
 by_cases hlt:k < g.length
 ·have hx:=List.getElem?_eq_getElem hlt
  generalize g[k] = x at hx
  have hm:=yg x
  by_cases hq:x.tmod 25 = 0
  ·have hJ':=hJ.succ hx (show oq k x from hq)
   have hqb:(x.tmod 25 != 0) = false:=by simp [hq]
   repeat' (first|((with_reducible first|(apply hK;clear hK K)|refine ah fun U O=>?_|apply ag|(apply Z<;>(intro hc;try simp at hc;try omega)))<;>try simp only [go_sem,ap,hx,ar,aa,hq,hqb,bne_self_eq_false])|(with_reducible first|apply aj|(apply O;clear O U)|refine kN hZ fun K hK=>?_|refine kO fun K hK=>?_|refine aI ?_)|(refine xS rfl fun U O=>?_;simp only [go_sem,ap,hx,ar,aa,hq,hqb,bne_self_eq_false])|apply iB)
   all_goals first
    |(exfalso;omega)
    |exact ⟨k + 1,⟨by omega,hJ'⟩,by omega,(an [] (by simp [lk,ab]<;>omega))⟩
  ·have e:bP ((g.length:Int) = n∧cB 0 1000 g∧All oq g) = false:=aL fun h=>hq (h.2.2 k x hx)
   rw [e]
   repeat' (first|((with_reducible first|(apply hK;clear hK K)|refine ah fun U O=>?_|apply ag|(apply Z<;>(intro hc;try simp at hc;try omega)))<;>try simp only [go_sem,ap,hx,ar,aa])|(with_reducible first|apply aj|(apply O;clear O U)|refine kN hZ fun K hK=>?_|refine kO fun K hK=>?_|refine aI ?_)|(refine xS rfl fun U O=>?_;simp only [go_sem,ap,hx,ar,aa])|apply iB)
   all_goals first
    |(exfalso;omega)
    |(refine ak rfl rfl (by simp [am,lk]) ?_;rfl)
 ·have hQ:=hJ.all (show g.length≤k by omega)
  by_cases hA:cB 0 1000 g
  ·have hAb:=aW hA
   have e:bP ((g.length:Int) = n∧cB 0 1000 g∧All oq g) = decide ((g.length:Int) = n):=by rw [Bool.eq_iff_iff,dw,decide_eq_true_eq];exact ⟨fun h=>h.1,fun h=>⟨h,hA,hQ⟩⟩
   rw [e]
   repeat' (first|((with_reducible first|(apply hK;clear hK K)|refine ah fun U O=>?_|apply ag|(apply Z<;>(intro hc;try simp at hc;try omega)))<;>try simp only [go_sem,hAb])|(with_reducible first|apply aj|(apply O;clear O U)|refine kN hZ fun K hK=>?_|refine kO fun K hK=>?_|refine aI ?_)|(refine xS rfl fun U O=>?_;simp only [go_sem,hAb])|((with_reducible apply CallK.eq);(· with_reducible first|exact eD g 0 1000 (by omega));(· simp [RV.flat,D.sc,aa]);try simp only [go_sem,hAb])|apply iB)
   all_goals first
    |(exfalso;omega)
    |(refine ak rfl rfl (by simp [am,lk]) ?_;first|rfl|(simp;done)|(simp_all;done))
  ·have hAb:=aL hA
   have e:bP ((g.length:Int) = n∧cB 0 1000 g∧All oq g) = false:=aL fun h=>hA h.2.1
   rw [e]
   repeat' (first|((with_reducible first|(apply hK;clear hK K)|refine ah fun U O=>?_|apply ag|(apply Z<;>(intro hc;try simp at hc;try omega)))<;>try simp only [go_sem,hAb])|(with_reducible first|apply aj|(apply O;clear O U)|refine kN hZ fun K hK=>?_|refine kO fun K hK=>?_|refine aI ?_)|(refine xS rfl fun U O=>?_;simp only [go_sem,hAb])|((with_reducible apply CallK.eq);(· with_reducible first|exact eD g 0 1000 (by omega));(· simp [RV.flat,D.sc,aa]);try simp only [go_sem,hAb])|apply iB)
   all_goals first
    |(exfalso;omega)
    |(refine ak rfl rfl (by simp [am,lk]) ?_;first|rfl|(simp;done)|(simp_all;done))
set_option maxHeartbeats 8000000 in
theorem qc (m:MarksD) (hf:MkFit 1048576 m):FnEq Tryz.prog 184 [.agg m.cs] [.d (.bool (bP (MarksOk m)))]:=by
 obtain ⟨⟨hf1,hf2⟩,hf3,hf4⟩:=hf
 refine aN ae Tryz.func184 rfl rfl ?_;simp only [Tryz.ntmps184,aP,aK,Nat.reduceAdd,Nat.reduceSub,aV]
 by_cases h3:m.components.length = 3
 ·have h0:=List.getElem?_eq_getElem (show 0 < m.components.length by omega)
  generalize m.components[0] = g0 at h0
  have hj:=nY h0
  have hg0:=hf4 g0 (List.mem_of_getElem? h0)
  have hlt0:0 < m.components.length:=by omega
  repeat' (first|((with_reducible first|(apply hK;clear hK K)|refine ah fun U O=>?_|apply ag|(apply Z<;>(intro hc;try simp at hc;try omega)))<;>try simp only [go_sem,ap,h0,ar,ax,hlt0])|(with_reducible first|apply aj|(apply O;clear O U)|refine kN iZ fun K hK=>?_|refine kO fun K hK=>?_|refine aI ?_)|(refine xS rfl fun U O=>?_;simp only [go_sem,ap,h0,ar,ax,hlt0])|apply iB)
  all_goals first
   |(exfalso;omega)
   |(refine ak rfl rfl (by simp [am,lk]) ?_;rw [MarksOk.no_nums (by unfold pL;omega)];done)
   |skip
  refine aA [2,5,26,27,28,29,30,31,32,33,34] (fun k:Nat=>[(26,.d (.int .i64 (k:Int)))]) (fun k:Nat=>[(0,.box 45 [.d (.lst 1 (m.grades.map (ax 1 aa))),.d (.lst 1 (m.components.map (ax 1 aa)))])]) 1 (fun k:Nat=>k≤m.grades.length∧Upto (jP (cd m)) m.grades k) (fun k:Nat=>m.grades.length - k) 0 ⟨Nat.zero_le _,Upto.zero _ _⟩ (an [] (by simp [lk,ab]<;>omega)) ?_
  rintro k ⟨hk,hJ⟩
  simp only [bc,wipe,wl,bb,bx,rm,if_true,if_false,Nat.reduceEqDiff,Bool.false_eq_true,reduceCtorEq]
  by_cases hlt:k < m.grades.length
  ·have hx:=List.getElem?_eq_getElem hlt
   generalize m.grades[k] = x at hx
   have hxl:=hf2 x (List.mem_of_getElem? hx)
   have hml:=tt x (g0.length:Nat) hxl
   by_cases hA:(x.length:Int) = ((g0.length:Nat):Int)∧cB (-5) 5 x
   ·have hE:jP (cd m) k x:=⟨by have:=hA.1;omega,hA.2⟩
    have hJ':=hJ.succ hx hE
    rw [aW hA] at hml
    repeat' (first|((with_reducible first|(apply hK;clear hK K)|refine ah fun U O=>?_|apply ag|(apply Z<;>(intro hc;try simp at hc;try omega)))<;>try simp only [go_sem,ap,hx,ar,ax])|(with_reducible first|apply aj|(apply O;clear O U)|refine kN iZ fun K hK=>?_|refine kO fun K hK=>?_|refine aI ?_)|(refine xS rfl fun U O=>?_;simp only [go_sem,ap,hx,ar,ax])|((with_reducible apply CallK.eq);(· with_reducible first|exact hml);(· simp [RV.flat,D.sc,aa]);try simp only [go_sem,ap,hx,ar,ax])|apply iB)
    all_goals first
     |(exfalso;omega)
     |exact ⟨k + 1,⟨by omega,hJ'⟩,by omega,(an [] (by simp [lk,ab]<;>omega))⟩
   ·have hE:¬ jP (cd m) k x:=fun h=>hA ⟨by have:=h.1;omega,h.2⟩
    rw [aL hA] at hml
    repeat' (first|((with_reducible first|(apply hK;clear hK K)|refine ah fun U O=>?_|apply ag|(apply Z<;>(intro hc;try simp at hc;try omega)))<;>try simp only [go_sem,ap,hx,ar,ax])|(with_reducible first|apply aj|(apply O;clear O U)|refine kN iZ fun K hK=>?_|refine kO fun K hK=>?_|refine aI ?_)|(refine xS rfl fun U O=>?_;simp only [go_sem,ap,hx,ar,ax])|((with_reducible apply CallK.eq);(· with_reducible first|exact hml);(· simp [RV.flat,D.sc,aa]);try simp only [go_sem,ap,hx,ar,ax])|apply iB)
    all_goals first
     |(exfalso;omega)
     |(refine ak rfl rfl (by simp [am,lk]) ?_;rw [MarksOk.no_gr hx hE])
  ·have hG:=hJ.all (show m.grades.length≤k by omega)
   repeat' (first|((with_reducible first|(apply hK;clear hK K)|refine ah fun U O=>?_|apply ag|(apply Z<;>(intro hc;try simp at hc;try omega)))<;>try simp only [go_sem])|(with_reducible first|apply aj|(apply O;clear O U)|refine kN iZ fun K hK=>?_|refine kO fun K hK=>?_|refine aI ?_)|(refine xS rfl fun U O=>?_;simp only [go_sem])|apply iB)
   all_goals first
    |(exfalso;omega)
    |skip
   refine aA [2,7,38,39,40,41,42,43,44,45,46] (fun k:Nat=>[(38,.d (.int .i64 (k:Int)))]) (fun k:Nat=>[(0,.box 45 [.d (.lst 1 (m.grades.map (ax 1 aa))),.d (.lst 1 (m.components.map (ax 1 aa)))])]) 1 (fun k:Nat=>k≤m.components.length∧Upto (iN (cd m)) m.components k) (fun k:Nat=>m.components.length - k) 0 ⟨Nat.zero_le _,Upto.zero _ _⟩ (an [] (by simp [lk,ab]<;>omega)) ?_
   rintro j ⟨hk2,hJ2⟩
   simp only [bc,wipe,wl,bb,bx,rm,if_true,if_false,Nat.reduceEqDiff,Bool.false_eq_true,reduceCtorEq]
   by_cases hlt2:j < m.components.length
   ·have hx:=List.getElem?_eq_getElem hlt2
    generalize m.components[j] = x at hx
    have hxl:=hf4 x (List.mem_of_getElem? hx)
    have hml:=sM x (g0.length:Nat) hxl
    by_cases hA:(x.length:Int) = ((g0.length:Nat):Int)∧cB 0 1000 x∧All oq x
    ·have hE:iN (cd m) j x:=⟨by have:=hA.1;omega,hA.2⟩
     have hJ':=hJ2.succ hx hE
     rw [aW hA] at hml
     repeat' (first|((with_reducible first|(apply hK;clear hK K)|refine ah fun U O=>?_|apply ag|(apply Z<;>(intro hc;try simp at hc;try omega)))<;>try simp only [go_sem,ap,hx,ar,ax])|(with_reducible first|apply aj|(apply O;clear O U)|refine kN iZ fun K hK=>?_|refine kO fun K hK=>?_|refine aI ?_)|(refine xS rfl fun U O=>?_;simp only [go_sem,ap,hx,ar,ax])|((with_reducible apply CallK.eq);(· with_reducible first|exact hml);(· simp [RV.flat,D.sc,aa]);try simp only [go_sem,ap,hx,ar,ax])|apply iB)
     all_goals first
      |(exfalso;omega)
      |exact ⟨j + 1,⟨by omega,hJ'⟩,by omega,(an [] (by simp [lk,ab]<;>omega))⟩
    ·have hE:¬ iN (cd m) j x:=fun h=>hA ⟨by have:=h.1;omega,h.2⟩
     rw [aL hA] at hml
     repeat' (first|((with_reducible first|(apply hK;clear hK K)|refine ah fun U O=>?_|apply ag|(apply Z<;>(intro hc;try simp at hc;try omega)))<;>try simp only [go_sem,ap,hx,ar,ax])|(with_reducible first|apply aj|(apply O;clear O U)|refine kN iZ fun K hK=>?_|refine kO fun K hK=>?_|refine aI ?_)|(refine xS rfl fun U O=>?_;simp only [go_sem,ap,hx,ar,ax])|((with_reducible apply CallK.eq);(· with_reducible first|exact hml);(· simp [RV.flat,D.sc,aa]);try simp only [go_sem,ap,hx,ar,ax])|apply iB)
     all_goals first
      |(exfalso;omega)
      |(refine ak rfl rfl (by simp [am,lk]) ?_;rw [MarksOk.no_cp hx hE])
   ·have hC:=hJ2.all (show m.components.length≤j by omega)
    repeat' (first|((with_reducible first|(apply hK;clear hK K)|refine ah fun U O=>?_|apply ag|(apply Z<;>(intro hc;try simp at hc;try omega)))<;>try simp only [go_sem])|(with_reducible first|apply aj|(apply O;clear O U)|refine kN iZ fun K hK=>?_|refine kO fun K hK=>?_|refine aI ?_)|(refine xS rfl fun U O=>?_;simp only [go_sem])|((with_reducible apply CallK.eq);(· with_reducible first|exact ct _ _ _);(· simp [RV.flat,D.sc,aa]);try simp only [go_sem])|apply iB)
    all_goals first
     |(exfalso;omega)
     |(refine ak rfl rfl (by simp [am,lk]) ?_;by_cases hj9:3≤cd m∧cd m≤9<;>first|(rw [aW (show MarksOk m from ⟨h3,by omega,hj9.1,hj9.2,hG,hC⟩)];simp;omega)|(rw [aL (fun h:MarksOk m=>hj9 ⟨h.2.2.1,h.2.2.2.1⟩)];simp;omega))
 ·repeat' (first|((with_reducible first|(apply hK;clear hK K)|refine ah fun U O=>?_|apply ag|(apply Z<;>(intro hc;try simp at hc;try omega)))<;>try simp only [go_sem])|(with_reducible first|apply aj|(apply O;clear O U)|refine kN iZ fun K hK=>?_|refine kO fun K hK=>?_|refine aI ?_)|(refine xS rfl fun U O=>?_;simp only [go_sem])|apply iB)
  all_goals first
   |(exfalso;omega)
   |(refine ak rfl rfl (by simp [am,lk]) ?_;rw [MarksOk.no_nums (fun h=>h3 h.1)])
theorem uP (m:MarksD) (n:Int) (hf:MkFit 1048576 m):FnEq Tryz.prog 182 [.agg m.cs,.d (.int .i64 n)] [.d (.bool (bP (eF m n)))]:=by
 have hi:=qc m hf
 obtain ⟨⟨hf1,hf2⟩,hf3,hf4⟩:=hf
 refine aN ae Tryz.func182 rfl rfl ?_;simp only [Tryz.ntmps182,aP,aK,Nat.reduceAdd,Nat.reduceSub,aV]
 by_cases hm:MarksOk m
 ·have hb:=aW hm
  have e:bP (eF m n) = decide ((m.grades.length:Int) = n):=by rw [Bool.eq_iff_iff,dw,decide_eq_true_eq];exact ⟨fun h=>h.2,fun h=>⟨hm,h⟩⟩
  rw [hb] at hi
  rw [e]
  repeat' (first|((with_reducible first|(apply hK;clear hK K)|refine ah fun U O=>?_|apply ag|(apply Z<;>(intro hc;try simp at hc;try omega)))<;>try simp only [go_sem])|(with_reducible first|apply aj|(apply O;clear O U)|refine kN v6 fun K hK=>?_|refine kO fun K hK=>?_|refine aI ?_)|(refine xS rfl fun U O=>?_;simp only [go_sem])|((with_reducible apply CallK.eq);(· with_reducible first|exact hi);(· simp [RV.flat,D.sc,aa]);try simp only [go_sem])|fail)
  all_goals first
   |(exfalso;omega)
   |(refine ak rfl rfl (by simp [am,lk]) ?_;first|rfl|(simp;done)|(simp_all;done))
 ·have hb:=aL hm
  have e:bP (eF m n) = false:=aL fun h=>hm h.1
  rw [hb] at hi
  rw [e]
  repeat' (first|((with_reducible first|(apply hK;clear hK K)|refine ah fun U O=>?_|apply ag|(apply Z<;>(intro hc;try simp at hc;try omega)))<;>try simp only [go_sem])|(with_reducible first|apply aj|(apply O;clear O U)|refine kN v6 fun K hK=>?_|refine kO fun K hK=>?_|refine aI ?_)|(refine xS rfl fun U O=>?_;simp only [go_sem])|((with_reducible apply CallK.eq);(· with_reducible first|exact hi);(· simp [RV.flat,D.sc,aa]);try simp only [go_sem])|fail)
  all_goals first
   |(exfalso;omega)
   |(refine ak rfl rfl (by simp [am,lk]) ?_;first|rfl|(simp;done)|(simp_all;done))
theorem og (s:SlipsD):bP (ey s) = (((decide (0≤s.falls) && decide (s.falls≤9)) && (decide (0≤s.seconds) && decide (s.seconds≤60))) && (decide (0≤s.other) && decide (s.other≤500))):=by
 rw [Bool.eq_iff_iff,dw];simp only [Bool.and_eq_true,decide_eq_true_eq];unfold ey;omega
theorem ru (s:SlipsD):FnEq Tryz.prog 143 [.agg s.cs] [.d (.bool (bP (ey s)))]:=by
 rw [og]
 refine aN ae Tryz.func143 rfl rfl ?_;simp only [Tryz.ntmps143,aP,aK,Nat.reduceAdd,Nat.reduceSub,aV]
 repeat' (first|((with_reducible first|(apply hK;clear hK K)|refine ah fun U O=>?_|apply ag|(apply Z<;>(intro hc;try simp at hc;try omega)))<;>try simp only [go_sem])|(with_reducible first|apply aj|(apply O;clear O U)|refine kN xR fun K hK=>?_|refine kO fun K hK=>?_|refine aI ?_)|(refine xS rfl fun U O=>?_;simp only [go_sem])|((with_reducible apply CallK.eq);(· with_reducible first|exact bM _ _ _);(· simp [RV.flat,D.sc,aa]);try simp only [go_sem])|fail)
 all_goals first
  |(exfalso;omega)
  |(refine ak rfl rfl (by simp [am,lk]) ?_;first|rfl|(simp;done)|(simp;omega)|(simp_all;done))
theorem ub (s:SlipsD):FnEq Tryz.prog 148 [.agg s.cs] [.d (.bool (bP (ey s)))]:=by
 rw [og]
 refine aN ae Tryz.func148 rfl rfl ?_;simp only [Tryz.ntmps148,aP,aK,Nat.reduceAdd,Nat.reduceSub,aV]
 repeat' (first|((with_reducible first|(apply hK;clear hK K)|refine ah fun U O=>?_|apply ag|(apply Z<;>(intro hc;try simp at hc;try omega)))<;>try simp only [go_sem])|(with_reducible first|apply aj|(apply O;clear O U)|refine kN yd fun K hK=>?_|refine kO fun K hK=>?_|refine aI ?_)|(refine xS rfl fun U O=>?_;simp only [go_sem])|((with_reducible apply CallK.eq);(· with_reducible first|exact ct _ _ _);(· simp [RV.flat,D.sc,aa]);try simp only [go_sem])|fail)
 all_goals first
  |(exfalso;omega)
  |(refine ak rfl rfl (by simp [am,lk]) ?_;first|rfl|(simp;done)|(simp;omega)|(simp_all;done))
end Go.Proofs.YtphakidbddamfaaGreat
