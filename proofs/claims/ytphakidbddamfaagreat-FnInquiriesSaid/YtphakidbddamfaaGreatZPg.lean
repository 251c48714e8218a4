/-
  Programmes: which items are late (the reference's function, in the abstract machine).
-/
import Derived.Test.YtphakidbddamfaaGreatZDa
import Derived.Test.YtphakidbddamfaaGreatZIc
import Derived.Test.YtphakidbddamfaaGreatZMsh
import Derived.Test.YtphakidbddamfaaGreatZCd
import Derived.Test.YtphakidbddamfaaGreatZPt
set_option linter.unusedSimpArgs false
set_option linter.unusedVariables false
set_option maxHeartbeats 2000000
set_option maxRecDepth 100000
namespace Go.Proofs.YtphakidbddamfaaGreat
open Go.RowKit
def LikeI (l l':List ItemD):Prop:=l'.length = l.length∧∀ (i:Nat) (y:ItemD),l'[i]? = some y→∃ x,l[i]? = some x∧y.names = x.names∧y.marks = x.marks
theorem LikeI.refl (l:List ItemD):LikeI l l:=⟨rfl,fun _ y h=>⟨y,h,rfl,rfl⟩⟩
theorem LikeI.set {l l':List ItemD} (h:LikeI l l') {i:Nat} {x:ItemD} (hx:l'[i]? = some x) (b:Bool):LikeI l (l'.set i ⟨x.names,x.marks,b⟩):=by
 refine ⟨by rw [cf];exact h.1,fun j y hy=>?_⟩
 rw [List.getElem?_set] at hy
 split at hy
 ·rename_i e
  subst e
  split at hy
  ·cases hy
   obtain ⟨z,h1,h2,h3⟩:=h.2 i x hx
   exact ⟨z,h1,h2,h3⟩
  ·cases hy
 ·exact h.2 j y hy
theorem LikeI.fit {m:Nat} {l l':List ItemD} (h:LikeI l l') (hs:∀ r ∈ l,ItFit m r):∀ r ∈ l',ItFit m r:=by
 intro r hr
 obtain ⟨i,hi⟩:=List.getElem?_of_mem hr
 obtain ⟨x,h1,h2,h3⟩:=h.2 i r hi
 have:=hs x (List.mem_of_getElem? h1)
 unfold ItFit at *
 rw [h2,h3]
 exact this
theorem kB (l:List ItemD) (hn:l.length≤1048576) (hs:∀ r ∈ l,ItFit 1048576 r):FnOK Tryz.prog 201 [.d (.lst 3 (l.map ItemD.dat))] (fun rs=>∃ l',LikeI l l'∧rs = [.deep 143 3 (l'.map ItemD.dat)]):=by
 refine aN ae Tryz.func201 rfl rfl ?_;simp only [Tryz.ntmps201,aP,aK,Nat.reduceAdd,Nat.reduceSub,aV]
 have hi:=iE l hn hs
 by_cases h0:l.length = 0
 ·rw [show eg l = .row 143 3 [] from if_pos h0] at hi
  have hl:l = []:=List.length_eq_zero_iff.1 h0
  repeat' (first|((with_reducible first|(apply hK;clear hK K)|refine ah fun U O=>?_|apply ag|(apply Z<;>(intro hc;try simp at hc;try omega)))<;>try simp only [go_sem,h0])|(with_reducible first|apply aj|(apply O;clear O U)|refine kN kY fun K hK=>?_|refine kO fun K hK=>?_|refine aI ?_)|((with_reducible apply CallK.eq);(· with_reducible first|exact hi);(· simp [RV.flat,D.sc,aa]);try simp only [go_sem,h0])|apply iB)
  refine cS 1 rfl (by intro e he;cases he) ?_
  simp only [go_sem]
  refine aA [2,4,9,10,11,12,13,14,15,16,17,18,19,20,21] (fun k:Nat=>[(9,.d (.int .i64 (k:Int))),(3,.row 0 0)]) (fun k:Nat=>[(0,.deep 0 143 3 [])]) 1 (fun k:Nat=>k≤0) (fun k:Nat=>0 - k) 0 (Nat.zero_le _) (an [] (by simp [lk,ab]<;>omega)) ?_
  intro k hk
  simp only [bc,wipe,wl,bb,bx,rm,if_true,if_false,Nat.reduceEqDiff,Bool.false_eq_true,reduceCtorEq]
  repeat' (first|((with_reducible first|(apply hK;clear hK K)|refine ah fun U O=>?_|apply ag|(apply Z<;>(intro hc;try simp at hc;try omega)))<;>try simp only [go_sem])|(with_reducible first|apply aj|(apply O;clear O U)|refine kN kY fun K hK=>?_|refine kO fun K hK=>?_|refine aI ?_)|apply iB)
  all_goals first
   |(exfalso;omega)
   |(refine ak rfl (by simp only [bj,bn,ab,lk,ao,aK,List.length_append,List.length_take,if_true,if_false,Nat.reduceEqDiff,Nat.reduceBEq,Bool.false_eq_true,Option.some.injEq];rfl) (by simp [am,lk]) ?_;exact ⟨[],by rw [hl];exact .refl _,rfl⟩)
 ·rw [show eg l = .deep 143 3 (l.map ItemD.dat) from if_neg h0] at hi
  repeat' (first|((with_reducible first|(apply hK;clear hK K)|refine ah fun U O=>?_|apply ag|(apply Z<;>(intro hc;try simp at hc;try omega)))<;>try simp only [go_sem,ao])|(with_reducible first|apply aj|(apply O;clear O U)|refine kN kY fun K hK=>?_|refine kO fun K hK=>?_|refine aI ?_)|((with_reducible apply CallK.eq);(· with_reducible first|exact hi);(· simp [RV.flat,D.sc,aa]);try simp only [go_sem,ao])|apply iB)
  refine aA [2,4,9,10,11,12,13,14,15,16,17,18,19,20,21] (fun q:Nat × List ItemD=>[(9,.d (.int .i64 (q.1:Int))),(3,.row 0 q.2.length)]) (fun q=>[(0,.deep 0 143 3 (q.2.map ItemD.dat))]) 1 (fun q=>q.1≤l.length∧LikeI l q.2) (fun q=>l.length - q.1) (0,l) ⟨by simp,.refl l⟩ (an [] (by simp [lk,ab]<;>omega)) ?_
  rintro ⟨k,L⟩ ⟨hk,hL⟩
  simp only [bc,wipe,wl,bb,bx,rm,if_true,if_false,Nat.reduceEqDiff,Bool.false_eq_true,reduceCtorEq]
  simp only at hk hL
  have hLl:=hL.1
  by_cases hlt:k < l.length
  ·obtain ⟨x,hx⟩:∃ x,L[k]? = some x:=⟨_,List.getElem?_eq_getElem (by omega)⟩
   repeat' (first|((with_reducible first|(apply hK;clear hK K)|refine ah fun U O=>?_|apply ag|(apply Z<;>(intro hc;try simp at hc;try omega)))<;>try simp only [go_sem,hlt,hLl,ap,hx,ar,ItemD.dat])|(with_reducible first|apply aj|(apply O;clear O U)|refine kN kY fun K hK=>?_|refine kO fun K hK=>?_|refine aI ?_)|apply iB)
   all_goals first
    |(exfalso;omega)
    |skip
   refine jV (e:=x.dat) (ds:=[.bool (decide ((l.length:Int)≤2 * (k:Int)))]) rfl (ae _ _ G4) rfl rfl (by rw [ap,hx];rfl) rfl rfl rfl rfl (by simp [ItemD.dat];decide) ?_
   have bf:(List.map ItemD.dat L).set k (bC x.dat 2 [.bool (decide ((l.length:Int)≤2 * (k:Int)))]) = List.map ItemD.dat (L.set k ⟨x.names,x.marks,decide ((l.length:Int)≤2 * (k:Int))⟩):=by rw [List.map_set];rfl
   rw [bf]
   have hL2:=hL.set hx (decide ((l.length:Int)≤2 * (k:Int)))
   have hl2:=hL2.1
   generalize L.set k ⟨x.names,x.marks,decide ((l.length:Int)≤2 * (k:Int))⟩ = L2 at *
   repeat' (first|((with_reducible first|(apply hK;clear hK K)|refine ah fun U O=>?_|apply ag|(apply Z<;>(intro hc;try simp at hc;try omega)))<;>try simp only [go_sem])|(with_reducible first|apply aj|(apply O;clear O U)|refine kN kY fun K hK=>?_|refine kO fun K hK=>?_|refine aI ?_)|apply iB)
   exact ⟨(k + 1,L2),⟨by simp only;omega,hL2⟩,by simp only;omega,(an [] (by simp [lk,ab,hl2]<;>omega))⟩
  ·repeat' (first|((with_reducible first|(apply hK;clear hK K)|refine ah fun U O=>?_|apply ag|(apply Z<;>(intro hc;try simp at hc;try omega)))<;>try simp only [go_sem,hlt])|(with_reducible first|apply aj|(apply O;clear O U)|refine kN kY fun K hK=>?_|refine kO fun K hK=>?_|refine aI ?_)|apply iB)
   refine ak rfl (by simp only [ao,bj,bn,ab,lk,ao,aK,List.length_append,List.length_take,if_true,if_false,Nat.reduceEqDiff,Nat.reduceBEq,Bool.false_eq_true,Option.some.injEq];rfl) (by simp [am,lk]) ?_
   exact ⟨L,hL,rfl⟩
end Go.Proofs.YtphakidbddamfaaGreat
set_option linter.unusedSimpArgs false
set_option linter.unusedVariables false
set_option maxHeartbeats 2000000
set_option maxRecDepth 100000
namespace Go.Proofs.YtphakidbddamfaaGreat
open Go.RowKit
def qH (rs:List RV):Prop:=∃ b:Bool,rs = [.d (.bool b)]
theorem ItsOk.names {l:List ItemD} (h:ItsOk l) {i:Nat} {x:ItemD} (hx:l[i]? = some x):1≤x.names.length∧x.names.length≤3:=by
 obtain ⟨_,h4,h5,h6,_⟩:=h.at_ hx
 omega
theorem tf (l:List ItemD) (hn:l.length≤1000) (hs:∀ r ∈ l,ItFit 1048576 r):FnOK Tryz.prog 246 [.d (.lst 3 (l.map ItemD.dat))] qH:=by
 refine aN ae Tryz.func246 rfl rfl ?_;simp only [Tryz.ntmps246,aP,aK,Nat.reduceAdd,Nat.reduceSub,aV]
 repeat' (first|((with_reducible first|(apply hK;clear hK K)|refine ah fun U O=>?_|apply ag|(apply Z<;>(intro hc;try simp at hc;try omega)))<;>try simp only [go_sem])|(with_reducible first|apply aj|(apply O;clear O U)|refine kN pl fun K hK=>?_|refine kO fun K hK=>?_|refine aI ?_)|apply iB)
 refine aA [2,4,7,8,9,10,11,12,13,14,15] (fun k:Nat=>[(7,.d (.int .i64 (k:Int)))]) (fun k:Nat=>[]) 0 (fun k:Nat=>k≤l.length) (fun k:Nat=>l.length - k) 0 (Nat.zero_le _) (an [] (by simp [lk,ab]<;>omega)) ?_
 intro k hk
 simp only [bc,wipe,wl,bb,bx,rm,if_true,if_false,Nat.reduceEqDiff,Bool.false_eq_true,reduceCtorEq]
 by_cases hlt:k < l.length
 ·have hx:=List.getElem?_eq_getElem hlt
  generalize l[k] = x at hx
  obtain ⟨f1,f2,f3⟩:=hs x (List.mem_of_getElem? hx)
  have ha:=eD x.marks 0 0 (by omega)
  generalize bP (cB 0 0 x.marks) = b at ha
  cases b
  ·repeat' (first|((with_reducible first|(apply hK;clear hK K)|refine ah fun U O=>?_|apply ag|(apply Z<;>(intro hc;try simp at hc;try omega)))<;>try simp only [go_sem,ap,hx,ar,ItemD.dat])|(with_reducible first|apply aj|(apply O;clear O U)|refine kN pl fun K hK=>?_|refine kO fun K hK=>?_|refine aI ?_)|((with_reducible apply CallK.eq);(· with_reducible first|exact ha);(· simp [RV.flat,D.sc,aa]);try simp only [go_sem,ap,hx,ar,ItemD.dat])|apply iB)
   all_goals first
    |(exfalso;omega)
    |(refine ak rfl rfl (by simp [am,lk]) ?_;exact ⟨_,rfl⟩)
  ·repeat' (first|((with_reducible first|(apply hK;clear hK K)|refine ah fun U O=>?_|apply ag|(apply Z<;>(intro hc;try simp at hc;try omega)))<;>try simp only [go_sem,ap,hx,ar,ItemD.dat])|(with_reducible first|apply aj|(apply O;clear O U)|refine kN pl fun K hK=>?_|refine kO fun K hK=>?_|refine aI ?_)|((with_reducible apply CallK.eq);(· with_reducible first|exact ha);(· simp [RV.flat,D.sc,aa]);try simp only [go_sem,ap,hx,ar,ItemD.dat])|apply iB)
   all_goals first
    |(exfalso;omega)
    |exact ⟨k + 1,by omega,by omega,(an [] (by simp [lk,ab]<;>omega))⟩
 ·repeat' (first|((with_reducible first|(apply hK;clear hK K)|refine ah fun U O=>?_|apply ag|(apply Z<;>(intro hc;try simp at hc;try omega)))<;>try simp only [go_sem])|(with_reducible first|apply aj|(apply O;clear O U)|refine kN pl fun K hK=>?_|refine kO fun K hK=>?_|refine aI ?_)|apply iB)
  refine ak rfl rfl (by simp [am,lk]) ?_;exact ⟨_,rfl⟩
theorem oQ (l:List ItemD) (hn:l.length≤1000):FnOK Tryz.prog 247 [.d (.lst 3 (l.map ItemD.dat))] (fun rs=>∃ a b:Nat,rs = [.d (.int .i64 a),.d (.int .i64 b)]):=by
 refine aN ae Tryz.func247 rfl rfl ?_;simp only [Tryz.ntmps247,aP,aK,Nat.reduceAdd,Nat.reduceSub,aV]
 repeat' (first|((with_reducible first|(apply hK;clear hK K)|refine ah fun U O=>?_|apply ag|(apply Z<;>(intro hc;try simp at hc;try omega)))<;>try simp only [go_sem])|(with_reducible first|apply aj|(apply O;clear O U)|refine kN mi fun K hK=>?_|refine kO fun K hK=>?_|refine aI ?_)|apply iB)
 refine aA [2,3,4,5,7,10,11,12,13,14,15,16,17,18,19,20,21,22,23,24,25,26] (fun q:Nat × Nat × Nat=>[(10,.d (.int .i64 (q.1:Int))),(4,.d (.int .i64 (q.2.1:Int))),(5,.d (.int .i64 (q.2.2:Int)))]) (fun _=>[]) 0 (fun q=>q.1≤l.length∧q.2.1≤q.1∧q.2.2≤q.1) (fun q=>l.length - q.1) (0,0,0) ⟨by simp,by simp,by simp⟩ (an [] (by simp [lk,ab]<;>omega)) ?_
 rintro ⟨k,a,b⟩ ⟨hk,ha,hb⟩
 simp only [bc,wipe,wl,bb,bx,rm,if_true,if_false,Nat.reduceEqDiff,Bool.false_eq_true,reduceCtorEq]
 simp only at hk ha hb
 by_cases hlt:k < l.length
 ·have hx:=List.getElem?_eq_getElem hlt
  generalize l[k] = x at hx
  by_cases h1:(1:Int) < (x.names.length:Int)
  ·by_cases h2:(2:Int) < (x.names.length:Int)
   ·repeat' (first|((with_reducible first|(apply hK;clear hK K)|refine ah fun U O=>?_|apply ag|(apply Z<;>(intro hc;try simp at hc;try omega)))<;>try simp only [go_sem,hlt,h1,h2,ap,hx,ar,ItemD.dat,ao])|(with_reducible first|apply aj|(apply O;clear O U)|refine kN mi fun K hK=>?_|refine kO fun K hK=>?_|refine aI ?_)|apply iB)
    all_goals first
     |(exfalso;omega)
     |exact ⟨(k + 1,a + 1,b + 1),⟨by simp only;omega,by simp only;omega,by simp only;omega⟩,by simp only;omega,(an [] (by simp [lk,ab]<;>omega))⟩
   ·repeat' (first|((with_reducible first|(apply hK;clear hK K)|refine ah fun U O=>?_|apply ag|(apply Z<;>(intro hc;try simp at hc;try omega)))<;>try simp only [go_sem,hlt,h1,h2,ap,hx,ar,ItemD.dat,ao])|(with_reducible first|apply aj|(apply O;clear O U)|refine kN mi fun K hK=>?_|refine kO fun K hK=>?_|refine aI ?_)|apply iB)
    all_goals first
     |(exfalso;omega)
     |exact ⟨(k + 1,a + 1,b),⟨by simp only;omega,by simp only;omega,by simp only;omega⟩,by simp only;omega,(an [] (by simp [lk,ab]<;>omega))⟩
  ·have h2:¬ (2:Int) < (x.names.length:Int):=by omega
   repeat' (first|((with_reducible first|(apply hK;clear hK K)|refine ah fun U O=>?_|apply ag|(apply Z<;>(intro hc;try simp at hc;try omega)))<;>try simp only [go_sem,hlt,h1,h2,ap,hx,ar,ItemD.dat,ao])|(with_reducible first|apply aj|(apply O;clear O U)|refine kN mi fun K hK=>?_|refine kO fun K hK=>?_|refine aI ?_)|apply iB)
   all_goals first
    |(exfalso;omega)
    |exact ⟨(k + 1,a,b),⟨by simp only;omega,by simp only;omega,by simp only;omega⟩,by simp only;omega,(an [] (by simp [lk,ab]<;>omega))⟩
 ·repeat' (first|((with_reducible first|(apply hK;clear hK K)|refine ah fun U O=>?_|apply ag|(apply Z<;>(intro hc;try simp at hc;try omega)))<;>try simp only [go_sem,hlt])|(with_reducible first|apply aj|(apply O;clear O U)|refine kN mi fun K hK=>?_|refine kO fun K hK=>?_|refine aI ?_)|apply iB)
  refine ak rfl rfl (by simp [am,lk]) ?_;exact ⟨_,_,rfl⟩
theorem uF (l:List ItemD) (hn:l.length≤1000):FnOK Tryz.prog 249 [.d (.lst 3 (l.map ItemD.dat))] qH:=by
 refine aN ae Tryz.func249 rfl rfl ?_;simp only [Tryz.ntmps249,aP,aK,Nat.reduceAdd,Nat.reduceSub,aV]
 repeat' (first|((with_reducible first|(apply hK;clear hK K)|refine ah fun U O=>?_|apply ag|(apply Z<;>(intro hc;try simp at hc;try omega)))<;>try simp only [go_sem])|(with_reducible first|apply aj|(apply O;clear O U)|refine kN tw fun K hK=>?_|refine kO fun K hK=>?_|refine aI ?_)|apply iB)
 refine aA [2,3,4,7,8,9,10,11,12,13,14,15,16,17,18,19,20] (fun k:Nat=>[(7,.d (.int .i64 (k:Int)))]) (fun k:Nat=>[]) 0 (fun k:Nat=>k≤l.length) (fun k:Nat=>l.length - k) 0 (Nat.zero_le _) (an [] (by simp [lk,ab]<;>omega)) ?_
 intro k hk
 simp only [bc,wipe,wl,bb,bx,rm,if_true,if_false,Nat.reduceEqDiff,Bool.false_eq_true,reduceCtorEq]
 by_cases hlt:k < l.length
 ·have hx:=List.getElem?_eq_getElem hlt
  generalize l[k] = x at hx
  repeat' (first|((with_reducible first|(apply hK;clear hK K)|refine ah fun U O=>?_|apply ag|(apply Z<;>(intro hc;try simp at hc;try omega)))<;>try simp only [go_sem,hlt,ap,hx,ar,ItemD.dat])|(with_reducible first|apply aj|(apply O;clear O U)|refine kN tw fun K hK=>?_|refine kO fun K hK=>?_|refine aI ?_)|apply iB)
  all_goals first
   |(exfalso;omega)
   |(refine ak rfl rfl (by simp [am,lk]) ?_;exact ⟨_,rfl⟩)
   |exact ⟨k + 1,by omega,by omega,(an [] (by simp [lk,ab]<;>omega))⟩
 ·repeat' (first|((with_reducible first|(apply hK;clear hK K)|refine ah fun U O=>?_|apply ag|(apply Z<;>(intro hc;try simp at hc;try omega)))<;>try simp only [go_sem,hlt])|(with_reducible first|apply aj|(apply O;clear O U)|refine kN tw fun K hK=>?_|refine kO fun K hK=>?_|refine aI ?_)|apply iB)
  refine ak rfl rfl (by simp [am,lk]) ?_;exact ⟨_,rfl⟩
theorem mq (l:List ItemD) (nm:ByteArray) (hn:l.length≤1000) (hs:∀ (i:Nat) (x:ItemD),l[i]? = some x→x.names.length≤1000):FnOK Tryz.prog 263 [.d (.lst 3 (l.map ItemD.dat)),.d (.str nm)] (fun rs=>∃ a b:Nat,rs = [.d (.int .i64 a),.d (.int .i64 b)]):=by
 refine aN ae Tryz.func263 rfl rfl ?_;simp only [Tryz.ntmps263,aP,aK,Nat.reduceAdd,Nat.reduceSub,aV]
 repeat' (first|((with_reducible first|(apply hK;clear hK K)|refine ah fun U O=>?_|apply ag|(apply Z<;>(intro hc;try simp at hc;try omega)))<;>try simp only [go_sem])|(with_reducible first|apply aj|(apply O;clear O U)|refine kN jE fun K hK=>?_|refine kO fun K hK=>?_|refine aI ?_)|apply iB)
 refine aA [4,5,6,7,9,11,14,15,16,17,18,19,20,21,22,23,24,25,26,27,28,29,30,31,32,33,34,35,36,37] (fun q:Nat × Nat × Nat=>[(14,.d (.int .i64 (q.1:Int))),(6,.d (.int .i64 (q.2.1:Int))),(7,.d (.int .i64 (q.2.2:Int)))]) (fun _=>[]) 0 (fun q=>q.1≤l.length∧q.2.1≤1000 * q.1∧q.2.2≤1000 * q.1) (fun q=>l.length - q.1) (0,0,0) ⟨by simp,by simp,by simp⟩ (an [] (by simp [lk,ab]<;>omega)) ?_
 rintro ⟨k,a,b⟩ ⟨hk,ha,hb⟩
 simp only [bc,wipe,wl,bb,bx,rm,if_true,if_false,Nat.reduceEqDiff,Bool.false_eq_true,reduceCtorEq]
 simp only at hk ha hb
 by_cases hlt:k < l.length
 ·have hx:=List.getElem?_eq_getElem hlt
  generalize l[k] = x at hx
  have hxn:=hs k x hx
  repeat' (first|((with_reducible first|(apply hK;clear hK K)|refine ah fun U O=>?_|apply ag|(apply Z<;>(intro hc;try simp at hc;try omega)))<;>try simp only [go_sem,hlt,ap,hx,ar,ItemD.dat])|(with_reducible first|apply aj|(apply O;clear O U)|refine kN jE fun K hK=>?_|refine kO fun K hK=>?_|refine aI ?_)|apply iB)
  refine aA [4,5,6,7,11,21,22,23,24,25,26,27,28,29,30,31,32,33,34,35,36] (fun q:Nat × Nat × Nat=>[(21,.d (.int .i64 (q.1:Int))),(6,.d (.int .i64 (q.2.1:Int))),(7,.d (.int .i64 (q.2.2:Int))),(9,.bptr 0 0)]) (fun _=>[(0,.box 143 [.d (.lst 1 (x.names.map aX)),.d (.lst 1 (x.marks.map aa)),.d (.bool x.late)])]) 1 (fun q=>q.1≤x.names.length∧q.2.1≤1000 * k + q.1∧q.2.2≤1000 * k + q.1) (fun q=>x.names.length - q.1) (0,a,b) ⟨by simp,by simp;omega,by simp;omega⟩ (an [] (by simp [lk,ab]<;>omega)) ?_
  rintro ⟨j,c,d⟩ ⟨hj,hc1,hd1⟩
  simp only [bc,wipe,wl,bb,bx,rm,if_true,if_false,Nat.reduceEqDiff,Bool.false_eq_true,reduceCtorEq]
  simp only at hj hc1 hd1
  by_cases hlt2:j < x.names.length
  ·have hy:=List.getElem?_eq_getElem hlt2
   generalize x.names[j] = y at hy
   by_cases he:y = nm
   ·by_cases h1:(1:Int) < (x.names.length:Int)
    ·repeat' (first|((with_reducible first|(apply hK;clear hK K)|refine ah fun U O=>?_|apply ag|(apply Z<;>(intro hc;try simp at hc;try omega)))<;>try simp only [go_sem,hlt2,he,h1,ap,hy,ar,aX,ao])|(with_reducible first|apply aj|(apply O;clear O U)|refine kN jE fun K hK=>?_|refine kO fun K hK=>?_|refine aI ?_)|apply iB)
     all_goals first
      |(exfalso;omega)
      |exact ⟨(j + 1,c + 1,d + 1),⟨by simp only;omega,by simp only;omega,by simp only;omega⟩,by simp only;omega,(an [] (by simp [lk,ab]<;>omega))⟩
    ·repeat' (first|((with_reducible first|(apply hK;clear hK K)|refine ah fun U O=>?_|apply ag|(apply Z<;>(intro hc;try simp at hc;try omega)))<;>try simp only [go_sem,hlt2,he,h1,ap,hy,ar,aX,ao])|(with_reducible first|apply aj|(apply O;clear O U)|refine kN jE fun K hK=>?_|refine kO fun K hK=>?_|refine aI ?_)|apply iB)
     all_goals first
      |(exfalso;omega)
      |exact ⟨(j + 1,c + 1,d),⟨by simp only;omega,by simp only;omega,by simp only;omega⟩,by simp only;omega,(an [] (by simp [lk,ab]<;>omega))⟩
   ·repeat' (first|((with_reducible first|(apply hK;clear hK K)|refine ah fun U O=>?_|apply ag|(apply Z<;>(intro hc;try simp at hc;try omega)))<;>try simp only [go_sem,hlt2,he,ap,hy,ar,aX,ao])|(with_reducible first|apply aj|(apply O;clear O U)|refine kN jE fun K hK=>?_|refine kO fun K hK=>?_|refine aI ?_)|apply iB)
    all_goals first
     |(exfalso;omega)
     |exact ⟨(j + 1,c,d),⟨by simp only;omega,by simp only;omega,by simp only;omega⟩,by simp only;omega,(an [] (by simp [lk,ab]<;>omega))⟩
  ·repeat' (first|((with_reducible first|(apply hK;clear hK K)|refine ah fun U O=>?_|apply ag|(apply Z<;>(intro hc;try simp at hc;try omega)))<;>try simp only [go_sem,hlt2])|(with_reducible first|apply aj|(apply O;clear O U)|refine kN jE fun K hK=>?_|refine kO fun K hK=>?_|refine aI ?_)|apply iB)
   exact ⟨(k + 1,c,d),⟨by simp only;omega,by simp only;omega,by simp only;omega⟩,by simp only;omega,(an [] (by simp [lk,ab]<;>omega))⟩
 ·repeat' (first|((with_reducible first|(apply hK;clear hK K)|refine ah fun U O=>?_|apply ag|(apply Z<;>(intro hc;try simp at hc;try omega)))<;>try simp only [go_sem,hlt])|(with_reducible first|apply aj|(apply O;clear O U)|refine kN jE fun K hK=>?_|refine kO fun K hK=>?_|refine aI ?_)|apply iB)
  refine ak rfl rfl (by simp [am,lk]) ?_;exact ⟨_,_,rfl⟩
end Go.Proofs.YtphakidbddamfaaGreat
