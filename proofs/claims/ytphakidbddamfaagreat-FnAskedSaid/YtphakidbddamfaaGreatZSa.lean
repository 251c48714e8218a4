/-
  Numbers put in order, the greatest first; the greatest and the least of them: plain words. No program is named here.
-/
import Derived.Test.YtphakidbddamfaaGreatZTkg
namespace Go.Proofs.YtphakidbddamfaaGreat
open Go.RowKit
def dw (n:Int):List Int→List Int
 |[]=>[n]
 |x::r=>if x < n then n::x::r else x::dw n r
def cQ (xs:List Int):List Int:=xs.foldl (fun acc n=>dw n acc) []
theorem tR {xs:List Int} {k:Nat} {x:Int} (h:xs[k]? = some x):cQ (xs.take (k + 1)) = dw x (cQ (xs.take k)):=by
 unfold cQ;rw [bW h,List.foldl_append];rfl
theorem iq (n:Int):∀ l:List Int,(dw n l).Perm (n::l)
 |[]=>List.Perm.refl _
 |x::r=>by
  unfold dw
  split
  ·exact List.Perm.refl _
  ·exact ((iq n r).cons x).trans (List.Perm.swap n x r)
theorem i2 (n:Int):∀ l:List Int,l.Pairwise (· ≥ ·)→(dw n l).Pairwise (· ≥ ·)
 |[],_=>by simp [dw]
 |x::r,h=>by
  unfold dw
  have h1:=List.pairwise_cons.1 h
  split
  ·rename_i hx
   refine List.pairwise_cons.2 ⟨fun y hy=>?_,h⟩
   rcases List.mem_cons.1 hy with rfl|hy
   ·omega
   ·have:=h1.1 y hy;omega
  ·rename_i hx
   refine List.pairwise_cons.2 ⟨fun y hy=>?_,i2 n r h1.2⟩
   rcases List.mem_cons.1 ((iq n r).mem_iff.1 hy) with rfl|hy
   ·omega
   ·exact h1.1 y hy
theorem si:∀ (xs acc:List Int),acc.Pairwise (· ≥ ·)→(xs.foldl (fun acc n=>dw n acc) acc).Pairwise (· ≥ ·)∧(xs.foldl (fun acc n=>dw n acc) acc).Perm (acc++xs)
 |[],acc,h=>⟨h,by simp⟩
 |x::xs,acc,h=>by
  obtain ⟨h1,h2⟩:=si xs (dw x acc) (i2 x acc h)
  refine ⟨h1,h2.trans ?_⟩
  have h3:(dw x acc++xs).Perm ((x::acc)++xs):=(iq x acc).append_right xs
  exact h3.trans (by simpa using (List.perm_middle (a:=x) (l₁:=acc) (l₂:=xs)).symm)
theorem ik (xs:List Int):(cQ xs).Pairwise (· ≥ ·):=(si xs [] (by simp)).1
theorem fX (xs:List Int):(cQ xs).Perm xs:=by have h:=(si xs [] (by simp)).2;rwa [List.nil_append] at h
theorem gw (xs:List Int):(cQ xs).length = xs.length:=(fX xs).length_eq
theorem mw (n:Int):∀ (l:List Int) (k:Nat),l.Pairwise (· ≥ ·)→k≤l.length→(∀ j x,k≤j→l[j]? = some x→x < n)→(∀ x,0 < k→l[k - 1]? = some x→n≤x)→l.take k++n::l.drop k = dw n l
 |[],k,_,hk,_,_=>by
  have:k = 0:=by simpa using hk
  subst this
  rfl
 |y::r,0,_,_,h1,_=>by
  have:=h1 0 y (by omega) rfl
  simp [dw,this]
 |y::r,k + 1,hs,hk,h1,h2=>by
  have hp:=List.pairwise_cons.1 hs
  have hy:n≤y:=by
   rcases Nat.eq_zero_or_pos k with h0|h0
   ·subst h0
    exact h2 y (by omega) rfl
   ·have hkr:k - 1 < r.length:=by simp at hk;omega
    have h3:=h2 r[k - 1] (by omega) (by rw [show k + 1 - 1 = (k - 1) + 1 by omega,List.getElem?_cons_succ,List.getElem?_eq_getElem hkr])
    have:=hp.1 r[k - 1] (List.getElem_mem hkr)
    omega
  have ih:=mw n r k hp.2 (by simpa using hk) (fun j x hj hx=>h1 (j + 1) x (by omega) (by simpa using hx)) (fun x h0 hx=>h2 x (by omega) (by rw [show k + 1 - 1 = (k - 1) + 1 by omega,List.getElem?_cons_succ];exact hx))
  simp only [List.take_succ_cons,List.drop_succ_cons,List.cons_append,ih,dw,if_neg (show ¬ y < n by omega)]
def AllLess (l:List Int) (m:Nat) (n:Int):Prop:=∀ (j:Nat) (x:Int),m≤j→l[j]? = some x→x < n
theorem AllLess.start (l:List Int) (n:Int):AllLess l l.length n:=fun j x hj hx=>by
 have:=(List.getElem?_eq_some_iff.1 hx).1;omega
theorem AllLess.next {l:List Int} {m:Nat} {n y:Int} (h:AllLess l m n) (hy:l[m - 1]? = some y) (hn:y < n):AllLess l (m - 1) n:=by
 intro j x hj hx
 by_cases e:j = m - 1
 ·subst e
  rw [hy] at hx
  cases hx
  exact hn
 ·exact h j x (by omega) hx
theorem sY:cQ [] = []:=rfl
theorem kc:∀ (l:List Int) (a:Int),a≤l.foldl max a∧(∀ x ∈ l,x≤l.foldl max a)∧(l.foldl max a = a∨l.foldl max a ∈ l)
 |[],a=>⟨Int.le_refl _,by simp,.inl rfl⟩
 |x::l,a=>by
  obtain ⟨h1,h2,h3⟩:=kc l (max a x)
  refine ⟨by rw [List.foldl_cons];omega,fun y hy=>?_,?_⟩
  ·rw [List.foldl_cons]
   rcases List.mem_cons.1 hy with rfl|hy
   ·omega
   ·exact h2 y hy
  ·rw [List.foldl_cons]
   rcases h3 with h3|h3
   ·rw [h3]
    by_cases e:a≤x
    ·exact .inr (by rw [show max a x = x by omega];simp)
    ·exact .inl (by omega)
   ·exact .inr (List.mem_cons_of_mem _ h3)
theorem ku:∀ (l:List Int) (a:Int),l.foldl min a≤a∧(∀ x ∈ l,l.foldl min a≤x)∧(l.foldl min a = a∨l.foldl min a ∈ l)
 |[],a=>⟨Int.le_refl _,by simp,.inl rfl⟩
 |x::l,a=>by
  obtain ⟨h1,h2,h3⟩:=ku l (min a x)
  refine ⟨by rw [List.foldl_cons];omega,fun y hy=>?_,?_⟩
  ·rw [List.foldl_cons]
   rcases List.mem_cons.1 hy with rfl|hy
   ·omega
   ·exact h2 y hy
  ·rw [List.foldl_cons]
   rcases h3 with h3|h3
   ·rw [h3]
    by_cases e:x≤a
    ·exact .inr (by rw [show min a x = x by omega];simp)
    ·exact .inl (by omega)
   ·exact .inr (List.mem_cons_of_mem _ h3)
theorem wA {xs:List Int} (h0:0 < xs.length):ey xs ∈ xs∧∀ x ∈ xs,x≤ey xs:=by
 cases xs with
 |nil=>simp at h0
 |cons a l=>
  obtain ⟨h1,h2,h3⟩:=kc l a
  have e:ey (a::l) = l.foldl max a:=rfl
  rw [e]
  refine ⟨?_,fun x hx=>?_⟩
  ·rcases h3 with h3|h3
   ·rw [h3];simp
   ·exact List.mem_cons_of_mem _ h3
  ·rcases List.mem_cons.1 hx with rfl|hx
   ·exact h1
   ·exact h2 x hx
theorem ww {xs:List Int} (h0:0 < xs.length):eL xs ∈ xs∧∀ x ∈ xs,eL xs≤x:=by
 cases xs with
 |nil=>simp at h0
 |cons a l=>
  obtain ⟨h1,h2,h3⟩:=ku l a
  have e:eL (a::l) = l.foldl min a:=rfl
  rw [e]
  refine ⟨?_,fun x hx=>?_⟩
  ·rcases h3 with h3|h3
   ·rw [h3];simp
   ·exact List.mem_cons_of_mem _ h3
  ·rcases List.mem_cons.1 hx with rfl|hx
   ·exact h1
   ·exact h2 x hx
theorem s8 {xs:List Int} (h0:0 < xs.length):(cQ xs)[0]? = some (ey xs):=by
 have hl:=gw xs
 have hx:=List.getElem?_eq_getElem (show 0 < (cQ xs).length by omega)
 have hm:=wA h0
 rw [hx]
 congr 1
 have h1:(cQ xs)[0] ∈ xs:=(fX xs).mem_iff.1 (List.getElem_mem _)
 have h2:=hm.2 _ h1
 have h3:=(fX xs).mem_iff.2 hm.1
 obtain ⟨i,hi,he⟩:=List.getElem_of_mem h3
 rcases Nat.eq_zero_or_pos i with e|e
 ·subst e;exact he
 ·have h4:=List.pairwise_iff_getElem.1 (ik xs) 0 i (by omega) hi e
  omega
theorem sG {xs:List Int} (h0:0 < xs.length):(cQ xs)[xs.length - 1]? = some (eL xs):=by
 have hl:=gw xs
 have hx:=List.getElem?_eq_getElem (show xs.length - 1 < (cQ xs).length by omega)
 have hm:=ww h0
 rw [hx]
 congr 1
 have h1:(cQ xs)[xs.length - 1] ∈ xs:=(fX xs).mem_iff.1 (List.getElem_mem _)
 have h2:=hm.2 _ h1
 have h3:=(fX xs).mem_iff.2 hm.1
 obtain ⟨i,hi,he⟩:=List.getElem_of_mem h3
 by_cases e:i = xs.length - 1
 ·subst e;exact he
 ·have h4:=List.pairwise_iff_getElem.1 (ik xs) i (xs.length - 1) hi (by omega) (by omega)
  omega
theorem vv (xs:List Int):ey (xs.take 1) = xs.headD 0:=by cases xs<;>rfl
theorem vC (xs:List Int):eL (xs.take 1) = xs.headD 0:=by cases xs<;>rfl
theorem t_ {xs:List Int} {k:Nat} {x:Int} (h0:0 < k) (hx:xs[k]? = some x):ey (xs.take (k + 1)) = max (ey (xs.take k)) x:=by
 rw [bW hx]
 cases xs with
 |nil=>simp at hx
 |cons a l=>
  obtain ⟨m,rfl⟩:∃ m,k = m + 1:=⟨k - 1,by omega⟩
  simp [ey,List.foldl_append]
theorem uC {xs:List Int} {k:Nat} {x:Int} (h0:0 < k) (hx:xs[k]? = some x):eL (xs.take (k + 1)) = min (eL (xs.take k)) x:=by
 rw [bW hx]
 cases xs with
 |nil=>simp at hx
 |cons a l=>
  obtain ⟨m,rfl⟩:∃ m,k = m + 1:=⟨k - 1,by omega⟩
  simp [eL,List.foldl_append]
end Go.Proofs.YtphakidbddamfaaGreat
set_option linter.unusedSimpArgs false
set_option linter.unusedVariables false
set_option maxHeartbeats 2000000
set_option maxRecDepth 100000
namespace Go.Proofs.YtphakidbddamfaaGreat
open Go.RowKit
theorem cO {A:Int} {xs:List Int} (hA:A≤1000000000) (h0:0≤A) (h:∀ x ∈ xs,-A≤x∧x≤A) (hn:xs.length≤1048576) (k:Nat):-1048576000000000≤(xs.take k).sum∧(xs.take k).sum≤1048576000000000:=by
 have h1:=i4 (l:=xs.take k) fun x hx=>h x (List.mem_of_mem_take hx)
 have h2:(xs.take k).length≤1048576:=by simp;omega
 have h3:=fY (a:=A) (b:=((xs.take k).length:Int)) (A:=1000000000) (B:=1048576) h0 hA (by omega) (by omega)
 omega
theorem qX (a b:Int) (h1:-1000000000000≤a) (h2:a≤1000000000000) (hb:0 < b):FnEq Tryz.prog 218 [.d (.int .i64 a),.d (.int .i64 b)] [.d (.int .i64 (oo a b))]:=by
 have hq:=d6 a b 1000000000000 h1 h2
 have hm:=nz (b:=b) h1 h2
 have e:oo a b = if a.tmod b < 0 then a.tdiv b - 1 else a.tdiv b:=rfl
 refine aO aa Tryz.func218 rfl rfl ?_;simp only [Tryz.ntmps218,aR,aM,Nat.reduceAdd,Nat.reduceSub,aW]
 by_cases hneg:a.tmod b < 0
 ·rw [if_pos hneg] at e
  generalize hq0:a.tdiv b = q at hq e
  generalize hm0:a.tmod b = m at hm hneg
  repeat' (first|((with_reducible first|(refine hK _ ?_;clear hK K)|refine aj fun U O=>?_|apply ah|(apply Z<;>(intro hc;try simp at hc;try omega)))<;>try simp only [go_sem,hq0,hm0])|(with_reducible first|apply ag|(refine O _ ?_;clear O U)|refine kN vR fun K hK=>?_|refine kO fun K hK=>?_|refine aI ?_)|fail)
  all_goals first
   |(exfalso;omega)
   |(refine ak rfl rfl (by simp [am,lk]) ?_;rw [e])
 ·rw [if_neg hneg] at e
  generalize hq0:a.tdiv b = q at hq e
  generalize hm0:a.tmod b = m at hm hneg
  repeat' (first|((with_reducible first|(refine hK _ ?_;clear hK K)|refine aj fun U O=>?_|apply ah|(apply Z<;>(intro hc;try simp at hc;try omega)))<;>try simp only [go_sem,hq0,hm0])|(with_reducible first|apply ag|(refine O _ ?_;clear O U)|refine kN vR fun K hK=>?_|refine kO fun K hK=>?_|refine aI ?_)|fail)
  all_goals first
   |(exfalso;omega)
   |(refine ak rfl rfl (by simp [am,lk]) ?_;rw [e])
theorem uU (a b:Int) (h1:-1000000000000≤a) (h2:a≤1000000000000) (hb:0 < b):FnEq Tryz.prog 215 [.d (.int .i64 a),.d (.int .i64 b)] [.d (.int .i64 (oo a b))]:=by
 have hq:=d6 a b 1000000000000 h1 h2
 have hm:=nz (b:=b) h1 h2
 have e:oo a b = if a.tmod b < 0 then a.tdiv b - 1 else a.tdiv b:=rfl
 refine aO aa Tryz.func215 rfl rfl ?_;simp only [Tryz.ntmps215,aR,aM,Nat.reduceAdd,Nat.reduceSub,aW]
 by_cases hneg:a.tmod b < 0
 ·rw [if_pos hneg] at e
  generalize hq0:a.tdiv b = q at hq e
  generalize hm0:a.tmod b = m at hm hneg
  repeat' (first|((with_reducible first|(refine hK _ ?_;clear hK K)|refine aj fun U O=>?_|apply ah|(apply Z<;>(intro hc;try simp at hc;try omega)))<;>try simp only [go_sem,hq0,hm0])|(with_reducible first|apply ag|(refine O _ ?_;clear O U)|refine kN wd fun K hK=>?_|refine kO fun K hK=>?_|refine aI ?_)|fail)
  all_goals first
   |(exfalso;omega)
   |(refine ak rfl rfl (by simp [am,lk]) ?_;rw [e])
 ·rw [if_neg hneg] at e
  generalize hq0:a.tdiv b = q at hq e
  generalize hm0:a.tmod b = m at hm hneg
  repeat' (first|((with_reducible first|(refine hK _ ?_;clear hK K)|refine aj fun U O=>?_|apply ah|(apply Z<;>(intro hc;try simp at hc;try omega)))<;>try simp only [go_sem,hq0,hm0])|(with_reducible first|apply ag|(refine O _ ?_;clear O U)|refine kN wd fun K hK=>?_|refine kO fun K hK=>?_|refine aI ?_)|fail)
  all_goals first
   |(exfalso;omega)
   |(refine ak rfl rfl (by simp [am,lk]) ?_;rw [e])
theorem gp (a b:Int) (h1:-100000000000≤a) (h2:a≤100000000000) (hb:0 < b) (hb2:b≤1000000):FnEq Tryz.prog 192 [.d (.int .i64 a),.d (.int .i64 b)] [.d (.int .i64 (dX a b))]:=by
 refine aO aa Tryz.func192 rfl rfl ?_;simp only [Tryz.ntmps192,aR,aM,Nat.reduceAdd,Nat.reduceSub,aW]
 repeat' (first|((with_reducible first|(refine hK _ ?_;clear hK K)|refine aj fun U O=>?_|apply ah|(apply Z<;>(intro hc;try simp at hc;try omega)))<;>try simp only [go_sem])|(with_reducible first|apply ag|(refine O _ ?_;clear O U)|refine kN yv fun K hK=>?_|refine kO fun K hK=>?_|refine aI ?_)|((with_reducible apply CallK.eq);(· with_reducible first|exact qX (2 * a + b) (2 * b) (by omega) (by omega) (by omega));(· simp [RV.flat,D.sc,ab]);try simp only [go_sem])|fail)
 all_goals first
  |(exfalso;omega)
  |(refine ak rfl rfl (by simp [am,lk]) ?_;rfl)
theorem gT (a b:Int) (h1:-100000000000≤a) (h2:a≤100000000000) (hb:0 < b) (hb2:b≤1000000):FnEq Tryz.prog 187 [.d (.int .i64 a),.d (.int .i64 b)] [.d (.int .i64 (dX a b))]:=by
 refine aO aa Tryz.func187 rfl rfl ?_;simp only [Tryz.ntmps187,aR,aM,Nat.reduceAdd,Nat.reduceSub,aW]
 repeat' (first|((with_reducible first|(refine hK _ ?_;clear hK K)|refine aj fun U O=>?_|apply ah|(apply Z<;>(intro hc;try simp at hc;try omega)))<;>try simp only [go_sem])|(with_reducible first|apply ag|(refine O _ ?_;clear O U)|refine kN ya fun K hK=>?_|refine kO fun K hK=>?_|refine aI ?_)|((with_reducible apply CallK.eq);(· with_reducible first|exact uU (2 * a + b) (2 * b) (by omega) (by omega) (by omega));(· simp [RV.flat,D.sc,ab]);try simp only [go_sem])|fail)
 all_goals first
  |(exfalso;omega)
  |(refine ak rfl rfl (by simp [am,lk]) ?_;rfl)
theorem gF (xs:List Int) (A:Int) (hA:A≤1000000000) (h0:0≤A) (h:∀ x ∈ xs,-A≤x∧x≤A) (hn:xs.length≤1048576):FnEq Tryz.prog 165 [.d (.lst 1 (xs.map ab))] [.d (.int .i64 xs.sum)]:=by
 refine aO aa Tryz.func165 rfl rfl ?_;simp only [Tryz.ntmps165,aR,aM,Nat.reduceAdd,Nat.reduceSub,aW]
 repeat' (first|((with_reducible first|(refine hK _ ?_;clear hK K)|refine aj fun U O=>?_|apply ah|(apply Z<;>(intro hc;try simp at hc;try omega)))<;>try simp only [go_sem])|(with_reducible first|apply ag|(refine O _ ?_;clear O U)|refine kN sm fun K hK=>?_|refine kO fun K hK=>?_|refine aI ?_)|apply iB)
 refine aD [2,3,5,8,9,10,11,12,13,14,15] (fun k:Nat=>[(8,.d (.int .i64 (k:Int))),(3,.d (.int .i64 (xs.take k).sum))]) (fun k:Nat=>[]) 0 (fun k:Nat=>k≤xs.length) (fun k:Nat=>xs.length - k) 0 (Nat.zero_le _) (ao [] (by simp [lk,ae,List.take_zero,List.sum_nil]<;>omega)) ?_
 intro k hk
 have hb1:=cO hA h0 h hn k
 have hb2:=cO hA h0 h hn (k + 1)
 simp only [bi,wipe,wl,bh,bw,rm,if_true,if_false,Nat.reduceEqDiff,Bool.false_eq_true,reduceCtorEq]
 by_cases hlt:k < xs.length
 ·have hx:=List.getElem?_eq_getElem hlt
  generalize xs[k] = x at hx
  have hs:=gc hx
  repeat' (first|((with_reducible first|(refine hK _ ?_;clear hK K)|refine aj fun U O=>?_|apply ah|(apply Z<;>(intro hc;try simp at hc;try omega)))<;>try simp only [go_sem,ap,hx,aq,ab])|(with_reducible first|apply ag|(refine O _ ?_;clear O U)|refine kN sm fun K hK=>?_|refine kO fun K hK=>?_|refine aI ?_)|apply iB)
  all_goals first
   |(exfalso;omega)
   |exact ⟨k + 1,by omega,by omega,(ao [] (by simp [lk,ae,hs]<;>omega))⟩
 ·have e:xs.take k = xs:=List.take_of_length_le (by omega)
  rw [e]
  repeat' (first|((with_reducible first|(refine hK _ ?_;clear hK K)|refine aj fun U O=>?_|apply ah|(apply Z<;>(intro hc;try simp at hc;try omega)))<;>try simp only [go_sem])|(with_reducible first|apply ag|(refine O _ ?_;clear O U)|refine kN sm fun K hK=>?_|refine kO fun K hK=>?_|refine aI ?_)|apply iB)
  all_goals first
   |(exfalso;omega)
   |(refine ak rfl rfl (by simp [am,lk]) ?_;rfl)
theorem lJ (xs:List Int) (A:Int) (hA:A≤1000000000) (h0:0≤A) (h:∀ x ∈ xs,-A≤x∧x≤A) (hn:xs.length≤1048576):FnEq Tryz.prog 185 [.d (.lst 1 (xs.map ab))] [.d (.int .i64 xs.sum)]:=by
 refine aO aa Tryz.func185 rfl rfl ?_;simp only [Tryz.ntmps185,aR,aM,Nat.reduceAdd,Nat.reduceSub,aW]
 repeat' (first|((with_reducible first|(refine hK _ ?_;clear hK K)|refine aj fun U O=>?_|apply ah|(apply Z<;>(intro hc;try simp at hc;try omega)))<;>try simp only [go_sem])|(with_reducible first|apply ag|(refine O _ ?_;clear O U)|refine kN tE fun K hK=>?_|refine kO fun K hK=>?_|refine aI ?_)|apply iB)
 refine aD [2,3,5,8,9,10,11,12,13,14,15] (fun k:Nat=>[(8,.d (.int .i64 (k:Int))),(3,.d (.int .i64 (xs.take k).sum))]) (fun k:Nat=>[]) 0 (fun k:Nat=>k≤xs.length) (fun k:Nat=>xs.length - k) 0 (Nat.zero_le _) (ao [] (by simp [lk,ae,List.take_zero,List.sum_nil]<;>omega)) ?_
 intro k hk
 have hb1:=cO hA h0 h hn k
 have hb2:=cO hA h0 h hn (k + 1)
 simp only [bi,wipe,wl,bh,bw,rm,if_true,if_false,Nat.reduceEqDiff,Bool.false_eq_true,reduceCtorEq]
 by_cases hlt:k < xs.length
 ·have hx:=List.getElem?_eq_getElem hlt
  generalize xs[k] = x at hx
  have hs:=gc hx
  repeat' (first|((with_reducible first|(refine hK _ ?_;clear hK K)|refine aj fun U O=>?_|apply ah|(apply Z<;>(intro hc;try simp at hc;try omega)))<;>try simp only [go_sem,ap,hx,aq,ab])|(with_reducible first|apply ag|(refine O _ ?_;clear O U)|refine kN tE fun K hK=>?_|refine kO fun K hK=>?_|refine aI ?_)|apply iB)
  all_goals first
   |(exfalso;omega)
   |exact ⟨k + 1,by omega,by omega,(ao [] (by simp [lk,ae,hs]<;>omega))⟩
 ·have e:xs.take k = xs:=List.take_of_length_le (by omega)
  rw [e]
  repeat' (first|((with_reducible first|(refine hK _ ?_;clear hK K)|refine aj fun U O=>?_|apply ah|(apply Z<;>(intro hc;try simp at hc;try omega)))<;>try simp only [go_sem])|(with_reducible first|apply ag|(refine O _ ?_;clear O U)|refine kN tE fun K hK=>?_|refine kO fun K hK=>?_|refine aI ?_)|apply iB)
  all_goals first
   |(exfalso;omega)
   |(refine ak rfl rfl (by simp [am,lk]) ?_;rfl)
theorem ks (a b:Int):FnEq Tryz.prog 161 [.d (.int .i64 a),.d (.int .i64 b)] [.d (.int .i64 (max a b))]:=by
 refine aO aa Tryz.func161 rfl rfl ?_;simp only [Tryz.ntmps161,aR,aM,Nat.reduceAdd,Nat.reduceSub,aW]
 repeat' (first|((with_reducible first|(refine hK _ ?_;clear hK K)|refine aj fun U O=>?_|apply ah|(apply Z<;>(intro hc;try simp at hc;try omega)))<;>try simp only [go_sem])|(with_reducible first|apply ag|(refine O _ ?_;clear O U)|refine kN yj fun K hK=>?_|refine kO fun K hK=>?_|refine aI ?_)|fail)
 all_goals (refine ak rfl rfl (by simp [am,lk]) ?_;congr 3;omega)
theorem ff (a b:Int):FnEq Tryz.prog 175 [.d (.int .i64 a),.d (.int .i64 b)] [.d (.int .i64 (min a b))]:=by
 refine aO aa Tryz.func175 rfl rfl ?_;simp only [Tryz.ntmps175,aR,aM,Nat.reduceAdd,Nat.reduceSub,aW]
 repeat' (first|((with_reducible first|(refine hK _ ?_;clear hK K)|refine aj fun U O=>?_|apply ah|(apply Z<;>(intro hc;try simp at hc;try omega)))<;>try simp only [go_sem])|(with_reducible first|apply ag|(refine O _ ?_;clear O U)|refine kN yp fun K hK=>?_|refine kO fun K hK=>?_|refine aI ?_)|fail)
 all_goals (refine ak rfl rfl (by simp [am,lk]) ?_;congr 3;omega)
end Go.Proofs.YtphakidbddamfaaGreat
