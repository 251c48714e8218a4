/-
  The abstract machine: a row that owns its parts becomes an ordinary row whose cells are plain data. No program is named here.
-/
import Derived.Test.YtphakidbddamfaaGreatZOrd
import Derived.Test.YtphakidbddamfaaGreatZMz
import Derived.Test.YtphakidbddamfaaGreatZDa
import Derived.Test.YtphakidbddamfaaGreatZIn
import Derived.Test.YtphakidbddamfaaGreatZCd
import Derived.Test.YtphakidbddamfaaGreatZJa
namespace Go.Proofs.YtphakidbddamfaaGreat
open Go.RowKit
theorem Sim.shallow {X0:Nat→Prop} {w0:Base} {m:Mp} {s:AS} {a:Act} {w:World} (hs:Sim X0 w0 m s a w) {id:Nat} {ty:TypeId} {sz:Nat} {es:List (List D)} (hg:ae s.hp id = some (.deep 0 ty sz es)):∃ m',Sim X0 w0 m' ⟨s.fr,bj (eb s.hp [] id) id (.row ty sz es),s.nx⟩ a w:=by
 obtain ⟨l,hl,_⟩:=hs.hp id _ hg
 have hdp:=hs.dp id 0 ty sz es hg
 rw [hl] at hdp
 have hg2:ae (eb s.hp [] id) id = some (.deep 0 ty sz es):=gH hg (by simp) rfl
 refine ⟨bN m id l fun _=>False,hs.changeD (i:=id) (blk':=.row ty sz es) (F':=fun _=>False) (fun b=>(Blk.deep 0 ty sz es).has m id b) (.inr hl) (by rw [bq];simp [hg2]) (fun id' hne blk hb=>by rw [bq,if_neg hne] at hb;exact (fb hb).2) rfl (fun id' par k j hne ha'=>?_) (Nat.le_refl _) (hs.lt_nx hl) (KeepB.refl _ _) (fun _ _ _=>rfl) (fun b hb=>⟨id,_,hg,hb,.inl rfl⟩) (fun b hb=>?_) (fun p e=>by cases e) (fun p ty' sz' es' e=>by cases e) fun hst=>?_⟩
 ·rw [bq,if_neg hne] at ha'
  have h2:=(fb ha').2
  have h3:=(qB ha').2
  obtain ⟨q,ty',sz',es2,_,_,_,_,_,_,a1,_⟩:=hs.al id' par k j h2
  exact .inl ⟨h3,by rw [bq,if_neg h3,gH a1 (by simp) rfl,a1]⟩
 ·obtain ⟨c,hc⟩:=hb
  rw [bp] at hc
  have hb2:(Blk.deep 0 ty sz es).has m id b:=.inl ⟨c,by rw [hl];exact hc⟩
  have:=hs.own id _ b hg hb2
  exact ⟨this.1,this.2,.inr hb2⟩
 ·refine Blk.ok_of ?_
  have hno:∀ x,m.ft id x→¬ aU X0 (bN m id l fun _=>False) (bj (eb s.hp [] id) id (.row ty sz es)) x:=by
   intro x hx
   have how:=hs.own id _ x hg (.inr hx)
   rintro (h|⟨id',blk,h1,h2⟩)
   ·obtain ⟨h3,h4⟩:=hs.x0 x h
    rcases how.1 with h5|h5
    ·omega
    ·exact h4 h5
   ·by_cases e:id' = id
    ·subst e
     rw [bq] at h1
     simp [hg2] at h1
     subst h1
     obtain ⟨c,hc⟩:=h2
     rw [bp] at hc
     cases hc
     exact hdp.1 hx
    ·rw [bq,if_neg e] at h1
     exact e (hs.inj id' id blk _ x (fb h1).2 hg ((Blk.has_upd e).1 h2) (.inr hx))
  cases l with
  |nil=>exact hdp.1
  |blk b c=>
   obtain ⟨_,arr,h2,h3,h4,h5,h6,Fp,h7,_,h9⟩:=hdp
   exact ⟨arr,h2,h3,h4,h5,h6,fun k e j d v he hd hv=>(h9 k e j d v he hd hv).rd fun x hx=>hno x (h7 k j x hx)⟩
section
variable {P:Program} {s:AS} {id:Nat} {ty:TypeId} {sz:Nat} {es:List (List D)}
theorem gG {Q:Exit→AS→Prop} {c:Code} (id:Nat) (hg:ae s.hp id = some (.deep 0 ty sz es)) (h:PW P c Q ⟨s.fr,bj (eb s.hp [] id) id (.row ty sz es),s.nx⟩):PW P c Q s:=fun X0 w0 _ a w hs=>
 let ⟨m',h'⟩:=hs.shallow hg
 h X0 w0 m' a w h'
theorem fc {o:Oper} {K:AS→Prop} (id:Nat) (hg:ae s.hp id = some (.deep 0 ty sz es)) (h:PO P o ⟨s.fr,bj (eb s.hp [] id) id (.row ty sz es),s.nx⟩ K):PO P o s K:=fun X0 w0 _ a w Q hs=>
 let ⟨m',h'⟩:=hs.shallow hg
 h X0 w0 m' a w Q h'
end
end Go.Proofs.YtphakidbddamfaaGreat
set_option linter.unusedSimpArgs false
set_option linter.unusedVariables false
set_option maxHeartbeats 2000000
set_option maxRecDepth 100000
namespace Go.Proofs.YtphakidbddamfaaGreat
open Go.RowKit
def LikeI (l l':List ItemD):Prop:=l'.length = l.length∧∀ (i:Nat) (y:ItemD),l'[i]? = some y→∃ x,l[i]? = some x∧y.names = x.names∧y.marks = x.marks
theorem LikeI.refl (l:List ItemD):LikeI l l:=⟨rfl,fun _ y h=>⟨y,h,rfl,rfl⟩⟩
theorem LikeI.set {l l':List ItemD} (h:LikeI l l') {i:Nat} {x:ItemD} (hx:l'[i]? = some x) (b:Bool):LikeI l (l'.set i ⟨x.names,x.marks,b⟩):=by
 refine ⟨by rw [cl];exact h.1,fun j y hy=>?_⟩
 rw [List.getElem?_set] at hy
 split at hy
 ·rename_i e
  subst e
  split at hy
  ·cases hy
   obtain ⟨z,h1,h2,h3⟩:=h.2 i x hx
   exact ⟨z,h1,h2,h3⟩
  ·cases hy
 ·exact h.2 j y hy
theorem LikeI.fit {m:Nat} {l l':List ItemD} (h:LikeI l l') (hs:∀ r ∈ l,ItFit m r):∀ r ∈ l',ItFit m r:=by
 intro r hr
 obtain ⟨i,hi⟩:=List.getElem?_of_mem hr
 obtain ⟨x,h1,h2,h3⟩:=h.2 i r hi
 have:=hs x (List.mem_of_getElem? h1)
 unfold ItFit at *
 rw [h2,h3]
 exact this
theorem kn (l:List ItemD) (hn:l.length≤1048576) (hs:∀ r ∈ l,ItFit 1048576 r):FnOK Tryz.prog 201 [.d (.lst 3 (l.map ItemD.dat))] (fun rs=>∃ l',LikeI l l'∧rs = [.deep 143 3 (l'.map ItemD.dat)]):=by
 refine aO aa Tryz.func201 rfl rfl ?_;simp only [Tryz.ntmps201,aR,aM,Nat.reduceAdd,Nat.reduceSub,aW]
 have hi:=ir l hn hs
 by_cases h0:l.length = 0
 ·rw [show dO l = .row 143 3 [] from if_pos h0] at hi
  have hl:l = []:=List.length_eq_zero_iff.1 h0
  repeat' (first|((with_reducible first|(refine hK _ ?_;clear hK K)|refine aj fun U O=>?_|apply ah|(apply Z<;>(intro hc;try simp at hc;try omega)))<;>try simp only [go_sem,h0])|(with_reducible first|apply ag|(refine O _ ?_;clear O U)|refine kN kM fun K hK=>?_|refine kO fun K hK=>?_|refine aI ?_)|((with_reducible apply CallK.eq);(· with_reducible first|exact hi);(· simp [RV.flat,D.sc,ab]);try simp only [go_sem,h0])|apply iB)
  refine dP 1 rfl (by intro e he;cases he) ?_
  simp only [go_sem]
  refine aD [2,4,9,10,11,12,13,14,15,16,17,18,19,20,21] (fun k:Nat=>[(9,.d (.int .i64 (k:Int))),(3,.row 0 0)]) (fun k:Nat=>[(0,.deep 0 143 3 [])]) 1 (fun k:Nat=>k≤0) (fun k:Nat=>0 - k) 0 (Nat.zero_le _) (ao [] (by simp [lk,ae]<;>omega)) ?_
  intro k hk
  simp only [bi,wipe,wl,bh,bw,rm,if_true,if_false,Nat.reduceEqDiff,Bool.false_eq_true,reduceCtorEq]
  repeat' (first|((with_reducible first|(refine hK _ ?_;clear hK K)|refine aj fun U O=>?_|apply ah|(apply Z<;>(intro hc;try simp at hc;try omega)))<;>try simp only [go_sem])|(with_reducible first|apply ag|(refine O _ ?_;clear O U)|refine kN kM fun K hK=>?_|refine kO fun K hK=>?_|refine aI ?_)|apply iB)
  all_goals first
   |(exfalso;omega)
   |(refine ak rfl (by simp only [bl,bn,ae,lk,an,aM,List.length_append,List.length_take,if_true,if_false,Nat.reduceEqDiff,Nat.reduceBEq,Bool.false_eq_true,Option.some.injEq];rfl) (by simp [am,lk]) ?_;exact ⟨[],by rw [hl];exact .refl _,rfl⟩)
 ·rw [show dO l = .deep 143 3 (l.map ItemD.dat) from if_neg h0] at hi
  repeat' (first|((with_reducible first|(refine hK _ ?_;clear hK K)|refine aj fun U O=>?_|apply ah|(apply Z<;>(intro hc;try simp at hc;try omega)))<;>try simp only [go_sem,an])|(with_reducible first|apply ag|(refine O _ ?_;clear O U)|refine kN kM fun K hK=>?_|refine kO fun K hK=>?_|refine aI ?_)|((with_reducible apply CallK.eq);(· with_reducible first|exact hi);(· simp [RV.flat,D.sc,ab]);try simp only [go_sem,an])|apply iB)
  refine aD [2,4,9,10,11,12,13,14,15,16,17,18,19,20,21] (fun q:Nat × List ItemD=>[(9,.d (.int .i64 (q.1:Int))),(3,.row 0 q.2.length)]) (fun q=>[(0,.deep 0 143 3 (q.2.map ItemD.dat))]) 1 (fun q=>q.1≤l.length∧LikeI l q.2) (fun q=>l.length - q.1) (0,l) ⟨by simp,.refl l⟩ (ao [] (by simp [lk,ae]<;>omega)) ?_
  rintro ⟨k,L⟩ ⟨hk,hL⟩
  simp only [bi,wipe,wl,bh,bw,rm,if_true,if_false,Nat.reduceEqDiff,Bool.false_eq_true,reduceCtorEq]
  simp only at hk hL
  have hLl:=hL.1
  by_cases hlt:k < l.length
  ·obtain ⟨x,hx⟩:∃ x,L[k]? = some x:=⟨_,List.getElem?_eq_getElem (by omega)⟩
   repeat' (first|((with_reducible first|(refine hK _ ?_;clear hK K)|refine aj fun U O=>?_|apply ah|(apply Z<;>(intro hc;try simp at hc;try omega)))<;>try simp only [go_sem,hlt,hLl,ap,hx,aq,ItemD.dat])|(with_reducible first|apply ag|(refine O _ ?_;clear O U)|refine kN kM fun K hK=>?_|refine kO fun K hK=>?_|refine aI ?_)|apply iB)
   all_goals first
    |(exfalso;omega)
    |skip
   refine jM (e:=x.dat) (ds:=[.bool (decide ((l.length:Int)≤2 * (k:Int)))]) rfl (aa _ _ G4) rfl rfl (by rw [ap,hx];rfl) rfl rfl rfl rfl (by simp [ItemD.dat];decide) ?_
   have bj:(List.map ItemD.dat L).set k (bx x.dat 2 [.bool (decide ((l.length:Int)≤2 * (k:Int)))]) = List.map ItemD.dat (L.set k ⟨x.names,x.marks,decide ((l.length:Int)≤2 * (k:Int))⟩):=by rw [List.map_set];rfl
   rw [bj]
   have hL2:=hL.set hx (decide ((l.length:Int)≤2 * (k:Int)))
   have hl2:=hL2.1
   generalize L.set k ⟨x.names,x.marks,decide ((l.length:Int)≤2 * (k:Int))⟩ = L2 at *
   repeat' (first|((with_reducible first|(refine hK _ ?_;clear hK K)|refine aj fun U O=>?_|apply ah|(apply Z<;>(intro hc;try simp at hc;try omega)))<;>try simp only [go_sem])|(with_reducible first|apply ag|(refine O _ ?_;clear O U)|refine kN kM fun K hK=>?_|refine kO fun K hK=>?_|refine aI ?_)|apply iB)
   exact ⟨(k + 1,L2),⟨by simp only;omega,hL2⟩,by simp only;omega,(ao [] (by simp [lk,ae,hl2]<;>omega))⟩
  ·repeat' (first|((with_reducible first|(refine hK _ ?_;clear hK K)|refine aj fun U O=>?_|apply ah|(apply Z<;>(intro hc;try simp at hc;try omega)))<;>try simp only [go_sem,hlt])|(with_reducible first|apply ag|(refine O _ ?_;clear O U)|refine kN kM fun K hK=>?_|refine kO fun K hK=>?_|refine aI ?_)|apply iB)
   refine ak rfl (by simp only [an,bl,bn,ae,lk,an,aM,List.length_append,List.length_take,if_true,if_false,Nat.reduceEqDiff,Nat.reduceBEq,Bool.false_eq_true,Option.some.injEq];rfl) (by simp [am,lk]) ?_
   exact ⟨L,hL,rfl⟩
end Go.Proofs.YtphakidbddamfaaGreat
set_option linter.unusedSimpArgs false
set_option linter.unusedVariables false
set_option maxHeartbeats 2000000
set_option maxRecDepth 100000
namespace Go.Proofs.YtphakidbddamfaaGreat
open Go.RowKit
def p5 (rs:List RV):Prop:=∃ b:Bool,rs = [.d (.bool b)]
theorem ItsOk.names {l:List ItemD} (h:ItsOk l) {i:Nat} {x:ItemD} (hx:l[i]? = some x):1≤x.names.length∧x.names.length≤3:=by
 obtain ⟨_,h4,h5,h6,_⟩:=h.at_ hx
 omega
theorem tf (l:List ItemD) (hn:l.length≤1000) (hs:∀ r ∈ l,ItFit 1048576 r):FnOK Tryz.prog 246 [.d (.lst 3 (l.map ItemD.dat))] p5:=by
 refine aO aa Tryz.func246 rfl rfl ?_;simp only [Tryz.ntmps246,aR,aM,Nat.reduceAdd,Nat.reduceSub,aW]
 repeat' (first|((with_reducible first|(refine hK _ ?_;clear hK K)|refine aj fun U O=>?_|apply ah|(apply Z<;>(intro hc;try simp at hc;try omega)))<;>try simp only [go_sem])|(with_reducible first|apply ag|(refine O _ ?_;clear O U)|refine kN oR fun K hK=>?_|refine kO fun K hK=>?_|refine aI ?_)|apply iB)
 refine aD [2,4,7,8,9,10,11,12,13,14,15] (fun k:Nat=>[(7,.d (.int .i64 (k:Int)))]) (fun k:Nat=>[]) 0 (fun k:Nat=>k≤l.length) (fun k:Nat=>l.length - k) 0 (Nat.zero_le _) (ao [] (by simp [lk,ae]<;>omega)) ?_
 intro k hk
 simp only [bi,wipe,wl,bh,bw,rm,if_true,if_false,Nat.reduceEqDiff,Bool.false_eq_true,reduceCtorEq]
 by_cases hlt:k < l.length
 ·have hx:=List.getElem?_eq_getElem hlt
  generalize l[k] = x at hx
  obtain ⟨f1,f2,f3⟩:=hs x (List.mem_of_getElem? hx)
  have ha:=eH x.marks 0 0 (by omega)
  generalize bP (cv 0 0 x.marks) = b at ha
  cases b
  ·repeat' (first|((with_reducible first|(refine hK _ ?_;clear hK K)|refine aj fun U O=>?_|apply ah|(apply Z<;>(intro hc;try simp at hc;try omega)))<;>try simp only [go_sem,ap,hx,aq,ItemD.dat])|(with_reducible first|apply ag|(refine O _ ?_;clear O U)|refine kN oR fun K hK=>?_|refine kO fun K hK=>?_|refine aI ?_)|((with_reducible apply CallK.eq);(· with_reducible first|exact ha);(· simp [RV.flat,D.sc,ab]);try simp only [go_sem,ap,hx,aq,ItemD.dat])|apply iB)
   all_goals first
    |(exfalso;omega)
    |(refine ak rfl rfl (by simp [am,lk]) ?_;exact ⟨_,rfl⟩)
  ·repeat' (first|((with_reducible first|(refine hK _ ?_;clear hK K)|refine aj fun U O=>?_|apply ah|(apply Z<;>(intro hc;try simp at hc;try omega)))<;>try simp only [go_sem,ap,hx,aq,ItemD.dat])|(with_reducible first|apply ag|(refine O _ ?_;clear O U)|refine kN oR fun K hK=>?_|refine kO fun K hK=>?_|refine aI ?_)|((with_reducible apply CallK.eq);(· with_reducible first|exact ha);(· simp [RV.flat,D.sc,ab]);try simp only [go_sem,ap,hx,aq,ItemD.dat])|apply iB)
   all_goals first
    |(exfalso;omega)
    |exact ⟨k + 1,by omega,by omega,(ao [] (by simp [lk,ae]<;>omega))⟩
 ·repeat' (first|((with_reducible first|(refine hK _ ?_;clear hK K)|refine aj fun U O=>?_|apply ah|(apply Z<;>(intro hc;try simp at hc;try omega)))<;>try simp only [go_sem])|(with_reducible first|apply ag|(refine O _ ?_;clear O U)|refine kN oR fun K hK=>?_|refine kO fun K hK=>?_|refine aI ?_)|apply iB)
  refine ak rfl rfl (by simp [am,lk]) ?_;exact ⟨_,rfl⟩
theorem oF (l:List ItemD) (hn:l.length≤1000):FnOK Tryz.prog 247 [.d (.lst 3 (l.map ItemD.dat))] (fun rs=>∃ a b:Nat,rs = [.d (.int .i64 a),.d (.int .i64 b)]):=by
 refine aO aa Tryz.func247 rfl rfl ?_;simp only [Tryz.ntmps247,aR,aM,Nat.reduceAdd,Nat.reduceSub,aW]
 repeat' (first|((with_reducible first|(refine hK _ ?_;clear hK K)|refine aj fun U O=>?_|apply ah|(apply Z<;>(intro hc;try simp at hc;try omega)))<;>try simp only [go_sem])|(with_reducible first|apply ag|(refine O _ ?_;clear O U)|refine kN mW fun K hK=>?_|refine kO fun K hK=>?_|refine aI ?_)|apply iB)
 refine aD [2,3,4,5,7,10,11,12,13,14,15,16,17,18,19,20,21,22,23,24,25,26] (fun q:Nat × Nat × Nat=>[(10,.d (.int .i64 (q.1:Int))),(4,.d (.int .i64 (q.2.1:Int))),(5,.d (.int .i64 (q.2.2:Int)))]) (fun _=>[]) 0 (fun q=>q.1≤l.length∧q.2.1≤q.1∧q.2.2≤q.1) (fun q=>l.length - q.1) (0,0,0) ⟨by simp,by simp,by simp⟩ (ao [] (by simp [lk,ae]<;>omega)) ?_
 rintro ⟨k,a,b⟩ ⟨hk,ha,hb⟩
 simp only [bi,wipe,wl,bh,bw,rm,if_true,if_false,Nat.reduceEqDiff,Bool.false_eq_true,reduceCtorEq]
 simp only at hk ha hb
 by_cases hlt:k < l.length
 ·have hx:=List.getElem?_eq_getElem hlt
  generalize l[k] = x at hx
  by_cases h1:(1:Int) < (x.names.length:Int)
  ·by_cases h2:(2:Int) < (x.names.length:Int)
   ·repeat' (first|((with_reducible first|(refine hK _ ?_;clear hK K)|refine aj fun U O=>?_|apply ah|(apply Z<;>(intro hc;try simp at hc;try omega)))<;>try simp only [go_sem,hlt,h1,h2,ap,hx,aq,ItemD.dat,an])|(with_reducible first|apply ag|(refine O _ ?_;clear O U)|refine kN mW fun K hK=>?_|refine kO fun K hK=>?_|refine aI ?_)|apply iB)
    all_goals first
     |(exfalso;omega)
     |exact ⟨(k + 1,a + 1,b + 1),⟨by simp only;omega,by simp only;omega,by simp only;omega⟩,by simp only;omega,(ao [] (by simp [lk,ae]<;>omega))⟩
   ·repeat' (first|((with_reducible first|(refine hK _ ?_;clear hK K)|refine aj fun U O=>?_|apply ah|(apply Z<;>(intro hc;try simp at hc;try omega)))<;>try simp only [go_sem,hlt,h1,h2,ap,hx,aq,ItemD.dat,an])|(with_reducible first|apply ag|(refine O _ ?_;clear O U)|refine kN mW fun K hK=>?_|refine kO fun K hK=>?_|refine aI ?_)|apply iB)
    all_goals first
     |(exfalso;omega)
     |exact ⟨(k + 1,a + 1,b),⟨by simp only;omega,by simp only;omega,by simp only;omega⟩,by simp only;omega,(ao [] (by simp [lk,ae]<;>omega))⟩
  ·have h2:¬ (2:Int) < (x.names.length:Int):=by omega
   repeat' (first|((with_reducible first|(refine hK _ ?_;clear hK K)|refine aj fun U O=>?_|apply ah|(apply Z<;>(intro hc;try simp at hc;try omega)))<;>try simp only [go_sem,hlt,h1,h2,ap,hx,aq,ItemD.dat,an])|(with_reducible first|apply ag|(refine O _ ?_;clear O U)|refine kN mW fun K hK=>?_|refine kO fun K hK=>?_|refine aI ?_)|apply iB)
   all_goals first
    |(exfalso;omega)
    |exact ⟨(k + 1,a,b),⟨by simp only;omega,by simp only;omega,by simp only;omega⟩,by simp only;omega,(ao [] (by simp [lk,ae]<;>omega))⟩
 ·repeat' (first|((with_reducible first|(refine hK _ ?_;clear hK K)|refine aj fun U O=>?_|apply ah|(apply Z<;>(intro hc;try simp at hc;try omega)))<;>try simp only [go_sem,hlt])|(with_reducible first|apply ag|(refine O _ ?_;clear O U)|refine kN mW fun K hK=>?_|refine kO fun K hK=>?_|refine aI ?_)|apply iB)
  refine ak rfl rfl (by simp [am,lk]) ?_;exact ⟨_,_,rfl⟩
theorem uj (l:List ItemD) (hn:l.length≤1000):FnOK Tryz.prog 249 [.d (.lst 3 (l.map ItemD.dat))] p5:=by
 refine aO aa Tryz.func249 rfl rfl ?_;simp only [Tryz.ntmps249,aR,aM,Nat.reduceAdd,Nat.reduceSub,aW]
 repeat' (first|((with_reducible first|(refine hK _ ?_;clear hK K)|refine aj fun U O=>?_|apply ah|(apply Z<;>(intro hc;try simp at hc;try omega)))<;>try simp only [go_sem])|(with_reducible first|apply ag|(refine O _ ?_;clear O U)|refine kN tT fun K hK=>?_|refine kO fun K hK=>?_|refine aI ?_)|apply iB)
 refine aD [2,3,4,7,8,9,10,11,12,13,14,15,16,17,18,19,20] (fun k:Nat=>[(7,.d (.int .i64 (k:Int)))]) (fun k:Nat=>[]) 0 (fun k:Nat=>k≤l.length) (fun k:Nat=>l.length - k) 0 (Nat.zero_le _) (ao [] (by simp [lk,ae]<;>omega)) ?_
 intro k hk
 simp only [bi,wipe,wl,bh,bw,rm,if_true,if_false,Nat.reduceEqDiff,Bool.false_eq_true,reduceCtorEq]
 by_cases hlt:k < l.length
 ·have hx:=List.getElem?_eq_getElem hlt
  generalize l[k] = x at hx
  repeat' (first|((with_reducible first|(refine hK _ ?_;clear hK K)|refine aj fun U O=>?_|apply ah|(apply Z<;>(intro hc;try simp at hc;try omega)))<;>try simp only [go_sem,hlt,ap,hx,aq,ItemD.dat])|(with_reducible first|apply ag|(refine O _ ?_;clear O U)|refine kN tT fun K hK=>?_|refine kO fun K hK=>?_|refine aI ?_)|apply iB)
  all_goals first
   |(exfalso;omega)
   |(refine ak rfl rfl (by simp [am,lk]) ?_;exact ⟨_,rfl⟩)
   |exact ⟨k + 1,by omega,by omega,(ao [] (by simp [lk,ae]<;>omega))⟩
 ·repeat' (first|((with_reducible first|(refine hK _ ?_;clear hK K)|refine aj fun U O=>?_|apply ah|(apply Z<;>(intro hc;try simp at hc;try omega)))<;>try simp only [go_sem,hlt])|(with_reducible first|apply ag|(refine O _ ?_;clear O U)|refine kN tT fun K hK=>?_|refine kO fun K hK=>?_|refine aI ?_)|apply iB)
  refine ak rfl rfl (by simp [am,lk]) ?_;exact ⟨_,rfl⟩
theorem mz (l:List ItemD) (nm:ByteArray) (hn:l.length≤1000) (hs:∀ (i:Nat) (x:ItemD),l[i]? = some x→x.names.length≤1000):FnOK Tryz.prog 263 [.d (.lst 3 (l.map ItemD.dat)),.d (.str nm)] (fun rs=>∃ a b:Nat,rs = [.d (.int .i64 a),.d (.int .i64 b)]):=by
 refine aO aa Tryz.func263 rfl rfl ?_;simp only [Tryz.ntmps263,aR,aM,Nat.reduceAdd,Nat.reduceSub,aW]
 repeat' (first|((with_reducible first|(refine hK _ ?_;clear hK K)|refine aj fun U O=>?_|apply ah|(apply Z<;>(intro hc;try simp at hc;try omega)))<;>try simp only [go_sem])|(with_reducible first|apply ag|(refine O _ ?_;clear O U)|refine kN jy fun K hK=>?_|refine kO fun K hK=>?_|refine aI ?_)|apply iB)
 refine aD [4,5,6,7,9,11,14,15,16,17,18,19,20,21,22,23,24,25,26,27,28,29,30,31,32,33,34,35,36,37] (fun q:Nat × Nat × Nat=>[(14,.d (.int .i64 (q.1:Int))),(6,.d (.int .i64 (q.2.1:Int))),(7,.d (.int .i64 (q.2.2:Int)))]) (fun _=>[]) 0 (fun q=>q.1≤l.length∧q.2.1≤1000 * q.1∧q.2.2≤1000 * q.1) (fun q=>l.length - q.1) (0,0,0) ⟨by simp,by simp,by simp⟩ (ao [] (by simp [lk,ae]<;>omega)) ?_
 rintro ⟨k,a,b⟩ ⟨hk,ha,hb⟩
 simp only [bi,wipe,wl,bh,bw,rm,if_true,if_false,Nat.reduceEqDiff,Bool.false_eq_true,reduceCtorEq]
 simp only at hk ha hb
 by_cases hlt:k < l.length
 ·have hx:=List.getElem?_eq_getElem hlt
  generalize l[k] = x at hx
  have hxn:=hs k x hx
  repeat' (first|((with_reducible first|(refine hK _ ?_;clear hK K)|refine aj fun U O=>?_|apply ah|(apply Z<;>(intro hc;try simp at hc;try omega)))<;>try simp only [go_sem,hlt,ap,hx,aq,ItemD.dat])|(with_reducible first|apply ag|(refine O _ ?_;clear O U)|refine kN jy fun K hK=>?_|refine kO fun K hK=>?_|refine aI ?_)|apply iB)
  refine aD [4,5,6,7,11,21,22,23,24,25,26,27,28,29,30,31,32,33,34,35,36] (fun q:Nat × Nat × Nat=>[(21,.d (.int .i64 (q.1:Int))),(6,.d (.int .i64 (q.2.1:Int))),(7,.d (.int .i64 (q.2.2:Int))),(9,.bptr 0 0)]) (fun _=>[(0,.box 143 [.d (.lst 1 (x.names.map aZ)),.d (.lst 1 (x.marks.map ab)),.d (.bool x.late)])]) 1 (fun q=>q.1≤x.names.length∧q.2.1≤1000 * k + q.1∧q.2.2≤1000 * k + q.1) (fun q=>x.names.length - q.1) (0,a,b) ⟨by simp,by simp;omega,by simp;omega⟩ (ao [] (by simp [lk,ae]<;>omega)) ?_
  rintro ⟨j,c,d⟩ ⟨hj,hc1,hd1⟩
  simp only [bi,wipe,wl,bh,bw,rm,if_true,if_false,Nat.reduceEqDiff,Bool.false_eq_true,reduceCtorEq]
  simp only at hj hc1 hd1
  by_cases hlt2:j < x.names.length
  ·have hy:=List.getElem?_eq_getElem hlt2
   generalize x.names[j] = y at hy
   by_cases he:y = nm
   ·by_cases h1:(1:Int) < (x.names.length:Int)
    ·repeat' (first|((with_reducible first|(refine hK _ ?_;clear hK K)|refine aj fun U O=>?_|apply ah|(apply Z<;>(intro hc;try simp at hc;try omega)))<;>try simp only [go_sem,hlt2,he,h1,ap,hy,aq,aZ,an])|(with_reducible first|apply ag|(refine O _ ?_;clear O U)|refine kN jy fun K hK=>?_|refine kO fun K hK=>?_|refine aI ?_)|apply iB)
     all_goals first
      |(exfalso;omega)
      |exact ⟨(j + 1,c + 1,d + 1),⟨by simp only;omega,by simp only;omega,by simp only;omega⟩,by simp only;omega,(ao [] (by simp [lk,ae]<;>omega))⟩
    ·repeat' (first|((with_reducible first|(refine hK _ ?_;clear hK K)|refine aj fun U O=>?_|apply ah|(apply Z<;>(intro hc;try simp at hc;try omega)))<;>try simp only [go_sem,hlt2,he,h1,ap,hy,aq,aZ,an])|(with_reducible first|apply ag|(refine O _ ?_;clear O U)|refine kN jy fun K hK=>?_|refine kO fun K hK=>?_|refine aI ?_)|apply iB)
     all_goals first
      |(exfalso;omega)
      |exact ⟨(j + 1,c + 1,d),⟨by simp only;omega,by simp only;omega,by simp only;omega⟩,by simp only;omega,(ao [] (by simp [lk,ae]<;>omega))⟩
   ·repeat' (first|((with_reducible first|(refine hK _ ?_;clear hK K)|refine aj fun U O=>?_|apply ah|(apply Z<;>(intro hc;try simp at hc;try omega)))<;>try simp only [go_sem,hlt2,he,ap,hy,aq,aZ,an])|(with_reducible first|apply ag|(refine O _ ?_;clear O U)|refine kN jy fun K hK=>?_|refine kO fun K hK=>?_|refine aI ?_)|apply iB)
    all_goals first
     |(exfalso;omega)
     |exact ⟨(j + 1,c,d),⟨by simp only;omega,by simp only;omega,by simp only;omega⟩,by simp only;omega,(ao [] (by simp [lk,ae]<;>omega))⟩
  ·repeat' (first|((with_reducible first|(refine hK _ ?_;clear hK K)|refine aj fun U O=>?_|apply ah|(apply Z<;>(intro hc;try simp at hc;try omega)))<;>try simp only [go_sem,hlt2])|(with_reducible first|apply ag|(refine O _ ?_;clear O U)|refine kN jy fun K hK=>?_|refine kO fun K hK=>?_|refine aI ?_)|apply iB)
   exact ⟨(k + 1,c,d),⟨by simp only;omega,by simp only;omega,by simp only;omega⟩,by simp only;omega,(ao [] (by simp [lk,ae]<;>omega))⟩
 ·repeat' (first|((with_reducible first|(refine hK _ ?_;clear hK K)|refine aj fun U O=>?_|apply ah|(apply Z<;>(intro hc;try simp at hc;try omega)))<;>try simp only [go_sem,hlt])|(with_reducible first|apply ag|(refine O _ ?_;clear O U)|refine kN jy fun K hK=>?_|refine kO fun K hK=>?_|refine aI ?_)|apply iB)
  refine ak rfl rfl (by simp [am,lk]) ?_;exact ⟨_,_,rfl⟩
end Go.Proofs.YtphakidbddamfaaGreat
