/-
  The abstract machine: regions that draw their order. No program is named here.
-/
import Derived.Test.YtphakidbddamfaaGreatZM9
import Derived.Test.YtphakidbddamfaaGreatZBase
namespace Go.Proofs.YtphakidbddamfaaGreat
open Go.RowKit
def cL (P:Program) (G:List (Nat × TI)) (ops:Array Oper):List Oper→(AS→Prop)→AS→Prop
 |[],K,s=>K s
 |o::rest,K,s=>match o.guard with
  |none=>eI P G o s fun v=>cL P G ops rest K (s.put o.dst v)
  |some (j,want)=>(match yB ops s j with
   |.d (.bool b)=>pK (b == want) (eI P G o (s.setB ops j want) fun v=>cL P G ops rest K ((s.setB ops j want).put o.dst v)) (cL P G ops rest K ((s.setB ops j !want).put o.dst (.tup [])))
   |.tup []=>cL P G ops rest K (s.put o.dst (.tup []))
   |_=>False)
theorem eR {P:Program} {G:List (Nat × TI)} (hG:GOK P G) {ops:Array Oper} {X0:Nat→Prop} {w0:Base} {wb:World} {m:Mp}:∀ (l:List Oper) (K:AS→Prop) (s:AS) (a:Act),cL P G ops l K s→Sim X0 w0 m s a wb→
  wpQuiet P ops (fun w'=>Bel wb.heap.size wb w') (fun a'=>∃ s',K s'∧Sim X0 w0 m s' a' wb) l a
 |[],K,s,a,h,hs=>⟨s,h,hs⟩
 |o::rest,K,s,a,h,hs=>by
  have step:eI P G o s (fun v=>cL P G ops rest K (s.put o.dst v))→o.quiet P a (fun w'=>Bel wb.heap.size wb w') (wpQuiet P ops (fun w'=>Bel wb.heap.size wb w') (fun a'=>∃ s',K s'∧Sim X0 w0 m s' a' wb) rest):=by
   intro h1
   obtain ⟨x,h2,h3⟩:=gB hG h1
   obtain ⟨v,h4,h5⟩:=h2 X0 w0 m a wb hs
   refine ⟨v,?_,eR hG rest K _ _ h3 (hs.put (h5 wb (Bel.refl _ _)) o.dst)⟩
   intro w' hb
   have h6:=h4 w' hb
   unfold Oper.quietAt at h6 ⊢
   generalize (execOp a.eval o).run P w' = r at h6
   cases r with
   |ok n u=>
    cases n<;>simp only [Oper.quietUpon] at h6 ⊢<;>first|exact h6|skip
   |halt x u=>exact h6
  unfold wpQuiet
  simp only [cL] at h
  split at h
  ·rename_i hg
   simp only [Region.wanted,hg,if_true]
   exact step h
  ·rename_i j want hg
   split at h
   ·rename_i b h1
    have hy:yielded ops a.tmps j = some b:=by
     have h1c:=h1
     unfold yB at h1
     cases hd:(ops[j]?).bind (·.dst) with
     |none=>rw [hd] at h1;cases h1
     |some t=>
      rw [hd] at h1
      have h4:=hs.get (.tmp t)
      have h1':lk s.fr.l t = .d (.bool b):=h1
      simp only [AS.get] at h4
      rw [h1'] at h4
      have h5:a.tmps.getD t undef = .bool b:=h4.bool
      have h6:a.tmps[t]? = some (.bool b):=by
       rw [Array.getD_eq_getD_getElem?] at h5
       cases ht:a.tmps[t]? with
       |none=>rw [ht] at h5;cases h5
       |some u=>rw [ht] at h5;simp at h5;rw [h5]
      unfold yielded
      rw [hd]
      simp [h6]
    simp only [Region.wanted,hg,hy]
    obtain ⟨h2,h3⟩:=h
    by_cases hb:b = want
    ·subst hb
     rw [i1 h1] at h2
     simp only [beq_self_eq_true,if_true]
     exact step (h2 (by simp))
    ·have e2:b = !want:=by cases b<;>cases want<;>simp_all
     rw [←e2,i1 h1] at h3
     have:(some b == some want) = false:=by simpa using hb
     simp only [this,Bool.false_eq_true,if_false]
     exact eR hG rest K _ _ (h3 (by simpa using hb)) (hs.put (nt _ _ _) o.dst)
   ·rename_i h1
    have hy:yielded ops a.tmps j = none:=by
     unfold yB at h1
     cases hd:(ops[j]?).bind (·.dst) with
     |none=>rw [hd] at h1;cases h1
     |some t=>
      rw [hd] at h1
      have h4:=hs.get (.tmp t)
      have h1':lk s.fr.l t = .tup []:=h1
      simp only [AS.get] at h4
      rw [h1'] at h4
      have h5:∀ b,a.tmps.getD t undef≠.bool b:=by
       intro b he
       have h4':R m (aR X0 m s.hp) wb (.tup []) (a.tmps.getD t undef):=h4
       rw [he] at h4'
       cases h4'
      unfold yielded
      rw [hd]
      simp only [Option.bind_some]
      split
      ·rename_i b hb
       exact absurd (by rw [Array.getD_eq_getD_getElem?,hb];rfl) (h5 b)
      ·rfl
    simp only [Region.wanted,hg,hy]
    have:((none:Option Bool) == some want) = false:=rfl
    simp only [this,Bool.false_eq_true,if_false]
    exact eR hG rest K _ _ h (hs.put (nt _ _ _) o.dst)
   ·exact h.elim
section
variable {P:Program} {G:List (Nat × TI)} {Q:Exit→AS→Prop} {s:AS} {id:Nat} {l:List Oper} {y:Code}
theorem aO (hG:GOK P G) (hm:P.follows .mixedOrders = true) (hB:Region.lexB .any l.toArray = true) (h:cL P G l.toArray l (Q .normal) s):PW P (.region id l.toArray true) Q s:=by
 intro X0 w0 m a w hs
 have hq:=eR hG (ops:=l.toArray) l _ s a h hs
 refine wp_region_quiet (C:=fun w'=>Bel w.heap.size w w') hm hB (Bel.refl _ _).drew ?_
 rw [List.toList_toArray]
 have mono:∀ (l':List Oper) (a:Act),wpQuiet P l.toArray (fun w'=>Bel w.heap.size w w') (fun a'=>∃ s',Q .normal s'∧Sim X0 w0 m s' a' w) l' a→wpQuiet P l.toArray (fun w'=>Bel w.heap.size w w') (fun a'=>∀ w',Bel w.heap.size w w'→∃ m' s',Q .normal s'∧Sim X0 w0 m' s' a' w') l' a:=by
  intro l'
  induction l' with
  |nil=>
   rintro a ⟨s',h1,h2⟩ w' hb
   exact ⟨m,s',h1,h2.later hb⟩
  |cons o rest ih=>
   intro a h
   unfold wpQuiet at h ⊢
   split
   ·rename_i hw;rw [if_pos hw] at h;exact Oper.quiet_mono (fun a h=>ih a h) h
   ·rename_i hw;rw [if_neg hw] at h;exact ih _ h
 exact mono l a hq
theorem iC (hG:GOK P G) (p n:Nat) (hm:P.follows .mixedOrders = true) (hB:m_ l.toArray p n = true) (h:cL P G l.toArray (l.take n) (fun s'=>cE P G l.toArray (l.drop n) (Q .normal) s') s):PW P (.region id l.toArray true) Q s:=by
 intro X0 w0 m a w hs
 have hq:=eR hG (ops:=l.toArray) (l.take n) _ s a h hs
 refine wp_mono (Q:=fun e a' w'=>(∀ c,e≠.panic c)∧∃ m' s',Q e s'∧Sim X0 w0 m' s' a' w') ?_ fun _ _ _ h=>h.2
 refine jR (C:=fun w'=>Bel w.heap.size w w') (Bel.refl _ _).drew p n hm hB (fun c a d v w h=>(h.1 c rfl).elim) ?_
 have mono:∀ (l':List Oper) (a:Act),wpQuiet P l.toArray (fun w'=>Bel w.heap.size w w') (fun a'=>∃ s',cE P G l.toArray (l.drop n) (Q .normal) s'∧Sim X0 w0 m s' a' w) l' a→wpQuiet P l.toArray (fun w'=>Bel w.heap.size w w') (fun a'=>∀ w',Bel w.heap.size w w'→wpList P l.toArray (fun e a' w'=>(∀ c,e≠.panic c)∧∃ m' s',Q e s'∧Sim X0 w0 m' s' a' w') (l.drop n) a' w') l' a:=by
  intro l'
  induction l' with
  |nil=>
   rintro a ⟨s',h1,h2⟩ w' hb
   exact iy (l.drop n) (Q .normal) s' m a w' (dL hG _ _ _ h1) (h2.later hb) fun m' s' a' w' h3 h4=>⟨(fun c e=>by cases e),m',s',h3,h4⟩
  |cons o rest ih=>
   intro a h
   unfold wpQuiet at h ⊢
   split
   ·rename_i hw;rw [if_pos hw] at h;exact Oper.quiet_mono (fun a h=>ih a h) h
   ·rename_i hw;rw [if_neg hw] at h;exact ih _ h
 exact mono (l.take n) a hq
theorem rC (hG:GOK P G) (hm:P.follows .mixedOrders = true) (hB:Region.lexB .any l.toArray = true) (h:∀ K:AS→Prop,(∀ s',PW P y Q s'→K s')→cL P G l.toArray l K s):PW P (.seq (.region id l.toArray true) y) Q s:=
 ga fun K hK=>aO hG hm hB (h K fun s' h'=>hK s' h')
theorem qZ (hG:GOK P G) (p n:Nat) (hm:P.follows .mixedOrders = true) (hB:m_ l.toArray p n = true) (h:∀ K:AS→Prop,(∀ s',PW P y Q s'→K s')→cL P G l.toArray (l.take n) (cE P G l.toArray (l.drop n) K) s):PW P (.seq (.region id l.toArray true) y) Q s:=
 ga fun K hK=>iC hG p n hm hB (h K fun s' h'=>hK s' h')
end
@[congr] theorem y7 {b b':Bool} {A B:Prop} (h:b = b'):pK b A B = pK b' A B:=by subst h;rfl
theorem t0 {P:Program} {G:List (Nat × TI)} {ops:Array Oper} {s:AS} {K:AS→Prop} (h:K s):cE P G ops [] K s:=h
end Go.Proofs.YtphakidbddamfaaGreat
namespace Go.Proofs.YtphakidbddamfaaGreat
open Go.RowKit
def mu (q:Bool) (P:Program) (G:List (Nat × TI)) (o:Oper) (s:AS) (K:AS→Prop):Prop:=
 match q with
 |true=>eI P G o s fun v=>K (s.put o.dst v)
 |false=>nL P G o s K
def fP (q:Bool) (P:Program) (G:List (Nat × TI)) (ops:Array Oper) (o:Oper) (s:AS) (K:AS→Prop):Prop:=match o.guard with
  |none=>mu q P G o s K
  |some (j,want)=>(match yB ops s j with
   |.d (.bool b)=>pK (b == want) (mu q P G o (s.setB ops j want) K) (K ((s.setB ops j !want).put o.dst (.tup [])))
   |.tup []=>K (s.put o.dst (.tup []))
   |_=>False)
section
variable {P:Program} {G:List (Nat × TI)} {ops:Array Oper} {o:Oper} {rest:List Oper} {s:AS} {K:AS→Prop} {q:Bool}
theorem ib (h:∀ U:AS→Prop,(∀ s',cE P G ops rest K s'→U s')→fP false P G ops o s U):cE P G ops (o::rest) K s:=h (cE P G ops rest K) fun _ h=>h
theorem lq (h:∀ U:AS→Prop,(∀ s',cL P G ops rest K s'→U s')→fP true P G ops o s U):cL P G ops (o::rest) K s:=h (cL P G ops rest K) fun _ h=>h
theorem bA (hg:o.guard = none) (h:mu q P G o s K):fP q P G ops o s K:=by unfold fP;rw [hg];exact h
def wz (ops:Array Oper) (o:Oper):Option (Nat × Bool):=
 match o.guard with
 |none=>none
 |some (j,want)=>(match (ops[j]?).bind (·.dst) with
  |some t=>some (t,want)
  |none=>none)
def AS.upl (s:AS) (t:Nat) (b:Bool):AS:={s with fr:=⟨s.fr.n,Go.Proofs.YtphakidbddamfaaGreat.upl s.fr.l t (.d (.bool b))⟩}
def wC (q:Bool) (P:Program) (G:List (Nat × TI)) (o:Oper) (s:AS) (K:AS→Prop) (t:Nat) (want:Bool) (y:PV):Prop:=
 match y with
 |.d (.bool b)=>pK (b == want) (mu q P G o (s.upl t want) K) (K ((s.upl t !want).put o.dst (.tup [])))
 |.tup []=>K (s.put o.dst (.tup []))
 |_=>False
theorem bl {t:Nat} {want:Bool} (hg:wz ops o = some (t,want)) (h:wC q P G o s K t want (lk s.fr.l t)):fP q P G ops o s K:=by
 unfold wz at hg
 split at hg
 ·cases hg
 ·rename_i j w h1
  split at hg
  ·rename_i t' h2
   cases hg
   unfold fP
   rw [h1]
   have e:yB ops s j = lk s.fr.l t:=by unfold yB;rw [h2]
   have e2:∀ b,s.setB ops j b = s.upl t b:=fun b=>by unfold AS.setB;rw [h2];rfl
   simp only [e,e2]
   exact h
  ·cases hg
class Stp (a:Prop) (b:outParam Prop):Prop where
 mp:b→a
theorem aj {a b:Prop} [i:Stp a b] (h:b):a:=i.mp h
section
variable {P:Program} {G:List (Nat × TI)} {ops:Array Oper} {s:AS} {K:AS→Prop} {Q:Exit→AS→Prop} {x y z:Code} {id:Nat}
instance:Stp (cL P G ops [] K s) (K s):=⟨fun h=>h⟩
instance:Stp (cE P G ops [] K s) (K s):=⟨t0⟩
instance:Stp (PW P (.seq (.seq x y) z) Q s) (PW P (.seq x y) (et (PW P z Q) Q) s):=⟨cM⟩
instance:Stp (PW P (.seq (.block id x) y) Q s) (PW P x (cZ id (et (PW P y Q) Q)) s):=⟨fun h=>cM (pR h)⟩
instance:Stp (PW P (.seq .skip y) Q s) (PW P y Q s):=⟨fun h=>cM (rV (aZ h))⟩
instance:Stp (PW P .skip Q s) (Q .normal s):=⟨rV⟩
instance:Stp (PW P (.exit id) Q s) (Q (.exit id) s):=⟨wO⟩
instance:Stp (PW P .ret Q s) (Q .ret s):=⟨xp⟩
instance:Stp (PW P (.block id x) Q s) (PW P x (cZ id Q) s):=⟨pR⟩
instance:Stp (et K Q .normal s) (K s):=⟨aZ⟩
instance:Stp (et K Q (.exit id) s) (Q (.exit id) s):=⟨sv⟩
instance:Stp (et K Q .ret s) (Q .ret s):=⟨ua⟩
instance:Stp (cZ id Q (.exit id) s) (Q .normal s):=⟨bh⟩
instance:Stp (cZ id Q .ret s) (Q .ret s):=⟨pZ⟩
instance:Stp (cZ id Q .normal s) (Q .normal s):=⟨ba⟩
end
@[congr] theorem yJ {s':AS} (h:s = s'):mu q P G o s K = mu q P G o s' K:=by subst h;rfl
end
attribute [go_sem_proc] Nat.reduceEqDiff Nat.reduceLT Nat.reduceAdd Nat.reduceSub Nat.reduceMul Nat.reduceLeDiff
attribute [go_sem] wC AS.upl Int.toNat_zero Nat.sub_zero nL eI u_ sY pb mo tM mP kQ iK sx kr pn sA wM vo AS.setB beq_true beq_false Bool.not_true Bool.not_false List.getElem?_toArray List.getElem?_cons_zero List.getElem?_cons_succ Option.bind_some List.map_cons List.map_nil List.append_nil List.nil_append List.cons_append List.any_cons List.any_nil List.toList_toArray beq_self_eq_true true_and exists_eq_left' Option.some.injEq Int.toNat_natCast Bool.or_false Bool.false_or if_true List.length_map List.length_cons List.length_nil if_false List.all_cons List.all_nil Bool.and_true Bool.and_self List.take_succ_cons List.take_zero List.drop_zero List.drop_succ_cons List.replicate_succ List.replicate_zero Option.getD_none Option.getD_some AS.get AS.put nE yB lk rm bx upl Fr.put ab bf dJ cu fI be eB kp jI jw nV iM iO jq ev cJ dD a9 eL bC tp TI.cells TI.size pD up pU ux i4 fC fl dM fP mu wipe wl bb co gw ml eQ Nat.add_zero Nat.zero_add BEq.rfl Bool.false_eq_true
attribute [go_sem] cont cU uj jb ce D.scB dA dm qv cr cD jh d6 gp lf n4 bb
end Go.Proofs.YtphakidbddamfaaGreat
