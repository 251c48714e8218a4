/-
  The abstract machine: some of a call's answers become plain data, the others stay rows of the caller's own.
-/
import Derived.Test.YtphakidbddamfaaGreatZMc
namespace Go.Proofs.YtphakidbddamfaaGreat
open Go.RowKit
theorem RR.data2 {Y Y':Nat→Prop} {B:Nat} {w:World} {r:RV} {v:Value} {g:Nat→Prop} (h:RR Y B w r v g) (hY:∀ x,Y' x→Y x) (hB:∀ x,Y' x→¬ g x):RR Y' B w r.data v (fun _=>False):=by
 have hst:Stay w w Y Y':=fun x _ hx=>⟨rfl,fun h'=>hx (hY x h')⟩
 cases h with
 |d x v h=>exact .d _ _ (h.mono hst)
 |agg ds vs hl h=>exact .agg _ _ hl fun i d v hd hv=>(h i d v hd hv).mono hst
 |nil ty sz=>exact .d _ _ (.nil _ _ _)
 |row ty sz es g c arr hg hh hc=>
  refine .d _ _ (.lst sz es g 0 c hc.2.1 hc.2.2.2.1 (fun k e j d he hd=>?_) (fun k e j d u he hd hu=>?_))
  ·obtain ⟨u,p1,_,_⟩:=cZ hc hh he hd
   exact ⟨fun h'=>hB g h' rfl,u,by rw [Nat.zero_add];exact p1⟩
  ·obtain ⟨u',p1,_,p3⟩:=cZ hc hh he hd
   rw [Nat.zero_add,p1] at hu
   cases hu
   exact p3.mono hst
 |dnil ty sz=>exact .d _ _ (.nil _ _ _)
 |deep ty sz es g c F hg hF hd=>
  have ht:Tr w (fun x=>F x∨x = g) (.lst sz es) (.slice (some ⟨g,0,none⟩) es.length c):=hd.tr (.inr rfl) fun x hx=>.inl hx
  refine .d _ _ (ht.rd fun x hx h'=>hB x h' ?_)
  exact hx.elim .inr .inl
theorem RR.less {Y Y':Nat→Prop} {B:Nat} {w:World} {r:RV} {v:Value} {g:Nat→Prop} (h:RR Y B w r v g) (hY:∀ x,Y' x→Y x):RR Y' B w r v g:=by
 have hst:Stay w w Y Y':=fun x _ hx=>⟨rfl,fun h'=>hx (hY x h')⟩
 cases h with
 |d x v h=>exact .d _ _ (h.mono hst)
 |agg ds vs hl h=>exact .agg _ _ hl fun i d v hd hv=>(h i d v hd hv).mono hst
 |nil ty sz=>exact .nil _ _
 |row ty sz es g c arr hg hh hc=>exact .row _ _ _ _ _ arr hg hh (hc.mono (fun _ _ h=>h) hst)
 |dnil ty sz=>exact .dnil _ _
 |deep ty sz es g c F hg hF hd=>exact .deep _ _ _ _ _ F hg hF hd
theorem RR.notX {Y:Nat→Prop} {B x:Nat} {w:World} {r:RV} {v:Value} {g:Nat→Prop} (h:RR Y B w r v g) (hx:x < B):¬ g x:=by
 intro hg
 cases h with
 |d x v h=>exact hg
 |agg ds vs hl h=>exact hg
 |nil ty sz=>exact hg
 |row ty sz es g c arr hB hh hc=>subst hg;omega
 |dnil ty sz=>exact hg
 |deep ty sz es g c F hB hF hd=>
  rcases hg with rfl|hg
  ·omega
  ·have:=(hF x hg).1;omega
def dataP (p:Nat→Bool) (rs:List RV):List RV:=rs.mapIdx fun i r=>if p i then r.data else r
theorem RR.dataP {X:Nat→Prop} {B:Nat} {w':World} {rs:List RV} {vs:Array Value} {gs:Nat→Nat→Prop} (p:Nat→Bool) (hX:∀ x,X x→x < B) (h8:∀ i j x,gs i x→gs j x→i = j)
  (h10:∀ (i:Nat) (r:RV) (v:Value),rs[i]? = some r→vs[i]? = some v→RR (fun x=>X x∨∃ j,gs j x) B w' r v (gs i)) (i:Nat) (r:RV) (v:Value) (hr:(Proofs.YtphakidbddamfaaGreat.dataP p rs)[i]? = some r) (hv:vs[i]? = some v):RR (fun x=>X x∨∃ j,p j = false∧gs j x) B w' r v (fun x=>p i = false∧gs i x):=by
 have hsub:∀ x,(X x∨∃ j,p j = false∧gs j x)→(X x∨∃ j,gs j x):=fun x h=>h.elim .inl fun ⟨j,_,h⟩=>.inr ⟨j,h⟩
 unfold Proofs.YtphakidbddamfaaGreat.dataP at hr
 rw [List.getElem?_mapIdx] at hr
 cases hi:rs[i]? with
 |none=>rw [hi] at hr;cases hr
 |some r0=>
  rw [hi] at hr
  have hr0:=h10 i r0 v hi hv
  cases hp:p i with
  |true=>
   simp only [Option.map_some,hp,if_true,Option.some.injEq] at hr
   subst hr
   have hf:(fun x=>true = false∧gs i x) = fun _=>False:=by funext x;simp
   rw [hf]
   refine hr0.data2 hsub fun x h hg=>?_
   rcases h with h|⟨j,hj,h⟩
   ·exact RR.notX hr0 (hX x h) hg
   ·have:=h8 i j x hg h
    subst this
    rw [hp] at hj
    cases hj
  |false=>
   simp only [Option.map_some,hp,Bool.false_eq_true,if_false,Option.some.injEq] at hr
   subst hr
   have hf:(fun x=>false = false∧gs i x) = gs i:=by funext x;simp
   rw [hf]
   exact hr0.less hsub
theorem ResC.dataP {X:Nat→Prop} {w:World} {b:Nat} {ty:TypeId} {n:Nat} {cs':List D} {rs:List RV} {e:Ending} {w':World} {st:St} (p:Nat→Bool) (hX:∀ x,X x→x < w.heap.size) (h:ResC X w b ty n cs' rs e w' st):ResC X w b ty n cs' (dataP p rs) e w' st:=by
 obtain ⟨vs,gs,arr',h1,h2,h3,h4,h5,h6,h7,h8,h9,h10,h11⟩:=h
 refine ⟨vs,fun i x=>p i = false∧gs i x,arr',h1,by simpa [Proofs.YtphakidbddamfaaGreat.dataP] using h2,h3,h4,h5,h6,h7,fun i j x h h'=>h8 i j x h.2 h'.2,fun i x h=>by have:=h9 i x h.2;simpa [Proofs.YtphakidbddamfaaGreat.dataP] using this,RR.dataP p hX h8 h10,fun j d v hd hv=>?_⟩
 exact (h11 j d v hd hv).mono fun x _ hx=>⟨rfl,fun h=>h.elim (fun h=>hx (.inl h)) fun ⟨j,_,h⟩=>hx (.inr ⟨j,h⟩)⟩
theorem ResA.dataP {X:Nat→Prop} {w:World} {rs:List RV} {e:Ending} {w':World} (p:Nat→Bool) (hX:∀ x,X x→x < w.heap.size) (h:ResA X w rs e w'):ResA X w (Proofs.YtphakidbddamfaaGreat.dataP p rs) e w':=by
 obtain ⟨vs,gs,h1,h2,h3,h8,h10⟩:=h
 exact ⟨vs,fun i x=>p i = false∧gs i x,h1,by simpa [Proofs.YtphakidbddamfaaGreat.dataP] using h2,h3,fun i j x h h'=>h8 i j x h.2 h'.2,RR.dataP p hX h8 h10⟩
theorem FnAg.dataP {P:Program} {f:FuncId} {args:List PV} {rs rs':List RV} (p:Nat→Bool) (h:FnAg P f args rs) (hp:Proofs.YtphakidbddamfaaGreat.dataP p rs = rs'):FnAg P f args rs':=
 ⟨h.1,fun w X vals h0 h1 h2 h3=>(h.2 w X vals h0 h1 h2 h3).mono fun _ _ h10=>hp ▸ h10.dataP p h1⟩
theorem FnC.dataP {P:Program} {f:FuncId} {n:Nat} {args cs:List D} {Post Post':List D→List RV→Prop} {st:St} (p:Nat→Bool) (h:FnC P f n args cs Post st) (hp:∀ cs' rs,Post cs' rs→Post' cs' (Proofs.YtphakidbddamfaaGreat.dataP p rs)):FnC P f n args cs Post' st:=
 ⟨h.1,fun w X b ty arr vals h0 h1 h2 h3 h4 h5 h6 h7=>(h.2 w X b ty arr vals h0 h1 h2 h3 h4 h5 h6 h7).mono fun _ _ ⟨cs',_,h9,h10⟩=>⟨cs',_,hp _ _ h9,h10.dataP p h1⟩⟩
end Go.Proofs.YtphakidbddamfaaGreat
