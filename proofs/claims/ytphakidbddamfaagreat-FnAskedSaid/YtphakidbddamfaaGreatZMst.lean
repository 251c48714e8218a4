/-
  From contracts of the abstract machine to contracts over memory.
-/
import Derived.Test.YtphakidbddamfaaGreatZG
import Derived.Test.YtphakidbddamfaaGreatZM11
import Derived.Test.YtphakidbddamfaaGreatZMc
import Derived.Laws.BytesArg
namespace Go.Proofs.YtphakidbddamfaaGreat
open Go.RowKit
theorem FnOK.calls {P:Program} {f:FuncId} {args:List PV} {Post:List RV→Prop} (h:FnOK P f args Post) (w:World) (hGL:GL w) (vals:Array Value) (hl:vals.size = args.length)
  (ha:∀ (i:Nat) (x:PV) (v:Value),args[i]? = some x→vals[i]? = some v→R (fun _=>none) (fun _=>False) w x v):Calls P f vals w fun e w'=>∃ rs,Post rs∧Res (fun _=>False) w rs e w':=
 h.2 w (fun _=>False) vals hGL (fun _ h=>h.elim) hl ha
structure EncOK {α:Type} (enc:α→List Value) (dat:α→List D) (sz:Nat):Prop where
 len:∀ x,(enc x).length = sz
 dlen:∀ x,(dat x).length = sz
 to_:∀ x (j:Nat) d u,(dat x)[j]? = some d→(enc x)[j]? = some u→∀ w X,Rd w X d u
 of_:∀ x (j:Nat) d u,(dat x)[j]? = some d→(enc x)[j]? = some u→∀ w X v,Rd w X d v→v = u
section
variable {α:Type} {enc:α→List Value} {dat:α→List D} {sz:Nat}
theorem EncOK.get (h:EncOK enc dat sz) (x:α) {j:Nat} {d:D} (hd:(dat x)[j]? = some d):∃ u,(enc x)[j]? = some u:=by
 have hj:=(List.getElem?_eq_some_iff.1 hd).1
 rw [h.dlen] at hj
 exact ⟨_,List.getElem?_eq_getElem (by rw [h.len];exact hj)⟩
end
def ab (x:Int):List D:=[.int .i64 x]
theorem wN {Y:Nat→Prop} {B:Nat} {w:World} {b:Bool} {v:Value} {g:Nat→Prop} (h:RR Y B w (.d (.bool b)) v g):v = .bool b:=by
 cases h with
 |d _ _ h=>cases h;rfl
theorem Res.one {X:Nat→Prop} {w:World} {r:RV} {e:Ending} {w':World} (h:Res X w [r] e w'):∃ Y v g,e = .returned v∧RR Y w.heap.size w' r v g∧Below w.heap.size w w':=by
 obtain ⟨vs,gs,h1,h2,h3,_,h5⟩:=h
 have h1':vs.size = 1:=h2
 exact ⟨_,vs[0],gs 0,by rw [h1];simp only [cJ,h1',dif_pos],h5 0 r vs[0] rfl (by simp [h1']),h3.toBelow⟩
theorem Res.three {X:Nat→Prop} {w:World} {r0 r1 r2:RV} {e:Ending} {w':World} (h:Res X w [r0,r1,r2] e w'):∃ Y v0 v1 v2 g0 g1 g2,e = .returned (.tuple #[v0,v1,v2])∧RR Y w.heap.size w' r0 v0 g0∧RR Y w.heap.size w' r1 v1 g1∧RR Y w.heap.size w' r2 v2 g2∧Below w.heap.size w w':=by
 obtain ⟨vs,gs,h1,h2,h3,_,h5⟩:=h
 have h2':vs.size = 3:=h2
 have hne:¬ vs.size = 1:=by omega
 refine ⟨_,vs[0],vs[1],vs[2],gs 0,gs 1,gs 2,?_,h5 0 r0 vs[0] rfl (by simp [h2']),h5 1 r1 vs[1] rfl (by simp [h2']),h5 2 r2 vs[2] rfl (by simp [h2']),h3.toBelow⟩
 rw [h1]
 simp only [cJ,hne,dif_neg,not_false_eq_true]
 congr 2
 apply Array.ext
 ·simp [h2']
 ·intro i hi hi2
  have:i = 0∨i = 1∨i = 2:=by simp at hi2;omega
  rcases this with rfl|rfl|rfl<;>simp
def apartB (v v':Value):Prop:=v.ownBlock = none∨v.ownBlock≠v'.ownBlock
theorem apartB.symm {v v':Value} (h:apartB v v'):apartB v' v:=by
 rcases h with h|h
 ·by_cases e:v'.ownBlock = none
  ·exact .inl e
  ·exact .inr (by rw [h];exact e)
 ·exact .inr (Ne.symm h)
theorem ye {m:Nat→Option Loc} {X:Nat→Prop} {w:World} {x0 x1:PV} {v0 v1:Value} (h0:R m X w x0 v0) (h1:R m X w x1 v1):∀ (i:Nat) (x:PV) (v:Value),[x0,x1][i]? = some x→#[v0,v1][i]? = some v→R m X w x v:=by
 intro i x v hx hv
 match i with
 |0=>simp at hx hv;subst hx hv;exact h0
 |1=>simp at hx hv;subst hx hv;exact h1
 |i + 2=>simp at hx
noncomputable def lY {β:Type} (V:Prop) (F:β):Option β:=if bP V = true then some F else none
theorem cW {β:Type} {V:Prop} {F:β} (h:V):lY V F = some F:=by unfold lY;rw [if_pos (aQ h)]
theorem dF {β:Type} {V:Prop} {F:β} (h:¬ V):lY V F = none:=by unfold lY;rw [if_neg];rw [aG h];simp
end Go.Proofs.YtphakidbddamfaaGreat
namespace Go.Proofs.YtphakidbddamfaaGreat
open Go.ChangeShapes Go.WideShapes Go.ChangeAt Go.RowKit Go.Deep
section
variable {H:Type} {enc:TypeId × Value→H} {P:Program} {w:World} {base:Nat} {spare:Nat→Bool} {held:Bool}
def yw (w:World) (ds:List D) (cs:List Value):Prop:=cs.length = ds.length∧∀ (j:Nat) d u,ds[j]? = some d→cs[j]? = some u→Rd w (fun _=>False) d u
def OpenK (enc:TypeId × Value→H) (P:Program) (w:World) (base:Nat) (spare:Nat→Bool) (held:Bool) {α:Type} (dat:α→List D) (ok:α→Prop) (t:TypeId) (sz:Nat):Prop:=
 (∀ x,(dat x).length = sz)∧∀ fuel cs y,DataW.trod enc P w base spare held fuel t cs = some y→∃ x:α,ok x∧yw w (dat x) cs
theorem OpenK.int {t:TypeId} (ht:P.underlying t = some (.int .i64)):OpenK enc P w base spare held ab (fun _=>True) t 1:=by
 refine ⟨fun _=>rfl,fun fuel cs y h=>?_⟩
 obtain ⟨n,rfl,_,_⟩:=DataW.trod_int ht h
 refine ⟨n,trivial,rfl,fun j d u hd hu=>?_⟩
 cases j with
 |zero=>simp [ab] at hd hu;subst hd hu;exact .int _ _
 |succ j=>simp [ab] at hd
def uZ (b:Bool):List D:=[.bool b]
theorem OpenK.bool {t:TypeId} (ht:P.underlying t = some .bool):OpenK enc P w base spare held uZ (fun _=>True) t 1:=by
 refine ⟨fun _=>rfl,fun fuel cs y h=>?_⟩
 obtain ⟨n,rfl,_⟩:=DataW.trod_bool ht h
 refine ⟨n,trivial,rfl,fun j d u hd hu=>?_⟩
 cases j with
 |zero=>simp [uZ] at hd hu;subst hd hu;exact .bool _
 |succ j=>simp [uZ] at hd
def aZ (s:ByteArray):List D:=[.str s]
theorem OpenK.str {t:TypeId} (ht:P.underlying t = some .string):OpenK enc P w base spare held aZ (fun s=>s.size≤maxLen) t 1:=by
 refine ⟨fun _=>rfl,fun fuel cs y h=>?_⟩
 obtain ⟨n,rfl,_,hl⟩:=DataW.trod_string ht h
 refine ⟨n,hl,rfl,fun j d u hd hu=>?_⟩
 cases j with
 |zero=>simp [aZ] at hd hu;subst hd hu;exact .str _
 |succ j=>simp [aZ] at hd
theorem OpenK.map {α β:Type} {dat:α→List D} {ok:α→Prop} {t:TypeId} {sz:Nat} (h:OpenK enc P w base spare held dat ok t sz) (f:α→β) (dat':β→List D) (ok':β→Prop) (hl:∀ y,(dat' y).length = sz) (hd:∀ x,dat' (f x) = dat x) (ho:∀ x,ok x→ok' (f x)):OpenK enc P w base spare held dat' ok' t sz:=by
 refine ⟨hl,fun fuel cs y hy=>?_⟩
 obtain ⟨x,h1,h2⟩:=h.2 fuel cs y hy
 exact ⟨f x,ho x h1,by rw [hd];exact h2⟩
def aF {α:Type} (sz:Nat) (dat:α→List D) (xs:List α):List D:=[.lst sz (xs.map dat)]
theorem OpenK.slc {α:Type} {dat:α→List D} {ok:α→Prop} {t e:TypeId} {sz:Nat} (h:OpenK enc P w base spare held dat ok e sz) (ht:P.underlying t = some (.slice e)) (hC:P.cellsOf e = sz) (hsz:0 < sz):
  OpenK enc P w base spare held (aF sz dat) (fun xs=>xs.length≤maxLen∧∀ x ∈ xs,ok x) t 1:=by
 refine ⟨fun _=>rfl,fun fuel cs y hy=>?_⟩
 rcases open_slice ht hy with ⟨rfl,_⟩|⟨a,len,cap,m,n,D',Pl,rfl,hb,hl,hm,hmm,_,hx⟩
 ·refine ⟨[],⟨by simp,by simp⟩,rfl,fun j d u hd hu=>?_⟩
  cases j with
  |zero=>simp [aF] at hd hu;subst hd hu;exact .nil _ _ _
  |succ j=>simp [aF] at hd
 ·have hlm:len≤m:=by rw [hmm];split<;>omega
  obtain ⟨xs,hxl,hxs⟩:=lD (p:=fun i (x:α)=>ok x∧∀ (j:Nat) d,(dat x)[j]? = some d→∃ u,w.cell? ((a.add (i * sz)).add j) = some u∧Rd w (fun _=>False) d u) len fun i hi=>by
   obtain ⟨cs',h1,h2⟩:=hx i (by omega)
   obtain ⟨x,h3,h4⟩:=h.2 _ _ _ h2
   rw [hC] at h1
   obtain ⟨hcl,_,hc⟩:=World.cells?_some h1
   refine ⟨x,h3,fun j d hd=>?_⟩
   have hj:j < sz:=by rw [←h.1 x];exact (List.getElem?_eq_some_iff.1 hd).1
   have hjc:j < cs'.length:=by rw [h4.1,h.1];exact hj
   refine ⟨cs'[j],by rw [hc j hj];exact List.getElem?_eq_getElem hjc,h4.2 j d _ hd (List.getElem?_eq_getElem hjc)⟩
  refine ⟨xs,⟨by omega,fun x hx=>?_⟩,rfl,fun j d u hd hu=>?_⟩
  ·obtain ⟨i,hi⟩:=List.getElem?_of_mem hx
   exact (hxs i x hi).1
  ·cases j with
   |succ j=>simp [aF] at hd
   |zero=>
    simp [aF] at hd hu
    subst hd hu
    obtain ⟨b,off,spot⟩:=a
    rcases Nat.eq_zero_or_pos len with h0|h0
    ·have:xs = []:=List.eq_nil_of_length_eq_zero (by omega)
     subst this
     subst h0
     exact .nil _ _ _
    ·have hsp:spot = none:=by
      have hd0:=List.getElem?_eq_getElem (show 0 < (dat xs[0]).length by rw [h.1];exact hsz)
      obtain ⟨u,hu,_⟩:=(hxs 0 xs[0] (List.getElem?_eq_getElem (by omega))).2 0 _ hd0
      simpa [Addr.add] using World.cell?_spot hu
     subst hsp
     have key:∀ (k:Nat) e (j:Nat) d,(xs.map dat)[k]? = some e→e[j]? = some d→∃ u,w.cell? ⟨b,off + (k * sz + j),none⟩ = some u∧Rd w (fun _=>False) d u:=by
      intro k e j d he hd
      rw [ap] at he
      cases hk:xs[k]? with
      |none=>rw [hk] at he;cases he
      |some x=>
       rw [hk] at he
       cases he
       obtain ⟨u,h1,h2⟩:=(hxs k x hk).2 j d hd
       have e2:((⟨b,off,none⟩:Addr).add (k * sz)).add j = ⟨b,off + (k * sz + j),none⟩:=by
        unfold Addr.add
        split<;>split<;>simp_all<;>omega
       rw [e2] at h1
       exact ⟨u,h1,h2⟩
     rw [←hxl,←List.length_map (f:=dat)]
     refine .lst _ _ _ _ _ (by rw [an];omega) (fun e he=>?_) (fun k e j d he hd=>⟨fun h=>h,?_⟩) (fun k e j d v he hd hv=>?_)
     ·obtain ⟨x,_,rfl⟩:=List.mem_map.1 he;exact h.1 x
     ·obtain ⟨u,q1,_⟩:=key k e j d he hd;exact ⟨u,q1⟩
     ·obtain ⟨u,q1,q2⟩:=key k e j d he hd
      rw [hv] at q1
      cases q1
      exact q2
def OpenFs (enc:TypeId × Value→H) (P:Program) (w:World) (base:Nat) (spare:Nat→Bool) (held:Bool) (o:Nat) (fs:List Field) {α:Type} (dat:α→List D) (ok:α→Prop) (sz:Nat):Prop:=
 (∀ x,(dat x).length = sz)∧∀ cs:List Value,(∀ f ∈ fs,∃ n y,DataW.trod enc P w base spare held n f.type ((cs.drop f.offset).take (P.cellsOf f.type)) = some y)→∃ x:α,ok x∧∀ (j:Nat) d u,(dat x)[j]? = some d→cs[o + j]? = some u→Rd w (fun _=>False) d u
theorem OpenFs.nil (o:Nat):OpenFs enc P w base spare held o [] (fun _:Unit=>[]) (fun _=>True) 0:=
 ⟨fun _=>rfl,fun cs _=>⟨(),trivial,fun j d u hd _=>by simp at hd⟩⟩
theorem OpenFs.cons {α β:Type} {dat:α→List D} {dat':β→List D} {ok:α→Prop} {ok':β→Prop} {o sz sz':Nat} {f:Field} {fs:List Field} (h:OpenK enc P w base spare held dat ok f.type sz) (ho:f.offset = o) (hC:P.cellsOf f.type = sz) (h':OpenFs enc P w base spare held (o + sz) fs dat' ok' sz'):
  OpenFs enc P w base spare held o (f::fs) (fun p:α × β=>dat p.1++dat' p.2) (fun p=>ok p.1∧ok' p.2) (sz + sz'):=by
 refine ⟨fun x=>by rw [List.length_append,h.1,h'.1],fun cs hc=>?_⟩
 obtain ⟨n,y,hy⟩:=hc f (by simp)
 obtain ⟨x,h1,h2⟩:=h.2 _ _ _ hy
 obtain ⟨x',h3,h4⟩:=h'.2 cs fun g hg=>hc g (List.mem_cons_of_mem _ hg)
 refine ⟨(x,x'),⟨h1,h3⟩,fun j d u hd hu=>?_⟩
 by_cases hj:j < sz
 ·rw [List.getElem?_append_left (by rw [h.1];exact hj)] at hd
  refine h2.2 j d u hd ?_
  rw [ho,hC,List.getElem?_take_of_lt hj,List.getElem?_drop]
  exact hu
 ·rw [List.getElem?_append_right (by rw [h.1];omega),h.1] at hd
  exact h4 (j - sz) d u hd (by rw [show o + sz + (j - sz) = o + j by omega];exact hu)
theorem OpenK.st {α:Type} {dat:α→List D} {ok:α→Prop} {t:TypeId} {fs:Array Field} {sz:Nat} (h:OpenFs enc P w base spare held 0 fs.toList dat ok sz) (ht:P.underlying t = some (.struct fs)) (hC:P.cellsOf t = sz):OpenK enc P w base spare held dat ok t sz:=by
 refine ⟨h.1,fun fuel cs y hy=>?_⟩
 obtain ⟨ys,n,_,_,hlen,hyl,hf⟩:=DataW.trod_struct ht hy
 obtain ⟨x,h1,h2⟩:=h.2 cs fun f hfm=>by
  obtain ⟨i,hi⟩:=List.getElem?_of_mem hfm
  have hi':fs[i]? = some f:=by simpa using hi
  have hlt:i < ys.length:=by rw [hyl];exact (Array.getElem?_eq_some_iff.1 hi').1
  exact ⟨n,ys[i],by rw [hf i f hi',List.getElem?_eq_getElem hlt]⟩
 exact ⟨x,h1,by rw [hlen,hC,h.1],fun j d u hd hu=>h2 j d u hd (by simpa using hu)⟩
end
end Go.Proofs.YtphakidbddamfaaGreat
namespace Go.Proofs.YtphakidbddamfaaGreat
open Go.ChangeShapes Go.WideShapes Go.ChangeAt Go.RowKit Go.Deep
theorem xE {P:Program} {f:FuncId} {args:List PV} (h:FnEq P f args [.d (.bool true)]) (w:World) (hGL:GL w) (vals:Array Value) (hl:vals.size = args.length)
  (ha:∀ (i:Nat) (x:PV) (v:Value),args[i]? = some x→vals[i]? = some v→R (fun _=>none) (fun _=>False) w x v):Calls P f vals w fun e w'=>e = .returned (.bool true)∧Below w.heap.size w w':=by
 refine (FnOK.calls h w hGL vals hl ha).mono ?_
 rintro e w' ⟨rs,rfl,hr⟩
 obtain ⟨Y,v0,g0,rfl,h0,hb⟩:=hr.one
 exact ⟨by rw [wN h0],hb⟩
theorem nO {w:World} {d:D} {v:Value} {vs:List Value} (hv:vs = [v]) (h:yw w [d] vs):R (fun _=>none) (fun _=>False) w (.d d) v:=by
 subst hv
 exact .d _ _ (h.2 0 d v rfl rfl)
end Go.Proofs.YtphakidbddamfaaGreat
set_option linter.unusedSimpArgs false
set_option linter.unusedVariables false
set_option maxHeartbeats 2000000
set_option maxRecDepth 100000
namespace Go.Proofs.YtphakidbddamfaaGreat
section
variable {α β:Type}
def fm (p:α→Bool) (f:α→β) (l:List α):List β:=(l.filter p).map f
theorem xn {p:α→Bool} {f:α→β} {l:List α} {k:Nat} {x:α} (hx:l[k]? = some x) (h:p x = true):fm p f (l.take (k + 1)) = fm p f (l.take k)++[f x]:=by
 unfold fm;rw [bW hx,List.filter_append];simp [h]
theorem xH {p:α→Bool} {f:α→β} {l:List α} {k:Nat} {x:α} (hx:l[k]? = some x) (h:p x = false):fm p f (l.take (k + 1)) = fm p f (l.take k):=by
 unfold fm;rw [bW hx,List.filter_append];simp [h]
theorem qk (p:α→Bool) (f:α→β) (l:List α):(fm p f l).length≤l.length:=by unfold fm;rw [an];exact List.length_filter_le _ _
theorem rr (p:α→Bool) (f:α→β) (l:List α) (k:Nat):(fm p f (l.take k)).length≤k:=Nat.le_trans (qk _ _ _) (List.length_take_le _ _)
theorem fm_mem {p:α→Bool} {f:α→β} {l:List α} {y:β}:y ∈ fm p f l↔∃ x ∈ l,p x = true∧f x = y:=by
 unfold fm;simp [and_assoc]
theorem hZ {f:α→β} {l:List α} {k:Nat} {x:α} (hx:l[k]? = some x):(l.take (k + 1)).map f = (l.take k).map f++[f x]:=by rw [bW hx];simp
def cn (p:α→Bool) (l:List α):Nat:=l.countP p
theorem t8 {p:α→Bool} {l:List α} {k:Nat} {x:α} (hx:l[k]? = some x) (h:p x = true):cn p (l.take (k + 1)) = cn p (l.take k) + 1:=by
 unfold cn;rw [bW hx,List.countP_append];simp [h]
theorem vZ {p:α→Bool} {l:List α} {k:Nat} {x:α} (hx:l[k]? = some x) (h:p x = false):cn p (l.take (k + 1)) = cn p (l.take k):=by
 unfold cn;rw [bW hx,List.countP_append];simp [h]
theorem xK (p:α→Bool) (l:List α):cn p l≤l.length:=List.countP_le_length
theorem jv (p:α→Bool) (l:List α) (k:Nat):cn p (l.take k)≤k:=Nat.le_trans (xK _ _) (List.length_take_le _ _)
def ij (p:α→Bool):List α→Nat→Int
 |[],_=>-1
 |x::r,i=>if p x = true then (i:Int) else ij p r (i + 1)
theorem mx {p:α→Bool}:∀ {l:List α} {k:Nat} {x:α} {i:Nat},l[k]? = some x→p x = true→(∀ y ∈ l.take k,p y = false)→ij p l i = ((k + i:Nat):Int)
 |[],k,x,i,h,_,_=>by simp at h
 |y::r,0,x,i,h,hp,_=>by simp at h;subst h;simp [ij,hp]
 |y::r,k + 1,x,i,h,hp,hn=>by
  have h1:p y = false:=hn y (by simp)
  have h2:=mx (i:=i + 1) (l:=r) (by simpa using h) hp (fun z hz=>hn z (by rw [List.take_succ_cons];exact List.mem_cons_of_mem _ hz))
  rw [ij,if_neg (by rw [h1];simp),h2]
  congr 1;omega
theorem ji {p:α→Bool}:∀ {l:List α} {i:Nat},(∀ y ∈ l,p y = false)→ij p l i = -1
 |[],i,_=>rfl
 |y::r,i,h=>by
  rw [ij,if_neg (by rw [h y (by simp)];simp)]
  exact ji fun z hz=>h z (List.mem_cons_of_mem _ hz)
theorem k6 {p:α→Bool}:∀ (l:List α) (i:Nat),(ij p l i = -1∧∀ y ∈ l,p y = false)∨∃ k x,ij p l i = ((k + i:Nat):Int)∧l[k]? = some x∧p x = true∧∀ y ∈ l.take k,p y = false
 |[],i=>.inl ⟨rfl,fun y h=>by simp at h⟩
 |z::r,i=>by
  by_cases hz:p z = true
  ·exact .inr ⟨0,z,by simp [ij,hz],rfl,hz,fun y h=>by simp at h⟩
  ·have hz':p z = false:=by simpa using hz
   rcases k6 r (i + 1) with ⟨h1,h2⟩|⟨k,x,h1,h2,h3,h4⟩
   ·exact .inl ⟨by rw [ij,if_neg hz,h1],fun y hy=>by rcases List.mem_cons.1 hy with rfl|hy;exact hz';exact h2 y hy⟩
   ·refine .inr ⟨k + 1,x,by rw [ij,if_neg hz,h1];congr 1;omega,by simpa using h2,h3,fun y hy=>?_⟩
    rw [List.take_succ_cons] at hy
    rcases List.mem_cons.1 hy with rfl|hy
    ·exact hz'
    ·exact h4 y hy
theorem wK (p:α→Bool) (l:List α):decide (0≤ij p l 0) = l.any p:=by
 rcases k6 (p:=p) l 0 with ⟨h1,h2⟩|⟨k,x,h1,h2,h3,_⟩
 ·rw [h1]
  have:l.any p = false:=by rw [List.any_eq_false];intro x hx;simp [h2 x hx]
  rw [this];rfl
 ·rw [h1]
  have:l.any p = true:=List.any_eq_true.2 ⟨x,List.mem_of_getElem? h2,h3⟩
  rw [this];simp
theorem kh {p:α→Bool} {l:List α} {k:Nat} {x:α} (h:∀ y ∈ l.take k,p y = false) (hx:l[k]? = some x) (hp:p x = false):∀ y ∈ l.take (k + 1),p y = false:=by
 intro y hy
 rw [bW hx] at hy
 rcases List.mem_append.1 hy with hy|hy
 ·exact h y hy
 ·rw [List.mem_singleton] at hy;subst hy;exact hp
theorem me {p:α→Bool} {l:List α} {k:Nat} (h:∀ y ∈ l.take k,p y = false) (hk:l.length≤k):∀ y ∈ l,p y = false:=by rwa [List.take_of_length_le hk] at h
def Upto (A:Nat→α→Prop) (l:List α) (k:Nat):Prop:=∀ j x,j < k→l[j]? = some x→A j x
theorem Upto.zero (A:Nat→α→Prop) (l:List α):Upto A l 0:=fun _ _ h=>absurd h (by omega)
theorem Upto.succ {A:Nat→α→Prop} {l:List α} {k:Nat} {x:α} (h:Upto A l k) (hx:l[k]? = some x) (hf:A k x):Upto A l (k + 1):=by
 intro j y hj hy
 by_cases e:j = k
 ·subst e
  rw [hx] at hy
  cases hy
  exact hf
 ·exact h j y (by omega) hy
def All (A:Nat→α→Prop) (l:List α):Prop:=∀ j x,l[j]? = some x→A j x
theorem All.not_at {A:Nat→α→Prop} {l:List α} {k:Nat} {x:α} (hx:l[k]? = some x) (hf:¬ A k x):¬ All A l:=fun h=>hf (h k x hx)
theorem Upto.all {A:Nat→α→Prop} {l:List α} {k:Nat} (h:Upto A l k) (hk:l.length≤k):All A l:=fun j x hx=>h j x (Nat.lt_of_lt_of_le (List.getElem?_eq_some_iff.1 hx).1 hk) hx
end
structure CapOK (caps:List PV):Prop where
 t1:∀ hp,caps.map (uE hp) = caps
 t2:∀ hp,caps.map (iy hp) = caps
 ren:∀ σ,fl σ caps = caps
 bd:∀ nx,i3 nx caps = true
theorem wL (ds:List D):CapOK [.eptr ds]:=⟨fun _=>rfl,fun _=>rfl,fun _=>rfl,fun _=>rfl⟩
theorem x7:CapOK []:=⟨fun _=>rfl,fun _=>rfl,fun _=>rfl,fun _=>rfl⟩
end Go.Proofs.YtphakidbddamfaaGreat
namespace Go.Proofs.YtphakidbddamfaaGreat
open Go.RowKit
theorem bE (n lo hi:Int):FnEq Tryz.prog 111 [.d (.int .i64 n),.d (.int .i64 lo),.d (.int .i64 hi)] [.d (.bool (decide (lo≤n) && decide (n≤hi)))]:=by
 refine aO aa Tryz.func111 rfl rfl ?_;simp only [Tryz.ntmps111,aR,aM,Nat.reduceAdd,Nat.reduceSub,aW]
 repeat' (first|((with_reducible first|(refine hK _ ?_;clear hK K)|refine aj fun U O=>?_|apply ah|(apply Z<;>(intro hc;try simp at hc;try omega)))<;>try simp only [go_sem])|(with_reducible first|apply ag|(refine O _ ?_;clear O U)|refine kN yc fun K hK=>?_|refine kO fun K hK=>?_|refine aI ?_)|(refine xS rfl fun U O=>?_;simp only [go_sem])|fail)
 ·refine ak rfl rfl (by simp [am,lk]) ?_;simp [hc]
 ·refine ak rfl rfl (by simp [am,lk]) ?_;simp;omega
theorem cx (n lo hi:Int):FnEq Tryz.prog 112 [.d (.int .i64 n),.d (.int .i64 lo),.d (.int .i64 hi)] [.d (.bool (decide (lo≤n) && decide (n≤hi)))]:=by
 refine aO aa Tryz.func112 rfl rfl ?_;simp only [Tryz.ntmps112,aR,aM,Nat.reduceAdd,Nat.reduceSub,aW]
 repeat' (first|((with_reducible first|(refine hK _ ?_;clear hK K)|refine aj fun U O=>?_|apply ah|(apply Z<;>(intro hc;try simp at hc;try omega)))<;>try simp only [go_sem])|(with_reducible first|apply ag|(refine O _ ?_;clear O U)|refine kN yi fun K hK=>?_|refine kO fun K hK=>?_|refine aI ?_)|(refine xS rfl fun U O=>?_;simp only [go_sem])|fail)
 ·refine ak rfl rfl (by simp [am,lk]) ?_;simp [hc]
 ·refine ak rfl rfl (by simp [am,lk]) ?_;simp;omega
theorem eC (n:Int):FnEq Tryz.prog 113 [.d (.int .i64 n)] [.d (.bool (decide (0≤n) && decide (n≤100000)))]:=by
 refine aO aa Tryz.func113 rfl rfl ?_;simp only [Tryz.ntmps113,aR,aM,Nat.reduceAdd,Nat.reduceSub,aW]
 repeat' (first|((with_reducible first|(refine hK _ ?_;clear hK K)|refine aj fun U O=>?_|apply ah|(apply Z<;>(intro hc;try simp at hc;try omega)))<;>try simp only [go_sem])|(with_reducible first|apply ag|(refine O _ ?_;clear O U)|refine kN yl fun K hK=>?_|refine kO fun K hK=>?_|refine aI ?_)|((with_reducible apply CallK.eq);(· with_reducible first|exact bE _ _ _);(· simp [RV.flat,D.sc,ab]);try simp only [go_sem])|fail)
 refine ak rfl rfl (by simp [am,lk]) ?_;rfl
end Go.Proofs.YtphakidbddamfaaGreat
namespace Go.Proofs.YtphakidbddamfaaGreat
open Go.RowKit
structure ItemD where
 names:List ByteArray
 marks:List Int
 late:Bool
def ItemD.dat (x:ItemD):List D:=[.lst 1 (x.names.map aZ),.lst 1 (x.marks.map ab),.bool x.late]
def gC (u:UInt8):Bool:=(decide (65≤(u.toNat:Int)) && decide ((u.toNat:Int)≤90)) || (decide (48≤(u.toNat:Int)) && decide ((u.toNat:Int)≤57))
def NameOk (s:ByteArray):Prop:=(1≤s.size∧s.size≤5)∧∀ (i:Nat) (u:UInt8),s[i]? = some u→gC u = true
def yG (_:Nat) (m:Int):Prop:=0≤m∧m≤3
def ItOk (x:ItemD):Prop:=All (fun _ s=>NameOk s) x.names∧1≤x.names.length∧x.names.length≤3∧x.marks.length = x.names.length∧All yG x.marks
def ItsOk (l:List ItemD):Prop:=l.length≤14∧All (fun _ x=>ItOk x) l
theorem ItsOk.at_ {l:List ItemD} (h:ItsOk l) {k:Nat} {x:ItemD} (hx:l[k]? = some x):ItOk x:=h.2 k x hx
def ItFit (m:Nat) (x:ItemD):Prop:=x.names.length≤m∧(∀ s ∈ x.names,s.size≤m)∧x.marks.length≤m
theorem ItFit.mono {m m':Nat} (h:m≤m') {x:ItemD} (hx:ItFit m x):ItFit m' x:=⟨Nat.le_trans hx.1 h,fun s hs=>Nat.le_trans (hx.2.1 s hs) h,Nat.le_trans hx.2.2 h⟩
end Go.Proofs.YtphakidbddamfaaGreat
set_option linter.unusedSimpArgs false
set_option linter.unusedVariables false
set_option maxHeartbeats 2000000
set_option maxRecDepth 100000
namespace Go.Proofs.YtphakidbddamfaaGreat
open Go.ChangeShapes Go.WideShapes Go.ChangeAt Go.RowKit Go.Deep
theorem wY {xs:List Int} {e:List D} (he:e ∈ xs.map ab) {d:D} (hd:d ∈ e):d.sc:=by
 obtain ⟨x,_,rfl⟩:=List.mem_map.1 he
 rw [show ab x = [.int .i64 x] from rfl,List.mem_singleton] at hd
 subst hd
 simp [D.sc]
theorem bT (xs:List Int):iE (xs.map ab):=fun _ he _ hd=>wY he hd
section
variable {H:Type} {enc:TypeId × Value→H} {w:World} {base:Nat} {spare:Nat→Bool} {held:Bool}
end
end Go.Proofs.YtphakidbddamfaaGreat
set_option linter.unusedSimpArgs false
set_option linter.unusedVariables false
set_option maxHeartbeats 2000000
set_option maxRecDepth 100000
namespace Go.Proofs.YtphakidbddamfaaGreat
open Go.ChangeShapes Go.WideShapes Go.ChangeAt Go.RowKit Go.Deep
theorem cP (xs:List ByteArray):iE (xs.map aZ):=by
 intro e he d hd
 obtain ⟨x,_,rfl⟩:=List.mem_map.1 he
 rw [show aZ x = [.str x] from rfl,List.mem_singleton] at hd
 subst hd
 simp [D.sc]
section
variable {H:Type} {enc:TypeId × Value→H} {w:World} {base:Nat} {spare:Nat→Bool} {held:Bool}
end
end Go.Proofs.YtphakidbddamfaaGreat
set_option linter.unusedSimpArgs false
set_option linter.unusedVariables false
set_option maxHeartbeats 2000000
set_option maxRecDepth 100000
namespace Go.Proofs.YtphakidbddamfaaGreat
open Go.RowKit
theorem SrcOK.bytes {w:World} {X:Nat→Prop} {xs:List Int} {v:Value} (h:SrcOK w X 1 (xs.map fun n:Int=>[D.int .u8 n]) v):(∃ A c,xs = []∧v = .slice A 0 c)∨∃ b off c,v = .slice (some ⟨b,off,none⟩) xs.length c∧∀ i,i < xs.length→w.cell? ⟨b,off + i,none⟩ = some (.int .u8 (xs.getD i 0)):=by
 obtain ⟨_,⟨h1,A,c,h2⟩|⟨b,off,c,h1,_,h2⟩⟩:=h
 ·exact .inl ⟨A,c,by simpa using h1,h2⟩
 ·refine .inr ⟨b,off,c,by rw [h1,an],fun i hi=>?_⟩
  have hx:=List.getElem?_eq_getElem hi
  obtain ⟨u,h3,h4⟩:=h2 i [.int .u8 xs[i]] 0 (.int .u8 xs[i]) (by rw [ap,hx];rfl) rfl
  cases h4
  rw [List.getD_eq_getElem?_getD,hx]
  simpa using h3
section
variable {P:Program} {o:Oper} {s:AS} {KP:PV→Prop}
end
section
variable {P:Program} {o:Oper} {s:AS} {KP:PV→Prop}
theorem uo {es:List (List D)} {k off sz':Nat} {es':List (List D)} (hal:dd es k off = some (sz',es')):∃ e,es[k]? = some e∧e[off]? = some (.lst sz' es'):=by
 unfold dd at hal
 split at hal
 ·rename_i e he'
  split at hal
  ·rename_i he2;cases hal;exact ⟨e,he',he2⟩
  ·cases hal
 ·cases hal
theorem gS {t:TypeId} {x:Operand} {ti:TI} {id i' sz k off q ty sz':Nat} {es es':List (List D)} (ho:o.op = .load t x) (ht:cd P t ti = true) (hc:ti.cells = none) (hx:s.get x = .rptr id sz k off) (hg:ae s.hp id = some (.deep q ty sz es)) (hal:dd es k off = some (sz',es')) (ha:ae s.hp i' = some (.al id k off)) (hK:KP (.row i' es'.length)):PQ P o s KP:=by
 refine ⟨.row i' es'.length,fun X0 w0 m a w hs=>?_,hK⟩
 have h1:=hs.get x
 rw [hx] at h1
 obtain ⟨b,c,hm,he⟩:=h1.rptr_inv
 have hd:=hs.dp id q ty sz es hg
 rw [hm] at hd
 obtain ⟨_,arr,h2,h3,h4,h5,h6,Fp,h7,h8,h9⟩:=hd
 obtain ⟨e,g1,g2⟩:=uo hal
 have hkl:=(List.getElem?_eq_some_iff.1 g1).1
 have hjl:off < sz:=by rw [←h6 e (List.mem_of_getElem? g1)];exact (List.getElem?_eq_some_iff.1 g2).1
 have hlt:k * sz + off < arr.size:=by rw [h3];exact cr (by omega) hjl
 have hv:arr[k * sz + off]? = some arr[k * sz + off]:=by simp [hlt]
 have htr:=h9 k e off _ _ g1 g2 hv
 obtain ⟨⟨d,hd1,hd2⟩,_⟩:=i6 ht hc
 have hcell:w.cell? ⟨b,k * sz + off,none⟩ = some arr[k * sz + off]:=by simp [World.cell?,h2,hlt]
 have hala:=hs.al i' id k off ha
 have hn0:m.loc i' = some .nil→arr[k * sz + off] = .slice none 0 0→es'.length = 0:=fun _ e2=>by
  rw [e2] at htr
  cases htr
  rfl
 have hR:R m.loc (aU X0 m s.hp) w (.row i' es'.length) arr[k * sz + off]:=by
  obtain ⟨q2,ty2,sz2,es2,e2,sz3,es3,b2,c2,arr2,a1,a2,a3,a4,a5,a6⟩:=hala
  rw [hg] at a1
  cases a1
  rw [g1] at a2
  cases a2
  rw [g2] at a3
  cases a3
  rw [hm] at a4
  cases a4
  rw [h2] at a5
  cases a5
  rw [hv] at a6
  rcases a6 with ⟨a6,a7⟩|⟨b',c',a6,a7⟩
  ·have e7:=Option.some.inj a7
   rw [hn0 a6 e7,e7]
   exact .rowN _ a6
  ·have e7:=Option.some.inj a7
   rw [e7] at htr ⊢
   cases htr with
   |lst _ _ _ _ _ arr' ty' Fp' q1 q2 q3 q4=>exact .rowB _ _ _ _ a6 q4
 refine ⟨arr[k * sz + off],fun w' hb=>?_,fun w' hb=>hR.mono (fun _ _ h=>h) fun b hb1 hb2=>⟨hb.block b hb1,hb2⟩⟩
 have hcell':w'.cell? ⟨b,k * sz + off,none⟩ = some arr[k * sz + off]:=(hb.cell (p:=⟨b,k * sz + off,none⟩) (jj hcell)).trans hcell
 have hrun:(execOp a.eval o).run P w' = .ok (.value arr[k * sz + off]) w':=by
  simp [execOp,ho,he,Instr.loadAt,Instr.sureAddr,loadVar,fK hd1,hd2,run_load,hcell']
 unfold Oper.quietAt
 rw [hrun]
 exact ⟨rfl,rfl⟩
theorem mb {c:Code} {Q:Exit→AS→Prop} {id k off q ty sz sz':Nat} {es es':List (List D)} (hg:ae s.hp id = some (.deep q ty sz es)) (hal:dd es k off = some (sz',es')) (h:PW P c Q ⟨s.fr,(s.nx,.al id k off)::s.hp,s.nx + 1⟩):PW P c Q s:=by
 intro X0 w0 m a w hs
 have hd:=hs.dp id q ty sz es hg
 obtain ⟨e,g1,g2⟩:=uo hal
 cases hm:m.loc id with
 |none=>rw [hm] at hd;exact hd.elim
 |some l0=>
  rw [hm] at hd
  cases l0 with
  |nil=>rw [hd.1] at g1;simp at g1
  |blk b c0=>
   obtain ⟨_,arr,h2,h3,h4,h5,h6,Fp,h7,h8,h9⟩:=hd
   have hkl:=(List.getElem?_eq_some_iff.1 g1).1
   have hjl:off < sz:=by rw [←h6 e (List.mem_of_getElem? g1)];exact (List.getElem?_eq_some_iff.1 g2).1
   have hlt:k * sz + off < arr.size:=by rw [h3];exact cr (by omega) hjl
   have hv:arr[k * sz + off]? = some arr[k * sz + off]:=by simp [hlt]
   have htr:=h9 k e off _ _ g1 g2 hv
   have hne:id≠s.nx:=fun e=>by subst e;rw [hs.hget_nx] at hg;cases hg
   have hpar:ae ((s.nx,.al id k off)::s.hp) id = some (.deep q ty sz es):=by rw [ae,if_neg hne];exact hg
   generalize hvv:arr[k * sz + off] = v at hv htr
   have key:∀ l:Loc,((l = .nil∧v = .slice none 0 0)∨∃ b' c',l = .blk b' c'∧v = .slice (some ⟨b',0,none⟩) es'.length c')→Sim X0 w0 (bN m s.nx l) ⟨s.fr,(s.nx,.al id k off)::s.hp,s.nx + 1⟩ a w:=by
    intro l hl
    refine hs.alias_new ⟨q,ty,sz,es,e,sz',es',b,c0,arr,hpar,g1,g2,by rw [db m l hne];exact hm,h2,?_⟩
    rw [hv]
    rcases hl with ⟨rfl,rfl⟩|⟨b',c',rfl,rfl⟩
    ·exact .inl ⟨bp _ _ _,rfl⟩
    ·exact .inr ⟨b',c',bp _ _ _,rfl⟩
   cases htr with
   |nil=>exact h X0 w0 _ a w (key .nil (.inl ⟨rfl,rfl⟩))
   |lst _ _ _ b' c' arr' ty' Fp' q1 q2 q3 q4=>exact h X0 w0 _ a w (key (.blk b' c') (.inr ⟨b',c',rfl,rfl⟩))
end
end Go.Proofs.YtphakidbddamfaaGreat
