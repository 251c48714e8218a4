/-
  The abstract machine: a call walked inside the caller's state. The function may be given pointers to the caller's boxes, may change them and what they hold, and may answer with pointers. No program is named here.
-/
import Derived.Test.YtphakidbddamfaaGreatZMc
namespace Go.Proofs.YtphakidbddamfaaGreat
open Go.RowKit
def js (i:Nat):Blk→Blk
 |.box ty cs=>.pbox i ty cs
 |b=>b
def cA:Blk→Blk
 |.pbox _ ty cs=>.box ty cs
 |b=>b
def iN:List (Nat × Blk)→List (Nat × Blk)
 |[]=>[]
 |(i,b)::r=>(i,js i b)::iN r
def cj:List (Nat × Blk)→List (Nat × Blk)
 |[]=>[]
 |(i,b)::r=>(i,cA b)::cj r
def pd:List (Nat × Blk)→Bool
 |[]=>true
 |(_,b)::r=>b.pinOf.isNone && pd r
def d_:PV→PV
 |.d x=>.d x
 |.bptr id off=>.bptr id off
 |_=>.und
def dc:List (Nat × PV)→List (Nat × PV)
 |[]=>[]
 |(i,x)::r=>(i,d_ x)::dc r
def i_ (hp:List (Nat × Blk)):List (Nat × PV)→Prop
 |[]=>True
 |(_,.bptr id _)::r=>(∃ ty cs,ae hp id = some (.pbox id ty cs))∧i_ hp r
 |_::r=>i_ hp r
theorem ed:∀ (l:List (Nat × Blk)) (i:Nat),ae (iN l) i = (ae l i).map (js i)
 |[],_=>rfl
 |(j,b)::r,i=>by
  simp only [iN,ae]
  split
  ·rename_i h;subst h;rfl
  ·exact ed r i
theorem dy:∀ (l:List (Nat × Blk)) (i:Nat),ae (cj l) i = (ae l i).map cA
 |[],_=>rfl
 |(j,b)::r,i=>by
  simp only [cj,ae]
  split
  ·rfl
  ·exact dy r i
theorem ox:∀ {l:List (Nat × Blk)},pd l = true→∀ {i:Nat} {b:Blk},ae l i = some b→b.pinOf = none
 |(j,b)::r,h,i,b',hg=>by
  simp only [pd,Bool.and_eq_true] at h
  simp only [ae] at hg
  split at hg
  ·cases hg
   exact Option.isNone_iff_eq_none.1 h.1
  ·exact ox h.2 hg
theorem pQ:∀ (l:List (Nat × PV)) (i:Nat),lk (dc l) i = d_ (lk l i)
 |[],_=>rfl
 |(j,x)::r,i=>by
  simp only [dc,lk]
  split
  ·rfl
  ·exact pQ r i
theorem pL {hp:List (Nat × Blk)}:∀ {l:List (Nat × PV)},i_ hp l→∀ {i id off:Nat},lk l i = .bptr id off→∃ ty cs,ae hp id = some (.pbox id ty cs)
 |(j,x)::r,h,i,id,off,hl=>by
  simp only [lk] at hl
  split at hl
  ·subst hl
   exact h.1
  ·have hr:i_ hp r:=by
    cases x<;>first|exact h|exact h.2
   exact pL hr hl
theorem pinK_has {m:Mp} {i b:Nat} {blk:Blk}:(js i blk).has m i b↔blk.has m i b:=by cases blk<;>exact Iff.rfl
theorem unpinK_has {m:Mp} {i b:Nat} {blk:Blk}:(cA blk).has m i b↔blk.has m i b:=by cases blk<;>exact Iff.rfl
theorem pinK_ok {m:Nat→Option Loc} {X:Nat→Prop} {w:World} {i:Nat} {blk:Blk} {l:Loc}:(js i blk).ok m X w l↔blk.ok m X w l:=by
 cases blk<;>first|exact Iff.rfl|(cases l<;>exact Iff.rfl)
theorem unpinK_ok {m:Nat→Option Loc} {X:Nat→Prop} {w:World} {blk:Blk} {l:Loc}:(cA blk).ok m X w l↔blk.ok m X w l:=by
 cases blk<;>first|exact Iff.rfl|(cases l<;>exact Iff.rfl)
theorem sO (X0:Nat→Prop) (m:Mp) (hp:List (Nat × Blk)):aU X0 m (iN hp) = aU X0 m hp:=by
 funext b
 apply propext
 constructor
 ·rintro (h|⟨id,blk,h1,h2⟩)
  ·exact .inl h
  ·rw [ed] at h1
   cases e:ae hp id with
   |none=>rw [e] at h1;cases h1
   |some blk0=>
    rw [e] at h1
    cases h1
    exact .inr ⟨id,blk0,e,pinK_has.1 h2⟩
 ·rintro (h|⟨id,blk,h1,h2⟩)
  ·exact .inl h
  ·exact .inr ⟨id,js id blk,by rw [ed,h1];rfl,pinK_has.2 h2⟩
theorem qt (X0:Nat→Prop) (m:Mp) (hp:List (Nat × Blk)):aU X0 m (cj hp) = aU X0 m hp:=by
 funext b
 apply propext
 constructor
 ·rintro (h|⟨id,blk,h1,h2⟩)
  ·exact .inl h
  ·rw [dy] at h1
   cases e:ae hp id with
   |none=>rw [e] at h1;cases h1
   |some blk0=>
    rw [e] at h1
    cases h1
    exact .inr ⟨id,blk0,e,unpinK_has.1 h2⟩
 ·rintro (h|⟨id,blk,h1,h2⟩)
  ·exact .inl h
  ·exact .inr ⟨id,cA blk,by rw [dy,h1];rfl,unpinK_has.2 h2⟩
theorem hget_pin_deep {hp:List (Nat × Blk)} {id q ty sz:Nat} {es:List (List D)}:ae (iN hp) id = some (.deep q ty sz es)↔ae hp id = some (.deep q ty sz es):=by
 rw [ed]
 cases ae hp id with
 |none=>simp
 |some b=>cases b<;>simp [js]
theorem hget_pin_al {hp:List (Nat × Blk)} {id par k j:Nat}:ae (iN hp) id = some (.al par k j)↔ae hp id = some (.al par k j):=by
 rw [ed]
 cases ae hp id with
 |none=>simp
 |some b=>cases b<;>simp [js]
theorem hget_unpin_deep {hp:List (Nat × Blk)} {id q ty sz:Nat} {es:List (List D)}:ae (cj hp) id = some (.deep q ty sz es)↔ae hp id = some (.deep q ty sz es):=by
 rw [dy]
 cases ae hp id with
 |none=>simp
 |some b=>cases b<;>simp [cA]
theorem hget_unpin_al {hp:List (Nat × Blk)} {id par k j:Nat}:ae (cj hp) id = some (.al par k j)↔ae hp id = some (.al par k j):=by
 rw [dy]
 cases ae hp id with
 |none=>simp
 |some b=>cases b<;>simp [cA]
def xy (G:List (Nat × TI)) (fn:Func) (s:AS) (dst:Option Tmp) (K:AS→Prop):Exit→AS→Prop
 |.normal,s2|.ret,s2=>∃ xs,dB G s2 fn.results.toList = some xs∧i_ s2.hp s.fr.l∧(∀ id q ty sz es,ae s2.hp id = some (.deep q ty sz es)→q = 0)∧K (AS.put ⟨⟨s.fr.n,dc s.fr.l⟩,cj s2.hp,s2.nx⟩ dst (dG xs))
 |_,_=>False
theorem ct {P:Program} {G:List (Nat × TI)} (hG:GOK P G) {o:Oper} {s:AS} {K:AS→Prop} {f:Operand} {args:Array Operand} {argTypes:Array TypeId} {fid:FuncId} {fn:Func} {c:Code} (ho:o.op = .call {callee:=.value f,args:=args,argTypes:=argTypes}) (hf:s.get f = .fn fid []) (hfn:P.funcs[fid]? = some fn) (hnm:(fn.name == "runtime.NumGoroutine") = false) (hb:fn.body = some c) (hnp:pd s.hp = true)
  (h:PW P c (xy G fn s o.dst K) ⟨⟨args.size + (fn.ntmps - args.size),aW 0 (args.toList.map s.get)⟩,iN s.hp,s.nx⟩):PO P o s K:=by
 intro X0 w0 m a w Q hs
 have hfv:=hs.get f
 rw [hf] at hfv
 have hfe:a.eval f = .func (.func fid) #[] #[]:=by
  generalize a.eval f = v at hfv
  cases hfv with
  |fn _ _ vs hl h=>have:vs = #[]:=Array.eq_empty_of_size_eq_zero hl;subst this;rfl
 have hrun:(execOp a.eval o).run P w = .ok (.enter fid (args.map a.eval)) w:=by
  have e2':¬ fn.name = "runtime.NumGoroutine":=by simpa using hnm
  have e3':¬ fn.body = none:=fun h=>by rw [hb] at h;cases h
  simp [execOp,ho,resolve,hfe,Deferred.ofValue,invoke,callFunc,hfn]
  rw [if_neg e2',if_neg e3']
 unfold Oper.wp
 rw [hrun]
 simp only [Oper.upon_enter]
 refine calls_of_wp hfn hb ?_
 have hO:=sO X0 m s.hp
 let chg:Nat→Prop:=fun b=>∃ id blk,ae s.hp id = some blk∧blk.has m id b
 have hchg:∀ b,chg b→(w0.w.heap.size≤b∨w0.chg b)∧b < w.heap.size:=fun b ⟨id,blk,h1,h2⟩=>hs.own id blk b h1 h2
 have hs1:Sim X0 ⟨w,chg,fun p=>m.loc p⟩ m ⟨⟨args.size + (fn.ntmps - args.size),aW 0 (args.toList.map s.get)⟩,iN s.hp,s.nx⟩ {tmps:=args.map a.eval++Array.replicate (fn.ntmps - (args.map a.eval).size) undef,defers:=[]} w:=by
  refine ⟨KeepB.refl _ _,fun b hb=>?_,by simp,fun i=>?_,rfl,fun id blk h=>?_,fun id p ty sz es h=>?_,fun id par k j h=>?_,fun id blk p h hpo=>?_,fun id id' blk blk' b h h' h1 h2=>?_,fun id blk b h h1=>?_,hs.nx,⟨hs.glob,fun b hb=>hs.above (hchg b hb).1⟩⟩
  ·obtain ⟨h1,h2⟩:=hs.x0 b hb
   refine ⟨Nat.lt_of_lt_of_le h1 hs.below.size,fun h3=>?_⟩
   rcases (hchg b h3).1 with h4|h4
   ·omega
   ·exact h2 h4
  ·show R _ _ _ (lk (aW 0 (args.toList.map s.get)) i) _
   rw [kx,if_pos (Nat.zero_le _),Nat.sub_zero,hO]
   by_cases hi:i < args.size
   ·have e1:(args.map a.eval++Array.replicate (fn.ntmps - (args.map a.eval).size) undef).getD i undef = a.eval args[i]:=by
     rw [Array.getD_eq_getD_getElem?,Array.getElem?_append_left (by simpa using hi)]
     simp [hi]
    have e2:(args.toList.map s.get).getD i .und = s.get args[i]:=by
     rw [List.getD_eq_getElem?_getD]
     simp [hi]
    rw [e1,e2]
    exact hs.get _
   ·rw [List.getD_eq_getElem?_getD,List.getElem?_eq_none (by simp;omega)]
    exact .und _
  ·rw [ed] at h
   cases e:ae s.hp id with
   |none=>rw [e] at h;cases h
   |some b0=>
    rw [e] at h
    cases h
    obtain ⟨l,h1,h2⟩:=hs.hp id b0 e
    rw [hO]
    exact ⟨l,h1,pinK_ok.2 h2⟩
  ·exact hs.dp id p ty sz es (hget_pin_deep.1 h)
  ·obtain ⟨q,ty,sz,es,e,sz',es',b,c',arr,h1,h2⟩:=hs.al id par k j (hget_pin_al.1 h)
   exact ⟨q,ty,sz,es,e,sz',es',b,c',arr,hget_pin_deep.2 h1,h2⟩
  ·rw [ed] at h
   cases e:ae s.hp id with
   |none=>rw [e] at h;cases h
   |some b0=>
    rw [e] at h
    cases h
    have h0:=ox hnp e
    cases b0 with
    |box ty cs=>cases hpo;rfl
    |pbox p ty cs=>cases h0
    |row ty sz es=>cases hpo
    |deep q ty sz es=>
     cases q with
     |zero=>cases hpo
     |succ q=>cases h0
    |al par k j=>cases hpo
  ·rw [ed] at h h'
   cases e:ae s.hp id with
   |none=>rw [e] at h;cases h
   |some b0=>
    cases e':ae s.hp id' with
    |none=>rw [e'] at h';cases h'
    |some b1=>
     rw [e] at h
     rw [e'] at h'
     cases h
     cases h'
     exact hs.inj id id' b0 b1 b e e' (pinK_has.1 h1) (pinK_has.1 h2)
  ·rw [ed] at h
   cases e:ae s.hp id with
   |none=>rw [e] at h;cases h
   |some b0=>
    rw [e] at h
    cases h
    have h2:=pinK_has.1 h1
    exact ⟨.inr ⟨id,b0,e,h2⟩,(hs.own id b0 b e h2).2⟩
 refine wp_mono (h X0 _ m _ w hs1) ?_
 rintro e a' w' ⟨m2,s2,hq,hs2⟩
 have key:(∃ xs,dB G s2 fn.results.toList = some xs∧i_ s2.hp s.fr.l∧(∀ id q ty sz es,ae s2.hp id = some (.deep q ty sz es)→q = 0)∧K (AS.put ⟨⟨s.fr.n,dc s.fr.l⟩,cj s2.hp,s2.nx⟩ o.dst (dG xs)))→a'.defers = []∧∃ v,(results fn a'.tmps).run P w' = .ok v w'∧∃ m' s',K s'∧Sim X0 w0 m' s' (a.put o.dst v) w':=by
  rintro ⟨xs,h1,h2,h3,h4⟩
  refine ⟨hs2.df,?_⟩
  obtain ⟨us,r1,r2,r3⟩:=gZ hG hs2 fn.results.toList _ h1
  have hO2:=qt X0 m2 s2.hp
  have hsz:w.heap.size≤w'.heap.size:=hs2.below.size
  have hown2:∀ b,aU X0 m2 s2.hp b→b < w.heap.size→aU X0 m s.hp b:=by
   rintro b (h5|⟨id,blk,h5,h6⟩) hb
   ·exact .inl h5
   ·rcases (hs2.own id blk b h5 h6).1 with h7|h7
    ·exact absurd hb (Nat.not_lt.2 h7)
    ·exact .inr h7
  have hst:Stay w w' (aU X0 m s.hp) (aU X0 m2 s2.hp):=fun b hb hX=>⟨hs2.below.block b hb fun h5=>hX (.inr h5),fun h5=>hX (hown2 b h5 hb)⟩
  have hs3:Sim X0 w0 m2 ⟨⟨s.fr.n,dc s.fr.l⟩,cj s2.hp,s2.nx⟩ a w':=by
   refine ⟨hs.below.trans ⟨hs2.below.os,hs2.below.tape,hs2.below.output,hsz,fun k hk hn=>hs2.below.block k (Nat.lt_of_lt_of_le hk hs.below.size) fun h5=>?_,hs2.below.drawn⟩,hs.x0,hs.size,fun i=>?_,hs.df,fun id blk h=>?_,fun id p ty sz es h=>?_,fun id par k j h=>?_,fun id blk p h hpo=>?_,fun id id' blk blk' b h h' h5 h6=>?_,fun id blk b h h5=>?_,hs2.nx,hs.gl⟩
   ·rcases (hchg k h5).1 with h6|h6
    ·omega
    ·exact hn h6
   ·show R _ _ _ (lk (dc s.fr.l) i) _
    rw [pQ,hO2]
    have hR:=hs.fr i
    cases e:lk s.fr.l i with
    |d x=>
     rw [e] at hR
     exact .d _ _ (hR.rd.mono hst)
    |bptr id off=>
     rw [e] at hR
     obtain ⟨b,c',hm,hv⟩:=hR.bptr_inv
     obtain ⟨ty,cs,hg⟩:=pL h2 e
     have hp2:m2.loc id = m.loc id:=hs2.pin id _ id hg rfl
     rw [hv]
     exact .bptr _ _ _ _ (by rw [hp2];exact hm)
    |_=>exact .und _
   ·rw [dy] at h
    cases e:ae s2.hp id with
    |none=>rw [e] at h;cases h
    |some b0=>
     rw [e] at h
     cases h
     obtain ⟨l,h5,h6⟩:=hs2.hp id b0 e
     rw [hO2]
     exact ⟨l,h5,unpinK_ok.2 h6⟩
   ·exact hs2.dp id p ty sz es (hget_unpin_deep.1 h)
   ·obtain ⟨q,ty,sz,es,e,sz',es',b,c',arr,h5,h6⟩:=hs2.al id par k j (hget_unpin_al.1 h)
    exact ⟨q,ty,sz,es,e,sz',es',b,c',arr,hget_unpin_deep.2 h5,h6⟩
   ·rw [dy] at h
    cases e:ae s2.hp id with
    |none=>rw [e] at h;cases h
    |some b0=>
     rw [e] at h
     cases h
     cases b0 with
     |box ty cs=>cases hpo
     |pbox p ty cs=>cases hpo
     |row ty sz es=>cases hpo
     |deep q ty sz es=>
      have:=h3 id q ty sz es e
      subst this
      cases hpo
     |al par k j=>cases hpo
   ·rw [dy] at h h'
    cases e:ae s2.hp id with
    |none=>rw [e] at h;cases h
    |some b0=>
     cases e':ae s2.hp id' with
     |none=>rw [e'] at h';cases h'
     |some b1=>
      rw [e] at h
      rw [e'] at h'
      cases h
      cases h'
      exact hs2.inj id id' b0 b1 b e e' (unpinK_has.1 h5) (unpinK_has.1 h6)
   ·rw [dy] at h
    cases e:ae s2.hp id with
    |none=>rw [e] at h;cases h
    |some b0=>
     rw [e] at h
     cases h
     have h6:=hs2.own id b0 b e (unpinK_has.1 h5)
     refine ⟨?_,h6.2⟩
     rcases h6.1 with h7|h7
     ·exact .inl (Nat.le_trans hs.below.size h7)
     ·exact (hchg b h7).1
  refine ⟨cJ us.toArray,?_,m2,_,h4,Sim.put hs3 ?_ o.dst⟩
  ·show (do let us←fn.results.mapM (ko a'.tmps);pure (cJ us):Sem Value).run P w' = _
   rw [Sem.run_bind,Array.mapM_eq_mapM_toList]
   simp [r1]
  ·show R m2.loc (aU X0 m2 (cj s2.hp)) w' (dG xs) (cJ us.toArray)
   rw [hO2]
   exact pF r2 r3
 cases e with
 |normal=>exact key hq
 |ret=>exact key hq
 |_=>exact hq.elim
end Go.Proofs.YtphakidbddamfaaGreat
namespace Go.Proofs.YtphakidbddamfaaGreat
open Go.RowKit
theorem mE {P:Program} {o:Oper} {s:AS} {K:AS→Prop} {t:TypeId} (ho:o.op = .makeMap t none) (hK:K (AS.put s o.dst (.d .emap))):PO P o s K:=
 PO.mk fun X0 w0 m a w hs=>by
  have hn:(w.alloc (.map #[] 0)).heap[w.heap.size]? = some (.map #[] 0):=by unfold World.alloc;simp
  have hrun:(newObj (.map #[] 0)).run P w = .ok w.heap.size (w.alloc (.map #[] 0)):=rfl
  refine ⟨.map (some w.heap.size),w.alloc (.map #[] 0),m,s,.d .emap,?_,hs.later ((Bel.refl _ _).alloc (Nat.le_refl _) _),.d _ _ (.emap _ (fun h=>Nat.lt_irrefl _ (hs.lt_size h)) hn),hK⟩
  simp only [execOp,ho,Instr.makeMap,Option.map_none,Sem.run_bind,hrun,Result.andThen,Sem.run_pure]
theorem oe {P:Program} {o:Oper} {s:AS} {KP:PV→Prop} {x y:Operand} {t t2:TypeId} {k v:TypeId} {kd:TypeDesc} {i j:Int} (ho:o.op = .call {callee:=.builtin .delete,args:=#[x,y],argTypes:=#[t,t2]}) (ht:P.underlying t = some (.map k v)) (hkd:P.underlying k = some kd) (hck:∀ w,(Instr.checkKey true 10000 k (.agg #[.int .i64 i,.int .i64 j])).run P w = .ok () w) (hx:s.get x = .d .emap) (hy:s.get y = .agg [.d (.int .i64 i),.d (.int .i64 j)]) (hK:KP (.tup [])):PQ P o s KP:=by
 refine ⟨.tup [],fun X0 w0 m a w hs=>?_,hK⟩
 have hRx:=hs.get x
 rw [hx] at hRx
 obtain ⟨b,hX,hh,hv⟩:∃ b,¬ aU X0 m s.hp b∧w.heap[b]? = some (.map #[] 0)∧a.eval x = .map (some b):=by
  have h:=hRx.rd
  generalize a.eval x = v at h
  cases h with
  |emap b h1 h2=>exact ⟨b,h1,h2,rfl⟩
 have hRy:=hs.get y
 rw [hy] at hRy
 have hvy:a.eval y = .agg #[.int .i64 i,.int .i64 j]:=by
  generalize a.eval y = v at hRy
  cases hRy with
  |agg _ vs hl h=>
   match vs,hl,h with
   |⟨[p,q]⟩,_,h=>
    have h1:=(h 0 _ p rfl rfl).int
    have h2:=(h 1 _ q rfl rfl).int
    subst h1 h2
    rfl
 refine ⟨.tuple #[],fun w' hb=>?_,fun w' _=>.tup _ _ rfl (fun i y u h=>by simp at h)⟩
 have hh':w'.heap[b]? = some (.map #[] 0):=(hb.block b (Array.getElem?_eq_some_iff.1 hh).1).trans hh
 have hg:(getObj b).run P w' = .ok (.map #[] 0) w':=by simp [getObj,Sem.run,hh']
 have hs2:(setObj b (.map #[] 0)).run P w' = .ok () w':=by
  have e:{w' with heap:=w'.heap.setIfInBounds b (.map #[] 0)} = w':=by
   have:w'.heap.setIfInBounds b (.map #[] 0) = w'.heap:=by
    apply Array.ext_getElem?
    intro n
    rw [Array.getElem?_setIfInBounds]
    split
    ·rename_i h
     subst h
     split
     ·exact hh'.symm
     ·rename_i h
      rw [Array.getElem?_eq_none (by omega)]
    ·rfl
   rw [this]
  simp [setObj,Sem.run,hh']
  exact e
 have hrun:(execOp a.eval o).run P w' = .ok (.value (.tuple #[])) w':=by
  simp only [execOp,ho]
  simp [resolve,invoke,builtin,Builtin.delete_,run_underlying ht,run_underlying hkd,hv,hvy,hg,hs2,hck,Instr.findKey,Instr.findNow,Result.andThen]
 unfold Oper.quietAt
 rw [hrun]
 exact ⟨rfl,rfl⟩
end Go.Proofs.YtphakidbddamfaaGreat
namespace Go.Proofs.YtphakidbddamfaaGreat
open Go.RowKit
theorem nB {P:Program} {c:Code} {Q:Exit→AS→Prop} {s:AS} (h:PW P c (fun e s2=>∃ s3,iM s2 s3∧Q e s3) s):PW P c Q s:=by
 intro X0 w0 m a w hs
 refine wp_mono (h X0 w0 m a w hs) ?_
 rintro e a' w' ⟨m2,s2,⟨s3,hf,hq⟩,hs2⟩
 obtain ⟨m3,hs3⟩:=hs2.fits hf
 exact ⟨m3,s3,hq,hs3⟩
def mG (hp:List (Nat × Blk)):List (Nat × PV)→Bool
 |[]=>true
 |(_,.bptr id _)::r=>(match ae hp id with
  |some (.pbox p _ _)=>p == id
  |_=>false) && mG hp r
 |_::r=>mG hp r
theorem nD {hp:List (Nat × Blk)}:∀ {l:List (Nat × PV)},mG hp l = true→i_ hp l
 |[],_=>trivial
 |(_,x)::r,h=>by
  cases x with
  |bptr id off=>
   simp only [mG,Bool.and_eq_true] at h
   refine ⟨?_,nD h.2⟩
   have h1:=h.1
   split at h1
   ·rename_i p ty cs hg
    have:p = id:=by simpa using h1
    subst this
    exact ⟨ty,cs,hg⟩
   ·cases h1
  |_=>exact nD (l:=r) h
def jJ:List (Nat × Blk)→Bool
 |[]=>true
 |(_,.deep q _ _ _)::r=>q == 0 && jJ r
 |_::r=>jJ r
theorem nX:∀ {l:List (Nat × Blk)},jJ l = true→∀ {id q ty sz:Nat} {es:List (List D)},ae l id = some (.deep q ty sz es)→q = 0
 |(j,b)::r,h,id,q,ty,sz,es,hg=>by
  have hr:jJ r = true:=by
   cases b<;>first|exact h|(simp only [jJ,Bool.and_eq_true] at h;exact h.2)
  simp only [ae] at hg
  split at hg
  ·cases hg
   simp only [jJ,Bool.and_eq_true] at h
   simpa using h.1
  ·exact nX hr hg
theorem du {G:List (Nat × TI)} {fn:Func} {s s2:AS} {dst:Option Tmp} {K:AS→Prop} {xs:List PV} (h1:dB G s2 fn.results.toList = some xs) (h2:mG s2.hp s.fr.l = true) (h3:jJ s2.hp = true) (hK:K (AS.put ⟨⟨s.fr.n,dc s.fr.l⟩,cj s2.hp,s2.nx⟩ dst (dG xs))):xy G fn s dst K .ret s2:=
 ⟨xs,h1,nD h2,fun _ _ _ _ _ h=>nX h3 h,hK⟩
theorem i8 {P:Program} {o:Oper} {s:AS} {KP:PV→Prop} {t:TypeId} {parts:Array (Nat × Operand)} {len sz:Nat} {z:List D} {cs:List PV} (ho:o.op = .build t parts) (ht:cd P t (.arr len sz z) = true)
  (hf:ef (fun i=>some (i * sz,sz)) (z.map .d) (parts.toList.map fun p=>(p.1,s.get p.2)) = some cs) (hK:KP (.agg cs)):PQ P o s KP:=
 PQ.pure _ hK fun m X w a hq=>by
  obtain ⟨⟨e,ie,h1,h2,h3⟩,i,v,h4,h5,h6,h7,h8⟩:=i7 ht
  obtain ⟨g1,g2⟩:=iG h7
  obtain ⟨arr',r1,r2,r3,r4⟩:=fE (m:=m) (X:=X) (w:=w) (fun i=>some (i * sz,sz)) _ (parts.toList.map fun p=>(p.1,a.eval p.2)) _ _ v.cells hf (by simp) (fun j x u hx hu=>by
   rw [List.getElem?_map] at hx hu
   cases hj:parts.toList[j]? with
   |none=>rw [hj] at hx;cases hx
   |some p=>
    rw [hj] at hx hu
    cases hx
    cases hu
    exact hq p.2) (by simp [g1]) (fun j x u hx hu=>by
   rw [List.getElem?_map] at hx
   cases hj:z[j]? with
   |none=>rw [hj] at hx;cases hx
   |some d=>
    rw [hj] at hx
    cases hx
    have:=g2 j d u hj hu w X
    exact ⟨.d _ _ this,.inr this.one⟩)
  refine ⟨.agg arr',fun u=>?_,.agg _ _ r2 fun j x u hx hu=>(r4 j x u hx hu).1⟩
  have hbuilt:P.built t (parts.map fun p=>(p.1,a.eval p.2)).toList = some arr':=by
   unfold Program.built
   simp only [h4,h1,h6,h2,h3]
   simpa using r1
  have hrun:=run_build (P:=P) u t (parts.map fun p=>(p.1,a.eval p.2)) arr' hbuilt
  simp only [execOp,ho,Sem.run_bind]
  rw [hrun]
  rfl
theorem wM {P:Program} {k e:TypeId} {ie:TypeInfo} (h1:P.underlying k = some (.array 2 e)) (h2:P.underlying e = some (.int .i64)) (h3:P.info? e = some ie) (h4:ie.size = 1) (i j:Int) (w:World):(Instr.checkKey true 10000 k (.agg #[.int .i64 i,.int .i64 j])).run P w = .ok () w:=by
 have hs:(sizeOf e).run P w = .ok 1 w:=by simp [sizeOf,typeInfo,h3,h4]
 have hp:∀ (c:Array Value) (n:Nat) (v:Value),c[n]? = some v→(part e c n).run P w = .ok v w:=by
  intro c n v hv
  simp [part,isAgg,run_underlying h2,hv]
 have hc:∀ v:Int,(Instr.checkKey true 9999 e (.int .i64 v)).run P w = .ok () w:=by
  intro v
  rw [Instr.checkKey]
  simp [run_underlying h2]
 rw [Instr.checkKey]
 have hr:List.range' 0 2 = [0,1]:=rfl
 simp [run_underlying h1,hs,hp,hc,hr]
end Go.Proofs.YtphakidbddamfaaGreat
