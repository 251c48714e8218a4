/-
  The abstract machine: in a region that draws its order a pure operation may be taken first.
-/
import Derived.Test.YtphakidbddamfaaGreatZG
import Derived.Test.YtphakidbddamfaaGreatZMc
import Derived.Test.YtphakidbddamfaaGreatZMe
import Derived.Test.YtphakidbddamfaaGreatZMst
namespace Go.Proofs.YtphakidbddamfaaGreat
open Go.RowKit
def eF (p:Prop):Prop:=p
theorem bs {P:Program} {id:Nat} {l:Array Oper} {b:Bool} {y:Code} {Q:Exit→AS→Prop} {s:AS} (h:eF (PW P (.seq (.region id l b) y) Q s)):PW P (.seq (.region id l b) y) Q s:=h
theorem br {P:Program} {id:Nat} {l:Array Oper} {b:Bool} {Q:Exit→AS→Prop} {s:AS} (h:eF (PW P (.region id l b) Q s)):PW P (.region id l b) Q s:=h
def eB (P:Program) (ops:Array Oper) (K:AS→Prop) (fuel:Nat) (listed:Array Bool) (s:AS):Prop:=
 ∀ (X0:Nat→Prop) (w0:Base) (m:Mp) (a:Act) (w:World) (Q':Exit→Act→World→Prop),(∀ c a w,¬ Q' (.panic c) a w)→(∀ m' s' a' w',K s'→Sim X0 w0 m' s' a' w'→Q' .normal a' w')→Sim X0 w0 m s a w→wpAny P .any ops Q' fuel listed a w
theorem bk {P:Program} {ops:Array Oper} {K:AS→Prop} {fuel:Nat} {listed:Array Bool} {s:AS} (hR:Region.ready .any ops listed = []) (h:K s):eB P ops K fuel listed s:=
 fun X0 w0 m a w Q' _ hQ hs=>ej hR h X0 w0 m a w Q' hQ hs
theorem uq {P:Program} {ops:Array Oper} {K:AS→Prop} {fuel:Nat} {listed:Array Bool} {s:AS} (i:Nat) {o:Oper} {x:PV} {d:Tmp} (hi:ops[i]? = some o) (hg:o.guard = none) (hd:o.dst = some d) (hr:(Region.ready .any ops listed).contains i = true) (hs:Region.noSelect ops = true) (hf:Region.free .any ops listed i = true)
  (hp:fZ P o s x) (h:eB P ops K fuel (listed.setIfInBounds i true) (s.put (some d) x)):eB P ops K (fuel + 1) listed s:=by
 rw [←hd] at h
 intro X0 w0 m a w Q' hN hQ hs'
 obtain ⟨v,h1,h2⟩:=hp m.loc _ w a hs'.get
 exact wpAny_take hi hs hf hr (fun c a w h=>absurd h (hN c _ _)) (.inl ⟨by simp [Region.wanted,hg],h1⟩) (h X0 w0 m (a.put o.dst v) w Q' hN hQ (hs'.put h2 o.dst))
def tn (P:Program) (G:List (Nat × TI)) (l:List Oper) (K:AS→Prop) (fuel:Nat) (listed:Array Bool) (s:AS):List Nat→Prop
 |[]=>True
 |i::r=>(∃ o,l[i]? = some o∧∀ U:AS→Prop,(∀ s',eB P l.toArray K fuel (listed.setIfInBounds i true) s'→U s')→fO false P G l.toArray o s U)∧tn P G l K fuel listed s r
theorem bf {P:Program} {G:List (Nat × TI)} (hG:GOK P G) (R:List Nat) {l:List Oper} {K:AS→Prop} {fuel:Nat} {listed:Array Bool} {s:AS} (hR:Region.ready .any l.toArray listed = R) (hne:R.isEmpty = false) (h:tn P G l K fuel listed s R):eB P l.toArray K (fuel + 1) listed s:=by
 intro X0 w0 m a w Q' hN hQ hs
 refine ⟨fun h0=>(by rw [hR] at h0;subst h0;cases hne),fun i hi=>?_⟩
 rw [hR] at hi
 have key:∀ R:List Nat,tn P G l K fuel listed s R→∀ i ∈ R,∃ o,l[i]? = some o∧∀ U:AS→Prop,(∀ s',eB P l.toArray K fuel (listed.setIfInBounds i true) s'→U s')→fO false P G l.toArray o s U:=by
  intro R
  induction R with
  |nil=>intro _ i hi;cases hi
  |cons j r ih=>
   rintro ⟨h1,h2⟩ i hi
   rcases List.mem_cons.1 hi with rfl|hi
   ·exact h1
   ·exact ih h2 i hi
 obtain ⟨o,ho,h1⟩:=key R h i hi
 have h2:cC P G l.toArray [o] (eB P l.toArray K fuel (listed.setIfInBounds i true)) s:=gI fun U O=>h1 U fun s' hs'=>O s' hs'
 exact uJ (by simpa using ho) (dN hG _ _ _ h2) hs fun m' s' a' w' h3 h4=>h3 X0 w0 m' a' w' Q' hN hQ h4
theorem sd {P:Program} {Q:Exit→AS→Prop} {s:AS} {id:Nat} {l:List Oper} (hm:P.follows .mixedOrders = true) (h:eB P l.toArray (Q .normal) l.length (Array.replicate l.length false) s):PW P (.region id l.toArray true) Q s:=by
 intro X0 w0 m a w hs
 refine wp_mono (Q:=fun e a' w'=>(∀ c,e≠.panic c)∧∃ m' s',Q e s'∧Sim X0 w0 m' s' a' w') ?_ fun _ _ _ h=>h.2
 refine wp_region_any hm ?_
 have:=h X0 w0 m a w.drew (fun e a' w'=>(∀ c,e≠.panic c)∧∃ m' s',Q e s'∧Sim X0 w0 m' s' a' w') (fun c a w h=>h.1 c rfl) (fun m' s' a' w' h1 h2=>⟨(fun c e=>by cases e),m',s',h1,h2⟩) hs.drew
 simpa using this
theorem qR {P:Program} (T:List (Nat × List Nat)) {Q:Exit→AS→Prop} {s:AS} {id:Nat} {l:List Oper} {y:Code} (hm:P.follows .mixedOrders = true)
  (h:eB P l.toArray (fun s'=>PW P y Q (eR T id s')) l.length (Array.replicate l.length false) s):PW P (.seq (.region id l.toArray true) y) Q s:=
 f6 fun _ hK=>sd hm fun X0 w0 m a w Q' hN hQ hs=>h X0 w0 m a w Q' hN (fun m' s' a' w' h3 h4=>hQ m' s' a' w' (hK s' (fG T id h3)) h4) hs
theorem bF {P:Program} (n:Nat) {Q:Exit→AS→Prop} {s:AS} {id:Nat} {l:List Oper} (hm:P.follows .mixedOrders = true) (hn:l.length = n) (h:∀ K:AS→Prop,(∀ s',Q .normal s'→K s')→eB P l.toArray K n (Array.replicate n false) s):PW P (.region id l.toArray true) Q s:=by
 subst hn
 exact sd hm (h _ fun _ h=>h)
theorem bJ {P:Program} (n:Nat) (T:List (Nat × List Nat)) {Q:Exit→AS→Prop} {s:AS} {id:Nat} {l:List Oper} {y:Code} (hm:P.follows .mixedOrders = true) (hn:l.length = n)
  (h:∀ K:AS→Prop,(∀ s',PW P y Q (eR T id s')→K s')→eB P l.toArray K n (Array.replicate n false) s):PW P (.seq (.region id l.toArray true) y) Q s:=by
 subst hn
 exact qR T hm (h _ fun _ h=>h)
theorem bB {P:Program} {ops:Array Oper} {K:AS→Prop} {fuel:Nat} {listed:Array Bool} {s:AS} (h:eB P ops K fuel listed s):eB P ops K fuel listed s:=h
section
variable {P:Program} {o:Oper} {s:AS}
theorem aL {x:Operand} (ho:o.op = .move x∨o.op = .assign x):fZ P o s (s.get x):=fun m X w a hq=>⟨a.eval x,fun u=>by rcases ho with h|h<;>simp [execOp,h],hq x⟩
theorem vk {t:TypeId} {x:Operand} {e:TypeId} {sz bytes:Nat} {z:List D} {n:Nat} (ho:o.op = .call {callee:=.builtin .len,args:=#[x],argTypes:=#[t]}) (ht:cd P t (.slc e sz bytes z) = true) (hx:jn (s.get x) = some n):fZ P o s (.d (.int .i64 n)):=fun m X w a hq=>by
  obtain ⟨A,c,h1⟩:=tU hx (hq x)
  refine ⟨.int .i64 n,fun u=>?_,.d _ _ (.int _ _)⟩
  simp [execOp,ho,resolve,invoke,builtin,Builtin.len_,h1,run_underlying (dS ht).1,goInt]
theorem gO {t:TypeId} {x:Operand} {lo hi:Option Operand} {e:TypeId} {sz bytes n:Nat} {z:List D} {l h:Int} {y:PV} (ho:o.op = .slice t x lo hi none) (ht:cd P t (.slc e sz bytes z) = true) (hn:jn (s.get x) = some n)
  (hlo:iV s 0 lo = some l) (hhi:iV s n hi = some h) (h0:0≤l) (h1:l≤h) (h2:h≤n) (hx:ol sz l.toNat h.toNat (s.get x) = some y):fZ P o s y:=fun m X w a hq=>by
  obtain ⟨A,c,h3,h4,h5⟩:=v_ hx hn (by omega) (by omega) (hq x)
  obtain ⟨g1,⟨inf,v,g2,g3,_⟩,_⟩:=dS ht
  refine ⟨_,fun u=>?_,h5⟩
  have key:(Instr.sliceBounds true n c (lo.map a.eval) (hi.map a.eval) none).run P u = .ok (l.toNat,h.toNat,c) u:=by
   cases hi with
   |none=>
    cases hhi
    cases lo with
    |none=>cases hlo;simp [Instr.sliceBounds]
    |some q=>
     obtain ⟨k,hk⟩:=fd hq hlo
     simp [Instr.sliceBounds,hk,dh h0 h1]
   |some q'=>
    obtain ⟨k',hk'⟩:=fd hq hhi
    have hb1:(h:Int)≤(c:Int):=by omega
    have e1:((h.toNat:Nat):Int) = h:=Int.toNat_of_nonneg (by omega)
    cases lo with
    |none=>cases hlo;simp [Instr.sliceBounds,hk',dh (show (0:Int)≤h by omega) hb1]
    |some q=>
     obtain ⟨k,hk⟩:=fd hq hlo
     simp [Instr.sliceBounds,hk,hk',dh (show (0:Int)≤h by omega) hb1,dh (y:=h.toNat) h0 (by omega)]
  simp [execOp,ho,h3,Instr.sliceAt,Instr.slice,run_underlying g1,key,eG g2,g3]
end
end Go.Proofs.YtphakidbddamfaaGreat
namespace Go.Proofs.YtphakidbddamfaaGreat
open Go.RowKit
def ge (i:Nat):D→PV
 |.lst _ []=>.row i 0
 |d=>.d d
theorem sb {sz:Nat} {v:Value} (h:lz (.lst sz []) v = true):v = .slice none 0 0:=by
 unfold lz at h
 split at h
 all_goals first|rfl|contradiction|simp_all
theorem rN {i:Nat} {d:D} {v:Value} (h:lz d v = true) {m:Nat→Option Loc} {X:Nat→Prop} {w:World} (hm:m i = some .nil):R m X w (ge i d) v:=by
 have hd:Rd w X d v:=jV h w X
 unfold ge
 split
 ·rw [sb h];exact .rowN _ hm
 ·exact .d _ _ hd
theorem uH {z:List D} {v:Value} (h:zB z v = true):v.cells.size = z.length∧∀ (j:Nat) (d:D) (u:Value),z[j]? = some d→v.cells[j]? = some u→lz d u = true:=by
 simp only [zB,Bool.and_eq_true,beq_iff_eq] at h
 refine ⟨h.1.symm,fun j d u hj hu=>?_⟩
 have hm:(d,u) ∈ z.zip v.cells.toList:=List.mem_of_getElem? (i:=j) (by rw [List.getElem?_zip_eq_some];exact ⟨hj,by simpa using hu⟩)
 exact List.all_eq_true.1 h.2 _ hm
section rules
variable {P:Program} {o:Oper} {s:AS} {K:AS→Prop}
theorem pp {t:TypeId} {parts:Array (Nat × Operand)} {n:Nat} {fs:List (Nat × Nat)} {z:List D} {cs:List PV} (ty:TypeId) (sz:Nat) (ho:o.op = .build t parts) (ht:cd P t (.st n fs z) = true)
  (hf:ef (fs[·]?) (z.map (ge s.nx)) (parts.toList.map fun p=>(p.1,s.get p.2)) = some cs) (hK:K (AS.put ⟨s.fr,(s.nx,.row ty sz [])::s.hp,s.nx + 1⟩ o.dst (.agg cs))):PO P o s K:=
 PO.mk fun X0 w0 m a w hs=>by
  have hg:=hs.ghost ty sz
  obtain ⟨⟨fields,h1,h2,h3⟩,i,v,h4,h5,h6,h7,h8⟩:=il ht
  obtain ⟨g1,g2⟩:=uH h7
  have hplace:fields.toList.mapM (fun f=>(P.info? f.type).map fun i=>(f.offset,i.size)) = some fs:=by
   refine k4 _ _ (by simpa using h2) fun j f p hf hp=>?_
   obtain ⟨q1,q2,i',q3,q4⟩:=h3 j f p (by simpa using hf) hp
   rw [q3]
   simp [q1,q4]
  obtain ⟨arr',r1,r2,r3,r4⟩:=fE (m:=(bN m s.nx .nil).loc) (X:=aU X0 (bN m s.nx .nil) ((s.nx,.row ty sz [])::s.hp)) (w:=w) (fs[·]?) _ (parts.toList.map fun p=>(p.1,a.eval p.2)) _ _ v.cells hf (by simp) (fun j x u hx hu=>by
   rw [ap] at hx hu
   cases hj:parts.toList[j]? with
   |none=>rw [hj] at hx;cases hx
   |some p=>
    rw [hj] at hx hu
    cases hx
    cases hu
    have e:AS.get ⟨s.fr,(s.nx,.row ty sz [])::s.hp,s.nx + 1⟩ p.2 = s.get p.2:=by cases p.2<;>rfl
    have h9:=hg.get p.2
    rw [e] at h9
    exact h9) (by simp [g1]) (fun j x u hx hu=>by
   rw [ap] at hx
   cases hj:z[j]? with
   |none=>rw [hj] at hx;cases hx
   |some d=>
    rw [hj] at hx
    cases hx
    have h9:=g2 j d u hj hu
    exact ⟨rN h9 (bp _ _ _),.inr (jV h9 w (fun _=>False)).one⟩)
  refine ⟨.agg arr',w,_,_,.agg cs,?_,hg,.agg _ _ r2 fun j x u hx hu=>(r4 j x u hx hu).1,hK⟩
  have hbuilt:P.built t (parts.map fun p=>(p.1,a.eval p.2)).toList = some arr':=by
   unfold Program.built
   simp only [h4,h1,h6,hplace]
   simpa using r1
  have hrun:=run_build (P:=P) w t (parts.map fun p=>(p.1,a.eval p.2)) arr' hbuilt
  simp only [execOp,ho,Sem.run_bind]
  rw [hrun]
  rfl
theorem aY {t:TypeId} {x:Operand} {f n:Nat} {fs:List (Nat × Nat)} {z:List D} {fo:Nat × Nat} {y:PV} (ho:o.op = .fieldAddr t x f) (ht:cd P t (.st n fs z) = true) (hf:fs[f]? = some fo) (hx:ic fo.1 (s.get x) = some y):fZ P o s y:=fun m X w a hq=>by
  obtain ⟨b,off,h1,h2⟩:=mf hx (hq x)
  obtain ⟨⟨fields,h3,h4,h5⟩,_⟩:=il ht
  have hlt:f < fields.size:=by rw [h4];exact (List.getElem?_eq_some_iff.1 hf).1
  obtain ⟨h6,h7,i,h8,h9⟩:=h5 f fields[f] fo (by simp [hlt]) hf
  refine ⟨_,fun u=>?_,h2⟩
  have hne:¬ fo.2 = 0:=by omega
  simp [execOp,ho,h1,Instr.fieldAt,run_underlying h3,hlt,Instr.sureAddr,fieldPlace,eG h8,h9,hne,h6,Addr.add_lit]
end rules
section part
variable {X0:Nat→Prop} {w0:Base} {m:Mp} {s:AS} {a:Act} {w:World}
end part
theorem lH {P:Program} (w:World) (t ty e e0:TypeId) (i:TypeInfo) (ht:P.underlying t = some (.slice e)) (hi:P.info? e = some i)
  (g sLen sCap:Nat) (cur:Array Value) (hg:w.heap[g]? = some (.cells cur e0 (0,0)))
  (a:Addr) (m c:Nat) (news:List Value) (hl:news.length = m * i.size) (hnews:∀ j u,news[j]? = some u→w.cell? (a.add j) = some u) (h1:∀ u ∈ news,u.oneCell' = true)
  (hroom:sLen + m≤sCap) (hfit:sLen * i.size + news.length≤cur.size):
  (Builtin.append_ #[t,t] ty #[.slice (some ⟨g,0,none⟩) sLen sCap,.slice (some a) m c]).run P w =
   .ok (.slice (some ⟨g,0,none⟩) (sLen + m) sCap) (w.setRow g (cur.toList.take (sLen * i.size)++news++cur.toList.drop (sLen * i.size + news.length)).toArray):=by
 have hf:=run_firstCells_some (P:=P) w i.size m a m c news hl hnews
 have hst:=run_storeCells_at P g (sLen * i.size) e0 news 0 cur w hg (by simpa using hfit) h1
 simp only [Nat.add_zero] at hst
 simp [Builtin.append_,run_underlying ht,sizeOf,typeInfo,hi,Builtin.lenOf,hroom,hf,Addr.add_lit,hst]
theorem qM {P:Program} {w:World} {t ty e e0:TypeId} {i:TypeInfo} {z:Value} (ht:P.underlying t = some (.slice e)) (hi:P.info? e = some i) (hz:i.zero = some z) {sz bytes:Nat} (hsz:i.size = sz) (hby:i.bytes = bytes) (hzs:z.cells.size = sz)
  {l:Loc} {v:Value} {n:Nat} {xs:List Value} (hl:Lies w e0 sz l v n xs) {A:Option Addr} {m c':Nat} {news:List Value} (hn:news.length = m * sz) (hA:A = none→m = 0) (hnews:∀ a,A = some a→∀ (j:Nat) u,news[j]? = some u→w.cell? (a.add j) = some u)
  (h1:∀ u ∈ news,u.oneCell' = true) (h63:n + m≤maxLen) (hb:(n + m) * bytes≤140737488355328):
  ∃ v' w' l' e1,(Builtin.append_ #[t,t] ty #[v,.slice A m c']).run P w = .ok v' w'∧Lies w' e1 sz l' v' (n + m) (xs++news)∧w'.os = w.os∧w'.tape = w.tape∧w'.output = w.output∧(w.heap.size≤w'.heap.size∧w.drawn≤w'.drawn)∧
   (∀ k,k < w.heap.size→(∀ c,l≠.blk k c)→w'.heap[k]? = w.heap[k]?)∧(∀ g c,l' = .blk g c→g < w'.heap.size∧(w.heap.size≤g∨l = .blk g c)):=by
 subst hsz
 subst hby
 have hlen:(xs++news).length = (n + m) * i.size:=by rw [List.length_append,hl.len,hn,Nat.add_mul]
 have hsmall:n + m≤9223372036854775807:=by simp only [maxLen] at h63;omega
 have grown:∀ (old:Nat),old < n + m→Lies (w.drew.alloc (.cells (xs.toArray++news.toArray++Builtin.zeroCells z.cells (grownCap w (n + m) old e - (n + m))) e)) e i.size (.blk w.heap.size (grownCap w (n + m) old e)) (.slice (some ⟨w.heap.size,0,none⟩) (n + m) (grownCap w (n + m) old e)) (n + m) (xs++news):=by
  intro old ho
  have hge:=grownCap_ge w (n + m) old e
  refine ⟨rfl,_,heap_alloc_new w.drew _,?_,hge,grownCap_le_maxLen w (n + m) old e h63,?_⟩
  ·simp only [Array.size_append,List.size_toArray,size_zeroCells,hzs,hl.len,hn,←Nat.add_mul]
   congr 1
   omega
  ·simp only [Array.toList_append,List.append_assoc]
   rw [←List.append_assoc,←hlen]
   exact List.take_left
 have same:∀ o k,k < w.heap.size→(w.drew.alloc o).heap[k]? = w.heap[k]?:=fun o k hk=>Below.heap_alloc w.drew o k hk
 rcases Nat.eq_zero_or_pos m with hm0|hm0
 ·subst hm0
  have hnil:news = []:=List.eq_nil_of_length_eq_zero (by simpa using hn)
  subst hnil
  cases l with
  |nil=>
   obtain ⟨rfl,rfl,rfl⟩:=hl
   refine ⟨.slice none 0 0,w,.nil,e,?_,⟨rfl,rfl,rfl⟩,rfl,rfl,rfl,⟨Nat.le_refl _,Nat.le_refl _⟩,fun _ _ _=>rfl,fun _ _ e=>by cases e⟩
   cases A<;>simp [Builtin.append_,run_underlying ht,sizeOf,typeInfo,hi,Builtin.lenOf,Builtin.firstCells,loadCells,loadCellsFrom]
  |blk b c=>
   obtain ⟨rfl,arr,h2,h3,h4,h5,h6⟩:=hl
   have hlt:b < w.heap.size:=by
    rcases Nat.lt_or_ge b w.heap.size with h|h
    ·exact h
    ·rw [Array.getElem?_eq_none h] at h2;cases h2
   refine ⟨.slice (some ⟨b,0,none⟩) n c,w,.blk b c,e0,?_,⟨rfl,arr,h2,h3,h4,h5,by simpa using h6⟩,rfl,rfl,rfl,⟨Nat.le_refl _,Nat.le_refl _⟩,fun _ _ _=>rfl,fun g c' e=>by cases e;exact ⟨hlt,.inr rfl⟩⟩
   cases A<;>simp [Builtin.append_,run_underlying ht,sizeOf,typeInfo,hi,Builtin.lenOf,Builtin.firstCells,loadCells,loadCellsFrom,h4,storeCells]
 ·obtain ⟨a,rfl⟩:∃ a,A = some a:=by
   cases A with
   |none=>have:=hA rfl;omega
   |some a=>exact ⟨a,rfl⟩
  cases l with
  |nil=>
   obtain ⟨rfl,rfl,rfl⟩:=hl
   have hr:=Go.run_append_nil (P:=P) w t ty e i z ht hi hz a m c' news hn (hnews a rfl) hm0 (by omega) (by have hb:=hb;simp only [aA] at hb;omega)
   have hgr:=grown 0 (by omega)
   simp only [aA,List.nil_append,Array.empty_append] at hgr ⊢
   exact ⟨_,_,_,_,hr,hgr,rfl,rfl,rfl,⟨by simp,Nat.le_succ _⟩,fun k hk _=>same _ k hk,fun g c e=>by cases e;exact ⟨by simp,.inl (Nat.le_refl _)⟩⟩
  |blk b c=>
   have hl':=hl
   obtain ⟨rfl,arr,h2,h3,h4,h5,h6⟩:=hl
   have hlt:b < w.heap.size:=by
    rcases Nat.lt_or_ge b w.heap.size with h|h
    ·exact h
    ·rw [Array.getElem?_eq_none h] at h2;cases h2
   by_cases hroom:n + m≤c
   ·have hfit:n * i.size + news.length≤arr.size:=by rw [hn,h3,←Nat.add_mul];exact Nat.mul_le_mul_right _ hroom
    have hr:=lH (P:=P) w t ty e e0 i ht hi b n c arr h2 a m c' news hn (hnews a rfl) h1 hroom hfit
    refine ⟨_,_,.blk b c,e0,hr,⟨rfl,_,setRow_heap w b arr _ e0 _ h2,?_,hroom,h5,?_⟩,rfl,rfl,rfl,⟨by simp [World.setRow],Nat.le_refl _⟩,fun k hk hne=>setRow_other w b k _ (fun e=>hne c (by rw [e])),fun g c2 e=>by cases e;exact ⟨by simpa [World.setRow] using hlt,.inr rfl⟩⟩
    ·simp only [List.size_toArray,List.length_append,List.length_take,List.length_drop,Array.length_toList]
     omega
    ·show (arr.toList.take (n * i.size)++news++arr.toList.drop (n * i.size + news.length)).toArray.toList.take ((n + m) * i.size) = _
     rw [h6,←hlen]
     exact List.take_left
   ·have holds:∀ j u,xs[j]? = some u→w.cell? ((⟨b,0,none⟩:Addr).add j) = some u:=by
     intro j u hu
     have hj:j < n * i.size:=by rw [←hl'.len];exact (List.getElem?_eq_some_iff.1 hu).1
     rw [←h6,List.getElem?_take_of_lt hj] at hu
     rw [Addr.add_lit]
     simp only [World.cell?,h2,aA]
     simpa using hu
    have hr:=run_append_grow (P:=P) w t ty e i z ht hi hz ⟨b,0,none⟩ n c xs hl'.len holds a m c' news hn (hnews a rfl) (by omega) (by omega) (growslice_fits (by omega) hb)
    exact ⟨_,_,_,_,hr,grown c (by omega),rfl,rfl,rfl,⟨by simp,Nat.le_succ _⟩,fun k hk _=>same _ k hk,fun g c e=>by cases e;exact ⟨by simp,.inl (Nat.le_refl _)⟩⟩
section pv4
variable {P:Program}
end pv4
end Go.Proofs.YtphakidbddamfaaGreat
set_option linter.unusedSimpArgs false
set_option linter.unusedVariables false
set_option maxHeartbeats 2000000
set_option maxRecDepth 100000
namespace Go.Proofs.YtphakidbddamfaaGreat
open Go.RowKit
def s5 (l:List Int) (k:Nat) (x:Int):Prop:=1≤x∧x≤999∧x ∉ l.take k
def OrdUpto (l:List Int) (k:Nat):Prop:=∀ j x,j < k→l[j]? = some x→s5 l j x
def OrdOk (l:List Int):Prop:=l.length≤40∧OrdUpto l l.length
theorem OrdUpto.zero (l:List Int):OrdUpto l 0:=fun _ _ h=>absurd h (by omega)
theorem OrdUpto.succ {l:List Int} {k:Nat} {x:Int} (h:OrdUpto l k) (hx:l[k]? = some x) (hf:s5 l k x):OrdUpto l (k + 1):=by
 intro j y hj hy
 by_cases e:j = k
 ·subst e
  rw [hx] at hy
  cases hy
  exact hf
 ·exact h j y (by omega) hy
theorem OrdOk.not_at {l:List Int} {k:Nat} {x:Int} (hx:l[k]? = some x) (hf:¬ s5 l k x):¬ OrdOk l:=
 fun h=>hf (h.2 k x (List.getElem?_eq_some_iff.1 hx).1 hx)
theorem lq (l:List Int) (hn:l.length≤1048576):FnEq Tryz.prog 180 [.d (.lst 1 (l.map ab))] [.row 3 1 (l.map ab)]:=by
 refine aO aa Tryz.func180 rfl rfl ?_;simp only [Tryz.ntmps180,aR,aM,Nat.reduceAdd,Nat.reduceSub,aW]
 repeat' (first|((with_reducible first|(refine hK _ ?_;clear hK K)|refine aj fun U O=>?_|apply ah|(apply Z<;>(intro hc;try simp at hc;try omega)))<;>try simp only [go_sem])|(with_reducible first|apply ag|(refine O _ ?_;clear O U)|refine kN yf fun K hK=>?_|refine kO fun K hK=>?_|refine aI ?_)|fail)
 refine ak rfl (by simp only [bl,bn,ae,lk,an,aM,List.length_append,List.length_take,if_true,if_false,Nat.reduceEqDiff,Nat.reduceBEq,Bool.false_eq_true,Option.some.injEq];rfl) (by simp [am,lk]) ?_;rfl
theorem aS {K:AS→Prop} {fuel:Nat} {listed:Array Bool} {s:AS} (R:List Nat) {l:List Oper} (h:tn Tryz.prog G l K fuel listed s R) (hR:Region.ready .any l.toArray listed = R:=by decide +kernel) (hne:R.isEmpty = false:=by decide +kernel):eB Tryz.prog l.toArray K (fuel + 1) listed s:=bf aa R hR hne h
theorem aT {ops:Array Oper} {K:AS→Prop} {fuel:Nat} {listed:Array Bool} {s:AS} (i:Nat) {o:Oper} {x:PV} {d:Tmp} (hi:ops[i]? = some o) (hg:o.guard = none) (hd:o.dst = some d) (hp:fZ Tryz.prog o s x) (h:eB Tryz.prog ops K fuel (listed.setIfInBounds i true) (s.put (some d) x)) (hr:(Region.ready .any ops listed).contains i = true:=by decide +kernel) (hs:Region.noSelect ops = true:=by decide +kernel) (hf:Region.free .any ops listed i = true:=by decide +kernel):eB Tryz.prog ops K (fuel + 1) listed s:=uq i hi hg hd hr hs hf hp h
end Go.Proofs.YtphakidbddamfaaGreat
