/-
  An abstract machine for the Go model: plain data, own rows and boxes; how they lie in memory. No program is named here.
-/
import Derived.Test.YtphakidbddamfaaGreatZGl
import Derived.WalkKit
import Derived.WalkSpells
import Derived.WalkLawsBesides
import Derived.Lib.Hide
import Derived.Laws.OwnMore
import Derived.Laws.MakeOwn
import Derived.Laws.Rows
import Derived.Laws.CopyOwn
import Derived.IntWalk
import Derived.Deep.Quiet
import Derived.StillTail
import Derived.BigQuiet
namespace Go.Proofs.YtphakidbddamfaaGreat
open Go.RowKit
inductive D where
 |int (k:IntKind) (n:Int)
 |bool (b:Bool)
 |str (s:ByteArray)
 |lst (sz:Nat) (es:List (List D))
 |hole
 |emap
inductive Rd (w:World) (X:Nat→Prop):D→Value→Prop
 |int (k:IntKind) (n:Int):Rd w X (.int k n) (.int k n)
 |bool (b:Bool):Rd w X (.bool b) (.bool b)
 |str (s:ByteArray):Rd w X (.str s) (.string s)
 |nil (sz:Nat) (A:Option Addr) (c:Nat):Rd w X (.lst sz []) (.slice A 0 c)
 |lst (sz:Nat) (es:List (List D)) (b off c:Nat) (hcap:es.length≤c) (hsz:∀ e,e ∈ es→e.length = sz)
   (hc:∀ (k:Nat) (e:List D) (j:Nat) (d:D),es[k]? = some e→e[j]? = some d→¬ X b∧∃ v,w.cell? ⟨b,off + (k * sz + j),none⟩ = some v)
   (hr:∀ (k:Nat) (e:List D) (j:Nat) (d:D) (v:Value),es[k]? = some e→e[j]? = some d→w.cell? ⟨b,off + (k * sz + j),none⟩ = some v→Rd w X d v):
   Rd w X (.lst sz es) (.slice (some ⟨b,off,none⟩) es.length c)
 |hole (v:Value) (h1:v.oneCell' = true) (h2:v.cells = #[v]):Rd w X .hole v
 |emap (b:Nat) (hX:¬ X b) (hh:w.heap[b]? = some (.map #[] 0)):Rd w X .emap (.map (some b))
inductive Loc where
 |nil
 |blk (b c:Nat)
inductive PV where
 |d (x:D)
 |agg (xs:List PV)
 |tup (xs:List PV)
 |row (id n:Nat)
 |view (id sz lo n:Nat)
 |bptr (id off:Nat)
 |rptr (id sz k off:Nat)
 |eptr (cs:List D)
 |fn (f:FuncId) (caps:List PV)
 |und
inductive R (m:Nat→Option Loc) (X:Nat→Prop) (w:World):PV→Value→Prop
 |d (x:D) (v:Value) (h:Rd w X x v):R m X w (.d x) v
 |agg (xs:List PV) (vs:Array Value) (hl:vs.size = xs.length) (h:∀ (i:Nat) (x:PV) (v:Value),xs[i]? = some x→vs[i]? = some v→R m X w x v):R m X w (.agg xs) (.agg vs)
 |tup (xs:List PV) (vs:Array Value) (hl:vs.size = xs.length) (h:∀ (i:Nat) (x:PV) (v:Value),xs[i]? = some x→vs[i]? = some v→R m X w x v):R m X w (.tup xs) (.tuple vs)
 |rowN (id:Nat) (h:m id = some .nil):R m X w (.row id 0) (.slice none 0 0)
 |rowB (id n b c:Nat) (h:m id = some (.blk b c)) (hn:n≤c):R m X w (.row id n) (.slice (some ⟨b,0,none⟩) n c)
 |view0 (id sz lo:Nat) (A:Option Addr) (c:Nat):R m X w (.view id sz lo 0) (.slice A 0 c)
 |viewB (id sz lo n b c c':Nat) (h:m id = some (.blk b c)) (hc:n≤c'):R m X w (.view id sz lo n) (.slice (some ⟨b,lo * sz,none⟩) n c')
 |bptr (id off b c:Nat) (h:m id = some (.blk b c)):R m X w (.bptr id off) (.pointer (some ⟨b,off,none⟩))
 |rptr (id sz k off b c:Nat) (h:m id = some (.blk b c)):R m X w (.rptr id sz k off) (.pointer (some ⟨b,k * sz + off,none⟩))
 |eptr (cs:List D) (b off:Nat) (h:∀ (j:Nat) (d:D),cs[j]? = some d→¬ X b∧∃ v,w.cell? ⟨b,off + j,none⟩ = some v∧Rd w X d v):R m X w (.eptr cs) (.pointer (some ⟨b,off,none⟩))
 |fn (f:FuncId) (caps:List PV) (vs:Array Value) (hl:vs.size = caps.length) (h:∀ (i:Nat) (x:PV) (v:Value),caps[i]? = some x→vs[i]? = some v→R m X w x v):R m X w (.fn f caps) (.func (.func f) #[] vs)
 |und (v:Value):R m X w .und v
theorem jj {w:World} {a:Addr} {v:Value} (h:w.cell? a = some v):a.block < w.heap.size:=by
 unfold World.cell? at h
 rcases Nat.lt_or_ge a.block w.heap.size with hlt|hge
 ·exact hlt
 ·rw [Array.getElem?_eq_none hge] at h;cases h
def Stay (w w':World) (X X':Nat→Prop):Prop:=∀ b,b < w.heap.size→¬ X b→w'.heap[b]? = w.heap[b]?∧¬ X' b
theorem Stay.cell {w w':World} {X X':Nat→Prop} (h:Stay w w' X X') {b o:Nat} {v:Value} (hX:¬ X b) (hc:w.cell? ⟨b,o,none⟩ = some v):w'.cell? ⟨b,o,none⟩ = some v∧¬ X' b:=by
 obtain ⟨h1,h2⟩:=h b (jj hc) hX
 exact ⟨by rw [←hc];exact World.cell?_of_block (w:=w) h1,h2⟩
theorem Stay.refl (w:World) (X:Nat→Prop):Stay w w X X:=fun _ _ h=>⟨rfl,h⟩
theorem Rd.mono {w w':World} {X X':Nat→Prop} (hk:Stay w w' X X') {x:D} {v:Value} (h:Rd w X x v):Rd w' X' x v:=by
 induction h with
 |int k n=>exact .int k n
 |bool b=>exact .bool b
 |str s=>exact .str s
 |nil sz A c=>exact .nil sz A c
 |lst sz es b off c hcap hsz hc hr ih=>
  refine .lst sz es b off c hcap hsz (fun k e j d he hd=>?_) (fun k e j d v he hd hv=>?_)
  ·obtain ⟨h1,v,h2⟩:=hc k e j d he hd
   exact ⟨(hk.cell h1 h2).2,v,(hk.cell h1 h2).1⟩
  ·obtain ⟨h1,v',h2⟩:=hc k e j d he hd
   have h3:=(hk.cell h1 h2).1
   rw [hv] at h3
   cases h3
   exact ih k e j d v he hd h2
 |hole v h1 h2=>exact .hole v h1 h2
 |emap b hX hh=>
  obtain ⟨h1,h2⟩:=hk b (Array.getElem?_eq_some_iff.1 hh).1 hX
  exact .emap b h2 (h1.trans hh)
theorem R.mono {m m':Nat→Option Loc} {w w':World} {X X':Nat→Prop} (hm:∀ i l,m i = some l→m' i = some l) (hk:Stay w w' X X') {x:PV} {v:Value} (h:R m X w x v):R m' X' w' x v:=by
 induction h with
 |d x v h=>exact .d x v (h.mono hk)
 |agg xs vs hl h ih=>exact .agg xs vs hl ih
 |tup xs vs hl h ih=>exact .tup xs vs hl ih
 |rowN id h=>exact .rowN id (hm _ _ h)
 |rowB id n b c h hn=>exact .rowB id n b c (hm _ _ h) hn
 |view0 id sz lo A c=>exact .view0 id sz lo A c
 |viewB id sz lo n b c c' h hc=>exact .viewB id sz lo n b c c' (hm _ _ h) hc
 |bptr id off b c h=>exact .bptr id off b c (hm _ _ h)
 |rptr id sz k off b c h=>exact .rptr id sz k off b c (hm _ _ h)
 |eptr cs b off h=>
  refine .eptr cs b off fun j d hj=>?_
  obtain ⟨h1,v,h2,h3⟩:=h j d hj
  exact ⟨(hk.cell h1 h2).2,v,(hk.cell h1 h2).1,h3.mono hk⟩
 |fn f caps vs hl h ih=>exact .fn f caps vs hl ih
 |und v=>exact .und v
theorem Rd.one {w:World} {X:Nat→Prop} {x:D} {v:Value} (h:Rd w X x v):v.oneCell' = true:=by cases h<;>first|rfl|assumption
theorem Rd.cells {w:World} {X:Nat→Prop} {x:D} {v:Value} (h:Rd w X x v):v.cells = #[v]:=by cases h<;>first|rfl|assumption
inductive Tr (w:World):(Nat→Prop)→D→Value→Prop
 |int (F:Nat→Prop) (k:IntKind) (n:Int):Tr w F (.int k n) (.int k n)
 |bool (F:Nat→Prop) (b:Bool):Tr w F (.bool b) (.bool b)
 |str (F:Nat→Prop) (s:ByteArray):Tr w F (.str s) (.string s)
 |nil (F:Nat→Prop) (sz:Nat):Tr w F (.lst sz []) (.slice none 0 0)
 |lst (F:Nat→Prop) (sz:Nat) (es:List (List D)) (b c:Nat) (arr:Array Value) (ty:TypeId) (Fp:Nat→Nat→Nat→Prop) (hF:F b) (hh:w.heap[b]? = some (.cells arr ty (0,0))) (ha:arr.size = c * sz) (hn:es.length≤c) (hm:c≤maxLen) (hz:∀ e,e ∈ es→e.length = sz)
   (hsub:∀ k j x,Fp k j x→F x∧x≠b) (hdis:∀ k j k' j' x,Fp k j x→Fp k' j' x→k = k'∧j = j')
   (hc:∀ (k:Nat) (e:List D) (j:Nat) (d:D) (v:Value),es[k]? = some e→e[j]? = some d→arr[k * sz + j]? = some v→Tr w (Fp k j) d v):Tr w F (.lst sz es) (.slice (some ⟨b,0,none⟩) es.length c)
 |hole (F:Nat→Prop) (v:Value) (h1:v.oneCell' = true) (h2:v.cells = #[v]):Tr w F .hole v
theorem Tr.sub {w:World} {F F':Nat→Prop} (hF:∀ x,F x→F' x) {d:D} {v:Value} (h:Tr w F d v):Tr w F' d v:=by
 cases h with
 |int _ k n=>exact .int _ k n
 |bool _ b=>exact .bool _ b
 |str _ s=>exact .str _ s
 |nil _ sz=>exact .nil _ sz
 |lst _ sz es b c arr ty Fp h1 hh ha hn hm hz hsub hdis hc=>exact .lst _ sz es b c arr ty Fp (hF b h1) hh ha hn hm hz (fun k j x hx=>⟨hF x (hsub k j x hx).1,(hsub k j x hx).2⟩) hdis hc
 |hole _ v h1 h2=>exact .hole _ v h1 h2
theorem Tr.frame {w w':World} {F:Nat→Prop} (hk:∀ x,F x→w'.heap[x]? = w.heap[x]?) {d:D} {v:Value} (h:Tr w F d v):Tr w' F d v:=by
 induction h with
 |int F k n=>exact .int _ k n
 |bool F b=>exact .bool _ b
 |str F s=>exact .str _ s
 |nil F sz=>exact .nil _ sz
 |lst F sz es b c arr ty Fp h1 hh ha hn hm hz hsub hdis hc ih=>
  exact .lst _ sz es b c arr ty Fp h1 ((hk b h1).trans hh) ha hn hm hz hsub hdis fun k e j d v he hd hv=>ih k e j d v he hd hv fun x hx=>hk x (hsub k j x hx).1
 |hole F v h1 h2=>exact .hole _ v h1 h2
theorem Tr.rd {w:World} {F X:Nat→Prop} (hX:∀ x,F x→¬ X x) {d:D} {v:Value} (h:Tr w F d v):Rd w X d v:=by
 induction h with
 |int F k n=>exact .int k n
 |bool F b=>exact .bool b
 |str F s=>exact .str s
 |nil F sz=>exact .nil _ _ _
 |lst F sz es b c arr ty Fp h1 hh ha hn hm hz hsub hdis hc ih=>
  have hcell:∀ (k:Nat) (e:List D) (j:Nat) (d:D),es[k]? = some e→e[j]? = some d→∃ h:k * sz + j < arr.size,w.cell? ⟨b,0 + (k * sz + j),none⟩ = some arr[k * sz + j]:=by
   intro k e j d he hd
   have hk:=(List.getElem?_eq_some_iff.1 he).1
   have hj:j < sz:=by rw [←hz e (List.mem_of_getElem? he)];exact (List.getElem?_eq_some_iff.1 hd).1
   have hb:(k + 1) * sz≤c * sz:=Nat.mul_le_mul_right _ (by omega)
   rw [Nat.succ_mul] at hb
   have hlt:k * sz + j < arr.size:=by omega
   exact ⟨hlt,by simp [World.cell?,hh,hlt]⟩
  refine .lst sz es b 0 c hn hz (fun k e j d he hd=>?_) (fun k e j d v he hd hv=>?_)
  ·obtain ⟨hlt,h2⟩:=hcell k e j d he hd
   exact ⟨hX b h1,_,h2⟩
  ·obtain ⟨hlt,h2⟩:=hcell k e j d he hd
   rw [hv] at h2
   cases h2
   exact ih k e j d _ he hd (by simp [hlt]) fun x hx=>hX x (hsub k j x hx).1
 |hole F v h1 h2=>exact .hole v h1 h2
theorem Tr.one {w:World} {F:Nat→Prop} {d:D} {v:Value} (h:Tr w F d v):v.oneCell' = true:=by cases h<;>first|rfl|assumption
structure Mp where
 loc:Nat→Option Loc
 ft:Nat→Nat→Prop
instance:CoeFun Mp (fun _=>Nat→Option Loc):=⟨Mp.loc⟩
instance:Coe Mp (Nat→Option Loc):=⟨Mp.loc⟩
structure Base where
 w:World
 chg:Nat→Prop
 pin:Nat→Option Loc
structure Bel (B:Nat) (w w':World):Prop extends Below B w w' where
 drawn:DrLe w w'
theorem Bel.refl (B:Nat) (w:World):Bel B w w:=⟨Below.refl B w,.refl _⟩
theorem Bel.trans {B:Nat} {a b c:World} (h:Bel B a b) (k:Bel B b c):Bel B a c:=⟨h.toBelow.trans k.toBelow,h.drawn.trans k.drawn⟩
theorem Bel.mono {B B':Nat} {w w':World} (h:Bel B w w') (hB:B'≤B):Bel B' w w':=⟨h.toBelow.mono hB,h.drawn⟩
theorem Bel.drew {B:Nat} {a w:World} (h:Bel B a w):Bel B a w.drew:=⟨h.toBelow.drew,h.drawn.drew⟩
theorem Bel.alloc {B:Nat} {a w:World} (h:Bel B a w) (hB:B≤w.heap.size) (o:Obj):Bel B a (w.alloc o):=⟨h.toBelow.alloc hB o,h.drawn.alloc o⟩
theorem Bel.grown {w w':World} (h:Bel w.heap.size w w'):∃ q os,w' = {w with heap:=w.heap++os,drawn:=w.drawn + q}:=by
 obtain ⟨⟨h1,h2,h3,h4,h5⟩,h6⟩:=h
 refine ⟨w'.drawn - w.drawn,w'.heap.extract w.heap.size w'.heap.size,?_⟩
 have e:w.heap++w'.heap.extract w.heap.size w'.heap.size = w'.heap:=by
  apply Array.ext_getElem?
  intro k
  rw [Array.getElem?_append]
  split
  ·rename_i hk;exact (h5 k hk).symm
  ·rename_i hk
   rw [Array.getElem?_extract]
   split
   ·congr 1;omega
   ·rw [Array.getElem?_eq_none];omega
 cases w'
 simp only at h1 h2 h3 h4 h5 h6 e ⊢
 subst h1 h2 h3
 rw [e,Nat.add_sub_cancel' h6]
def Base.gl (w0:Base):Prop:=GL w0.w∧∀ b,w0.chg b→rL≤b
structure KeepB (w0:Base) (w w':World):Prop where
 os:w'.os = w.os
 tape:w'.tape = w.tape
 output:w'.output = w.output
 size:w.heap.size≤w'.heap.size
 block:∀ k,k < w0.w.heap.size→¬ w0.chg k→w'.heap[k]? = w.heap[k]?
 drawn:DrLe w w'
theorem KeepB.refl (w0:Base) (w:World):KeepB w0 w w:=⟨rfl,rfl,rfl,Nat.le_refl _,fun _ _ _=>rfl,.refl _⟩
theorem KeepB.trans {w0:Base} {a b c:World} (h:KeepB w0 a b) (k:KeepB w0 b c):KeepB w0 a c:=
 ⟨k.os.trans h.os,k.tape.trans h.tape,k.output.trans h.output,Nat.le_trans h.size k.size,fun i hi hn=>(k.block i hi hn).trans (h.block i hi hn),h.drawn.trans k.drawn⟩
theorem KeepB.of_below {w0:Base} {w w':World} (h:Bel w0.w.heap.size w w'):KeepB w0 w w':=⟨h.os,h.tape,h.output,h.size,fun k hk _=>h.block k hk,h.drawn⟩
inductive Blk where
 |box (ty:TypeId) (cs:List PV)
 |pbox (p:Nat) (ty:TypeId) (cs:List PV)
 |row (ty:TypeId) (sz:Nat) (es:List (List D))
 |deep (p:Nat) (ty:TypeId) (sz:Nat) (es:List (List D))
 |al (par k j:Nat)
def ae:List (Nat × Blk)→Nat→Option Blk
 |[],_=>none
 |(k,b)::r,i=>if i = k then some b else ae r i
def bj:List (Nat × Blk)→Nat→Blk→List (Nat × Blk)
 |[],_,_=>[]
 |(k,b)::r,i,b'=>if i = k then (k,b')::r else (k,b)::bj r i b'
def dH:List (Nat × Blk)→Nat→List (Nat × Blk)
 |[],_=>[]
 |(k,b)::r,i=>if i = k then dH r i else (k,b)::dH r i
theorem bq (h:List (Nat × Blk)) (i j:Nat) (b:Blk):ae (bj h i b) j = if j = i then (ae h i).map (fun _=>b) else ae h j:=by
 induction h with
 |nil=>simp [bj,ae]
 |cons p r ih=>
  obtain ⟨k,c⟩:=p
  by_cases h1:i = k
  ·subst h1
   by_cases h2:j = i<;>simp [bj,ae,h2]
  ·by_cases h2:j = k
   ·subst h2
    simp [bj,ae,h1,Ne.symm h1]
   ·simp only [bj,h1,if_false,ae,h2,ih]
theorem cR (h:List (Nat × Blk)) (i j:Nat):ae (dH h i) j = if j = i then none else ae h j:=by
 induction h with
 |nil=>simp [dH,ae]
 |cons p r ih=>
  obtain ⟨k,c⟩:=p
  by_cases h1:i = k
  ·subst h1
   by_cases h2:j = i
   ·subst h2;simpa [dH] using ih
   ·simp [dH,ae,ih,h2]
  ·by_cases h2:j = k
   ·subst h2
    simp [dH,ae,h1,Ne.symm h1]
   ·simp only [dH,h1,if_false,ae,h2,ih]
structure Fr where
 n:Nat
 l:List (Nat × PV)
def lk:List (Nat × PV)→Nat→PV
 |[],_=>.und
 |(k,x)::r,i=>if i = k then x else lk r i
def rm:List (Nat × PV)→Nat→List (Nat × PV)
 |[],_=>[]
 |(k,x)::r,i=>if i = k then rm r i else (k,x)::rm r i
def bw (l:List (Nat × PV)) (d:Nat) (x:PV):List (Nat × PV):=(d,x)::rm l d
def upl:List (Nat × PV)→Nat→PV→List (Nat × PV)
 |[],_,_=>[]
 |(k,y)::r,i,x=>if i = k then (k,x)::r else (k,y)::upl r i x
theorem xX (l:List (Nat × PV)) (i j:Nat):lk (rm l i) j = if j = i then .und else lk l j:=by
 induction l with
 |nil=>simp [rm,lk]
 |cons p r ih=>
  obtain ⟨k,x⟩:=p
  by_cases h1:i = k
  ·subst h1
   by_cases h2:j = i
   ·subst h2;simpa [rm,lk] using ih
   ·simp [rm,lk,ih,h2]
  ·by_cases h2:j = k
   ·subst h2
    simp [rm,lk,h1,Ne.symm h1]
   ·simp only [rm,h1,if_false,lk,h2,ih]
theorem uf (l:List (Nat × PV)) (d:Nat) (x:PV) (j:Nat):lk (bw l d x) j = if j = d then x else lk l j:=by
 simp only [bw,lk,xX];split<;>rfl
theorem p7:∀ {l:List (Nat × PV)} {i:Nat} {x:PV},lk l i = x→upl l i x = l
 |[],_,_,_=>rfl
 |(k,y)::r,i,x,h=>by
  simp only [lk] at h
  simp only [upl]
  split
  ·rename_i e;rw [if_pos e] at h;rw [h]
  ·rename_i e;rw [if_neg e] at h;rw [p7 h]
theorem uv:∀ (l:List (Nat × PV)) (i:Nat),lk l i = .und∨(i,lk l i) ∈ l
 |[],_=>.inl rfl
 |(k,x)::r,i=>by
  simp only [lk]
  split
  ·rename_i e;subst e;exact .inr (by simp)
  ·exact (uv r i).imp id (List.mem_cons_of_mem _)
def Fr.put (f:Fr) (d:Nat) (x:PV):Fr:=if d < f.n then ⟨f.n,bw f.l d x⟩ else f
theorem Fr.put_n (f:Fr) (d:Nat) (x:PV):(f.put d x).n = f.n:=by unfold Fr.put;split<;>rfl
def bh (i:Nat):List Nat→Bool
 |[]=>false
 |k::r=>if i = k then true else bh i r
def wl:List (Nat × PV)→List Nat→List (Nat × PV)
 |[],_=>[]
 |(k,x)::r,ts=>if bh k ts = true then wl r ts else (k,x)::wl r ts
theorem tQ (ts:List Nat):∀ (l:List (Nat × PV)) (i:Nat),lk (wl l ts) i = .und∨lk (wl l ts) i = lk l i
 |[],_=>.inl rfl
 |(k,x)::r,i=>by
  simp only [wl]
  split
  ·rename_i hk
   by_cases e:i = k
   ·subst e
    refine .inl ?_
    have:∀ r:List (Nat × PV),lk (wl r ts) i = .und:=by
     intro r
     induction r with
     |nil=>rfl
     |cons p r ih=>
      obtain ⟨k',y⟩:=p
      simp only [wl]
      split
      ·exact ih
      ·rename_i h'
       simp only [lk]
       split
       ·rename_i e;subst e;exact absurd hk h'
       ·exact ih
    exact this r
   ·simp only [lk,e,if_false]
    exact tQ ts r i
  ·simp only [lk]
   split
   ·exact .inr rfl
   ·exact tQ ts r i
def wipe (f:Fr) (ts:List Nat):Fr:=⟨f.n,wl f.l ts⟩
def aW:Nat→List PV→List (Nat × PV)
 |_,[]=>[]
 |i,x::r=>(i,x)::aW (i + 1) r
theorem kx:∀ (xs:List PV) (i j:Nat),lk (aW i xs) j = if i≤j then xs.getD (j - i) .und else .und
 |[],i,j=>by simp [aW,lk]
 |x::r,i,j=>by
  simp only [aW,lk,kx r (i + 1) j]
  by_cases e:j = i
  ·subst e;simp
  ·by_cases h:i≤j
   ·have h2:i + 1≤j:=by omega
    obtain ⟨q,hq⟩:∃ q,j - i = q + 1:=⟨j - i - 1,by omega⟩
    simp only [e,if_false,h2,if_true,h,hq,show j - (i + 1) = q by omega,List.getD_cons_succ]
   ·simp only [e,if_false,h,show ¬ i + 1≤j by omega]
structure AS where
 fr:Fr
 hp:List (Nat × Blk)
 nx:Nat
def nq:Value→PV
 |.int k n=>.d (.int k n)
 |.bool b=>.d (.bool b)
 |.string s=>.d (.str s)
 |_=>.und
def AS.get (s:AS):Operand→PV
 |.tmp t=>lk s.fr.l t
 |.const v=>nq v
 |.func f=>.fn f []
 |.global _=>.und
def AS.put (s:AS) (dst:Option Tmp) (v:PV):AS:=
 match dst with
 |some d=>{s with fr:=s.fr.put d v}
 |none=>s
def Blk.ty:Blk→TypeId
 |.box ty _=>ty
 |.pbox _ ty _=>ty
 |.row ty _ _=>ty
 |.deep _ ty _ _=>ty
 |.al _ _ _=>0
def Blk.cellsOk (m:Nat→Option Loc) (X:Nat→Prop) (w:World) (arr:Array Value) (c:Nat):Blk→Prop
 |.box _ cs|.pbox _ _ cs=>arr.size = cs.length∧∀ (j:Nat) (x:PV) (v:Value),cs[j]? = some x→arr[j]? = some v→R m X w x v∧v.oneCell' = true
 |.row _ sz es=>arr.size = c * sz∧es.length≤c∧c≤maxLen∧(∀ e,e ∈ es→e.length = sz)∧
   ∀ (k:Nat) (e:List D) (j:Nat) (d:D) (v:Value),es[k]? = some e→e[j]? = some d→arr[k * sz + j]? = some v→Rd w X d v
 |.deep _ _ _ _=>False
 |.al _ _ _=>False
def Blk.isNil:Blk→Prop
 |.box _ _=>False
 |.pbox _ _ _=>False
 |.row _ _ es=>es = []
 |.deep _ _ _ _=>False
 |.al _ _ _=>False
def Blk.plain:Blk→Bool
 |.box _ _|.row _ _ _|.pbox _ _ _=>true
 |_=>false
def Blk.ok' (m:Nat→Option Loc) (X:Nat→Prop) (w:World) (blk:Blk):Loc→Prop
 |.nil=>blk.isNil
 |.blk b c=>∃ arr,w.heap[b]? = some (.cells arr blk.ty (0,0))∧blk.cellsOk m X w arr c
def Blk.ok (m:Nat→Option Loc) (X:Nat→Prop) (w:World):Blk→Loc→Prop
 |.box ty cs,l=>(Blk.box ty cs).ok' m X w l
 |.pbox p ty cs,l=>(Blk.pbox p ty cs).ok' m X w l
 |.row ty sz es,l=>(Blk.row ty sz es).ok' m X w l
 |.deep _ _ _ _,_=>True
 |.al _ _ _,_=>True
theorem Blk.ok_of {m:Nat→Option Loc} {X:Nat→Prop} {w:World} {blk:Blk} {l:Loc} (h:blk.ok' m X w l):blk.ok m X w l:=by
 cases blk<;>first|exact h|trivial
theorem Blk.ok_to {m:Nat→Option Loc} {X:Nat→Prop} {w:World} {blk:Blk} {l:Loc} (hp:blk.plain = true) (h:blk.ok m X w l):blk.ok' m X w l:=by
 cases blk<;>first|exact h|cases hp
theorem Blk.cellsOk.mono {m m':Nat→Option Loc} {X X':Nat→Prop} {w w':World} {arr:Array Value} {c:Nat} {blk:Blk} (h:blk.cellsOk m X w arr c) (hm:∀ i l,m i = some l→m' i = some l) (hk:Stay w w' X X'):blk.cellsOk m' X' w' arr c:=by
 cases blk with
 |box ty cs=>exact ⟨h.1,fun j x v hx hv=>⟨(h.2 j x v hx hv).1.mono hm hk,(h.2 j x v hx hv).2⟩⟩
 |pbox p ty cs=>exact ⟨h.1,fun j x v hx hv=>⟨(h.2 j x v hx hv).1.mono hm hk,(h.2 j x v hx hv).2⟩⟩
 |row ty sz es=>exact ⟨h.1,h.2.1,h.2.2.1,h.2.2.2.1,fun k e j d v he hd hv=>(h.2.2.2.2 k e j d v he hd hv).mono hk⟩
 |deep=>exact h.elim
 |al=>exact h.elim
theorem Blk.ok.mono {m m':Nat→Option Loc} {X X':Nat→Prop} {w w':World} {blk:Blk} {l:Loc} (h:blk.ok m X w l) (hm:∀ i l,m i = some l→m' i = some l) (hk:Stay w w' X X')
  (hb:∀ b c,blk.plain = true→l = .blk b c→w'.heap[b]? = w.heap[b]?):blk.ok m' X' w' l:=by
 cases hp:blk.plain with
 |false=>cases blk<;>first|trivial|cases hp
 |true=>
  refine Blk.ok_of ?_
  have h:=Blk.ok_to hp h
  cases l with
  |nil=>exact h
  |blk b c=>
   obtain ⟨arr,h1,h2⟩:=h
   exact ⟨arr,(hb b c hp rfl).trans h1,h2.mono hm hk⟩
def DpOk (w:World) (F:Nat→Prop) (ty:TypeId) (sz:Nat) (es:List (List D)):Option Loc→Prop
 |none=>False
 |some .nil=>es = []∧∀ x,¬ F x
 |some (.blk b c)=>¬ F b∧∃ arr,w.heap[b]? = some (.cells arr ty (0,0))∧arr.size = c * sz∧es.length≤c∧c≤maxLen∧(∀ e,e ∈ es→e.length = sz)∧
   ∃ Fp:Nat→Nat→Nat→Prop,(∀ k j x,Fp k j x→F x)∧(∀ k j k' j' x,Fp k j x→Fp k' j' x→k = k'∧j = j')∧
    ∀ (k:Nat) (e:List D) (j:Nat) (d:D) (v:Value),es[k]? = some e→e[j]? = some d→arr[k * sz + j]? = some v→Tr w (Fp k j) d v
theorem DpOk.frame {w w':World} {F:Nat→Prop} {ty:TypeId} {sz:Nat} {es:List (List D)} {l:Option Loc} (h:DpOk w F ty sz es l) (hk:∀ x,F x→w'.heap[x]? = w.heap[x]?) (hb:∀ b c,l = some (.blk b c)→w'.heap[b]? = w.heap[b]?):DpOk w' F ty sz es l:=by
 cases l with
 |none=>exact h
 |some l=>
  cases l with
  |nil=>exact h
  |blk b c=>
   obtain ⟨h1,arr,h2,h3,h4,h5,h6,Fp,h7,h8,h9⟩:=h
   exact ⟨h1,arr,(hb b c rfl).trans h2,h3,h4,h5,h6,Fp,h7,h8,fun k e j d v he hd hv=>(h9 k e j d v he hd hv).frame fun x hx=>hk x (h7 k j x hx)⟩
def Blk.has (m:Mp) (id:Nat) (b:Nat):Blk→Prop
 |.box _ _=>∃ c,m.loc id = some (.blk b c)
 |.pbox _ _ _=>∃ c,m.loc id = some (.blk b c)
 |.row _ _ _=>∃ c,m.loc id = some (.blk b c)
 |.deep _ _ _ _=>(∃ c,m.loc id = some (.blk b c))∨m.ft id b
 |.al _ _ _=>False
theorem Blk.has_root {m:Mp} {id b c:Nat} {blk:Blk} (hp:blk.plain = true) (h:m.loc id = some (.blk b c)):blk.has m id b:=by
 cases blk<;>first|exact ⟨c,h⟩|cases hp
theorem Blk.has_plain {m:Mp} {id b:Nat} {blk:Blk} (hp:blk.plain = true) (h:blk.has m id b):∃ c,m.loc id = some (.blk b c):=by
 cases blk<;>first|exact h|cases hp
def aU (X0:Nat→Prop) (m:Mp) (hp:List (Nat × Blk)) (b:Nat):Prop:=X0 b∨∃ id blk,ae hp id = some blk∧blk.has m id b
def tP (w:World) (m:Mp) (hp:List (Nat × Blk)) (id par k j:Nat):Prop:=
 ∃ q ty sz es e sz' es' b c arr,ae hp par = some (.deep q ty sz es)∧es[k]? = some e∧e[j]? = some (.lst sz' es')∧m.loc par = some (.blk b c)∧w.heap[b]? = some (.cells arr ty (0,0))∧
  ((m.loc id = some .nil∧arr[k * sz + j]? = some (.slice none 0 0))∨∃ b' c',m.loc id = some (.blk b' c')∧arr[k * sz + j]? = some (.slice (some ⟨b',0,none⟩) es'.length c'))
def Blk.pinOf:Blk→Option Nat
 |.deep (p + 1) _ _ _=>some p
 |.pbox p _ _=>some p
 |_=>none
theorem gL {q ty sz ty2 sz2:Nat} {es es2:List (List D)} {p:Nat} (h:(Blk.deep q ty sz es).pinOf = some p):(Blk.deep q ty2 sz2 es2).pinOf = some p:=by cases q<;>exact h
structure Sim (X0:Nat→Prop) (w0:Base) (m:Mp) (s:AS) (a:Act) (w:World):Prop where
 below:KeepB w0 w0.w w
 x0:∀ b,X0 b→b < w0.w.heap.size∧¬ w0.chg b
 size:a.tmps.size = s.fr.n
 fr:∀ i:Nat,R m.loc (aU X0 m s.hp) w (lk s.fr.l i) (a.tmps.getD i undef)
 df:a.defers = []
 hp:∀ id blk,ae s.hp id = some blk→∃ l,m.loc id = some l∧blk.ok m.loc (aU X0 m s.hp) w l
 dp:∀ id p ty sz es,ae s.hp id = some (.deep p ty sz es)→DpOk w (m.ft id) ty sz es (m.loc id)
 al:∀ id par k j,ae s.hp id = some (.al par k j)→tP w m s.hp id par k j
 pin:∀ id blk p,ae s.hp id = some blk→blk.pinOf = some p→m.loc id = w0.pin p
 inj:∀ id id' blk blk' b,ae s.hp id = some blk→ae s.hp id' = some blk'→blk.has m id b→blk'.has m id' b→id = id'
 own:∀ id blk b,ae s.hp id = some blk→blk.has m id b→(w0.w.heap.size≤b∨w0.chg b)∧b < w.heap.size
 nx:∀ id,s.nx≤id→m.loc id = none
 gl:w0.gl
def bN (m:Mp) (i:Nat) (l:Loc) (F:Nat→Prop:=fun _=>False):Mp:=⟨fun j=>if j = i then some l else m.loc j,fun j=>if j = i then F else m.ft j⟩
theorem bp (m:Mp) (i:Nat) (l:Loc) {F:Nat→Prop}:(bN m i l F).loc i = some l:=by simp [bN]
theorem db (m:Mp) {i j:Nat} (l:Loc) {F:Nat→Prop} (h:j≠i):(bN m i l F).loc j = m.loc j:=by simp [bN,h]
theorem fN (m:Mp) (i:Nat) (l:Loc) (F:Nat→Prop):(bN m i l F).ft i = F:=by simp [bN]
theorem j5 (m:Mp) {i j:Nat} (l:Loc) (F:Nat→Prop) (h:j≠i):(bN m i l F).ft j = m.ft j:=by simp [bN,h]
theorem gh (m:Mp) (i:Nat) (l:Loc) {F:Nat→Prop} (h:m.loc i = none∨m.loc i = some l):∀ j k,m.loc j = some k→(bN m i l F).loc j = some k:=by
 intro j k hj
 by_cases e:j = i
 ·subst e
  rcases h with h|h
  ·rw [h] at hj;cases hj
  ·rw [h] at hj;rw [bp];exact hj
 ·rw [db m l e];exact hj
theorem Blk.has_upd {m:Mp} {i:Nat} {l:Loc} {F:Nat→Prop} {id b:Nat} {blk:Blk} (h:id≠i):blk.has (bN m i l F) id b↔blk.has m id b:=by
 cases blk<;>simp [Blk.has,db m l h,j5 m l F h]
section
variable {X0:Nat→Prop} {w0:Base} {m:Mp} {s:AS} {a:Act} {w:World}
theorem Sim.get (h:Sim X0 w0 m s a w) (o:Operand):R m.loc (aU X0 m s.hp) w (s.get o) (a.eval o):=by
 cases o with
 |tmp t=>exact h.fr t
 |const v=>
  show R _ _ _ (nq v) v
  cases v<;>first|exact .d _ _ (.int _ _)|exact .d _ _ (.bool _)|exact .d _ _ (.str _)|exact .und _
 |func f=>exact .fn f [] #[] rfl (fun i x v hx=>by simp at hx)
 |global g=>exact .und _
theorem Sim.put (h:Sim X0 w0 m s a w) {x:PV} {v:Value} (hx:R m.loc (aU X0 m s.hp) w x v) (dst:Option Tmp):Sim X0 w0 m (s.put dst x) (a.put dst v) w:=by
 cases dst with
 |none=>exact h
 |some d=>
  refine ⟨h.below,h.x0,by simp [AS.put,Act.put,h.size,Fr.put_n],fun i=>?_,h.df,h.hp,h.dp,h.al,h.pin,h.inj,h.own,h.nx,h.gl⟩
  simp only [AS.put,Act.put,Fr.put]
  by_cases hge:¬ d < s.fr.n
  ·rw [if_neg hge]
   have hlt:=hge
   have:a.tmps.setIfInBounds d v = a.tmps:=by
    unfold Array.setIfInBounds
    rw [dif_neg (by rw [h.size];exact hlt)]
   rw [this]
   exact h.fr i
  have hlt:d < s.fr.n:=Classical.not_not.1 hge
  rw [if_pos hlt]
  simp only [uf]
  by_cases e:d = i
  ·subst e
   simp only [if_true]
   have:d < a.tmps.size:=by rw [h.size];exact hlt
   simpa [Array.getD,this] using hx
  ·rw [if_neg (Ne.symm e)]
   have h1:=h.fr i
   have e2:(a.tmps.setIfInBounds d v).getD i undef = a.tmps.getD i undef:=by
    simp only [Array.getD_eq_getD_getElem?]
    rw [Array.getElem?_setIfInBounds_ne e]
   rw [e2]
   exact h1
theorem Sim.step {m':Mp} {hp':List (Nat × Blk)} {nx':Nat} {w':World} (h:Sim X0 w0 m s a w) (hm:∀ i l,m.loc i = some l→m'.loc i = some l) (hb:KeepB w0 w w')
  (hk:Stay w w' (aU X0 m s.hp) (aU X0 m' hp'))
  (hhp:∀ id blk,ae hp' id = some blk→∃ l,m'.loc id = some l∧blk.ok m'.loc (aU X0 m' hp') w' l)
  (hdp:∀ id p ty sz es,ae hp' id = some (.deep p ty sz es)→DpOk w' (m'.ft id) ty sz es (m'.loc id))
  (hal:∀ id par k j,ae hp' id = some (.al par k j)→tP w' m' hp' id par k j)
  (hpin:∀ id blk p,ae hp' id = some blk→blk.pinOf = some p→m'.loc id = w0.pin p)
  (hinj:∀ id id' blk blk' b,ae hp' id = some blk→ae hp' id' = some blk'→blk.has m' id b→blk'.has m' id' b→id = id')
  (hown:∀ id blk b,ae hp' id = some blk→blk.has m' id b→(w0.w.heap.size≤b∨w0.chg b)∧b < w'.heap.size)
  (hnx:∀ id,nx'≤id→m'.loc id = none):Sim X0 w0 m' ⟨s.fr,hp',nx'⟩ a w':=
 ⟨h.below.trans hb,h.x0,h.size,fun i=>(h.fr i).mono hm hk,h.df,hhp,hdp,hal,hpin,hinj,hown,hnx,h.gl⟩
def Blk.isAl:Blk→Bool
 |.al _ _ _=>true
 |_=>false
theorem Sim.lt_size (h:Sim X0 w0 m s a w) {b:Nat} (hb:aU X0 m s.hp b):b < w.heap.size:=by
 rcases hb with hb|⟨id,blk,h1,h2⟩
 ·exact Nat.lt_of_lt_of_le (h.x0 b hb).1 h.below.size
 ·exact (h.own id blk b h1 h2).2
theorem Sim.changeD {i:Nat} {blk':Blk} {l':Loc} {F':Nat→Prop} {w':World} {hp':List (Nat × Blk)} {nx':Nat} (h:Sim X0 w0 m s a w) (T:Nat→Prop) (hi:m.loc i = none∨m.loc i = some l') (hnew:ae hp' i = some blk')
  (hkeep:∀ id,id≠i→∀ blk,ae hp' id = some blk→ae s.hp id = some blk) (hna:blk'.isAl = false)
  (hal:∀ id par k j,id≠i→ae hp' id = some (.al par k j)→(par≠i∧ae hp' par = ae s.hp par)∨tP w' (bN m i l' F') hp' id par k j) (hnx:s.nx≤nx') (hin:i < nx') (hb:KeepB w0 w w')
  (hsame:∀ k,k < w.heap.size→¬ T k→w'.heap[k]? = w.heap[k]?)
  (hT:∀ k,T k→∃ id blk,ae s.hp id = some blk∧blk.has m id k∧(id = i∨ae hp' id = none))
  (hl:∀ b,blk'.has (bN m i l' F') i b→(w0.w.heap.size≤b∨w0.chg b)∧b < w'.heap.size∧(w.heap.size≤b∨T b))
  (hpin:∀ p,blk'.pinOf = some p→some l' = w0.pin p)
  (hdp:∀ p ty sz es,blk' = .deep p ty sz es→DpOk w' F' ty sz es (some l'))
  (hok:Stay w w' (aU X0 m s.hp) (aU X0 (bN m i l' F') hp')→blk'.ok (bN m i l' F').loc (aU X0 (bN m i l' F') hp') w' l'):Sim X0 w0 (bN m i l' F') ⟨s.fr,hp',nx'⟩ a w':=by
 have hm:=gh (F:=F') m i l' hi
 have hTown:∀ k,T k→aU X0 m s.hp k:=fun k hk=>let ⟨id,blk,h1,h2,_⟩:=hT k hk;.inr ⟨id,blk,h1,h2⟩
 have hst:Stay w w' (aU X0 m s.hp) (aU X0 (bN m i l' F') hp'):=by
  intro b hb1 hb2
  refine ⟨hsame b hb1 (fun ht=>hb2 (hTown b ht)),?_⟩
  rintro (hx|⟨id,blk,h1,h2⟩)
  ·exact hb2 (.inl hx)
  ·by_cases e:id = i
   ·subst e
    rw [hnew] at h1
    cases h1
    rcases (hl b h2).2.2 with h3|h3
    ·omega
    ·exact hb2 (hTown b h3)
   ·exact hb2 (.inr ⟨id,blk,hkeep id e blk h1,(Blk.has_upd e).1 h2⟩)
 have hTk:∀ id blk b,id≠i→ae hp' id = some blk→blk.has m id b→¬ T b:=by
  intro id blk b e h1 h2 ht
  obtain ⟨id',blk',h3,h4,h5⟩:=hT b ht
  have:=h.inj id id' blk blk' b (hkeep id e blk h1) h3 h2 h4
  subst this
  rcases h5 with h5|h5
  ·exact e h5
  ·rw [h5] at h1;cases h1
 have hsame':∀ id blk b,id≠i→ae hp' id = some blk→blk.has m id b→w'.heap[b]? = w.heap[b]?:=fun id blk b e h1 h2=>
  hsame b (h.own id blk b (hkeep id e blk h1) h2).2 (hTk id blk b e h1 h2)
 have key:∀ id blk b,id≠i→ae hp' id = some blk→blk.has m id b→blk'.has (bN m i l' F') i b→False:=by
  intro id blk b e h1 h2 h3
  rcases (hl b h3).2.2 with h4|h4
  ·have:=(h.own id blk b (hkeep id e blk h1) h2).2
   omega
  ·exact hTk id blk b e h1 h2 h4
 refine h.step hm hb hst (fun id blk hid=>?_) (fun id p ty sz es hid=>?_) (fun id par k j hid=>?_) (fun id blk p hid hpo=>?_) ?_ ?_ (fun id hid=>?_)
 ·by_cases e:id = i
  ·subst e
   rw [hnew] at hid
   cases hid
   exact ⟨l',bp m id l',hok hst⟩
  ·obtain ⟨l,h1,h2⟩:=h.hp id blk (hkeep id e blk hid)
   refine ⟨l,by rw [db m l' e];exact h1,h2.mono hm hst ?_⟩
   intro b c hpl hl2
   subst hl2
   exact hsame' id blk b e hid (Blk.has_root hpl h1)
 ·by_cases e:id = i
  ·subst e
   rw [hnew] at hid
   cases hid
   rw [bp,fN]
   exact hdp p ty sz es rfl
  ·rw [db m l' e,j5 m l' F' e]
   refine (h.dp id p ty sz es (hkeep id e _ hid)).frame (fun x hx=>hsame' id _ x e hid (.inr hx)) fun b c hbc=>hsame' id _ b e hid (.inl ⟨c,hbc⟩)
 ·by_cases e:id = i
  ·subst e
   rw [hnew] at hid
   cases hid
   cases hna
  ·rcases hal id par k j e hid with ⟨hp1,hp2⟩|hok
   case inr=>exact hok
   obtain ⟨q,ty,sz,es,e0,sz',es',b,c,arr,a1,a2,a3,a4,a5,a6⟩:=h.al id par k j (hkeep id e _ hid)
   refine ⟨q,ty,sz,es,e0,sz',es',b,c,arr,hp2.trans a1,a2,a3,by rw [db m l' hp1];exact a4,?_,by rw [db m l' e];exact a6⟩
   rw [hsame' par _ b hp1 (hp2.trans a1) (.inl ⟨c,a4⟩)]
   exact a5
 ·by_cases e:id = i
  ·subst e
   rw [hnew] at hid
   cases hid
   rw [bp]
   exact hpin p hpo
  ·rw [db m l' e]
   exact h.pin id blk p (hkeep id e _ hid) hpo
 ·intro id id' blk blk2 b h1 h2 h3 h4
  by_cases e:id = i
  ·subst e
   by_cases e':id' = id
   ·exact e'.symm
   ·rw [hnew] at h1
    cases h1
    exact (key id' blk2 b e' h2 ((Blk.has_upd e').1 h4) h3).elim
  ·by_cases e':id' = i
   ·subst e'
    rw [hnew] at h2
    cases h2
    exact (key id blk b e h1 ((Blk.has_upd e).1 h3) h4).elim
   ·exact h.inj id id' blk blk2 b (hkeep id e blk h1) (hkeep id' e' blk2 h2) ((Blk.has_upd e).1 h3) ((Blk.has_upd e').1 h4)
 ·intro id blk b h1 h2
  by_cases e:id = i
  ·subst e
   rw [hnew] at h1
   cases h1
   exact ⟨(hl b h2).1,(hl b h2).2.1⟩
  ·have:=h.own id blk b (hkeep id e blk h1) ((Blk.has_upd e).1 h2)
   exact ⟨this.1,Nat.lt_of_lt_of_le this.2 hb.size⟩
 ·rw [db m l' (by omega)]
  exact h.nx id (by omega)
theorem Sim.change {i:Nat} {blk':Blk} {l':Loc} {w':World} {hp':List (Nat × Blk)} {nx':Nat} (h:Sim X0 w0 m s a w) (T:Nat→Prop) (hi:m.loc i = none∨m.loc i = some l') (hnew:ae hp' i = some blk') (hpl:blk'.plain = true)
  (hkeep:∀ id,id≠i→∀ blk,ae hp' id = some blk→ae s.hp id = some blk)
  (hdeep:∀ id q ty sz es,ae s.hp id = some (.deep q ty sz es)→id≠i∧ae hp' id = ae s.hp id) (hnx:s.nx≤nx') (hin:i < nx') (hb:KeepB w0 w w')
  (hsame:∀ k,k < w.heap.size→¬ T k→w'.heap[k]? = w.heap[k]?)
  (hT:∀ k,T k→∃ id blk,ae s.hp id = some blk∧blk.has m id k∧(id = i∨ae hp' id = none))
  (hl:∀ b c,l' = .blk b c→(w0.w.heap.size≤b∨w0.chg b)∧b < w'.heap.size∧(w.heap.size≤b∨T b))
  (hok:Stay w w' (aU X0 m s.hp) (aU X0 (bN m i l') hp')→blk'.ok' (bN m i l').loc (aU X0 (bN m i l') hp') w' l') (hpin:∀ p,blk'.pinOf = some p→some l' = w0.pin p:=by intro p e;cases e):Sim X0 w0 (bN m i l') ⟨s.fr,hp',nx'⟩ a w':=by
 refine h.changeD T hi hnew hkeep (by cases blk'<;>first|rfl|cases hpl) (fun id par k j hid ha=>?_) hnx hin hb hsame hT (fun b hb=>?_) hpin (fun p ty sz es e=>by subst e;cases hpl) fun hst=>Blk.ok_of (hok hst)
 ·obtain ⟨q,ty,sz,es,_,_,_,_,_,_,a1,_⟩:=h.al id par k j (hkeep id hid _ ha)
  exact .inl (hdeep par q ty sz es a1)
 ·obtain ⟨c,hc⟩:=Blk.has_plain hpl hb
  rw [bp] at hc
  exact hl b c (Option.some.inj hc)
theorem Sim.kill (h:Sim X0 w0 m s a w) (hp':List (Nat × Blk)) (hkeep:∀ id blk,ae hp' id = some blk→ae s.hp id = some blk)
  (hal:∀ id par k j,ae hp' id = some (.al par k j)→ae hp' par = ae s.hp par):Sim X0 w0 m ⟨s.fr,hp',s.nx⟩ a w:=by
 have hst:Stay w w (aU X0 m s.hp) (aU X0 m hp'):=by
  intro b _ hb2
  refine ⟨rfl,?_⟩
  rintro (hx|⟨id,blk,h1,h2⟩)
  ·exact hb2 (.inl hx)
  ·exact hb2 (.inr ⟨id,blk,hkeep id blk h1,h2⟩)
 refine h.step (fun _ _ h=>h) (KeepB.refl _ _) hst (fun id blk hid=>?_) (fun id p ty sz es hid=>h.dp id p ty sz es (hkeep _ _ hid)) (fun id par k j hid=>?_) (fun id blk p hid hpo=>h.pin id blk p (hkeep _ _ hid) hpo)
  (fun id id' blk blk' b h1 h2=>h.inj id id' blk blk' b (hkeep _ _ h1) (hkeep _ _ h2)) (fun id blk b h1=>h.own id blk b (hkeep _ _ h1)) h.nx
 ·obtain ⟨l,h1,h2⟩:=h.hp id blk (hkeep id blk hid)
  exact ⟨l,h1,h2.mono (fun _ _ h=>h) hst (fun _ _ _ _=>rfl)⟩
 ·obtain ⟨q,ty,sz,es,e0,sz',es',b,c,arr,a1,a2⟩:=h.al id par k j (hkeep id _ hid)
  exact ⟨q,ty,sz,es,e0,sz',es',b,c,arr,(hal id par k j hid).trans a1,a2⟩
theorem Sim.wipe (h:Sim X0 w0 m s a w) (ts:List Nat):Sim X0 w0 m ⟨wipe s.fr ts,s.hp,s.nx⟩ a w:=
 ⟨h.below,h.x0,h.size,fun i=>by
  rcases tQ ts s.fr.l i with e|e
  ·simp only [Go.Proofs.YtphakidbddamfaaGreat.wipe,e];exact .und _
  ·simp only [Go.Proofs.YtphakidbddamfaaGreat.wipe,e];exact h.fr i,h.df,h.hp,h.dp,h.al,h.pin,h.inj,h.own,h.nx,h.gl⟩
theorem KeepB.glob {w0:Base} {w:World} (h:KeepB w0 w0.w w) (hg:w0.gl):GL w:=
 hg.1.keep h.size fun b hb=>h.block b (Nat.lt_of_lt_of_le hb hg.1.1) fun hc=>absurd (hg.2 b hc) (Nat.not_le.2 hb)
theorem Sim.glob (h:Sim X0 w0 m s a w):GL w:=h.below.glob h.gl
theorem Sim.above (h:Sim X0 w0 m s a w) {b:Nat} (hb:w0.w.heap.size≤b∨w0.chg b):rL≤b:=hb.elim (fun h1=>Nat.le_trans h.gl.1.1 h1) (h.gl.2 b)
theorem Sim.hnx (h:Sim X0 w0 m s a w):m.loc s.nx = none:=h.nx _ (Nat.le_refl _)
theorem Sim.hget_none (h:Sim X0 w0 m s a w) {id:Nat} (hid:s.nx≤id):ae s.hp id = none:=by
 cases e:ae s.hp id with
 |none=>rfl
 |some blk=>
  obtain ⟨l,h1,_⟩:=h.hp _ _ e
  rw [h.nx id hid] at h1
  cases h1
theorem Sim.hget_nx (h:Sim X0 w0 m s a w):ae s.hp s.nx = none:=h.hget_none (Nat.le_refl _)
theorem Sim.deep_new (h:Sim X0 w0 m s a w) (blk:Blk):∀ id q ty sz es,ae s.hp id = some (.deep q ty sz es)→id≠s.nx∧ae ((s.nx,blk)::s.hp) id = ae s.hp id:=by
 intro id q ty sz es hid
 have:id≠s.nx:=fun e=>by subst e;rw [h.hget_nx] at hid;cases hid
 exact ⟨this,by rw [ae,if_neg this]⟩
theorem Sim.alloc (h:Sim X0 w0 m s a w) {blk:Blk} {arr:Array Value} {c:Nat} (hok:blk.cellsOk m.loc (aU X0 m s.hp) w arr c) (hnp:blk.pinOf = none:=by rfl):
  Sim X0 w0 (bN m s.nx (.blk w.heap.size c)) ⟨s.fr,(s.nx,blk)::s.hp,s.nx + 1⟩ a (w.alloc (.cells arr blk.ty)):=by
 have hpl:blk.plain = true:=by cases blk<;>first|rfl|exact hok.elim
 refine h.change (blk':=blk) (hpin:=fun p e=>by rw [hnp] at e;cases e) (fun _=>False) (.inl h.hnx) (by simp [ae]) hpl (fun id hid b hb=>by simpa [ae,hid] using hb) (h.deep_new blk) (by omega) (by omega) (KeepB.of_below ((Bel.refl _ _).alloc h.below.size _)) (fun k hk _=>Below.heap_alloc w _ k hk) (fun _ hf=>hf.elim) ?_ ?_
 ·intro b c' e
  cases e
  exact ⟨.inl h.below.size,by simp,.inl (Nat.le_refl _)⟩
 ·intro hst
  exact ⟨arr,heap_alloc_new w _,hok.mono (gh m _ _ (.inl h.hnx)) hst⟩
theorem Sim.ghost (h:Sim X0 w0 m s a w) (ty:TypeId) (sz:Nat):Sim X0 w0 (bN m s.nx .nil) ⟨s.fr,(s.nx,.row ty sz [])::s.hp,s.nx + 1⟩ a w:=by
 refine h.change (blk':=.row ty sz []) (fun _=>False) (.inl h.hnx) (by simp [ae]) rfl (fun id hid b hb=>by simpa [ae,hid] using hb) (h.deep_new _) (by omega) (by omega) (KeepB.refl _ _) (fun k hk _=>rfl) (fun _ hf=>hf.elim) ?_ ?_
 ·intro b c' e
  cases e
 ·intro _
  rfl
theorem Sim.same (h:Sim X0 w0 m s a w) {w':World} (hb:KeepB w0 w w') (hk:∀ k,k < w.heap.size→w'.heap[k]? = w.heap[k]?):Sim X0 w0 m s a w':=by
 have hst:Stay w w' (aU X0 m s.hp) (aU X0 m s.hp):=fun b hb1 hb2=>⟨hk b hb1,hb2⟩
 have hold:∀ id blk b,ae s.hp id = some blk→blk.has m id b→w'.heap[b]? = w.heap[b]?:=fun id blk b h1 h2=>hk b (h.own id blk b h1 h2).2
 refine h.step (fun _ _ h=>h) hb hst (fun id blk hid=>?_) (fun id p ty sz es hid=>?_) (fun id par k j hid=>?_) h.pin h.inj (fun id blk b h1 h2=>⟨(h.own id blk b h1 h2).1,Nat.lt_of_lt_of_le (h.own id blk b h1 h2).2 hb.size⟩) h.nx
 ·obtain ⟨l,h1,h2⟩:=h.hp id blk hid
  refine ⟨l,h1,h2.mono (fun _ _ h=>h) hst fun b c hpl e=>?_⟩
  subst e
  exact hold id blk b hid (Blk.has_root hpl h1)
 ·exact (h.dp id p ty sz es hid).frame (fun x hx=>hold id _ x hid (.inr hx)) fun b c hbc=>hold id _ b hid (.inl ⟨c,hbc⟩)
 ·obtain ⟨q,ty,sz,es,e0,sz',es',b,c,arr,a1,a2,a3,a4,a5,a6⟩:=h.al id par k j hid
  exact ⟨q,ty,sz,es,e0,sz',es',b,c,arr,a1,a2,a3,a4,(hold par _ b a1 (.inl ⟨c,a4⟩)).trans a5,a6⟩
theorem Sim.drew (h:Sim X0 w0 m s a w):Sim X0 w0 m s a w.drew:=h.same (KeepB.of_below (Bel.refl _ _).drew) fun _ _=>rfl
theorem Sim.later {w':World} (h:Sim X0 w0 m s a w) (hb:Bel w.heap.size w w'):Sim X0 w0 m s a w':=
 h.same ⟨hb.os,hb.tape,hb.output,hb.size,fun k hk _=>hb.block k (Nat.lt_of_lt_of_le hk h.below.size),hb.drawn⟩ hb.block
theorem Sim.lt_nx (h:Sim X0 w0 m s a w) {id:Nat} {l:Loc} (hm:m.loc id = some l):id < s.nx:=by
 rcases Nat.lt_or_ge id s.nx with h1|h1
 ·exact h1
 ·rw [h.nx id h1] at hm;cases hm
end
end Go.Proofs.YtphakidbddamfaaGreat
namespace Go.Proofs.YtphakidbddamfaaGreat
open Go.RowKit
section inv
variable {m:Nat→Option Loc} {X:Nat→Prop} {w:World} {v:Value}
theorem R.rd {x:D} (h:R m X w (.d x) v):Rd w X x v:=by cases h;assumption
theorem R.int {k:IntKind} {n:Int} (h:R m X w (.d (.int k n)) v):v = .int k n:=by cases h.rd;rfl
theorem R.bool {b:Bool} (h:R m X w (.d (.bool b)) v):v = .bool b:=by cases h.rd;rfl
theorem R.str {s:ByteArray} (h:R m X w (.d (.str s)) v):v = .string s:=by cases h.rd;rfl
theorem R.bptr_inv {id off:Nat} (h:R m X w (.bptr id off) v):∃ b c,m id = some (.blk b c)∧v = .pointer (some ⟨b,off,none⟩):=by
 cases h with
 |bptr _ _ b c hm=>exact ⟨b,c,hm,rfl⟩
theorem R.rptr_inv {id sz k off:Nat} (h:R m X w (.rptr id sz k off) v):∃ b c,m id = some (.blk b c)∧v = .pointer (some ⟨b,k * sz + off,none⟩):=by
 cases h with
 |rptr _ _ _ _ b c hm=>exact ⟨b,c,hm,rfl⟩
theorem R.eptr_inv {cs:List D} (h:R m X w (.eptr cs) v):∃ b off,v = .pointer (some ⟨b,off,none⟩)∧∀ (j:Nat) (d:D),cs[j]? = some d→¬ X b∧∃ u,w.cell? ⟨b,off + j,none⟩ = some u∧Rd w X d u:=by
 cases h with
 |eptr _ b off hd=>exact ⟨b,off,rfl,hd⟩
theorem R.row_inv {id n:Nat} (h:R m X w (.row id n) v):(m id = some .nil∧n = 0∧v = .slice none 0 0)∨∃ b c,m id = some (.blk b c)∧n≤c∧v = .slice (some ⟨b,0,none⟩) n c:=by
 cases h with
 |rowN _ hm=>exact .inl ⟨hm,rfl,rfl⟩
 |rowB _ _ b c hm hn=>exact .inr ⟨b,c,hm,hn,rfl⟩
theorem Rd.lst_inv {sz:Nat} {es:List (List D)} (h:Rd w X (.lst sz es) v):(∃ A c,es = []∧v = .slice A 0 c)∨∃ b off c,v = .slice (some ⟨b,off,none⟩) es.length c∧es.length≤c∧(∀ e,e ∈ es→e.length = sz)∧
  ∀ (k:Nat) (e:List D) (j:Nat) (d:D),es[k]? = some e→e[j]? = some d→¬ X b∧∃ u,w.cell? ⟨b,off + (k * sz + j),none⟩ = some u∧Rd w X d u:=by
 cases h with
 |nil _ A c=>exact .inl ⟨A,c,rfl,rfl⟩
 |lst _ _ b off c hcap hsz hc hr=>
  refine .inr ⟨b,off,c,rfl,hcap,hsz,fun k e j d he hd=>?_⟩
  obtain ⟨h1,u,h2⟩:=hc k e j d he hd
  exact ⟨h1,u,h2,hr k e j d u he hd h2⟩
end inv
theorem Sim.blk {X0:Nat→Prop} {w0:Base} {m:Mp} {s:AS} {a:Act} {w:World} (hs:Sim X0 w0 m s a w) {id b c:Nat} {blk:Blk} (hg:ae s.hp id = some blk) (hm:m.loc id = some (.blk b c)) (hpl:blk.plain = true:=by rfl):∃ arr,w.heap[b]? = some (.cells arr blk.ty (0,0))∧blk.cellsOk m.loc (aU X0 m s.hp) w arr c:=by
 obtain ⟨l,h1,h2⟩:=hs.hp id blk hg
 rw [hm] at h1
 cases h1
 exact Blk.ok_to hpl h2
theorem Sim.owns {X0:Nat→Prop} {w0:Base} {m:Mp} {s:AS} {a:Act} {w:World} (hs:Sim X0 w0 m s a w) {id b c:Nat} {blk:Blk} (hg:ae s.hp id = some blk) (hm:m.loc id = some (.blk b c)) (hpl:blk.plain = true:=by rfl):(w0.w.heap.size≤b∨w0.chg b)∧b < w.heap.size:=
 hs.own id blk b hg (Blk.has_root hpl hm)
inductive TI where
 |one (z:List D)
 |bol
 |num (k:IntKind)
 |slc (e:TypeId) (sz bytes:Nat) (z:List D)
 |st (n:Nat) (fs:List (Nat × Nat)) (z:List D)
 |arr (len:Nat) (sz:Nat) (z:List D)
 |str
def bt:List (Nat × TI)→Nat→Option TI
 |[],_=>none
 |(k,b)::r,i=>if i = k then some b else bt r i
def ib:TypeDesc→Bool
 |.struct _|.array _ _=>true
 |_=>false
def lz:D→Value→Bool
 |.int k n,.int k' n'=>k == k' && n == n'
 |.bool b,.bool b'=>b == b'
 |.str s,.string s'=>s.data.toList == s'.data.toList
 |.lst _ [],.slice none 0 0=>true
 |.hole,.map none=>true
 |_,_=>false
theorem jV {d:D} {v:Value} (h:lz d v = true) (w:World) (X:Nat→Prop):Rd w X d v:=by
 unfold lz at h
 split at h
 ·simp at h;obtain ⟨rfl,rfl⟩:=h;exact .int _ _
 ·simp at h;subst h;exact .bool _
 ·rename_i s s'
  have e:s = s':=by
   have h1:s.data = s'.data:=Array.ext' (by simpa using h)
   cases s;cases s';simp_all
  subst e;exact .str _
 ·exact .nil _ _ _
 ·exact .hole _ rfl rfl
 ·cases h
def zB (z:List D) (v:Value):Bool:=z.length == v.cells.size && (z.zip v.cells.toList).all fun p=>lz p.1 p.2
theorem iG {z:List D} {v:Value} (h:zB z v = true):v.cells.size = z.length∧∀ (j:Nat) (d:D) (u:Value),z[j]? = some d→v.cells[j]? = some u→∀ w X,Rd w X d u:=by
 simp only [zB,Bool.and_eq_true,beq_iff_eq] at h
 refine ⟨h.1.symm,fun j d u hd hu w X=>jV ?_ w X⟩
 have hm:(d,u) ∈ z.zip v.cells.toList:=List.mem_of_getElem? (i:=j) (by rw [List.getElem?_zip_eq_some];exact ⟨hd,by simpa using hu⟩)
 exact List.all_eq_true.1 h.2 _ hm
def iR (z:List D):Option Value→Bool
 |some v=>zB z v
 |none=>false
def cd (P:Program) (t:TypeId):TI→Bool
 |.one z=>(match P.underlying t with|some d=>!ib d|none=>false) && (match P.info? t with|some i=>i.size == 1 && (z.isEmpty || iR z i.zero)|none=>false)
 |.bol=>(match P.underlying t with|some .bool=>true|_=>false) && (match P.info? t with|some i=>i.size == 1|none=>false)
 |.num k=>(match P.underlying t with|some (.int k')=>k == k'|_=>false) && (match P.info? t with|some i=>i.size == 1 && iR [.int k 0] i.zero|none=>false)
 |.str=>(match P.underlying t with|some .string=>true|_=>false) && (match P.info? t with|some i=>i.size == 1|none=>false)
 |.slc e sz bytes z=>(match P.underlying t with|some (.slice e')=>e == e'|_=>false) && (match P.info? e with|some i=>i.size == sz && i.bytes == bytes && iR z i.zero && z.length == sz|none=>false) && decide (0 < sz) && decide (bytes≤256) && (match P.info? t with|some i=>i.size == 1|none=>false)
 |.st n fs z=>(match P.underlying t with|some (.struct fields)=>fields.size == fs.length && (fields.toList.zip fs).all (fun p=>p.1.offset == p.2.1 && (match P.info? p.1.type with|some i=>i.size == p.2.2 && decide (0 < p.2.2)|none=>false))|_=>false) && (match P.info? t with|some i=>i.size == n && iR z i.zero && z.length == n|none=>false)
 |.arr len sz z=>(match P.underlying t with|some (.array l e)=>l == len && (match P.info? e with|some i=>i.size == sz|none=>false)|_=>false) && (match P.info? t with|some i=>i.size == len * sz && iR z i.zero && z.length == len * sz|none=>false)
def GOK (P:Program) (G:List (Nat × TI)):Prop:=∀ t ti,bt G t = some ti→cd P t ti = true
theorem GOK.of_all {P:Program} {G:List (Nat × TI)} (h:(G.all fun p=>cd P p.1 p.2) = true):GOK P G:=by
 intro t ti ht
 induction G with
 |nil=>cases ht
 |cons p r ih=>
  obtain ⟨k,b⟩:=p
  simp only [List.all_cons,Bool.and_eq_true] at h
  simp only [bt] at ht
  split at ht
  ·rename_i e;subst e;cases ht;exact h.1
  ·exact ih h.2 ht
section facts
variable {P:Program} {t:TypeId}
theorem nA (h:cd P t .bol = true):P.underlying t = some .bool∧∃ i,P.info? t = some i∧i.size = 1:=by
 simp only [cd,Bool.and_eq_true] at h
 obtain ⟨h1,h2⟩:=h
 refine ⟨by split at h1<;>simp_all,?_⟩
 split at h2
 ·exact ⟨_,by assumption,by simpa using h2⟩
 ·cases h2
theorem nn {k:IntKind} (h:cd P t (.num k) = true):P.underlying t = some (.int k)∧∃ i v,P.info? t = some i∧i.size = 1∧i.zero = some v∧zB [.int k 0] v = true:=by
 simp only [cd,Bool.and_eq_true] at h
 obtain ⟨h1,h2⟩:=h
 refine ⟨by split at h1<;>simp_all,?_⟩
 split at h2
 ·rename_i i hi
  simp only [Bool.and_eq_true,beq_iff_eq] at h2
  obtain ⟨a1,a2⟩:=h2
  unfold iR at a2
  split at a2
  ·rename_i v hv;exact ⟨i,v,hi,a1,hv,a2⟩
  ·cases a2
 ·cases h2
theorem iY (h:cd P t .str = true):P.underlying t = some .string∧∃ i,P.info? t = some i∧i.size = 1:=by
 simp only [cd,Bool.and_eq_true] at h
 obtain ⟨h1,h2⟩:=h
 refine ⟨by split at h1<;>simp_all,?_⟩
 split at h2
 ·exact ⟨_,by assumption,by simpa using h2⟩
 ·cases h2
theorem wJ {z:List D} (h:cd P t (.one z) = true):(∃ d,P.underlying t = some d∧ib d = false)∧∃ i,P.info? t = some i∧i.size = 1∧(z = []∨∃ v,i.zero = some v∧zB z v = true):=by
 simp only [cd,Bool.and_eq_true] at h
 obtain ⟨h1,h2⟩:=h
 refine ⟨?_,?_⟩
 ·split at h1
  ·rename_i d hd;exact ⟨d,hd,by simpa using h1⟩
  ·cases h1
 ·split at h2
  ·rename_i i hi
   simp only [Bool.and_eq_true,beq_iff_eq,Bool.or_eq_true,List.isEmpty_iff] at h2
   refine ⟨i,hi,h2.1,h2.2.imp id fun h3=>?_⟩
   unfold iR at h3
   split at h3
   ·rename_i v hv;exact ⟨v,hv,h3⟩
   ·cases h3
  ·cases h2
theorem dS {e:TypeId} {sz bytes:Nat} {z:List D} (h:cd P t (.slc e sz bytes z) = true):P.underlying t = some (.slice e)∧(∃ i v,P.info? e = some i∧i.size = sz∧i.bytes = bytes∧i.zero = some v∧zB z v = true)∧z.length = sz∧0 < sz∧bytes≤256∧∃ i,P.info? t = some i∧i.size = 1:=by
 simp only [cd,Bool.and_eq_true,decide_eq_true_eq] at h
 obtain ⟨⟨⟨⟨h1,h2⟩,h3⟩,h4⟩,h5⟩:=h
 have g1:P.underlying t = some (.slice e):=by
  split at h1
  ·simp at h1;subst h1;assumption
  ·cases h1
 split at h2
 ·rename_i i hi
  simp only [Bool.and_eq_true,beq_iff_eq] at h2
  obtain ⟨⟨⟨a1,a2⟩,a3⟩,a4⟩:=h2
  unfold iR at a3
  split at a3
  ·rename_i v hv
   refine ⟨g1,⟨i,v,hi,a1,a2,hv,a3⟩,a4,h3,h4,?_⟩
   split at h5
   ·rename_i i' hi';exact ⟨i',hi',by simpa using h5⟩
   ·cases h5
  ·cases a3
 ·cases h2
theorem il {n:Nat} {fs:List (Nat × Nat)} {z:List D} (h:cd P t (.st n fs z) = true):(∃ fields,P.underlying t = some (.struct fields)∧fields.size = fs.length∧∀ (j:Nat) (f:Field) (p:Nat × Nat),fields[j]? = some f→fs[j]? = some p→f.offset = p.1∧0 < p.2∧∃ i,P.info? f.type = some i∧i.size = p.2)∧∃ i v,P.info? t = some i∧i.size = n∧i.zero = some v∧zB z v = true∧z.length = n:=by
 simp only [cd,Bool.and_eq_true] at h
 obtain ⟨h1,h2⟩:=h
 refine ⟨?_,?_⟩
 ·split at h1
  ·rename_i fields hf
   simp only [Bool.and_eq_true,beq_iff_eq] at h1
   refine ⟨fields,hf,h1.1,fun j f p h3 h4=>?_⟩
   have hm:(f,p) ∈ fields.toList.zip fs:=List.mem_of_getElem? (i:=j) (by rw [List.getElem?_zip_eq_some];exact ⟨by simpa using h3,h4⟩)
   have:=List.all_eq_true.1 h1.2 _ hm
   simp only [Bool.and_eq_true,beq_iff_eq] at this
   obtain ⟨g1,g2⟩:=this
   split at g2
   ·rename_i i hi
    simp only [Bool.and_eq_true,beq_iff_eq,decide_eq_true_eq] at g2
    exact ⟨g1,g2.2,i,hi,g2.1⟩
   ·cases g2
  ·cases h1
 ·split at h2
  ·rename_i i hi
   simp only [Bool.and_eq_true,beq_iff_eq] at h2
   obtain ⟨⟨a1,a2⟩,a3⟩:=h2
   unfold iR at a2
   split at a2
   ·rename_i v hv;exact ⟨i,v,hi,a1,hv,a2,a3⟩
   ·cases a2
  ·cases h2
theorem i7 {len sz:Nat} {z:List D} (h:cd P t (.arr len sz z) = true):(∃ e i,P.underlying t = some (.array len e)∧P.info? e = some i∧i.size = sz)∧∃ i v,P.info? t = some i∧i.size = len * sz∧i.zero = some v∧zB z v = true∧z.length = len * sz:=by
 simp only [cd,Bool.and_eq_true] at h
 obtain ⟨h1,h2⟩:=h
 refine ⟨?_,?_⟩
 ·split at h1
  ·rename_i l e hf
   simp only [Bool.and_eq_true,beq_iff_eq] at h1
   obtain ⟨g1,g2⟩:=h1
   subst g1
   split at g2
   ·rename_i i hi;exact ⟨e,i,hf,hi,by simpa using g2⟩
   ·cases g2
  ·cases h1
 ·split at h2
  ·rename_i i hi
   simp only [Bool.and_eq_true,beq_iff_eq] at h2
   obtain ⟨⟨a1,a2⟩,a3⟩:=h2
   unfold iR at a2
   split at a2
   ·rename_i v hv;exact ⟨i,v,hi,a1,hv,a2,a3⟩
   ·cases a2
  ·cases h2
end facts
def PO (P:Program) (o:Oper) (s:AS) (K:AS→Prop):Prop:=
 ∀ (X0:Nat→Prop) (w0:Base) (m:Mp) (a:Act) (w:World) (Q:Exit→Act→World→Prop),Sim X0 w0 m s a w→o.wp P a w (fun a' w'=>∃ m' s',K s'∧Sim X0 w0 m' s' a' w') Q
section rules
variable {P:Program} {o:Oper} {s:AS} {K:AS→Prop}
theorem PO.mk (h:∀ (X0:Nat→Prop) (w0:Base) (m:Mp) (a:Act) (w:World),Sim X0 w0 m s a w→∃ v w' m' s' x,(execOp a.eval o).run P w = .ok (.value v) w'∧Sim X0 w0 m' s' a w'∧R m' (aU X0 m' s'.hp) w' x v∧K (s'.put o.dst x)):PO P o s K:=by
 intro X0 w0 m a w Q hs
 obtain ⟨v,w',m',s',x,h1,h2,h3,h4⟩:=h X0 w0 m a w hs
 unfold Oper.wp
 rw [h1]
 exact ⟨m',_,h4,h2.put h3 o.dst⟩
theorem PO.skip (h:∀ (X0:Nat→Prop) (w0:Base) (m:Mp) (a:Act) (w:World),Sim X0 w0 m s a w→∃ w' m' s',(execOp a.eval o).run P w = .ok .skip w'∧Sim X0 w0 m' s' a w'∧K (s'.put o.dst .und)):PO P o s K:=by
 intro X0 w0 m a w Q hs
 obtain ⟨w',m',s',h1,h2,h4⟩:=h X0 w0 m a w hs
 unfold Oper.wp
 rw [h1]
 exact ⟨m',_,h4,h2.put (.und _) o.dst⟩
def fZ (P:Program) (o:Oper) (s:AS) (x:PV):Prop:=∀ (m:Nat→Option Loc) (X:Nat→Prop) (w:World) (a:Act),(∀ q,R m X w (s.get q) (a.eval q))→∃ v,(∀ u,(execOp a.eval o).run P u = .ok (.value v) u)∧R m X w x v
def QuietAt (P:Program) (o:Oper) (s:AS) (x:PV):Prop:=∀ (X0:Nat→Prop) (w0:Base) (m:Mp) (a:Act) (wb:World),Sim X0 w0 m s a wb→
 ∃ v,(∀ w',Bel wb.heap.size wb w'→o.quietAt P a (fun w''=>Bel wb.heap.size wb w'') w' v)∧(∀ w',Bel wb.heap.size wb w'→R m (aU X0 m s.hp) w' x v)
theorem QuietAt.of_pure {x:PV} (h:fZ P o s x):QuietAt P o s x:=by
 intro X0 w0 m a wb hs
 obtain ⟨v,h1,h2⟩:=h m _ wb a hs.get
 refine ⟨v,fun w' _=>?_,fun w' hb=>h2.mono (fun _ _ h=>h) fun b hb1 hb2=>⟨hb.block b hb1,hb2⟩⟩
 unfold Oper.quietAt
 rw [h1]
 exact ⟨rfl,rfl⟩
def PQ (P:Program) (o:Oper) (s:AS) (KP:PV→Prop):Prop:=∃ x,QuietAt P o s x∧KP x
variable {KP:PV→Prop}
theorem PQ.pure (x:PV) (hK:KP x) (h:fZ P o s x):PQ P o s KP:=⟨x,QuietAt.of_pure h,hK⟩
theorem PQ.po (h:PQ P o s fun x=>K (s.put o.dst x)):PO P o s K:=by
 obtain ⟨x,h1,h2⟩:=h
 intro X0 w0 m a w Q hs
 obtain ⟨v,h3,h4⟩:=h1 X0 w0 m a w hs
 refine Oper.wp_of_quiet (C:=fun w'=>Bel w.heap.size w w') (K:=fun a'=>a' = a.put o.dst v) (Bel.refl _ _) (fun a' w' hb e=>?_) ⟨v,h3,rfl⟩
 subst e
 exact ⟨m,_,h2,(hs.later hb).put (h4 w' hb) o.dst⟩
theorem nr {x:Operand} (ho:o.op = .move x∨o.op = .assign x) (hK:KP (s.get x)):PQ P o s KP:=
 PQ.pure _ hK fun m X w a hq=>⟨a.eval x,fun u=>by rcases ho with h|h<;>simp [execOp,h],hq x⟩
theorem xv {x:Operand} (ho:o.op = .move x∨o.op = .assign x) (hx:x = .const (.slice none 0 0)) (ty:TypeId) (sz:Nat) (hK:K (AS.put ⟨s.fr,(s.nx,.row ty sz [])::s.hp,s.nx + 1⟩ o.dst (.row s.nx 0))):PO P o s K:=
 PO.mk fun X0 w0 m a w hs=>⟨.slice none 0 0,w,_,_,.row s.nx 0,by subst hx;rcases ho with h|h<;>simp [execOp,h,Act.eval],hs.ghost ty sz,.rowN _ (bp _ _ _),hK⟩
theorem wq {c x y:Operand} {b:Bool} (ho:o.op = .pick c x y) (hc:s.get c = .d (.bool b)) (ht:b = true→KP (s.get x)) (hf:b = false→KP (s.get y)):PQ P o s KP:=by
 cases b with
 |true=>exact PQ.pure _ (ht rfl) fun m X w a hq=>⟨a.eval x,fun u=>by have h1:=hq c;rw [hc] at h1;simp [execOp,ho,h1.bool,asBool],hq x⟩
 |false=>exact PQ.pure _ (hf rfl) fun m X w a hq=>⟨a.eval y,fun u=>by have h1:=hq c;rw [hc] at h1;simp [execOp,ho,h1.bool,asBool],hq y⟩
theorem xd {t:TypeId} {x:Operand} {b:Bool} (ho:o.op = .unOp .not t x) (hx:s.get x = .d (.bool b)) (hK:KP (.d (.bool !b))):PQ P o s KP:=
 PQ.pure _ hK fun m X w a hq=>⟨.bool !b,fun u=>by have h1:=hq x;rw [hx] at h1;simp [execOp,ho,h1.bool,Op.unary],.d _ _ (.bool _)⟩
def jO (n:Int):Prop:=-9223372036854775808≤n∧n≤9223372036854775807
theorem xO {n:Int} (h:jO n):IntKind.i64.wrap n = n:=by
 unfold jO at h
 exact IntWalk.i64_in _ (by omega)
def jY (k:IntKind) (n:Int) (K:PV→Prop):Prop:=
 match k with
 |.i64=>jO n∧K (.d (.int .i64 n))
 |k=>K (.d (.int k (k.wrap n)))
theorem gY {k:IntKind} {n:Int} {K:PV→Prop} (h:jY k n K):K (.d (.int k (k.wrap n))):=by
 unfold jY at h
 split at h
 ·rw [xO h.1];exact h.2
 ·exact h
def nf (k:IntKind) (a b:Int):Int:=k.wrap ((BitVec.ofInt k.bits a &&& BitVec.ofInt k.bits b).toNat:Int)
theorem lI (a:Int):0≤nf .u64 a 255∧nf .u64 a 255≤255:=by
 unfold nf
 have h:(BitVec.ofInt IntKind.u64.bits a &&& BitVec.ofInt IntKind.u64.bits 255).toNat≤255:=by
  rw [BitVec.toNat_and]
  exact Nat.le_trans Nat.and_le_right (by decide)
 generalize (BitVec.ofInt IntKind.u64.bits a &&& BitVec.ofInt IntKind.u64.bits 255).toNat = n at h
 unfold IntKind.wrap
 simp [IntKind.bits,IntKind.signed]
 omega
theorem pi (a:Int):jO (nf .u64 a 255):=by
 have:=lI a
 unfold jO
 omega
def ss (op:BinOp) (k:IntKind) (a b:Int) (K:PV→Prop):Prop:=
 match op with
 |.add=>jY k (a + b) K
 |.sub=>jY k (a - b) K
 |.mul=>jY k (a * b) K
 |.quo=>b≠0∧jY k (a.tdiv b) K
 |.rem=>b≠0∧K (.d (.int k (a.tmod b)))
 |.eql=>K (.d (.bool (a == b)))
 |.neq=>K (.d (.bool (a != b)))
 |.lss=>K (.d (.bool (decide (a < b))))
 |.leq=>K (.d (.bool (decide (a≤b))))
 |.gtr=>K (.d (.bool (decide (b < a))))
 |.geq=>K (.d (.bool (decide (b≤a))))
 |.and=>K (.d (.int k (nf k a b)))
 |_=>False
theorem w7 {op:BinOp} {t t':TypeId} {x y:Operand} {k:IntKind} {a b:Int} (ho:o.op = .binOp op t x y t') (hx:s.get x = .d (.int k a)) (hy:s.get y = .d (.int k b)) (hK:ss op k a b KP):PQ P o s KP:=by
 have key:∀ (z:PV) (r:Value),KP z→(∀ w,(eqGuard op t x y (.int k a) (.int k b) >>= fun _=>binOp op t (.int k a) (.int k b)).run P w = .ok r w)→(∀ m X w,R m X w z r)→PQ P o s KP:=by
  intro z r hz hr hR
  refine PQ.pure z hz fun m X w ac hq=>⟨r,fun u=>?_,hR m X w⟩
  have h1:=hq x
  have h2:=hq y
  rw [hx] at h1
  rw [hy] at h2
  have hr':=hr u
  simp only [execOp,ho,h1.int,h2.int,Sem.run_bind] at hr' ⊢
  simp only [hr',Result.andThen_ok,Sem.run_pure]
 have hi:∀ n:Int,∀ m X w,R m X w (.d (.int k n)) (.int k n):=fun n m X w=>.d _ _ (.int _ _)
 have hb:∀ c:Bool,∀ m X w,R m X w (.d (.bool c)) (.bool c):=fun n m X w=>.d _ _ (.bool _)
 cases op<;>simp only [ss] at hK
 case add=>exact key _ _ (gY hK) (fun w=>by simp [go_sem]) (hi _)
 case sub=>exact key _ _ (gY hK) (fun w=>by simp [go_sem]) (hi _)
 case mul=>exact key _ _ (gY hK) (fun w=>by simp [go_sem]) (hi _)
 case quo=>exact key _ _ (gY hK.2) (fun w=>by simp [go_sem,hK.1]) (hi _)
 case rem=>exact key _ _ hK.2 (fun w=>by simp [go_sem,hK.1]) (hi _)
 case eql=>exact key _ _ hK (fun w=>by simp [go_sem]) (hb _)
 case neq=>exact key _ _ hK (fun w=>by simp [go_sem]) (hb _)
 case lss=>exact key _ _ hK (fun w=>by simp [go_sem]) (hb _)
 case leq=>exact key _ _ hK (fun w=>by simp [go_sem]) (hb _)
 case gtr=>exact key _ _ hK (fun w=>by simp [go_sem]) (hb _)
 case geq=>exact key _ _ hK (fun w=>by simp [go_sem]) (hb _)
 case and=>exact key _ _ hK (fun w=>by simp [go_sem,nf,Op.intBits]) (hi _)
theorem w6 {t t':TypeId} {x y:Operand} {k k':IntKind} {a b:Int} (ho:o.op = .binOp .shr t x y t') (hx:s.get x = .d (.int k a)) (hy:s.get y = .d (.int k' b)) (hb:0≤b) (hK:KP (.d (.int k (a.fdiv (2 ^ (min b.toNat k.bits)))))):PQ P o s KP:=
 PQ.pure _ hK fun m X w ac hq=>⟨.int k (a.fdiv (2 ^ (min b.toNat k.bits))),fun u=>by
  have h1:=hq x
  have h2:=hq y
  rw [hx] at h1
  rw [hy] at h2
  have hb':¬ b < 0:=by omega
  have hr:(eqGuard .shr t x y (.int k a) (.int k' b) >>= fun _=>binOp .shr t (.int k a) (.int k' b)).run P u = .ok (.int k (a.fdiv (2 ^ (min b.toNat k.bits)))) u:=by simp [eqGuard,binOp,Op.shift,hb']
  simp only [execOp,ho,h1.int,h2.int,Sem.run_bind] at hr ⊢
  simp only [hr,Result.andThen_ok,Sem.run_pure],.d _ _ (.int _ _)⟩
end rules
end Go.Proofs.YtphakidbddamfaaGreat
