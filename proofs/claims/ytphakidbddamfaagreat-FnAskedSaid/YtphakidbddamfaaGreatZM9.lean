/-
  The abstract machine as one function that can be reckoned with, and its soundness. No program is named here.
-/
import Derived.Test.YtphakidbddamfaaGreatZMe
namespace Go.Proofs.YtphakidbddamfaaGreat
open Go.RowKit
section more
variable {P:Program} {o:Oper} {s:AS} {K:AS→Prop} {KP:PV→Prop}
theorem xm {t:TypeId} {x:Operand} {k:IntKind} {n:Int} (ho:o.op = .unOp .neg t x) (hx:s.get x = .d (.int k n)) (hK:jY k (0 - n) KP):PQ P o s KP:=
 PQ.pure _ (gY (K:=KP) hK) fun m X w a hq=>⟨_,fun u=>by have h1:=hq x;rw [hx] at h1;simp [execOp,ho,h1.int,Op.unary,Op.intArith],.d _ _ (.int _ _)⟩
def o6 (op:BinOp) (a b:Bool) (K:PV→Prop):Prop:=
 match op with
 |.eql=>K (.d (.bool (a == b)))
 |.neq=>K (.d (.bool (!(a == b))))
 |_=>False
theorem wU {op:BinOp} {t t':TypeId} {x y:Operand} {a b:Bool} (ho:o.op = .binOp op t x y t') (ht:cd P t .bol = true) (hx:s.get x = .d (.bool a)) (hy:s.get y = .d (.bool b)) (hK:o6 op a b KP):PQ P o s KP:=by
 have hu:=(nA ht).1
 have heq:∀ w,(Op.equal t (.bool a) (.bool b)).run P w = .ok (a == b) w:=by
  intro w
  show (Op.equalIn (9999 + 1) t (.bool a) (.bool b)).run P w = _
  rw [Op.equalIn,Sem.run_bind,run_underlying hu]
  rfl
 cases op<;>simp only [o6] at hK
 all_goals first|exact hK.elim|skip
 ·refine PQ.pure _ hK fun m X w ac hq=>⟨.bool (a == b),fun u=>?_,.d _ _ (.bool _)⟩
  have h1:=hq x
  have h2:=hq y
  rw [hx] at h1
  rw [hy] at h2
  simp only [execOp,ho,h1.bool,h2.bool,eqGuard_at_bool,binOp,Sem.run_bind,Sem.run_pure,Result.andThen_ok,heq]
 ·refine PQ.pure _ hK fun m X w ac hq=>⟨.bool (!(a == b)),fun u=>?_,.d _ _ (.bool _)⟩
  have h1:=hq x
  have h2:=hq y
  rw [hx] at h1
  rw [hy] at h2
  simp only [execOp,ho,h1.bool,h2.bool,eqGuard_at_bool,binOp,Sem.run_bind,Sem.run_pure,Result.andThen_ok,heq]
def sS (op:BinOp) (a b:ByteArray) (K:PV→Prop):Prop:=
 match op with
 |.eql=>K (.d (.bool (decide (a = b))))
 |.neq=>K (.d (.bool (!decide (a = b))))
 |.lss=>K (.d (.bool (Op.bytesLess a.toList b.toList)))
 |.leq=>K (.d (.bool (Op.bytesLess a.toList b.toList || decide (a = b))))
 |.gtr=>K (.d (.bool (!(Op.bytesLess a.toList b.toList || decide (a = b)))))
 |.geq=>K (.d (.bool (!Op.bytesLess a.toList b.toList)))
 |.add=>a.size + b.size≤9223372036854775807∧K (.d (.str (a++b)))
 |_=>False
theorem wD (a b:ByteArray):(a.toList == b.toList) = decide (a = b):=by
 rw [ByteArray.toList_eq,ByteArray.toList_eq]
 by_cases h:a = b
 ·subst h;simp
 ·rw [decide_eq_false h,beq_eq_false_iff_ne]
  intro e
  exact h (ByteArray.ext (Array.toList_inj.1 e))
theorem w3 {op:BinOp} {t t':TypeId} {x y:Operand} {a b:ByteArray} (ho:o.op = .binOp op t x y t') (hx:s.get x = .d (.str a)) (hy:s.get y = .d (.str b)) (hK:sS op a b KP):PQ P o s KP:=by
 cases op<;>simp only [sS] at hK
 all_goals first|exact hK.elim|skip
 case add=>
  refine PQ.pure _ hK.2 fun m X w ac hq=>⟨.string (a++b),fun u=>?_,.d _ _ (.str _)⟩
  have h1:=hq x
  have h2:=hq y
  rw [hx] at h1
  rw [hy] at h2
  have hn:¬ (((a.size + b.size:Nat):Int) > IntKind.i64.max):=by have:=hK.1;rw [IntKind.max_i64];omega
  simp only [execOp,ho,h1.str,h2.str,eqGuard_at_string,binOp,Op.stringOp,hn,if_false,Sem.run_bind,Sem.run_pure,Result.andThen_ok]
 all_goals
  refine PQ.pure _ hK fun m X w ac hq=>⟨.bool _,fun u=>?_,.d _ _ (.bool _)⟩
  have h1:=hq x
  have h2:=hq y
  rw [hx] at h1
  rw [hy] at h2
  simp only [execOp,ho,h1.str,h2.str,eqGuard_at_string,binOp,Op.stringOp,Sem.run_bind,Sem.run_pure,Result.andThen_ok,wD]
theorem qp {t:TypeId} {x i:Operand} {b:ByteArray} {k:IntKind} {n:Int} {u:UInt8} (ho:o.op = .index t x i) (ht:cd P t .str = true) (hx:s.get x = .d (.str b)) (hi:s.get i = .d (.int k n)) (h0:0≤n) (hu:b[n.toNat]? = some u) (hK:KP (.d (.int .u8 u.toNat))):PQ P o s KP:=
 PQ.pure _ hK fun m X w a hq=>by
  have h1:=hq x
  have h2:=hq i
  rw [hx] at h1
  rw [hi] at h2
  exact ⟨.int .u8 u.toNat,fun u'=>by simp [execOp,ho,h1.str,h2.int,Instr.index,asIntOf,run_underlying (iY ht).1,h0,hu],.d _ _ (.int _ _)⟩
theorem pJ {t:TypeId} {x:Operand} {lo hi:Option Operand} {b:ByteArray} {l h:Int} (ho:o.op = .slice t x lo hi none) (ht:cd P t .str = true) (hx:s.get x = .d (.str b))
  (hlo:iV s 0 lo = some l) (hhi:iV s b.size hi = some h) (h0:0≤l) (h1:l≤h) (h2:h≤b.size) (hK:KP (.d (.str (b.extract l.toNat h.toNat)))):PQ P o s KP:=
 PQ.pure _ hK fun m X w a hq=>by
  have hx1:=hq x
  rw [hx] at hx1
  have g1:=(iY ht).1
  refine ⟨.string (b.extract l.toNat h.toNat),fun u=>?_,.d _ _ (.str _)⟩
  have key:(Instr.sliceBounds false b.size b.size (lo.map a.eval) (hi.map a.eval) none).run P u = .ok (l.toNat,h.toNat,b.size) u:=by
   cases hi with
   |none=>
    cases hhi
    cases lo with
    |none=>cases hlo;simp [Instr.sliceBounds]
    |some q=>
     obtain ⟨k,hk⟩:=fd hq hlo
     simp [Instr.sliceBounds,hk,dh h0 h1]
   |some q'=>
    obtain ⟨k',hk'⟩:=fd hq hhi
    have e1:((h.toNat:Nat):Int) = h:=Int.toNat_of_nonneg (by omega)
    cases lo with
    |none=>cases hlo;simp [Instr.sliceBounds,hk',dh (show (0:Int)≤h by omega) h2]
    |some q=>
     obtain ⟨k,hk⟩:=fd hq hlo
     simp [Instr.sliceBounds,hk,hk',dh (show (0:Int)≤h by omega) h2,dh (y:=h.toNat) h0 (by omega)]
  simp [execOp,ho,hx1.str,Instr.sliceAt,Instr.slice,run_underlying g1,key]
theorem xo {x y:Operand} {ts:Array TypeId} {k:IntKind} {a b:Int} (ho:o.op = .call {callee:=.builtin .min,args:=#[x,y],argTypes:=ts}) (hx:s.get x = .d (.int k a)) (hy:s.get y = .d (.int k b)) (hK:KP (.d (.int k (min a b)))):PQ P o s KP:=
 PQ.pure _ hK fun m X w ac hq=>by
  have h1:=hq x
  have h2:=hq y
  rw [hx] at h1
  rw [hy] at h2
  refine ⟨.int k (min a b),fun u=>?_,.d _ _ (.int _ _)⟩
  have:(if b < a then b else a) = min a b:=by rw [Int.min_def];split<;>split<;>omega
  simp [execOp,ho,resolve,invoke,builtin,Builtin.min_,Builtin.min2,h1.int,h2.int,this]
theorem xq {x y:Operand} {ts:Array TypeId} {k:IntKind} {a b:Int} (ho:o.op = .call {callee:=.builtin .max,args:=#[x,y],argTypes:=ts}) (hx:s.get x = .d (.int k a)) (hy:s.get y = .d (.int k b)) (hK:KP (.d (.int k (max a b)))):PQ P o s KP:=
 PQ.pure _ hK fun m X w ac hq=>by
  have h1:=hq x
  have h2:=hq y
  rw [hx] at h1
  rw [hy] at h2
  refine ⟨.int k (max a b),fun u=>?_,.d _ _ (.int _ _)⟩
  have:(if a < b then b else a) = max a b:=by rw [Int.max_def];split<;>split<;>omega
  simp [execOp,ho,resolve,invoke,builtin,Builtin.max_,Builtin.max2,h1.int,h2.int,this]
theorem tB {src dst:TypeId} {x:Operand} {k k':IntKind} {n:Int} {ti:TI} (ho:o.op = .convert src dst x) (hs:cd P src ti = true) (ht:cd P dst (.num k') = true) (hx:s.get x = .d (.int k n)) (hK:jY k' n KP):PQ P o s KP:=
 PQ.pure _ (gY (K:=KP) hK) fun m X w a hq=>by
  have h1:=hq x
  rw [hx] at h1
  obtain ⟨i,hi,_⟩:=fH hs
  have hu:∃ d,P.underlying src = some d:=by
   cases hc:ti.cells with
   |none=>obtain ⟨⟨d,h,_⟩,_⟩:=i6 hs hc;exact ⟨d,h⟩
   |some n=>obtain ⟨⟨d,h,_⟩,_⟩:=mB hs hc;exact ⟨d,h⟩
  obtain ⟨d,hd⟩:=hu
  refine ⟨.int k' (k'.wrap n),fun u=>?_,.d _ _ (.int _ _)⟩
  simp [execOp,ho,h1.int,convert,run_underlying hd,run_underlying (nn ht).1,Conv.intToInt]
theorem wr {t e:TypeId} {sz bytes:Nat} {z:List D} {l c:Operand} {n:Nat} (ho:o.op = .makeSlice t l c) (ht:cd P t (.slc e sz bytes z) = true) (hl:s.get l = .d (.int .i64 (n:Int))) (hc:s.get c = .d (.int .i64 (n:Int))) (hn:n≤1048576)
  (hK:K (AS.put ⟨s.fr,(s.nx,.row e sz (List.replicate n z))::s.hp,s.nx + 1⟩ o.dst (.row s.nx n))):PO P o s K:=
 PO.mk fun X0 w0 m a w hs=>by
  obtain ⟨h1,⟨i,v,h4,h5,h5b,h6,h7⟩,h8,h9,h10,_⟩:=dS ht
  obtain ⟨g1,g2⟩:=iG h7
  have e1:=hs.get l
  have e2:=hs.get c
  rw [hl] at e1
  rw [hc] at e2
  have hb:(i.bytes:Int) * (n:Int)≤281474976710656:=by
   have h:i.bytes * n≤256 * 1048576:=Nat.mul_le_mul (by omega) hn
   have h':((i.bytes * n:Nat):Int)≤281474976710656:=by omega
   rwa [Int.natCast_mul] at h'
  have hr:=run_make (P:=P) w t e i v h1 h4 h6 .i64 .i64 n n (by omega) (by omega) hb (by omega)
  simp only [Int.toNat_natCast,h5] at hr
  have hal:=hs.alloc (blk:=.row e sz (List.replicate n z)) (arr:=madeCells v.cells (n * sz)) (c:=n) ⟨size_madeCells _ _,by simp,by unfold maxLen;omega,fun e' he'=>by rw [List.eq_of_mem_replicate he'];exact h8,fun k e' j d u hk hj hu=>by
   have he':e' = z:=List.eq_of_mem_replicate (List.mem_of_getElem? hk)
   subst he'
   have hjlt:j < sz:=by rw [←h8];exact (List.getElem?_eq_some_iff.1 hj).1
   have hsz:v.cells.size = sz:=by rw [g1,h8]
   have hlt:k * sz + j < n * sz:=by
    have:=(Array.getElem?_eq_some_iff.1 hu).1
    rwa [size_madeCells] at this
   have hmod:(k * sz + j) % sz = j:=by rw [Nat.mul_comm,Nat.mul_add_mod,Nat.mod_eq_of_lt hjlt]
   have hu2:v.cells[j]? = some u:=by
    simp only [madeCells,Array.getElem?_map] at hu
    rw [Array.getElem?_range] at hu
    simp only [hlt,if_true,Option.map_some,hsz,hmod] at hu
    rw [←hu]
    have hjs:j < v.cells.size:=by omega
    simp [hjs]
   exact g2 j d u hj hu2 w _⟩
  refine ⟨.slice (some ⟨w.heap.size,0,none⟩) n n,_,_,_,.row s.nx n,?_,hal,.rowB _ _ w.heap.size n (bp _ _ _) (Nat.le_refl _),hK⟩
  simp [execOp,ho,e1.int,e2.int,hr,Blk.ty]
theorem xj {d:D} {v:Value} (h:lz d v = true) (w:World) (F:Nat→Prop):Tr w F d v:=by
 unfold lz at h
 split at h
 ·simp at h;obtain ⟨rfl,rfl⟩:=h;exact .int _ _ _
 ·simp at h;subst h;exact .bool _ _
 ·rename_i s s'
  have e:s = s':=by
   have h1:s.data = s'.data:=Array.ext' (by simpa using h)
   cases s;cases s';simp_all
  subst e;exact .str _ _
 ·exact .nil _ _
 ·exact .hole _ _ rfl rfl
 ·cases h
theorem yt {z:List D} {v:Value} (h:zB z v = true):v.cells.size = z.length∧∀ (j:Nat) (d:D) (u:Value),z[j]? = some d→v.cells[j]? = some u→∀ w F,Tr w F d u:=by
 simp only [zB,Bool.and_eq_true,beq_iff_eq] at h
 refine ⟨h.1.symm,fun j d u hd hu w X=>xj ?_ w X⟩
 have hm:(d,u) ∈ z.zip v.cells.toList:=List.mem_of_getElem? (i:=j) (by rw [List.getElem?_zip_eq_some];exact ⟨hd,by simpa using hu⟩)
 exact List.all_eq_true.1 h.2 _ hm
theorem qf {t e:TypeId} {sz bytes:Nat} {z:List D} {l c:Operand} {n:Nat} (ho:o.op = .makeSlice t l c) (ht:cd P t (.slc e sz bytes z) = true) (hl:s.get l = .d (.int .i64 (n:Int))) (hc:s.get c = .d (.int .i64 (n:Int))) (hn:n≤1048576)
  (hK:K (AS.put ⟨s.fr,(s.nx,.deep 0 e sz (List.replicate n z))::s.hp,s.nx + 1⟩ o.dst (.row s.nx n))):PO P o s K:=
 PO.mk fun X0 w0 m a w hs=>by
  obtain ⟨h1,⟨i,v,h4,h5,h5b,h6,h7⟩,h8,h9,h10,_⟩:=dS ht
  obtain ⟨g1,g2⟩:=yt h7
  have e1:=hs.get l
  have e2:=hs.get c
  rw [hl] at e1
  rw [hc] at e2
  have hb:(i.bytes:Int) * (n:Int)≤281474976710656:=by
   have h:i.bytes * n≤256 * 1048576:=Nat.mul_le_mul (by omega) hn
   have h':((i.bytes * n:Nat):Int)≤281474976710656:=by omega
   rwa [Int.natCast_mul] at h'
  have hr:=run_make (P:=P) w t e i v h1 h4 h6 .i64 .i64 n n (by omega) (by omega) hb (by omega)
  simp only [Int.toNat_natCast,h5] at hr
  let nd:Blk:=.deep 0 e sz (List.replicate n z)
  have hal:Sim X0 w0 (bN m s.nx (.blk w.heap.size n)) ⟨s.fr,(s.nx,nd)::s.hp,s.nx + 1⟩ a (w.alloc (.cells (madeCells v.cells (n * sz)) e)):=by
   refine hs.changeD (i:=s.nx) (blk':=nd) (F':=fun _=>False) (fun _=>False) (.inl hs.hnx) (by simp [ae]) (fun id hne blk hb=>by rw [ae,if_neg hne] at hb;exact hb) rfl (fun id par k j hne ha=>?_) (by omega) (by omega) (KeepB.of_below ((Bel.refl _ _).alloc hs.below.size _)) (fun y hy _=>Below.heap_alloc w _ y hy) (fun y hy=>hy.elim) (fun y hy=>?_) (fun p e2=>by have e3:(none:Option Nat) = some p:=e2;cases e3) (fun p ty sz' es e2=>?_) (fun _=>trivial)
   ·rw [ae,if_neg hne] at ha
    obtain ⟨q,ty,sz',es,_,_,_,_,_,_,a1,_⟩:=hs.al id par k j ha
    have hn2:par≠s.nx:=fun e3=>by subst e3;rw [hs.hget_nx] at a1;cases a1
    exact .inl ⟨hn2,by rw [ae,if_neg hn2]⟩
   ·rcases hy with ⟨c,hc⟩|hf
    ·rw [bp] at hc
     cases hc
     exact ⟨.inl hs.below.size,by simp,.inl (Nat.le_refl _)⟩
    ·rw [fN] at hf
     exact hf.elim
   ·have e3:Blk.deep 0 e sz (List.replicate n z) = _:=e2
    cases e3
    refine ⟨fun h=>h,_,heap_alloc_new w _,size_madeCells _ _,by simp,by unfold maxLen;omega,fun e' he'=>by rw [List.eq_of_mem_replicate he'];exact h8,fun _ _ _=>False,fun _ _ _ h=>h,fun _ _ _ _ _ h=>h.elim,fun k e' j d u hk hj hu=>?_⟩
    have he':e' = z:=List.eq_of_mem_replicate (List.mem_of_getElem? hk)
    subst he'
    have hjlt:j < sz:=by rw [←h8];exact (List.getElem?_eq_some_iff.1 hj).1
    have hsz:v.cells.size = sz:=by rw [g1,h8]
    have hlt:k * sz + j < n * sz:=by
     have:=(Array.getElem?_eq_some_iff.1 hu).1
     rwa [size_madeCells] at this
    have hmod:(k * sz + j) % sz = j:=by rw [Nat.mul_comm,Nat.mul_add_mod,Nat.mod_eq_of_lt hjlt]
    have hu2:v.cells[j]? = some u:=by
     simp only [madeCells,Array.getElem?_map] at hu
     rw [Array.getElem?_range] at hu
     simp only [hlt,if_true,Option.map_some,hsz,hmod] at hu
     rw [←hu]
     have hjs:j < v.cells.size:=by omega
     simp [hjs]
    exact g2 j d u hj hu2 _ _
  refine ⟨.slice (some ⟨w.heap.size,0,none⟩) n n,_,_,_,.row s.nx n,?_,hal,.rowB _ _ w.heap.size n (bp _ _ _) (Nat.le_refl _),hK⟩
  simp [execOp,ho,e1.int,e2.int,hr]
end more
def CallK (P:Program) (o:Oper) (fid:FuncId) (args:List PV) (refs:Bool) (s:AS) (dst:Option Tmp) (K:AS→Prop):Prop:=
 (∃ Post:List RV→Prop,FnOK P fid args Post∧∀ rs,Post rs→(refs = true→∀ r ∈ rs,r.flat)∧K (AS.put ⟨s.fr,ci s.nx rs++s.hp,s.nx + rs.length⟩ dst (gr s.nx rs)))∨PO P o s K
theorem CallK.po {P:Program} {o:Oper} {fid:FuncId} {args:List PV} {refs:Bool} {s:AS} {dst:Option Tmp} {K:AS→Prop} (h:PO P o s K):CallK P o fid args refs s dst K:=.inr h
abbrev FnEq (P:Program) (f:FuncId) (args:List PV) (rs:List RV):Prop:=FnOK P f args (· = rs)
theorem CallK.eq {P:Program} {o:Oper} {fid:FuncId} {args:List PV} {refs:Bool} {s:AS} {dst:Option Tmp} {K:AS→Prop} {rs:List RV} (h:FnEq P fid args rs) (hf:refs = true→∀ r ∈ rs,r.flat) (hK:K (AS.put ⟨s.fr,ci s.nx rs++s.hp,s.nx + rs.length⟩ dst (gr s.nx rs))):CallK P o fid args refs s dst K:=
 .inl ⟨_,h,fun _ e=>by subst e;exact ⟨hf,hK⟩⟩
theorem CallK.of {P:Program} {o:Oper} {fid:FuncId} {args:List PV} {refs:Bool} {s:AS} {dst:Option Tmp} {K:AS→Prop} {Post:List RV→Prop} (h:FnOK P fid args Post) (hK:∀ rs,Post rs→(refs = true→∀ r ∈ rs,r.flat)∧K (AS.put ⟨s.fr,ci s.nx rs++s.hp,s.nx + rs.length⟩ dst (gr s.nx rs))):CallK P o fid args refs s dst K:=
 .inl ⟨_,h,hK⟩
def fq:D→Value
 |.int k n=>.int k n
 |.bool b=>.bool b
 |.str s=>.string s
 |.lst _ _=>undef
 |.hole=>undef
 |.emap=>undef
theorem t7 {d:D} (hd:d.sc) (w:World) (X:Nat→Prop):Rd w X d (fq d):=by
 cases d with
 |int k n=>exact .int k n
 |bool b=>exact .bool b
 |str b=>exact .str b
 |lst=>exact hd.elim
 |hole=>exact hd.elim
 |emap=>exact hd.elim
theorem t9 {d:D} (hd:d.sc) {w:World} {X:Nat→Prop} {v:Value} (h:Rd w X d v):v = fq d:=by
 cases h with
 |int k n=>rfl
 |bool b=>rfl
 |str b=>rfl
 |nil=>exact hd.elim
 |lst=>exact hd.elim
 |hole=>exact hd.elim
 |emap=>exact hd.elim
def nF:List D→PV
 |[x]=>.d x
 |xs=>.tup (xs.map .d)
def CallQ (P:Program) (fid:FuncId) (args:List PV) (KP:PV→Prop):Prop:=∃ xs:List D,(∀ d,d ∈ xs→d.sc)∧FnEq P fid args (xs.map .d)∧KP (nF xs)
def scs:List RV→Option (List D)
 |[]=>some []
 |.d (.int k n)::r=>(scs r).map (.int k n::·)
 |.d (.bool b)::r=>(scs r).map (.bool b::·)
 |.d (.str s)::r=>(scs r).map (.str s::·)
 |_=>none
theorem vH:∀ {rs:List RV} {xs:List D},scs rs = some xs→rs = xs.map .d∧∀ d,d ∈ xs→d.sc:=by
 intro rs
 induction rs with
 |nil=>intro xs h;cases h;exact ⟨rfl,by simp⟩
 |cons x r ih=>
  intro xs h
  have key:∀ d:D,d.sc→x = .d d→(scs r).map (d::·) = some xs→x::r = xs.map .d∧∀ e,e ∈ xs→e.sc:=by
   intro d hd hx h
   cases hr:scs r with
   |none=>rw [hr] at h;cases h
   |some ys=>
    rw [hr] at h
    cases h
    obtain ⟨h1,h2⟩:=ih hr
    refine ⟨by rw [List.map_cons,←h1,hx],fun e he=>?_⟩
    rcases List.mem_cons.1 he with h3|h3
    ·rw [h3];exact hd
    ·exact h2 e h3
  cases x with
  |d d=>
   cases d with
   |int k n=>exact key (.int k n) (by simp [D.sc]) rfl h
   |bool b=>exact key (.bool b) (by simp [D.sc]) rfl h
   |str s=>exact key (.str s) (by simp [D.sc]) rfl h
   |lst s es=>cases h
   |hole=>cases h
   |emap=>cases h
  |_=>cases h
theorem CallQ.eqs {P:Program} {fid:FuncId} {args:List PV} {KP:PV→Prop} {rs:List RV} {xs:List D} (h:FnEq P fid args rs) (hx:scs rs = some xs) (hK:KP (nF xs)):CallQ P fid args KP:=by
 obtain ⟨rfl,h2⟩:=vH hx
 exact ⟨xs,h2,h,hK⟩
theorem CallQ.eq {P:Program} {fid:FuncId} {args:List PV} {KP:PV→Prop} {x:D} (h:FnEq P fid args [.d x]) (hx:x.sc) (hK:KP (.d x)):CallQ P fid args KP:=⟨[x],by simpa using hx,h,hK⟩
@[congr] theorem xA {P:Program} {o:Oper} {fid:FuncId} {args args':List PV} {refs refs':Bool} {s s':AS} {dst:Option Tmp} {K:AS→Prop} (h1:args = args') (h2:refs = refs') (h3:s = s'):CallK P o fid args refs s dst K = CallK P o fid args' refs' s' dst K:=by subst h1 h2 h3;rfl
@[congr] theorem xz {P:Program} {fid:FuncId} {args args':List PV} {KP:PV→Prop} (h1:args = args'):CallQ P fid args KP = CallQ P fid args' KP:=by subst h1;rfl
@[congr] theorem yQ {P:Program} {o:Oper} {s s':AS} {K:AS→Prop} (h:s = s'):PO P o s K = PO P o s' K:=by subst h;rfl
@[congr] theorem yR {P:Program} {o:Oper} {s s':AS} {KP:PV→Prop} (h:s = s'):PQ P o s KP = PQ P o s' KP:=by subst h;rfl
def pK (b:Bool) (A B:Prop):Prop:=(b = true→A)∧(b = false→B)
theorem wX (A B:Prop):pK true A B = A:=by simp [pK]
theorem vb (A B:Prop):pK false A B = B:=by simp [pK]
theorem Z {b:Bool} {A B:Prop} (h1:b = true→A) (h2:b = false→B):pK b A B:=⟨h1,h2⟩
def su (P:Program) (G:List (Nat × TI)) (o:Oper) (op:BinOp) (t:TypeId) (x y:PV) (s:AS) (KP:PV→Prop):Prop:=
 match x,y with
 |.d (.int k a),.d (.int k' b)=>(match op with
  |.shr=>0≤b∧KP (.d (.int k (a.fdiv (2 ^ (min b.toNat k.bits)))))
  |op=>k = k'∧ss op k a b KP)
 |.d (.bool a),.d (.bool b)=>bt G t = some .bol∧o6 op a b KP
 |.d (.str a),.d (.str b)=>sS op a b KP
 |_,_=>PQ P o s KP
def oS (P:Program) (G:List (Nat × TI)) (o:Oper) (t:TypeId) (x:PV) (s:AS) (KP:PV→Prop):Prop:=
 match bt G t,fJ s x with
 |some ti,some cs=>(match ti.cells with
  |none=>(match x with
   |.rptr _ _ _ _=>(match cs[0]? with
    |some PV.und=>PQ P o s KP
    |some y=>KP y
    |none=>False)
   |_=>(match cs[0]? with
    |some y=>KP y
    |none=>False))
  |some n=>n≤cs.length∧KP (.agg (cs.take n)))
 |_,_=>PQ P o s KP
def sv (P:Program) (G:List (Nat × TI)) (o:Oper) (t:TypeId) (x i:PV) (s:AS) (KP:PV→Prop):Prop:=
 match bt G t,i with
 |some (.slc _ sz _ _),.d (.int _ n)=>0≤n∧(match jr sz n.toNat x with
  |some y=>KP y
  |none=>False)
 |some (.arr len sz _),.d (.int _ n)=>0≤n∧n < len∧(match ic (n.toNat * sz) x with
  |some y=>KP y
  |none=>False)
 |_,_=>PQ P o s KP
def mA (P:Program) (G:List (Nat × TI)) (o:Oper) (t:TypeId) (x:PV) (lo hi:Option Operand) (s:AS) (KP:PV→Prop):Prop:=
 match bt G t with
 |some (.slc _ sz _ _)=>(match jn x with
  |some n=>(match iV s 0 lo,iV s n hi with
   |some l,some h=>0≤l∧l≤h∧h≤n∧(match ol sz l.toNat h.toNat x with
    |some y=>KP y
    |none=>False)
   |_,_=>False)
  |none=>False)
 |some .str=>(match x with
  |.d (.str b)=>(match iV s 0 lo,iV s b.size hi with
   |some l,some h=>0≤l∧l≤h∧h≤b.size∧KP (.d (.str (b.extract l.toNat h.toNat)))
   |_,_=>False)
  |_=>False)
 |_=>PQ P o s KP
def h_ (P:Program) (G:List (Nat × TI)) (o:Oper) (b:Builtin) (args:List Operand) (ts:List TypeId) (s:AS) (KP:PV→Prop):Prop:=
 match b,args,ts with
 |.len,[x],[t]=>(match bt G t,s.get x with
  |some .str,.d (.str b)=>KP (.d (.int .i64 b.size))
  |some (.slc _ _ _ _),x=>(match jn x with
   |some n=>KP (.d (.int .i64 n))
   |none=>False)
  |_,_=>False)
 |.min,[x,y],_=>(match s.get x,s.get y with
  |.d (.int k a),.d (.int k' b)=>k = k'∧KP (.d (.int k (min a b)))
  |_,_=>False)
 |.max,[x,y],_=>(match s.get x,s.get y with
  |.d (.int k a),.d (.int k' b)=>k = k'∧KP (.d (.int k (max a b)))
  |_,_=>False)
 |_,_,_=>PQ P o s KP
def eK (P:Program) (G:List (Nat × TI)) (o:Oper) (s:AS) (KP:PV→Prop):Prop:=
 match o.op with
 |.move x=>KP (s.get x)
 |.assign x=>KP (s.get x)
 |.pick c x y=>(match s.get c with
  |.d (.bool b)=>pK b (KP (s.get x)) (KP (s.get y))
  |_=>False)
 |.build t parts=>(match bt G t with
  |some (.st _ fs z)=>(match ef (fs[·]?) (z.map .d) (parts.toList.map fun p=>(p.1,s.get p.2)) with
   |some cs=>KP (.agg cs)
   |none=>False)
  |some (.arr _ _ z)=>parts.toList = []∧KP (.agg (z.map .d))
  |_=>PQ P o s KP)
 |.load t x=>oS P G o t (s.get x) s KP
 |.nilCheck x=>sH (s.get x) = true∧KP (s.get x)
 |.binOp op t x y _=>su P G o op t (s.get x) (s.get y) s KP
 |.unOp .not _ x=>(match s.get x with
  |.d (.bool b)=>KP (.d (.bool !b))
  |_=>False)
 |.unOp .neg _ x=>(match s.get x with
  |.d (.int k n)=>jY k (0 - n) KP
  |_=>False)
 |.convert src dst x=>(match bt G src,bt G dst,s.get x with
  |some _,some (.num k),.d (.int _ n)=>jY k n KP
  |_,_,_=>PQ P o s KP)
 |.fieldAddr t x f=>(match bt G t with
  |some (.st _ fs _)=>(match fs[f]? with
   |some fo=>(match ic fo.1 (s.get x) with
    |some y=>KP y
    |none=>False)
   |none=>False)
  |_=>PQ P o s KP)
 |.indexAddr t x i=>sv P G o t (s.get x) (s.get i) s KP
 |.index t x i=>(match bt G t,s.get x,s.get i with
  |some .str,.d (.str b),.d (.int _ n)=>0≤n∧(match b[n.toNat]? with
   |some u=>KP (.d (.int .u8 u.toNat))
   |none=>False)
  |_,_,_=>PQ P o s KP)
 |.slice t x lo hi none=>mA P G o t (s.get x) lo hi s KP
 |.extract x i=>(match s.get x with
  |.tup xs=>(match xs[i]? with
   |some y=>KP y
   |none=>False)
  |_=>False)
 |.makeFunc fn first caps=>(match fn with
  |.func f=>first.toList = []∧KP (.fn f (caps.toList.map s.get))
  |_=>PQ P o s KP)
 |.call c=>(match c.callee with
  |.value f=>(match s.get f with
   |.fn fid caps=>CallQ P fid ((c.args.toList.map s.get++caps).map (iy s.hp)) KP
   |_=>False)
  |.builtin b=>h_ P G o b c.args.toList c.argTypes.toList s KP
  |_=>PQ P o s KP)
 |_=>PQ P o s KP
def mM (P:Program) (G:List (Nat × TI)) (o:Oper) (t:TypeId) (p x:PV) (s:AS) (K:AS→Prop):Prop:=
 match bt G t,p with
 |some ti,.bptr id off=>(match ae s.hp id with
  |some (.box ty cs)=>(bg x).all eD = true∧(bg x).length = ti.size∧off + ti.size≤cs.length∧K (AS.put ⟨s.fr,bj s.hp id (.box ty (bx cs off (bg x))),s.nx⟩ o.dst .und)
  |some (.pbox q ty cs)=>(bg x).all eD = true∧(bg x).length = ti.size∧off + ti.size≤cs.length∧K (AS.put ⟨s.fr,bj s.hp id (.pbox q ty (bx cs off (bg x))),s.nx⟩ o.dst .und)
  |_=>False)
 |some ti,.rptr id sz k off=>(match ae s.hp id,kz (bg x) with
  |some (.row ty sz' es),some ds=>sz' = sz∧(match es[k]? with
   |some e=>ds.length = ti.size∧off + ti.size≤e.length∧K (AS.put ⟨s.fr,bj s.hp id (.row ty sz (es.set k (bx e off ds))),s.nx⟩ o.dst .und)
   |none=>False)
  |_,_=>PO P o s K)
 |_,_=>PO P o s K
def kR (P:Program) (G:List (Nat × TI)) (o:Oper) (t:TypeId) (x y:PV) (s:AS) (K:AS→Prop):Prop:=
 match bt G t,x with
 |some (.slc e sz _ _),.row id n=>(match ae s.hp id,hH s.hp y with
  |some (.row ty sz1 es),some (sz2,fs)=>ty = e∧sz1 = sz∧sz2 = sz∧es.length = n∧es.length + fs.length≤16777216∧K (AS.put ⟨s.fr,(s.nx,.row e sz (es++fs))::dH s.hp id,s.nx + 1⟩ o.dst (.row s.nx (n + fs.length)))
  |_,_=>PO P o s K)
 |_,_=>False
def uA (G:List (Nat × TI)) (o:Oper) (x:Operand) (s:AS) (K:AS→Prop):Prop:=
 match x with
 |.const (.slice none 0 0)=>(match bt G o.type with
  |some (.slc e sz _ _)=>K (AS.put ⟨s.fr,(s.nx,.row e sz [])::s.hp,s.nx + 1⟩ o.dst (.row s.nx 0))
  |_=>K (s.put o.dst .und))
 |x=>K (s.put o.dst (s.get x))
def nE (P:Program) (G:List (Nat × TI)) (o:Oper) (s:AS) (K:AS→Prop):Prop:=
 match o.op with
 |.move x=>uA G o x s K
 |.assign x=>uA G o x s K
 |.alloc t=>(match bt G t with
  |some (.st _ _ z)=>K (AS.put ⟨s.fr,(s.nx,.box t (z.map .d))::s.hp,s.nx + 1⟩ o.dst (.bptr s.nx 0))
  |some (.arr _ _ z)=>K (AS.put ⟨s.fr,(s.nx,.box t (z.map .d))::s.hp,s.nx + 1⟩ o.dst (.bptr s.nx 0))
  |some (.num k)=>K (AS.put ⟨s.fr,(s.nx,.box t [.d (.int k 0)])::s.hp,s.nx + 1⟩ o.dst (.bptr s.nx 0))
  |_=>PO P o s K)
 |.box t x=>(bg (s.get x)).all eD = true∧K (AS.put ⟨s.fr,(s.nx,.box t (bg (s.get x)))::s.hp,s.nx + 1⟩ o.dst (.bptr s.nx 0))
 |.buildSlice t len parts=>(match bt G t with
  |some (.slc e sz _ _)=>len * sz≤16777216∧(match ef (fun i=>some (i * sz,sz)) (List.replicate (len * sz) .und) (parts.toList.map fun p=>(p.1,s.get p.2)) with
   |some cs=>(match bb cs,cX s.hp cs with
    |[],some ds=>K (AS.put ⟨s.fr,(s.nx,.row e sz (eO sz len ds))::cp s.hp (bb cs),s.nx + 1⟩ o.dst (.row s.nx len))
    |_,_=>PO P o s K)
   |none=>False)
  |_=>PO P o s K)
 |.load t x=>(match bt G t,s.get x with
  |some (.slc _ _ _ _),.rptr id sz k off=>(match ae s.hp id with
   |some (.deep _ _ szd es)=>szd = sz∧(match dd es k off with
    |some (_,es')=>K (AS.put ⟨s.fr,(s.nx,.al id k off)::s.hp,s.nx + 1⟩ o.dst (.row s.nx es'.length))
    |none=>False)
   |_=>eK P G o s fun v=>K (s.put o.dst v))
  |_,_=>eK P G o s fun v=>K (s.put o.dst v))
 |.store t p x=>mM P G o t (s.get p) (s.get x) s K
 |.makeSlice t l c=>(match bt G t,s.get l,s.get c with
  |some (.slc e sz _ z),.d (.int .i64 n),.d (.int .i64 n')=>n = n'∧0≤n∧n≤1048576∧(match z.all D.scB with
   |true=>K (AS.put ⟨s.fr,(s.nx,.row e sz (List.replicate n.toNat z))::s.hp,s.nx + 1⟩ o.dst (.row s.nx n.toNat))
   |false=>K (AS.put ⟨s.fr,(s.nx,.deep 0 e sz (List.replicate n.toNat z))::s.hp,s.nx + 1⟩ o.dst (.row s.nx n.toNat)))
  |_,_,_=>PO P o s K)
 |.call c=>(match c.callee with
  |.value f=>(match s.get f with
   |.fn fid caps=>CallK P o fid ((c.args.toList.map s.get++caps).map (iy s.hp)) ((c.args.toList.map s.get++caps).any fp) s o.dst K
   |_=>False)
  |.builtin .append=>(match c.args.toList,c.argTypes.toList with
   |[x,y],[t,t']=>t = t'∧kR P G o t (s.get x) (s.get y) s K
   |_,_=>False)
  |.builtin b=>h_ P G o b c.args.toList c.argTypes.toList s fun v=>K (s.put o.dst v)
  |_=>PO P o s K)
 |_=>eK P G o s fun v=>K (s.put o.dst v)
theorem qv {P:Program} {G:List (Nat × TI)} {o:Oper} {x:Operand} {s:AS} {K:AS→Prop} (ho:o.op = .move x∨o.op = .assign x) (h:uA G o x s K):PO P o s K:=by
 unfold uA at h
 split at h
 ·split at h
  ·exact xv ho rfl _ _ h
  ·exact PQ.po (PQ.pure _ h fun m X w a _=>⟨.slice none 0 0,fun u=>by rcases ho with h|h<;>simp [execOp,h,Act.eval],.und _⟩)
 ·exact PQ.po (nr ho h)
section sound
variable {P:Program} {G:List (Nat × TI)} (hG:GOK P G) {o:Oper} {s:AS} {K:AS→Prop} {KP:PV→Prop}
include hG
theorem ui {op:BinOp} {t t':TypeId} {x y:Operand} (ho:o.op = .binOp op t x y t') (h:su P G o op t (s.get x) (s.get y) s KP):PQ P o s KP:=by
 generalize hx:s.get x = a at h
 generalize hy:s.get y = b at h
 unfold su at h
 split at h
 ·split at h
  ·exact w6 ho hx hy h.1 h.2
  ·obtain ⟨rfl,h⟩:=h;exact w7 ho hx hy h
 ·exact wU ho (hG _ _ h.1) hx hy h.2
 ·exact w3 ho hx hy h
 ·exact h
theorem th {t:TypeId} {x:Operand} (ho:o.op = .load t x) (h:oS P G o t (s.get x) s KP):PQ P o s KP:=by
 unfold oS at h
 split at h
 ·rename_i ti cs ht hc
  split at h
  ·rename_i h1
   split at h
   ·split at h
    ·exact h
    ·rename_i y _ h2;exact qb ho (hG _ _ ht) h1 hc h2 h
    ·exact h.elim
   ·split at h
    ·rename_i y h2;exact qb ho (hG _ _ ht) h1 hc h2 h
    ·exact h.elim
  ·rename_i n h1
   exact vn ho (hG _ _ ht) h1 hc h.1 h.2
 ·exact h
theorem uV {t:TypeId} {x i:Operand} (ho:o.op = .indexAddr t x i) (h:sv P G o t (s.get x) (s.get i) s KP):PQ P o s KP:=by
 generalize hi:s.get i = q at h
 unfold sv at h
 split at h
 ·rename_i e sz bytes z k n ht
  obtain ⟨h0,h⟩:=h
  split at h
  ·rename_i y h1;exact vz ho (hG _ _ ht) hi h0 h1 h
  ·exact h.elim
 ·rename_i len sz z k n ht
  obtain ⟨h0,h1,h⟩:=h
  split at h
  ·rename_i y h2;exact qL ho (hG _ _ ht) hi h0 h1 h2 h
  ·exact h.elim
 ·exact h
theorem ri {t:TypeId} {x:Operand} {lo hi:Option Operand} (ho:o.op = .slice t x lo hi none) (h:mA P G o t (s.get x) lo hi s KP):PQ P o s KP:=by
 unfold mA at h
 split at h
 ·rename_i e sz bytes z ht
  split at h
  ·rename_i n hn
   split at h
   ·rename_i l hh h1 h2
    obtain ⟨h3,h4,h5,h⟩:=h
    split at h
    ·rename_i y h6;exact vi ho (hG _ _ ht) hn h1 h2 h3 h4 h5 h6 h
    ·exact h.elim
   ·exact h.elim
  ·exact h.elim
 ·rename_i ht
  split at h
  ·rename_i b hx
   split at h
   ·rename_i l hh h1 h2
    obtain ⟨h3,h4,h5,h6⟩:=h
    exact pJ ho (hG _ _ ht) hx h1 h2 h3 h4 h5 h6
   ·exact h.elim
  ·exact h.elim
 ·exact h
theorem jN {b:Builtin} {args:Array Operand} {ts:Array TypeId} (ho:o.op = .call {callee:=.builtin b,args:=args,argTypes:=ts}) (h:h_ P G o b args.toList ts.toList s KP):PQ P o s KP:=by
 generalize ha:args.toList = asl at h
 generalize ht:ts.toList = us at h
 have ha':args = asl.toArray:=by rw [←ha]
 have ht':ts = us.toArray:=by rw [←ht]
 subst ha' ht'
 unfold h_ at h
 split at h
 ·rename_i x t
  generalize hx:s.get x = q at h
  split at h
  ·rename_i ht;exact tF ho (hG _ _ ht) hx h
  ·rename_i e sz by_ z ht
   split at h
   ·rename_i n hn;exact xc ho (hG _ _ ht) (by rw [hx];exact hn) h
   ·exact h.elim
  ·exact h.elim
 ·rename_i x y
  generalize hx:s.get x = q at h
  generalize hy:s.get y = r at h
  split at h
  ·obtain ⟨rfl,h⟩:=h;exact xo ho hx hy h
  ·exact h.elim
 ·rename_i x y
  generalize hx:s.get x = q at h
  generalize hy:s.get y = r at h
  split at h
  ·obtain ⟨rfl,h⟩:=h;exact xq ho hx hy h
  ·exact h.elim
 ·exact h
omit hG in
theorem ru {f:Operand} {args:Array Operand} {argTypes:Array TypeId} {fid:FuncId} {caps:List PV} (ho:o.op = .call {callee:=.value f,args:=args,argTypes:=argTypes}) (hf:s.get f = .fn fid caps)
  (h:CallQ P fid ((args.toList.map s.get++caps).map (iy s.hp)) KP):PQ P o s KP:=by
 obtain ⟨xs,hxs,⟨⟨fn,e1,e2,e3⟩,hcall⟩,hK⟩:=h
 have hread:∀ (m:Nat→Option Loc) (X:Nat→Prop) (w:World),R m X w (nF xs) (cJ (xs.map fq).toArray):=by
  intro m X w
  have htup:R m X w (.tup (xs.map .d)) (.tuple (xs.map fq).toArray):=by
   refine .tup _ _ (by simp) fun i y u hy hu=>?_
   rw [List.getElem?_map] at hy
   have hu':(xs.map fq)[i]? = some u:=by simpa using hu
   rw [List.getElem?_map] at hu'
   cases hi:xs[i]? with
   |none=>rw [hi] at hy;cases hy
   |some d=>
    rw [hi] at hy hu'
    cases hy
    cases hu'
    exact .d _ _ (t7 (hxs d (List.mem_of_getElem? hi)) w X)
  match xs,hxs,htup with
  |[],_,htup=>simpa [nF,cJ] using htup
  |[x],hxs,_=>simp only [nF,cJ,List.map_cons,List.map_nil,List.size_toArray,List.length_cons,List.length_nil,dif_pos];exact .d _ _ (t7 (hxs x (by simp)) w X)
  |x::y::r,_,htup=>simpa [nF,cJ] using htup
 refine ⟨nF xs,fun X0 w0 m a wb hs0=>⟨cJ (xs.map fq).toArray,fun w hb=>?_,fun w hb=>hread _ _ _⟩,hK⟩
 have hs:=hs0.later hb
 have hfv:=hs.get f
 rw [hf] at hfv
 obtain ⟨vs,hl,hvs,hfe⟩:∃ vs:Array Value,vs.size = caps.length∧(∀ (i:Nat) (x:PV) (v:Value),caps[i]? = some x→vs[i]? = some v→R m (aU X0 m s.hp) w x v)∧a.eval f = .func (.func fid) #[] vs:=by
  generalize a.eval f = v at hfv
  cases hfv with
  |fn _ _ vs hl h=>exact ⟨vs,hl,h,rfl⟩
 have hrun:(execOp a.eval o).run P w = .ok (.enter fid (args.map a.eval++vs)) w:=by
  have e2':¬ fn.name = "runtime.NumGoroutine":=by simpa using e2
  have e3':¬ fn.body = none:=fun h=>by rw [h] at e3;cases e3
  simp [execOp,ho,resolve,hfe,Deferred.ofValue,invoke,callFunc,e1]
  rw [if_neg e2',if_neg e3']
 have hall:∀ (i:Nat) (x:PV) (v:Value),(args.toList.map s.get++caps)[i]? = some x→(args.map a.eval++vs)[i]? = some v→R m (aU X0 m s.hp) w x v:=by
  intro i x v hx hv
  by_cases hi:i < args.size
  ·rw [List.getElem?_append_left (by simpa using hi),List.getElem?_map] at hx
   rw [Array.getElem?_append_left (by simpa using hi),Array.getElem?_map] at hv
   have h6:args[i]? = some args[i]:=by simp [hi]
   have h7:args.toList[i]? = some args[i]:=by simp [hi]
   rw [h6] at hv
   rw [h7] at hx
   cases hv
   cases hx
   exact hs.get _
  ·rw [List.getElem?_append_right (by simp;omega)] at hx
   rw [Array.getElem?_append_right (by simp;omega)] at hv
   simp only [List.length_map,Array.length_toList] at hx
   simp only [Array.size_map] at hv
   exact hvs _ x v hx hv
 unfold Oper.quietAt
 rw [hrun]
 refine ⟨rfl,(hcall w (fun _=>False) _ hs.glob (fun b h=>h.elim) (by simp [hl]) fun i x v hx hv=>?_).mono ?_⟩
 ·rw [List.getElem?_map] at hx
  cases hi:(args.toList.map s.get++caps)[i]? with
  |none=>rw [hi] at hx;cases hx
  |some y=>
   rw [hi] at hx
   cases hx
   exact kV hs (fun b _ _=>⟨rfl,fun h=>h⟩) (fun _ b h=>h) (hall i y v hi hv)
 ·rintro e w' ⟨rs,rfl,us,gs,he,hsz,hbel,_,hR⟩
  rw [List.length_map] at hsz
  have hus:us = (xs.map fq).toArray:=by
   apply Array.ext
   ·simp [hsz]
   ·intro i hi hi2
    have hlt:i < xs.length:=by omega
    have h2:=hR i (.d xs[i]) us[i] (by simp [hlt]) (by simp [hi])
    generalize gs i = g0 at h2
    have h3:us[i] = fq xs[i]:=by
     cases h2 with
     |d _ _ h=>exact t9 (hxs _ (List.getElem_mem hlt)) h
    simp [h3]
  subst hus
  exact ⟨he,hb.trans (hbel.mono hb.size)⟩
theorem go (h:eK P G o s KP):PQ P o s KP:=by
 unfold eK at h
 split at h
 ·rename_i x ho;exact nr (.inl ho) h
 ·rename_i x ho;exact nr (.inr ho) h
 ·rename_i c x y ho
  split at h
  ·rename_i b hc;exact wq ho hc h.1 h.2
  ·exact h.elim
 ·rename_i t parts ho
  split at h
  ·rename_i n fs z ht
   split at h
   ·rename_i cs h1;exact u0 ho (hG _ _ ht) h1 h
   ·exact h.elim
  ·rename_i l sz z ht
   obtain ⟨h1,h2⟩:=h
   have:parts = #[]:=Array.ext' (by simpa using h1)
   subst this
   exact qF ho (hG _ _ ht) h2
  ·exact h
 ·rename_i t x ho;exact th hG ho h
 ·rename_i x ho;exact rb ho h.1 h.2
 ·rename_i op t x y t' ho;exact ui hG ho h
 ·rename_i t x ho
  split at h
  ·rename_i b hx;exact xd ho hx h
  ·exact h.elim
 ·rename_i t x ho
  split at h
  ·rename_i k n hx;exact xm ho hx h
  ·exact h.elim
 ·rename_i src dst x ho
  split at h
  ·rename_i ti k k' n hs hd hx;exact tB ho (hG _ _ hs) (hG _ _ hd) hx h
  ·exact h
 ·rename_i t x f ho
  split at h
  ·rename_i n fs z ht
   split at h
   ·rename_i fo h1
    split at h
    ·rename_i y h2;exact vg ho (hG _ _ ht) h1 h2 h
    ·exact h.elim
   ·exact h.elim
  ·exact h
 ·rename_i t x i ho;exact uV hG ho h
 ·rename_i t x i ho
  split at h
  ·rename_i b k n ht hx hi
   obtain ⟨h0,h⟩:=h
   split at h
   ·rename_i u h1;exact qp ho (hG _ _ ht) hx hi h0 h1 h
   ·exact h.elim
  ·exact h
 ·rename_i t x lo hi ho;exact ri hG ho h
 ·rename_i x i ho
  split at h
  ·rename_i xs hx
   split at h
   ·rename_i y h1;exact tm ho hx h1 h
   ·exact h.elim
  ·exact h.elim
 ·rename_i fn first caps ho
  split at h
  ·obtain ⟨h1,h2⟩:=h
   have:first = #[]:=Array.ext' (by simpa using h1)
   subst this
   exact wO ho h2
  ·exact h
 ·rename_i c ho
  obtain ⟨callee,args,ts⟩:=c
  simp only at h
  split at h
  ·rename_i f
   split at h
   ·rename_i fid caps hf;exact ru ho hf h
   ·exact h.elim
  ·exact jN hG ho h
  ·exact h
 ·exact h
theorem rz {t:TypeId} {p x:Operand} (ho:o.op = .store t p x) (h:mM P G o t (s.get p) (s.get x) s K):PO P o s K:=by
 generalize hp:s.get p = q at h
 unfold mM at h
 split at h
 ·rename_i ti id off ht
  split at h
  ·rename_i ty cs hg
   obtain ⟨h1,h2,h3,h4⟩:=h
   exact pz ho (hG _ _ ht) hp hg (List.all_eq_true.1 h1) h2 h3 h4
  ·rename_i q ty cs hg
   obtain ⟨h1,h2,h3,h4⟩:=h
   exact oK ho (hG _ _ ht) hp hg (List.all_eq_true.1 h1) h2 h3 h4
  ·exact h.elim
 ·rename_i ti id sz k off ht
  split at h
  ·rename_i ty sz' es ds hg hd
   obtain ⟨rfl,h⟩:=h
   split at h
   ·rename_i e h1
    obtain ⟨h2,h3,h4⟩:=h
    exact qA ho (hG _ _ ht) hp hg h1 hd h2 h3 h4
   ·exact h.elim
  ·exact h
 ·exact h
theorem qo {t:TypeId} {x y:Operand} (ho:o.op = .call {callee:=.builtin .append,args:=#[x,y],argTypes:=#[t,t]}) (h:kR P G o t (s.get x) (s.get y) s K):PO P o s K:=by
 generalize hx:s.get x = q at h
 unfold kR at h
 split at h
 ·rename_i e sz bytes z id n ht
  split at h
  ·rename_i ty sz1 es sz2 fs hg hy
   obtain ⟨h1,rfl,rfl,h4,h5,h6⟩:=h
   exact jZ ho (hG _ _ ht) hx hg h1 h4 hy h5 h6
  ·exact h
 ·exact h.elim
theorem a9 (h:nE P G o s K):PO P o s K:=by
 unfold nE at h
 split at h
 ·rename_i x ho;exact qv (.inl ho) h
 ·rename_i x ho;exact qv (.inr ho) h
 ·rename_i t ho
  split at h
  ·rename_i n fs z ht
   obtain ⟨_,i,v,h1,_,h2,h3,_⟩:=il (hG _ _ ht)
   exact l4 ho ⟨i,v,h1,h2,h3⟩ h
  ·rename_i l sz z ht
   obtain ⟨_,i,v,h1,_,h2,h3,_⟩:=i7 (hG _ _ ht)
   exact l4 ho ⟨i,v,h1,h2,h3⟩ h
  ·rename_i k ht
   obtain ⟨_,i,v,h1,_,h2,h3⟩:=nn (hG _ _ ht)
   exact l4 (z:=[.int k 0]) ho ⟨i,v,h1,h2,h3⟩ h
  ·exact h
 ·rename_i t x ho;exact xg ho (List.all_eq_true.1 h.1) h.2
 ·rename_i t len parts ho
  split at h
  ·rename_i e sz by_ z ht
   obtain ⟨h0,h⟩:=h
   split at h
   ·rename_i cs h1
    split at h
    ·rename_i ds h3 h2;exact oM ho (hG _ _ ht) h0 h1 h2 h
    ·exact h
   ·exact h.elim
  ·exact h
 ·rename_i t x ho
  have hq:(eK P G o s fun v=>K (s.put o.dst v))→PO P o s K:=fun h=>PQ.po (go hG h)
  split at h
  ·rename_i e sz by_ z id sz' k off ht hx
   split at h
   ·rename_i q ty szd es hg
    obtain ⟨rfl,h⟩:=h
    split at h
    ·rename_i sz2 es' hal
     exact s7 ho (hG _ _ ht) rfl hx hg hal h
    ·exact h.elim
   ·exact hq h
  ·exact hq h
 ·rename_i t p x ho;exact rz hG ho h
 ·rename_i t l c ho
  split at h
  ·rename_i e sz by_ z n n' ht hl hc
   obtain ⟨rfl,h0,h1,h2⟩:=h
   have e:((n.toNat:Nat):Int) = n:=Int.toNat_of_nonneg h0
   split at h2
   ·exact wr (n:=n.toNat) ho (hG _ _ ht) (by rw [hl,e]) (by rw [hc,e]) (by omega) h2
   ·exact qf (n:=n.toNat) ho (hG _ _ ht) (by rw [hl,e]) (by rw [hc,e]) (by omega) h2
  ·exact h
 ·rename_i c ho
  obtain ⟨callee,args,ts⟩:=c
  simp only at h
  split at h
  ·rename_i f
   split at h
   ·rename_i fid caps hf
    rcases h with ⟨Post,h1,h2⟩|h
    ·exact wR ho hf h1 h2
    ·exact h
   ·exact h.elim
  ·generalize ha:args.toList = asl at h
   generalize ht:ts.toList = us at h
   have ha':args = asl.toArray:=by rw [←ha]
   have ht':ts = us.toArray:=by rw [←ht]
   subst ha' ht'
   split at h
   ·obtain ⟨rfl,h⟩:=h;exact qo hG ho h
   ·exact h.elim
  ·exact PQ.po (jN hG ho h)
  ·exact h
 ·exact PQ.po (go hG h)
end sound
def AS.setB (s:AS) (ops:Array Oper) (j:Nat) (b:Bool):AS:=match (ops[j]?).bind (·.dst) with
 |some t=>{s with fr:=⟨s.fr.n,upl s.fr.l t (.d (.bool b))⟩}
 |none=>s
theorem ix {ops:Array Oper} {s:AS} {j:Nat} {b:Bool} (h:yB ops s j = .d (.bool b)):s.setB ops j b = s:=by
 unfold yB at h
 unfold AS.setB
 split at h
 ·rename_i t ht
  rw [ht]
  have:upl s.fr.l t (.d (.bool b)) = s.fr.l:=p7 h
  simp only [this]
 ·cases h
def cC (P:Program) (G:List (Nat × TI)) (ops:Array Oper):List Oper→(AS→Prop)→AS→Prop
 |[],K,s=>K s
 |o::rest,K,s=>match o.guard with
  |none=>nE P G o s (cC P G ops rest K)
  |some (j,want)=>(match yB ops s j with
   |.d (.bool b)=>pK (b == want) (nE P G o (s.setB ops j want) (cC P G ops rest K)) (cC P G ops rest K ((s.setB ops j !want).put o.dst (.tup [])))
   |.tup []=>cC P G ops rest K (s.put o.dst (.tup []))
   |_=>False)
theorem PO.mono {P:Program} {o:Oper} {s:AS} {K U:AS→Prop} (h:PO P o s K) (hk:∀ s,K s→U s):PO P o s U:=fun X0 w0 m a w Q hs=>
 Oper.wp_mono (fun _ _ ⟨m',s',h1,h2⟩=>⟨m',s',hk s' h1,h2⟩) (h X0 w0 m a w Q hs)
theorem dN {P:Program} {G:List (Nat × TI)} (hG:GOK P G) {ops:Array Oper}:∀ (l:List Oper) (K:AS→Prop) (s:AS),cC P G ops l K s→PL P ops l K s
 |[],K,s,h=>h
 |o::rest,K,s,h=>by
  simp only [cC] at h
  simp only [PL]
  split at h
  ·rename_i hg
   rw [hg]
   exact (a9 hG h).mono fun s' h'=>dN hG rest K s' h'
  ·rename_i j want hg
   rw [hg]
   split at h
   ·rename_i b hb
    obtain ⟨h1,h2⟩:=h
    refine .inl ⟨b,hb,fun e=>?_,fun e=>?_⟩
    ·subst e
     rw [ix hb] at h1
     exact (a9 hG (h1 (by simp))).mono fun s' h'=>dN hG rest K s' h'
    ·have e2:b = !want:=by cases b<;>cases want<;>simp_all
     rw [←e2,ix hb] at h2
     exact dN hG rest K _ (h2 (by simpa using e))
   ·rename_i hb
    exact .inr ⟨hb,dN hG rest K _ h⟩
   ·exact h.elim
theorem uI {P:Program} {G:List (Nat × TI)} (hG:GOK P G) {Q:Exit→AS→Prop} {s:AS} {id:Nat} {l:List Oper} (h:∀ K:AS→Prop,(∀ s',Q .normal s'→K s')→cC P G l.toArray l K s):PW P (.region id l.toArray false) Q s:=
 ck (dN hG l _ s (h _ fun _ h=>h))
theorem sp {K:AS→Prop} {Q:Exit→AS→Prop} {id:Nat} {s:AS} (h:Q (.exit id) s):ep K Q (.exit id) s:=h
theorem uG {K:AS→Prop} {Q:Exit→AS→Prop} {s:AS} (h:Q .ret s):ep K Q .ret s:=h
theorem ba {K:AS→Prop} {Q:Exit→AS→Prop} {s:AS} (h:K s):ep K Q .normal s:=h
theorem bm {Q:Exit→AS→Prop} {id:Nat} {s:AS} (h:Q .normal s):da id Q (.exit id) s:=by simpa [da] using h
theorem ny {Q:Exit→AS→Prop} {id id':Nat} {s:AS} (hne:id'≠id) (h:Q (.exit id') s):da id Q (.exit id') s:=by simpa [da,hne] using h
theorem pG {Q:Exit→AS→Prop} {id:Nat} {s:AS} (h:Q .ret s):da id Q .ret s:=h
theorem bc {Q:Exit→AS→Prop} {id:Nat} {s:AS} (h:Q .normal s):da id Q .normal s:=h
theorem f6 {P:Program} {Q:Exit→AS→Prop} {s:AS} {x y:Code} (h:∀ K:AS→Prop,(∀ s',PW P y Q s'→K s')→PW P x (ep K Q) s):PW P (.seq x y) Q s:=cm (h _ fun _ h=>h)
end Go.Proofs.YtphakidbddamfaaGreat
