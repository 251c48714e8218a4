/-
  The table of the program's types, for the abstract machine.
-/
import Derived.Test.YtphakidbddamfaaGreatProg
import Derived.Test.YtphakidbddamfaaGreatZM11
namespace Go.Proofs.YtphakidbddamfaaGreat
open Go.RowKit
def G:List (Nat × TI):=[(2,.num .i64),(3,.num .i64),(4,.bol),(5,.num .u8),(6,.num .u8),(7,.st 4 [(0,1),(1,1),(2,1),(3,1)] [.int .i64 0,.int .i64 0,.bool false,.int .u8 0]),(8,.st 4 [(0,1),(1,1),(2,1),(3,1)] [.int .i64 0,.int .i64 0,.bool false,.int .u8 0]),(9,.str),(10,.str),(11,.str),(12,.num .u64),(13,.st 2 [(0,1),(1,1)] [.str ⟨#[]⟩,.int .u64 0]),(14,.st 2 [(0,1),(1,1)] [.str ⟨#[]⟩,.int .u64 0]),(21,.num .i32),(22,.slc 156 4 40 [.str ⟨#[]⟩,.int .i64 0,.int .i64 0,.int .i64 0]),(23,.slc 3 1 8 [.int .i64 0]),(24,.st 6 [(0,1),(1,1),(2,1),(3,1),(4,1),(5,1)] [.lst 4 [],.lst 1 [],.int .i64 0,.int .i64 0,.int .i64 0,.int .i64 0]),(25,.st 6 [(0,1),(1,1),(2,1),(3,1),(4,1),(5,1)] [.lst 4 [],.lst 1 [],.int .i64 0,.int .i64 0,.int .i64 0,.int .i64 0]),(26,.slc 158 3 56 [.lst 1 [],.lst 1 [],.bool false]),(27,.slc 23 1 24 [.lst 1 []]),(28,.st 2 [(0,1),(1,1)] [.lst 1 [],.lst 1 []]),(29,.st 2 [(0,1),(1,1)] [.lst 1 [],.lst 1 []]),(30,.st 3 [(0,1),(1,1),(2,1)] [.int .i64 0,.int .i64 0,.int .i64 0]),(31,.st 3 [(0,1),(1,1),(2,1)] [.int .i64 0,.int .i64 0,.int .i64 0]),(32,.st 6 [(0,1),(1,2),(3,3)] [.lst 3 [],.lst 1 [],.lst 1 [],.int .i64 0,.int .i64 0,.int .i64 0]),(33,.st 6 [(0,1),(1,2),(3,3)] [.lst 3 [],.lst 1 [],.lst 1 [],.int .i64 0,.int .i64 0,.int .i64 0]),(34,.st 5 [(0,1),(1,1),(2,1),(3,1),(4,1)] [.int .i64 0,.int .i64 0,.int .i64 0,.int .i64 0,.bool false]),(35,.st 5 [(0,1),(1,1),(2,1),(3,1),(4,1)] [.int .i64 0,.int .i64 0,.int .i64 0,.int .i64 0,.bool false]),(40,.slc 161 4 40 [.str ⟨#[]⟩,.int .i64 0,.int .i64 0,.int .i64 0]),(41,.st 6 [(0,1),(1,1),(2,1),(3,1),(4,1),(5,1)] [.lst 4 [],.lst 1 [],.int .i64 0,.int .i64 0,.int .i64 0,.int .i64 0]),(42,.st 6 [(0,1),(1,1),(2,1),(3,1),(4,1),(5,1)] [.lst 4 [],.lst 1 [],.int .i64 0,.int .i64 0,.int .i64 0,.int .i64 0]),(44,.slc 143 3 56 [.lst 1 [],.lst 1 [],.bool false]),(45,.st 2 [(0,1),(1,1)] [.lst 1 [],.lst 1 []]),(46,.st 3 [(0,1),(1,1),(2,1)] [.int .i64 0,.int .i64 0,.int .i64 0]),(47,.st 6 [(0,1),(1,2),(3,3)] [.lst 3 [],.lst 1 [],.lst 1 [],.int .i64 0,.int .i64 0,.int .i64 0]),(48,.st 6 [(0,1),(1,2),(3,3)] [.lst 3 [],.lst 1 [],.lst 1 [],.int .i64 0,.int .i64 0,.int .i64 0]),(50,.st 5 [(0,1),(1,1),(2,1),(3,1),(4,1)] [.int .i64 0,.int .i64 0,.int .i64 0,.int .i64 0,.bool false]),(55,.slc 35 5 40 [.int .i64 0,.int .i64 0,.int .i64 0,.int .i64 0,.bool false]),(58,.slc 50 5 40 [.int .i64 0,.int .i64 0,.int .i64 0,.int .i64 0,.bool false]),(72,.slc 5 1 1 [.int .u8 0]),(77,.slc 131 6 48 [.int .i64 0,.int .i64 0,.int .i64 0,.int .i64 0,.int .i64 0,.bool false]),(130,.st 6 [(0,1),(1,1),(2,1),(3,1),(4,1),(5,1)] [.int .i64 0,.int .i64 0,.int .i64 0,.int .i64 0,.int .i64 0,.bool false]),(131,.st 6 [(0,1),(1,1),(2,1),(3,1),(4,1),(5,1)] [.int .i64 0,.int .i64 0,.int .i64 0,.int .i64 0,.int .i64 0,.bool false]),(133,.num .u64),(134,.st 3 [(0,1),(1,1),(2,1)] [.lst 1 [],.int .i64 0,.int .u64 0]),(135,.st 3 [(0,1),(1,1),(2,1)] [.lst 1 [],.int .i64 0,.int .u64 0]),(141,.slc 9 1 16 [.str ⟨#[]⟩]),(142,.st 3 [(0,1),(1,1),(2,1)] [.lst 1 [],.lst 1 [],.bool false]),(143,.st 3 [(0,1),(1,1),(2,1)] [.lst 1 [],.lst 1 [],.bool false]),(155,.st 4 [(0,1),(1,1),(2,1),(3,1)] [.str ⟨#[]⟩,.int .i64 0,.int .i64 0,.int .i64 0]),(156,.st 4 [(0,1),(1,1),(2,1),(3,1)] [.str ⟨#[]⟩,.int .i64 0,.int .i64 0,.int .i64 0]),(158,.st 3 [(0,1),(1,1),(2,1)] [.lst 1 [],.lst 1 [],.bool false]),(161,.st 4 [(0,1),(1,1),(2,1),(3,1)] [.str ⟨#[]⟩,.int .i64 0,.int .i64 0,.int .i64 0]),(182,.one [.hole]),(183,.st 2 [(0,1),(1,1)] [.lst 3 [],.hole]),(184,.st 2 [(0,1),(1,1)] [.lst 3 [],.hole]),(205,.num .u64),(214,.arr 2 1 [.int .i64 0,.int .i64 0]),(241,.num .u32),(242,.num .u8),(243,.num .u8),(246,.num .i32),(247,.num .i32)]
theorem aa:GOK Tryz.prog G:=GOK.of_all (by kernel_rfl)
@[go_sem] theorem G2:bt G 2 = some (.num .i64):=rfl
@[go_sem] theorem G3:bt G 3 = some (.num .i64):=rfl
@[go_sem] theorem G4:bt G 4 = some (.bol):=rfl
@[go_sem] theorem G5:bt G 5 = some (.num .u8):=rfl
@[go_sem] theorem G6:bt G 6 = some (.num .u8):=rfl
@[go_sem] theorem G7:bt G 7 = some (.st 4 [(0,1),(1,1),(2,1),(3,1)] [.int .i64 0,.int .i64 0,.bool false,.int .u8 0]):=rfl
@[go_sem] theorem G8:bt G 8 = some (.st 4 [(0,1),(1,1),(2,1),(3,1)] [.int .i64 0,.int .i64 0,.bool false,.int .u8 0]):=rfl
@[go_sem] theorem G9:bt G 9 = some (.str):=rfl
@[go_sem] theorem AW:bt G 10 = some (.str):=rfl
@[go_sem] theorem AK:bt G 11 = some (.str):=rfl
@[go_sem] theorem AE:bt G 12 = some (.num .u64):=rfl
@[go_sem] theorem AQ:bt G 13 = some (.st 2 [(0,1),(1,1)] [.str ⟨#[]⟩,.int .u64 0]):=rfl
@[go_sem] theorem AR:bt G 14 = some (.st 2 [(0,1),(1,1)] [.str ⟨#[]⟩,.int .u64 0]):=rfl
@[go_sem] theorem Az:bt G 21 = some (.num .i32):=rfl
@[go_sem] theorem AF:bt G 22 = some (.slc 156 4 40 [.str ⟨#[]⟩,.int .i64 0,.int .i64 0,.int .i64 0]):=rfl
@[go_sem] theorem jR:bt G 23 = some (.slc 3 1 8 [.int .i64 0]):=rfl
@[go_sem] theorem AL:bt G 24 = some (.st 6 [(0,1),(1,1),(2,1),(3,1),(4,1),(5,1)] [.lst 4 [],.lst 1 [],.int .i64 0,.int .i64 0,.int .i64 0,.int .i64 0]):=rfl
@[go_sem] theorem AD:bt G 25 = some (.st 6 [(0,1),(1,1),(2,1),(3,1),(4,1),(5,1)] [.lst 4 [],.lst 1 [],.int .i64 0,.int .i64 0,.int .i64 0,.int .i64 0]):=rfl
@[go_sem] theorem A0:bt G 26 = some (.slc 158 3 56 [.lst 1 [],.lst 1 [],.bool false]):=rfl
@[go_sem] theorem jU:bt G 27 = some (.slc 23 1 24 [.lst 1 []]):=rfl
@[go_sem] theorem AN:bt G 28 = some (.st 2 [(0,1),(1,1)] [.lst 1 [],.lst 1 []]):=rfl
@[go_sem] theorem A4:bt G 29 = some (.st 2 [(0,1),(1,1)] [.lst 1 [],.lst 1 []]):=rfl
@[go_sem] theorem A2:bt G 30 = some (.st 3 [(0,1),(1,1),(2,1)] [.int .i64 0,.int .i64 0,.int .i64 0]):=rfl
@[go_sem] theorem AM:bt G 31 = some (.st 3 [(0,1),(1,1),(2,1)] [.int .i64 0,.int .i64 0,.int .i64 0]):=rfl
@[go_sem] theorem AO:bt G 32 = some (.st 6 [(0,1),(1,2),(3,3)] [.lst 3 [],.lst 1 [],.lst 1 [],.int .i64 0,.int .i64 0,.int .i64 0]):=rfl
@[go_sem] theorem AT:bt G 33 = some (.st 6 [(0,1),(1,2),(3,3)] [.lst 3 [],.lst 1 [],.lst 1 [],.int .i64 0,.int .i64 0,.int .i64 0]):=rfl
@[go_sem] theorem AA:bt G 34 = some (.st 5 [(0,1),(1,1),(2,1),(3,1),(4,1)] [.int .i64 0,.int .i64 0,.int .i64 0,.int .i64 0,.bool false]):=rfl
@[go_sem] theorem A5:bt G 35 = some (.st 5 [(0,1),(1,1),(2,1),(3,1),(4,1)] [.int .i64 0,.int .i64 0,.int .i64 0,.int .i64 0,.bool false]):=rfl
@[go_sem] theorem vN:bt G 40 = some (.slc 161 4 40 [.str ⟨#[]⟩,.int .i64 0,.int .i64 0,.int .i64 0]):=rfl
@[go_sem] theorem A3:bt G 41 = some (.st 6 [(0,1),(1,1),(2,1),(3,1),(4,1),(5,1)] [.lst 4 [],.lst 1 [],.int .i64 0,.int .i64 0,.int .i64 0,.int .i64 0]):=rfl
@[go_sem] theorem gB:bt G 42 = some (.st 6 [(0,1),(1,1),(2,1),(3,1),(4,1),(5,1)] [.lst 4 [],.lst 1 [],.int .i64 0,.int .i64 0,.int .i64 0,.int .i64 0]):=rfl
@[go_sem] theorem fk:bt G 44 = some (.slc 143 3 56 [.lst 1 [],.lst 1 [],.bool false]):=rfl
@[go_sem] theorem fT:bt G 45 = some (.st 2 [(0,1),(1,1)] [.lst 1 [],.lst 1 []]):=rfl
@[go_sem] theorem AV:bt G 46 = some (.st 3 [(0,1),(1,1),(2,1)] [.int .i64 0,.int .i64 0,.int .i64 0]):=rfl
@[go_sem] theorem AP:bt G 47 = some (.st 6 [(0,1),(1,2),(3,3)] [.lst 3 [],.lst 1 [],.lst 1 [],.int .i64 0,.int .i64 0,.int .i64 0]):=rfl
@[go_sem] theorem om:bt G 48 = some (.st 6 [(0,1),(1,2),(3,3)] [.lst 3 [],.lst 1 [],.lst 1 [],.int .i64 0,.int .i64 0,.int .i64 0]):=rfl
@[go_sem] theorem AX:bt G 50 = some (.st 5 [(0,1),(1,1),(2,1),(3,1),(4,1)] [.int .i64 0,.int .i64 0,.int .i64 0,.int .i64 0,.bool false]):=rfl
@[go_sem] theorem AU:bt G 55 = some (.slc 35 5 40 [.int .i64 0,.int .i64 0,.int .i64 0,.int .i64 0,.bool false]):=rfl
@[go_sem] theorem AB:bt G 58 = some (.slc 50 5 40 [.int .i64 0,.int .i64 0,.int .i64 0,.int .i64 0,.bool false]):=rfl
@[go_sem] theorem AC:bt G 72 = some (.slc 5 1 1 [.int .u8 0]):=rfl
@[go_sem] theorem AH:bt G 77 = some (.slc 131 6 48 [.int .i64 0,.int .i64 0,.int .i64 0,.int .i64 0,.int .i64 0,.bool false]):=rfl
@[go_sem] theorem z8:bt G 130 = some (.st 6 [(0,1),(1,1),(2,1),(3,1),(4,1),(5,1)] [.int .i64 0,.int .i64 0,.int .i64 0,.int .i64 0,.int .i64 0,.bool false]):=rfl
@[go_sem] theorem zv:bt G 131 = some (.st 6 [(0,1),(1,1),(2,1),(3,1),(4,1),(5,1)] [.int .i64 0,.int .i64 0,.int .i64 0,.int .i64 0,.int .i64 0,.bool false]):=rfl
@[go_sem] theorem zN:bt G 133 = some (.num .u64):=rfl
@[go_sem] theorem zJ:bt G 134 = some (.st 3 [(0,1),(1,1),(2,1)] [.lst 1 [],.int .i64 0,.int .u64 0]):=rfl
@[go_sem] theorem zW:bt G 135 = some (.st 3 [(0,1),(1,1),(2,1)] [.lst 1 [],.int .i64 0,.int .u64 0]):=rfl
@[go_sem] theorem zE:bt G 141 = some (.slc 9 1 16 [.str ⟨#[]⟩]):=rfl
@[go_sem] theorem zn:bt G 142 = some (.st 3 [(0,1),(1,1),(2,1)] [.lst 1 [],.lst 1 [],.bool false]):=rfl
@[go_sem] theorem d3:bt G 143 = some (.st 3 [(0,1),(1,1),(2,1)] [.lst 1 [],.lst 1 [],.bool false]):=rfl
@[go_sem] theorem Aj:bt G 155 = some (.st 4 [(0,1),(1,1),(2,1),(3,1)] [.str ⟨#[]⟩,.int .i64 0,.int .i64 0,.int .i64 0]):=rfl
@[go_sem] theorem zk:bt G 156 = some (.st 4 [(0,1),(1,1),(2,1),(3,1)] [.str ⟨#[]⟩,.int .i64 0,.int .i64 0,.int .i64 0]):=rfl
@[go_sem] theorem zY:bt G 158 = some (.st 3 [(0,1),(1,1),(2,1)] [.lst 1 [],.lst 1 [],.bool false]):=rfl
@[go_sem] theorem Af:bt G 161 = some (.st 4 [(0,1),(1,1),(2,1),(3,1)] [.str ⟨#[]⟩,.int .i64 0,.int .i64 0,.int .i64 0]):=rfl
@[go_sem] theorem Aq:bt G 182 = some (.one [.hole]):=rfl
@[go_sem] theorem zw:bt G 183 = some (.st 2 [(0,1),(1,1)] [.lst 3 [],.hole]):=rfl
@[go_sem] theorem z_:bt G 184 = some (.st 2 [(0,1),(1,1)] [.lst 3 [],.hole]):=rfl
@[go_sem] theorem z9:bt G 205 = some (.num .u64):=rfl
@[go_sem] theorem w8:bt G 214 = some (.arr 2 1 [.int .i64 0,.int .i64 0]):=rfl
@[go_sem] theorem zI:bt G 241 = some (.num .u32):=rfl
@[go_sem] theorem zT:bt G 242 = some (.num .u8):=rfl
@[go_sem] theorem Ar:bt G 243 = some (.num .u8):=rfl
@[go_sem] theorem zr:bt G 246 = some (.num .i32):=rfl
@[go_sem] theorem As:bt G 247 = some (.num .i32):=rfl
theorem ax:Tryz.prog.follows .mixedOrders = true:=by kernel_rfl
theorem ak {G:List (Nat × TI)} {fn:Func} {Post:List RV→Prop} {s:AS} {xs:List PV} {rs:List RV} (h1:dB G s fn.results.toList = some xs) (h2:bl s.hp xs = some rs) (h3:(am xs).Nodup) (h4:Post rs):xa G fn Post .ret s:=⟨xs,rs,h1,h2,h3,h4⟩
def bi:Fr→List (Nat × PV)→Fr
 |f,[]=>f
 |f,(t,x)::r=>bi ⟨f.n,bw f.l t x⟩ r
def tz:List (Nat × List Nat)→Nat→List Nat
 |[],_=>[]
 |(k,ts)::r,i=>if i = k then ts else tz r i
def eR (T:List (Nat × List Nat)) (id:Nat) (s:AS):AS:=⟨wipe s.fr (tz T id),s.hp,s.nx⟩
theorem fG {P:Program} {c:Code} {Q:Exit→AS→Prop} {s:AS} (T:List (Nat × List Nat)) (id:Nat) (h:PW P c Q (eR T id s)):PW P c Q s:=fun X0 w0 m a w hs=>h X0 w0 m a w (hs.wipe _)
theorem sj {P:Program} {G:List (Nat × TI)} (hG:GOK P G) {Q:Exit→AS→Prop} {s:AS} {id:Nat} {l:List Oper} {y:Code} (h:∀ K:AS→Prop,(∀ s',PW P y Q s'→K s')→cC P G l.toArray l K s):PW P (.seq (.region id l.toArray false) y) Q s:=
 f6 fun _ hK=>uI hG fun U O=>h U fun s' h'=>O s' (hK s' h')
theorem qN {P:Program} {G:List (Nat × TI)} (T:List (Nat × List Nat)) (hG:GOK P G) {Q:Exit→AS→Prop} {s:AS} {id:Nat} {l:List Oper} {y:Code} (h:∀ K:AS→Prop,(∀ s',PW P y Q (eR T id s')→K s')→cC P G l.toArray l K s):PW P (.seq (.region id l.toArray false) y) Q s:=
 sj hG fun K hK=>h K fun s' h'=>hK s' (fG T id h')
theorem az {P:Program} {G:List (Nat × TI)} (T:List (Nat × List Nat)) {Q:Exit→AS→Prop} {s:AS} {id:Nat} {l:List Oper} {y:Code} (hG:GOK P G) (hm:P.follows .mixedOrders = true) (hB:Region.lexB .any l.toArray = true) (h:∀ K:AS→Prop,(∀ s',PW P y Q (eR T id s')→K s')→cL P G l.toArray l K s):PW P (.seq (.region id l.toArray true) y) Q s:=
 qV hG hm hB fun K hK=>h K fun s' h'=>hK s' (fG T id h')
theorem dY {P:Program} {G:List (Nat × TI)} (T:List (Nat × List Nat)) {Q:Exit→AS→Prop} {s:AS} {id:Nat} {l:List Oper} {y:Code} (hG:GOK P G) (p n:Nat) (hm:P.follows .mixedOrders = true) (hB:mo l.toArray p n = true) (h:∀ K:AS→Prop,(∀ s',PW P y Q (eR T id s')→K s')→cL P G l.toArray (l.take n) (cC P G l.toArray (l.drop n) K) s):PW P (.seq (.region id l.toArray true) y) Q s:=
 qO hG p n hm hB fun K hK=>h K fun s' h'=>hK s' (fG T id h')
def iS (P:Program) (ops:Array Oper) (K:AS→Prop) (fuel:Nat) (listed:Array Bool) (s:AS):Prop:=
 ∀ (X0:Nat→Prop) (w0:Base) (m:Mp) (a:Act) (w:World) (Q':Exit→Act→World→Prop),(∀ m' s' a' w',K s'→Sim X0 w0 m' s' a' w'→Q' .normal a' w')→Sim X0 w0 m s a w→wpAny P .any ops Q' fuel listed a w
theorem ej {P:Program} {ops:Array Oper} {K:AS→Prop} {fuel:Nat} {listed:Array Bool} {s:AS} (hR:Region.ready .any ops listed = []) (h:K s):iS P ops K fuel listed s:=by
 intro X0 w0 m a w Q' hQ hs
 cases fuel with
 |zero=>exact ⟨hR,hQ m s a w h hs⟩
 |succ n=>exact ⟨fun _=>hQ m s a w h hs,fun i hi=>by rw [hR] at hi;cases hi⟩
theorem uJ {P:Program} {ops:Array Oper} {K:AS→Prop} {o:Oper} {i:Nat} {s:AS} {X0:Nat→Prop} {w0:Base} {m:Mp} {a:Act} {w:World} {Q':Exit→Act→World→Prop} {A:Act→World→Prop} (ho:ops[i]? = some o) (h:PL P ops [o] K s) (hs:Sim X0 w0 m s a w)
  (hK:∀ m' s' a' w',K s'→Sim X0 w0 m' s' a' w'→A a' w'):wpOp P ops Q' i A a w:=by
 have step:∀ s,Sim X0 w0 m s a w→PO P o s K→o.wp P a w A Q':=by
  intro s hs h1
  exact Oper.wp_mono (fun a' w' ⟨m',s',h2,h3⟩=>hK m' s' a' w' h2 h3) (h1 X0 w0 m a w Q' hs)
 unfold wpOp
 simp only [ho]
 simp only [PL] at h
 split at h
 ·rename_i hg
  simp only [Region.wanted,hg,if_true]
  exact .inl (step s hs h)
 ·rename_i j want hg
  rcases h with ⟨b,h1,h2,h3⟩|⟨h1,h3⟩
  ·have hy:yielded ops a.tmps j = some b:=by
    unfold yB at h1
    cases hd:(ops[j]?).bind (·.dst) with
    |none=>rw [hd] at h1;cases h1
    |some t=>
     rw [hd] at h1
     have h4:=hs.get (.tmp t)
     have h1':lk s.fr.l t = .d (.bool b):=h1
     simp only [AS.get] at h4
     rw [h1'] at h4
     have h5:a.tmps.getD t undef = .bool b:=h4.bool
     have h6:a.tmps[t]? = some (.bool b):=by
      rw [Array.getD_eq_getD_getElem?] at h5
      cases ht:a.tmps[t]? with
      |none=>rw [ht] at h5;cases h5
      |some u=>rw [ht] at h5;simp at h5;rw [h5]
     unfold yielded
     rw [hd]
     simp [h6]
   simp only [Region.wanted,hg,hy]
   by_cases hb:b = want
   ·subst hb
    simp only [beq_self_eq_true,if_true]
    exact .inl (step s hs (h2 rfl))
   ·have:(some b == some want) = false:=by simpa using hb
    simp only [this,Bool.false_eq_true,if_false]
    exact hK _ _ _ _ (h3 hb) (hs.put (lT _ _ _) o.dst)
  ·have hy:yielded ops a.tmps j = none:=by
    unfold yB at h1
    cases hd:(ops[j]?).bind (·.dst) with
    |none=>rw [hd] at h1;cases h1
    |some t=>
     rw [hd] at h1
     have h4:=hs.get (.tmp t)
     have h1':lk s.fr.l t = .tup []:=h1
     simp only [AS.get] at h4
     rw [h1'] at h4
     have h5:∀ b,a.tmps.getD t undef≠.bool b:=by
      intro b he
      have h4':R m (aU X0 m s.hp) w (.tup []) (a.tmps.getD t undef):=h4
      rw [he] at h4'
      cases h4'
     unfold yielded
     rw [hd]
     simp only [Option.bind_some]
     split
     ·rename_i b hb
      exact absurd (by rw [Array.getD_eq_getD_getElem?,hb];rfl) (h5 b)
     ·rfl
   simp only [Region.wanted,hg,hy]
   have:((none:Option Bool) == some want) = false:=rfl
   simp only [this,Bool.false_eq_true,if_false]
   exact hK _ _ _ _ h3 (hs.put (lT _ _ _) o.dst)
def vh (P:Program) (G:List (Nat × TI)) (l:List Oper) (K:AS→Prop) (fuel:Nat) (listed:Array Bool) (s:AS):List Nat→Prop
 |[]=>True
 |i::r=>(∃ o,l[i]? = some o∧∀ U:AS→Prop,(∀ s',iS P l.toArray K fuel (listed.setIfInBounds i true) s'→U s')→fO false P G l.toArray o s U)∧vh P G l K fuel listed s r
theorem ay {P:Program} {G:List (Nat × TI)} (hG:GOK P G) (R:List Nat) {l:List Oper} {K:AS→Prop} {fuel:Nat} {listed:Array Bool} {s:AS} (hR:Region.ready .any l.toArray listed = R) (hne:R.isEmpty = false) (h:vh P G l K fuel listed s R):iS P l.toArray K (fuel + 1) listed s:=by
 intro X0 w0 m a w Q' hQ hs
 refine ⟨fun h0=>(by rw [hR] at h0;subst h0;cases hne),fun i hi=>?_⟩
 rw [hR] at hi
 have key:∀ R:List Nat,vh P G l K fuel listed s R→∀ i ∈ R,∃ o,l[i]? = some o∧∀ U:AS→Prop,(∀ s',iS P l.toArray K fuel (listed.setIfInBounds i true) s'→U s')→fO false P G l.toArray o s U:=by
  intro R
  induction R with
  |nil=>intro _ i hi;cases hi
  |cons j r ih=>
   rintro ⟨h1,h2⟩ i hi
   rcases List.mem_cons.1 hi with rfl|hi
   ·exact h1
   ·exact ih h2 i hi
 obtain ⟨o,ho,h1⟩:=key R h i hi
 have h2:cC P G l.toArray [o] (iS P l.toArray K fuel (listed.setIfInBounds i true)) s:=gI fun U O=>h1 U fun s' hs'=>O s' hs'
 exact uJ (by simpa using ho) (dN hG _ _ _ h2) hs fun m' s' a' w' h3 h4=>h3 X0 w0 m' a' w' Q' hQ h4
theorem eT {P:Program} {Q:Exit→AS→Prop} {s:AS} {id:Nat} {l:List Oper} (hm:P.follows .mixedOrders = true) (h:iS P l.toArray (Q .normal) l.length (Array.replicate l.length false) s):PW P (.region id l.toArray true) Q s:=by
 intro X0 w0 m a w hs
 refine wp_region_any hm ?_
 have:=h X0 w0 m a w.drew (fun e a' w'=>∃ m' s',Q e s'∧Sim X0 w0 m' s' a' w') (fun m' s' a' w' h1 h2=>⟨m',s',h1,h2⟩) hs.drew
 simpa using this
theorem cN {P:Program} (T:List (Nat × List Nat)) {Q:Exit→AS→Prop} {s s1:AS} {id:Nat} {l:List Oper} {y:Code} (hm:P.follows .mixedOrders = true)
  (h:iS P l.toArray (fun s'=>eR T id s' = s1∨iM (eR T id s') s1) l.length (Array.replicate l.length false) s) (h2:PW P y Q s1):PW P (.seq (.region id l.toArray true) y) Q s:=
 f6 fun K hK=>eT hm fun X0 w0 m a w Q' hQ hs=>h X0 w0 m a w Q' (fun m' s' a' w' h3 h4=>hQ m' s' a' w' (hK s' (fG T id (by
  rcases h3 with h3|h3
  ·rw [h3];exact h2
  ·exact i1 h3 h2))) h4) hs
@[congr] theorem yT {P:Program} {c:Code} {Q:Exit→AS→Prop} {s s':AS} (h:s = s'):PW P c Q s = PW P c Q s':=by subst h;rfl
attribute [go_sem] eR tz
class StpK (a:Prop) (A:outParam (AS→Prop)) (b:outParam ((AS→Prop)→Prop)):Prop where
 mp:(∀ K:AS→Prop,(∀ s',A s'→K s')→b K)→a
theorem aj {a:Prop} {A:AS→Prop} {b:(AS→Prop)→Prop} [i:StpK a A b] (h:∀ K:AS→Prop,(∀ s',A s'→K s')→b K):a:=i.mp h
def cK (y:PV) (A B:Prop):Prop:=match y with
 |.d (.bool b)=>pK b A B
 |_=>False
@[congr] theorem yP {y y':PV} {A B:Prop} (h:y = y'):cK y A B = cK y' A B:=by subst h;rfl
class StpC (a:Prop) (b:outParam Prop):Prop where
 mp:b→a
theorem ah {a b:Prop} [i:StpC a b] (h:b):a:=i.mp h
section
variable {P:Program} {G:List (Nat × TI)} {ops:Array Oper} {s:AS} {K:AS→Prop} {Q:Exit→AS→Prop} {x y z:Code} {id:Nat} {rest:List Oper} {d:Option Tmp} {op:Op} {t:TypeId} {pos:String} {af:Array Edge} {c:Operand}
instance:StpK (cC P G ops (⟨d,op,t,pos,af,none⟩::rest) K s) (cC P G ops rest K) (fun U=>mR false P G ⟨d,op,t,pos,af,none⟩ s U):=⟨fun h=>gI fun U O=>aX rfl (h U O)⟩
instance:StpK (cL P G ops (⟨d,op,t,pos,af,none⟩::rest) K s) (cL P G ops rest K) (fun U=>mR true P G ⟨d,op,t,pos,af,none⟩ s U):=⟨fun h=>li fun U O=>aX rfl (h U O)⟩
theorem v3 {A B:Prop} (hA:∀ b,s.get c = .d (.bool b)→pK b A B→PW P z Q s) (h:cK (s.get c) A B):PW P z Q s:=by
 unfold cK at h
 split at h
 ·rename_i b e;exact hA b e h
 ·exact h.elim
instance:StpC (PW P (.cond c x y) Q s) (cK (s.get c) (PW P x Q s) (PW P y Q s)):=⟨v3 fun _ e h=>rO e h.1 h.2⟩
instance:StpC (PW P (.seq (.cond c x y) z) Q s) (cK (s.get c) (PW P x (ep (PW P z Q) Q) s) (PW P y (ep (PW P z Q) Q) s)):=⟨v3 fun _ e h=>cm (rO e h.1 h.2)⟩
end
attribute [go_sem] cK
theorem xS {P:Program} {G:List (Nat × TI)} {ops:Array Oper} {o:Oper} {rest:List Oper} {K:AS→Prop} {s:AS} {t:Nat} {want:Bool} (hg:vM ops o = some (t,want)) (h:∀ U:AS→Prop,(∀ s',cC P G ops rest K s'→U s')→v5 false P G o s U t want (lk s.fr.l t)):cC P G ops (o::rest) K s:=gI fun U O=>aP hg (h U O)
theorem qS {P:Program} {G:List (Nat × TI)} {ops:Array Oper} {o:Oper} {rest:List Oper} {K:AS→Prop} {s:AS} {t:Nat} {want:Bool} (hg:vM ops o = some (t,want)) (h:∀ U:AS→Prop,(∀ s',cL P G ops rest K s'→U s')→v5 true P G o s U t want (lk s.fr.l t)):cL P G ops (o::rest) K s:=li fun U O=>aP hg (h U O)
theorem kN {Q:Exit→AS→Prop} {s:AS} {id:Nat} {l:List Oper} {y:Code} (T:List (Nat × List Nat)) (h:∀ K:AS→Prop,(∀ s',PW Tryz.prog y Q (eR T id s')→K s')→cC Tryz.prog G l.toArray l K s):PW Tryz.prog (.seq (.region id l.toArray false) y) Q s:=qN T aa h
theorem kO {Q:Exit→AS→Prop} {s:AS} {id:Nat} {l:List Oper} (h:∀ K:AS→Prop,(∀ s',Q .normal s'→K s')→cC Tryz.prog G l.toArray l K s):PW Tryz.prog (.region id l.toArray false) Q s:=uI aa h
theorem iB {Q:Exit→AS→Prop} {id id':Nat} {s:AS} (h:Q (.exit id') s) (hne:id'≠id:=by decide):da id Q (.exit id') s:=ny hne h
@[go_sem] def AI:List (Nat × List Nat):=[(0,[0])]
@[go_sem] def AG:List (Nat × List Nat):=[(2,[16,17,18]),(3,[19]),(5,[21,22,23]),(6,[24]),(8,[26,27,28,29,30,31,32,33,34,35,36]),(9,[37,38]),(10,[39,40]),(11,[41,42,43,44,45,46,47,48,49]),(12,[50,51,52,53,54,55,56]),(14,[58,59,60,61]),(16,[63,64,65,66])]
@[go_sem] def AJ:List (Nat × List Nat):=[(2,[17,18,19]),(3,[20]),(5,[22,23,24]),(6,[25]),(8,[27,28,29]),(9,[30]),(11,[32,33,34,35,36,37,38,39,40,41,42]),(12,[43,44]),(13,[45,46]),(14,[47,48]),(15,[49,50,51,52,53,54,55,56]),(16,[57,58,59,60,61,62,63]),(18,[65,66,67,68]),(20,[70,71,72,73]),(22,[75,76,77,78])]
@[go_sem] def AZ:List (Nat × List Nat):=[(2,[18,19,20]),(3,[21]),(5,[23,24,25]),(6,[26]),(8,[28,29,30,31,32,33,34,35,36,37,38]),(9,[39,40]),(10,[41,42]),(11,[43,44,45,46,47,48,49,50,51]),(12,[52,53,54,55,56,57,58,59,60,61,62,63,64,65,66,67,68]),(14,[70,71,72,73]),(16,[75,76,77,78])]
@[go_sem] def A6:List (Nat × List Nat):=[(2,[22,23,24]),(3,[25]),(5,[27,28,29]),(6,[30]),(8,[32,33,34]),(9,[35]),(11,[37,38,39,40,41,42,43,44,45,46,47]),(12,[48,49]),(13,[50,51]),(14,[52,53]),(15,[54,55,56,57,58,59,60,61]),(16,[62,63,64,65,66,67,68,69]),(18,[71,72,73,74]),(20,[76,77,78,79]),(22,[81,82,83,84]),(25,[86,87,88]),(26,[89,90,91]),(27,[92,93,94]),(28,[95,96,97,98,99,100,101,102,103,104,105,106]),(31,[108,109,110]),(33,[111,112,113]),(34,[114]),(36,[116,117]),(38,[119,120,121,122,123,124,125,126,127,128,129]),(39,[130,131,132,133,134,135,136,137]),(42,[139,140,141]),(43,[142]),(45,[144,145])]
@[go_sem] def iZ:List (Nat × List Nat):=[(1,[42,43,44,45,46]),(3,[48,49,50,51,52]),(4,[53,54,55,56,57,58]),(5,[59,60,61,62,63,64]),(6,[65,66,67,68,69,70]),(7,[71,72,73,74,75,76]),(8,[77,78,79,80,81,82]),(9,[83,84,85,86,87,88]),(10,[89,90,91,92,93,94,95]),(11,[96,97,98,99,100,101,102,103]),(12,[104,105,106,107,108,109,110,111]),(13,[112,113,114,115,116,117,118,119,120,121,122,123,124,125,126,127,128,129,130,131,132,133,134,135,136,137,138,139,140,141,142,143,144,145,146,147,148,149,150,151,152,153,154,155,156,157,158,159,160,161,162,163]),(16,[166,167,168,169,170,171,172]),(17,[173,174,175,176,177,178,179]),(18,[180,181,182,183,184,185,186]),(19,[187,188,189,190,191,192,193]),(20,[194,195,196,197,198,199,200]),(21,[201,202,203,204,205,206,207,208,209,210,211,212,213,214,215,216,217,218,219,220,221,222,223,224,225,226,227,228,229,230,231,232,233,234]),(23,[236]),(25,[238,239,240,241,242,243]),(29,[248,249]),(30,[250]),(31,[252,253]),(32,[254]),(33,[255,256,257,258,259,260,261,262,263,264,265,266])]
@[go_sem] def A1:List (Nat × List Nat):=[(1,[67,68,69,70,71]),(3,[73,74,75,76,77,78]),(4,[79,80,81,82,83,84,85,86,87]),(5,[88,89,90,91,92,93,94,95,96]),(6,[97,98,99,100,101,102,103]),(7,[104,105,106,107,108,109,110,111]),(8,[112,113,114,115,116,117,118,119]),(9,[120,121,122,123,124,125,126]),(10,[127,128,129,130,131,132,133,134]),(11,[135,136,137,138,139,140,141,142]),(12,[143,144,145,146,147]),(13,[148,149,150,151,152,153]),(14,[154,155,156,157,158,159]),(15,[160,161,162,163,164,165]),(16,[166,167,168,169,170,171,172]),(17,[173,174,175,176,177,178,179]),(18,[180,181,182,183,184,185,186,187,188,189,190,191,192,193,194,195,196,197,198,199,200,201,202,203,204,205,206,207,208,209,210,211,212,213,214,215,216,217,218,219,220,221,222,223,224,225,226,227,228,229,230,231,232,233,234,235,236,237,238]),(20,[240,241,242,243]),(21,[245,246,247,248,249,250,251,252,253]),(22,[254,255,256,257,258,259,260,261,262]),(23,[263,264,265,266,267,268,269,270,271,272,273,274,275,276,277,278,279,280,281,282]),(25,[284,285,286,287,288,289,290,291,292,293,294]),(26,[295,296,297,298,299,300]),(29,[303,304,305,306,307,308,309]),(30,[310,311,312,313,314,315,316]),(31,[317,318,319,320,321]),(35,[327,328]),(36,[329,330]),(38,[332,333,334,335,336,337,338,339,340,341,342,343,344,345,346,347,348]),(39,[349,350,351,352,353,354,355,356]),(41,[358]),(45,[364,365,366]),(46,[367,368,369,370,371,372,373,374,375]),(48,[377]),(49,[378,379,380,381,382,383,384,385,386,387,388,389]),(51,[391]),(53,[393,394,395,396,397,398,399,400,401,402,403]),(54,[404,405,406,407,408])]
@[go_sem] def AY:List (Nat × List Nat):=[(1,[5,6,7,8]),(2,[9]),(4,[11,12,13,14]),(5,[15]),(7,[17])]
@[go_sem] def zR:List (Nat × List Nat):=[(1,[5,6,7,8]),(2,[9]),(4,[11,12,13,14]),(5,[15]),(7,[17])]
@[go_sem] def Aa:List (Nat × List Nat):=[(1,[12,13,14,15]),(3,[10,17,18,19,20,21,22,23,24]),(4,[25]),(6,[27,28,29,30,31,32,33,34,35,36,37,38,39,40,41])]
@[go_sem] def zL:List (Nat × List Nat):=[(2,[4,5,6,7]),(3,[8,9,10,11]),(4,[12,13,14]),(5,[15,16,17]),(6,[18,19,20]),(7,[21,22,23]),(8,[24])]
@[go_sem] def zm:List (Nat × List Nat):=[(2,[4,5,6,7]),(3,[8,9,10,11]),(4,[12,13,14,15]),(5,[16])]
@[go_sem] def Ao:List (Nat × List Nat):=[(2,[4,5,6]),(3,[7,8,9]),(4,[10,11,12]),(5,[13,14,15]),(6,[16,17,18]),(7,[19])]
@[go_sem] def Al:List (Nat × List Nat):=[(1,[12,13,14,15]),(3,[10,17,18,19,20,21,22,23,24]),(4,[25]),(6,[27,28,29,30,31,32,33,34,35,36,37,38,39,40,41,42,43,44])]
@[go_sem] def zD:List (Nat × List Nat):=[(1,[5,6,7,8,9]),(3,[11,12,13,14,15]),(5,[17,18,19,20]),(7,[22,23,24,25]),(9,[27,28,29,30]),(11,[32,33,34,35])]
@[go_sem] def zq:List (Nat × List Nat):=[(1,[5,6,7,8,9]),(3,[11,12,13,14,15]),(5,[17,18,19,20,21])]
@[go_sem] def zo:List (Nat × List Nat):=[(1,[5,6,7,8]),(2,[9]),(4,[11])]
@[go_sem] def kF:List (Nat × List Nat):=[(1,[12,13,14,15]),(3,[17,18,19,20,21,22,23]),(4,[24]),(6,[26,27,28,29,30,31])]
@[go_sem] def Aw:List (Nat × List Nat):=[(1,[5,6,7]),(3,[8,9,10]),(4,[12,13]),(5,[14,15,16,17,18,19,20,21]),(6,[22])]
@[go_sem] def va:List (Nat × List Nat):=[(1,[12,13,14,15]),(3,[17,18,19,20,21,22,23]),(4,[24]),(6,[26,27,28,29,30])]
@[go_sem] def z2:List (Nat × List Nat):=[(1,[6,7,8,9]),(4,[11,12,13]),(5,[15,16]),(6,[17,18,19,20,21,22,23,24,25])]
@[go_sem] def Av:List (Nat × List Nat):=[(1,[16,17,18,19]),(3,[21]),(4,[22,23,24,25]),(6,[26,27]),(8,[32,33]),(9,[34,35,36,37,38,39,40,41,42,43,44,45,46]),(10,[47,48]),(11,[50]),(12,[51]),(14,[52]),(15,[53,54,55,56,57,58,59,60,61,62])]
@[go_sem] def An:List (Nat × List Nat):=[(1,[15,16,17,18]),(3,[20,21,22,23,24]),(4,[25,26]),(6,[31,32]),(7,[33,34,35,36,37,38,39,40,41,42,43,44,45,46,47,48]),(8,[49,50]),(9,[52,53]),(10,[54]),(11,[55,56]),(13,[58,59,60,61,62,63,64,65,66])]
@[go_sem] def Am:List (Nat × List Nat):=[(1,[13,14,15,16,17,18,19,20,21,22,23]),(4,[25,26]),(6,[31,32]),(7,[33,34,35,36,37,38,39,40,41,42,43,44,45,46,47,48,49]),(8,[51,52,53,54]),(9,[55]),(10,[56])]
@[go_sem] def z7:List (Nat × List Nat):=[(1,[14,15,16,17,18,19,20,21,22,23,24]),(3,[26,27,28,29,30]),(4,[31,32]),(6,[37,38]),(7,[39,40,41,42,43,44,45,46,47,48,49,50,51,52,53,54,55]),(8,[57,58,59,60]),(9,[61]),(10,[62])]
@[go_sem] def Ag:List (Nat × List Nat):=[(1,[6,7,8,9]),(4,[11,12,13]),(5,[15,16]),(6,[17,18,19,20,21,22,23,24,25])]
@[go_sem] def zU:List (Nat × List Nat):=[(1,[5,6,7,8]),(2,[9,10,11,12]),(3,[13])]
@[go_sem] def zC:List (Nat × List Nat):=[(1,[5,6,7,8]),(2,[9,10,11,12]),(3,[13])]
@[go_sem] def zt:List (Nat × List Nat):=[(2,[6,7,8]),(3,[10,11]),(4,[12,13,14,15,16,17]),(5,[18])]
@[go_sem] def z3:List (Nat × List Nat):=[(2,[6,7,8]),(3,[10,11]),(4,[12,13,14,15,16,17]),(5,[18]),(7,[20])]
@[go_sem] def xh:List (Nat × List Nat):=[(1,[4,5,6,7])]
@[go_sem] def pX:List (Nat × List Nat):=[(1,[8,9]),(3,[11,12,13,14,15,16]),(4,[17]),(6,[19])]
@[go_sem] def qD:List (Nat × List Nat):=[(1,[8,9]),(3,[11,12,13,14,15,16]),(4,[17]),(6,[19])]
@[go_sem] def qd:List (Nat × List Nat):=[(1,[6,11,12,13,14,15,16]),(2,[17]),(4,[19]),(7,[24,25]),(8,[26]),(9,[28,29,30,31,32,33,34,35,36,37,38,39]),(10,[40]),(11,[41])]
@[go_sem] def qc:List (Nat × List Nat):=[(1,[6,11,12,13,14,15,16]),(2,[17]),(7,[23,24]),(8,[25]),(9,[27,28,29,30,31,32,33,34,35,36,37,38]),(10,[39]),(11,[40])]
@[go_sem] def xu:List (Nat × List Nat):=[(1,[8,9]),(3,[6,11,12,13,14,15,16]),(4,[17])]
@[go_sem] def w_:List (Nat × List Nat):=[(1,[8,9]),(3,[6,11,12,13,14,15,16]),(4,[17])]
@[go_sem] def lX:List (Nat × List Nat):=[(1,[9,10,11]),(2,[12,13,14,15,16]),(3,[17,18,19]),(4,[21,22]),(5,[23,24,25,26,27,28,29,30])]
@[go_sem] def nh:List (Nat × List Nat):=[(1,[6,7,8,9]),(3,[11]),(5,[15]),(6,[16,17,18,19,20,21,22,23,24,25,26,27,28,29,30,31,32,33,34,35,36,37,38,39,40,41,42,43,44,45,46,47,48,49,50,51,52,53]),(8,[55])]
@[go_sem] def kE:List (Nat × List Nat):=[(1,[6,7,8,9]),(3,[11]),(5,[15]),(6,[16,17,18,19,20,21,22,23]),(8,[25])]
@[go_sem] def ve:List (Nat × List Nat):=[(1,[8,9,10,11,12,13,14,15,16,17,18,19,20,21,22]),(2,[24]),(3,[25,26,27,28,29,30,31,32])]
@[go_sem] def uY:List (Nat × List Nat):=[(1,[8,9,10,11,12,13,14,15,16,17,18,19,20,21,22,23,24,25,26,27,28,29,30]),(2,[32]),(3,[33,34,35])]
@[go_sem] def yV:List (Nat × List Nat):=[(1,[8,9,10,11]),(3,[13,14,15,16])]
@[go_sem] def xi:List (Nat × List Nat):=[(1,[5,6,7,8,9,10,11,12,13,14,15,16,17,18,19,20,21,22,23])]
@[go_sem] def yL:List (Nat × List Nat):=[(1,[6,7,8,9,10])]
@[go_sem] def zF:List (Nat × List Nat):=[(1,[5,6,7,8,9])]
@[go_sem] def Ap:List (Nat × List Nat):=[(1,[9,10,11]),(2,[12,13,14,15,16]),(3,[17,18,19,20,21,22,23,24,25,26])]
@[go_sem] def zQ:List (Nat × List Nat):=[(1,[6,7,8,9,10,11])]
@[go_sem] def zG:List (Nat × List Nat):=[(1,[4,7,8,9,10,11]),(2,[12,13,14]),(3,[15,16,17,18])]
@[go_sem] def zy:List (Nat × List Nat):=[(1,[9,10,11,12,13,14,15]),(6,[21,22]),(7,[23,24]),(8,[26,27]),(9,[28]),(10,[29,30,31])]
@[go_sem] def zl:List (Nat × List Nat):=[(1,[9,10,11,12,13,14,15]),(6,[21,22]),(7,[23,24]),(8,[26,27,28]),(9,[29]),(10,[30])]
@[go_sem] def zS:List (Nat × List Nat):=[(1,[5,8,9,10,11,12]),(2,[13,14,15]),(3,[16,17,18,19,20,21,22])]
@[go_sem] def zp:List (Nat × List Nat):=[(1,[8,9,10,11,12,13,14,15,16,17,18,19]),(3,[21,22,23,24])]
@[go_sem] def z0:List (Nat × List Nat):=[(1,[11,12,13,14,15,16,17,18,19,20,21,22]),(6,[28,29,30]),(7,[31,32,33,34,35]),(8,[37,38,39,40]),(9,[41]),(10,[42])]
@[go_sem] def nw:List (Nat × List Nat):=[(1,[6,7,8,9]),(3,[11]),(5,[15]),(6,[16,17,18,19,20,21,22,23,24]),(8,[26])]
@[go_sem] def na:List (Nat × List Nat):=[(1,[6,7,8,9]),(3,[11]),(5,[15]),(6,[16,17,18,19,20,21,22,23]),(8,[25])]
@[go_sem] def z5:List (Nat × List Nat):=[(3,[11,12]),(4,[13,14]),(6,[16])]
@[go_sem] def zu:List (Nat × List Nat):=[(1,[6,7,8,9]),(2,[10]),(5,[12,13,14]),(6,[16,17]),(7,[18,19,20,21,22,23]),(8,[24]),(10,[26])]
@[go_sem] def At:List (Nat × List Nat):=[(1,[5,6,7,8]),(2,[9]),(4,[11])]
@[go_sem] def Ad:List (Nat × List Nat):=[(1,[6,7,8,9]),(2,[10]),(5,[12,13,14]),(6,[16,17]),(7,[18,19,20,21,22,23]),(8,[24]),(10,[26])]
@[go_sem] def z4:List (Nat × List Nat):=[(1,[5,6,7,8]),(2,[9]),(4,[11,12,13,14]),(5,[15]),(7,[17])]
@[go_sem] def vr:List (Nat × List Nat):=[(1,[7,8,9,10,11,12,13])]
@[go_sem] def dC:List (Nat × List Nat):=[(1,[10,11]),(5,[16,17]),(6,[18,19,20,21,22,23,24,25,26,27,28,29,30,31,32,33,34,35,36,37,38,39,40,41,42,43,44,45,46,47,48,49,50,51]),(8,[53,54]),(9,[55]),(10,[57,58,59,60,61,62,63,64,65,66,67]),(11,[68]),(12,[69,70,71,72])]
@[go_sem] def Au:List (Nat × List Nat):=[(1,[14,15,16,17]),(2,[18,19,20,21,22,23,24,25,26]),(3,[27,28,29,30])]
@[go_sem] def yX:List (Nat × List Nat):=[(1,[7,8,9,10,11,12])]
@[go_sem] def zx:List (Nat × List Nat):=[(1,[5,6,7]),(3,[8,9,10]),(4,[12,13]),(5,[14,15,16,17,18,19,20,21]),(6,[22])]
@[go_sem] def Ab:List (Nat × List Nat):=[(1,[5,6,7]),(3,[8,9,10]),(4,[12,13]),(5,[14,15,16,17,18,19,20]),(6,[21])]
@[go_sem] def zP:List (Nat × List Nat):=[(1,[5,6,7]),(3,[8,9,10]),(4,[12,13]),(5,[14,15,16,17,18,19,20,21]),(6,[22])]
@[go_sem] def zH:List (Nat × List Nat):=[(2,[4,5,6,7]),(3,[8,9,10,11]),(4,[12])]
@[go_sem] def zV:List (Nat × List Nat):=[(2,[4,5,6]),(3,[7,8,9]),(4,[10,11,12]),(5,[13])]
@[go_sem] def vd:List (Nat × List Nat):=[(1,[7,8,9,10,11,12,13])]
@[go_sem] def dZ:List (Nat × List Nat):=[(1,[10,11]),(4,[16,17,18]),(5,[19,20,21,22,23,24,25,26,27,28,29,30,31,32,33,34,35,36,37,38,39,40,41,42,43,44,45,46,47,48,49,50,51]),(7,[53,54,55,56,57,58]),(8,[59,60,61,62,63,64,65]),(10,[67]),(11,[69,70,71,72,73,74]),(12,[75]),(13,[76,77,78,79])]
@[go_sem] def yM:List (Nat × List Nat):=[(1,[9,10]),(2,[11,12,13,14])]
@[go_sem] def zz:List (Nat × List Nat):=[(1,[10,11]),(2,[12,13,14,15,16,17,18,19]),(3,[20])]
@[go_sem] def yO:List (Nat × List Nat):=[(1,[7,8,9,10,11,12])]
@[go_sem] def zM:List (Nat × List Nat):=[(1,[6,7,8,9]),(4,[11,12,13]),(5,[15,16]),(6,[17,18,19,20,21,22,23,24,25])]
@[go_sem] def zK:List (Nat × List Nat):=[(1,[6,7,8,9]),(4,[11,12,13]),(5,[15,16]),(6,[17,18,19,20,21,22,23,24])]
@[go_sem] def Ac:List (Nat × List Nat):=[(1,[6,7,8,9]),(4,[11,12,13]),(5,[15,16]),(6,[17,18,19,20,21,22,23,24,25])]
@[go_sem] def Ax:List (Nat × List Nat):=[(1,[5,6,7,8,9]),(3,[11,12,13,14,15])]
@[go_sem] def zA:List (Nat × List Nat):=[(1,[5,6,7,8]),(3,[10,11,12,13]),(5,[15,16,17,18])]
@[go_sem] def jX:List (Nat × List Nat):=[(1,[5,6,7,8,9,10,11,12])]
@[go_sem] def Ah:List (Nat × List Nat):=[(1,[5,6,7,8]),(3,[10,11,12,13]),(5,[15,16,17,18]),(7,[20,21,22,23]),(9,[25,26,27,28])]
@[go_sem] def zZ:List (Nat × List Nat):=[(4,[13,14,15]),(5,[16]),(7,[21,22,23]),(9,[24]),(10,[26,27]),(11,[28,29]),(12,[31,32,33,34,35,36,37]),(13,[38]),(14,[39]),(15,[40])]
@[go_sem] def Ae:List (Nat × List Nat):=[(1,[9]),(4,[14,15,16]),(5,[17]),(7,[22,23,24]),(9,[25]),(10,[27,28]),(11,[29,30]),(12,[32,33,34,35,36,37,38]),(13,[39]),(14,[40]),(15,[41])]
@[go_sem] def Ak:List (Nat × List Nat):=[(2,[6,7,8]),(3,[10,11]),(4,[12,13,14,15,16,17]),(5,[18,19]),(6,[20,21,22,23,24]),(7,[25,26]),(8,[27,28,29,30,31]),(9,[32,33]),(10,[34,35,36,37,38]),(11,[39,40]),(12,[41])]
@[go_sem] def z6:List (Nat × List Nat):=[(2,[6,7,8]),(3,[10,11]),(4,[12,13,14,15]),(5,[16,17]),(6,[18])]
@[go_sem] def Ai:List (Nat × List Nat):=[(2,[6,7,8]),(3,[10,11]),(4,[12,13,14,15,16,17,18]),(5,[19,20,21,22,23,24,25]),(6,[26,27,28,29,30,31,32]),(7,[33,34]),(8,[35])]
@[go_sem] def zX:List (Nat × List Nat):=[(1,[5,6,7,8]),(2,[9,10,11,12]),(3,[13])]
@[go_sem] def z1:List (Nat × List Nat):=[(2,[6,7,8]),(3,[10,11]),(4,[12,13,14,15,16]),(6,[18,19]),(7,[20])]
@[go_sem] def pm:List (Nat × List Nat):=[(1,[6,7,8]),(2,[9,10]),(3,[11,12]),(4,[14]),(5,[15,16,17,18])]
@[go_sem] def tp:List (Nat × List Nat):=[(3,[9,10]),(4,[11,12]),(6,[14]),(7,[15,16,17])]
@[go_sem] def tg:List (Nat × List Nat):=[(3,[9,10]),(4,[11,12]),(6,[14]),(7,[15,16,17])]
@[go_sem] def jg:List (Nat × List Nat):=[(1,[8,9,10,11,12,13]),(2,[14,15,16,17,18]),(3,[19]),(4,[21,22,23]),(5,[24,25])]
@[go_sem] def yD:List (Nat × List Nat):=[(1,[3,4,5])]
@[go_sem] def dI:List (Nat × List Nat):=[(2,[13,14]),(3,[15,16]),(4,[17]),(5,[19,20,21]),(7,[22,23,24,25,26,27,28]),(8,[30,31]),(9,[32,33,34,35,36,37,38,39,40]),(10,[10,41,42,43,44,45,46]),(11,[47,48,49,50,51,52,53,54,55]),(12,[57]),(13,[58,59,60,61]),(14,[62,63]),(15,[65,66,67,68,69,70]),(16,[71]),(17,[74]),(18,[75,76,77,78,79,80]),(19,[82]),(20,[83,84,85,86,87,88]),(21,[90]),(22,[91,92,93,94,95,96,97,98]),(23,[99])]
@[go_sem] def nC:List (Nat × List Nat):=[(1,[6,7,8,9]),(3,[11]),(5,[15]),(6,[16,17,18,19,20,21,22,23]),(8,[25])]
@[go_sem] def u6:List (Nat × List Nat):=[(1,[5,6,7,8,9,10,11,12,13,14,15])]
@[go_sem] def ng:List (Nat × List Nat):=[(1,[6,7,8,9]),(3,[11]),(5,[15]),(6,[16,17,18,19,20,21,22,23,24,25,26]),(8,[28])]
@[go_sem] def fR:List (Nat × List Nat):=[(1,[6]),(4,[11,12]),(5,[13,14,15,16,17]),(6,[18]),(7,[19])]
@[go_sem] def s_:List (Nat × List Nat):=[(1,[3,4,5,6,7,8,9])]
@[go_sem] def sM:List (Nat × List Nat):=[(1,[5,6,7,8,9,10,11,12,13,14,15])]
@[go_sem] def k5:List (Nat × List Nat):=[(1,[6,7,8,9]),(3,[11]),(5,[15]),(6,[16,17,18,19,20,21,22,23,24,25,26]),(8,[28])]
@[go_sem] def x9:List (Nat × List Nat):=[(1,[5,6,7,8,9,10,11,12,13,14,15,16])]
@[go_sem] def wf:List (Nat × List Nat):=[(1,[10,11,12,13,14,15,16,17]),(3,[9,19,20,21,22,23,24,25]),(4,[26,27,28,29])]
@[go_sem] def y8:List (Nat × List Nat):=[(1,[8,9,10]),(2,[11,12,13,14,15]),(3,[16,17,18,19])]
@[go_sem] def o7:List (Nat × List Nat):=[(1,[9,10,11,12,13,14]),(2,[15,16,17,18,19,20,21,22])]
@[go_sem] def yd:List (Nat × List Nat):=[(1,[6]),(3,[8,9]),(4,[10]),(5,[12,13,14,15,16]),(6,[17,18,19])]
@[go_sem] def zd:List (Nat × List Nat):=[(1,[10,11,12]),(2,[13,14,15,16,17,18]),(3,[19,20,21,22,23])]
@[go_sem] def v9:List (Nat × List Nat):=[(1,[5,6,7,8,9,10,11])]
@[go_sem] def yc:List (Nat × List Nat):=[(1,[7,8,9,10,11,12,13,14])]
@[go_sem] def yi:List (Nat × List Nat):=[(1,[7,8,9,10,11,12,13,14])]
@[go_sem] def yl:List (Nat × List Nat):=[(1,[3,4])]
@[go_sem] def zc:List (Nat × List Nat):=[(1,[7]),(4,[11]),(5,[12,13]),(6,[15,16,17,18]),(7,[19]),(8,[20])]
@[go_sem] def y3:List (Nat × List Nat):=[(1,[6,7,8,9,10,11,12,13,14])]
@[go_sem] def y5:List (Nat × List Nat):=[(1,[5,6,7,8,9]),(2,[10]),(4,[12])]
@[go_sem] def y_:List (Nat × List Nat):=[(1,[5,6,7,8]),(2,[9]),(4,[11,12,13,14]),(5,[15]),(7,[17])]
@[go_sem] def y6:List (Nat × List Nat):=[(1,[6,7,8,9]),(2,[10]),(5,[12,13,14]),(6,[16,17]),(7,[18,19,20,21,22,23]),(8,[24]),(10,[26])]
@[go_sem] def x2:List (Nat × List Nat):=[(1,[3,4])]
@[go_sem] def jA:List (Nat × List Nat):=[(4,[10,11]),(5,[12,13,14,15,16,17,18,19,20,21,22,23]),(6,[24]),(7,[25])]
@[go_sem] def v4:List (Nat × List Nat):=[(1,[7,8,9,10,11,12,13,14,15,16,17,18,19,20,21,22])]
@[go_sem] def wm:List (Nat × List Nat):=[(1,[10,11,12,13,14,15,16,17,18,19,20,21,22,23]),(2,[24,25,26,27,28,29,30,31,32,33])]
@[go_sem] def zh:List (Nat × List Nat):=[(2,[4,5,6]),(3,[7,8,9]),(4,[10,11,12]),(5,[13,14,15]),(6,[16])]
@[go_sem] def zf:List (Nat × List Nat):=[(2,[4,5,6,7]),(3,[8,9,10,11]),(4,[12,13,14]),(5,[15])]
@[go_sem] def zb:List (Nat × List Nat):=[(1,[5,6,7]),(3,[8,9,10]),(4,[12,13]),(5,[14,15,16,17,18,19,20,21]),(6,[22])]
@[go_sem] def xD:List (Nat × List Nat):=[(1,[3,4])]
@[go_sem] def vJ:List (Nat × List Nat):=[(1,[7,8,9,10,11,12,13,14,15,16,17,18,19,20,21,22])]
@[go_sem] def xC:List (Nat × List Nat):=[(1,[3,4])]
@[go_sem] def wi:List (Nat × List Nat):=[(1,[10,11,12,13,14,15,16,17,18,19,20,21,22,23,24]),(2,[25,26,27,28,29,30,31,32,33,34])]
@[go_sem] def zi:List (Nat × List Nat):=[(1,[5,6,7,8]),(3,[10,11,12,13]),(5,[15,16,17,18]),(7,[20,21,22,23])]
@[go_sem] def zg:List (Nat × List Nat):=[(1,[5,6,7,8,9]),(3,[11,12,13,14,15]),(5,[17,18,19,20])]
@[go_sem] def fw:List (Nat × List Nat):=[(1,[8]),(2,[9]),(4,[14,15]),(5,[16,17,18,19,20,21,22]),(6,[23]),(7,[24]),(9,[29,30]),(10,[31,32,33,34,35,36,37]),(11,[38]),(12,[39])]
@[go_sem] def ze:List (Nat × List Nat):=[(1,[4]),(4,[6]),(5,[8,9,10,11,12,13,14,15]),(6,[16,17]),(7,[18,19])]
@[go_sem] def y9:List (Nat × List Nat):=[(2,[6,7,8]),(3,[10,11]),(4,[12,13,14,15,16]),(5,[17,18]),(6,[19])]
@[go_sem] def d9:List (Nat × List Nat):=[(2,[7,8]),(3,[9]),(4,[11,12]),(5,[13,14]),(6,[15,16,17,18,19]),(7,[21,22,23,24]),(8,[25]),(9,[27,28,29]),(10,[30,31,32]),(11,[34,35,36,37,38,39]),(12,[40])]
@[go_sem] def mq:List (Nat × List Nat):=[(1,[5]),(3,[10,11]),(4,[12,13]),(6,[15]),(7,[16,17,18,19,20,21,22,23,24,25,26,27,28,29,30,31,32,33])]
@[go_sem] def mP:List (Nat × List Nat):=[(1,[5]),(3,[10,11]),(4,[12,13]),(6,[15]),(7,[16,17,18,19,20,21,22,23,24,25,26,27,28,29,30,31,32,33])]
@[go_sem] def dl:List (Nat × List Nat):=[(1,[11,12,13,14,15]),(2,[16]),(3,[18,19,20,21,22]),(4,[23]),(6,[27]),(7,[28,29,30,31,32]),(9,[36]),(10,[37]),(11,[39,40,41,42,43,44,45,46,47]),(12,[48]),(13,[49]),(14,[50,51,52,53,54,55]),(15,[57,58,59,60,61,62,63,64]),(16,[65,66,67]),(17,[68,69,70]),(18,[71]),(19,[73,74,75,76]),(20,[77,78,79,80,81])]
@[go_sem] def pe:List (Nat × List Nat):=[(1,[3,4,5,6,7,8,9,10,11,12])]
@[go_sem] def xI:List (Nat × List Nat):=[(1,[5,6,7,8])]
@[go_sem] def kH:List (Nat × List Nat):=[(1,[4,5]),(2,[6]),(3,[9]),(4,[10,11,12,13]),(5,[15]),(6,[16,17,18,19]),(7,[21]),(8,[22,23,24,25]),(9,[26])]
@[go_sem] def oO:List (Nat × List Nat):=[(1,[7,8,9,10,11,12,13,14,15,16,17,18])]
@[go_sem] def x4:List (Nat × List Nat):=[(1,[3,4,5,6,7,8,9,10,11,12,13,14,15])]
@[go_sem] def kJ:List (Nat × List Nat):=[(1,[6,7,8,9]),(3,[11]),(5,[15]),(6,[16,17,18,19,20,21,22,23]),(8,[25])]
@[go_sem] def tH:List (Nat × List Nat):=[(1,[3,4,5,6,7,8,9,10,11,12])]
@[go_sem] def kW:List (Nat × List Nat):=[(1,[6]),(4,[11,12]),(5,[13,14,15,16,17]),(6,[18]),(7,[19])]
@[go_sem] def tq:List (Nat × List Nat):=[(1,[7,8,9,10,11,12,13,14,15])]
@[go_sem] def xV:List (Nat × List Nat):=[(1,[3,4,5,6,7,8,9,10,11,12,13,14,15])]
@[go_sem] def kG:List (Nat × List Nat):=[(1,[6,7,8,9]),(3,[11]),(5,[15]),(6,[16,17,18,19,20,21,22,23]),(8,[25])]
@[go_sem] def vT:List (Nat × List Nat):=[(1,[7,8]),(3,[5,10,11,12,13,14,15]),(4,[16])]
@[go_sem] def fx:List (Nat × List Nat):=[(1,[12,13,14,15,16,17,18,19,20,21]),(4,[26,27,28]),(5,[29,30,31,32,33,34,35,36,37,38,39,40,41,42,43,44,45,46]),(7,[48,49,50]),(8,[52,53,54]),(9,[55]),(10,[56,57,58,59])]
@[go_sem] def mN:List (Nat × List Nat):=[(1,[7,8,9,10,11,12]),(2,[14,15,16,17,18,19]),(3,[20,21,22,23]),(4,[24,25,26,27,28,29,30,31,32])]
@[go_sem] def pc:List (Nat × List Nat):=[(2,[4,5,6,7,8,9,10,11,12]),(3,[14,15,16,17,18,19,20,21,22,23,24]),(4,[25,26,27,28,29,30,31]),(5,[32,33,34,35,36,37,38,39,40,41,42,43]),(6,[44,45,46,47,48,49,50,51,52]),(7,[54]),(8,[55,56,57,58,59,60,61])]
@[go_sem] def za:List (Nat × List Nat):=[(1,[14,15,16,17,18]),(2,[19,20,21,22]),(3,[23,24,25]),(4,[27,28,29]),(5,[30,31]),(7,[36,37]),(8,[38,39,40,41]),(9,[42,43,44,45,46,47,48,49,50,51,52]),(10,[53]),(11,[54,55]),(13,[60,61]),(14,[62,63,64,65]),(15,[66,67,68,69,70,71,72,73,74,75,76,77]),(16,[78]),(17,[79]),(18,[82]),(19,[83,84,85]),(20,[87]),(21,[88,89,90,91,92,93]),(22,[94,95,96])]
@[go_sem] def y4:List (Nat × List Nat):=[(1,[6,7,8,9]),(2,[10]),(5,[12,13,14]),(6,[16,17]),(7,[18,19,20,21,22,23,24]),(8,[25]),(10,[27])]
@[go_sem] def x5:List (Nat × List Nat):=[(1,[3,4,5])]
@[go_sem] def xT:List (Nat × List Nat):=[(1,[3,4,5])]
@[go_sem] def yh:List (Nat × List Nat):=[(1,[5,6,7,8,9,10,11])]
@[go_sem] def x8:List (Nat × List Nat):=[(1,[7,8,9,10,11,12])]
@[go_sem] def vS:List (Nat × List Nat):=[(1,[5,6,7,8,9,10,11,12,13,14,15,16])]
@[go_sem] def yj:List (Nat × List Nat):=[(1,[5,6]),(2,[8]),(3,[9])]
@[go_sem] def zj:List (Nat × List Nat):=[(1,[5,6,7]),(3,[8,9,10]),(4,[12,13]),(5,[14,15,16,17,18,19,20]),(6,[21])]
@[go_sem] def xZ:List (Nat × List Nat):=[(1,[5,6,7,8,9,10,11])]
@[go_sem] def xR:List (Nat × List Nat):=[(1,[7,8,9,10,11,12])]
@[go_sem] def sm:List (Nat × List Nat):=[(4,[10,11]),(5,[12,13,14]),(6,[15]),(7,[16])]
@[go_sem] def wh:List (Nat × List Nat):=[(1,[5,6,7,8,9,10,11,12,13,14,15])]
@[go_sem] def y7:List (Nat × List Nat):=[(1,[6,7,8,9]),(4,[11,12,13]),(5,[15,16]),(6,[17,18,19,20,21,22,23,24])]
@[go_sem] def eo:List (Nat × List Nat):=[(1,[5,6,7]),(2,[8]),(3,[11]),(4,[12,13,14,15,16,17]),(5,[19]),(6,[20,21,22,23,24,25]),(7,[27]),(8,[28,29,30,31,32]),(9,[34]),(10,[35,36,37]),(11,[38,39,40,41]),(12,[43,44,45,46,47]),(13,[48,49,50,51,52]),(14,[54]),(15,[55]),(16,[56])]
@[go_sem] def x6:List (Nat × List Nat):=[(1,[3,4])]
@[go_sem] def oQ:List (Nat × List Nat):=[(3,[13,14]),(4,[15,16,17,18]),(6,[20])]
@[go_sem] def oV:List (Nat × List Nat):=[(2,[4,5,6]),(3,[8,9]),(4,[10,11,12,13]),(6,[15,16,17])]
@[go_sem] def pa:List (Nat × List Nat):=[(3,[13,14]),(4,[15,16,17,18]),(6,[20])]
@[go_sem] def dM:List (Nat × List Nat):=[(1,[11,12]),(2,[13]),(3,[15,16]),(5,[20]),(6,[21,22,23,24]),(7,[25]),(9,[26,27,28]),(10,[29]),(11,[31,32]),(12,[33]),(13,[34,35,36]),(14,[37,38,39,40]),(15,[42,43,44,45,46,47,48,49,50,51,52,53,54,55,56]),(16,[57,58,59,60,61]),(17,[62,63,64,65,66,67]),(18,[68,69,70,71,72,73]),(19,[75]),(20,[76,77])]
@[go_sem] def cS:List (Nat × List Nat):=[(1,[7]),(2,[9,10,11,12]),(3,[13,14,15,16,17]),(4,[18,19,20,21,22,23]),(5,[25,26,27]),(6,[28,29,30,31]),(7,[32]),(8,[35]),(9,[36,37,38,39,40,41,42,43]),(10,[45]),(11,[46,47,48,49,50,51,52,53,54,55]),(12,[57]),(13,[58,59,60,61,62,63,64,65,66,67,68]),(14,[70]),(15,[71,72,73,74,75,76,77]),(16,[79]),(17,[80]),(18,[81,82,83,84,85,86,87,88,89,90]),(19,[92]),(20,[93,94]),(21,[95,96])]
@[go_sem] def yp:List (Nat × List Nat):=[(1,[5,6]),(2,[8]),(3,[9])]
@[go_sem] def eM:List (Nat × List Nat):=[(1,[11]),(2,[12,13]),(3,[14,15,16,17]),(4,[19,20,21]),(6,[22,23,24]),(7,[26,27,28,29,30,31,32,33,34,35]),(8,[36,37,38,39,40,41]),(9,[42,43,44]),(10,[46,47]),(12,[48,49,50]),(13,[52,53,54,55,56,57,58,59]),(14,[60,61,62,63,64,65]),(15,[66])]
@[go_sem] def cD:List (Nat × List Nat):=[(1,[10,11,12]),(2,[13,14,15,16]),(3,[17]),(4,[20]),(5,[21]),(6,[23,24,25,26,27,28,29,30,31,32,33,34]),(7,[36]),(8,[37,38,39,40,41,42,43,44,45,46,47]),(9,[49]),(10,[50]),(11,[52,53,54]),(12,[55,56,57,58,59,60,61,62,63,64,65]),(13,[67]),(14,[68,69,70,71,72,73,74,75,76]),(15,[78]),(16,[79,80,81,82,83,84,85,86]),(17,[88]),(18,[89,90,91]),(19,[92]),(20,[93,94]),(22,[98]),(23,[99,100,101,102,103,104]),(24,[105]),(25,[107]),(26,[108]),(27,[109])]
@[go_sem] def eu:List (Nat × List Nat):=[(1,[5,6,7,8,9,10,11,12,13,14,15,16,17,18,19,20]),(3,[22,23,24,25,26,27,28,29,30,31,32,33,34,35,36,37,38,39,40,41,42]),(5,[44]),(7,[49,50,51]),(8,[52,53,54,55,56,57,58,59,60,61,62,63,64,65,66,67,68,69,70,71,72]),(10,[74,75,76,77,78,79,80,81,82,83,84,85,86]),(12,[88])]
@[go_sem] def sk:List (Nat × List Nat):=[(1,[7,8,9,10,11,12,13,14,15])]
@[go_sem] def yf:List (Nat × List Nat):=[(1,[3,4,5])]
@[go_sem] def pb:List (Nat × List Nat):=[(1,[5,6,7,8,9,10,11,12,13,14,15])]
@[go_sem] def v7:List (Nat × List Nat):=[(1,[5,6,7,8,9,10,11,12,13])]
@[go_sem] def cH:List (Nat × List Nat):=[(1,[7,8,9,10,11,12,13,14,15,16,17,18,19,20,21,22,23,24,25,26,27,28,29,30,31,32,33]),(3,[35,36,37,38,39]),(4,[40]),(5,[42,43,44,45,46,47,48,49,50,51,52,53,54,55,56,57,58,59,60,61,62,63,64,65,66]),(6,[67,68,69,70,71]),(7,[72]),(8,[73,74,75,76,77,78,79,80,81,82,83,84,85,86]),(9,[87,88,89,90,91])]
@[go_sem] def iJ:List (Nat × List Nat):=[(1,[8,9,10,11,12,13,14,15,16]),(3,[18,19,20,21,22]),(4,[23]),(6,[28,29]),(7,[30,31,32]),(9,[34]),(10,[35]),(12,[40,41]),(13,[42,43,44]),(15,[46]),(16,[47,48])]
@[go_sem] def tE:List (Nat × List Nat):=[(4,[10,11]),(5,[12,13,14]),(6,[15]),(7,[16])]
@[go_sem] def tj:List (Nat × List Nat):=[(2,[9]),(4,[13]),(5,[14,15,16,17,18,19,20,21]),(6,[22]),(7,[23])]
@[go_sem] def ya:List (Nat × List Nat):=[(1,[5,6,7,8,9,10,11])]
@[go_sem] def s6:List (Nat × List Nat):=[(3,[8]),(5,[10]),(7,[11,12,13,14])]
@[go_sem] def sR:List (Nat × List Nat):=[(3,[7,8]),(4,[10,11]),(5,[12,13,14,15,16,17,18,19]),(6,[20])]
@[go_sem] def xG:List (Nat × List Nat):=[(1,[3,4,5,6])]
@[go_sem] def sQ:List (Nat × List Nat):=[(1,[9]),(2,[10]),(4,[14]),(5,[15,16,17,18,19,20,21,22]),(6,[23]),(7,[24])]
@[go_sem] def yv:List (Nat × List Nat):=[(1,[5,6,7,8,9,10,11])]
@[go_sem] def gJ:List (Nat × List Nat):=[(2,[10,11]),(4,[13,14]),(7,[15]),(9,[20,21]),(10,[22,23,24,25,26]),(11,[27]),(12,[28])]
@[go_sem] def yq:List (Nat × List Nat):=[(1,[5,6,7,8,9,10,11,12,13,14,15])]
@[go_sem] def xB:List (Nat × List Nat):=[(1,[3,4,5,6])]
@[go_sem] def fB:List (Nat × List Nat):=[(1,[7,8,9]),(2,[10,11,12,13]),(3,[14]),(4,[16,17]),(5,[18,19,20,21,22,23,24,25]),(6,[26,27,28,29,30,31,32,33]),(7,[34]),(8,[36,37,38,39,40,41,42,43]),(9,[44,45,46,47,48]),(10,[49])]
@[go_sem] def wg:List (Nat × List Nat):=[(1,[5,6,7,8,9,10,11])]
@[go_sem] def pf:List (Nat × List Nat):=[(2,[4,5,6]),(3,[8,9]),(4,[10,11,12,13,14,15,16,17,18,19,20,21,22,23,24,25,26,27,28,29,30]),(6,[32,33,34])]
@[go_sem] def xN:List (Nat × List Nat):=[(1,[3,4,5,6,7,8,9,10,11,12,13,14,15,16])]
@[go_sem] def fy:List (Nat × List Nat):=[(1,[9,10,11,12,13,14,15,16,17,18,19,20,21]),(3,[22]),(4,[24,25]),(5,[26,27,28,29,30,31,32,33]),(8,[38,39,40]),(9,[41,42,43,44,45]),(10,[47,48,49,50,51,52,53,54,55,56,57,58,59,60]),(11,[61]),(12,[62]),(13,[64]),(16,[69,70]),(17,[71,72,73,74,75,76,77,78,79,80,81,82]),(18,[83]),(19,[84])]
@[go_sem] def kM:List (Nat × List Nat):=[(1,[5,6]),(2,[7]),(4,[11]),(5,[12,13,14,15,16,17,18,19,20]),(6,[21]),(7,[22])]
@[go_sem] def sU:List (Nat × List Nat):=[(1,[5,6,7,8,9,10,11,12,13,14])]
@[go_sem] def gM:List (Nat × List Nat):=[(1,[9,10]),(3,[11,12,13]),(6,[18,19,20]),(7,[21,22,23,24,25,26,27,28,29,30,31,32]),(8,[33,34]),(9,[36,37,38,39,40,41,42]),(10,[43]),(11,[44,45,46])]
@[go_sem] def cF:List (Nat × List Nat):=[(1,[7,8]),(2,[9,10,11,12,13]),(3,[14]),(4,[17]),(5,[18,19,20,21,22,23,24,25]),(6,[27]),(7,[28,29,30,31,32,33,34,35]),(8,[37]),(9,[38,39,40,41,42,43,44,45]),(10,[47]),(11,[48,49,50,51,52,53,54,55]),(12,[57]),(13,[58,59,60,61,62,63,64,65]),(14,[67]),(15,[68,69,70,71,72]),(16,[74]),(17,[75,76,77,78]),(18,[80]),(19,[81,82,83,84]),(20,[86]),(21,[87,88,89,90]),(22,[92]),(23,[93,94,95,96]),(24,[98]),(25,[99]),(26,[101]),(27,[102]),(28,[103,104]),(30,[109,110]),(31,[111,112,113,114,115,116,117]),(32,[118]),(33,[119])]
@[go_sem] def xJ:List (Nat × List Nat):=[(1,[1])]
@[go_sem] def xF:List (Nat × List Nat):=[(1,[3,4,5])]
@[go_sem] def xY:List (Nat × List Nat):=[(1,[3,4,5,6,7])]
@[go_sem] def xM:List (Nat × List Nat):=[(1,[3,4])]
@[go_sem] def kT:List (Nat × List Nat):=[(3,[13,14]),(4,[15]),(6,[20,21]),(7,[22,23,24]),(9,[26]),(10,[27])]
@[go_sem] def vK:List (Nat × List Nat):=[(1,[5,6,7,8,9,10,11,12,13])]
@[go_sem] def fi:List (Nat × List Nat):=[(1,[5]),(3,[10,11,12]),(4,[13,14,15,16,17,18,19,20,21,22,23,24,25,26,27,28,29,30]),(6,[32]),(7,[33,34,35,36,37,38,39,40,41,42,43,44,45,46,47,48,49,50,51,52,53,54,55,56,57,58,59,60,61,62,63,64,65,66,67])]
@[go_sem] def kI:List (Nat × List Nat):=[(3,[13,14]),(4,[15]),(6,[20,21]),(7,[22,23,24]),(9,[26]),(10,[27])]
@[go_sem] def gU:List (Nat × List Nat):=[(3,[13,14]),(4,[15,16,17,18,19]),(6,[21]),(8,[23,24,25,26,27,28,29,30]),(9,[31,32,33,34,35,36,37,38])]
@[go_sem] def wj:List (Nat × List Nat):=[(1,[9,10,11,12,13,14,15,16,17])]
@[go_sem] def wd:List (Nat × List Nat):=[(1,[6,7,8]),(2,[9,10,11]),(3,[13,14]),(4,[15])]
@[go_sem] def sN:List (Nat × List Nat):=[(2,[7,8]),(4,[12]),(5,[13,14,15,16,17,18,19,20]),(6,[21]),(7,[22])]
@[go_sem] def v8:List (Nat × List Nat):=[(1,[9,10,11,12,13,14,15,16,17,18,19,20,21,22])]
@[go_sem] def vR:List (Nat × List Nat):=[(1,[6,7,8]),(2,[9,10,11]),(3,[13,14]),(4,[15])]
@[go_sem] def tD:List (Nat × List Nat):=[(1,[6]),(2,[7]),(4,[12,13]),(5,[14,15,16,17,18]),(6,[19]),(7,[20])]
@[go_sem] def tM:List (Nat × List Nat):=[(1,[5,6,7,8,9,10])]
@[go_sem] def mQ:List (Nat × List Nat):=[(3,[7]),(4,[9,10]),(5,[11,12,13,14]),(6,[16,17,18,19]),(7,[20])]
@[go_sem] def xP:List (Nat × List Nat):=[(1,[5,6,7,8])]
@[go_sem] def gi:List (Nat × List Nat):=[(1,[7,8,9,10,11,12,13,14,15,16,17,18,19,20,21,22,23,24]),(3,[26]),(5,[31,32]),(6,[33,34,35,36,37,38,39,40,41]),(8,[43]),(9,[44]),(11,[49,50]),(12,[51,52,53,54,55,56,57,58]),(14,[60])]
@[go_sem] def vW:List (Nat × List Nat):=[(1,[3,4,5,6,7,8,9,10,11,12,13,14,15,16,17,18,19,20])]
@[go_sem] def oT:List (Nat × List Nat):=[(1,[7]),(3,[12,13,14]),(4,[15,16,17]),(5,[19]),(6,[20])]
@[go_sem] def vI:List (Nat × List Nat):=[(1,[9,10,11,12,13,14,15,16,17,18])]
@[go_sem] def yg:List (Nat × List Nat):=[(1,[7,8,9,10,11,12,13,14,15]),(2,[16,17,18])]
@[go_sem] def kX:List (Nat × List Nat):=[(1,[9,10,11,12,13,14,15,16,17]),(2,[19,20,21,22]),(3,[23]),(4,[25,26,27,28]),(5,[29,30,31])]
@[go_sem] def o9:List (Nat × List Nat):=[(1,[11,12,13,14]),(3,[16,17,18,19,20]),(4,[21,22,23,24,25,26,27,28,29,30,31])]
@[go_sem] def yk:List (Nat × List Nat):=[(1,[5,6,7,8,9]),(2,[10,11,12])]
@[go_sem] def fg:List (Nat × List Nat):=[(2,[13]),(3,[14,15,16]),(4,[18]),(5,[19,20]),(6,[22]),(7,[23,24,25,26,27]),(8,[28,29,30,31,32,33]),(9,[35]),(10,[36,37]),(12,[42,43,44]),(13,[45,46,47,48,49,50]),(15,[52]),(17,[54]),(18,[55,56]),(19,[57,58,59,60])]
@[go_sem] def tt:List (Nat × List Nat):=[(1,[6]),(3,[10]),(4,[11,12,13,14,15]),(5,[17]),(6,[18])]
@[go_sem] def yr:List (Nat × List Nat):=[(1,[4,5,6,7])]
@[go_sem] def yb:List (Nat × List Nat):=[(1,[3,4,5,6,7])]
@[go_sem] def xL:List (Nat × List Nat):=[(1,[5,6,7,8])]
@[go_sem] def yu:List (Nat × List Nat):=[(1,[3,4,5])]
@[go_sem] def vY:List (Nat × List Nat):=[(1,[3,4,5,6,7,8,9])]
@[go_sem] def oY:List (Nat × List Nat):=[(2,[4,5,6]),(3,[8,9]),(4,[10,11,12,13,14,15,16,17,18,19,20,21,22,23,24,25,26,27,28,29,30]),(6,[32,33,34])]
@[go_sem] def kY:List (Nat × List Nat):=[(1,[9,10,11,12,13,14]),(2,[15,16,17]),(3,[19,20,21,22]),(4,[23]),(5,[25,26,27,28]),(6,[29,30,31])]
@[go_sem] def oW:List (Nat × List Nat):=[(1,[11,12,13,14]),(3,[16,17,18,19,20]),(4,[21,22,23,24,25,26,27,28,29,30,31])]
@[go_sem] def oP:List (Nat × List Nat):=[(1,[6,7]),(2,[8,9]),(3,[11,12,13]),(4,[14,15]),(5,[16,17,18,19,20,21,22,23,24,25,26,27,28,29,30])]
@[go_sem] def gq:List (Nat × List Nat):=[(2,[8,9]),(4,[14,15]),(5,[16,17,18,19,20,21,22,23,24,25,26,27,28,29,30,31,32,33]),(6,[35,36]),(7,[37]),(8,[38])]
@[go_sem] def v6:List (Nat × List Nat):=[(1,[6,7,8,9]),(2,[10]),(3,[12,13,14,15,16,17]),(4,[18])]
@[go_sem] def wk:List (Nat × List Nat):=[(1,[4,5]),(2,[7,8,9,10]),(3,[11,12,13,14,15,16,17,18,19,20,21])]
@[go_sem] def xW:List (Nat × List Nat):=[(1,[5,6,7,8])]
@[go_sem] def oR:List (Nat × List Nat):=[(3,[9,10]),(4,[11,12,13]),(6,[15])]
@[go_sem] def mW:List (Nat × List Nat):=[(4,[12,13]),(5,[14,15,16]),(6,[18,19]),(7,[20,21,22]),(8,[24,25]),(9,[26]),(10,[27,28])]
@[go_sem] def o_:List (Nat × List Nat):=[(1,[9]),(4,[14,15]),(5,[16,17,18]),(6,[19]),(7,[21,22,23,24,25,26]),(8,[27]),(9,[28])]
@[go_sem] def tT:List (Nat × List Nat):=[(3,[9,10,11]),(4,[12,13,14,15,16,17,18]),(6,[20])]
@[go_sem] def jb:List (Nat × List Nat):=[(3,[15,16]),(4,[17]),(6,[22,23]),(7,[24,25,26,27,28,29]),(9,[31]),(10,[32])]
@[go_sem] def tx:List (Nat × List Nat):=[(1,[6]),(3,[10]),(4,[11,12,13,14,15]),(5,[17]),(6,[18])]
@[go_sem] def jw:List (Nat × List Nat):=[(2,[8]),(4,[13,14,15]),(5,[16,17,18,19,20,21,22,23,24,25]),(6,[26]),(7,[27]),(8,[29,30,31,32,33,34]),(9,[35])]
@[go_sem] def gj:List (Nat × List Nat):=[(2,[8,9]),(4,[14,15]),(5,[16,17,18,19,20,21,22,23,24,25,26,27,28,29,30,31,32,33]),(6,[35,36]),(7,[37]),(8,[38])]
@[go_sem] def mZ:List (Nat × List Nat):=[(2,[8]),(4,[13,14,15]),(5,[16,17,18,19,20,21,22,23,24,25]),(6,[26]),(7,[27])]
@[go_sem] def iH:List (Nat × List Nat):=[(4,[11,12]),(5,[13,14]),(6,[15,16,17,18,19,20,21,22,23,24]),(7,[26,27]),(8,[28,29,30,31,32,33,34,35,36,37,38,39]),(9,[40]),(10,[41])]
@[go_sem] def mJ:List (Nat × List Nat):=[(1,[8]),(2,[9]),(4,[14,15,16]),(5,[17,18,19,20,21,22,23,24,25,26,27,28,29,30,31,32,33]),(6,[34]),(7,[35])]
@[go_sem] def sC:List (Nat × List Nat):=[(1,[5,6]),(2,[8]),(3,[9,10,11]),(5,[12,13,14]),(6,[16,17]),(7,[18,19,20,21,22,23]),(8,[24])]
@[go_sem] def td:List (Nat × List Nat):=[(1,[5,6]),(2,[8]),(3,[9,10,11]),(5,[12,13,14]),(6,[16,17]),(7,[18,19,20,21,22,23]),(8,[24])]
@[go_sem] def oU:List (Nat × List Nat):=[(1,[6,7,8,9,10,11]),(2,[12]),(4,[14,15,16,17,18,19])]
@[go_sem] def o8:List (Nat × List Nat):=[(1,[14,15,16]),(3,[19]),(4,[20,21]),(5,[23]),(6,[24,25,26,27,28,29,30,31,32,33,34,35,36,37,38,39,40]),(7,[41,42,43,44,45,46]),(8,[47,48,49,50,51,52,53,54,55,56,57,58])]
@[go_sem] def mK:List (Nat × List Nat):=[(1,[9,10,11]),(2,[12]),(4,[14,15,16,17,18,19]),(6,[22]),(7,[23,24,25,26,27]),(8,[29]),(9,[30,31,32]),(10,[34]),(12,[35])]
@[go_sem] def oZ:List (Nat × List Nat):=[(2,[9]),(3,[10,11,12,13,14,15]),(4,[17]),(5,[18,19,20,21]),(6,[23]),(8,[24,25])]
@[go_sem] def jy:List (Nat × List Nat):=[(4,[16,17]),(5,[18]),(7,[23,24]),(8,[25,26]),(9,[28,29]),(10,[30,31,32]),(11,[34,35]),(12,[36]),(13,[37]),(14,[38,39])]
theorem aD {P:Program} {Q:Exit→AS→Prop} {s:AS} {α:Type} {c:Code} (dead:List Nat) (L:α→List (Nat × PV)) (hp:α→List (Nat × Blk)) (nx:Nat) (J:α→Prop) (μ:α→Nat) (x0:α) (h0:J x0) (hf:iM s ⟨bi (wipe s.fr dead) (L x0),hp x0,nx⟩)
  (round:∀ x,J x→PW P c (ep (fun s'=>∃ x',J x'∧μ x' < μ x∧iM s' ⟨bi (wipe s.fr dead) (L x'),hp x',nx⟩) Q) ⟨bi (wipe s.fr dead) (L x),hp x,nx⟩):PW P (.loop c) Q s:=
 wy (fun x=>⟨bi (wipe s.fr dead) (L x),hp x,nx⟩) J μ x0 h0 hf round
noncomputable def bP (p:Prop):Bool:=@decide p (Classical.propDecidable p)
theorem aQ {p:Prop} (h:p):bP p = true:=by unfold bP;exact @decide_eq_true _ (Classical.propDecidable p) h
theorem aG {p:Prop} (h:¬ p):bP p = false:=by unfold bP;exact @decide_eq_false _ (Classical.propDecidable p) h
theorem bP_iff {p:Prop}:bP p = true↔p:=by unfold bP;exact @decide_eq_true_iff p (Classical.propDecidable p)
theorem an {α β:Type} (l:List α) (f:α→β):(l.map f).length = l.length:=List.length_map ..
theorem ap {α β:Type} (l:List α) (f:α→β) (i:Nat):(l.map f)[i]? = l[i]?.map f:=List.getElem?_map ..
theorem aq {α β:Type} (a:α) (f:α→β):Option.map f (some a) = some (f a):=rfl
theorem aJ {α β:Type} (f:α→β) (a:α) (l:List α):List.map f (a::l) = f a::List.map f l:=rfl
theorem aH {α β:Type} (f:α→β):List.map f [] = []:=rfl
theorem aA (n:Nat):0 + n = n:=Nat.zero_add n
theorem aB (n:Nat):Int.toNat (n:Int) = n:=Int.toNat_natCast n
theorem aC (n:Nat):n * 1 = n:=Nat.mul_one n
theorem aR {α:Type} (a:α) (l:List α):(a::l).length = l.length + 1:=rfl
theorem aM {α:Type}:([]:List α).length = 0:=rfl
theorem cl {α:Type} (l:List α) (i:Nat) (a:α):(l.set i a).length = l.length:=List.length_set ..
theorem aI {p q:Prop} (h2:q) (h1:p:=by first|omega|(unfold jO;omega)):p∧q:=⟨h1,h2⟩
attribute [simp] t3 wc sg bi wipe wl bh bw rm kZ vl ren fl bd i3 fj mr m8 rR
end Go.Proofs.YtphakidbddamfaaGreat
