/-
  The abstract machine: one operation at a time, by its kind. No program is named here.
-/
import Derived.Test.YtafhpccanamiaaaM10
namespace Go.Proofs.Ytafhpccanamiaaa
open Go.RowKit

/-- one operation; 'q': in a region that draws its order -/
def ex2 (q : Bool) (P : Program) (G : List (Nat × TI)) (o : Oper) (s : AS) (K : AS → Prop) : Prop :=
  match q with
  | true => quietK P G o s fun v => K (s.put o.dst v)
  | false => exec P G o s K
def step1 (q : Bool) (P : Program) (G : List (Nat × TI)) (ops : Array Oper) (o : Oper) (s : AS) (K : AS → Prop) : Prop := match o.guard with
    | none => ex2 q P G o s K
    | some (j, want) => (match yB ops s j with
      | .d (.bool b) => pK (b == want) (ex2 q P G o (s.setB ops j want) K) (K ((s.setB ops j !want).put o.dst (.tup [])))
      | .tup [] => K (s.put o.dst (.tup []))
      | _ => False)
section
variable {P : Program} {G : List (Nat × TI)} {ops : Array Oper} {o : Oper} {rest : List Oper} {s : AS} {K : AS → Prop} {q : Bool}
theorem execL_step (h : ∀ K' : AS → Prop, (∀ s', execL P G ops rest K s' → K' s') → step1 false P G ops o s K') : execL P G ops (o :: rest) K s := h (execL P G ops rest K) fun _ h => h
theorem quietL_step (h : ∀ K' : AS → Prop, (∀ s', quietL P G ops rest K s' → K' s') → step1 true P G ops o s K') : quietL P G ops (o :: rest) K s := h (quietL P G ops rest K) fun _ h => h
theorem quietL_nil (h : K s) : quietL P G ops [] K s := h
theorem s_none (hg : o.guard = none) (h : ex2 q P G o s K) : step1 q P G ops o s K := by unfold step1; rw [hg]; exact h
/-- the slot that a guard asks -/
def gOf (ops : Array Oper) (o : Oper) : Option (Nat × Bool) :=
  match o.guard with
  | none => none
  | some (j, want) => (match (ops[j]?).bind (·.dst) with
    | some t => some (t, want)
    | none => none)
def AS.upl (s : AS) (t : Nat) (b : Bool) : AS := { s with fr := ⟨s.fr.n, Go.Proofs.Ytafhpccanamiaaa.upl s.fr.l t (.d (.bool b))⟩ }
def gK2 (q : Bool) (P : Program) (G : List (Nat × TI)) (o : Oper) (s : AS) (K : AS → Prop) (t : Nat) (want : Bool) (y : PV) : Prop :=
  match y with
  | .d (.bool b) => pK (b == want) (ex2 q P G o (s.upl t want) K) (K ((s.upl t !want).put o.dst (.tup [])))
  | .tup [] => K (s.put o.dst (.tup []))
  | _ => False
theorem s_some2 {t : Nat} {want : Bool} (hg : gOf ops o = some (t, want)) (h : gK2 q P G o s K t want (lk s.fr.l t)) : step1 q P G ops o s K := by
  unfold gOf at hg
  split at hg
  · cases hg
  · rename_i j w h1
    split at hg
    · rename_i t' h2
      cases hg
      unfold step1
      rw [h1]
      have e : yB ops s j = lk s.fr.l t := by unfold yB; rw [h2]
      have e2 : ∀ b, s.setB ops j b = s.upl t b := fun b => by unfold AS.setB; rw [h2]; rfl
      simp only [e, e2]
      exact h
    · cases hg
@[congr] theorem ex2_congr {s' : AS} (h : s = s') : ex2 q P G o s K = ex2 q P G o s' K := by subst h; rfl

end
attribute [go_sem] gK2 AS.upl Int.toNat_zero Nat.sub_zero exec quietK mvK binK loadK storeK idxK sliceK appendK builtinK intK arK boolK strK pK_true pK_false AS.setB beq_true beq_false Bool.not_true Bool.not_false List.getElem?_toArray List.getElem?_cons_zero List.getElem?_cons_succ Option.bind_some List.map_cons List.map_nil List.append_nil List.nil_append List.cons_append List.any_cons List.any_nil List.toList_toArray beq_self_eq_true true_and exists_eq_left' Option.some.injEq Int.toNat_natCast Bool.or_false Bool.false_or if_true List.length_map List.length_cons List.length_nil if_false List.all_cons List.all_nil Bool.and_true Bool.and_self List.take_succ_cons List.take_zero List.drop_zero List.drop_succ_cons List.replicate_succ List.replicate_zero Option.getD_none Option.getD_some AS.get AS.put ofConst yB lk rm ins upl Fr.put hget hset hdel hdels rdCells cellsPV onePV dsOf idxP lenP slP srcL ptrAdd bnd fillPV frzL frzD rowIds chunk spl isPtr TI.cells TI.size pD pDs ta0 ta1 ta2 rf0 rf1 rf2 step1 ex2 wipe wl memN hps resPV pv1 pvs Nat.add_zero Nat.zero_add BEq.rfl Bool.false_eq_true
attribute [go_sem] cont alC scP rowD setC D.scB ownC ownL ownR flatC flatL hcut hcut2 alOf rvB qPV memN
end Go.Proofs.Ytafhpccanamiaaa
