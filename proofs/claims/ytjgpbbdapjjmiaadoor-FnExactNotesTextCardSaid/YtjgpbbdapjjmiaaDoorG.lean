/-
  The table of the program's types, for the abstract machine.
-/
import Derived.Test.YtjgpbbdapjjmiaaDoorProg
import Derived.Test.YtjgpbbdapjjmiaaDoorM11
namespace Go.Proofs.YtjgpbbdapjjmiaaDoor
open Go.RowKit
def G : List (Nat × TI) := [(2, .num .i64), (3, .num .i64), (4, .bol), (5, .num .u8), (6, .num .u8), (7, .st 4 [(0, 1), (1, 1), (2, 1), (3, 1)] [.int .i64 0, .int .i64 0, .bool false, .int .u8 0]), (8, .st 4 [(0, 1), (1, 1), (2, 1), (3, 1)] [.int .i64 0, .int .i64 0, .bool false, .int .u8 0]), (9, .str), (10, .str), (11, .str), (12, .num .u64), (13, .st 2 [(0, 1), (1, 1)] [.str ⟨#[]⟩, .int .u64 0]), (14, .st 2 [(0, 1), (1, 1)] [.str ⟨#[]⟩, .int .u64 0]), (21, .num .i32), (22, .slc 3 1 8 [.int .i64 0]), (28, .slc 48 3 24 [.int .i64 0, .int .i64 0, .int .i64 0]), (32, .slc 46 3 24 [.int .i64 0, .int .i64 0, .int .i64 0]), (40, .slc 9 1 16 [.str ⟨#[]⟩]), (45, .st 3 [(0, 1), (1, 1), (2, 1)] [.int .i64 0, .int .i64 0, .int .i64 0]), (46, .st 3 [(0, 1), (1, 1), (2, 1)] [.int .i64 0, .int .i64 0, .int .i64 0]), (48, .st 3 [(0, 1), (1, 1), (2, 1)] [.int .i64 0, .int .i64 0, .int .i64 0]), (50, .slc 5 1 1 [.int .u8 0]), (88, .num .u64), (89, .arr 24 1 [.int .u8 0, .int .u8 0, .int .u8 0, .int .u8 0, .int .u8 0, .int .u8 0, .int .u8 0, .int .u8 0, .int .u8 0, .int .u8 0, .int .u8 0, .int .u8 0, .int .u8 0, .int .u8 0, .int .u8 0, .int .u8 0, .int .u8 0, .int .u8 0, .int .u8 0, .int .u8 0, .int .u8 0, .int .u8 0, .int .u8 0, .int .u8 0]), (90, .num .u64), (97, .st 2 [(0, 1), (1, 1)] [.int .u8 0, .int .u8 0]), (98, .st 2 [(0, 1), (1, 1)] [.int .u8 0, .int .u8 0]), (99, .arr 16 2 [.int .u8 0, .int .u8 0, .int .u8 0, .int .u8 0, .int .u8 0, .int .u8 0, .int .u8 0, .int .u8 0, .int .u8 0, .int .u8 0, .int .u8 0, .int .u8 0, .int .u8 0, .int .u8 0, .int .u8 0, .int .u8 0, .int .u8 0, .int .u8 0, .int .u8 0, .int .u8 0, .int .u8 0, .int .u8 0, .int .u8 0, .int .u8 0, .int .u8 0, .int .u8 0, .int .u8 0, .int .u8 0, .int .u8 0, .int .u8 0, .int .u8 0, .int .u8 0]), (100, .num .u32), (104, .arr 20 1 [.int .u64 0, .int .u64 0, .int .u64 0, .int .u64 0, .int .u64 0, .int .u64 0, .int .u64 0, .int .u64 0, .int .u64 0, .int .u64 0, .int .u64 0, .int .u64 0, .int .u64 0, .int .u64 0, .int .u64 0, .int .u64 0, .int .u64 0, .int .u64 0, .int .u64 0, .int .u64 0]), (108, .arr 32 1 [.int .u8 0, .int .u8 0, .int .u8 0, .int .u8 0, .int .u8 0, .int .u8 0, .int .u8 0, .int .u8 0, .int .u8 0, .int .u8 0, .int .u8 0, .int .u8 0, .int .u8 0, .int .u8 0, .int .u8 0, .int .u8 0, .int .u8 0, .int .u8 0, .int .u8 0, .int .u8 0, .int .u8 0, .int .u8 0, .int .u8 0, .int .u8 0, .int .u8 0, .int .u8 0, .int .u8 0, .int .u8 0, .int .u8 0, .int .u8 0, .int .u8 0, .int .u8 0]), (109, .arr 64 1 [.int .u8 0, .int .u8 0, .int .u8 0, .int .u8 0, .int .u8 0, .int .u8 0, .int .u8 0, .int .u8 0, .int .u8 0, .int .u8 0, .int .u8 0, .int .u8 0, .int .u8 0, .int .u8 0, .int .u8 0, .int .u8 0, .int .u8 0, .int .u8 0, .int .u8 0, .int .u8 0, .int .u8 0, .int .u8 0, .int .u8 0, .int .u8 0, .int .u8 0, .int .u8 0, .int .u8 0, .int .u8 0, .int .u8 0, .int .u8 0, .int .u8 0, .int .u8 0, .int .u8 0, .int .u8 0, .int .u8 0, .int .u8 0, .int .u8 0, .int .u8 0, .int .u8 0, .int .u8 0, .int .u8 0, .int .u8 0, .int .u8 0, .int .u8 0, .int .u8 0, .int .u8 0, .int .u8 0, .int .u8 0, .int .u8 0, .int .u8 0, .int .u8 0, .int .u8 0, .int .u8 0, .int .u8 0, .int .u8 0, .int .u8 0, .int .u8 0, .int .u8 0, .int .u8 0, .int .u8 0, .int .u8 0, .int .u8 0, .int .u8 0, .int .u8 0]), (116, .num .u8), (117, .num .u8), (119, .num .i32), (120, .num .i32)]
theorem G_ok : GOK Tryd.prog G := GOK.of_all (by kernel_rfl)
@[go_sem] theorem G2 : tget G 2 = some (.num .i64) := rfl
@[go_sem] theorem G3 : tget G 3 = some (.num .i64) := rfl
@[go_sem] theorem G4 : tget G 4 = some (.bol) := rfl
@[go_sem] theorem G5 : tget G 5 = some (.num .u8) := rfl
@[go_sem] theorem G6 : tget G 6 = some (.num .u8) := rfl
@[go_sem] theorem G7 : tget G 7 = some (.st 4 [(0, 1), (1, 1), (2, 1), (3, 1)] [.int .i64 0, .int .i64 0, .bool false, .int .u8 0]) := rfl
@[go_sem] theorem G8 : tget G 8 = some (.st 4 [(0, 1), (1, 1), (2, 1), (3, 1)] [.int .i64 0, .int .i64 0, .bool false, .int .u8 0]) := rfl
@[go_sem] theorem G9 : tget G 9 = some (.str) := rfl
@[go_sem] theorem G10 : tget G 10 = some (.str) := rfl
@[go_sem] theorem G11 : tget G 11 = some (.str) := rfl
@[go_sem] theorem G12 : tget G 12 = some (.num .u64) := rfl
@[go_sem] theorem G13 : tget G 13 = some (.st 2 [(0, 1), (1, 1)] [.str ⟨#[]⟩, .int .u64 0]) := rfl
@[go_sem] theorem G14 : tget G 14 = some (.st 2 [(0, 1), (1, 1)] [.str ⟨#[]⟩, .int .u64 0]) := rfl
@[go_sem] theorem G21 : tget G 21 = some (.num .i32) := rfl
@[go_sem] theorem G22 : tget G 22 = some (.slc 3 1 8 [.int .i64 0]) := rfl
@[go_sem] theorem G28 : tget G 28 = some (.slc 48 3 24 [.int .i64 0, .int .i64 0, .int .i64 0]) := rfl
@[go_sem] theorem G32 : tget G 32 = some (.slc 46 3 24 [.int .i64 0, .int .i64 0, .int .i64 0]) := rfl
@[go_sem] theorem G40 : tget G 40 = some (.slc 9 1 16 [.str ⟨#[]⟩]) := rfl
@[go_sem] theorem G45 : tget G 45 = some (.st 3 [(0, 1), (1, 1), (2, 1)] [.int .i64 0, .int .i64 0, .int .i64 0]) := rfl
@[go_sem] theorem G46 : tget G 46 = some (.st 3 [(0, 1), (1, 1), (2, 1)] [.int .i64 0, .int .i64 0, .int .i64 0]) := rfl
@[go_sem] theorem G48 : tget G 48 = some (.st 3 [(0, 1), (1, 1), (2, 1)] [.int .i64 0, .int .i64 0, .int .i64 0]) := rfl
@[go_sem] theorem G50 : tget G 50 = some (.slc 5 1 1 [.int .u8 0]) := rfl
@[go_sem] theorem G88 : tget G 88 = some (.num .u64) := rfl
@[go_sem] theorem G89 : tget G 89 = some (.arr 24 1 [.int .u8 0, .int .u8 0, .int .u8 0, .int .u8 0, .int .u8 0, .int .u8 0, .int .u8 0, .int .u8 0, .int .u8 0, .int .u8 0, .int .u8 0, .int .u8 0, .int .u8 0, .int .u8 0, .int .u8 0, .int .u8 0, .int .u8 0, .int .u8 0, .int .u8 0, .int .u8 0, .int .u8 0, .int .u8 0, .int .u8 0, .int .u8 0]) := rfl
@[go_sem] theorem G90 : tget G 90 = some (.num .u64) := rfl
@[go_sem] theorem G97 : tget G 97 = some (.st 2 [(0, 1), (1, 1)] [.int .u8 0, .int .u8 0]) := rfl
@[go_sem] theorem G98 : tget G 98 = some (.st 2 [(0, 1), (1, 1)] [.int .u8 0, .int .u8 0]) := rfl
@[go_sem] theorem G99 : tget G 99 = some (.arr 16 2 [.int .u8 0, .int .u8 0, .int .u8 0, .int .u8 0, .int .u8 0, .int .u8 0, .int .u8 0, .int .u8 0, .int .u8 0, .int .u8 0, .int .u8 0, .int .u8 0, .int .u8 0, .int .u8 0, .int .u8 0, .int .u8 0, .int .u8 0, .int .u8 0, .int .u8 0, .int .u8 0, .int .u8 0, .int .u8 0, .int .u8 0, .int .u8 0, .int .u8 0, .int .u8 0, .int .u8 0, .int .u8 0, .int .u8 0, .int .u8 0, .int .u8 0, .int .u8 0]) := rfl
@[go_sem] theorem G100 : tget G 100 = some (.num .u32) := rfl
@[go_sem] theorem G104 : tget G 104 = some (.arr 20 1 [.int .u64 0, .int .u64 0, .int .u64 0, .int .u64 0, .int .u64 0, .int .u64 0, .int .u64 0, .int .u64 0, .int .u64 0, .int .u64 0, .int .u64 0, .int .u64 0, .int .u64 0, .int .u64 0, .int .u64 0, .int .u64 0, .int .u64 0, .int .u64 0, .int .u64 0, .int .u64 0]) := rfl
@[go_sem] theorem G108 : tget G 108 = some (.arr 32 1 [.int .u8 0, .int .u8 0, .int .u8 0, .int .u8 0, .int .u8 0, .int .u8 0, .int .u8 0, .int .u8 0, .int .u8 0, .int .u8 0, .int .u8 0, .int .u8 0, .int .u8 0, .int .u8 0, .int .u8 0, .int .u8 0, .int .u8 0, .int .u8 0, .int .u8 0, .int .u8 0, .int .u8 0, .int .u8 0, .int .u8 0, .int .u8 0, .int .u8 0, .int .u8 0, .int .u8 0, .int .u8 0, .int .u8 0, .int .u8 0, .int .u8 0, .int .u8 0]) := rfl
@[go_sem] theorem G109 : tget G 109 = some (.arr 64 1 [.int .u8 0, .int .u8 0, .int .u8 0, .int .u8 0, .int .u8 0, .int .u8 0, .int .u8 0, .int .u8 0, .int .u8 0, .int .u8 0, .int .u8 0, .int .u8 0, .int .u8 0, .int .u8 0, .int .u8 0, .int .u8 0, .int .u8 0, .int .u8 0, .int .u8 0, .int .u8 0, .int .u8 0, .int .u8 0, .int .u8 0, .int .u8 0, .int .u8 0, .int .u8 0, .int .u8 0, .int .u8 0, .int .u8 0, .int .u8 0, .int .u8 0, .int .u8 0, .int .u8 0, .int .u8 0, .int .u8 0, .int .u8 0, .int .u8 0, .int .u8 0, .int .u8 0, .int .u8 0, .int .u8 0, .int .u8 0, .int .u8 0, .int .u8 0, .int .u8 0, .int .u8 0, .int .u8 0, .int .u8 0, .int .u8 0, .int .u8 0, .int .u8 0, .int .u8 0, .int .u8 0, .int .u8 0, .int .u8 0, .int .u8 0, .int .u8 0, .int .u8 0, .int .u8 0, .int .u8 0, .int .u8 0, .int .u8 0, .int .u8 0, .int .u8 0]) := rfl
@[go_sem] theorem G116 : tget G 116 = some (.num .u8) := rfl
@[go_sem] theorem G117 : tget G 117 = some (.num .u8) := rfl
@[go_sem] theorem G119 : tget G 119 = some (.num .i32) := rfl
@[go_sem] theorem G120 : tget G 120 = some (.num .i32) := rfl
theorem mixed : Tryd.prog.follows .mixedOrders = true := by kernel_rfl

theorem retQ_ret {G : List (Nat × TI)} {fn : Func} {Post : List RV → Prop} {s : AS} {xs : List PV} {rs : List RV} (h1 : retPVs G s fn.results.toList = some xs) (h2 : retL s.hp xs = some rs) (h3 : (rowsOf xs).Nodup) (h4 : Post rs) : retQ G fn Post .ret s := ⟨xs, rs, h1, h2, h3, h4⟩
theorem retQ_normal {G : List (Nat × TI)} {fn : Func} {Post : List RV → Prop} {s : AS} {xs : List PV} {rs : List RV} (h1 : retPVs G s fn.results.toList = some xs) (h2 : retL s.hp xs = some rs) (h3 : (rowsOf xs).Nodup) (h4 : Post rs) : retQ G fn Post .normal s := ⟨xs, rs, h1, h2, h3, h4⟩

/-- slots given anew -/
def over : Fr → List (Nat × PV) → Fr
  | f, [] => f
  | f, (t, x) :: r => over ⟨f.n, ins f.l t x⟩ r
/-- slots forgotten behind a region: a table -/
def tlook : List (Nat × List Nat) → Nat → List Nat
  | [], _ => []
  | (k, ts) :: r, i => if i = k then ts else tlook r i
def forget (T : List (Nat × List Nat)) (id : Nat) (s : AS) : AS := ⟨wipe s.fr (tlook T id), s.hp, s.nx⟩
theorem pw_forget {P : Program} {c : Code} {Q : Exit → AS → Prop} {s : AS} (T : List (Nat × List Nat)) (id : Nat) (h : PW P c Q (forget T id s)) : PW P c Q s := fun X0 w0 m a w hs => h X0 w0 m a w (hs.wipe _)
theorem pw_seq_ops {P : Program} {G : List (Nat × TI)} (hG : GOK P G) {Q : Exit → AS → Prop} {s : AS} {id : Nat} {l : List Oper} {y : Code} (h : ∀ K : AS → Prop, (∀ s', PW P y Q s' → K s') → execL P G l.toArray l K s) : PW P (.seq (.region id l.toArray false) y) Q s :=
  pw_seq_k fun _ hK => pw_ops hG fun K' hK' => h K' fun s' h' => hK' s' (hK s' h')
theorem pw_seq_opsK {P : Program} {G : List (Nat × TI)} (T : List (Nat × List Nat)) (hG : GOK P G) {Q : Exit → AS → Prop} {s : AS} {id : Nat} {l : List Oper} {y : Code} (h : ∀ K : AS → Prop, (∀ s', PW P y Q (forget T id s') → K s') → execL P G l.toArray l K s) : PW P (.seq (.region id l.toArray false) y) Q s :=
  pw_seq_ops hG fun K hK => h K fun s' h' => hK s' (pw_forget T id h')
theorem pw_seq_drawK {P : Program} {G : List (Nat × TI)} (T : List (Nat × List Nat)) {Q : Exit → AS → Prop} {s : AS} {id : Nat} {l : List Oper} {y : Code} (hG : GOK P G) (hm : P.follows .mixedOrders = true) (hB : Region.lexB .any l.toArray = true) (h : ∀ K : AS → Prop, (∀ s', PW P y Q (forget T id s') → K s') → quietL P G l.toArray l K s) : PW P (.seq (.region id l.toArray true) y) Q s :=
  pw_seq_draw hG hm hB fun K hK => h K fun s' h' => hK s' (pw_forget T id h')
theorem pw_seq_tailK {P : Program} {G : List (Nat × TI)} (T : List (Nat × List Nat)) {Q : Exit → AS → Prop} {s : AS} {id : Nat} {l : List Oper} {y : Code} (hG : GOK P G) (p n : Nat) (hm : P.follows .mixedOrders = true) (hB : tailB l.toArray p n = true) (h : ∀ K : AS → Prop, (∀ s', PW P y Q (forget T id s') → K s') → quietL P G l.toArray (l.take n) (execL P G l.toArray (l.drop n) K) s) : PW P (.seq (.region id l.toArray true) y) Q s :=
  pw_seq_tail hG p n hm hB fun K hK => h K fun s' h' => hK s' (pw_forget T id h')
/-- a region in any order: from s, with these operations done, it leads into K -/
def AnyP (P : Program) (ops : Array Oper) (K : AS → Prop) (fuel : Nat) (listed : Array Bool) (s : AS) : Prop :=
  ∀ (X0 : Nat → Prop) (w0 : Base) (m : Mp) (a : Act) (w : World) (Q' : Exit → Act → World → Prop), (∀ m' s' a' w', K s' → Sim X0 w0 m' s' a' w' → Q' .normal a' w') → Sim X0 w0 m s a w → wpAny P .any ops Q' fuel listed a w
theorem any_done {P : Program} {ops : Array Oper} {K : AS → Prop} {fuel : Nat} {listed : Array Bool} {s : AS} (hR : Region.ready .any ops listed = []) (h : K s) : AnyP P ops K fuel listed s := by
  intro X0 w0 m a w Q' hQ hs
  cases fuel with
  | zero => exact ⟨hR, hQ m s a w h hs⟩
  | succ n => exact ⟨fun _ => hQ m s a w h hs, fun i hi => by rw [hR] at hi; cases hi⟩
theorem any_op {P : Program} {ops : Array Oper} {K : AS → Prop} {o : Oper} {i : Nat} {s : AS} {X0 : Nat → Prop} {w0 : Base} {m : Mp} {a : Act} {w : World} {Q' : Exit → Act → World → Prop} {A : Act → World → Prop} (ho : ops[i]? = some o) (h : PL P ops [o] K s) (hs : Sim X0 w0 m s a w)
    (hK : ∀ m' s' a' w', K s' → Sim X0 w0 m' s' a' w' → A a' w') : wpOp P ops Q' i A a w := by
  have step : ∀ s, Sim X0 w0 m s a w → PO P o s K → o.wp P a w A Q' := by
    intro s hs h1
    exact Oper.wp_mono (fun a' w' ⟨m', s', h2, h3⟩ => hK m' s' a' w' h2 h3) (h1 X0 w0 m a w Q' hs)
  unfold wpOp
  simp only [ho]
  simp only [PL] at h
  split at h
  · rename_i hg
    simp only [Region.wanted, hg, if_true]
    exact .inl (step s hs h)
  · rename_i j want hg
    rcases h with ⟨b, h1, h2, h3⟩ | ⟨h1, h3⟩
    · have hy : yielded ops a.tmps j = some b := by
        unfold yB at h1
        cases hd : (ops[j]?).bind (·.dst) with
        | none => rw [hd] at h1; cases h1
        | some t =>
          rw [hd] at h1
          have h4 := hs.get (.tmp t)
          have h1' : lk s.fr.l t = .d (.bool b) := h1
          simp only [AS.get] at h4
          rw [h1'] at h4
          have h5 : a.tmps.getD t undef = .bool b := h4.bool
          have h6 : a.tmps[t]? = some (.bool b) := by
            rw [Array.getD_eq_getD_getElem?] at h5
            cases ht : a.tmps[t]? with
            | none => rw [ht] at h5; cases h5
            | some u => rw [ht] at h5; simp at h5; rw [h5]
          unfold yielded
          rw [hd]
          simp [h6]
      simp only [Region.wanted, hg, hy]
      by_cases hb : b = want
      · subst hb
        simp only [beq_self_eq_true, if_true]
        exact .inl (step s hs (h2 rfl))
      · have : (some b == some want) = false := by simpa using hb
        simp only [this, Bool.false_eq_true, if_false]
        exact hK _ _ _ _ (h3 hb) (hs.put (tup0 _ _ _) o.dst)
    · have hy : yielded ops a.tmps j = none := by
        unfold yB at h1
        cases hd : (ops[j]?).bind (·.dst) with
        | none => rw [hd] at h1; cases h1
        | some t =>
          rw [hd] at h1
          have h4 := hs.get (.tmp t)
          have h1' : lk s.fr.l t = .tup [] := h1
          simp only [AS.get] at h4
          rw [h1'] at h4
          have h5 : ∀ b, a.tmps.getD t undef ≠ .bool b := by
            intro b he
            have h4' : R m (Owned X0 m s.hp) w (.tup []) (a.tmps.getD t undef) := h4
            rw [he] at h4'
            cases h4'
          unfold yielded
          rw [hd]
          simp only [Option.bind_some]
          split
          · rename_i b hb
            exact absurd (by rw [Array.getD_eq_getD_getElem?, hb]; rfl) (h5 b)
          · rfl
      simp only [Region.wanted, hg, hy]
      have : ((none : Option Bool) == some want) = false := rfl
      simp only [this, Bool.false_eq_true, if_false]
      exact hK _ _ _ _ h3 (hs.put (tup0 _ _ _) o.dst)
/-- all that may come next -/
def AllR (P : Program) (G : List (Nat × TI)) (l : List Oper) (K : AS → Prop) (fuel : Nat) (listed : Array Bool) (s : AS) : List Nat → Prop
  | [] => True
  | i :: r => (∃ o, l[i]? = some o ∧ ∀ K' : AS → Prop, (∀ s', AnyP P l.toArray K fuel (listed.setIfInBounds i true) s' → K' s') → step1 false P G l.toArray o s K') ∧ AllR P G l K fuel listed s r
theorem any_step {P : Program} {G : List (Nat × TI)} (hG : GOK P G) (R : List Nat) {l : List Oper} {K : AS → Prop} {fuel : Nat} {listed : Array Bool} {s : AS} (hR : Region.ready .any l.toArray listed = R) (hne : R.isEmpty = false) (h : AllR P G l K fuel listed s R) : AnyP P l.toArray K (fuel + 1) listed s := by
  intro X0 w0 m a w Q' hQ hs
  refine ⟨fun h0 => (by rw [hR] at h0; subst h0; cases hne), fun i hi => ?_⟩
  rw [hR] at hi
  have key : ∀ R : List Nat, AllR P G l K fuel listed s R → ∀ i ∈ R, ∃ o, l[i]? = some o ∧ ∀ K' : AS → Prop, (∀ s', AnyP P l.toArray K fuel (listed.setIfInBounds i true) s' → K' s') → step1 false P G l.toArray o s K' := by
    intro R
    induction R with
    | nil => intro _ i hi; cases hi
    | cons j r ih =>
      rintro ⟨h1, h2⟩ i hi
      rcases List.mem_cons.1 hi with rfl | hi
      · exact h1
      · exact ih h2 i hi
  obtain ⟨o, ho, h1⟩ := key R h i hi
  have h2 : execL P G l.toArray [o] (AnyP P l.toArray K fuel (listed.setIfInBounds i true)) s := execL_step fun K' hK' => h1 K' fun s' hs' => hK' s' hs'
  exact any_op (by simpa using ho) (execL_sound hG _ _ _ h2) hs fun m' s' a' w' h3 h4 => h3 X0 w0 m' a' w' Q' hQ h4
theorem pw_any {P : Program} {Q : Exit → AS → Prop} {s : AS} {id : Nat} {l : List Oper} (hm : P.follows .mixedOrders = true) (h : AnyP P l.toArray (Q .normal) l.length (Array.replicate l.length false) s) : PW P (.region id l.toArray true) Q s := by
  intro X0 w0 m a w hs
  refine wp_region_any hm ?_
  have := h X0 w0 m a w.drew (fun e a' w' => ∃ m' s', Q e s' ∧ Sim X0 w0 m' s' a' w') (fun m' s' a' w' h1 h2 => ⟨m', s', h1, h2⟩) hs.drew
  simpa using this
theorem pw_seq_any_to {P : Program} (T : List (Nat × List Nat)) {Q : Exit → AS → Prop} {s s1 : AS} {id : Nat} {l : List Oper} {y : Code} (hm : P.follows .mixedOrders = true)
    (h : AnyP P l.toArray (fun s' => forget T id s' = s1 ∨ Fits (forget T id s') s1) l.length (Array.replicate l.length false) s) (h2 : PW P y Q s1) : PW P (.seq (.region id l.toArray true) y) Q s :=
  pw_seq_k fun K hK => pw_any hm fun X0 w0 m a w Q' hQ hs => h X0 w0 m a w Q' (fun m' s' a' w' h3 h4 => hQ m' s' a' w' (hK s' (pw_forget T id (by
    rcases h3 with h3 | h3
    · rw [h3]; exact h2
    · exact pw_fits h3 h2))) h4) hs
@[congr] theorem PW_congr {P : Program} {c : Code} {Q : Exit → AS → Prop} {s s' : AS} (h : s = s') : PW P c Q s = PW P c Q s' := by subst h; rfl
attribute [go_sem] forget tlook
/-- steps that leave a continuation -/
class StpK (a : Prop) (A : outParam (AS → Prop)) (b : outParam ((AS → Prop) → Prop)) : Prop where
  mp : (∀ K : AS → Prop, (∀ s', A s' → K s') → b K) → a
theorem stq {a : Prop} {A : AS → Prop} {b : (AS → Prop) → Prop} [i : StpK a A b] (h : ∀ K : AS → Prop, (∀ s', A s' → K s') → b K) : a := i.mp h
/-- a test, by what its slot holds -/
def cK (y : PV) (A B : Prop) : Prop := match y with
  | .d (.bool b) => pK b A B
  | _ => False
@[congr] theorem cK_congr {y y' : PV} {A B : Prop} (h : y = y') : cK y A B = cK y' A B := by subst h; rfl
class StpC (a : Prop) (b : outParam Prop) : Prop where
  mp : b → a
theorem stc {a b : Prop} [i : StpC a b] (h : b) : a := i.mp h
section
variable {P : Program} {G : List (Nat × TI)} {ops : Array Oper} {s : AS} {K : AS → Prop} {Q : Exit → AS → Prop} {x y z : Code} {id : Nat} {rest : List Oper} {d : Option Tmp} {op : Op} {t : TypeId} {pos : String} {af : Array Edge} {c : Operand}
instance : StpK (execL P G ops (⟨d, op, t, pos, af, none⟩ :: rest) K s) (execL P G ops rest K) (fun K' => ex2 false P G ⟨d, op, t, pos, af, none⟩ s K') := ⟨fun h => execL_step fun K' hK' => s_none rfl (h K' hK')⟩
instance : StpK (quietL P G ops (⟨d, op, t, pos, af, none⟩ :: rest) K s) (quietL P G ops rest K) (fun K' => ex2 true P G ⟨d, op, t, pos, af, none⟩ s K') := ⟨fun h => quietL_step fun K' hK' => s_none rfl (h K' hK')⟩
theorem cK_of {A B : Prop} (hA : ∀ b, s.get c = .d (.bool b) → pK b A B → PW P z Q s) (h : cK (s.get c) A B) : PW P z Q s := by
  unfold cK at h
  split at h
  · rename_i b e; exact hA b e h
  · exact h.elim
instance : StpC (PW P (.cond c x y) Q s) (cK (s.get c) (PW P x Q s) (PW P y Q s)) := ⟨cK_of fun _ e h => pw_cond e h.1 h.2⟩
instance : StpC (PW P (.seq (.cond c x y) z) Q s) (cK (s.get c) (PW P x (thenA (PW P z Q) Q) s) (PW P y (thenA (PW P z Q) Q) s)) := ⟨cK_of fun _ e h => pw_seq (pw_cond e h.1 h.2)⟩
end
attribute [go_sem] cK
theorem xS {P : Program} {G : List (Nat × TI)} {ops : Array Oper} {o : Oper} {rest : List Oper} {K : AS → Prop} {s : AS} {t : Nat} {want : Bool} (hg : gOf ops o = some (t, want)) (h : ∀ K' : AS → Prop, (∀ s', execL P G ops rest K s' → K' s') → gK2 false P G o s K' t want (lk s.fr.l t)) : execL P G ops (o :: rest) K s := execL_step fun K' hK' => s_some2 hg (h K' hK')
theorem qS {P : Program} {G : List (Nat × TI)} {ops : Array Oper} {o : Oper} {rest : List Oper} {K : AS → Prop} {s : AS} {t : Nat} {want : Bool} (hg : gOf ops o = some (t, want)) (h : ∀ K' : AS → Prop, (∀ s', quietL P G ops rest K s' → K' s') → gK2 true P G o s K' t want (lk s.fr.l t)) : quietL P G ops (o :: rest) K s := quietL_step fun K' hK' => s_some2 hg (h K' hK')
theorem kN {Q : Exit → AS → Prop} {s : AS} {id : Nat} {l : List Oper} {y : Code} (T : List (Nat × List Nat)) (h : ∀ K : AS → Prop, (∀ s', PW Tryd.prog y Q (forget T id s') → K s') → execL Tryd.prog G l.toArray l K s) : PW Tryd.prog (.seq (.region id l.toArray false) y) Q s := pw_seq_opsK T G_ok h
theorem kO {Q : Exit → AS → Prop} {s : AS} {id : Nat} {l : List Oper} (h : ∀ K : AS → Prop, (∀ s', Q .normal s' → K s') → execL Tryd.prog G l.toArray l K s) : PW Tryd.prog (.region id l.toArray false) Q s := pw_ops G_ok h
/-- a break out of an inner block -/
theorem iB {Q : Exit → AS → Prop} {id id' : Nat} {s : AS} (h : Q (.exit id') s) (hne : id' ≠ id := by decide) : inBlockA id Q (.exit id') s := inBlockA_other hne h

@[go_sem] def kl2 : List (Nat × List Nat) := [(0, [0])]
@[go_sem] def kl3 : List (Nat × List Nat) := [(1, [13, 14]), (3, [16, 17]), (5, [19, 20, 21, 22, 23, 24]), (6, [25, 26, 27, 28, 29, 30]), (7, [31, 32, 33, 34, 35, 36, 37, 38]), (10, [40, 41, 42]), (12, [43, 44, 45]), (13, [46]), (15, [48, 49]), (17, [51, 52, 53, 54, 55, 56]), (18, [57, 58, 59, 60, 61, 62, 63, 64]), (21, [66, 67, 68]), (22, [69]), (24, [71, 72])]
@[go_sem] def kl4 : List (Nat × List Nat) := [(2, [9, 10, 11]), (3, [12]), (5, [14, 15, 16, 17, 18, 19]), (6, [20, 21]), (7, [22, 23, 24, 25, 26]), (8, [27, 28, 29, 30, 31, 32, 33]), (10, [35, 36, 37, 38])]
@[go_sem] def kl5 : List (Nat × List Nat) := [(1, [11, 12]), (3, [14, 15, 16, 17, 18]), (4, [19, 20, 21, 22, 23]), (5, [24, 25, 26, 27, 28, 29, 30, 31]), (8, [33, 34, 35]), (10, [36, 37, 38]), (11, [39]), (13, [41, 42]), (15, [44, 45, 46, 47, 48]), (16, [49, 50, 51, 52, 53, 54, 55, 56]), (19, [58, 59, 60]), (20, [61]), (22, [63, 64])]
@[go_sem] def kl6 : List (Nat × List Nat) := [(1, [10, 11, 12, 13, 14, 15, 16]), (3, [18, 19, 20, 21]), (6, [22, 23, 24, 25, 26, 27, 28, 29, 30]), (7, [32, 33]), (8, [34, 35, 36, 37, 38, 39, 40, 41, 42, 43, 44, 45, 46, 47, 48, 49, 50, 51, 52, 53]), (9, [55, 56, 57, 58, 59]), (10, [60])]
@[go_sem] def kl7 : List (Nat × List Nat) := [(1, [10, 11, 12, 13, 14, 15, 16]), (3, [18, 19, 20, 21]), (4, [22]), (5, [23, 24, 25, 26]), (7, [30]), (8, [31, 32, 33, 34, 35, 36, 37, 38, 39, 40, 41, 42, 43, 44, 45, 46, 47, 48, 49, 50]), (9, [52, 53, 54, 55, 56]), (10, [57]), (11, [58])]
@[go_sem] def kl8 : List (Nat × List Nat) := [(1, [6, 7, 8, 9]), (4, [11, 12, 13]), (5, [15, 16]), (6, [17, 18, 19, 20, 21, 22, 23, 24])]
@[go_sem] def kl9 : List (Nat × List Nat) := [(2, [6, 7, 8]), (3, [10, 11]), (4, [12, 13, 14, 15]), (5, [16, 17]), (6, [18])]
@[go_sem] def kl10 : List (Nat × List Nat) := [(2, [6, 7, 8]), (3, [10, 11]), (4, [12, 13, 14, 15, 16]), (6, [18, 19]), (7, [20])]
@[go_sem] def kl11 : List (Nat × List Nat) := [(1, [5, 6, 7, 8]), (2, [9]), (4, [11])]
@[go_sem] def kl12 : List (Nat × List Nat) := [(1, [4, 5]), (3, [7, 8])]
@[go_sem] def kl13 : List (Nat × List Nat) := [(1, [5, 6, 7]), (3, [8, 9, 10]), (4, [12, 13]), (5, [14, 15, 16, 17, 18, 19, 20, 21]), (6, [22])]
@[go_sem] def kl14 : List (Nat × List Nat) := [(1, [7, 8]), (6, [14, 15]), (7, [16, 17, 18, 19, 20, 21, 22, 23, 24, 25]), (8, [26]), (9, [27])]
@[go_sem] def kl15 : List (Nat × List Nat) := [(1, [6, 7, 8, 9]), (4, [11, 12, 13]), (5, [15, 16]), (6, [17, 18, 19, 20, 21, 22, 23, 24, 25])]
@[go_sem] def kl16 : List (Nat × List Nat) := [(1, [9, 10]), (2, [11, 12]), (5, [14, 15, 16, 17]), (7, [22, 23]), (8, [24, 25]), (9, [26, 27]), (11, [29, 30, 31, 32, 33, 34, 35, 36, 37, 38, 39, 40, 41, 42, 43, 44]), (12, [45]), (13, [46, 47, 48, 49, 50, 51, 52, 53]), (15, [55])]
@[go_sem] def kl17 : List (Nat × List Nat) := [(1, [11, 12, 13, 14, 15]), (2, [16, 17, 18, 19, 20, 21]), (4, [23]), (7, [28, 29]), (8, [30, 31, 32, 33, 34, 35]), (9, [36, 37, 38, 39, 40, 41]), (11, [43, 44, 45, 46, 47, 48, 49, 50, 51, 52, 53, 54, 55]), (12, [56]), (13, [57, 58]), (15, [60])]
@[go_sem] def kl18 : List (Nat × List Nat) := [(2, [6, 7, 8]), (3, [10, 11]), (4, [12, 13, 14, 15, 16]), (5, [17, 18]), (6, [19, 20, 21, 22, 23]), (7, [24, 25]), (8, [26, 27, 28, 29, 30]), (9, [31, 32]), (10, [33])]
@[go_sem] def kl19 : List (Nat × List Nat) := [(2, [6, 7, 8]), (3, [10, 11]), (4, [12, 13, 14, 15, 16, 17]), (6, [19, 20]), (7, [21, 22, 23, 24, 25, 26]), (9, [28, 29]), (10, [30, 31, 32, 33, 34, 35]), (12, [37, 38]), (13, [39])]
@[go_sem] def kl20 : List (Nat × List Nat) := [(1, [3, 4, 5])]
@[go_sem] def kl21 : List (Nat × List Nat) := [(4, [8, 9, 10]), (5, [12, 13]), (6, [14, 15, 16, 17]), (7, [19, 20, 21, 22, 23, 24, 25]), (8, [26, 27]), (9, [28, 29, 30, 31, 32, 33])]
@[go_sem] def kl22 : List (Nat × List Nat) := [(1, [5, 6, 7])]
@[go_sem] def kl23 : List (Nat × List Nat) := [(4, [13, 14]), (5, [15, 16, 17, 18, 19, 20, 21, 22, 23, 24, 25, 26, 27, 28, 29, 30, 31, 32, 33, 34, 35]), (7, [37, 38, 39, 40, 41, 42, 43, 44, 45, 46, 47, 48, 49]), (9, [51, 52, 53, 54, 55]), (10, [56, 57]), (11, [59, 60, 61, 62, 63]), (12, [64]), (15, [69, 70]), (16, [71, 72]), (18, [74]), (19, [75, 76, 77])]
@[go_sem] def kl24 : List (Nat × List Nat) := [(4, [10, 11]), (5, [12, 13, 14, 15, 16, 17, 18, 19, 20, 21, 22, 23, 24, 25, 26, 27]), (6, [28]), (7, [29])]
@[go_sem] def kl25 : List (Nat × List Nat) := [(2, [4, 5, 6]), (3, [7, 8, 9]), (4, [10, 11, 12]), (5, [13])]
@[go_sem] def kl26 : List (Nat × List Nat) := [(3, [9, 10, 11]), (4, [12, 13, 14, 15, 16, 17, 18, 19, 20, 21, 22, 23, 24, 25, 26, 27, 28, 29, 30, 31, 32, 33, 34]), (6, [36, 37]), (7, [39, 40, 41, 42, 43, 44, 45, 46, 47, 48, 49, 50, 51, 52, 53]), (9, [55]), (10, [56, 57, 58])]
@[go_sem] def kl27 : List (Nat × List Nat) := [(1, [6, 7]), (2, [8, 9, 10, 11, 12, 13, 14, 15, 16]), (3, [17, 18])]
@[go_sem] def kl28 : List (Nat × List Nat) := [(1, [6]), (4, [11, 12]), (5, [13, 14, 15, 16, 17]), (6, [18]), (7, [19, 20])]
@[go_sem] def kl29 : List (Nat × List Nat) := [(1, [3, 4, 5, 6, 7, 8, 9, 10, 11, 12, 13])]
@[go_sem] def kl30 : List (Nat × List Nat) := [(1, [5, 6, 7, 8]), (3, [10, 11, 12, 13]), (5, [15, 16, 17, 18])]
@[go_sem] def kl31 : List (Nat × List Nat) := [(1, [5, 6, 7, 8, 9, 10, 11, 12, 13, 14, 15, 16, 17]), (5, [19, 20, 21]), (6, [23, 24]), (7, [25, 26, 27, 28, 29, 30, 31, 32, 33]), (9, [35, 36, 37, 38, 39, 40, 41, 42]), (10, [43])]
@[go_sem] def kl32 : List (Nat × List Nat) := [(1, [4]), (2, [6]), (3, [7, 8, 9, 10, 11]), (5, [13, 14, 15, 16, 17, 18])]
@[go_sem] def kl33 : List (Nat × List Nat) := [(1, [9]), (4, [14, 15]), (5, [16, 17, 18, 19, 20]), (6, [21]), (8, [23, 24, 25, 26]), (9, [27]), (10, [28])]
@[go_sem] def kl34 : List (Nat × List Nat) := [(1, [12]), (3, [14]), (4, [16, 17, 18]), (5, [19]), (6, [21, 22, 23, 24]), (7, [25, 26, 27, 28, 29]), (8, [30, 31]), (9, [32, 33]), (11, [34, 35]), (12, [37, 38, 39]), (13, [40]), (14, [42, 43, 44, 45, 46, 47, 48, 49]), (15, [50, 51, 52, 53, 54, 55]), (16, [56, 57]), (17, [58, 59, 60, 61]), (18, [62, 63, 64, 65])]
@[go_sem] def kl35 : List (Nat × List Nat) := [(1, [7, 8, 9, 10, 11, 12, 13, 14])]
@[go_sem] def kl36 : List (Nat × List Nat) := [(3, [11, 12]), (4, [13, 14]), (6, [16])]
@[go_sem] def kl37 : List (Nat × List Nat) := [(1, [3]), (2, [5, 6, 7, 8, 9]), (3, [10, 11, 12, 13, 14, 15, 16, 17, 18, 19])]
@[go_sem] def kl38 : List (Nat × List Nat) := [(1, [3, 4])]
@[go_sem] def kl39 : List (Nat × List Nat) := [(1, [3, 4])]
@[go_sem] def kl40 : List (Nat × List Nat) := [(1, [7, 8, 9, 10, 11, 12, 13, 14])]
@[go_sem] def kl41 : List (Nat × List Nat) := [(1, [5, 6, 7])]
@[go_sem] def kl42 : List (Nat × List Nat) := [(1, [5, 6, 7, 8])]
@[go_sem] def kl43 : List (Nat × List Nat) := [(1, [4, 5, 6, 7, 8])]
@[go_sem] def kl44 : List (Nat × List Nat) := [(0, [2, 3, 4, 5]), (1, [7, 8, 9, 10, 11, 12, 13]), (2, [14, 15, 16, 17, 18])]
@[go_sem] def kl45 : List (Nat × List Nat) := [(1, [3, 4])]
@[go_sem] def kl46 : List (Nat × List Nat) := [(1, [11]), (2, [14]), (4, [16]), (5, [17, 18, 19]), (7, [20, 21]), (8, [23, 24, 25, 26, 27, 28]), (9, [30]), (10, [31, 32, 33, 34, 35, 36, 37, 38]), (13, [43, 44]), (14, [45, 46, 47, 48]), (15, [50]), (16, [51, 52, 53, 54]), (17, [55]), (19, [56, 57]), (20, [58, 59, 60, 61]), (21, [62]), (23, [67, 68]), (24, [69, 70]), (25, [71, 72]), (26, [73]), (27, [74])]
@[go_sem] def kl47 : List (Nat × List Nat) := [(1, [8, 9, 10, 11, 12]), (2, [13, 14, 15, 16, 17]), (3, [18, 19, 20, 21, 22, 23, 24, 25]), (6, [28, 29]), (7, [30])]
@[go_sem] def kl48 : List (Nat × List Nat) := [(1, [10, 11]), (2, [12, 13, 14, 15, 16, 17]), (3, [19]), (4, [20, 21]), (6, [22, 23, 24]), (7, [26, 27]), (8, [8, 28, 29, 30, 31, 32]), (9, [33, 34, 35, 36, 37, 38]), (10, [39, 40, 41]), (11, [42]), (12, [44, 45, 46, 47, 48]), (13, [49])]
@[go_sem] def kl49 : List (Nat × List Nat) := [(1, [7, 8]), (2, [10, 11, 12]), (3, [13, 14]), (4, [16, 17, 18, 19]), (6, [20, 21, 22]), (7, [23]), (8, [25]), (9, [26, 27]), (10, [28, 29, 30, 31, 32, 33])]
@[go_sem] def kl50 : List (Nat × List Nat) := [(1, [5, 6, 7])]
@[go_sem] def kl51 : List (Nat × List Nat) := [(1, [4, 5, 6, 7])]
@[go_sem] def kl52 : List (Nat × List Nat) := [(1, [6]), (3, [10]), (4, [11, 12, 13, 14, 15]), (5, [17]), (6, [18])]
@[go_sem] def kl54 : List (Nat × List Nat) := [(1, [3, 4])]
@[go_sem] def kl55 : List (Nat × List Nat) := [(0, [4, 5]), (1, [6]), (2, [8]), (3, [9, 10, 11, 12, 13, 14, 15, 16, 17, 18, 19, 20]), (4, [22, 23, 24])]
@[go_sem] def kl56 : List (Nat × List Nat) := [(1, [6, 7, 8, 9, 10])]
@[go_sem] def kl57 : List (Nat × List Nat) := [(1, [6, 7, 8, 9, 10, 11, 12, 13, 14, 15, 16, 17, 18, 19, 20, 21]), (5, [23, 24, 25]), (6, [27, 28]), (7, [29, 30, 31, 32, 33, 34, 35, 36, 37]), (9, [39, 40, 41, 42, 43, 44, 45, 46]), (10, [47])]
@[go_sem] def kl58 : List (Nat × List Nat) := [(1, [3]), (2, [5]), (3, [7, 8]), (4, [9])]
@[go_sem] def kl59 : List (Nat × List Nat) := [(1, [4, 5, 6, 7, 8, 9]), (2, [11, 12, 13]), (3, [14, 15, 16, 17, 18])]
@[go_sem] def kl61 : List (Nat × List Nat) := [(1, [14, 15]), (2, [17, 18, 19, 20, 21, 22, 23]), (4, [25, 26]), (5, [27, 28, 29, 30]), (6, [32, 33, 34, 35]), (8, [37, 38, 39, 40, 41, 42, 43, 44]), (9, [45, 46, 47]), (10, [48, 49]), (11, [50, 51]), (13, [52, 53, 54, 55, 56]), (15, [57, 58]), (16, [60, 61, 62, 63]), (17, [65, 66, 67, 68, 69, 70, 71]), (18, [72]), (20, [74, 75, 76, 77]), (21, [78, 79, 80, 81, 82, 83, 84, 85, 86, 87, 88, 89, 90, 91, 92]), (22, [94]), (23, [95, 96]), (24, [97, 98]), (25, [99, 100, 101, 102, 103, 104, 105, 106]), (26, [108, 109, 110, 111, 112]), (27, [113]), (28, [115, 116, 117]), (30, [118, 119, 120, 121, 122, 123, 124, 125, 126, 127, 128, 129, 130, 131]), (31, [133, 134, 135, 136, 137]), (32, [138]), (34, [140, 141, 142])]
@[go_sem] def kl62 : List (Nat × List Nat) := [(1, [10]), (2, [12, 13, 14, 15, 16]), (3, [18, 19]), (5, [20, 21]), (6, [22]), (7, [24, 25]), (8, [26, 27]), (9, [28, 29, 30, 31, 32]), (10, [33]), (11, [35]), (12, [36, 37, 38, 39]), (13, [40, 41, 42, 43]), (14, [8, 44, 45, 46, 47, 48, 49, 50, 51, 52]), (15, [53])]
@[go_sem] def kl63 : List (Nat × List Nat) := [(0, [5, 6, 7, 8, 9, 10, 11, 12, 13, 14, 15, 16, 17, 18, 19]), (1, [20, 21, 22, 23, 24, 25]), (2, [26, 27, 28, 29])]
@[go_sem] def kl64 : List (Nat × List Nat) := [(1, [6, 7, 8]), (2, [10]), (3, [11, 12, 13, 14])]
@[go_sem] def kl65 : List (Nat × List Nat) := [(1, [13, 14]), (2, [15]), (4, [17, 18]), (5, [19, 20, 21]), (6, [22]), (7, [24, 25, 26, 27]), (8, [28, 29, 30, 31, 32, 33, 34, 35]), (9, [36, 37, 38]), (10, [39, 40, 41, 42]), (11, [43, 44]), (13, [46, 47]), (14, [48, 49, 50, 51, 52, 53, 54, 55, 56]), (16, [58]), (17, [60, 61, 62, 63, 64, 65, 66, 67]), (18, [68, 69]), (19, [70, 71, 72, 73, 74]), (21, [76]), (22, [78, 79, 80, 81, 82, 83, 84, 85, 86, 87, 88, 89, 90]), (23, [91, 92]), (24, [93, 94, 95, 96, 97]), (26, [99, 100, 101, 102, 103, 104, 105, 106, 107, 108, 109, 110, 111, 112, 113, 114, 115, 116])]
@[go_sem] def kl66 : List (Nat × List Nat) := [(1, [5, 6, 7])]
@[go_sem] def kl68 : List (Nat × List Nat) := [(1, [3, 4, 5])]
@[go_sem] def kl69 : List (Nat × List Nat) := [(1, [11, 12, 13, 14, 15]), (2, [16, 17]), (5, [18, 19]), (6, [21, 22]), (7, [23, 24, 25, 26, 27, 28, 29]), (8, [30, 31, 32, 33, 34, 35, 36, 37, 38]), (10, [40]), (11, [41, 42, 43]), (12, [45, 46]), (13, [47, 48, 49, 50, 51, 52]), (14, [53, 54, 55, 56, 57, 58, 59, 60, 61, 62]), (15, [63, 64]), (16, [65, 66, 67, 68, 69, 70, 71, 72, 73, 74, 75, 76]), (17, [78, 79, 80])]
@[go_sem] def kl70 : List (Nat × List Nat) := [(1, [3]), (2, [5, 6, 7, 8]), (3, [9, 10, 11, 12, 13, 14])]
@[go_sem] def kl71 : List (Nat × List Nat) := [(1, [4, 5, 6]), (2, [7, 8, 9, 10, 11, 12, 13, 14])]
@[go_sem] def kl72 : List (Nat × List Nat) := [(0, [17, 18]), (1, [19]), (2, [21, 22, 23]), (3, [24, 25]), (4, [26, 27, 28, 29]), (5, [30, 31, 32, 33, 34, 35]), (6, [36, 37, 38, 39, 40, 41]), (7, [42, 43, 44, 45, 46, 47, 48, 49, 50, 51, 52, 53, 54]), (8, [55, 56, 57, 58, 59, 60, 61, 62, 63, 64, 65, 66, 67]), (9, [68, 69, 70, 71, 72, 73, 74, 75, 76, 77, 78, 79, 80]), (10, [81, 82, 83, 84, 85, 86, 87, 88, 89, 90, 91, 92, 93]), (11, [94, 95]), (12, [96, 97]), (13, [98]), (14, [100, 101]), (15, [102, 103]), (16, [104, 105, 106, 107, 108, 109]), (17, [110, 111, 112, 113, 114, 115, 116, 117, 118, 119, 120, 121, 122]), (18, [123, 124, 125, 126, 127, 128, 129, 130, 131, 132, 133, 134, 135]), (19, [136, 137]), (20, [138]), (21, [140, 141, 142]), (22, [143, 144]), (23, [145, 146, 147, 148, 149, 150, 151, 152, 153, 154, 155, 156, 157]), (24, [158, 159]), (25, [160]), (26, [162, 163, 164, 165, 166])]
@[go_sem] def kl73 : List (Nat × List Nat) := [(1, [19, 20, 21, 22, 23, 24, 25, 26, 27]), (2, [29]), (6, [31, 32]), (7, [33]), (8, [35, 36, 37, 38]), (9, [39, 40]), (10, [41, 42, 43]), (11, [44, 45]), (12, [47, 48]), (13, [49, 50, 51, 52, 53, 54]), (14, [55, 56, 57]), (15, [58, 59]), (16, [60, 61, 62, 63]), (17, [64, 65]), (18, [66, 67]), (19, [69, 70]), (20, [71, 72, 73]), (21, [74, 75, 76, 77, 78, 79, 80, 81]), (22, [82]), (23, [83, 84]), (24, [85, 86, 87, 88]), (26, [90, 91]), (27, [92, 93]), (29, [95, 96, 97, 98]), (30, [99, 100, 101])]
@[go_sem] def kl75 : List (Nat × List Nat) := [(1, [5, 6, 7, 8, 9, 10, 11, 12, 13, 14, 15, 16, 17])]
@[go_sem] def kl77 : List (Nat × List Nat) := [(3, [9, 10, 11]), (4, [13, 14]), (5, [15, 16, 17, 18, 19, 20, 21]), (7, [22, 23]), (8, [24]), (9, [26, 27]), (10, [28, 29]), (11, [31, 32, 33]), (12, [34, 35, 36]), (13, [37, 38])]
@[go_sem] def kl78 : List (Nat × List Nat) := [(1, [3, 4, 5])]
@[go_sem] def kl79 : List (Nat × List Nat) := [(1, [3]), (2, [5, 6]), (4, [7]), (5, [9, 10]), (6, [11, 12]), (7, [13]), (8, [15, 16]), (9, [17, 18]), (10, [19, 20, 21, 22, 23, 24])]
@[go_sem] def kl80 : List (Nat × List Nat) := []
@[go_sem] def kl81 : List (Nat × List Nat) := [(1, [3, 4, 5, 6, 7])]
@[go_sem] def kl82 : List (Nat × List Nat) := [(1, [3, 4, 5]), (2, [6, 7])]
@[go_sem] def kl83 : List (Nat × List Nat) := [(1, [3]), (3, [5, 6, 7, 8, 9, 10, 11, 12, 13])]
@[go_sem] def kl84 : List (Nat × List Nat) := [(1, [3]), (3, [5, 6, 7, 8, 9, 10, 11, 12, 13])]
@[go_sem] def kl109 : List (Nat × List Nat) := [(0, [0]), (1, [1]), (2, [2]), (3, [3, 4, 5, 6, 7, 8])]
theorem pw_loop_over {P : Program} {Q : Exit → AS → Prop} {s : AS} {α : Type} {c : Code} (dead : List Nat) (L : α → List (Nat × PV)) (hp : α → List (Nat × Blk)) (nx : Nat) (J : α → Prop) (μ : α → Nat) (x0 : α) (h0 : J x0) (hf : Fits s ⟨over (wipe s.fr dead) (L x0), hp x0, nx⟩)
    (round : ∀ x, J x → PW P c (thenA (fun s' => ∃ x', J x' ∧ μ x' < μ x ∧ Fits s' ⟨over (wipe s.fr dead) (L x'), hp x', nx⟩) Q) ⟨over (wipe s.fr dead) (L x), hp x, nx⟩) : PW P (.loop c) Q s :=
  pw_loop (fun x => ⟨over (wipe s.fr dead) (L x), hp x, nx⟩) J μ x0 h0 hf round

/-- the truth of a proposition, as a bool -/
noncomputable def bP (p : Prop) : Bool := @decide p (Classical.propDecidable p)
theorem bP_true {p : Prop} (h : p) : bP p = true := by unfold bP; exact @decide_eq_true _ (Classical.propDecidable p) h
theorem bP_false {p : Prop} (h : ¬ p) : bP p = false := by unfold bP; exact @decide_eq_false _ (Classical.propDecidable p) h
theorem bP_iff {p : Prop} : bP p = true ↔ p := by unfold bP; exact @decide_eq_true_iff p (Classical.propDecidable p)
end Go.Proofs.YtjgpbbdapjjmiaaDoor
