/-
  The table of the program's types, for the abstract machine.
-/
import Derived.Test.YthocihmhljmgdaaGreatDoorProg
import Derived.Test.YthocihmhljmgdaaGreatDoorZM11
namespace Go.Proofs.YthocihmhljmgdaaGreatDoor
open Go.RowKit
def G : List (Nat × TI) := [(2, .num .i64), (3, .num .i64), (4, .bol), (5, .num .u8), (6, .num .u8), (7, .st 4 [(0, 1), (1, 1), (2, 1), (3, 1)] [.int .i64 0, .int .i64 0, .bool false, .int .u8 0]), (8, .st 4 [(0, 1), (1, 1), (2, 1), (3, 1)] [.int .i64 0, .int .i64 0, .bool false, .int .u8 0]), (9, .str), (10, .str), (11, .str), (12, .num .u64), (13, .st 2 [(0, 1), (1, 1)] [.str ⟨#[]⟩, .int .u64 0]), (14, .st 2 [(0, 1), (1, 1)] [.str ⟨#[]⟩, .int .u64 0]), (21, .num .i32), (22, .slc 5 1 1 [.int .u8 0]), (24, .slc 64 3 24 [.int .i64 0, .int .i64 0, .int .i64 0]), (31, .slc 3 1 8 [.int .i64 0]), (39, .slc 92 2 32 [.int .i64 0, .lst 1 []]), (51, .slc 53 2 16 [.int .i64 0, .int .i64 0]), (52, .st 2 [(0, 1), (1, 1)] [.int .i64 0, .int .i64 0]), (53, .st 2 [(0, 1), (1, 1)] [.int .i64 0, .int .i64 0]), (63, .st 3 [(0, 1), (1, 1), (2, 1)] [.int .i64 0, .int .i64 0, .int .i64 0]), (64, .st 3 [(0, 1), (1, 1), (2, 1)] [.int .i64 0, .int .i64 0, .int .i64 0]), (77, .slc 9 1 16 [.str ⟨#[]⟩]), (85, .num .u64), (86, .st 3 [(0, 1), (1, 1), (2, 1)] [.lst 1 [], .int .i64 0, .int .u64 0]), (87, .st 3 [(0, 1), (1, 1), (2, 1)] [.lst 1 [], .int .i64 0, .int .u64 0]), (91, .st 2 [(0, 1), (1, 1)] [.int .i64 0, .lst 1 []]), (92, .st 2 [(0, 1), (1, 1)] [.int .i64 0, .lst 1 []]), (110, .slc 31 1 24 [.lst 1 []]), (125, .num .u64), (140, .num .i64), (147, .num .u32), (158, .num .u64), (166, .arr 24 1 [.int .u8 0, .int .u8 0, .int .u8 0, .int .u8 0, .int .u8 0, .int .u8 0, .int .u8 0, .int .u8 0, .int .u8 0, .int .u8 0, .int .u8 0, .int .u8 0, .int .u8 0, .int .u8 0, .int .u8 0, .int .u8 0, .int .u8 0, .int .u8 0, .int .u8 0, .int .u8 0, .int .u8 0, .int .u8 0, .int .u8 0, .int .u8 0]), (177, .arr 20 1 [.int .u64 0, .int .u64 0, .int .u64 0, .int .u64 0, .int .u64 0, .int .u64 0, .int .u64 0, .int .u64 0, .int .u64 0, .int .u64 0, .int .u64 0, .int .u64 0, .int .u64 0, .int .u64 0, .int .u64 0, .int .u64 0, .int .u64 0, .int .u64 0, .int .u64 0, .int .u64 0]), (180, .st 2 [(0, 1), (1, 1)] [.int .u8 0, .int .u8 0]), (181, .st 2 [(0, 1), (1, 1)] [.int .u8 0, .int .u8 0]), (182, .arr 16 2 [.int .u8 0, .int .u8 0, .int .u8 0, .int .u8 0, .int .u8 0, .int .u8 0, .int .u8 0, .int .u8 0, .int .u8 0, .int .u8 0, .int .u8 0, .int .u8 0, .int .u8 0, .int .u8 0, .int .u8 0, .int .u8 0, .int .u8 0, .int .u8 0, .int .u8 0, .int .u8 0, .int .u8 0, .int .u8 0, .int .u8 0, .int .u8 0, .int .u8 0, .int .u8 0, .int .u8 0, .int .u8 0, .int .u8 0, .int .u8 0, .int .u8 0, .int .u8 0]), (185, .arr 32 1 [.int .u8 0, .int .u8 0, .int .u8 0, .int .u8 0, .int .u8 0, .int .u8 0, .int .u8 0, .int .u8 0, .int .u8 0, .int .u8 0, .int .u8 0, .int .u8 0, .int .u8 0, .int .u8 0, .int .u8 0, .int .u8 0, .int .u8 0, .int .u8 0, .int .u8 0, .int .u8 0, .int .u8 0, .int .u8 0, .int .u8 0, .int .u8 0, .int .u8 0, .int .u8 0, .int .u8 0, .int .u8 0, .int .u8 0, .int .u8 0, .int .u8 0, .int .u8 0]), (186, .arr 64 1 [.int .u8 0, .int .u8 0, .int .u8 0, .int .u8 0, .int .u8 0, .int .u8 0, .int .u8 0, .int .u8 0, .int .u8 0, .int .u8 0, .int .u8 0, .int .u8 0, .int .u8 0, .int .u8 0, .int .u8 0, .int .u8 0, .int .u8 0, .int .u8 0, .int .u8 0, .int .u8 0, .int .u8 0, .int .u8 0, .int .u8 0, .int .u8 0, .int .u8 0, .int .u8 0, .int .u8 0, .int .u8 0, .int .u8 0, .int .u8 0, .int .u8 0, .int .u8 0, .int .u8 0, .int .u8 0, .int .u8 0, .int .u8 0, .int .u8 0, .int .u8 0, .int .u8 0, .int .u8 0, .int .u8 0, .int .u8 0, .int .u8 0, .int .u8 0, .int .u8 0, .int .u8 0, .int .u8 0, .int .u8 0, .int .u8 0, .int .u8 0, .int .u8 0, .int .u8 0, .int .u8 0, .int .u8 0, .int .u8 0, .int .u8 0, .int .u8 0, .int .u8 0, .int .u8 0, .int .u8 0, .int .u8 0, .int .u8 0, .int .u8 0, .int .u8 0]), (192, .num .u8), (193, .num .u8), (195, .num .i32), (196, .num .i32)]
theorem G_ok : GOK Tryz.prog G := GOK.of_all (by kernel_rfl)
@[go_sem] theorem G2 : tget G 2 = some (.num .i64) := rfl
@[go_sem] theorem G3 : tget G 3 = some (.num .i64) := rfl
@[go_sem] theorem G4 : tget G 4 = some (.bol) := rfl
@[go_sem] theorem G5 : tget G 5 = some (.num .u8) := rfl
@[go_sem] theorem G6 : tget G 6 = some (.num .u8) := rfl
@[go_sem] theorem G7 : tget G 7 = some (.st 4 [(0, 1), (1, 1), (2, 1), (3, 1)] [.int .i64 0, .int .i64 0, .bool false, .int .u8 0]) := rfl
@[go_sem] theorem G8 : tget G 8 = some (.st 4 [(0, 1), (1, 1), (2, 1), (3, 1)] [.int .i64 0, .int .i64 0, .bool false, .int .u8 0]) := rfl
@[go_sem] theorem G9 : tget G 9 = some (.str) := rfl
@[go_sem] theorem G10 : tget G 10 = some (.str) := rfl
@[go_sem] theorem G11 : tget G 11 = some (.str) := rfl
@[go_sem] theorem G12 : tget G 12 = some (.num .u64) := rfl
@[go_sem] theorem G13 : tget G 13 = some (.st 2 [(0, 1), (1, 1)] [.str ⟨#[]⟩, .int .u64 0]) := rfl
@[go_sem] theorem G14 : tget G 14 = some (.st 2 [(0, 1), (1, 1)] [.str ⟨#[]⟩, .int .u64 0]) := rfl
@[go_sem] theorem G21 : tget G 21 = some (.num .i32) := rfl
@[go_sem] theorem G22 : tget G 22 = some (.slc 5 1 1 [.int .u8 0]) := rfl
@[go_sem] theorem G24 : tget G 24 = some (.slc 64 3 24 [.int .i64 0, .int .i64 0, .int .i64 0]) := rfl
@[go_sem] theorem G31 : tget G 31 = some (.slc 3 1 8 [.int .i64 0]) := rfl
@[go_sem] theorem G39 : tget G 39 = some (.slc 92 2 32 [.int .i64 0, .lst 1 []]) := rfl
@[go_sem] theorem G51 : tget G 51 = some (.slc 53 2 16 [.int .i64 0, .int .i64 0]) := rfl
@[go_sem] theorem G52 : tget G 52 = some (.st 2 [(0, 1), (1, 1)] [.int .i64 0, .int .i64 0]) := rfl
@[go_sem] theorem G53 : tget G 53 = some (.st 2 [(0, 1), (1, 1)] [.int .i64 0, .int .i64 0]) := rfl
@[go_sem] theorem G63 : tget G 63 = some (.st 3 [(0, 1), (1, 1), (2, 1)] [.int .i64 0, .int .i64 0, .int .i64 0]) := rfl
@[go_sem] theorem G64 : tget G 64 = some (.st 3 [(0, 1), (1, 1), (2, 1)] [.int .i64 0, .int .i64 0, .int .i64 0]) := rfl
@[go_sem] theorem G77 : tget G 77 = some (.slc 9 1 16 [.str ⟨#[]⟩]) := rfl
@[go_sem] theorem G85 : tget G 85 = some (.num .u64) := rfl
@[go_sem] theorem G86 : tget G 86 = some (.st 3 [(0, 1), (1, 1), (2, 1)] [.lst 1 [], .int .i64 0, .int .u64 0]) := rfl
@[go_sem] theorem G87 : tget G 87 = some (.st 3 [(0, 1), (1, 1), (2, 1)] [.lst 1 [], .int .i64 0, .int .u64 0]) := rfl
@[go_sem] theorem G91 : tget G 91 = some (.st 2 [(0, 1), (1, 1)] [.int .i64 0, .lst 1 []]) := rfl
@[go_sem] theorem G92 : tget G 92 = some (.st 2 [(0, 1), (1, 1)] [.int .i64 0, .lst 1 []]) := rfl
@[go_sem] theorem G110 : tget G 110 = some (.slc 31 1 24 [.lst 1 []]) := rfl
@[go_sem] theorem G125 : tget G 125 = some (.num .u64) := rfl
@[go_sem] theorem G140 : tget G 140 = some (.num .i64) := rfl
@[go_sem] theorem G147 : tget G 147 = some (.num .u32) := rfl
@[go_sem] theorem G158 : tget G 158 = some (.num .u64) := rfl
@[go_sem] theorem G166 : tget G 166 = some (.arr 24 1 [.int .u8 0, .int .u8 0, .int .u8 0, .int .u8 0, .int .u8 0, .int .u8 0, .int .u8 0, .int .u8 0, .int .u8 0, .int .u8 0, .int .u8 0, .int .u8 0, .int .u8 0, .int .u8 0, .int .u8 0, .int .u8 0, .int .u8 0, .int .u8 0, .int .u8 0, .int .u8 0, .int .u8 0, .int .u8 0, .int .u8 0, .int .u8 0]) := rfl
@[go_sem] theorem G177 : tget G 177 = some (.arr 20 1 [.int .u64 0, .int .u64 0, .int .u64 0, .int .u64 0, .int .u64 0, .int .u64 0, .int .u64 0, .int .u64 0, .int .u64 0, .int .u64 0, .int .u64 0, .int .u64 0, .int .u64 0, .int .u64 0, .int .u64 0, .int .u64 0, .int .u64 0, .int .u64 0, .int .u64 0, .int .u64 0]) := rfl
@[go_sem] theorem G180 : tget G 180 = some (.st 2 [(0, 1), (1, 1)] [.int .u8 0, .int .u8 0]) := rfl
@[go_sem] theorem G181 : tget G 181 = some (.st 2 [(0, 1), (1, 1)] [.int .u8 0, .int .u8 0]) := rfl
@[go_sem] theorem G182 : tget G 182 = some (.arr 16 2 [.int .u8 0, .int .u8 0, .int .u8 0, .int .u8 0, .int .u8 0, .int .u8 0, .int .u8 0, .int .u8 0, .int .u8 0, .int .u8 0, .int .u8 0, .int .u8 0, .int .u8 0, .int .u8 0, .int .u8 0, .int .u8 0, .int .u8 0, .int .u8 0, .int .u8 0, .int .u8 0, .int .u8 0, .int .u8 0, .int .u8 0, .int .u8 0, .int .u8 0, .int .u8 0, .int .u8 0, .int .u8 0, .int .u8 0, .int .u8 0, .int .u8 0, .int .u8 0]) := rfl
@[go_sem] theorem G185 : tget G 185 = some (.arr 32 1 [.int .u8 0, .int .u8 0, .int .u8 0, .int .u8 0, .int .u8 0, .int .u8 0, .int .u8 0, .int .u8 0, .int .u8 0, .int .u8 0, .int .u8 0, .int .u8 0, .int .u8 0, .int .u8 0, .int .u8 0, .int .u8 0, .int .u8 0, .int .u8 0, .int .u8 0, .int .u8 0, .int .u8 0, .int .u8 0, .int .u8 0, .int .u8 0, .int .u8 0, .int .u8 0, .int .u8 0, .int .u8 0, .int .u8 0, .int .u8 0, .int .u8 0, .int .u8 0]) := rfl
@[go_sem] theorem G186 : tget G 186 = some (.arr 64 1 [.int .u8 0, .int .u8 0, .int .u8 0, .int .u8 0, .int .u8 0, .int .u8 0, .int .u8 0, .int .u8 0, .int .u8 0, .int .u8 0, .int .u8 0, .int .u8 0, .int .u8 0, .int .u8 0, .int .u8 0, .int .u8 0, .int .u8 0, .int .u8 0, .int .u8 0, .int .u8 0, .int .u8 0, .int .u8 0, .int .u8 0, .int .u8 0, .int .u8 0, .int .u8 0, .int .u8 0, .int .u8 0, .int .u8 0, .int .u8 0, .int .u8 0, .int .u8 0, .int .u8 0, .int .u8 0, .int .u8 0, .int .u8 0, .int .u8 0, .int .u8 0, .int .u8 0, .int .u8 0, .int .u8 0, .int .u8 0, .int .u8 0, .int .u8 0, .int .u8 0, .int .u8 0, .int .u8 0, .int .u8 0, .int .u8 0, .int .u8 0, .int .u8 0, .int .u8 0, .int .u8 0, .int .u8 0, .int .u8 0, .int .u8 0, .int .u8 0, .int .u8 0, .int .u8 0, .int .u8 0, .int .u8 0, .int .u8 0, .int .u8 0, .int .u8 0]) := rfl
@[go_sem] theorem G192 : tget G 192 = some (.num .u8) := rfl
@[go_sem] theorem G193 : tget G 193 = some (.num .u8) := rfl
@[go_sem] theorem G195 : tget G 195 = some (.num .i32) := rfl
@[go_sem] theorem G196 : tget G 196 = some (.num .i32) := rfl
theorem mixed : Tryz.prog.follows .mixedOrders = true := by kernel_rfl

theorem retQ_ret {G : List (Nat × TI)} {fn : Func} {Post : List RV → Prop} {s : AS} {xs : List PV} {rs : List RV} (h1 : retPVs G s fn.results.toList = some xs) (h2 : retL s.hp xs = some rs) (h3 : (rowsOf xs).Nodup) (h4 : Post rs) : retQ G fn Post .ret s := ⟨xs, rs, h1, h2, h3, h4⟩
/-- slots given anew -/
def over : Fr → List (Nat × PV) → Fr
  | f, [] => f
  | f, (t, x) :: r => over ⟨f.n, ins f.l t x⟩ r
/-- slots forgotten behind a region: a table -/
def tlook : List (Nat × List Nat) → Nat → List Nat
  | [], _ => []
  | (k, ts) :: r, i => if i = k then ts else tlook r i
def forget (T : List (Nat × List Nat)) (id : Nat) (s : AS) : AS := ⟨wipe s.fr (tlook T id), s.hp, s.nx⟩
theorem pw_forget {P : Program} {c : Code} {Q : Exit → AS → Prop} {s : AS} (T : List (Nat × List Nat)) (id : Nat) (h : PW P c Q (forget T id s)) : PW P c Q s := fun X0 w0 m a w hs => h X0 w0 m a w (hs.wipe _)
theorem pw_seq_ops {P : Program} {G : List (Nat × TI)} (hG : GOK P G) {Q : Exit → AS → Prop} {s : AS} {id : Nat} {l : List Oper} {y : Code} (h : ∀ K : AS → Prop, (∀ s', PW P y Q s' → K s') → execL P G l.toArray l K s) : PW P (.seq (.region id l.toArray false) y) Q s :=
  pw_seq_k fun _ hK => pw_ops hG fun K' hK' => h K' fun s' h' => hK' s' (hK s' h')
theorem pw_seq_opsK {P : Program} {G : List (Nat × TI)} (T : List (Nat × List Nat)) (hG : GOK P G) {Q : Exit → AS → Prop} {s : AS} {id : Nat} {l : List Oper} {y : Code} (h : ∀ K : AS → Prop, (∀ s', PW P y Q (forget T id s') → K s') → execL P G l.toArray l K s) : PW P (.seq (.region id l.toArray false) y) Q s :=
  pw_seq_ops hG fun K hK => h K fun s' h' => hK s' (pw_forget T id h')
theorem pw_seq_drawK {P : Program} {G : List (Nat × TI)} (T : List (Nat × List Nat)) {Q : Exit → AS → Prop} {s : AS} {id : Nat} {l : List Oper} {y : Code} (hG : GOK P G) (hm : P.follows .mixedOrders = true) (hB : Region.lexB .any l.toArray = true) (h : ∀ K : AS → Prop, (∀ s', PW P y Q (forget T id s') → K s') → quietL P G l.toArray l K s) : PW P (.seq (.region id l.toArray true) y) Q s :=
  pw_seq_draw hG hm hB fun K hK => h K fun s' h' => hK s' (pw_forget T id h')
theorem pw_seq_tailK {P : Program} {G : List (Nat × TI)} (T : List (Nat × List Nat)) {Q : Exit → AS → Prop} {s : AS} {id : Nat} {l : List Oper} {y : Code} (hG : GOK P G) (p n : Nat) (hm : P.follows .mixedOrders = true) (hB : tailB l.toArray p n = true) (h : ∀ K : AS → Prop, (∀ s', PW P y Q (forget T id s') → K s') → quietL P G l.toArray (l.take n) (execL P G l.toArray (l.drop n) K) s) : PW P (.seq (.region id l.toArray true) y) Q s :=
  pw_seq_tail hG p n hm hB fun K hK => h K fun s' h' => hK s' (pw_forget T id h')
/-- a region in any order: from s, with these operations done, it leads into K -/
def AnyP (P : Program) (ops : Array Oper) (K : AS → Prop) (fuel : Nat) (listed : Array Bool) (s : AS) : Prop :=
  ∀ (X0 : Nat → Prop) (w0 : Base) (m : Mp) (a : Act) (w : World) (Q' : Exit → Act → World → Prop), (∀ m' s' a' w', K s' → Sim X0 w0 m' s' a' w' → Q' .normal a' w') → Sim X0 w0 m s a w → wpAny P .any ops Q' fuel listed a w
theorem any_done {P : Program} {ops : Array Oper} {K : AS → Prop} {fuel : Nat} {listed : Array Bool} {s : AS} (hR : Region.ready .any ops listed = []) (h : K s) : AnyP P ops K fuel listed s := by
  intro X0 w0 m a w Q' hQ hs
  cases fuel with
  | zero => exact ⟨hR, hQ m s a w h hs⟩
  | succ n => exact ⟨fun _ => hQ m s a w h hs, fun i hi => by rw [hR] at hi; cases hi⟩
theorem any_op {P : Program} {ops : Array Oper} {K : AS → Prop} {o : Oper} {i : Nat} {s : AS} {X0 : Nat → Prop} {w0 : Base} {m : Mp} {a : Act} {w : World} {Q' : Exit → Act → World → Prop} {A : Act → World → Prop} (ho : ops[i]? = some o) (h : PL P ops [o] K s) (hs : Sim X0 w0 m s a w)
    (hK : ∀ m' s' a' w', K s' → Sim X0 w0 m' s' a' w' → A a' w') : wpOp P ops Q' i A a w := by
  have step : ∀ s, Sim X0 w0 m s a w → PO P o s K → o.wp P a w A Q' := by
    intro s hs h1
    exact Oper.wp_mono (fun a' w' ⟨m', s', h2, h3⟩ => hK m' s' a' w' h2 h3) (h1 X0 w0 m a w Q' hs)
  unfold wpOp
  simp only [ho]
  simp only [PL] at h
  split at h
  · rename_i hg
    simp only [Region.wanted, hg, if_true]
    exact .inl (step s hs h)
  · rename_i j want hg
    rcases h with ⟨b, h1, h2, h3⟩ | ⟨h1, h3⟩
    · have hy : yielded ops a.tmps j = some b := by
        unfold yB at h1
        cases hd : (ops[j]?).bind (·.dst) with
        | none => rw [hd] at h1; cases h1
        | some t =>
          rw [hd] at h1
          have h4 := hs.get (.tmp t)
          have h1' : lk s.fr.l t = .d (.bool b) := h1
          simp only [AS.get] at h4
          rw [h1'] at h4
          have h5 : a.tmps.getD t undef = .bool b := h4.bool
          have h6 : a.tmps[t]? = some (.bool b) := by
            rw [Array.getD_eq_getD_getElem?] at h5
            cases ht : a.tmps[t]? with
            | none => rw [ht] at h5; cases h5
            | some u => rw [ht] at h5; simp at h5; rw [h5]
          unfold yielded
          rw [hd]
          simp [h6]
      simp only [Region.wanted, hg, hy]
      by_cases hb : b = want
      · subst hb
        simp only [beq_self_eq_true, if_true]
        exact .inl (step s hs (h2 rfl))
      · have : (some b == some want) = false := by simpa using hb
        simp only [this, Bool.false_eq_true, if_false]
        exact hK _ _ _ _ (h3 hb) (hs.put (tup0 _ _ _) o.dst)
    · have hy : yielded ops a.tmps j = none := by
        unfold yB at h1
        cases hd : (ops[j]?).bind (·.dst) with
        | none => rw [hd] at h1; cases h1
        | some t =>
          rw [hd] at h1
          have h4 := hs.get (.tmp t)
          have h1' : lk s.fr.l t = .tup [] := h1
          simp only [AS.get] at h4
          rw [h1'] at h4
          have h5 : ∀ b, a.tmps.getD t undef ≠ .bool b := by
            intro b he
            have h4' : R m (Owned X0 m s.hp) w (.tup []) (a.tmps.getD t undef) := h4
            rw [he] at h4'
            cases h4'
          unfold yielded
          rw [hd]
          simp only [Option.bind_some]
          split
          · rename_i b hb
            exact absurd (by rw [Array.getD_eq_getD_getElem?, hb]; rfl) (h5 b)
          · rfl
      simp only [Region.wanted, hg, hy]
      have : ((none : Option Bool) == some want) = false := rfl
      simp only [this, Bool.false_eq_true, if_false]
      exact hK _ _ _ _ h3 (hs.put (tup0 _ _ _) o.dst)
/-- all that may come next -/
def AllR (P : Program) (G : List (Nat × TI)) (l : List Oper) (K : AS → Prop) (fuel : Nat) (listed : Array Bool) (s : AS) : List Nat → Prop
  | [] => True
  | i :: r => (∃ o, l[i]? = some o ∧ ∀ K' : AS → Prop, (∀ s', AnyP P l.toArray K fuel (listed.setIfInBounds i true) s' → K' s') → step1 false P G l.toArray o s K') ∧ AllR P G l K fuel listed s r
theorem any_step {P : Program} {G : List (Nat × TI)} (hG : GOK P G) (R : List Nat) {l : List Oper} {K : AS → Prop} {fuel : Nat} {listed : Array Bool} {s : AS} (hR : Region.ready .any l.toArray listed = R) (hne : R.isEmpty = false) (h : AllR P G l K fuel listed s R) : AnyP P l.toArray K (fuel + 1) listed s := by
  intro X0 w0 m a w Q' hQ hs
  refine ⟨fun h0 => (by rw [hR] at h0; subst h0; cases hne), fun i hi => ?_⟩
  rw [hR] at hi
  have key : ∀ R : List Nat, AllR P G l K fuel listed s R → ∀ i ∈ R, ∃ o, l[i]? = some o ∧ ∀ K' : AS → Prop, (∀ s', AnyP P l.toArray K fuel (listed.setIfInBounds i true) s' → K' s') → step1 false P G l.toArray o s K' := by
    intro R
    induction R with
    | nil => intro _ i hi; cases hi
    | cons j r ih =>
      rintro ⟨h1, h2⟩ i hi
      rcases List.mem_cons.1 hi with rfl | hi
      · exact h1
      · exact ih h2 i hi
  obtain ⟨o, ho, h1⟩ := key R h i hi
  have h2 : execL P G l.toArray [o] (AnyP P l.toArray K fuel (listed.setIfInBounds i true)) s := execL_step fun K' hK' => h1 K' fun s' hs' => hK' s' hs'
  exact any_op (by simpa using ho) (execL_sound hG _ _ _ h2) hs fun m' s' a' w' h3 h4 => h3 X0 w0 m' a' w' Q' hQ h4
theorem pw_any {P : Program} {Q : Exit → AS → Prop} {s : AS} {id : Nat} {l : List Oper} (hm : P.follows .mixedOrders = true) (h : AnyP P l.toArray (Q .normal) l.length (Array.replicate l.length false) s) : PW P (.region id l.toArray true) Q s := by
  intro X0 w0 m a w hs
  refine wp_region_any hm ?_
  have := h X0 w0 m a w.drew (fun e a' w' => ∃ m' s', Q e s' ∧ Sim X0 w0 m' s' a' w') (fun m' s' a' w' h1 h2 => ⟨m', s', h1, h2⟩) hs.drew
  simpa using this
theorem pw_seq_any_to {P : Program} (T : List (Nat × List Nat)) {Q : Exit → AS → Prop} {s s1 : AS} {id : Nat} {l : List Oper} {y : Code} (hm : P.follows .mixedOrders = true)
    (h : AnyP P l.toArray (fun s' => forget T id s' = s1 ∨ Fits (forget T id s') s1) l.length (Array.replicate l.length false) s) (h2 : PW P y Q s1) : PW P (.seq (.region id l.toArray true) y) Q s :=
  pw_seq_k fun K hK => pw_any hm fun X0 w0 m a w Q' hQ hs => h X0 w0 m a w Q' (fun m' s' a' w' h3 h4 => hQ m' s' a' w' (hK s' (pw_forget T id (by
    rcases h3 with h3 | h3
    · rw [h3]; exact h2
    · exact pw_fits h3 h2))) h4) hs
@[congr] theorem PW_congr {P : Program} {c : Code} {Q : Exit → AS → Prop} {s s' : AS} (h : s = s') : PW P c Q s = PW P c Q s' := by subst h; rfl
attribute [go_sem] forget tlook
/-- steps that leave a continuation -/
class StpK (a : Prop) (A : outParam (AS → Prop)) (b : outParam ((AS → Prop) → Prop)) : Prop where
  mp : (∀ K : AS → Prop, (∀ s', A s' → K s') → b K) → a
theorem stq {a : Prop} {A : AS → Prop} {b : (AS → Prop) → Prop} [i : StpK a A b] (h : ∀ K : AS → Prop, (∀ s', A s' → K s') → b K) : a := i.mp h
/-- a test, by what its slot holds -/
def cK (y : PV) (A B : Prop) : Prop := match y with
  | .d (.bool b) => pK b A B
  | _ => False
@[congr] theorem cK_congr {y y' : PV} {A B : Prop} (h : y = y') : cK y A B = cK y' A B := by subst h; rfl
class StpC (a : Prop) (b : outParam Prop) : Prop where
  mp : b → a
theorem stc {a b : Prop} [i : StpC a b] (h : b) : a := i.mp h
section
variable {P : Program} {G : List (Nat × TI)} {ops : Array Oper} {s : AS} {K : AS → Prop} {Q : Exit → AS → Prop} {x y z : Code} {id : Nat} {rest : List Oper} {d : Option Tmp} {op : Op} {t : TypeId} {pos : String} {af : Array Edge} {c : Operand}
instance : StpK (execL P G ops (⟨d, op, t, pos, af, none⟩ :: rest) K s) (execL P G ops rest K) (fun K' => ex2 false P G ⟨d, op, t, pos, af, none⟩ s K') := ⟨fun h => execL_step fun K' hK' => s_none rfl (h K' hK')⟩
instance : StpK (quietL P G ops (⟨d, op, t, pos, af, none⟩ :: rest) K s) (quietL P G ops rest K) (fun K' => ex2 true P G ⟨d, op, t, pos, af, none⟩ s K') := ⟨fun h => quietL_step fun K' hK' => s_none rfl (h K' hK')⟩
theorem cK_of {A B : Prop} (hA : ∀ b, s.get c = .d (.bool b) → pK b A B → PW P z Q s) (h : cK (s.get c) A B) : PW P z Q s := by
  unfold cK at h
  split at h
  · rename_i b e; exact hA b e h
  · exact h.elim
instance : StpC (PW P (.cond c x y) Q s) (cK (s.get c) (PW P x Q s) (PW P y Q s)) := ⟨cK_of fun _ e h => pw_cond e h.1 h.2⟩
instance : StpC (PW P (.seq (.cond c x y) z) Q s) (cK (s.get c) (PW P x (thenA (PW P z Q) Q) s) (PW P y (thenA (PW P z Q) Q) s)) := ⟨cK_of fun _ e h => pw_seq (pw_cond e h.1 h.2)⟩
end
attribute [go_sem] cK
theorem xS {P : Program} {G : List (Nat × TI)} {ops : Array Oper} {o : Oper} {rest : List Oper} {K : AS → Prop} {s : AS} {t : Nat} {want : Bool} (hg : gOf ops o = some (t, want)) (h : ∀ K' : AS → Prop, (∀ s', execL P G ops rest K s' → K' s') → gK2 false P G o s K' t want (lk s.fr.l t)) : execL P G ops (o :: rest) K s := execL_step fun K' hK' => s_some2 hg (h K' hK')
theorem qS {P : Program} {G : List (Nat × TI)} {ops : Array Oper} {o : Oper} {rest : List Oper} {K : AS → Prop} {s : AS} {t : Nat} {want : Bool} (hg : gOf ops o = some (t, want)) (h : ∀ K' : AS → Prop, (∀ s', quietL P G ops rest K s' → K' s') → gK2 true P G o s K' t want (lk s.fr.l t)) : quietL P G ops (o :: rest) K s := quietL_step fun K' hK' => s_some2 hg (h K' hK')
theorem kN {Q : Exit → AS → Prop} {s : AS} {id : Nat} {l : List Oper} {y : Code} (T : List (Nat × List Nat)) (h : ∀ K : AS → Prop, (∀ s', PW Tryz.prog y Q (forget T id s') → K s') → execL Tryz.prog G l.toArray l K s) : PW Tryz.prog (.seq (.region id l.toArray false) y) Q s := pw_seq_opsK T G_ok h
theorem kO {Q : Exit → AS → Prop} {s : AS} {id : Nat} {l : List Oper} (h : ∀ K : AS → Prop, (∀ s', Q .normal s' → K s') → execL Tryz.prog G l.toArray l K s) : PW Tryz.prog (.region id l.toArray false) Q s := pw_ops G_ok h
/-- a break out of an inner block -/
theorem iB {Q : Exit → AS → Prop} {id id' : Nat} {s : AS} (h : Q (.exit id') s) (hne : id' ≠ id := by decide) : inBlockA id Q (.exit id') s := inBlockA_other hne h

@[go_sem] def kl2 : List (Nat × List Nat) := [(0, [0])]
@[go_sem] def kl3 : List (Nat × List Nat) := [(1, [41, 42]), (3, [44, 45]), (4, [46, 47, 48, 49, 50]), (5, [51, 52, 53, 54, 55]), (6, [56, 57, 58, 59, 60, 61, 62, 63, 64, 65, 66, 67, 68]), (9, [71, 72, 73, 74, 75]), (10, [76, 77, 78, 79, 80]), (11, [81, 82, 83, 84, 85]), (12, [86, 87, 88, 89, 90, 91, 92, 93, 94, 95, 96, 97, 98, 99, 100, 101, 102, 103, 104, 105, 106, 107, 108, 109, 110, 111, 112, 113]), (14, [115, 116, 117, 118, 119]), (15, [120, 121, 122, 123, 124, 125]), (16, [126, 127, 128, 129, 130, 131]), (17, [132, 133, 134, 135, 136, 137, 138, 139, 140, 141, 142, 143, 144, 145, 146, 147, 148, 149, 150, 151, 152, 153, 154, 155]), (19, [157, 158, 159, 160, 161]), (20, [162, 163, 164, 165, 166, 167]), (21, [168, 169, 170, 171, 172, 173]), (22, [174, 175, 176, 177, 178, 179, 180, 181]), (25, [184, 185, 186, 187, 188, 189]), (26, [190, 191, 192, 193, 194, 195, 196, 197, 198, 199, 200, 201]), (28, [203, 204, 205, 206, 207]), (29, [208, 209, 210, 211, 212, 213]), (30, [214, 215, 216, 217, 218, 219]), (31, [220, 221]), (32, [222, 223, 224, 225, 226]), (33, [227, 228, 229, 230, 231]), (34, [232, 233, 234, 235, 236, 237, 238, 239, 240, 241, 242, 243, 244, 245, 246, 247, 248, 249])]
@[go_sem] def kl4 : List (Nat × List Nat) := [(1, [39, 40]), (3, [42, 43, 44, 45, 46, 47, 48]), (4, [49, 50, 51, 52, 53, 54, 55, 56]), (5, [57, 58, 59, 60, 61, 62, 63, 64]), (6, [65, 66, 67, 68, 69, 70, 71, 72]), (9, [75, 76, 77, 78]), (13, [84, 85]), (14, [86, 87, 88]), (16, [90]), (17, [91, 92, 93, 94]), (20, [99, 100, 101]), (23, [106, 107, 108]), (24, [109, 110, 111, 112, 113, 114, 115, 116, 117, 118, 119, 120, 121, 122, 123, 124, 125, 126, 127, 128, 129, 130, 131, 132, 133, 134]), (26, [136]), (27, [137]), (28, [138, 139, 140, 141, 142, 143]), (29, [144, 145, 146, 147, 148, 149, 150]), (30, [151, 152, 153, 154, 155, 156, 157]), (31, [158, 159, 160, 161, 162, 163, 164, 165, 166, 167, 168, 169, 170, 171, 172, 173, 174, 175, 176, 177, 178, 179, 180, 181, 182, 183, 184]), (33, [186, 187]), (34, [188, 189, 190, 191, 192]), (35, [193, 194, 195, 196, 197]), (36, [198, 199, 200, 201, 202, 203, 204]), (39, [207, 208, 209, 210, 211]), (40, [212, 213, 214, 215, 216, 217, 218]), (42, [220, 221]), (43, [222, 223, 224, 225, 226]), (44, [227, 228, 229, 230, 231]), (45, [232, 233, 234, 235, 236, 237, 238, 239])]
@[go_sem] def kl5 : List (Nat × List Nat) := [(1, [5, 6, 7, 8, 9, 10, 11, 12, 13, 14, 15])]
@[go_sem] def kl6 : List (Nat × List Nat) := [(1, [3, 4])]
@[go_sem] def kl7 : List (Nat × List Nat) := [(1, [7, 8]), (6, [14, 15]), (7, [16, 17, 18, 19, 20, 21, 22, 23, 24, 25]), (8, [26]), (9, [27])]
@[go_sem] def kl8 : List (Nat × List Nat) := [(1, [4, 5]), (3, [7, 8])]
@[go_sem] def kl9 : List (Nat × List Nat) := [(3, [9, 10, 11]), (4, [12, 13, 14, 15, 16, 17, 18, 19, 20, 21, 22, 23, 24, 25, 26, 27, 28, 29, 30, 31, 32, 33, 34]), (6, [36, 37]), (7, [39, 40, 41, 42, 43, 44, 45, 46, 47, 48, 49, 50, 51, 52, 53]), (9, [55]), (10, [56, 57, 58])]
@[go_sem] def kl10 : List (Nat × List Nat) := [(1, [11, 12, 13, 14, 15]), (2, [16, 17, 18, 19, 20, 21]), (4, [23]), (7, [28, 29]), (8, [30, 31, 32, 33, 34, 35]), (9, [36, 37, 38, 39, 40, 41]), (11, [43, 44, 45, 46, 47, 48, 49, 50, 51, 52, 53, 54, 55]), (12, [56]), (13, [57, 58]), (15, [60])]
@[go_sem] def kl11 : List (Nat × List Nat) := [(1, [9, 10, 11, 12, 13, 14, 15]), (3, [17]), (6, [22, 23]), (7, [24, 25, 26]), (8, [28, 29, 30, 31, 32]), (9, [33]), (10, [34, 35]), (11, [36])]
@[go_sem] def kl12 : List (Nat × List Nat) := [(1, [9, 10, 11, 12, 13, 14, 15]), (6, [21, 22]), (7, [23, 24, 25]), (8, [27, 28, 29, 30]), (9, [31]), (10, [32])]
@[go_sem] def kl13 : List (Nat × List Nat) := [(1, [6, 7, 8, 9]), (3, [11]), (5, [15]), (6, [16, 17, 18, 19, 20, 21, 22, 23]), (8, [25])]
@[go_sem] def kl14 : List (Nat × List Nat) := [(1, [6, 7, 8, 9]), (3, [11]), (5, [15]), (6, [16, 17, 18, 19, 20, 21, 22, 23]), (8, [25])]
@[go_sem] def kl15 : List (Nat × List Nat) := [(1, [6, 7, 8]), (2, [9, 10]), (3, [11, 12, 13, 14, 15, 16, 17]), (4, [19, 20, 21, 22, 23, 24, 25, 26, 27]), (5, [28, 29, 30])]
@[go_sem] def kl16 : List (Nat × List Nat) := [(1, [9, 10, 11, 12, 13, 14, 15, 16]), (3, [18]), (6, [23, 24]), (7, [25, 26, 27]), (8, [29, 30, 31, 32]), (9, [33]), (10, [34])]
@[go_sem] def kl17 : List (Nat × List Nat) := [(1, [9, 10]), (6, [16, 17]), (7, [18, 19, 20]), (8, [22, 23, 24, 25]), (9, [26]), (10, [27, 28, 29, 30]), (12, [32])]
@[go_sem] def kl18 : List (Nat × List Nat) := [(1, [9, 10, 11]), (2, [12, 13]), (6, [18, 19]), (7, [20, 21, 22, 23, 24]), (8, [25]), (9, [26, 27, 28, 29])]
@[go_sem] def kl19 : List (Nat × List Nat) := [(1, [13, 14, 15, 16, 17, 18, 19]), (3, [21]), (6, [26, 27]), (7, [28, 29, 30]), (8, [31]), (10, [35]), (11, [11, 36, 37, 38, 39, 40, 41, 42, 43]), (13, [45, 46, 47]), (14, [48]), (15, [49, 50, 51, 52, 53, 54, 55]), (16, [56]), (17, [57])]
@[go_sem] def kl20 : List (Nat × List Nat) := [(1, [6, 7, 8, 9, 10, 11, 12]), (3, [14, 15, 16])]
@[go_sem] def kl21 : List (Nat × List Nat) := [(1, [6, 7, 8, 9]), (3, [11]), (5, [15]), (6, [16, 17, 18, 19, 20, 21, 22, 23, 24, 25, 26, 27, 28, 29, 30, 31, 32, 33, 34, 35, 36, 37, 38, 39]), (8, [41])]
@[go_sem] def kl22 : List (Nat × List Nat) := [(3, [11, 12, 13]), (4, [14, 15, 16, 17, 18, 19, 20, 21, 22, 23, 24, 25, 26]), (6, [28, 29]), (8, [34, 35]), (9, [36, 37, 38, 39]), (11, [41]), (12, [42]), (13, [43, 44, 45])]
@[go_sem] def kl23 : List (Nat × List Nat) := [(1, [5, 6, 7]), (2, [8, 9, 10, 11, 12, 13, 14, 15])]
@[go_sem] def kl24 : List (Nat × List Nat) := [(1, [6, 7, 8]), (2, [9, 10]), (3, [11, 12]), (4, [14, 15, 16]), (5, [17, 18]), (6, [19]), (7, [21, 22, 23]), (8, [24])]
@[go_sem] def kl25 : List (Nat × List Nat) := [(1, [9, 10]), (2, [11, 12]), (5, [14, 15, 16, 17]), (7, [22, 23]), (8, [24, 25]), (9, [26, 27]), (11, [29, 30, 31, 32, 33, 34, 35, 36, 37, 38, 39, 40, 41, 42, 43, 44]), (12, [45]), (13, [46, 47, 48, 49, 50, 51, 52, 53]), (15, [55])]
@[go_sem] def kl26 : List (Nat × List Nat) := [(1, [11, 12, 13]), (2, [7, 14, 15, 16, 17, 18, 19]), (4, [20]), (6, [24, 25, 26, 27, 28, 29, 30, 31, 32]), (7, [33]), (8, [34, 35, 36, 37, 38, 39]), (9, [41, 42, 43, 44, 45]), (10, [46]), (11, [48, 49, 50]), (12, [51, 52, 53, 54, 55])]
@[go_sem] def kl27 : List (Nat × List Nat) := [(1, [20, 21, 22, 23, 24, 25, 26, 27, 28, 29, 30, 31, 32, 33, 34, 35, 36, 37, 38, 39, 40, 41, 42, 43]), (3, [45]), (5, [46]), (6, [48, 49]), (7, [50]), (10, [55, 56, 57]), (11, [58, 59, 60, 61, 62]), (12, [64, 65, 66, 67]), (13, [68]), (14, [69, 70, 71, 72, 73, 74, 75, 76]), (15, [77]), (16, [78, 79, 80, 81]), (17, [82]), (18, [84, 85, 86, 87]), (19, [88, 89, 90]), (21, [94, 95, 96, 97]), (22, [98]), (23, [99]), (24, [100, 101]), (26, [106, 107, 108]), (27, [109, 110, 111, 112, 113, 114, 115, 116]), (28, [117]), (29, [118])]
@[go_sem] def kl28 : List (Nat × List Nat) := [(1, [15, 16, 17, 18, 19, 20, 21, 22, 23, 24, 25, 26, 27, 28, 29, 30, 31, 32, 33, 34, 35, 36, 37, 38]), (3, [40, 41, 42, 43]), (5, [44, 45, 46, 47]), (7, [48, 49]), (8, [51, 52]), (9, [53]), (10, [54, 55, 56, 57, 58]), (11, [60]), (12, [61, 62, 63, 64, 65, 66, 67, 68, 69, 70, 71]), (13, [72, 73, 74]), (14, [75])]
@[go_sem] def kl29 : List (Nat × List Nat) := [(3, [11, 12]), (4, [13, 14]), (6, [16])]
@[go_sem] def kl30 : List (Nat × List Nat) := [(1, [9, 10, 11]), (2, [7, 12, 13, 14, 15, 16, 17]), (3, [18, 19, 20, 21, 22, 23, 24, 25, 26])]
@[go_sem] def kl31 : List (Nat × List Nat) := [(1, [11, 12, 13, 14, 15, 16, 17, 18, 19, 20, 21, 22, 23, 24, 25, 26, 27]), (3, [29]), (6, [34, 35]), (7, [36, 37, 38, 39, 40]), (8, [41]), (9, [42, 43, 44, 45, 46]), (11, [48, 49, 50, 51, 52])]
@[go_sem] def kl32 : List (Nat × List Nat) := [(1, [8, 9, 10, 11, 12, 13, 14, 15, 16, 17, 18, 19, 20, 21, 22, 23, 24, 25, 26, 27, 28, 29, 30]), (3, [32, 33, 34, 35, 36])]
@[go_sem] def kl33 : List (Nat × List Nat) := [(1, [7, 8, 9]), (2, [4, 5, 10, 11, 12, 13, 14, 15]), (3, [16])]
@[go_sem] def kl34 : List (Nat × List Nat) := [(1, [4, 5]), (3, [7, 8])]
@[go_sem] def kl35 : List (Nat × List Nat) := [(1, [4, 5]), (3, [7, 8])]
@[go_sem] def kl36 : List (Nat × List Nat) := [(1, [6]), (2, [8]), (3, [9, 10, 11, 12, 13, 14]), (4, [15, 16, 17, 18, 19, 20]), (6, [22])]
@[go_sem] def kl37 : List (Nat × List Nat) := [(1, [5, 6, 7]), (2, [8, 9, 10]), (3, [11]), (4, [13, 14, 15]), (5, [16])]
@[go_sem] def kl38 : List (Nat × List Nat) := [(1, [7]), (4, [9]), (6, [14, 15]), (7, [16, 17, 18, 19, 20]), (8, [21]), (9, [22, 23, 24, 25, 26, 27, 28, 29]), (11, [31])]
@[go_sem] def kl39 : List (Nat × List Nat) := [(1, [4, 5, 6]), (2, [7, 8])]
@[go_sem] def kl40 : List (Nat × List Nat) := [(1, [6, 7]), (2, [8, 9, 10, 11, 12, 13, 14, 15, 16]), (3, [17, 18])]
@[go_sem] def kl41 : List (Nat × List Nat) := [(1, [6]), (4, [11, 12]), (5, [13, 14, 15, 16, 17]), (6, [18]), (7, [19, 20])]
@[go_sem] def kl42 : List (Nat × List Nat) := [(1, [3, 4, 5, 6, 7, 8, 9, 10, 11, 12, 13])]
@[go_sem] def kl43 : List (Nat × List Nat) := [(4, [13, 14]), (5, [15, 16, 17, 18, 19, 20, 21, 22, 23, 24, 25, 26, 27, 28, 29, 30, 31, 32, 33, 34, 35]), (7, [37, 38, 39, 40, 41, 42, 43, 44, 45, 46, 47, 48, 49]), (9, [51, 52, 53, 54, 55]), (10, [56, 57]), (11, [59, 60, 61, 62, 63]), (12, [64]), (15, [69, 70]), (16, [71, 72]), (18, [74]), (19, [75, 76, 77])]
@[go_sem] def kl44 : List (Nat × List Nat) := [(4, [10, 11]), (5, [12, 13, 14, 15, 16, 17, 18, 19, 20, 21, 22, 23, 24, 25, 26, 27]), (6, [28]), (7, [29])]
@[go_sem] def kl45 : List (Nat × List Nat) := [(1, [3, 4])]
@[go_sem] def kl46 : List (Nat × List Nat) := [(1, [3, 4])]
@[go_sem] def kl47 : List (Nat × List Nat) := [(1, [7, 8, 9, 10, 11, 12, 13, 14])]
@[go_sem] def kl48 : List (Nat × List Nat) := [(1, [5, 6, 7])]
@[go_sem] def kl49 : List (Nat × List Nat) := [(1, [5, 6, 7, 8])]
@[go_sem] def kl50 : List (Nat × List Nat) := [(1, [4, 5, 6, 7, 8])]
@[go_sem] def kl51 : List (Nat × List Nat) := [(1, [4]), (2, [6]), (3, [7, 8, 9, 10, 11]), (5, [13, 14, 15, 16, 17, 18])]
@[go_sem] def kl52 : List (Nat × List Nat) := [(1, [9]), (4, [14, 15]), (5, [16, 17, 18, 19, 20]), (6, [21]), (8, [23, 24, 25, 26]), (9, [27]), (10, [28])]
@[go_sem] def kl53 : List (Nat × List Nat) := [(1, [5, 6, 7])]
@[go_sem] def kl54 : List (Nat × List Nat) := [(0, [3, 4]), (1, [5, 6, 7, 8, 9, 10])]
@[go_sem] def kl55 : List (Nat × List Nat) := [(1, [3, 4])]
@[go_sem] def kl56 : List (Nat × List Nat) := [(2, [7, 8, 9, 10, 11, 12, 13, 14, 15, 16, 17]), (3, [19, 20]), (4, [21, 22, 23, 24, 25, 26, 27, 28, 29, 30, 31]), (5, [33]), (6, [34, 35, 36, 37, 38]), (7, [39, 40, 41, 42]), (8, [43, 44, 45, 46, 47])]
@[go_sem] def kl57 : List (Nat × List Nat) := [(2, [11, 12]), (3, [13]), (4, [15, 16]), (5, [17, 18, 19, 20, 21, 22]), (6, [23, 24, 25, 26, 27, 28, 29]), (7, [31, 32, 33, 34, 35, 36, 37, 38]), (8, [39, 40, 41, 42, 43, 44]), (9, [46, 47, 48, 49]), (10, [50, 51, 52, 53]), (11, [54, 55, 56, 57, 58]), (12, [60]), (13, [61]), (14, [63, 64, 65]), (15, [66, 67, 68]), (16, [70, 71, 72, 73, 74, 75, 76]), (17, [77, 78]), (18, [80, 81, 82, 83, 84, 85]), (19, [86]), (20, [89]), (21, [90, 91, 92, 93, 94, 95]), (22, [97]), (23, [98, 99, 100, 101, 102, 103]), (24, [105]), (25, [106, 107, 108, 109, 110, 111, 112, 113, 114, 115]), (26, [116])]
@[go_sem] def kl58 : List (Nat × List Nat) := [(1, [5, 6, 7, 8])]
@[go_sem] def kl59 : List (Nat × List Nat) := [(1, [6]), (3, [8, 9]), (4, [10]), (5, [12, 13, 14, 15, 16]), (6, [17, 18, 19])]
@[go_sem] def kl60 : List (Nat × List Nat) := [(1, [7, 8, 9, 10, 11]), (2, [12, 13]), (3, [15, 16, 17, 18, 19, 20]), (4, [21]), (5, [24]), (6, [25, 26, 27, 28, 29, 30, 31, 32, 33, 34]), (7, [36]), (8, [37, 38, 39, 40, 41, 42, 43, 44]), (9, [46]), (10, [47, 48, 49, 50, 51, 52, 53, 54, 55]), (11, [57]), (12, [58, 59, 60]), (13, [62]), (15, [63, 64, 65]), (16, [67, 68, 69, 70, 71, 72, 73, 74, 75, 76, 77, 78]), (17, [80]), (18, [81]), (20, [85]), (21, [86, 87, 88, 89, 90]), (22, [91]), (23, [92])]
@[go_sem] def kl61 : List (Nat × List Nat) := [(1, [3, 4, 5])]
@[go_sem] def kl62 : List (Nat × List Nat) := [(3, [14, 15]), (4, [16, 17, 18, 19, 20, 21, 22, 23, 24]), (5, [26]), (6, [27]), (7, [28])]
@[go_sem] def kl63 : List (Nat × List Nat) := [(4, [10, 11]), (5, [12, 13, 14, 15, 16, 17, 18, 19, 20, 21, 22, 23, 24, 25, 26, 27, 28, 29, 30]), (7, [32, 33, 34, 35, 36]), (8, [37]), (9, [38, 39, 40])]
@[go_sem] def kl64 : List (Nat × List Nat) := [(4, [14, 15]), (5, [16, 17, 18, 19, 20, 21]), (6, [22, 23]), (8, [27]), (9, [28, 29, 30, 31, 32]), (10, [34, 35, 36, 37]), (11, [38]), (12, [39, 40, 41, 42]), (13, [43]), (14, [44])]
@[go_sem] def kl65 : List (Nat × List Nat) := [(1, [5]), (3, [10, 11, 12]), (4, [13, 14, 15, 16, 17, 18, 19, 20, 21, 22, 23, 24, 25, 26, 27, 28, 29, 30, 31]), (6, [33]), (7, [34, 35, 36, 37, 38, 39, 40, 41, 42])]
@[go_sem] def kl66 : List (Nat × List Nat) := [(1, [5, 6, 7, 8, 9, 10, 11])]
@[go_sem] def kl67 : List (Nat × List Nat) := [(1, [10, 11, 12]), (2, [13, 14, 15, 16, 17, 18]), (3, [20, 21]), (4, [22, 23, 24, 25]), (5, [26, 27, 28, 29, 30, 31, 32, 33]), (6, [34]), (7, [36, 37, 38, 39, 40, 41, 42, 43]), (8, [45]), (9, [46, 47, 48, 49, 50, 51, 52, 53, 54]), (10, [56]), (11, [57, 58, 59, 60, 61, 62, 63, 64, 65, 66]), (12, [67])]
@[go_sem] def kl68 : List (Nat × List Nat) := [(4, [8, 9, 10]), (5, [12, 13]), (6, [14, 15, 16, 17]), (7, [19, 20, 21, 22, 23, 24, 25]), (8, [26, 27]), (9, [28, 29, 30, 31, 32, 33])]
@[go_sem] def kl69 : List (Nat × List Nat) := [(1, [5, 6, 7, 8, 9, 10, 11, 12, 13, 14, 15, 16, 17]), (5, [19, 20, 21]), (6, [23, 24]), (7, [25, 26, 27, 28, 29, 30, 31, 32, 33]), (9, [35, 36, 37, 38, 39, 40, 41, 42]), (10, [43])]
@[go_sem] def kl70 : List (Nat × List Nat) := [(1, [15, 16, 17, 18]), (2, [19, 20, 21, 22, 23, 24, 25, 26, 27]), (3, [28]), (7, [34, 35]), (8, [36, 37, 38, 39, 40]), (9, [41]), (10, [42, 43]), (11, [44]), (12, [46]), (13, [49]), (14, [50, 51, 52, 53, 54, 55]), (15, [56, 57, 58, 59]), (16, [60, 61, 62, 63, 64, 65, 66]), (17, [67, 68, 69, 70]), (18, [72]), (19, [73, 74]), (20, [76]), (21, [77]), (22, [79, 80, 81, 82, 83, 84, 85, 86, 87, 88]), (23, [89, 90, 91])]
@[go_sem] def kl71 : List (Nat × List Nat) := [(1, [5, 6, 7, 8, 9, 10, 11])]
@[go_sem] def kl72 : List (Nat × List Nat) := [(2, [8, 9]), (3, [10]), (4, [12, 13]), (5, [14, 15, 16, 17, 18]), (6, [19]), (7, [22]), (8, [23, 24, 25, 26, 27, 28]), (9, [30]), (10, [31, 32, 33, 34]), (11, [35, 36, 37]), (12, [39, 40, 41]), (13, [42])]
@[go_sem] def kl73 : List (Nat × List Nat) := [(1, [5, 6, 7, 8, 9, 10, 11, 12])]
@[go_sem] def kl74 : List (Nat × List Nat) := [(3, [9, 10, 11]), (4, [12, 13, 14, 15, 16, 17, 18, 19, 20]), (6, [22]), (7, [23, 24, 25])]
@[go_sem] def kl75 : List (Nat × List Nat) := [(3, [13, 14]), (4, [15, 16, 17, 18]), (6, [20])]
@[go_sem] def kl76 : List (Nat × List Nat) := [(1, [3, 4])]
@[go_sem] def kl77 : List (Nat × List Nat) := [(1, [8]), (2, [9, 10, 11]), (4, [16, 17]), (5, [18, 19, 20, 21, 22, 23, 24]), (6, [25]), (7, [26])]
@[go_sem] def kl78 : List (Nat × List Nat) := [(1, [5, 6, 7, 8])]
@[go_sem] def kl79 : List (Nat × List Nat) := [(1, [8]), (4, [13, 14]), (5, [15, 16, 17, 18, 19, 20, 21]), (6, [22, 23, 24]), (7, [25]), (8, [26])]
@[go_sem] def kl80 : List (Nat × List Nat) := [(1, [5, 6, 7, 8, 9, 10, 11, 12])]
@[go_sem] def kl81 : List (Nat × List Nat) := [(3, [9, 10, 11]), (4, [12, 13, 14, 15, 16, 17, 18, 19, 20]), (6, [22]), (7, [23, 24, 25])]
@[go_sem] def kl82 : List (Nat × List Nat) := [(3, [13, 14]), (4, [15, 16, 17, 18]), (6, [20])]
@[go_sem] def kl83 : List (Nat × List Nat) := [(1, [3, 4])]
@[go_sem] def kl84 : List (Nat × List Nat) := [(3, [12]), (4, [14, 15]), (8, [20, 21, 22]), (9, [23, 24, 25, 26, 27]), (10, [29, 30, 31, 32]), (11, [33]), (12, [34, 35, 36, 37, 38, 39, 40, 41, 42]), (13, [43])]
@[go_sem] def kl85 : List (Nat × List Nat) := [(2, [8, 9, 10]), (4, [15, 16]), (5, [17, 18, 19, 20, 21, 22, 23]), (6, [24]), (7, [25])]
@[go_sem] def kl86 : List (Nat × List Nat) := [(1, [3, 4, 5])]
@[go_sem] def kl87 : List (Nat × List Nat) := [(3, [11, 12, 13]), (4, [14, 15, 16, 17, 18, 19, 20, 21, 22]), (6, [24, 25]), (8, [30, 31]), (9, [32, 33, 34, 35, 36, 37, 38, 39, 40, 41, 42, 43, 44, 45, 46, 47]), (11, [49]), (12, [50]), (13, [51, 52, 53])]
@[go_sem] def kl88 : List (Nat × List Nat) := [(1, [6, 7, 8, 9]), (3, [11]), (5, [15]), (6, [16, 17, 18, 19, 20, 21, 22, 23]), (8, [25])]
@[go_sem] def kl89 : List (Nat × List Nat) := [(1, [4, 5]), (2, [6, 7]), (3, [8])]
@[go_sem] def kl90 : List (Nat × List Nat) := [(4, [11, 12]), (5, [13, 14, 15, 16, 17, 18, 19, 20, 21, 22, 23, 24, 25, 26, 27, 28, 29, 30, 31, 32, 33, 34, 35, 36, 37, 38]), (7, [40, 41, 42, 43, 44]), (8, [45, 46, 47, 48, 49]), (9, [50]), (10, [51, 52, 53])]
@[go_sem] def kl91 : List (Nat × List Nat) := [(3, [11, 12]), (4, [13, 14, 15, 16]), (6, [18]), (7, [19, 20, 21, 22, 23])]
@[go_sem] def kl92 : List (Nat × List Nat) := [(4, [10, 11, 12]), (5, [13]), (6, [15, 16]), (7, [17, 18, 19, 20]), (8, [21]), (9, [22])]
@[go_sem] def kl93 : List (Nat × List Nat) := [(0, [2, 3, 4, 5]), (1, [7, 8, 9, 10, 11, 12, 13]), (2, [14, 15, 16, 17, 18])]
@[go_sem] def kl94 : List (Nat × List Nat) := [(1, [3, 4])]
@[go_sem] def kl95 : List (Nat × List Nat) := [(1, [11]), (2, [14]), (4, [16]), (5, [17, 18, 19]), (7, [20, 21]), (8, [23, 24, 25, 26, 27, 28]), (9, [30]), (10, [31, 32, 33, 34, 35, 36, 37, 38]), (13, [43, 44]), (14, [45, 46, 47, 48]), (15, [50]), (16, [51, 52, 53, 54]), (17, [55]), (19, [56, 57]), (20, [58, 59, 60, 61]), (21, [62]), (23, [67, 68]), (24, [69, 70]), (25, [71, 72]), (26, [73]), (27, [74])]
@[go_sem] def kl96 : List (Nat × List Nat) := [(1, [7, 8, 9, 10, 11, 12, 13, 14])]
@[go_sem] def kl97 : List (Nat × List Nat) := [(3, [11, 12]), (4, [13, 14]), (6, [16])]
@[go_sem] def kl98 : List (Nat × List Nat) := [(1, [3]), (2, [5, 6, 7, 8, 9]), (3, [10, 11, 12, 13, 14, 15, 16, 17, 18, 19])]
@[go_sem] def kl99 : List (Nat × List Nat) := [(1, [4, 5, 6, 7])]
@[go_sem] def kl100 : List (Nat × List Nat) := [(1, [6]), (3, [10]), (4, [11, 12, 13, 14, 15]), (5, [17]), (6, [18])]
@[go_sem] def kl101 : List (Nat × List Nat) := [(1, [8, 9, 10, 11, 12]), (2, [13, 14, 15, 16, 17]), (3, [18, 19, 20, 21, 22, 23, 24, 25]), (6, [28, 29]), (7, [30])]
@[go_sem] def kl102 : List (Nat × List Nat) := [(1, [12]), (3, [14]), (4, [16, 17, 18]), (5, [19]), (6, [21, 22, 23, 24]), (7, [25, 26, 27, 28, 29]), (8, [30, 31]), (9, [32, 33]), (11, [34, 35]), (12, [37, 38, 39]), (13, [40]), (14, [42, 43, 44, 45, 46, 47, 48, 49]), (15, [50, 51, 52, 53, 54, 55]), (16, [56, 57]), (17, [58, 59, 60, 61]), (18, [62, 63, 64, 65])]
@[go_sem] def kl103 : List (Nat × List Nat) := [(2, [19, 20, 21]), (3, [22]), (4, [24, 25, 26, 27]), (5, [28]), (6, [30, 31, 32, 33]), (7, [34]), (8, [36, 37, 38, 39]), (9, [40, 41]), (10, [42, 43, 44, 45, 46, 47, 48]), (11, [49]), (12, [51, 52, 53, 54]), (13, [55, 56, 57, 58, 59, 60]), (15, [61, 62, 63, 64, 65, 66, 67]), (16, [69, 70, 71]), (17, [73, 74, 75, 76, 77, 78, 79, 80, 81, 82, 83, 84, 85, 86]), (18, [88, 89, 90, 91, 92]), (19, [93]), (20, [94, 95, 96, 97, 98, 99, 100, 101]), (21, [102]), (22, [103, 104, 105, 106, 107, 108]), (23, [109, 110]), (24, [111, 112]), (25, [114, 115, 116]), (26, [117, 118, 119, 120, 121]), (27, [122, 123]), (28, [124, 125, 126]), (29, [127, 128, 129, 130, 131, 132]), (30, [133])]
@[go_sem] def kl104 : List (Nat × List Nat) := [(1, [3, 4, 5]), (2, [6, 7])]
@[go_sem] def kl105 : List (Nat × List Nat) := [(2, [4, 5, 6, 7, 8, 9, 10, 11, 12]), (3, [14, 15, 16, 17, 18, 19, 20, 21, 22, 23, 24]), (4, [25, 26, 27, 28, 29, 30, 31]), (5, [32, 33, 34, 35, 36, 37, 38, 39, 40, 41, 42, 43]), (6, [44, 45, 46, 47, 48, 49, 50, 51, 52]), (7, [54]), (8, [55, 56, 57, 58, 59, 60, 61])]
@[go_sem] def kl106 : List (Nat × List Nat) := [(2, [7, 8]), (3, [9]), (5, [11, 12, 13]), (6, [15, 16, 17, 18, 19, 20, 21, 22, 23, 24, 25, 26, 27]), (7, [28, 29, 30, 31, 32]), (8, [34, 35, 36, 37, 38, 39, 40, 41, 42, 43]), (9, [44, 45, 46, 47, 48, 49, 50, 51, 52]), (10, [54, 55, 56, 57, 58, 59, 60, 61]), (11, [62, 63, 64, 65, 66, 67, 68, 69, 70, 71, 72, 73, 74, 75, 76, 77, 78, 79, 80, 81, 82, 83, 84, 85]), (12, [87, 88, 89, 90, 91, 92, 93, 94]), (13, [95, 96, 97, 98, 99, 100, 101, 102]), (14, [103])]
@[go_sem] def kl107 : List (Nat × List Nat) := [(2, [6]), (4, [11, 12]), (5, [13, 14, 15, 16, 17, 18, 19, 20, 21]), (7, [23, 24]), (8, [25]), (9, [26, 27, 28, 29, 30, 31, 32, 33, 34])]
@[go_sem] def kl108 : List (Nat × List Nat) := [(3, [13, 14, 15]), (4, [16, 17, 18, 19, 20, 21, 22, 23, 24]), (5, [26]), (6, [27])]
@[go_sem] def kl109 : List (Nat × List Nat) := [(2, [9, 10]), (3, [11]), (4, [13, 14, 15]), (6, [16, 17, 18]), (7, [20, 21, 22, 23, 24, 25, 26, 27]), (8, [28, 29]), (9, [31, 32, 33, 34, 35]), (10, [36, 37]), (11, [38, 39, 40, 41, 42]), (12, [43, 44, 45, 46, 47, 48, 49, 50, 51, 52, 53, 54]), (13, [55]), (14, [57, 58, 59, 60, 61]), (15, [62]), (16, [65]), (17, [66, 67, 68, 69, 70, 71, 72, 73, 74, 75]), (18, [77]), (19, [78, 79, 80, 81, 82, 83, 84, 85, 86, 87]), (20, [88])]
@[go_sem] def kl110 : List (Nat × List Nat) := [(1, [3, 4, 5, 6, 7, 8])]
@[go_sem] def kl111 : List (Nat × List Nat) := [(1, [13, 14, 15, 16, 17, 18, 19, 20, 21, 22, 23, 24]), (3, [26, 27, 28, 29, 30, 31]), (7, [36, 37, 38]), (8, [39, 40, 41, 42, 43, 44, 45, 46, 47]), (9, [48]), (10, [49, 50])]
@[go_sem] def kl112 : List (Nat × List Nat) := [(1, [5, 6, 7, 8])]
@[go_sem] def kl113 : List (Nat × List Nat) := [(1, [9]), (4, [13]), (5, [14, 15, 16, 17]), (6, [18]), (7, [19, 20]), (8, [21]), (9, [23, 24]), (10, [25, 26, 27, 28, 29, 30, 31]), (11, [32, 33, 34, 35, 36, 37, 38, 39, 40, 41, 42, 43, 44, 45]), (12, [46])]
@[go_sem] def kl114 : List (Nat × List Nat) := [(3, [10, 11]), (4, [13, 14]), (5, [15, 16, 17, 18]), (6, [19, 20]), (7, [21]), (8, [23, 24]), (9, [25, 26, 27, 28, 29, 30, 31, 32]), (10, [33, 34, 35, 36]), (11, [37, 38, 39, 40, 41, 42, 43]), (12, [44, 45, 46, 47]), (13, [48])]
@[go_sem] def kl116 : List (Nat × List Nat) := [(1, [3, 4])]
@[go_sem] def kl117 : List (Nat × List Nat) := [(0, [4, 5]), (1, [6]), (2, [8]), (3, [9, 10, 11, 12, 13, 14, 15, 16, 17, 18, 19, 20]), (4, [22, 23, 24])]
@[go_sem] def kl118 : List (Nat × List Nat) := [(1, [6, 7, 8, 9, 10])]
@[go_sem] def kl119 : List (Nat × List Nat) := [(1, [6, 7, 8, 9, 10, 11, 12, 13, 14, 15, 16, 17, 18, 19, 20, 21]), (5, [23, 24, 25]), (6, [27, 28]), (7, [29, 30, 31, 32, 33, 34, 35, 36, 37]), (9, [39, 40, 41, 42, 43, 44, 45, 46]), (10, [47])]
@[go_sem] def kl120 : List (Nat × List Nat) := [(1, [10, 11]), (2, [12, 13, 14, 15, 16, 17]), (3, [19]), (4, [20, 21]), (6, [22, 23, 24]), (7, [26, 27]), (8, [8, 28, 29, 30, 31, 32]), (9, [33, 34, 35, 36, 37, 38]), (10, [39, 40, 41]), (11, [42]), (12, [44, 45, 46, 47, 48]), (13, [49])]
@[go_sem] def kl121 : List (Nat × List Nat) := [(1, [7, 8]), (2, [10, 11, 12]), (3, [13, 14]), (4, [16, 17, 18, 19]), (6, [20, 21, 22]), (7, [23]), (8, [25]), (9, [26, 27]), (10, [28, 29, 30, 31, 32, 33])]
@[go_sem] def kl122 : List (Nat × List Nat) := [(1, [5, 6, 7])]
@[go_sem] def kl123 : List (Nat × List Nat) := [(0, [8, 9]), (1, [10, 11]), (2, [13, 14]), (3, [15]), (4, [16, 17, 18, 19, 20, 21, 22, 23, 24, 25, 26, 27, 28, 29]), (5, [31, 32]), (6, [33, 34, 35, 36, 37, 38, 39, 40, 41, 42, 43, 44, 45, 46, 47, 48])]
@[go_sem] def kl124 : List (Nat × List Nat) := [(0, [11]), (2, [12, 13, 14]), (3, [15, 16, 17]), (4, [18]), (5, [20, 21]), (6, [22, 23, 24, 25, 26]), (7, [27, 28]), (8, [29]), (9, [31, 32]), (10, [33, 34, 35, 36, 37, 38, 39, 40, 41, 42, 43, 44, 45, 46, 47, 48, 49, 50]), (11, [51, 52, 53, 54, 55])]
@[go_sem] def kl125 : List (Nat × List Nat) := [(0, [11, 12, 13]), (1, [14]), (2, [16, 17]), (3, [18, 19]), (4, [20, 21, 22, 23, 24, 25]), (5, [26, 27, 28, 29, 30, 31, 32]), (6, [34, 35]), (7, [36, 37, 38, 39, 40]), (8, [41, 42]), (9, [44, 45, 46]), (10, [47, 48, 49, 50, 51, 52, 53, 54, 55, 56, 57, 58, 59, 60, 61, 62, 63, 64])]
@[go_sem] def kl126 : List (Nat × List Nat) := [(1, [13, 14, 15]), (3, [16, 17, 18, 19, 20]), (4, [21, 22, 23, 24, 25]), (5, [26, 27, 28, 29, 30]), (6, [31]), (7, [33]), (8, [35, 36, 37]), (9, [38, 39, 40]), (10, [41, 42, 43]), (11, [44, 45, 46, 47, 48]), (13, [50]), (14, [52]), (15, [53]), (16, [55]), (17, [56])]
@[go_sem] def kl127 : List (Nat × List Nat) := [(0, [8]), (1, [9, 10]), (2, [11, 12]), (3, [14, 15, 16, 17, 18, 19, 20, 21, 22, 23, 24, 25, 26, 27]), (4, [28, 29]), (5, [30, 31])]
@[go_sem] def kl128 : List (Nat × List Nat) := [(1, [11, 12]), (3, [13]), (4, [15, 16]), (5, [17, 18, 19, 20, 21, 22, 23, 24, 25, 26, 27, 28, 29, 30, 31]), (6, [33, 34]), (7, [35, 36]), (9, [38, 39, 40]), (11, [42, 43, 44, 45, 46, 47, 48, 49, 50, 51, 52, 53, 54, 55, 56, 57]), (12, [58, 59, 60]), (13, [62, 63]), (14, [64]), (15, [66, 67]), (16, [68, 69, 70, 71, 72, 73, 74, 75, 76, 77]), (17, [79, 80, 81, 82, 83, 84, 85, 86, 87, 88, 89, 90, 91, 92, 93, 94]), (18, [95, 96, 97]), (19, [99, 100]), (20, [101, 102]), (21, [104, 105]), (22, [106, 107, 108, 109, 110, 111, 112, 113, 114, 115]), (23, [117, 118, 119, 120, 121, 122, 123, 124, 125, 126, 127, 128, 129, 130, 131, 132])]
@[go_sem] def kl129 : List (Nat × List Nat) := [(1, [5, 6, 7, 8, 9, 10, 11, 12, 13, 14, 15, 16])]
@[go_sem] def kl130 : List (Nat × List Nat) := [(1, [11, 12, 13, 14, 15, 16, 17, 18, 19, 20, 21, 22, 23, 24]), (2, [25, 26, 27, 28]), (3, [29, 30, 31, 32, 33, 34, 35, 36, 37, 38, 39, 40, 41, 42]), (4, [44, 45]), (5, [46, 47, 48, 49, 50, 51, 52, 53, 54, 55, 56, 57, 58]), (6, [60, 61]), (7, [62, 63]), (8, [65, 66, 67, 68, 69, 70, 71, 72, 73, 74, 75, 76, 77, 78]), (9, [79, 80]), (10, [81, 82]), (11, [83])]
@[go_sem] def kl131 : List (Nat × List Nat) := [(1, [12, 13, 14, 15, 16, 17, 18, 19, 20, 21, 22, 23, 24, 25]), (2, [26, 27, 28, 29]), (3, [30, 31, 32, 33, 34, 35, 36, 37, 38, 39, 40, 41, 42]), (4, [44, 45]), (5, [46, 47, 48, 49, 50, 51, 52, 53, 54, 55, 56, 57, 58, 59]), (6, [61, 62]), (7, [63, 64]), (8, [66, 67, 68, 69, 70, 71, 72, 73, 74, 75, 76, 77, 78, 79]), (9, [80]), (10, [81, 82, 83, 84, 85, 86, 87, 88, 89, 90, 91, 92, 93, 94]), (11, [95, 96]), (12, [97, 98]), (13, [99, 100, 101, 102, 103, 104, 105, 106, 107, 108, 109, 110, 111]), (14, [113, 114]), (15, [115, 116, 117, 118, 119, 120, 121, 122, 123, 124, 125, 126, 127, 128]), (16, [130, 131]), (17, [132, 133]), (18, [135, 136, 137, 138, 139, 140, 141, 142, 143, 144, 145, 146, 147, 148]), (19, [149, 150]), (20, [151, 152]), (21, [153, 154, 155, 156, 157, 158, 159, 160, 161, 162, 163, 164, 165, 166]), (22, [167])]
@[go_sem] def kl132 : List (Nat × List Nat) := [(1, [3]), (2, [5, 6]), (4, [7]), (5, [9, 10]), (6, [11, 12]), (7, [13, 14, 15, 16, 17, 18])]
@[go_sem] def kl133 : List (Nat × List Nat) := [(1, [3]), (2, [5, 6]), (4, [7]), (5, [9, 10]), (6, [11, 12]), (7, [13]), (8, [15, 16]), (9, [17, 18]), (10, [19, 20, 21, 22, 23, 24])]
@[go_sem] def kl134 : List (Nat × List Nat) := [(1, [9, 10]), (2, [11, 12, 13, 14]), (3, [16, 17, 18, 19, 20, 21, 22, 23, 24, 25]), (4, [26, 27]), (5, [28, 29, 30, 31, 32]), (6, [34, 35]), (7, [36, 37, 38, 39]), (8, [40])]
@[go_sem] def kl135 : List (Nat × List Nat) := [(1, [14, 15, 16, 17, 18, 19, 20]), (2, [21]), (4, [23]), (6, [25, 26]), (8, [27, 28, 29]), (10, [34, 35]), (12, [36, 37]), (14, [42, 43]), (15, [44, 45, 46, 47]), (16, [48]), (17, [49, 50, 51, 52]), (18, [53, 54, 55]), (19, [56]), (20, [57])]
@[go_sem] def kl136 : List (Nat × List Nat) := [(1, [6]), (3, [10]), (4, [11, 12, 13, 14, 15]), (5, [17]), (6, [18])]
@[go_sem] def kl137 : List (Nat × List Nat) := [(1, [5, 6, 7, 8, 9, 10, 11])]
@[go_sem] def kl138 : List (Nat × List Nat) := [(1, [5, 6, 7, 8, 9, 10, 11, 12])]
@[go_sem] def kl139 : List (Nat × List Nat) := [(1, [10]), (2, [12, 13, 14, 15, 16]), (3, [18, 19]), (5, [20, 21]), (6, [22]), (7, [24, 25]), (8, [26, 27]), (9, [28, 29, 30, 31, 32]), (10, [33]), (11, [35]), (12, [36, 37, 38, 39]), (13, [40, 41, 42, 43]), (14, [8, 44, 45, 46, 47, 48, 49, 50, 51, 52]), (15, [53])]
@[go_sem] def kl140 : List (Nat × List Nat) := [(0, [5, 6, 7, 8, 9, 10, 11, 12, 13, 14, 15, 16, 17, 18, 19]), (1, [20, 21, 22, 23, 24, 25]), (2, [26, 27, 28, 29])]
@[go_sem] def kl141 : List (Nat × List Nat) := [(1, [6, 7, 8]), (2, [10]), (3, [11, 12, 13, 14])]
@[go_sem] def kl142 : List (Nat × List Nat) := [(1, [3]), (2, [5]), (3, [7, 8]), (4, [9])]
@[go_sem] def kl143 : List (Nat × List Nat) := [(1, [4, 5, 6, 7, 8, 9]), (2, [11, 12, 13]), (3, [14, 15, 16, 17, 18])]
@[go_sem] def kl145 : List (Nat × List Nat) := [(1, [14, 15]), (2, [17, 18, 19, 20, 21, 22, 23]), (4, [25, 26]), (5, [27, 28, 29, 30]), (6, [32, 33, 34, 35]), (8, [37, 38, 39, 40, 41, 42, 43, 44]), (9, [45, 46, 47]), (10, [48, 49]), (11, [50, 51]), (13, [52, 53, 54, 55, 56]), (15, [57, 58]), (16, [60, 61, 62, 63]), (17, [65, 66, 67, 68, 69, 70, 71]), (18, [72]), (20, [74, 75, 76, 77]), (21, [78, 79, 80, 81, 82, 83, 84, 85, 86, 87, 88, 89, 90, 91, 92]), (22, [94]), (23, [95, 96]), (24, [97, 98]), (25, [99, 100, 101, 102, 103, 104, 105, 106]), (26, [108, 109, 110, 111, 112]), (27, [113]), (28, [115, 116, 117]), (30, [118, 119, 120, 121, 122, 123, 124, 125, 126, 127, 128, 129, 130, 131]), (31, [133, 134, 135, 136, 137]), (32, [138]), (34, [140, 141, 142])]
@[go_sem] def kl146 : List (Nat × List Nat) := [(0, [10]), (1, [11, 12, 13]), (2, [14, 15]), (3, [17, 18, 19, 20, 21, 22, 23, 24, 25, 26, 27, 28, 29, 30, 31, 32, 33, 34, 35]), (4, [37, 38]), (5, [39, 40, 41, 42, 43, 44, 45, 46, 47, 48, 49, 50, 51]), (6, [53, 54, 55, 56, 57, 58, 59, 60, 61, 62, 63, 64, 65, 66, 67, 68, 69, 70, 71, 72, 73, 74]), (7, [75])]
@[go_sem] def kl147 : List (Nat × List Nat) := [(1, [3, 4, 5, 6])]
@[go_sem] def kl148 : List (Nat × List Nat) := [(1, [3, 4, 5, 6, 7, 8, 9, 10, 11]), (2, [12, 13, 14, 15, 16, 17, 18, 19, 20]), (3, [21, 22, 23, 24, 25, 26, 27, 28, 29]), (4, [30, 31, 32])]
@[go_sem] def kl149 : List (Nat × List Nat) := [(1, [7, 8, 9, 10, 11, 12, 13, 14])]
@[go_sem] def kl150 : List (Nat × List Nat) := [(1, [11, 12, 13, 14, 15, 16, 17, 18]), (2, [19, 20, 21, 22, 23, 24, 25, 26]), (3, [27, 28, 29, 30, 31, 32, 33, 34]), (4, [35])]
@[go_sem] def kl151 : List (Nat × List Nat) := [(1, [3, 4, 5])]
@[go_sem] def kl152 : List (Nat × List Nat) := [(4, [11, 12]), (5, [13, 14]), (6, [15, 16, 17, 18, 19, 20, 21, 22, 23, 24]), (7, [26, 27]), (8, [28, 29, 30, 31, 32, 33, 34, 35, 36, 37, 38, 39]), (9, [40]), (10, [41])]
@[go_sem] def kl153 : List (Nat × List Nat) := [(3, [8, 9]), (4, [11, 12]), (5, [13, 14, 15]), (6, [16, 17, 18, 19]), (7, [21, 22]), (8, [23, 24, 25, 26]), (9, [27])]
@[go_sem] def kl154 : List (Nat × List Nat) := [(1, [6, 7, 8]), (2, [9, 10, 11]), (4, [16, 17]), (5, [18, 19, 20, 21, 22, 23]), (6, [24, 25, 26, 27, 28, 29]), (7, [30]), (8, [31])]
@[go_sem] def kl155 : List (Nat × List Nat) := [(1, [6, 7, 8]), (2, [9, 10, 11]), (4, [16, 17]), (5, [18, 19, 20, 21, 22, 23]), (6, [24, 25, 26, 27, 28, 29]), (7, [30]), (8, [31])]
@[go_sem] def kl156 : List (Nat × List Nat) := [(1, [3]), (2, [5, 6, 7, 8]), (3, [9, 10, 11, 12, 13, 14])]
@[go_sem] def kl157 : List (Nat × List Nat) := [(1, [4, 5, 6]), (2, [7, 8, 9, 10, 11, 12, 13, 14])]
@[go_sem] def kl158 : List (Nat × List Nat) := [(0, [17, 18]), (1, [19]), (2, [21, 22, 23]), (3, [24, 25]), (4, [26, 27, 28, 29]), (5, [30, 31, 32, 33, 34, 35]), (6, [36, 37, 38, 39, 40, 41]), (7, [42, 43, 44, 45, 46, 47, 48, 49, 50, 51, 52, 53, 54]), (8, [55, 56, 57, 58, 59, 60, 61, 62, 63, 64, 65, 66, 67]), (9, [68, 69, 70, 71, 72, 73, 74, 75, 76, 77, 78, 79, 80]), (10, [81, 82, 83, 84, 85, 86, 87, 88, 89, 90, 91, 92, 93]), (11, [94, 95]), (12, [96, 97]), (13, [98]), (14, [100, 101]), (15, [102, 103]), (16, [104, 105, 106, 107, 108, 109]), (17, [110, 111, 112, 113, 114, 115, 116, 117, 118, 119, 120, 121, 122]), (18, [123, 124, 125, 126, 127, 128, 129, 130, 131, 132, 133, 134, 135]), (19, [136, 137]), (20, [138]), (21, [140, 141, 142]), (22, [143, 144]), (23, [145, 146, 147, 148, 149, 150, 151, 152, 153, 154, 155, 156, 157]), (24, [158, 159]), (25, [160]), (26, [162, 163, 164, 165, 166])]
@[go_sem] def kl159 : List (Nat × List Nat) := [(1, [19, 20, 21, 22, 23, 24, 25, 26, 27]), (2, [29]), (6, [31, 32]), (7, [33]), (8, [35, 36, 37, 38]), (9, [39, 40]), (10, [41, 42, 43]), (11, [44, 45]), (12, [47, 48]), (13, [49, 50, 51, 52, 53, 54]), (14, [55, 56, 57]), (15, [58, 59]), (16, [60, 61, 62, 63]), (17, [64, 65]), (18, [66, 67]), (19, [69, 70]), (20, [71, 72, 73]), (21, [74, 75, 76, 77, 78, 79, 80, 81]), (22, [82]), (23, [83, 84]), (24, [85, 86, 87, 88]), (26, [90, 91]), (27, [92, 93]), (29, [95, 96, 97, 98]), (30, [99, 100, 101])]
@[go_sem] def kl161 : List (Nat × List Nat) := [(1, [5, 6, 7, 8, 9, 10, 11, 12, 13, 14, 15, 16, 17])]
@[go_sem] def kl162 : List (Nat × List Nat) := [(1, [13, 14]), (2, [15]), (4, [17, 18]), (5, [19, 20, 21]), (6, [22]), (7, [24, 25, 26, 27]), (8, [28, 29, 30, 31, 32, 33, 34, 35]), (9, [36, 37, 38]), (10, [39, 40, 41, 42]), (11, [43, 44]), (13, [46, 47]), (14, [48, 49, 50, 51, 52, 53, 54, 55, 56]), (16, [58]), (17, [60, 61, 62, 63, 64, 65, 66, 67]), (18, [68, 69]), (19, [70, 71, 72, 73, 74]), (21, [76]), (22, [78, 79, 80, 81, 82, 83, 84, 85, 86, 87, 88, 89, 90]), (23, [91, 92]), (24, [93, 94, 95, 96, 97]), (26, [99, 100, 101, 102, 103, 104, 105, 106, 107, 108, 109, 110, 111, 112, 113, 114, 115, 116])]
@[go_sem] def kl163 : List (Nat × List Nat) := [(1, [5, 6, 7])]
@[go_sem] def kl165 : List (Nat × List Nat) := [(1, [3, 4, 5])]
@[go_sem] def kl166 : List (Nat × List Nat) := [(1, [11, 12, 13, 14, 15]), (2, [16, 17]), (5, [18, 19]), (6, [21, 22]), (7, [23, 24, 25, 26, 27, 28, 29]), (8, [30, 31, 32, 33, 34, 35, 36, 37, 38]), (10, [40]), (11, [41, 42, 43]), (12, [45, 46]), (13, [47, 48, 49, 50, 51, 52]), (14, [53, 54, 55, 56, 57, 58, 59, 60, 61, 62]), (15, [63, 64]), (16, [65, 66, 67, 68, 69, 70, 71, 72, 73, 74, 75, 76]), (17, [78, 79, 80])]
@[go_sem] def kl167 : List (Nat × List Nat) := [(1, [10, 11, 12, 13, 14, 15, 16, 17]), (2, [19, 20, 21, 22, 23]), (3, [24, 25]), (4, [26, 27])]
@[go_sem] def kl168 : List (Nat × List Nat) := [(1, [6, 7, 8, 9, 10, 11, 12, 13]), (2, [14, 15, 16, 17, 18]), (3, [20, 21, 22, 23, 24, 25, 26, 27]), (4, [28, 29, 30]), (5, [31, 32, 33, 34, 35])]
@[go_sem] def kl169 : List (Nat × List Nat) := [(1, [3, 4, 5])]
@[go_sem] def kl170 : List (Nat × List Nat) := []
@[go_sem] def kl171 : List (Nat × List Nat) := [(1, [3, 4, 5, 6, 7])]
@[go_sem] def kl172 : List (Nat × List Nat) := [(1, [3, 4, 5]), (2, [6, 7])]
@[go_sem] def kl174 : List (Nat × List Nat) := [(3, [9, 10, 11]), (4, [13, 14]), (5, [15, 16, 17, 18, 19, 20, 21]), (7, [22, 23]), (8, [24]), (9, [26, 27]), (10, [28, 29]), (11, [31, 32, 33]), (12, [34, 35, 36]), (13, [37, 38])]
@[go_sem] def kl175 : List (Nat × List Nat) := [(1, [3]), (3, [5, 6, 7, 8, 9, 10, 11, 12, 13])]
@[go_sem] def kl176 : List (Nat × List Nat) := [(1, [3]), (3, [5, 6, 7, 8, 9, 10, 11, 12, 13])]
@[go_sem] def kl202 : List (Nat × List Nat) := [(0, [0]), (1, [1]), (2, [2]), (3, [3, 4, 5, 6, 7, 8])]
theorem pw_loop_over {P : Program} {Q : Exit → AS → Prop} {s : AS} {α : Type} {c : Code} (dead : List Nat) (L : α → List (Nat × PV)) (hp : α → List (Nat × Blk)) (nx : Nat) (J : α → Prop) (μ : α → Nat) (x0 : α) (h0 : J x0) (hf : Fits s ⟨over (wipe s.fr dead) (L x0), hp x0, nx⟩)
    (round : ∀ x, J x → PW P c (thenA (fun s' => ∃ x', J x' ∧ μ x' < μ x ∧ Fits s' ⟨over (wipe s.fr dead) (L x'), hp x', nx⟩) Q) ⟨over (wipe s.fr dead) (L x), hp x, nx⟩) : PW P (.loop c) Q s :=
  pw_loop (fun x => ⟨over (wipe s.fr dead) (L x), hp x, nx⟩) J μ x0 h0 hf round

/-- the truth of a proposition, as a bool -/
noncomputable def bP (p : Prop) : Bool := @decide p (Classical.propDecidable p)
theorem bP_true {p : Prop} (h : p) : bP p = true := by unfold bP; exact @decide_eq_true _ (Classical.propDecidable p) h
theorem bP_false {p : Prop} (h : ¬ p) : bP p = false := by unfold bP; exact @decide_eq_false _ (Classical.propDecidable p) h
theorem bP_iff {p : Prop} : bP p = true ↔ p := by unfold bP; exact @decide_eq_true_iff p (Classical.propDecidable p)
end Go.Proofs.YthocihmhljmgdaaGreatDoor
