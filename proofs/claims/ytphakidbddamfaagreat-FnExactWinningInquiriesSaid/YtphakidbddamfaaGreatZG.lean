/-
  The table of the program's types, for the abstract machine.
-/
import Derived.Test.YtphakidbddamfaaGreatProg
import Derived.Test.YtphakidbddamfaaGreatZM11
namespace Go.Proofs.YtphakidbddamfaaGreat
open Go.RowKit
def G : List (Nat × TI) := [(2, .num .i64), (3, .num .i64), (4, .bol), (5, .num .u8), (6, .num .u8), (7, .st 4 [(0, 1), (1, 1), (2, 1), (3, 1)] [.int .i64 0, .int .i64 0, .bool false, .int .u8 0]), (8, .st 4 [(0, 1), (1, 1), (2, 1), (3, 1)] [.int .i64 0, .int .i64 0, .bool false, .int .u8 0]), (9, .str), (10, .str), (11, .str), (12, .num .u64), (13, .st 2 [(0, 1), (1, 1)] [.str ⟨#[]⟩, .int .u64 0]), (14, .st 2 [(0, 1), (1, 1)] [.str ⟨#[]⟩, .int .u64 0]), (21, .num .i32), (22, .slc 156 4 40 [.str ⟨#[]⟩, .int .i64 0, .int .i64 0, .int .i64 0]), (23, .slc 3 1 8 [.int .i64 0]), (24, .st 6 [(0, 1), (1, 1), (2, 1), (3, 1), (4, 1), (5, 1)] [.lst 4 [], .lst 1 [], .int .i64 0, .int .i64 0, .int .i64 0, .int .i64 0]), (25, .st 6 [(0, 1), (1, 1), (2, 1), (3, 1), (4, 1), (5, 1)] [.lst 4 [], .lst 1 [], .int .i64 0, .int .i64 0, .int .i64 0, .int .i64 0]), (26, .slc 158 3 56 [.lst 1 [], .lst 1 [], .bool false]), (27, .slc 23 1 24 [.lst 1 []]), (28, .st 2 [(0, 1), (1, 1)] [.lst 1 [], .lst 1 []]), (29, .st 2 [(0, 1), (1, 1)] [.lst 1 [], .lst 1 []]), (30, .st 3 [(0, 1), (1, 1), (2, 1)] [.int .i64 0, .int .i64 0, .int .i64 0]), (31, .st 3 [(0, 1), (1, 1), (2, 1)] [.int .i64 0, .int .i64 0, .int .i64 0]), (32, .st 6 [(0, 1), (1, 2), (3, 3)] [.lst 3 [], .lst 1 [], .lst 1 [], .int .i64 0, .int .i64 0, .int .i64 0]), (33, .st 6 [(0, 1), (1, 2), (3, 3)] [.lst 3 [], .lst 1 [], .lst 1 [], .int .i64 0, .int .i64 0, .int .i64 0]), (34, .st 5 [(0, 1), (1, 1), (2, 1), (3, 1), (4, 1)] [.int .i64 0, .int .i64 0, .int .i64 0, .int .i64 0, .bool false]), (35, .st 5 [(0, 1), (1, 1), (2, 1), (3, 1), (4, 1)] [.int .i64 0, .int .i64 0, .int .i64 0, .int .i64 0, .bool false]), (40, .slc 161 4 40 [.str ⟨#[]⟩, .int .i64 0, .int .i64 0, .int .i64 0]), (41, .st 6 [(0, 1), (1, 1), (2, 1), (3, 1), (4, 1), (5, 1)] [.lst 4 [], .lst 1 [], .int .i64 0, .int .i64 0, .int .i64 0, .int .i64 0]), (42, .st 6 [(0, 1), (1, 1), (2, 1), (3, 1), (4, 1), (5, 1)] [.lst 4 [], .lst 1 [], .int .i64 0, .int .i64 0, .int .i64 0, .int .i64 0]), (44, .slc 143 3 56 [.lst 1 [], .lst 1 [], .bool false]), (45, .st 2 [(0, 1), (1, 1)] [.lst 1 [], .lst 1 []]), (46, .st 3 [(0, 1), (1, 1), (2, 1)] [.int .i64 0, .int .i64 0, .int .i64 0]), (47, .st 6 [(0, 1), (1, 2), (3, 3)] [.lst 3 [], .lst 1 [], .lst 1 [], .int .i64 0, .int .i64 0, .int .i64 0]), (48, .st 6 [(0, 1), (1, 2), (3, 3)] [.lst 3 [], .lst 1 [], .lst 1 [], .int .i64 0, .int .i64 0, .int .i64 0]), (50, .st 5 [(0, 1), (1, 1), (2, 1), (3, 1), (4, 1)] [.int .i64 0, .int .i64 0, .int .i64 0, .int .i64 0, .bool false]), (55, .slc 35 5 40 [.int .i64 0, .int .i64 0, .int .i64 0, .int .i64 0, .bool false]), (58, .slc 50 5 40 [.int .i64 0, .int .i64 0, .int .i64 0, .int .i64 0, .bool false]), (72, .slc 5 1 1 [.int .u8 0]), (77, .slc 131 6 48 [.int .i64 0, .int .i64 0, .int .i64 0, .int .i64 0, .int .i64 0, .bool false]), (130, .st 6 [(0, 1), (1, 1), (2, 1), (3, 1), (4, 1), (5, 1)] [.int .i64 0, .int .i64 0, .int .i64 0, .int .i64 0, .int .i64 0, .bool false]), (131, .st 6 [(0, 1), (1, 1), (2, 1), (3, 1), (4, 1), (5, 1)] [.int .i64 0, .int .i64 0, .int .i64 0, .int .i64 0, .int .i64 0, .bool false]), (133, .num .u64), (134, .st 3 [(0, 1), (1, 1), (2, 1)] [.lst 1 [], .int .i64 0, .int .u64 0]), (135, .st 3 [(0, 1), (1, 1), (2, 1)] [.lst 1 [], .int .i64 0, .int .u64 0]), (141, .slc 9 1 16 [.str ⟨#[]⟩]), (142, .st 3 [(0, 1), (1, 1), (2, 1)] [.lst 1 [], .lst 1 [], .bool false]), (143, .st 3 [(0, 1), (1, 1), (2, 1)] [.lst 1 [], .lst 1 [], .bool false]), (155, .st 4 [(0, 1), (1, 1), (2, 1), (3, 1)] [.str ⟨#[]⟩, .int .i64 0, .int .i64 0, .int .i64 0]), (156, .st 4 [(0, 1), (1, 1), (2, 1), (3, 1)] [.str ⟨#[]⟩, .int .i64 0, .int .i64 0, .int .i64 0]), (158, .st 3 [(0, 1), (1, 1), (2, 1)] [.lst 1 [], .lst 1 [], .bool false]), (161, .st 4 [(0, 1), (1, 1), (2, 1), (3, 1)] [.str ⟨#[]⟩, .int .i64 0, .int .i64 0, .int .i64 0]), (205, .num .u64), (214, .arr 2 1 [.int .i64 0, .int .i64 0]), (241, .num .u32), (242, .num .u8), (243, .num .u8), (246, .num .i32), (247, .num .i32)]
theorem G_ok : GOK Tryz.prog G := GOK.of_all (by kernel_rfl)
@[go_sem] theorem G2 : tget G 2 = some (.num .i64) := rfl
@[go_sem] theorem G3 : tget G 3 = some (.num .i64) := rfl
@[go_sem] theorem G4 : tget G 4 = some (.bol) := rfl
@[go_sem] theorem G5 : tget G 5 = some (.num .u8) := rfl
@[go_sem] theorem G6 : tget G 6 = some (.num .u8) := rfl
@[go_sem] theorem G7 : tget G 7 = some (.st 4 [(0, 1), (1, 1), (2, 1), (3, 1)] [.int .i64 0, .int .i64 0, .bool false, .int .u8 0]) := rfl
@[go_sem] theorem G8 : tget G 8 = some (.st 4 [(0, 1), (1, 1), (2, 1), (3, 1)] [.int .i64 0, .int .i64 0, .bool false, .int .u8 0]) := rfl
@[go_sem] theorem G9 : tget G 9 = some (.str) := rfl
@[go_sem] theorem G10 : tget G 10 = some (.str) := rfl
@[go_sem] theorem G11 : tget G 11 = some (.str) := rfl
@[go_sem] theorem G12 : tget G 12 = some (.num .u64) := rfl
@[go_sem] theorem G13 : tget G 13 = some (.st 2 [(0, 1), (1, 1)] [.str ⟨#[]⟩, .int .u64 0]) := rfl
@[go_sem] theorem G14 : tget G 14 = some (.st 2 [(0, 1), (1, 1)] [.str ⟨#[]⟩, .int .u64 0]) := rfl
@[go_sem] theorem G21 : tget G 21 = some (.num .i32) := rfl
@[go_sem] theorem G22 : tget G 22 = some (.slc 156 4 40 [.str ⟨#[]⟩, .int .i64 0, .int .i64 0, .int .i64 0]) := rfl
@[go_sem] theorem G23 : tget G 23 = some (.slc 3 1 8 [.int .i64 0]) := rfl
@[go_sem] theorem G24 : tget G 24 = some (.st 6 [(0, 1), (1, 1), (2, 1), (3, 1), (4, 1), (5, 1)] [.lst 4 [], .lst 1 [], .int .i64 0, .int .i64 0, .int .i64 0, .int .i64 0]) := rfl
@[go_sem] theorem G25 : tget G 25 = some (.st 6 [(0, 1), (1, 1), (2, 1), (3, 1), (4, 1), (5, 1)] [.lst 4 [], .lst 1 [], .int .i64 0, .int .i64 0, .int .i64 0, .int .i64 0]) := rfl
@[go_sem] theorem G26 : tget G 26 = some (.slc 158 3 56 [.lst 1 [], .lst 1 [], .bool false]) := rfl
@[go_sem] theorem G27 : tget G 27 = some (.slc 23 1 24 [.lst 1 []]) := rfl
@[go_sem] theorem G28 : tget G 28 = some (.st 2 [(0, 1), (1, 1)] [.lst 1 [], .lst 1 []]) := rfl
@[go_sem] theorem G29 : tget G 29 = some (.st 2 [(0, 1), (1, 1)] [.lst 1 [], .lst 1 []]) := rfl
@[go_sem] theorem G30 : tget G 30 = some (.st 3 [(0, 1), (1, 1), (2, 1)] [.int .i64 0, .int .i64 0, .int .i64 0]) := rfl
@[go_sem] theorem G31 : tget G 31 = some (.st 3 [(0, 1), (1, 1), (2, 1)] [.int .i64 0, .int .i64 0, .int .i64 0]) := rfl
@[go_sem] theorem G32 : tget G 32 = some (.st 6 [(0, 1), (1, 2), (3, 3)] [.lst 3 [], .lst 1 [], .lst 1 [], .int .i64 0, .int .i64 0, .int .i64 0]) := rfl
@[go_sem] theorem G33 : tget G 33 = some (.st 6 [(0, 1), (1, 2), (3, 3)] [.lst 3 [], .lst 1 [], .lst 1 [], .int .i64 0, .int .i64 0, .int .i64 0]) := rfl
@[go_sem] theorem G34 : tget G 34 = some (.st 5 [(0, 1), (1, 1), (2, 1), (3, 1), (4, 1)] [.int .i64 0, .int .i64 0, .int .i64 0, .int .i64 0, .bool false]) := rfl
@[go_sem] theorem G35 : tget G 35 = some (.st 5 [(0, 1), (1, 1), (2, 1), (3, 1), (4, 1)] [.int .i64 0, .int .i64 0, .int .i64 0, .int .i64 0, .bool false]) := rfl
@[go_sem] theorem G40 : tget G 40 = some (.slc 161 4 40 [.str ⟨#[]⟩, .int .i64 0, .int .i64 0, .int .i64 0]) := rfl
@[go_sem] theorem G41 : tget G 41 = some (.st 6 [(0, 1), (1, 1), (2, 1), (3, 1), (4, 1), (5, 1)] [.lst 4 [], .lst 1 [], .int .i64 0, .int .i64 0, .int .i64 0, .int .i64 0]) := rfl
@[go_sem] theorem G42 : tget G 42 = some (.st 6 [(0, 1), (1, 1), (2, 1), (3, 1), (4, 1), (5, 1)] [.lst 4 [], .lst 1 [], .int .i64 0, .int .i64 0, .int .i64 0, .int .i64 0]) := rfl
@[go_sem] theorem G44 : tget G 44 = some (.slc 143 3 56 [.lst 1 [], .lst 1 [], .bool false]) := rfl
@[go_sem] theorem G45 : tget G 45 = some (.st 2 [(0, 1), (1, 1)] [.lst 1 [], .lst 1 []]) := rfl
@[go_sem] theorem G46 : tget G 46 = some (.st 3 [(0, 1), (1, 1), (2, 1)] [.int .i64 0, .int .i64 0, .int .i64 0]) := rfl
@[go_sem] theorem G47 : tget G 47 = some (.st 6 [(0, 1), (1, 2), (3, 3)] [.lst 3 [], .lst 1 [], .lst 1 [], .int .i64 0, .int .i64 0, .int .i64 0]) := rfl
@[go_sem] theorem G48 : tget G 48 = some (.st 6 [(0, 1), (1, 2), (3, 3)] [.lst 3 [], .lst 1 [], .lst 1 [], .int .i64 0, .int .i64 0, .int .i64 0]) := rfl
@[go_sem] theorem G50 : tget G 50 = some (.st 5 [(0, 1), (1, 1), (2, 1), (3, 1), (4, 1)] [.int .i64 0, .int .i64 0, .int .i64 0, .int .i64 0, .bool false]) := rfl
@[go_sem] theorem G55 : tget G 55 = some (.slc 35 5 40 [.int .i64 0, .int .i64 0, .int .i64 0, .int .i64 0, .bool false]) := rfl
@[go_sem] theorem G58 : tget G 58 = some (.slc 50 5 40 [.int .i64 0, .int .i64 0, .int .i64 0, .int .i64 0, .bool false]) := rfl
@[go_sem] theorem G72 : tget G 72 = some (.slc 5 1 1 [.int .u8 0]) := rfl
@[go_sem] theorem G77 : tget G 77 = some (.slc 131 6 48 [.int .i64 0, .int .i64 0, .int .i64 0, .int .i64 0, .int .i64 0, .bool false]) := rfl
@[go_sem] theorem G130 : tget G 130 = some (.st 6 [(0, 1), (1, 1), (2, 1), (3, 1), (4, 1), (5, 1)] [.int .i64 0, .int .i64 0, .int .i64 0, .int .i64 0, .int .i64 0, .bool false]) := rfl
@[go_sem] theorem G131 : tget G 131 = some (.st 6 [(0, 1), (1, 1), (2, 1), (3, 1), (4, 1), (5, 1)] [.int .i64 0, .int .i64 0, .int .i64 0, .int .i64 0, .int .i64 0, .bool false]) := rfl
@[go_sem] theorem G133 : tget G 133 = some (.num .u64) := rfl
@[go_sem] theorem G134 : tget G 134 = some (.st 3 [(0, 1), (1, 1), (2, 1)] [.lst 1 [], .int .i64 0, .int .u64 0]) := rfl
@[go_sem] theorem G135 : tget G 135 = some (.st 3 [(0, 1), (1, 1), (2, 1)] [.lst 1 [], .int .i64 0, .int .u64 0]) := rfl
@[go_sem] theorem G141 : tget G 141 = some (.slc 9 1 16 [.str ⟨#[]⟩]) := rfl
@[go_sem] theorem G142 : tget G 142 = some (.st 3 [(0, 1), (1, 1), (2, 1)] [.lst 1 [], .lst 1 [], .bool false]) := rfl
@[go_sem] theorem G143 : tget G 143 = some (.st 3 [(0, 1), (1, 1), (2, 1)] [.lst 1 [], .lst 1 [], .bool false]) := rfl
@[go_sem] theorem G155 : tget G 155 = some (.st 4 [(0, 1), (1, 1), (2, 1), (3, 1)] [.str ⟨#[]⟩, .int .i64 0, .int .i64 0, .int .i64 0]) := rfl
@[go_sem] theorem G156 : tget G 156 = some (.st 4 [(0, 1), (1, 1), (2, 1), (3, 1)] [.str ⟨#[]⟩, .int .i64 0, .int .i64 0, .int .i64 0]) := rfl
@[go_sem] theorem G158 : tget G 158 = some (.st 3 [(0, 1), (1, 1), (2, 1)] [.lst 1 [], .lst 1 [], .bool false]) := rfl
@[go_sem] theorem G161 : tget G 161 = some (.st 4 [(0, 1), (1, 1), (2, 1), (3, 1)] [.str ⟨#[]⟩, .int .i64 0, .int .i64 0, .int .i64 0]) := rfl
@[go_sem] theorem G205 : tget G 205 = some (.num .u64) := rfl
@[go_sem] theorem G214 : tget G 214 = some (.arr 2 1 [.int .i64 0, .int .i64 0]) := rfl
@[go_sem] theorem G241 : tget G 241 = some (.num .u32) := rfl
@[go_sem] theorem G242 : tget G 242 = some (.num .u8) := rfl
@[go_sem] theorem G243 : tget G 243 = some (.num .u8) := rfl
@[go_sem] theorem G246 : tget G 246 = some (.num .i32) := rfl
@[go_sem] theorem G247 : tget G 247 = some (.num .i32) := rfl
theorem mixed : Tryz.prog.follows .mixedOrders = true := by kernel_rfl

theorem retQ_ret {G : List (Nat × TI)} {fn : Func} {Post : List RV → Prop} {s : AS} {xs : List PV} {rs : List RV} (h1 : retPVs G s fn.results.toList = some xs) (h2 : retL s.hp xs = some rs) (h3 : (rowsOf xs).Nodup) (h4 : Post rs) : retQ G fn Post .ret s := ⟨xs, rs, h1, h2, h3, h4⟩
/-- slots given anew -/
def over : Fr → List (Nat × PV) → Fr
  | f, [] => f
  | f, (t, x) :: r => over ⟨f.n, ins f.l t x⟩ r
/-- slots forgotten behind a region: a table -/
def tlook : List (Nat × List Nat) → Nat → List Nat
  | [], _ => []
  | (k, ts) :: r, i => if i = k then ts else tlook r i
def forget (T : List (Nat × List Nat)) (id : Nat) (s : AS) : AS := ⟨wipe s.fr (tlook T id), s.hp, s.nx⟩
theorem pw_forget {P : Program} {c : Code} {Q : Exit → AS → Prop} {s : AS} (T : List (Nat × List Nat)) (id : Nat) (h : PW P c Q (forget T id s)) : PW P c Q s := fun X0 w0 m a w hs => h X0 w0 m a w (hs.wipe _)
theorem pw_seq_ops {P : Program} {G : List (Nat × TI)} (hG : GOK P G) {Q : Exit → AS → Prop} {s : AS} {id : Nat} {l : List Oper} {y : Code} (h : ∀ K : AS → Prop, (∀ s', PW P y Q s' → K s') → execL P G l.toArray l K s) : PW P (.seq (.region id l.toArray false) y) Q s :=
  pw_seq_k fun _ hK => pw_ops hG fun K' hK' => h K' fun s' h' => hK' s' (hK s' h')
theorem pw_seq_opsK {P : Program} {G : List (Nat × TI)} (T : List (Nat × List Nat)) (hG : GOK P G) {Q : Exit → AS → Prop} {s : AS} {id : Nat} {l : List Oper} {y : Code} (h : ∀ K : AS → Prop, (∀ s', PW P y Q (forget T id s') → K s') → execL P G l.toArray l K s) : PW P (.seq (.region id l.toArray false) y) Q s :=
  pw_seq_ops hG fun K hK => h K fun s' h' => hK s' (pw_forget T id h')
theorem pw_seq_drawK {P : Program} {G : List (Nat × TI)} (T : List (Nat × List Nat)) {Q : Exit → AS → Prop} {s : AS} {id : Nat} {l : List Oper} {y : Code} (hG : GOK P G) (hm : P.follows .mixedOrders = true) (hB : Region.lexB .any l.toArray = true) (h : ∀ K : AS → Prop, (∀ s', PW P y Q (forget T id s') → K s') → quietL P G l.toArray l K s) : PW P (.seq (.region id l.toArray true) y) Q s :=
  pw_seq_draw hG hm hB fun K hK => h K fun s' h' => hK s' (pw_forget T id h')
theorem pw_seq_tailK {P : Program} {G : List (Nat × TI)} (T : List (Nat × List Nat)) {Q : Exit → AS → Prop} {s : AS} {id : Nat} {l : List Oper} {y : Code} (hG : GOK P G) (p n : Nat) (hm : P.follows .mixedOrders = true) (hB : tailB l.toArray p n = true) (h : ∀ K : AS → Prop, (∀ s', PW P y Q (forget T id s') → K s') → quietL P G l.toArray (l.take n) (execL P G l.toArray (l.drop n) K) s) : PW P (.seq (.region id l.toArray true) y) Q s :=
  pw_seq_tail hG p n hm hB fun K hK => h K fun s' h' => hK s' (pw_forget T id h')
/-- a region in any order: from s, with these operations done, it leads into K -/
def AnyP (P : Program) (ops : Array Oper) (K : AS → Prop) (fuel : Nat) (listed : Array Bool) (s : AS) : Prop :=
  ∀ (X0 : Nat → Prop) (w0 : Base) (m : Mp) (a : Act) (w : World) (Q' : Exit → Act → World → Prop), (∀ m' s' a' w', K s' → Sim X0 w0 m' s' a' w' → Q' .normal a' w') → Sim X0 w0 m s a w → wpAny P .any ops Q' fuel listed a w
theorem any_done {P : Program} {ops : Array Oper} {K : AS → Prop} {fuel : Nat} {listed : Array Bool} {s : AS} (hR : Region.ready .any ops listed = []) (h : K s) : AnyP P ops K fuel listed s := by
  intro X0 w0 m a w Q' hQ hs
  cases fuel with
  | zero => exact ⟨hR, hQ m s a w h hs⟩
  | succ n => exact ⟨fun _ => hQ m s a w h hs, fun i hi => by rw [hR] at hi; cases hi⟩
theorem any_op {P : Program} {ops : Array Oper} {K : AS → Prop} {o : Oper} {i : Nat} {s : AS} {X0 : Nat → Prop} {w0 : Base} {m : Mp} {a : Act} {w : World} {Q' : Exit → Act → World → Prop} {A : Act → World → Prop} (ho : ops[i]? = some o) (h : PL P ops [o] K s) (hs : Sim X0 w0 m s a w)
    (hK : ∀ m' s' a' w', K s' → Sim X0 w0 m' s' a' w' → A a' w') : wpOp P ops Q' i A a w := by
  have step : ∀ s, Sim X0 w0 m s a w → PO P o s K → o.wp P a w A Q' := by
    intro s hs h1
    exact Oper.wp_mono (fun a' w' ⟨m', s', h2, h3⟩ => hK m' s' a' w' h2 h3) (h1 X0 w0 m a w Q' hs)
  unfold wpOp
  simp only [ho]
  simp only [PL] at h
  split at h
  · rename_i hg
    simp only [Region.wanted, hg, if_true]
    exact .inl (step s hs h)
  · rename_i j want hg
    rcases h with ⟨b, h1, h2, h3⟩ | ⟨h1, h3⟩
    · have hy : yielded ops a.tmps j = some b := by
        unfold yB at h1
        cases hd : (ops[j]?).bind (·.dst) with
        | none => rw [hd] at h1; cases h1
        | some t =>
          rw [hd] at h1
          have h4 := hs.get (.tmp t)
          have h1' : lk s.fr.l t = .d (.bool b) := h1
          simp only [AS.get] at h4
          rw [h1'] at h4
          have h5 : a.tmps.getD t undef = .bool b := h4.bool
          have h6 : a.tmps[t]? = some (.bool b) := by
            rw [Array.getD_eq_getD_getElem?] at h5
            cases ht : a.tmps[t]? with
            | none => rw [ht] at h5; cases h5
            | some u => rw [ht] at h5; simp at h5; rw [h5]
          unfold yielded
          rw [hd]
          simp [h6]
      simp only [Region.wanted, hg, hy]
      by_cases hb : b = want
      · subst hb
        simp only [beq_self_eq_true, if_true]
        exact .inl (step s hs (h2 rfl))
      · have : (some b == some want) = false := by simpa using hb
        simp only [this, Bool.false_eq_true, if_false]
        exact hK _ _ _ _ (h3 hb) (hs.put (tup0 _ _ _) o.dst)
    · have hy : yielded ops a.tmps j = none := by
        unfold yB at h1
        cases hd : (ops[j]?).bind (·.dst) with
        | none => rw [hd] at h1; cases h1
        | some t =>
          rw [hd] at h1
          have h4 := hs.get (.tmp t)
          have h1' : lk s.fr.l t = .tup [] := h1
          simp only [AS.get] at h4
          rw [h1'] at h4
          have h5 : ∀ b, a.tmps.getD t undef ≠ .bool b := by
            intro b he
            have h4' : R m (Owned X0 m s.hp) w (.tup []) (a.tmps.getD t undef) := h4
            rw [he] at h4'
            cases h4'
          unfold yielded
          rw [hd]
          simp only [Option.bind_some]
          split
          · rename_i b hb
            exact absurd (by rw [Array.getD_eq_getD_getElem?, hb]; rfl) (h5 b)
          · rfl
      simp only [Region.wanted, hg, hy]
      have : ((none : Option Bool) == some want) = false := rfl
      simp only [this, Bool.false_eq_true, if_false]
      exact hK _ _ _ _ h3 (hs.put (tup0 _ _ _) o.dst)
/-- all that may come next -/
def AllR (P : Program) (G : List (Nat × TI)) (l : List Oper) (K : AS → Prop) (fuel : Nat) (listed : Array Bool) (s : AS) : List Nat → Prop
  | [] => True
  | i :: r => (∃ o, l[i]? = some o ∧ ∀ K' : AS → Prop, (∀ s', AnyP P l.toArray K fuel (listed.setIfInBounds i true) s' → K' s') → step1 false P G l.toArray o s K') ∧ AllR P G l K fuel listed s r
theorem any_step {P : Program} {G : List (Nat × TI)} (hG : GOK P G) (R : List Nat) {l : List Oper} {K : AS → Prop} {fuel : Nat} {listed : Array Bool} {s : AS} (hR : Region.ready .any l.toArray listed = R) (hne : R.isEmpty = false) (h : AllR P G l K fuel listed s R) : AnyP P l.toArray K (fuel + 1) listed s := by
  intro X0 w0 m a w Q' hQ hs
  refine ⟨fun h0 => (by rw [hR] at h0; subst h0; cases hne), fun i hi => ?_⟩
  rw [hR] at hi
  have key : ∀ R : List Nat, AllR P G l K fuel listed s R → ∀ i ∈ R, ∃ o, l[i]? = some o ∧ ∀ K' : AS → Prop, (∀ s', AnyP P l.toArray K fuel (listed.setIfInBounds i true) s' → K' s') → step1 false P G l.toArray o s K' := by
    intro R
    induction R with
    | nil => intro _ i hi; cases hi
    | cons j r ih =>
      rintro ⟨h1, h2⟩ i hi
      rcases List.mem_cons.1 hi with rfl | hi
      · exact h1
      · exact ih h2 i hi
  obtain ⟨o, ho, h1⟩ := key R h i hi
  have h2 : execL P G l.toArray [o] (AnyP P l.toArray K fuel (listed.setIfInBounds i true)) s := execL_step fun K' hK' => h1 K' fun s' hs' => hK' s' hs'
  exact any_op (by simpa using ho) (execL_sound hG _ _ _ h2) hs fun m' s' a' w' h3 h4 => h3 X0 w0 m' a' w' Q' hQ h4
theorem pw_any {P : Program} {Q : Exit → AS → Prop} {s : AS} {id : Nat} {l : List Oper} (hm : P.follows .mixedOrders = true) (h : AnyP P l.toArray (Q .normal) l.length (Array.replicate l.length false) s) : PW P (.region id l.toArray true) Q s := by
  intro X0 w0 m a w hs
  refine wp_region_any hm ?_
  have := h X0 w0 m a w.drew (fun e a' w' => ∃ m' s', Q e s' ∧ Sim X0 w0 m' s' a' w') (fun m' s' a' w' h1 h2 => ⟨m', s', h1, h2⟩) hs.drew
  simpa using this
theorem pw_seq_any_to {P : Program} (T : List (Nat × List Nat)) {Q : Exit → AS → Prop} {s s1 : AS} {id : Nat} {l : List Oper} {y : Code} (hm : P.follows .mixedOrders = true)
    (h : AnyP P l.toArray (fun s' => forget T id s' = s1 ∨ Fits (forget T id s') s1) l.length (Array.replicate l.length false) s) (h2 : PW P y Q s1) : PW P (.seq (.region id l.toArray true) y) Q s :=
  pw_seq_k fun K hK => pw_any hm fun X0 w0 m a w Q' hQ hs => h X0 w0 m a w Q' (fun m' s' a' w' h3 h4 => hQ m' s' a' w' (hK s' (pw_forget T id (by
    rcases h3 with h3 | h3
    · rw [h3]; exact h2
    · exact pw_fits h3 h2))) h4) hs
@[congr] theorem PW_congr {P : Program} {c : Code} {Q : Exit → AS → Prop} {s s' : AS} (h : s = s') : PW P c Q s = PW P c Q s' := by subst h; rfl
attribute [go_sem] forget tlook
/-- steps that leave a continuation -/
class StpK (a : Prop) (A : outParam (AS → Prop)) (b : outParam ((AS → Prop) → Prop)) : Prop where
  mp : (∀ K : AS → Prop, (∀ s', A s' → K s') → b K) → a
theorem stq {a : Prop} {A : AS → Prop} {b : (AS → Prop) → Prop} [i : StpK a A b] (h : ∀ K : AS → Prop, (∀ s', A s' → K s') → b K) : a := i.mp h
/-- a test, by what its slot holds -/
def cK (y : PV) (A B : Prop) : Prop := match y with
  | .d (.bool b) => pK b A B
  | _ => False
@[congr] theorem cK_congr {y y' : PV} {A B : Prop} (h : y = y') : cK y A B = cK y' A B := by subst h; rfl
class StpC (a : Prop) (b : outParam Prop) : Prop where
  mp : b → a
theorem stc {a b : Prop} [i : StpC a b] (h : b) : a := i.mp h
section
variable {P : Program} {G : List (Nat × TI)} {ops : Array Oper} {s : AS} {K : AS → Prop} {Q : Exit → AS → Prop} {x y z : Code} {id : Nat} {rest : List Oper} {d : Option Tmp} {op : Op} {t : TypeId} {pos : String} {af : Array Edge} {c : Operand}
instance : StpK (execL P G ops (⟨d, op, t, pos, af, none⟩ :: rest) K s) (execL P G ops rest K) (fun K' => ex2 false P G ⟨d, op, t, pos, af, none⟩ s K') := ⟨fun h => execL_step fun K' hK' => s_none rfl (h K' hK')⟩
instance : StpK (quietL P G ops (⟨d, op, t, pos, af, none⟩ :: rest) K s) (quietL P G ops rest K) (fun K' => ex2 true P G ⟨d, op, t, pos, af, none⟩ s K') := ⟨fun h => quietL_step fun K' hK' => s_none rfl (h K' hK')⟩
theorem cK_of {A B : Prop} (hA : ∀ b, s.get c = .d (.bool b) → pK b A B → PW P z Q s) (h : cK (s.get c) A B) : PW P z Q s := by
  unfold cK at h
  split at h
  · rename_i b e; exact hA b e h
  · exact h.elim
instance : StpC (PW P (.cond c x y) Q s) (cK (s.get c) (PW P x Q s) (PW P y Q s)) := ⟨cK_of fun _ e h => pw_cond e h.1 h.2⟩
instance : StpC (PW P (.seq (.cond c x y) z) Q s) (cK (s.get c) (PW P x (thenA (PW P z Q) Q) s) (PW P y (thenA (PW P z Q) Q) s)) := ⟨cK_of fun _ e h => pw_seq (pw_cond e h.1 h.2)⟩
end
attribute [go_sem] cK
theorem xS {P : Program} {G : List (Nat × TI)} {ops : Array Oper} {o : Oper} {rest : List Oper} {K : AS → Prop} {s : AS} {t : Nat} {want : Bool} (hg : gOf ops o = some (t, want)) (h : ∀ K' : AS → Prop, (∀ s', execL P G ops rest K s' → K' s') → gK2 false P G o s K' t want (lk s.fr.l t)) : execL P G ops (o :: rest) K s := execL_step fun K' hK' => s_some2 hg (h K' hK')
theorem qS {P : Program} {G : List (Nat × TI)} {ops : Array Oper} {o : Oper} {rest : List Oper} {K : AS → Prop} {s : AS} {t : Nat} {want : Bool} (hg : gOf ops o = some (t, want)) (h : ∀ K' : AS → Prop, (∀ s', quietL P G ops rest K s' → K' s') → gK2 true P G o s K' t want (lk s.fr.l t)) : quietL P G ops (o :: rest) K s := quietL_step fun K' hK' => s_some2 hg (h K' hK')
theorem kN {Q : Exit → AS → Prop} {s : AS} {id : Nat} {l : List Oper} {y : Code} (T : List (Nat × List Nat)) (h : ∀ K : AS → Prop, (∀ s', PW Tryz.prog y Q (forget T id s') → K s') → execL Tryz.prog G l.toArray l K s) : PW Tryz.prog (.seq (.region id l.toArray false) y) Q s := pw_seq_opsK T G_ok h
theorem kO {Q : Exit → AS → Prop} {s : AS} {id : Nat} {l : List Oper} (h : ∀ K : AS → Prop, (∀ s', Q .normal s' → K s') → execL Tryz.prog G l.toArray l K s) : PW Tryz.prog (.region id l.toArray false) Q s := pw_ops G_ok h
/-- a break out of an inner block -/
theorem iB {Q : Exit → AS → Prop} {id id' : Nat} {s : AS} (h : Q (.exit id') s) (hne : id' ≠ id := by decide) : inBlockA id Q (.exit id') s := inBlockA_other hne h

@[go_sem] def kl2 : List (Nat × List Nat) := [(0, [0])]
@[go_sem] def kl3 : List (Nat × List Nat) := [(2, [16, 17, 18]), (3, [19]), (5, [21, 22, 23]), (6, [24]), (8, [26, 27, 28, 29, 30, 31, 32, 33, 34, 35, 36]), (9, [37, 38]), (10, [39, 40]), (11, [41, 42, 43, 44, 45, 46, 47, 48, 49]), (12, [50, 51, 52, 53, 54, 55, 56]), (14, [58, 59, 60, 61]), (16, [63, 64, 65, 66])]
@[go_sem] def kl4 : List (Nat × List Nat) := [(2, [17, 18, 19]), (3, [20]), (5, [22, 23, 24]), (6, [25]), (8, [27, 28, 29]), (9, [30]), (11, [32, 33, 34, 35, 36, 37, 38, 39, 40, 41, 42]), (12, [43, 44]), (13, [45, 46]), (14, [47, 48]), (15, [49, 50, 51, 52, 53, 54, 55, 56]), (16, [57, 58, 59, 60, 61, 62, 63]), (18, [65, 66, 67, 68]), (20, [70, 71, 72, 73]), (22, [75, 76, 77, 78])]
@[go_sem] def kl5 : List (Nat × List Nat) := [(2, [18, 19, 20]), (3, [21]), (5, [23, 24, 25]), (6, [26]), (8, [28, 29, 30, 31, 32, 33, 34, 35, 36, 37, 38]), (9, [39, 40]), (10, [41, 42]), (11, [43, 44, 45, 46, 47, 48, 49, 50, 51]), (12, [52, 53, 54, 55, 56, 57, 58, 59, 60, 61, 62, 63, 64, 65, 66, 67, 68]), (14, [70, 71, 72, 73]), (16, [75, 76, 77, 78])]
@[go_sem] def kl6 : List (Nat × List Nat) := [(2, [22, 23, 24]), (3, [25]), (5, [27, 28, 29]), (6, [30]), (8, [32, 33, 34]), (9, [35]), (11, [37, 38, 39, 40, 41, 42, 43, 44, 45, 46, 47]), (12, [48, 49]), (13, [50, 51]), (14, [52, 53]), (15, [54, 55, 56, 57, 58, 59, 60, 61]), (16, [62, 63, 64, 65, 66, 67, 68, 69]), (18, [71, 72, 73, 74]), (20, [76, 77, 78, 79]), (22, [81, 82, 83, 84]), (25, [86, 87, 88]), (26, [89, 90, 91]), (27, [92, 93, 94]), (28, [95, 96, 97, 98, 99, 100, 101, 102, 103, 104, 105, 106]), (31, [108, 109, 110]), (33, [111, 112, 113]), (34, [114]), (36, [116, 117]), (38, [119, 120, 121, 122, 123, 124, 125, 126, 127, 128, 129]), (39, [130, 131, 132, 133, 134, 135, 136, 137]), (42, [139, 140, 141]), (43, [142]), (45, [144, 145])]
@[go_sem] def kl7 : List (Nat × List Nat) := [(1, [42, 43, 44, 45, 46]), (3, [48, 49, 50, 51, 52]), (4, [53, 54, 55, 56, 57, 58]), (5, [59, 60, 61, 62, 63, 64]), (6, [65, 66, 67, 68, 69, 70]), (7, [71, 72, 73, 74, 75, 76]), (8, [77, 78, 79, 80, 81, 82]), (9, [83, 84, 85, 86, 87, 88]), (10, [89, 90, 91, 92, 93, 94, 95]), (11, [96, 97, 98, 99, 100, 101, 102, 103]), (12, [104, 105, 106, 107, 108, 109, 110, 111]), (13, [112, 113, 114, 115, 116, 117, 118, 119, 120, 121, 122, 123, 124, 125, 126, 127, 128, 129, 130, 131, 132, 133, 134, 135, 136, 137, 138, 139, 140, 141, 142, 143, 144, 145, 146, 147, 148, 149, 150, 151, 152, 153, 154, 155, 156, 157, 158, 159, 160, 161, 162, 163]), (16, [166, 167, 168, 169, 170, 171, 172]), (17, [173, 174, 175, 176, 177, 178, 179]), (18, [180, 181, 182, 183, 184, 185, 186]), (19, [187, 188, 189, 190, 191, 192, 193]), (20, [194, 195, 196, 197, 198, 199, 200]), (21, [201, 202, 203, 204, 205, 206, 207, 208, 209, 210, 211, 212, 213, 214, 215, 216, 217, 218, 219, 220, 221, 222, 223, 224, 225, 226, 227, 228, 229, 230, 231, 232, 233, 234]), (23, [236]), (25, [238, 239, 240, 241, 242, 243]), (29, [248, 249]), (30, [250]), (31, [252, 253]), (32, [254]), (33, [255, 256, 257, 258, 259, 260, 261, 262, 263, 264, 265, 266])]
@[go_sem] def kl8 : List (Nat × List Nat) := [(1, [67, 68, 69, 70, 71]), (3, [73, 74, 75, 76, 77, 78]), (4, [79, 80, 81, 82, 83, 84, 85, 86, 87]), (5, [88, 89, 90, 91, 92, 93, 94, 95, 96]), (6, [97, 98, 99, 100, 101, 102, 103]), (7, [104, 105, 106, 107, 108, 109, 110, 111]), (8, [112, 113, 114, 115, 116, 117, 118, 119]), (9, [120, 121, 122, 123, 124, 125, 126]), (10, [127, 128, 129, 130, 131, 132, 133, 134]), (11, [135, 136, 137, 138, 139, 140, 141, 142]), (12, [143, 144, 145, 146, 147]), (13, [148, 149, 150, 151, 152, 153]), (14, [154, 155, 156, 157, 158, 159]), (15, [160, 161, 162, 163, 164, 165]), (16, [166, 167, 168, 169, 170, 171, 172]), (17, [173, 174, 175, 176, 177, 178, 179]), (18, [180, 181, 182, 183, 184, 185, 186, 187, 188, 189, 190, 191, 192, 193, 194, 195, 196, 197, 198, 199, 200, 201, 202, 203, 204, 205, 206, 207, 208, 209, 210, 211, 212, 213, 214, 215, 216, 217, 218, 219, 220, 221, 222, 223, 224, 225, 226, 227, 228, 229, 230, 231, 232, 233, 234, 235, 236, 237, 238]), (20, [240, 241, 242, 243]), (21, [245, 246, 247, 248, 249, 250, 251, 252, 253]), (22, [254, 255, 256, 257, 258, 259, 260, 261, 262]), (23, [263, 264, 265, 266, 267, 268, 269, 270, 271, 272, 273, 274, 275, 276, 277, 278, 279, 280, 281, 282]), (25, [284, 285, 286, 287, 288, 289, 290, 291, 292, 293, 294]), (26, [295, 296, 297, 298, 299, 300]), (29, [303, 304, 305, 306, 307, 308, 309]), (30, [310, 311, 312, 313, 314, 315, 316]), (31, [317, 318, 319, 320, 321]), (35, [327, 328]), (36, [329, 330]), (38, [332, 333, 334, 335, 336, 337, 338, 339, 340, 341, 342, 343, 344, 345, 346, 347, 348]), (39, [349, 350, 351, 352, 353, 354, 355, 356]), (41, [358]), (45, [364, 365, 366]), (46, [367, 368, 369, 370, 371, 372, 373, 374, 375]), (48, [377]), (49, [378, 379, 380, 381, 382, 383, 384, 385, 386, 387, 388, 389]), (51, [391]), (53, [393, 394, 395, 396, 397, 398, 399, 400, 401, 402, 403]), (54, [404, 405, 406, 407, 408])]
@[go_sem] def kl9 : List (Nat × List Nat) := [(1, [5, 6, 7, 8]), (2, [9]), (4, [11, 12, 13, 14]), (5, [15]), (7, [17])]
@[go_sem] def kl10 : List (Nat × List Nat) := [(1, [5, 6, 7, 8]), (2, [9]), (4, [11, 12, 13, 14]), (5, [15]), (7, [17])]
@[go_sem] def kl11 : List (Nat × List Nat) := [(1, [12, 13, 14, 15]), (3, [10, 17, 18, 19, 20, 21, 22, 23, 24]), (4, [25]), (6, [27, 28, 29, 30, 31, 32, 33, 34, 35, 36, 37, 38, 39, 40, 41])]
@[go_sem] def kl12 : List (Nat × List Nat) := [(2, [4, 5, 6, 7]), (3, [8, 9, 10, 11]), (4, [12, 13, 14]), (5, [15, 16, 17]), (6, [18, 19, 20]), (7, [21, 22, 23]), (8, [24])]
@[go_sem] def kl13 : List (Nat × List Nat) := [(2, [4, 5, 6, 7]), (3, [8, 9, 10, 11]), (4, [12, 13, 14, 15]), (5, [16])]
@[go_sem] def kl14 : List (Nat × List Nat) := [(2, [4, 5, 6]), (3, [7, 8, 9]), (4, [10, 11, 12]), (5, [13, 14, 15]), (6, [16, 17, 18]), (7, [19])]
@[go_sem] def kl15 : List (Nat × List Nat) := [(1, [12, 13, 14, 15]), (3, [10, 17, 18, 19, 20, 21, 22, 23, 24]), (4, [25]), (6, [27, 28, 29, 30, 31, 32, 33, 34, 35, 36, 37, 38, 39, 40, 41, 42, 43, 44])]
@[go_sem] def kl16 : List (Nat × List Nat) := [(1, [5, 6, 7, 8, 9]), (3, [11, 12, 13, 14, 15]), (5, [17, 18, 19, 20]), (7, [22, 23, 24, 25]), (9, [27, 28, 29, 30]), (11, [32, 33, 34, 35])]
@[go_sem] def kl17 : List (Nat × List Nat) := [(1, [5, 6, 7, 8, 9]), (3, [11, 12, 13, 14, 15]), (5, [17, 18, 19, 20, 21])]
@[go_sem] def kl18 : List (Nat × List Nat) := [(1, [5, 6, 7, 8]), (2, [9]), (4, [11])]
@[go_sem] def kl19 : List (Nat × List Nat) := [(1, [12, 13, 14, 15]), (3, [17, 18, 19, 20, 21, 22, 23]), (4, [24]), (6, [26, 27, 28, 29, 30, 31])]
@[go_sem] def kl20 : List (Nat × List Nat) := [(1, [5, 6, 7]), (3, [8, 9, 10]), (4, [12, 13]), (5, [14, 15, 16, 17, 18, 19, 20, 21]), (6, [22])]
@[go_sem] def kl21 : List (Nat × List Nat) := [(1, [12, 13, 14, 15]), (3, [17, 18, 19, 20, 21, 22, 23]), (4, [24]), (6, [26, 27, 28, 29, 30])]
@[go_sem] def kl22 : List (Nat × List Nat) := [(1, [6, 7, 8, 9]), (4, [11, 12, 13]), (5, [15, 16]), (6, [17, 18, 19, 20, 21, 22, 23, 24, 25])]
@[go_sem] def kl23 : List (Nat × List Nat) := [(1, [16, 17, 18, 19]), (3, [21]), (4, [22, 23, 24, 25]), (6, [26, 27]), (8, [32, 33]), (9, [34, 35, 36, 37, 38, 39, 40, 41, 42, 43, 44, 45, 46]), (10, [47, 48]), (11, [50]), (12, [51]), (14, [52]), (15, [53, 54, 55, 56, 57, 58, 59, 60, 61, 62])]
@[go_sem] def kl24 : List (Nat × List Nat) := [(1, [15, 16, 17, 18]), (3, [20, 21, 22, 23, 24]), (4, [25, 26]), (6, [31, 32]), (7, [33, 34, 35, 36, 37, 38, 39, 40, 41, 42, 43, 44, 45, 46, 47, 48]), (8, [49, 50]), (9, [52, 53]), (10, [54]), (11, [55, 56]), (13, [58, 59, 60, 61, 62, 63, 64, 65, 66])]
@[go_sem] def kl25 : List (Nat × List Nat) := [(1, [13, 14, 15, 16, 17, 18, 19, 20, 21, 22, 23]), (4, [25, 26]), (6, [31, 32]), (7, [33, 34, 35, 36, 37, 38, 39, 40, 41, 42, 43, 44, 45, 46, 47, 48, 49]), (8, [51, 52, 53, 54]), (9, [55]), (10, [56])]
@[go_sem] def kl26 : List (Nat × List Nat) := [(1, [14, 15, 16, 17, 18, 19, 20, 21, 22, 23, 24]), (3, [26, 27, 28, 29, 30]), (4, [31, 32]), (6, [37, 38]), (7, [39, 40, 41, 42, 43, 44, 45, 46, 47, 48, 49, 50, 51, 52, 53, 54, 55]), (8, [57, 58, 59, 60]), (9, [61]), (10, [62])]
@[go_sem] def kl27 : List (Nat × List Nat) := [(1, [6, 7, 8, 9]), (4, [11, 12, 13]), (5, [15, 16]), (6, [17, 18, 19, 20, 21, 22, 23, 24, 25])]
@[go_sem] def kl28 : List (Nat × List Nat) := [(1, [5, 6, 7, 8]), (2, [9, 10, 11, 12]), (3, [13])]
@[go_sem] def kl29 : List (Nat × List Nat) := [(1, [5, 6, 7, 8]), (2, [9, 10, 11, 12]), (3, [13])]
@[go_sem] def kl30 : List (Nat × List Nat) := [(2, [6, 7, 8]), (3, [10, 11]), (4, [12, 13, 14, 15, 16, 17]), (5, [18])]
@[go_sem] def kl31 : List (Nat × List Nat) := [(2, [6, 7, 8]), (3, [10, 11]), (4, [12, 13, 14, 15, 16, 17]), (5, [18]), (7, [20])]
@[go_sem] def kl32 : List (Nat × List Nat) := [(1, [4, 5, 6, 7])]
@[go_sem] def kl33 : List (Nat × List Nat) := [(1, [8, 9]), (3, [11, 12, 13, 14, 15, 16]), (4, [17]), (6, [19])]
@[go_sem] def kl34 : List (Nat × List Nat) := [(1, [8, 9]), (3, [11, 12, 13, 14, 15, 16]), (4, [17]), (6, [19])]
@[go_sem] def kl35 : List (Nat × List Nat) := [(1, [6, 11, 12, 13, 14, 15, 16]), (2, [17]), (4, [19]), (7, [24, 25]), (8, [26]), (9, [28, 29, 30, 31, 32, 33, 34, 35, 36, 37, 38, 39]), (10, [40]), (11, [41])]
@[go_sem] def kl36 : List (Nat × List Nat) := [(1, [6, 11, 12, 13, 14, 15, 16]), (2, [17]), (7, [23, 24]), (8, [25]), (9, [27, 28, 29, 30, 31, 32, 33, 34, 35, 36, 37, 38]), (10, [39]), (11, [40])]
@[go_sem] def kl37 : List (Nat × List Nat) := [(1, [8, 9]), (3, [6, 11, 12, 13, 14, 15, 16]), (4, [17])]
@[go_sem] def kl38 : List (Nat × List Nat) := [(1, [8, 9]), (3, [6, 11, 12, 13, 14, 15, 16]), (4, [17])]
@[go_sem] def kl39 : List (Nat × List Nat) := [(1, [9, 10, 11]), (2, [12, 13, 14, 15, 16]), (3, [17, 18, 19]), (4, [21, 22]), (5, [23, 24, 25, 26, 27, 28, 29, 30])]
@[go_sem] def kl40 : List (Nat × List Nat) := [(1, [6, 7, 8, 9]), (3, [11]), (5, [15]), (6, [16, 17, 18, 19, 20, 21, 22, 23, 24, 25, 26, 27, 28, 29, 30, 31, 32, 33, 34, 35, 36, 37, 38, 39, 40, 41, 42, 43, 44, 45, 46, 47, 48, 49, 50, 51, 52, 53]), (8, [55])]
@[go_sem] def kl41 : List (Nat × List Nat) := [(1, [6, 7, 8, 9]), (3, [11]), (5, [15]), (6, [16, 17, 18, 19, 20, 21, 22, 23]), (8, [25])]
@[go_sem] def kl42 : List (Nat × List Nat) := [(1, [8, 9, 10, 11, 12, 13, 14, 15, 16, 17, 18, 19, 20, 21, 22]), (2, [24]), (3, [25, 26, 27, 28, 29, 30, 31, 32])]
@[go_sem] def kl43 : List (Nat × List Nat) := [(1, [8, 9, 10, 11, 12, 13, 14, 15, 16, 17, 18, 19, 20, 21, 22, 23, 24, 25, 26, 27, 28, 29, 30]), (2, [32]), (3, [33, 34, 35])]
@[go_sem] def kl44 : List (Nat × List Nat) := [(1, [8, 9, 10, 11]), (3, [13, 14, 15, 16])]
@[go_sem] def kl45 : List (Nat × List Nat) := [(1, [5, 6, 7, 8, 9, 10, 11, 12, 13, 14, 15, 16, 17, 18, 19, 20, 21, 22, 23])]
@[go_sem] def kl46 : List (Nat × List Nat) := [(1, [6, 7, 8, 9, 10])]
@[go_sem] def kl47 : List (Nat × List Nat) := [(1, [5, 6, 7, 8, 9])]
@[go_sem] def kl48 : List (Nat × List Nat) := [(1, [9, 10, 11]), (2, [12, 13, 14, 15, 16]), (3, [17, 18, 19, 20, 21, 22, 23, 24, 25, 26])]
@[go_sem] def kl49 : List (Nat × List Nat) := [(1, [6, 7, 8, 9, 10, 11])]
@[go_sem] def kl50 : List (Nat × List Nat) := [(1, [4, 7, 8, 9, 10, 11]), (2, [12, 13, 14]), (3, [15, 16, 17, 18])]
@[go_sem] def kl51 : List (Nat × List Nat) := [(1, [9, 10, 11, 12, 13, 14, 15]), (6, [21, 22]), (7, [23, 24]), (8, [26, 27]), (9, [28]), (10, [29, 30, 31])]
@[go_sem] def kl52 : List (Nat × List Nat) := [(1, [9, 10, 11, 12, 13, 14, 15]), (6, [21, 22]), (7, [23, 24]), (8, [26, 27, 28]), (9, [29]), (10, [30])]
@[go_sem] def kl53 : List (Nat × List Nat) := [(1, [5, 8, 9, 10, 11, 12]), (2, [13, 14, 15]), (3, [16, 17, 18, 19, 20, 21, 22])]
@[go_sem] def kl54 : List (Nat × List Nat) := [(1, [8, 9, 10, 11, 12, 13, 14, 15, 16, 17, 18, 19]), (3, [21, 22, 23, 24])]
@[go_sem] def kl55 : List (Nat × List Nat) := [(1, [11, 12, 13, 14, 15, 16, 17, 18, 19, 20, 21, 22]), (6, [28, 29, 30]), (7, [31, 32, 33, 34, 35]), (8, [37, 38, 39, 40]), (9, [41]), (10, [42])]
@[go_sem] def kl56 : List (Nat × List Nat) := [(1, [6, 7, 8, 9]), (3, [11]), (5, [15]), (6, [16, 17, 18, 19, 20, 21, 22, 23, 24]), (8, [26])]
@[go_sem] def kl57 : List (Nat × List Nat) := [(1, [6, 7, 8, 9]), (3, [11]), (5, [15]), (6, [16, 17, 18, 19, 20, 21, 22, 23]), (8, [25])]
@[go_sem] def kl58 : List (Nat × List Nat) := [(3, [11, 12]), (4, [13, 14]), (6, [16])]
@[go_sem] def kl59 : List (Nat × List Nat) := [(1, [6, 7, 8, 9]), (2, [10]), (5, [12, 13, 14]), (6, [16, 17]), (7, [18, 19, 20, 21, 22, 23]), (8, [24]), (10, [26])]
@[go_sem] def kl60 : List (Nat × List Nat) := [(1, [5, 6, 7, 8]), (2, [9]), (4, [11])]
@[go_sem] def kl61 : List (Nat × List Nat) := [(1, [6, 7, 8, 9]), (2, [10]), (5, [12, 13, 14]), (6, [16, 17]), (7, [18, 19, 20, 21, 22, 23]), (8, [24]), (10, [26])]
@[go_sem] def kl62 : List (Nat × List Nat) := [(1, [5, 6, 7, 8]), (2, [9]), (4, [11, 12, 13, 14]), (5, [15]), (7, [17])]
@[go_sem] def kl63 : List (Nat × List Nat) := [(1, [7, 8, 9, 10, 11, 12, 13])]
@[go_sem] def kl64 : List (Nat × List Nat) := [(1, [10, 11]), (5, [16, 17]), (6, [18, 19, 20, 21, 22, 23, 24, 25, 26, 27, 28, 29, 30, 31, 32, 33, 34, 35, 36, 37, 38, 39, 40, 41, 42, 43, 44, 45, 46, 47, 48, 49, 50, 51]), (8, [53, 54]), (9, [55]), (10, [57, 58, 59, 60, 61, 62, 63, 64, 65, 66, 67]), (11, [68]), (12, [69, 70, 71, 72])]
@[go_sem] def kl65 : List (Nat × List Nat) := [(1, [14, 15, 16, 17]), (2, [18, 19, 20, 21, 22, 23, 24, 25, 26]), (3, [27, 28, 29, 30])]
@[go_sem] def kl66 : List (Nat × List Nat) := [(1, [7, 8, 9, 10, 11, 12])]
@[go_sem] def kl67 : List (Nat × List Nat) := [(1, [5, 6, 7]), (3, [8, 9, 10]), (4, [12, 13]), (5, [14, 15, 16, 17, 18, 19, 20, 21]), (6, [22])]
@[go_sem] def kl68 : List (Nat × List Nat) := [(1, [5, 6, 7]), (3, [8, 9, 10]), (4, [12, 13]), (5, [14, 15, 16, 17, 18, 19, 20]), (6, [21])]
@[go_sem] def kl69 : List (Nat × List Nat) := [(1, [5, 6, 7]), (3, [8, 9, 10]), (4, [12, 13]), (5, [14, 15, 16, 17, 18, 19, 20, 21]), (6, [22])]
@[go_sem] def kl70 : List (Nat × List Nat) := [(2, [4, 5, 6, 7]), (3, [8, 9, 10, 11]), (4, [12])]
@[go_sem] def kl71 : List (Nat × List Nat) := [(2, [4, 5, 6]), (3, [7, 8, 9]), (4, [10, 11, 12]), (5, [13])]
@[go_sem] def kl72 : List (Nat × List Nat) := [(1, [7, 8, 9, 10, 11, 12, 13])]
@[go_sem] def kl73 : List (Nat × List Nat) := [(1, [10, 11]), (4, [16, 17, 18]), (5, [19, 20, 21, 22, 23, 24, 25, 26, 27, 28, 29, 30, 31, 32, 33, 34, 35, 36, 37, 38, 39, 40, 41, 42, 43, 44, 45, 46, 47, 48, 49, 50, 51]), (7, [53, 54, 55, 56, 57, 58]), (8, [59, 60, 61, 62, 63, 64, 65]), (10, [67]), (11, [69, 70, 71, 72, 73, 74]), (12, [75]), (13, [76, 77, 78, 79])]
@[go_sem] def kl74 : List (Nat × List Nat) := [(1, [9, 10]), (2, [11, 12, 13, 14])]
@[go_sem] def kl75 : List (Nat × List Nat) := [(1, [10, 11]), (2, [12, 13, 14, 15, 16, 17, 18, 19]), (3, [20])]
@[go_sem] def kl76 : List (Nat × List Nat) := [(1, [7, 8, 9, 10, 11, 12])]
@[go_sem] def kl77 : List (Nat × List Nat) := [(1, [6, 7, 8, 9]), (4, [11, 12, 13]), (5, [15, 16]), (6, [17, 18, 19, 20, 21, 22, 23, 24, 25])]
@[go_sem] def kl78 : List (Nat × List Nat) := [(1, [6, 7, 8, 9]), (4, [11, 12, 13]), (5, [15, 16]), (6, [17, 18, 19, 20, 21, 22, 23, 24])]
@[go_sem] def kl79 : List (Nat × List Nat) := [(1, [6, 7, 8, 9]), (4, [11, 12, 13]), (5, [15, 16]), (6, [17, 18, 19, 20, 21, 22, 23, 24, 25])]
@[go_sem] def kl80 : List (Nat × List Nat) := [(1, [5, 6, 7, 8, 9]), (3, [11, 12, 13, 14, 15])]
@[go_sem] def kl81 : List (Nat × List Nat) := [(1, [5, 6, 7, 8]), (3, [10, 11, 12, 13]), (5, [15, 16, 17, 18])]
@[go_sem] def kl82 : List (Nat × List Nat) := [(1, [5, 6, 7, 8, 9, 10, 11, 12])]
@[go_sem] def kl83 : List (Nat × List Nat) := [(1, [5, 6, 7, 8]), (3, [10, 11, 12, 13]), (5, [15, 16, 17, 18]), (7, [20, 21, 22, 23]), (9, [25, 26, 27, 28])]
@[go_sem] def kl84 : List (Nat × List Nat) := [(4, [13, 14, 15]), (5, [16]), (7, [21, 22, 23]), (9, [24]), (10, [26, 27]), (11, [28, 29]), (12, [31, 32, 33, 34, 35, 36, 37]), (13, [38]), (14, [39]), (15, [40])]
@[go_sem] def kl85 : List (Nat × List Nat) := [(1, [9]), (4, [14, 15, 16]), (5, [17]), (7, [22, 23, 24]), (9, [25]), (10, [27, 28]), (11, [29, 30]), (12, [32, 33, 34, 35, 36, 37, 38]), (13, [39]), (14, [40]), (15, [41])]
@[go_sem] def kl86 : List (Nat × List Nat) := [(2, [6, 7, 8]), (3, [10, 11]), (4, [12, 13, 14, 15, 16, 17]), (5, [18, 19]), (6, [20, 21, 22, 23, 24]), (7, [25, 26]), (8, [27, 28, 29, 30, 31]), (9, [32, 33]), (10, [34, 35, 36, 37, 38]), (11, [39, 40]), (12, [41])]
@[go_sem] def kl87 : List (Nat × List Nat) := [(2, [6, 7, 8]), (3, [10, 11]), (4, [12, 13, 14, 15]), (5, [16, 17]), (6, [18])]
@[go_sem] def kl88 : List (Nat × List Nat) := [(2, [6, 7, 8]), (3, [10, 11]), (4, [12, 13, 14, 15, 16, 17, 18]), (5, [19, 20, 21, 22, 23, 24, 25]), (6, [26, 27, 28, 29, 30, 31, 32]), (7, [33, 34]), (8, [35])]
@[go_sem] def kl89 : List (Nat × List Nat) := [(1, [5, 6, 7, 8]), (2, [9, 10, 11, 12]), (3, [13])]
@[go_sem] def kl90 : List (Nat × List Nat) := [(2, [6, 7, 8]), (3, [10, 11]), (4, [12, 13, 14, 15, 16]), (6, [18, 19]), (7, [20])]
@[go_sem] def kl91 : List (Nat × List Nat) := [(1, [6, 7, 8]), (2, [9, 10]), (3, [11, 12]), (4, [14]), (5, [15, 16, 17, 18])]
@[go_sem] def kl92 : List (Nat × List Nat) := [(3, [9, 10]), (4, [11, 12]), (6, [14]), (7, [15, 16, 17])]
@[go_sem] def kl93 : List (Nat × List Nat) := [(3, [9, 10]), (4, [11, 12]), (6, [14]), (7, [15, 16, 17])]
@[go_sem] def kl94 : List (Nat × List Nat) := [(1, [8, 9, 10, 11, 12, 13]), (2, [14, 15, 16, 17, 18]), (3, [19]), (4, [21, 22, 23]), (5, [24, 25])]
@[go_sem] def kl95 : List (Nat × List Nat) := [(1, [3, 4, 5])]
@[go_sem] def kl96 : List (Nat × List Nat) := [(2, [13, 14]), (3, [15, 16]), (4, [17]), (5, [19, 20, 21]), (7, [22, 23, 24, 25, 26, 27, 28]), (8, [30, 31]), (9, [32, 33, 34, 35, 36, 37, 38, 39, 40]), (10, [10, 41, 42, 43, 44, 45, 46]), (11, [47, 48, 49, 50, 51, 52, 53, 54, 55]), (12, [57]), (13, [58, 59, 60, 61]), (14, [62, 63]), (15, [65, 66, 67, 68, 69, 70]), (16, [71]), (17, [74]), (18, [75, 76, 77, 78, 79, 80]), (19, [82]), (20, [83, 84, 85, 86, 87, 88]), (21, [90]), (22, [91, 92, 93, 94, 95, 96, 97, 98]), (23, [99])]
@[go_sem] def kl97 : List (Nat × List Nat) := [(1, [6, 7, 8, 9]), (3, [11]), (5, [15]), (6, [16, 17, 18, 19, 20, 21, 22, 23]), (8, [25])]
@[go_sem] def kl98 : List (Nat × List Nat) := [(1, [5, 6, 7, 8, 9, 10, 11, 12, 13, 14, 15])]
@[go_sem] def kl99 : List (Nat × List Nat) := [(1, [6, 7, 8, 9]), (3, [11]), (5, [15]), (6, [16, 17, 18, 19, 20, 21, 22, 23, 24, 25, 26]), (8, [28])]
@[go_sem] def kl100 : List (Nat × List Nat) := [(1, [6]), (4, [11, 12]), (5, [13, 14, 15, 16, 17]), (6, [18]), (7, [19])]
@[go_sem] def kl101 : List (Nat × List Nat) := [(1, [3, 4, 5, 6, 7, 8, 9])]
@[go_sem] def kl102 : List (Nat × List Nat) := [(1, [5, 6, 7, 8, 9, 10, 11, 12, 13, 14, 15])]
@[go_sem] def kl103 : List (Nat × List Nat) := [(1, [6, 7, 8, 9]), (3, [11]), (5, [15]), (6, [16, 17, 18, 19, 20, 21, 22, 23, 24, 25, 26]), (8, [28])]
@[go_sem] def kl104 : List (Nat × List Nat) := [(1, [5, 6, 7, 8, 9, 10, 11, 12, 13, 14, 15, 16])]
@[go_sem] def kl105 : List (Nat × List Nat) := [(1, [10, 11, 12, 13, 14, 15, 16, 17]), (3, [9, 19, 20, 21, 22, 23, 24, 25]), (4, [26, 27, 28, 29])]
@[go_sem] def kl106 : List (Nat × List Nat) := [(1, [8, 9, 10]), (2, [11, 12, 13, 14, 15]), (3, [16, 17, 18, 19])]
@[go_sem] def kl107 : List (Nat × List Nat) := [(1, [9, 10, 11, 12, 13, 14]), (2, [15, 16, 17, 18, 19, 20, 21, 22])]
@[go_sem] def kl108 : List (Nat × List Nat) := [(1, [6]), (3, [8, 9]), (4, [10]), (5, [12, 13, 14, 15, 16]), (6, [17, 18, 19])]
@[go_sem] def kl109 : List (Nat × List Nat) := [(1, [10, 11, 12]), (2, [13, 14, 15, 16, 17, 18]), (3, [19, 20, 21, 22, 23])]
@[go_sem] def kl110 : List (Nat × List Nat) := [(1, [5, 6, 7, 8, 9, 10, 11])]
@[go_sem] def kl111 : List (Nat × List Nat) := [(1, [7, 8, 9, 10, 11, 12, 13, 14])]
@[go_sem] def kl112 : List (Nat × List Nat) := [(1, [7, 8, 9, 10, 11, 12, 13, 14])]
@[go_sem] def kl113 : List (Nat × List Nat) := [(1, [3, 4])]
@[go_sem] def kl114 : List (Nat × List Nat) := [(1, [7]), (4, [11]), (5, [12, 13]), (6, [15, 16, 17, 18]), (7, [19]), (8, [20])]
@[go_sem] def kl115 : List (Nat × List Nat) := [(1, [6, 7, 8, 9, 10, 11, 12, 13, 14])]
@[go_sem] def kl116 : List (Nat × List Nat) := [(1, [5, 6, 7, 8, 9]), (2, [10]), (4, [12])]
@[go_sem] def kl117 : List (Nat × List Nat) := [(1, [5, 6, 7, 8]), (2, [9]), (4, [11, 12, 13, 14]), (5, [15]), (7, [17])]
@[go_sem] def kl118 : List (Nat × List Nat) := [(1, [6, 7, 8, 9]), (2, [10]), (5, [12, 13, 14]), (6, [16, 17]), (7, [18, 19, 20, 21, 22, 23]), (8, [24]), (10, [26])]
@[go_sem] def kl119 : List (Nat × List Nat) := [(1, [3, 4])]
@[go_sem] def kl120 : List (Nat × List Nat) := [(4, [10, 11]), (5, [12, 13, 14, 15, 16, 17, 18, 19, 20, 21, 22, 23]), (6, [24]), (7, [25])]
@[go_sem] def kl121 : List (Nat × List Nat) := [(1, [7, 8, 9, 10, 11, 12, 13, 14, 15, 16, 17, 18, 19, 20, 21, 22])]
@[go_sem] def kl122 : List (Nat × List Nat) := [(1, [10, 11, 12, 13, 14, 15, 16, 17, 18, 19, 20, 21, 22, 23]), (2, [24, 25, 26, 27, 28, 29, 30, 31, 32, 33])]
@[go_sem] def kl123 : List (Nat × List Nat) := [(2, [4, 5, 6]), (3, [7, 8, 9]), (4, [10, 11, 12]), (5, [13, 14, 15]), (6, [16])]
@[go_sem] def kl124 : List (Nat × List Nat) := [(2, [4, 5, 6, 7]), (3, [8, 9, 10, 11]), (4, [12, 13, 14]), (5, [15])]
@[go_sem] def kl125 : List (Nat × List Nat) := [(1, [5, 6, 7]), (3, [8, 9, 10]), (4, [12, 13]), (5, [14, 15, 16, 17, 18, 19, 20, 21]), (6, [22])]
@[go_sem] def kl126 : List (Nat × List Nat) := [(1, [3, 4])]
@[go_sem] def kl127 : List (Nat × List Nat) := [(1, [7, 8, 9, 10, 11, 12, 13, 14, 15, 16, 17, 18, 19, 20, 21, 22])]
@[go_sem] def kl128 : List (Nat × List Nat) := [(1, [3, 4])]
@[go_sem] def kl129 : List (Nat × List Nat) := [(1, [10, 11, 12, 13, 14, 15, 16, 17, 18, 19, 20, 21, 22, 23, 24]), (2, [25, 26, 27, 28, 29, 30, 31, 32, 33, 34])]
@[go_sem] def kl130 : List (Nat × List Nat) := [(1, [5, 6, 7, 8]), (3, [10, 11, 12, 13]), (5, [15, 16, 17, 18]), (7, [20, 21, 22, 23])]
@[go_sem] def kl131 : List (Nat × List Nat) := [(1, [5, 6, 7, 8, 9]), (3, [11, 12, 13, 14, 15]), (5, [17, 18, 19, 20])]
@[go_sem] def kl132 : List (Nat × List Nat) := [(1, [8]), (2, [9]), (4, [14, 15]), (5, [16, 17, 18, 19, 20, 21, 22]), (6, [23]), (7, [24]), (9, [29, 30]), (10, [31, 32, 33, 34, 35, 36, 37]), (11, [38]), (12, [39])]
@[go_sem] def kl133 : List (Nat × List Nat) := [(1, [4]), (4, [6]), (5, [8, 9, 10, 11, 12, 13, 14, 15]), (6, [16, 17]), (7, [18, 19])]
@[go_sem] def kl134 : List (Nat × List Nat) := [(2, [6, 7, 8]), (3, [10, 11]), (4, [12, 13, 14, 15, 16]), (5, [17, 18]), (6, [19])]
@[go_sem] def kl135 : List (Nat × List Nat) := [(2, [7, 8]), (3, [9]), (4, [11, 12]), (5, [13, 14]), (6, [15, 16, 17, 18, 19]), (7, [21, 22, 23, 24]), (8, [25]), (9, [27, 28, 29]), (10, [30, 31, 32]), (11, [34, 35, 36, 37, 38, 39]), (12, [40])]
@[go_sem] def kl136 : List (Nat × List Nat) := [(1, [5]), (3, [10, 11]), (4, [12, 13]), (6, [15]), (7, [16, 17, 18, 19, 20, 21, 22, 23, 24, 25, 26, 27, 28, 29, 30, 31, 32, 33])]
@[go_sem] def kl137 : List (Nat × List Nat) := [(1, [5]), (3, [10, 11]), (4, [12, 13]), (6, [15]), (7, [16, 17, 18, 19, 20, 21, 22, 23, 24, 25, 26, 27, 28, 29, 30, 31, 32, 33])]
@[go_sem] def kl138 : List (Nat × List Nat) := [(1, [11, 12, 13, 14, 15]), (2, [16]), (3, [18, 19, 20, 21, 22]), (4, [23]), (6, [27]), (7, [28, 29, 30, 31, 32]), (9, [36]), (10, [37]), (11, [39, 40, 41, 42, 43, 44, 45, 46, 47]), (12, [48]), (13, [49]), (14, [50, 51, 52, 53, 54, 55]), (15, [57, 58, 59, 60, 61, 62, 63, 64]), (16, [65, 66, 67]), (17, [68, 69, 70]), (18, [71]), (19, [73, 74, 75, 76]), (20, [77, 78, 79, 80, 81])]
@[go_sem] def kl139 : List (Nat × List Nat) := [(1, [3, 4, 5, 6, 7, 8, 9, 10, 11, 12])]
@[go_sem] def kl140 : List (Nat × List Nat) := [(1, [5, 6, 7, 8])]
@[go_sem] def kl141 : List (Nat × List Nat) := [(1, [4, 5]), (2, [6]), (3, [9]), (4, [10, 11, 12, 13]), (5, [15]), (6, [16, 17, 18, 19]), (7, [21]), (8, [22, 23, 24, 25]), (9, [26])]
@[go_sem] def kl142 : List (Nat × List Nat) := [(1, [7, 8, 9, 10, 11, 12, 13, 14, 15, 16, 17, 18])]
@[go_sem] def kl143 : List (Nat × List Nat) := [(1, [3, 4, 5, 6, 7, 8, 9, 10, 11, 12, 13, 14, 15])]
@[go_sem] def kl144 : List (Nat × List Nat) := [(1, [6, 7, 8, 9]), (3, [11]), (5, [15]), (6, [16, 17, 18, 19, 20, 21, 22, 23]), (8, [25])]
@[go_sem] def kl145 : List (Nat × List Nat) := [(1, [3, 4, 5, 6, 7, 8, 9, 10, 11, 12])]
@[go_sem] def kl146 : List (Nat × List Nat) := [(1, [6]), (4, [11, 12]), (5, [13, 14, 15, 16, 17]), (6, [18]), (7, [19])]
@[go_sem] def kl147 : List (Nat × List Nat) := [(1, [7, 8, 9, 10, 11, 12, 13, 14, 15])]
@[go_sem] def kl148 : List (Nat × List Nat) := [(1, [3, 4, 5, 6, 7, 8, 9, 10, 11, 12, 13, 14, 15])]
@[go_sem] def kl149 : List (Nat × List Nat) := [(1, [6, 7, 8, 9]), (3, [11]), (5, [15]), (6, [16, 17, 18, 19, 20, 21, 22, 23]), (8, [25])]
@[go_sem] def kl150 : List (Nat × List Nat) := [(1, [7, 8]), (3, [5, 10, 11, 12, 13, 14, 15]), (4, [16])]
@[go_sem] def kl151 : List (Nat × List Nat) := [(1, [12, 13, 14, 15, 16, 17, 18, 19, 20, 21]), (4, [26, 27, 28]), (5, [29, 30, 31, 32, 33, 34, 35, 36, 37, 38, 39, 40, 41, 42, 43, 44, 45, 46]), (7, [48, 49, 50]), (8, [52, 53, 54]), (9, [55]), (10, [56, 57, 58, 59])]
@[go_sem] def kl152 : List (Nat × List Nat) := [(1, [7, 8, 9, 10, 11, 12]), (2, [14, 15, 16, 17, 18, 19]), (3, [20, 21, 22, 23]), (4, [24, 25, 26, 27, 28, 29, 30, 31, 32])]
@[go_sem] def kl153 : List (Nat × List Nat) := [(2, [4, 5, 6, 7, 8, 9, 10, 11, 12]), (3, [14, 15, 16, 17, 18, 19, 20, 21, 22, 23, 24]), (4, [25, 26, 27, 28, 29, 30, 31]), (5, [32, 33, 34, 35, 36, 37, 38, 39, 40, 41, 42, 43]), (6, [44, 45, 46, 47, 48, 49, 50, 51, 52]), (7, [54]), (8, [55, 56, 57, 58, 59, 60, 61])]
@[go_sem] def kl154 : List (Nat × List Nat) := [(1, [14, 15, 16, 17, 18]), (2, [19, 20, 21, 22]), (3, [23, 24, 25]), (4, [27, 28, 29]), (5, [30, 31]), (7, [36, 37]), (8, [38, 39, 40, 41]), (9, [42, 43, 44, 45, 46, 47, 48, 49, 50, 51, 52]), (10, [53]), (11, [54, 55]), (13, [60, 61]), (14, [62, 63, 64, 65]), (15, [66, 67, 68, 69, 70, 71, 72, 73, 74, 75, 76, 77]), (16, [78]), (17, [79]), (18, [82]), (19, [83, 84, 85]), (20, [87]), (21, [88, 89, 90, 91, 92, 93]), (22, [94, 95, 96])]
@[go_sem] def kl155 : List (Nat × List Nat) := [(1, [6, 7, 8, 9]), (2, [10]), (5, [12, 13, 14]), (6, [16, 17]), (7, [18, 19, 20, 21, 22, 23, 24]), (8, [25]), (10, [27])]
@[go_sem] def kl156 : List (Nat × List Nat) := [(1, [3, 4, 5])]
@[go_sem] def kl157 : List (Nat × List Nat) := [(1, [3, 4, 5])]
@[go_sem] def kl158 : List (Nat × List Nat) := [(1, [5, 6, 7, 8, 9, 10, 11])]
@[go_sem] def kl159 : List (Nat × List Nat) := [(1, [7, 8, 9, 10, 11, 12])]
@[go_sem] def kl160 : List (Nat × List Nat) := [(1, [5, 6, 7, 8, 9, 10, 11, 12, 13, 14, 15, 16])]
@[go_sem] def kl161 : List (Nat × List Nat) := [(1, [5, 6]), (2, [8]), (3, [9])]
@[go_sem] def kl162 : List (Nat × List Nat) := [(1, [5, 6, 7]), (3, [8, 9, 10]), (4, [12, 13]), (5, [14, 15, 16, 17, 18, 19, 20]), (6, [21])]
@[go_sem] def kl163 : List (Nat × List Nat) := [(1, [5, 6, 7, 8, 9, 10, 11])]
@[go_sem] def kl164 : List (Nat × List Nat) := [(1, [7, 8, 9, 10, 11, 12])]
@[go_sem] def kl165 : List (Nat × List Nat) := [(4, [10, 11]), (5, [12, 13, 14]), (6, [15]), (7, [16])]
@[go_sem] def kl166 : List (Nat × List Nat) := [(1, [5, 6, 7, 8, 9, 10, 11, 12, 13, 14, 15])]
@[go_sem] def kl167 : List (Nat × List Nat) := [(1, [6, 7, 8, 9]), (4, [11, 12, 13]), (5, [15, 16]), (6, [17, 18, 19, 20, 21, 22, 23, 24])]
@[go_sem] def kl168 : List (Nat × List Nat) := [(1, [5, 6, 7]), (2, [8]), (3, [11]), (4, [12, 13, 14, 15, 16, 17]), (5, [19]), (6, [20, 21, 22, 23, 24, 25]), (7, [27]), (8, [28, 29, 30, 31, 32]), (9, [34]), (10, [35, 36, 37]), (11, [38, 39, 40, 41]), (12, [43, 44, 45, 46, 47]), (13, [48, 49, 50, 51, 52]), (14, [54]), (15, [55]), (16, [56])]
@[go_sem] def kl169 : List (Nat × List Nat) := [(1, [3, 4])]
@[go_sem] def kl170 : List (Nat × List Nat) := [(3, [13, 14]), (4, [15, 16, 17, 18]), (6, [20])]
@[go_sem] def kl171 : List (Nat × List Nat) := [(2, [4, 5, 6]), (3, [8, 9]), (4, [10, 11, 12, 13]), (6, [15, 16, 17])]
@[go_sem] def kl172 : List (Nat × List Nat) := [(3, [13, 14]), (4, [15, 16, 17, 18]), (6, [20])]
@[go_sem] def kl173 : List (Nat × List Nat) := [(1, [11, 12]), (2, [13]), (3, [15, 16]), (5, [20]), (6, [21, 22, 23, 24]), (7, [25]), (9, [26, 27, 28]), (10, [29]), (11, [31, 32]), (12, [33]), (13, [34, 35, 36]), (14, [37, 38, 39, 40]), (15, [42, 43, 44, 45, 46, 47, 48, 49, 50, 51, 52, 53, 54, 55, 56]), (16, [57, 58, 59, 60, 61]), (17, [62, 63, 64, 65, 66, 67]), (18, [68, 69, 70, 71, 72, 73]), (19, [75]), (20, [76, 77])]
@[go_sem] def kl174 : List (Nat × List Nat) := [(1, [7]), (2, [9, 10, 11, 12]), (3, [13, 14, 15, 16, 17]), (4, [18, 19, 20, 21, 22, 23]), (5, [25, 26, 27]), (6, [28, 29, 30, 31]), (7, [32]), (8, [35]), (9, [36, 37, 38, 39, 40, 41, 42, 43]), (10, [45]), (11, [46, 47, 48, 49, 50, 51, 52, 53, 54, 55]), (12, [57]), (13, [58, 59, 60, 61, 62, 63, 64, 65, 66, 67, 68]), (14, [70]), (15, [71, 72, 73, 74, 75, 76, 77]), (16, [79]), (17, [80]), (18, [81, 82, 83, 84, 85, 86, 87, 88, 89, 90]), (19, [92]), (20, [93, 94]), (21, [95, 96])]
@[go_sem] def kl175 : List (Nat × List Nat) := [(1, [5, 6]), (2, [8]), (3, [9])]
@[go_sem] def kl176 : List (Nat × List Nat) := [(1, [11]), (2, [12, 13]), (3, [14, 15, 16, 17]), (4, [19, 20, 21]), (6, [22, 23, 24]), (7, [26, 27, 28, 29, 30, 31, 32, 33, 34, 35]), (8, [36, 37, 38, 39, 40, 41]), (9, [42, 43, 44]), (10, [46, 47]), (12, [48, 49, 50]), (13, [52, 53, 54, 55, 56, 57, 58, 59]), (14, [60, 61, 62, 63, 64, 65]), (15, [66])]
@[go_sem] def kl177 : List (Nat × List Nat) := [(1, [10, 11, 12]), (2, [13, 14, 15, 16]), (3, [17]), (4, [20]), (5, [21]), (6, [23, 24, 25, 26, 27, 28, 29, 30, 31, 32, 33, 34]), (7, [36]), (8, [37, 38, 39, 40, 41, 42, 43, 44, 45, 46, 47]), (9, [49]), (10, [50]), (11, [52, 53, 54]), (12, [55, 56, 57, 58, 59, 60, 61, 62, 63, 64, 65]), (13, [67]), (14, [68, 69, 70, 71, 72, 73, 74, 75, 76]), (15, [78]), (16, [79, 80, 81, 82, 83, 84, 85, 86]), (17, [88]), (18, [89, 90, 91]), (19, [92]), (20, [93, 94]), (22, [98]), (23, [99, 100, 101, 102, 103, 104]), (24, [105]), (25, [107]), (26, [108]), (27, [109])]
@[go_sem] def kl178 : List (Nat × List Nat) := [(1, [5, 6, 7, 8, 9, 10, 11, 12, 13, 14, 15, 16, 17, 18, 19, 20]), (3, [22, 23, 24, 25, 26, 27, 28, 29, 30, 31, 32, 33, 34, 35, 36, 37, 38, 39, 40, 41, 42]), (5, [44]), (7, [49, 50, 51]), (8, [52, 53, 54, 55, 56, 57, 58, 59, 60, 61, 62, 63, 64, 65, 66, 67, 68, 69, 70, 71, 72]), (10, [74, 75, 76, 77, 78, 79, 80, 81, 82, 83, 84, 85, 86]), (12, [88])]
@[go_sem] def kl179 : List (Nat × List Nat) := [(1, [7, 8, 9, 10, 11, 12, 13, 14, 15])]
@[go_sem] def kl180 : List (Nat × List Nat) := [(1, [3, 4, 5])]
@[go_sem] def kl181 : List (Nat × List Nat) := [(1, [5, 6, 7, 8, 9, 10, 11, 12, 13, 14, 15])]
@[go_sem] def kl182 : List (Nat × List Nat) := [(1, [5, 6, 7, 8, 9, 10, 11, 12, 13])]
@[go_sem] def kl183 : List (Nat × List Nat) := [(1, [7, 8, 9, 10, 11, 12, 13, 14, 15, 16, 17, 18, 19, 20, 21, 22, 23, 24, 25, 26, 27, 28, 29, 30, 31, 32, 33]), (3, [35, 36, 37, 38, 39]), (4, [40]), (5, [42, 43, 44, 45, 46, 47, 48, 49, 50, 51, 52, 53, 54, 55, 56, 57, 58, 59, 60, 61, 62, 63, 64, 65, 66]), (6, [67, 68, 69, 70, 71]), (7, [72]), (8, [73, 74, 75, 76, 77, 78, 79, 80, 81, 82, 83, 84, 85, 86]), (9, [87, 88, 89, 90, 91])]
@[go_sem] def kl184 : List (Nat × List Nat) := [(1, [8, 9, 10, 11, 12, 13, 14, 15, 16]), (3, [18, 19, 20, 21, 22]), (4, [23]), (6, [28, 29]), (7, [30, 31, 32]), (9, [34]), (10, [35]), (12, [40, 41]), (13, [42, 43, 44]), (15, [46]), (16, [47, 48])]
@[go_sem] def kl185 : List (Nat × List Nat) := [(4, [10, 11]), (5, [12, 13, 14]), (6, [15]), (7, [16])]
@[go_sem] def kl186 : List (Nat × List Nat) := [(2, [9]), (4, [13]), (5, [14, 15, 16, 17, 18, 19, 20, 21]), (6, [22]), (7, [23])]
@[go_sem] def kl187 : List (Nat × List Nat) := [(1, [5, 6, 7, 8, 9, 10, 11])]
@[go_sem] def kl188 : List (Nat × List Nat) := [(3, [8]), (5, [10]), (7, [11, 12, 13, 14])]
@[go_sem] def kl189 : List (Nat × List Nat) := [(3, [7, 8]), (4, [10, 11]), (5, [12, 13, 14, 15, 16, 17, 18, 19]), (6, [20])]
@[go_sem] def kl190 : List (Nat × List Nat) := [(1, [3, 4, 5, 6])]
@[go_sem] def kl191 : List (Nat × List Nat) := [(1, [9]), (2, [10]), (4, [14]), (5, [15, 16, 17, 18, 19, 20, 21, 22]), (6, [23]), (7, [24])]
@[go_sem] def kl192 : List (Nat × List Nat) := [(1, [5, 6, 7, 8, 9, 10, 11])]
@[go_sem] def kl193 : List (Nat × List Nat) := [(2, [10, 11]), (4, [13, 14]), (7, [15]), (9, [20, 21]), (10, [22, 23, 24, 25, 26]), (11, [27]), (12, [28])]
@[go_sem] def kl194 : List (Nat × List Nat) := [(1, [5, 6, 7, 8, 9, 10, 11, 12, 13, 14, 15])]
@[go_sem] def kl195 : List (Nat × List Nat) := [(1, [3, 4, 5, 6])]
@[go_sem] def kl196 : List (Nat × List Nat) := [(1, [7, 8, 9]), (2, [10, 11, 12, 13]), (3, [14]), (4, [16, 17]), (5, [18, 19, 20, 21, 22, 23, 24, 25]), (6, [26, 27, 28, 29, 30, 31, 32, 33]), (7, [34]), (8, [36, 37, 38, 39, 40, 41, 42, 43]), (9, [44, 45, 46, 47, 48]), (10, [49])]
@[go_sem] def kl197 : List (Nat × List Nat) := [(1, [5, 6, 7, 8, 9, 10, 11])]
@[go_sem] def kl198 : List (Nat × List Nat) := [(2, [4, 5, 6]), (3, [8, 9]), (4, [10, 11, 12, 13, 14, 15, 16, 17, 18, 19, 20, 21, 22, 23, 24, 25, 26, 27, 28, 29, 30]), (6, [32, 33, 34])]
@[go_sem] def kl199 : List (Nat × List Nat) := [(1, [3, 4, 5, 6, 7, 8, 9, 10, 11, 12, 13, 14, 15, 16])]
@[go_sem] def kl200 : List (Nat × List Nat) := [(1, [9, 10, 11, 12, 13, 14, 15, 16, 17, 18, 19, 20, 21]), (3, [22]), (4, [24, 25]), (5, [26, 27, 28, 29, 30, 31, 32, 33]), (8, [38, 39, 40]), (9, [41, 42, 43, 44, 45]), (10, [47, 48, 49, 50, 51, 52, 53, 54, 55, 56, 57, 58, 59, 60]), (11, [61]), (12, [62]), (13, [64]), (16, [69, 70]), (17, [71, 72, 73, 74, 75, 76, 77, 78, 79, 80, 81, 82]), (18, [83]), (19, [84])]
@[go_sem] def kl201 : List (Nat × List Nat) := [(1, [5, 6]), (2, [7]), (4, [11]), (5, [12, 13, 14, 15, 16, 17, 18, 19, 20]), (6, [21]), (7, [22])]
@[go_sem] def kl202 : List (Nat × List Nat) := [(1, [5, 6, 7, 8, 9, 10, 11, 12, 13, 14])]
@[go_sem] def kl203 : List (Nat × List Nat) := [(1, [9, 10]), (3, [11, 12, 13]), (6, [18, 19, 20]), (7, [21, 22, 23, 24, 25, 26, 27, 28, 29, 30, 31, 32]), (8, [33, 34]), (9, [36, 37, 38, 39, 40, 41, 42]), (10, [43]), (11, [44, 45, 46])]
@[go_sem] def kl204 : List (Nat × List Nat) := [(1, [7, 8]), (2, [9, 10, 11, 12, 13]), (3, [14]), (4, [17]), (5, [18, 19, 20, 21, 22, 23, 24, 25]), (6, [27]), (7, [28, 29, 30, 31, 32, 33, 34, 35]), (8, [37]), (9, [38, 39, 40, 41, 42, 43, 44, 45]), (10, [47]), (11, [48, 49, 50, 51, 52, 53, 54, 55]), (12, [57]), (13, [58, 59, 60, 61, 62, 63, 64, 65]), (14, [67]), (15, [68, 69, 70, 71, 72]), (16, [74]), (17, [75, 76, 77, 78]), (18, [80]), (19, [81, 82, 83, 84]), (20, [86]), (21, [87, 88, 89, 90]), (22, [92]), (23, [93, 94, 95, 96]), (24, [98]), (25, [99]), (26, [101]), (27, [102]), (28, [103, 104]), (30, [109, 110]), (31, [111, 112, 113, 114, 115, 116, 117]), (32, [118]), (33, [119])]
@[go_sem] def kl205 : List (Nat × List Nat) := [(1, [1])]
@[go_sem] def kl206 : List (Nat × List Nat) := [(1, [3, 4, 5])]
@[go_sem] def kl207 : List (Nat × List Nat) := [(1, [3, 4, 5, 6, 7])]
@[go_sem] def kl208 : List (Nat × List Nat) := [(1, [3, 4])]
@[go_sem] def kl209 : List (Nat × List Nat) := [(3, [13, 14]), (4, [15]), (6, [20, 21]), (7, [22, 23, 24]), (9, [26]), (10, [27])]
@[go_sem] def kl210 : List (Nat × List Nat) := [(1, [5, 6, 7, 8, 9, 10, 11, 12, 13])]
@[go_sem] def kl211 : List (Nat × List Nat) := [(1, [5]), (3, [10, 11, 12]), (4, [13, 14, 15, 16, 17, 18, 19, 20, 21, 22, 23, 24, 25, 26, 27, 28, 29, 30]), (6, [32]), (7, [33, 34, 35, 36, 37, 38, 39, 40, 41, 42, 43, 44, 45, 46, 47, 48, 49, 50, 51, 52, 53, 54, 55, 56, 57, 58, 59, 60, 61, 62, 63, 64, 65, 66, 67])]
@[go_sem] def kl212 : List (Nat × List Nat) := [(3, [13, 14]), (4, [15]), (6, [20, 21]), (7, [22, 23, 24]), (9, [26]), (10, [27])]
@[go_sem] def kl213 : List (Nat × List Nat) := [(3, [13, 14]), (4, [15, 16, 17, 18, 19]), (6, [21]), (8, [23, 24, 25, 26, 27, 28, 29, 30]), (9, [31, 32, 33, 34, 35, 36, 37, 38])]
@[go_sem] def kl214 : List (Nat × List Nat) := [(1, [9, 10, 11, 12, 13, 14, 15, 16, 17])]
@[go_sem] def kl215 : List (Nat × List Nat) := [(1, [6, 7, 8]), (2, [9, 10, 11]), (3, [13, 14]), (4, [15])]
@[go_sem] def kl216 : List (Nat × List Nat) := [(2, [7, 8]), (4, [12]), (5, [13, 14, 15, 16, 17, 18, 19, 20]), (6, [21]), (7, [22])]
@[go_sem] def kl217 : List (Nat × List Nat) := [(1, [9, 10, 11, 12, 13, 14, 15, 16, 17, 18, 19, 20, 21, 22])]
@[go_sem] def kl218 : List (Nat × List Nat) := [(1, [6, 7, 8]), (2, [9, 10, 11]), (3, [13, 14]), (4, [15])]
@[go_sem] def kl219 : List (Nat × List Nat) := [(1, [6]), (2, [7]), (4, [12, 13]), (5, [14, 15, 16, 17, 18]), (6, [19]), (7, [20])]
@[go_sem] def kl220 : List (Nat × List Nat) := [(1, [5, 6, 7, 8, 9, 10])]
@[go_sem] def kl221 : List (Nat × List Nat) := [(3, [7]), (4, [9, 10]), (5, [11, 12, 13, 14]), (6, [16, 17, 18, 19]), (7, [20])]
@[go_sem] def kl222 : List (Nat × List Nat) := [(1, [5, 6, 7, 8])]
@[go_sem] def kl223 : List (Nat × List Nat) := [(1, [7, 8, 9, 10, 11, 12, 13, 14, 15, 16, 17, 18, 19, 20, 21, 22, 23, 24]), (3, [26]), (5, [31, 32]), (6, [33, 34, 35, 36, 37, 38, 39, 40, 41]), (8, [43]), (9, [44]), (11, [49, 50]), (12, [51, 52, 53, 54, 55, 56, 57, 58]), (14, [60])]
@[go_sem] def kl224 : List (Nat × List Nat) := [(1, [3, 4, 5, 6, 7, 8, 9, 10, 11, 12, 13, 14, 15, 16, 17, 18, 19, 20])]
@[go_sem] def kl225 : List (Nat × List Nat) := [(1, [7]), (3, [12, 13, 14]), (4, [15, 16, 17]), (5, [19]), (6, [20])]
@[go_sem] def kl226 : List (Nat × List Nat) := [(1, [9, 10, 11, 12, 13, 14, 15, 16, 17, 18])]
@[go_sem] def kl227 : List (Nat × List Nat) := [(1, [7, 8, 9, 10, 11, 12, 13, 14, 15]), (2, [16, 17, 18])]
@[go_sem] def kl228 : List (Nat × List Nat) := [(1, [9, 10, 11, 12, 13, 14, 15, 16, 17]), (2, [19, 20, 21, 22]), (3, [23]), (4, [25, 26, 27, 28]), (5, [29, 30, 31])]
@[go_sem] def kl229 : List (Nat × List Nat) := [(1, [11, 12, 13, 14]), (3, [16, 17, 18, 19, 20]), (4, [21, 22, 23, 24, 25, 26, 27, 28, 29, 30, 31])]
@[go_sem] def kl230 : List (Nat × List Nat) := [(1, [5, 6, 7, 8, 9]), (2, [10, 11, 12])]
@[go_sem] def kl231 : List (Nat × List Nat) := [(2, [13]), (3, [14, 15, 16]), (4, [18]), (5, [19, 20]), (6, [22]), (7, [23, 24, 25, 26, 27]), (8, [28, 29, 30, 31, 32, 33]), (9, [35]), (10, [36, 37]), (12, [42, 43, 44]), (13, [45, 46, 47, 48, 49, 50]), (15, [52]), (17, [54]), (18, [55, 56]), (19, [57, 58, 59, 60])]
@[go_sem] def kl232 : List (Nat × List Nat) := [(1, [6]), (3, [10]), (4, [11, 12, 13, 14, 15]), (5, [17]), (6, [18])]
@[go_sem] def kl233 : List (Nat × List Nat) := [(1, [4, 5, 6, 7])]
@[go_sem] def kl234 : List (Nat × List Nat) := [(1, [3, 4, 5, 6, 7])]
@[go_sem] def kl235 : List (Nat × List Nat) := [(1, [5, 6, 7, 8])]
@[go_sem] def kl236 : List (Nat × List Nat) := [(1, [3, 4, 5])]
@[go_sem] def kl237 : List (Nat × List Nat) := [(1, [3, 4, 5, 6, 7, 8, 9])]
@[go_sem] def kl238 : List (Nat × List Nat) := [(2, [4, 5, 6]), (3, [8, 9]), (4, [10, 11, 12, 13, 14, 15, 16, 17, 18, 19, 20, 21, 22, 23, 24, 25, 26, 27, 28, 29, 30]), (6, [32, 33, 34])]
@[go_sem] def kl239 : List (Nat × List Nat) := [(1, [9, 10, 11, 12, 13, 14]), (2, [15, 16, 17]), (3, [19, 20, 21, 22]), (4, [23]), (5, [25, 26, 27, 28]), (6, [29, 30, 31])]
@[go_sem] def kl240 : List (Nat × List Nat) := [(1, [11, 12, 13, 14]), (3, [16, 17, 18, 19, 20]), (4, [21, 22, 23, 24, 25, 26, 27, 28, 29, 30, 31])]
@[go_sem] def kl241 : List (Nat × List Nat) := [(1, [6, 7]), (2, [8, 9]), (3, [11, 12, 13]), (4, [14, 15]), (5, [16, 17, 18, 19, 20, 21, 22, 23, 24, 25, 26, 27, 28, 29, 30])]
@[go_sem] def kl242 : List (Nat × List Nat) := [(2, [8, 9]), (4, [14, 15]), (5, [16, 17, 18, 19, 20, 21, 22, 23, 24, 25, 26, 27, 28, 29, 30, 31, 32, 33]), (6, [35, 36]), (7, [37]), (8, [38])]
@[go_sem] def kl243 : List (Nat × List Nat) := [(1, [6, 7, 8, 9]), (2, [10]), (3, [12, 13, 14, 15, 16, 17]), (4, [18])]
@[go_sem] def kl244 : List (Nat × List Nat) := [(1, [4, 5]), (2, [7, 8, 9, 10]), (3, [11, 12, 13, 14, 15, 16, 17, 18, 19, 20, 21])]
@[go_sem] def kl245 : List (Nat × List Nat) := [(1, [5, 6, 7, 8])]
@[go_sem] def kl246 : List (Nat × List Nat) := [(3, [9, 10]), (4, [11, 12, 13]), (6, [15])]
@[go_sem] def kl247 : List (Nat × List Nat) := [(4, [12, 13]), (5, [14, 15, 16]), (6, [18, 19]), (7, [20, 21, 22]), (8, [24, 25]), (9, [26]), (10, [27, 28])]
@[go_sem] def kl248 : List (Nat × List Nat) := [(1, [9]), (4, [14, 15]), (5, [16, 17, 18]), (6, [19]), (7, [21, 22, 23, 24, 25, 26]), (8, [27]), (9, [28])]
@[go_sem] def kl249 : List (Nat × List Nat) := [(3, [9, 10, 11]), (4, [12, 13, 14, 15, 16, 17, 18]), (6, [20])]
@[go_sem] def kl250 : List (Nat × List Nat) := [(3, [15, 16]), (4, [17]), (6, [22, 23]), (7, [24, 25, 26, 27, 28, 29]), (9, [31]), (10, [32])]
@[go_sem] def kl251 : List (Nat × List Nat) := [(1, [6]), (3, [10]), (4, [11, 12, 13, 14, 15]), (5, [17]), (6, [18])]
@[go_sem] def kl252 : List (Nat × List Nat) := [(2, [8]), (4, [13, 14, 15]), (5, [16, 17, 18, 19, 20, 21, 22, 23, 24, 25]), (6, [26]), (7, [27]), (8, [29, 30, 31, 32, 33, 34]), (9, [35])]
@[go_sem] def kl253 : List (Nat × List Nat) := [(2, [8, 9]), (4, [14, 15]), (5, [16, 17, 18, 19, 20, 21, 22, 23, 24, 25, 26, 27, 28, 29, 30, 31, 32, 33]), (6, [35, 36]), (7, [37]), (8, [38])]
@[go_sem] def kl254 : List (Nat × List Nat) := [(2, [8]), (4, [13, 14, 15]), (5, [16, 17, 18, 19, 20, 21, 22, 23, 24, 25]), (6, [26]), (7, [27])]
@[go_sem] def kl255 : List (Nat × List Nat) := [(4, [11, 12]), (5, [13, 14]), (6, [15, 16, 17, 18, 19, 20, 21, 22, 23, 24]), (7, [26, 27]), (8, [28, 29, 30, 31, 32, 33, 34, 35, 36, 37, 38, 39]), (9, [40]), (10, [41])]
@[go_sem] def kl256 : List (Nat × List Nat) := [(1, [8]), (2, [9]), (4, [14, 15, 16]), (5, [17, 18, 19, 20, 21, 22, 23, 24, 25, 26, 27, 28, 29, 30, 31, 32, 33]), (6, [34]), (7, [35])]
@[go_sem] def kl257 : List (Nat × List Nat) := [(1, [5, 6]), (2, [8]), (3, [9, 10, 11]), (5, [12, 13, 14]), (6, [16, 17]), (7, [18, 19, 20, 21, 22, 23]), (8, [24])]
@[go_sem] def kl258 : List (Nat × List Nat) := [(1, [5, 6]), (2, [8]), (3, [9, 10, 11]), (5, [12, 13, 14]), (6, [16, 17]), (7, [18, 19, 20, 21, 22, 23]), (8, [24])]
@[go_sem] def kl259 : List (Nat × List Nat) := [(1, [6, 7, 8, 9, 10, 11]), (2, [12]), (4, [14, 15, 16, 17, 18, 19])]
@[go_sem] def kl260 : List (Nat × List Nat) := [(1, [14, 15, 16]), (3, [19]), (4, [20, 21]), (5, [23]), (6, [24, 25, 26, 27, 28, 29, 30, 31, 32, 33, 34, 35, 36, 37, 38, 39, 40]), (7, [41, 42, 43, 44, 45, 46]), (8, [47, 48, 49, 50, 51, 52, 53, 54, 55, 56, 57, 58])]
@[go_sem] def kl261 : List (Nat × List Nat) := [(1, [9, 10, 11]), (2, [12]), (4, [14, 15, 16, 17, 18, 19]), (6, [22]), (7, [23, 24, 25, 26, 27]), (8, [29]), (9, [30, 31, 32]), (10, [34]), (12, [35])]
@[go_sem] def kl262 : List (Nat × List Nat) := [(2, [9]), (3, [10, 11, 12, 13, 14, 15]), (4, [17]), (5, [18, 19, 20, 21]), (6, [23]), (8, [24, 25])]
@[go_sem] def kl263 : List (Nat × List Nat) := [(4, [16, 17]), (5, [18]), (7, [23, 24]), (8, [25, 26]), (9, [28, 29]), (10, [30, 31, 32]), (11, [34, 35]), (12, [36]), (13, [37]), (14, [38, 39])]
theorem pw_loop_over {P : Program} {Q : Exit → AS → Prop} {s : AS} {α : Type} {c : Code} (dead : List Nat) (L : α → List (Nat × PV)) (hp : α → List (Nat × Blk)) (nx : Nat) (J : α → Prop) (μ : α → Nat) (x0 : α) (h0 : J x0) (hf : Fits s ⟨over (wipe s.fr dead) (L x0), hp x0, nx⟩)
    (round : ∀ x, J x → PW P c (thenA (fun s' => ∃ x', J x' ∧ μ x' < μ x ∧ Fits s' ⟨over (wipe s.fr dead) (L x'), hp x', nx⟩) Q) ⟨over (wipe s.fr dead) (L x), hp x, nx⟩) : PW P (.loop c) Q s :=
  pw_loop (fun x => ⟨over (wipe s.fr dead) (L x), hp x, nx⟩) J μ x0 h0 hf round

/-- the truth of a proposition, as a bool -/
noncomputable def bP (p : Prop) : Bool := @decide p (Classical.propDecidable p)
theorem bP_true {p : Prop} (h : p) : bP p = true := by unfold bP; exact @decide_eq_true _ (Classical.propDecidable p) h
theorem bP_false {p : Prop} (h : ¬ p) : bP p = false := by unfold bP; exact @decide_eq_false _ (Classical.propDecidable p) h
theorem bP_iff {p : Prop} : bP p = true ↔ p := by unfold bP; exact @decide_eq_true_iff p (Classical.propDecidable p)
end Go.Proofs.YtphakidbddamfaaGreat
