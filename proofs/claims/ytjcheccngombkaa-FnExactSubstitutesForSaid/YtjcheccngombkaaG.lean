/-
  The table of the program's types, for the abstract machine.
-/
import Derived.Test.YtjcheccngombkaaProg
import Derived.Test.YtjcheccngombkaaM10
namespace Go.Proofs.Ytjcheccngombkaa
open Go.RowKit
def G : List (Nat × TI) := [(2, .num .i64), (3, .num .i64), (4, .bol), (5, .num .u8), (6, .num .u8), (7, .st 4 [(0, 1), (1, 1), (2, 1), (3, 1)] [.int .i64 0, .int .i64 0, .bool false, .int .u8 0]), (8, .st 4 [(0, 1), (1, 1), (2, 1), (3, 1)] [.int .i64 0, .int .i64 0, .bool false, .int .u8 0]), (9, .str), (10, .str), (11, .str), (12, .num .u64), (13, .st 2 [(0, 1), (1, 1)] [.str ⟨#[]⟩, .int .u64 0]), (14, .st 2 [(0, 1), (1, 1)] [.str ⟨#[]⟩, .int .u64 0]), (21, .num .i32), (22, .slc 69 5 40 [.int .i64 0, .int .i64 0, .int .i64 0, .int .i64 0, .bool false]), (26, .slc 67 5 40 [.int .i64 0, .int .i64 0, .int .i64 0, .int .i64 0, .bool false]), (30, .slc 3 1 8 [.int .i64 0]), (40, .slc 79 3 24 [.int .i64 0, .int .i64 0, .int .i64 0]), (43, .slc 77 3 24 [.int .i64 0, .int .i64 0, .int .i64 0]), (53, .slc 88 2 16 [.int .i64 0, .int .i64 0]), (56, .slc 86 2 16 [.int .i64 0, .int .i64 0]), (66, .st 5 [(0, 1), (1, 1), (2, 1), (3, 1), (4, 1)] [.int .i64 0, .int .i64 0, .int .i64 0, .int .i64 0, .bool false]), (67, .st 5 [(0, 1), (1, 1), (2, 1), (3, 1), (4, 1)] [.int .i64 0, .int .i64 0, .int .i64 0, .int .i64 0, .bool false]), (69, .st 5 [(0, 1), (1, 1), (2, 1), (3, 1), (4, 1)] [.int .i64 0, .int .i64 0, .int .i64 0, .int .i64 0, .bool false]), (76, .st 3 [(0, 1), (1, 1), (2, 1)] [.int .i64 0, .int .i64 0, .int .i64 0]), (77, .st 3 [(0, 1), (1, 1), (2, 1)] [.int .i64 0, .int .i64 0, .int .i64 0]), (79, .st 3 [(0, 1), (1, 1), (2, 1)] [.int .i64 0, .int .i64 0, .int .i64 0]), (85, .st 2 [(0, 1), (1, 1)] [.int .i64 0, .int .i64 0]), (86, .st 2 [(0, 1), (1, 1)] [.int .i64 0, .int .i64 0]), (88, .st 2 [(0, 1), (1, 1)] [.int .i64 0, .int .i64 0]), (106, .num .u32), (107, .num .u8), (108, .num .u8), (111, .num .i32), (112, .num .i32)]
theorem G_ok : GOK Try.prog G := GOK.of_all (by kernel_rfl)
theorem G2 : tget G 2 = some (.num .i64) := rfl
theorem G3 : tget G 3 = some (.num .i64) := rfl
theorem G4 : tget G 4 = some (.bol) := rfl
theorem G5 : tget G 5 = some (.num .u8) := rfl
theorem G6 : tget G 6 = some (.num .u8) := rfl
theorem G7 : tget G 7 = some (.st 4 [(0, 1), (1, 1), (2, 1), (3, 1)] [.int .i64 0, .int .i64 0, .bool false, .int .u8 0]) := rfl
theorem G8 : tget G 8 = some (.st 4 [(0, 1), (1, 1), (2, 1), (3, 1)] [.int .i64 0, .int .i64 0, .bool false, .int .u8 0]) := rfl
theorem G9 : tget G 9 = some (.str) := rfl
theorem G10 : tget G 10 = some (.str) := rfl
theorem G11 : tget G 11 = some (.str) := rfl
theorem G12 : tget G 12 = some (.num .u64) := rfl
theorem G13 : tget G 13 = some (.st 2 [(0, 1), (1, 1)] [.str ⟨#[]⟩, .int .u64 0]) := rfl
theorem G14 : tget G 14 = some (.st 2 [(0, 1), (1, 1)] [.str ⟨#[]⟩, .int .u64 0]) := rfl
theorem G21 : tget G 21 = some (.num .i32) := rfl
theorem G22 : tget G 22 = some (.slc 69 5 40 [.int .i64 0, .int .i64 0, .int .i64 0, .int .i64 0, .bool false]) := rfl
theorem G26 : tget G 26 = some (.slc 67 5 40 [.int .i64 0, .int .i64 0, .int .i64 0, .int .i64 0, .bool false]) := rfl
theorem G30 : tget G 30 = some (.slc 3 1 8 [.int .i64 0]) := rfl
theorem G40 : tget G 40 = some (.slc 79 3 24 [.int .i64 0, .int .i64 0, .int .i64 0]) := rfl
theorem G43 : tget G 43 = some (.slc 77 3 24 [.int .i64 0, .int .i64 0, .int .i64 0]) := rfl
theorem G53 : tget G 53 = some (.slc 88 2 16 [.int .i64 0, .int .i64 0]) := rfl
theorem G56 : tget G 56 = some (.slc 86 2 16 [.int .i64 0, .int .i64 0]) := rfl
theorem G66 : tget G 66 = some (.st 5 [(0, 1), (1, 1), (2, 1), (3, 1), (4, 1)] [.int .i64 0, .int .i64 0, .int .i64 0, .int .i64 0, .bool false]) := rfl
theorem G67 : tget G 67 = some (.st 5 [(0, 1), (1, 1), (2, 1), (3, 1), (4, 1)] [.int .i64 0, .int .i64 0, .int .i64 0, .int .i64 0, .bool false]) := rfl
theorem G69 : tget G 69 = some (.st 5 [(0, 1), (1, 1), (2, 1), (3, 1), (4, 1)] [.int .i64 0, .int .i64 0, .int .i64 0, .int .i64 0, .bool false]) := rfl
theorem G76 : tget G 76 = some (.st 3 [(0, 1), (1, 1), (2, 1)] [.int .i64 0, .int .i64 0, .int .i64 0]) := rfl
theorem G77 : tget G 77 = some (.st 3 [(0, 1), (1, 1), (2, 1)] [.int .i64 0, .int .i64 0, .int .i64 0]) := rfl
theorem G79 : tget G 79 = some (.st 3 [(0, 1), (1, 1), (2, 1)] [.int .i64 0, .int .i64 0, .int .i64 0]) := rfl
theorem G85 : tget G 85 = some (.st 2 [(0, 1), (1, 1)] [.int .i64 0, .int .i64 0]) := rfl
theorem G86 : tget G 86 = some (.st 2 [(0, 1), (1, 1)] [.int .i64 0, .int .i64 0]) := rfl
theorem G88 : tget G 88 = some (.st 2 [(0, 1), (1, 1)] [.int .i64 0, .int .i64 0]) := rfl
theorem G106 : tget G 106 = some (.num .u32) := rfl
theorem G107 : tget G 107 = some (.num .u8) := rfl
theorem G108 : tget G 108 = some (.num .u8) := rfl
theorem G111 : tget G 111 = some (.num .i32) := rfl
theorem G112 : tget G 112 = some (.num .i32) := rfl
theorem mixed : Try.prog.follows .mixedOrders = true := by kernel_rfl

theorem pw_seq_ops {P : Program} {G : List (Nat × TI)} (hG : GOK P G) {Q : Exit → AS → Prop} {s : AS} {id : Nat} {l : List Oper} {y : Code} (h : ∀ K : AS → Prop, (∀ s', PW P y Q s' → K s') → execL P G l.toArray l K s) : PW P (.seq (.region id l.toArray false) y) Q s :=
  pw_seq_k fun _ hK => pw_ops hG fun K' hK' => h K' fun s' h' => hK' s' (hK s' h')

theorem retQ_ret {G : List (Nat × TI)} {fn : Func} {Post : List RV → Prop} {s : AS} {xs : List PV} {rs : List RV} (h1 : retPVs G s fn.results.toList = some xs) (h2 : retL s.hp xs = some rs) (h3 : (rowsOf xs).Nodup) (h4 : Post rs) : retQ G fn Post .ret s := ⟨xs, rs, h1, h2, h3, h4⟩
theorem retQ_normal {G : List (Nat × TI)} {fn : Func} {Post : List RV → Prop} {s : AS} {xs : List PV} {rs : List RV} (h1 : retPVs G s fn.results.toList = some xs) (h2 : retL s.hp xs = some rs) (h3 : (rowsOf xs).Nodup) (h4 : Post rs) : retQ G fn Post .normal s := ⟨xs, rs, h1, h2, h3, h4⟩

/-- slots forgotten, slots given anew -/
def wipe : List PV → List Nat → List PV
  | fr, [] => fr
  | fr, t :: r => wipe (fr.set t .und) r
def over : List PV → List (Nat × PV) → List PV
  | fr, [] => fr
  | fr, (t, x) :: r => over (fr.set t x) r
theorem pw_loop_over {P : Program} {Q : Exit → AS → Prop} {s : AS} {α : Type} {c : Code} (dead : List Nat) (L : α → List (Nat × PV)) (hp : α → List (Nat × Blk)) (nx : Nat) (J : α → Prop) (μ : α → Nat) (x0 : α) (h0 : J x0) (hf : Fits s ⟨over (wipe s.fr dead) (L x0), hp x0, nx⟩)
    (round : ∀ x, J x → PW P c (thenA (fun s' => ∃ x', J x' ∧ μ x' < μ x ∧ Fits s' ⟨over (wipe s.fr dead) (L x'), hp x', nx⟩) Q) ⟨over (wipe s.fr dead) (L x), hp x, nx⟩) : PW P (.loop c) Q s :=
  pw_loop (fun x => ⟨over (wipe s.fr dead) (L x), hp x, nx⟩) J μ x0 h0 hf round

/-- the truth of a proposition, as a bool -/
noncomputable def bP (p : Prop) : Bool := @decide p (Classical.propDecidable p)
theorem bP_true {p : Prop} (h : p) : bP p = true := by unfold bP; exact @decide_eq_true _ (Classical.propDecidable p) h
theorem bP_false {p : Prop} (h : ¬ p) : bP p = false := by unfold bP; exact @decide_eq_false _ (Classical.propDecidable p) h
theorem bP_iff {p : Prop} : bP p = true ↔ p := by unfold bP; exact @decide_eq_true_iff p (Classical.propDecidable p)
end Go.Proofs.Ytjcheccngombkaa
