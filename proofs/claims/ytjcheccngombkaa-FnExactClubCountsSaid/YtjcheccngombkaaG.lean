/-
  The table of the program's types, for the abstract machine.
-/
import Derived.Test.YtjcheccngombkaaProg
import Derived.Test.YtjcheccngombkaaM11
namespace Go.Proofs.Ytjcheccngombkaa
open Go.RowKit
def G : List (Nat × TI) := [(2, .num .i64), (3, .num .i64), (4, .bol), (5, .num .u8), (6, .num .u8), (7, .st 4 [(0, 1), (1, 1), (2, 1), (3, 1)] [.int .i64 0, .int .i64 0, .bool false, .int .u8 0]), (8, .st 4 [(0, 1), (1, 1), (2, 1), (3, 1)] [.int .i64 0, .int .i64 0, .bool false, .int .u8 0]), (9, .str), (10, .str), (11, .str), (12, .num .u64), (13, .st 2 [(0, 1), (1, 1)] [.str ⟨#[]⟩, .int .u64 0]), (14, .st 2 [(0, 1), (1, 1)] [.str ⟨#[]⟩, .int .u64 0]), (21, .num .i32), (22, .slc 69 5 40 [.int .i64 0, .int .i64 0, .int .i64 0, .int .i64 0, .bool false]), (26, .slc 67 5 40 [.int .i64 0, .int .i64 0, .int .i64 0, .int .i64 0, .bool false]), (30, .slc 3 1 8 [.int .i64 0]), (40, .slc 79 3 24 [.int .i64 0, .int .i64 0, .int .i64 0]), (43, .slc 77 3 24 [.int .i64 0, .int .i64 0, .int .i64 0]), (53, .slc 88 2 16 [.int .i64 0, .int .i64 0]), (56, .slc 86 2 16 [.int .i64 0, .int .i64 0]), (66, .st 5 [(0, 1), (1, 1), (2, 1), (3, 1), (4, 1)] [.int .i64 0, .int .i64 0, .int .i64 0, .int .i64 0, .bool false]), (67, .st 5 [(0, 1), (1, 1), (2, 1), (3, 1), (4, 1)] [.int .i64 0, .int .i64 0, .int .i64 0, .int .i64 0, .bool false]), (69, .st 5 [(0, 1), (1, 1), (2, 1), (3, 1), (4, 1)] [.int .i64 0, .int .i64 0, .int .i64 0, .int .i64 0, .bool false]), (76, .st 3 [(0, 1), (1, 1), (2, 1)] [.int .i64 0, .int .i64 0, .int .i64 0]), (77, .st 3 [(0, 1), (1, 1), (2, 1)] [.int .i64 0, .int .i64 0, .int .i64 0]), (79, .st 3 [(0, 1), (1, 1), (2, 1)] [.int .i64 0, .int .i64 0, .int .i64 0]), (85, .st 2 [(0, 1), (1, 1)] [.int .i64 0, .int .i64 0]), (86, .st 2 [(0, 1), (1, 1)] [.int .i64 0, .int .i64 0]), (88, .st 2 [(0, 1), (1, 1)] [.int .i64 0, .int .i64 0]), (106, .num .u32), (107, .num .u8), (108, .num .u8), (111, .num .i32), (112, .num .i32)]
theorem G_ok : GOK Try.prog G := GOK.of_all (by kernel_rfl)
@[go_sem] theorem G2 : tget G 2 = some (.num .i64) := rfl
@[go_sem] theorem G3 : tget G 3 = some (.num .i64) := rfl
@[go_sem] theorem G4 : tget G 4 = some (.bol) := rfl
@[go_sem] theorem G5 : tget G 5 = some (.num .u8) := rfl
@[go_sem] theorem G6 : tget G 6 = some (.num .u8) := rfl
@[go_sem] theorem G7 : tget G 7 = some (.st 4 [(0, 1), (1, 1), (2, 1), (3, 1)] [.int .i64 0, .int .i64 0, .bool false, .int .u8 0]) := rfl
@[go_sem] theorem G8 : tget G 8 = some (.st 4 [(0, 1), (1, 1), (2, 1), (3, 1)] [.int .i64 0, .int .i64 0, .bool false, .int .u8 0]) := rfl
@[go_sem] theorem G9 : tget G 9 = some (.str) := rfl
@[go_sem] theorem G10 : tget G 10 = some (.str) := rfl
@[go_sem] theorem G11 : tget G 11 = some (.str) := rfl
@[go_sem] theorem G12 : tget G 12 = some (.num .u64) := rfl
@[go_sem] theorem G13 : tget G 13 = some (.st 2 [(0, 1), (1, 1)] [.str ⟨#[]⟩, .int .u64 0]) := rfl
@[go_sem] theorem G14 : tget G 14 = some (.st 2 [(0, 1), (1, 1)] [.str ⟨#[]⟩, .int .u64 0]) := rfl
@[go_sem] theorem G21 : tget G 21 = some (.num .i32) := rfl
@[go_sem] theorem G22 : tget G 22 = some (.slc 69 5 40 [.int .i64 0, .int .i64 0, .int .i64 0, .int .i64 0, .bool false]) := rfl
@[go_sem] theorem G26 : tget G 26 = some (.slc 67 5 40 [.int .i64 0, .int .i64 0, .int .i64 0, .int .i64 0, .bool false]) := rfl
@[go_sem] theorem G30 : tget G 30 = some (.slc 3 1 8 [.int .i64 0]) := rfl
@[go_sem] theorem G40 : tget G 40 = some (.slc 79 3 24 [.int .i64 0, .int .i64 0, .int .i64 0]) := rfl
@[go_sem] theorem G43 : tget G 43 = some (.slc 77 3 24 [.int .i64 0, .int .i64 0, .int .i64 0]) := rfl
@[go_sem] theorem G53 : tget G 53 = some (.slc 88 2 16 [.int .i64 0, .int .i64 0]) := rfl
@[go_sem] theorem G56 : tget G 56 = some (.slc 86 2 16 [.int .i64 0, .int .i64 0]) := rfl
@[go_sem] theorem G66 : tget G 66 = some (.st 5 [(0, 1), (1, 1), (2, 1), (3, 1), (4, 1)] [.int .i64 0, .int .i64 0, .int .i64 0, .int .i64 0, .bool false]) := rfl
@[go_sem] theorem G67 : tget G 67 = some (.st 5 [(0, 1), (1, 1), (2, 1), (3, 1), (4, 1)] [.int .i64 0, .int .i64 0, .int .i64 0, .int .i64 0, .bool false]) := rfl
@[go_sem] theorem G69 : tget G 69 = some (.st 5 [(0, 1), (1, 1), (2, 1), (3, 1), (4, 1)] [.int .i64 0, .int .i64 0, .int .i64 0, .int .i64 0, .bool false]) := rfl
@[go_sem] theorem G76 : tget G 76 = some (.st 3 [(0, 1), (1, 1), (2, 1)] [.int .i64 0, .int .i64 0, .int .i64 0]) := rfl
@[go_sem] theorem G77 : tget G 77 = some (.st 3 [(0, 1), (1, 1), (2, 1)] [.int .i64 0, .int .i64 0, .int .i64 0]) := rfl
@[go_sem] theorem G79 : tget G 79 = some (.st 3 [(0, 1), (1, 1), (2, 1)] [.int .i64 0, .int .i64 0, .int .i64 0]) := rfl
@[go_sem] theorem G85 : tget G 85 = some (.st 2 [(0, 1), (1, 1)] [.int .i64 0, .int .i64 0]) := rfl
@[go_sem] theorem G86 : tget G 86 = some (.st 2 [(0, 1), (1, 1)] [.int .i64 0, .int .i64 0]) := rfl
@[go_sem] theorem G88 : tget G 88 = some (.st 2 [(0, 1), (1, 1)] [.int .i64 0, .int .i64 0]) := rfl
@[go_sem] theorem G106 : tget G 106 = some (.num .u32) := rfl
@[go_sem] theorem G107 : tget G 107 = some (.num .u8) := rfl
@[go_sem] theorem G108 : tget G 108 = some (.num .u8) := rfl
@[go_sem] theorem G111 : tget G 111 = some (.num .i32) := rfl
@[go_sem] theorem G112 : tget G 112 = some (.num .i32) := rfl
theorem mixed : Try.prog.follows .mixedOrders = true := by kernel_rfl

theorem retQ_ret {G : List (Nat × TI)} {fn : Func} {Post : List RV → Prop} {s : AS} {xs : List PV} {rs : List RV} (h1 : retPVs G s fn.results.toList = some xs) (h2 : retL s.hp xs = some rs) (h3 : (rowsOf xs).Nodup) (h4 : Post rs) : retQ G fn Post .ret s := ⟨xs, rs, h1, h2, h3, h4⟩
theorem retQ_normal {G : List (Nat × TI)} {fn : Func} {Post : List RV → Prop} {s : AS} {xs : List PV} {rs : List RV} (h1 : retPVs G s fn.results.toList = some xs) (h2 : retL s.hp xs = some rs) (h3 : (rowsOf xs).Nodup) (h4 : Post rs) : retQ G fn Post .normal s := ⟨xs, rs, h1, h2, h3, h4⟩

/-- slots given anew -/
def over : Fr → List (Nat × PV) → Fr
  | f, [] => f
  | f, (t, x) :: r => over ⟨f.n, ins f.l t x⟩ r
/-- slots forgotten behind a region: a table -/
def tlook : List (Nat × List Nat) → Nat → List Nat
  | [], _ => []
  | (k, ts) :: r, i => if i = k then ts else tlook r i
def forget (T : List (Nat × List Nat)) (id : Nat) (s : AS) : AS := ⟨wipe s.fr (tlook T id), s.hp, s.nx⟩
theorem pw_forget {P : Program} {c : Code} {Q : Exit → AS → Prop} {s : AS} (T : List (Nat × List Nat)) (id : Nat) (h : PW P c Q (forget T id s)) : PW P c Q s := fun X0 w0 m a w hs => h X0 w0 m a w (hs.wipe _)
theorem pw_seq_ops {P : Program} {G : List (Nat × TI)} (hG : GOK P G) {Q : Exit → AS → Prop} {s : AS} {id : Nat} {l : List Oper} {y : Code} (h : ∀ K : AS → Prop, (∀ s', PW P y Q s' → K s') → execL P G l.toArray l K s) : PW P (.seq (.region id l.toArray false) y) Q s :=
  pw_seq_k fun _ hK => pw_ops hG fun K' hK' => h K' fun s' h' => hK' s' (hK s' h')
theorem pw_seq_opsK {P : Program} {G : List (Nat × TI)} (T : List (Nat × List Nat)) (hG : GOK P G) {Q : Exit → AS → Prop} {s : AS} {id : Nat} {l : List Oper} {y : Code} (h : ∀ K : AS → Prop, (∀ s', PW P y Q (forget T id s') → K s') → execL P G l.toArray l K s) : PW P (.seq (.region id l.toArray false) y) Q s :=
  pw_seq_ops hG fun K hK => h K fun s' h' => hK s' (pw_forget T id h')
theorem pw_seq_drawK {P : Program} {G : List (Nat × TI)} (T : List (Nat × List Nat)) {Q : Exit → AS → Prop} {s : AS} {id : Nat} {l : List Oper} {y : Code} (hG : GOK P G) (hm : P.follows .mixedOrders = true) (hB : Region.lexB .any l.toArray = true) (h : ∀ K : AS → Prop, (∀ s', PW P y Q (forget T id s') → K s') → quietL P G l.toArray l K s) : PW P (.seq (.region id l.toArray true) y) Q s :=
  pw_seq_draw hG hm hB fun K hK => h K fun s' h' => hK s' (pw_forget T id h')
theorem pw_seq_tailK {P : Program} {G : List (Nat × TI)} (T : List (Nat × List Nat)) {Q : Exit → AS → Prop} {s : AS} {id : Nat} {l : List Oper} {y : Code} (hG : GOK P G) (p n : Nat) (hm : P.follows .mixedOrders = true) (hB : tailB l.toArray p n = true) (h : ∀ K : AS → Prop, (∀ s', PW P y Q (forget T id s') → K s') → quietL P G l.toArray (l.take n) (execL P G l.toArray (l.drop n) K) s) : PW P (.seq (.region id l.toArray true) y) Q s :=
  pw_seq_tail hG p n hm hB fun K hK => h K fun s' h' => hK s' (pw_forget T id h')
@[congr] theorem PW_congr {P : Program} {c : Code} {Q : Exit → AS → Prop} {s s' : AS} (h : s = s') : PW P c Q s = PW P c Q s' := by subst h; rfl
attribute [go_sem] forget tlook
@[go_sem] def kl2 : List (Nat × List Nat) := [(0, [0])]
@[go_sem] def kl3 : List (Nat × List Nat) := [(2, [11, 12, 13]), (3, [14]), (5, [16, 17, 18, 19, 20, 21, 22]), (6, [23, 24]), (7, [25, 26, 27, 28, 29, 30]), (8, [31, 32, 33, 34, 35, 36, 37]), (10, [39, 40, 41, 42])]
@[go_sem] def kl4 : List (Nat × List Nat) := [(2, [18, 19, 20]), (3, [21]), (5, [23, 24, 25, 26, 27, 28, 29, 30]), (6, [31, 32]), (7, [33, 34, 35, 36, 37, 38, 39]), (8, [40, 41, 42, 43, 44, 45, 46, 47]), (10, [49, 50, 51, 52]), (13, [54, 55, 56]), (14, [57, 58, 59, 60, 61, 62, 63, 64, 65, 66, 67, 68]), (17, [70, 71, 72]), (19, [73, 74, 75]), (20, [76]), (22, [78, 79]), (24, [81, 82, 83, 84, 85, 86, 87, 88]), (25, [89, 90, 91, 92, 93, 94, 95, 96]), (28, [98, 99, 100]), (29, [101]), (31, [103, 104])]
@[go_sem] def kl5 : List (Nat × List Nat) := [(1, [18, 19]), (3, [21, 22]), (5, [24, 25, 26, 27, 28, 29, 30, 31, 32]), (6, [33, 34]), (7, [35, 36]), (8, [37, 38, 39, 40, 41, 42, 43]), (9, [44, 45, 46, 47, 48, 49, 50, 51]), (11, [53, 54, 55, 56]), (13, [58, 59, 60, 61]), (16, [63, 64, 65]), (17, [66, 67, 68]), (18, [69, 70, 71, 72, 73, 74, 75, 76, 77, 78, 79, 80]), (21, [82, 83, 84]), (23, [85, 86, 87]), (24, [88]), (26, [90, 91]), (28, [93, 94, 95, 96, 97, 98, 99, 100, 101]), (29, [102, 103, 104, 105, 106, 107, 108, 109]), (32, [111, 112, 113]), (33, [114]), (35, [116, 117])]
@[go_sem] def kl6 : List (Nat × List Nat) := [(2, [7, 8, 9]), (3, [10]), (5, [12, 13, 14]), (6, [15, 16]), (7, [17, 18]), (8, [19, 20]), (10, [22, 23, 24, 25])]
@[go_sem] def kl7 : List (Nat × List Nat) := [(2, [16, 17, 18]), (3, [19]), (5, [21, 22, 23, 24, 25, 26, 27]), (6, [28, 29]), (7, [30, 31, 32, 33, 34, 35]), (8, [36, 37, 38, 39, 40, 41, 42, 43]), (10, [45, 46, 47, 48]), (13, [50, 51, 52]), (14, [53, 54, 55, 56, 57, 58, 59, 60, 61, 62, 63, 64]), (17, [66, 67, 68]), (19, [69, 70, 71]), (20, [72]), (22, [74, 75]), (24, [77, 78, 79, 80, 81, 82, 83]), (25, [84, 85, 86, 87, 88, 89, 90, 91]), (28, [93, 94, 95]), (29, [96]), (31, [98, 99])]
@[go_sem] def kl8 : List (Nat × List Nat) := [(1, [19, 20]), (3, [22, 23]), (5, [25, 26, 27, 28, 29, 30, 31, 32, 33]), (6, [34, 35]), (7, [36, 37]), (8, [38, 39, 40, 41, 42, 43, 44]), (9, [45, 46, 47, 48, 49, 50, 51, 52, 53, 54, 55, 56, 57, 58]), (11, [60, 61, 62, 63]), (13, [65, 66, 67, 68]), (16, [70, 71, 72]), (17, [73, 74, 75]), (18, [76, 77, 78, 79, 80, 81, 82, 83, 84, 85, 86, 87, 88, 89, 90, 91, 92, 93]), (21, [95, 96, 97]), (22, [98, 99, 100]), (24, [101, 102, 103]), (25, [104]), (27, [106, 107, 108]), (28, [109]), (30, [111, 112]), (32, [114, 115, 116, 117, 118, 119, 120, 121, 122]), (33, [123, 124, 125, 126, 127, 128, 129, 130, 131, 132, 133, 134, 135, 136]), (36, [138, 139, 140]), (37, [141]), (39, [143, 144, 145]), (40, [146]), (42, [148, 149])]
@[go_sem] def kl9 : List (Nat × List Nat) := [(1, [17, 18]), (4, [20, 21, 22]), (5, [23]), (7, [25, 26, 27, 28, 29, 30, 31, 32]), (8, [33, 34]), (9, [35, 36]), (10, [37, 38, 39, 40, 41, 42]), (11, [43, 44, 45, 46, 47, 48, 49, 50]), (13, [52, 53, 54, 55]), (15, [57, 58, 59, 60]), (18, [62, 63, 64]), (19, [65, 66, 67]), (20, [68, 69, 70, 71, 72, 73, 74, 75, 76, 77, 78, 79]), (23, [81, 82, 83]), (25, [84, 85, 86]), (26, [87]), (28, [89, 90]), (30, [92, 93, 94, 95, 96, 97, 98, 99]), (31, [100, 101, 102, 103, 104, 105, 106, 107]), (34, [109, 110, 111]), (35, [112]), (37, [114, 115])]
@[go_sem] def kl10 : List (Nat × List Nat) := [(1, [19, 20]), (4, [22, 23, 24]), (5, [25]), (7, [27, 28, 29, 30, 31, 32, 33, 34, 35]), (8, [36, 37]), (9, [38, 39]), (10, [40, 41, 42, 43, 44, 45, 46]), (11, [47, 48, 49, 50, 51, 52, 53, 54]), (13, [56, 57, 58, 59]), (15, [61, 62, 63, 64]), (18, [66, 67, 68]), (19, [69, 70, 71]), (20, [72, 73, 74, 75, 76, 77, 78, 79, 80, 81, 82, 83]), (23, [85, 86, 87]), (25, [88, 89, 90]), (26, [91]), (28, [93, 94]), (30, [96, 97, 98, 99, 100, 101, 102, 103, 104]), (31, [105, 106, 107, 108, 109, 110, 111, 112]), (34, [114, 115, 116]), (35, [117]), (37, [119, 120])]
@[go_sem] def kl11 : List (Nat × List Nat) := [(1, [19, 20]), (4, [22, 23, 24]), (5, [25]), (7, [27, 28, 29, 30, 31, 32, 33, 34, 35]), (8, [36, 37]), (9, [38, 39]), (10, [40, 41, 42, 43, 44, 45, 46]), (11, [47, 48, 49, 50, 51, 52, 53, 54]), (13, [56, 57, 58, 59]), (15, [61, 62, 63, 64]), (18, [66, 67, 68]), (19, [69, 70, 71]), (20, [72, 73, 74, 75, 76, 77, 78, 79, 80, 81, 82, 83]), (23, [85, 86, 87]), (25, [88, 89, 90]), (26, [91]), (28, [93, 94]), (30, [96, 97, 98, 99, 100, 101, 102, 103, 104]), (31, [105, 106, 107, 108, 109, 110, 111, 112]), (34, [114, 115, 116]), (35, [117]), (37, [119, 120])]
@[go_sem] def kl12 : List (Nat × List Nat) := [(1, [21, 22]), (4, [24, 25, 26]), (5, [27]), (7, [29, 30, 31, 32, 33, 34, 35, 36, 37, 38]), (8, [39, 40]), (9, [41, 42]), (10, [43, 44, 45, 46, 47, 48, 49, 50]), (11, [51, 52, 53, 54, 55, 56, 57, 58]), (13, [60, 61, 62, 63]), (15, [65, 66, 67, 68]), (18, [70, 71, 72]), (19, [73, 74, 75]), (20, [76, 77, 78, 79, 80, 81, 82, 83, 84, 85, 86, 87]), (23, [89, 90, 91]), (25, [92, 93, 94]), (26, [95]), (28, [97, 98]), (30, [100, 101, 102, 103, 104, 105, 106, 107, 108, 109]), (31, [110, 111, 112, 113, 114, 115, 116, 117]), (34, [119, 120, 121]), (35, [122]), (37, [124, 125])]
@[go_sem] def kl13 : List (Nat × List Nat) := [(1, [5, 6, 7, 8]), (2, [9]), (4, [11])]
@[go_sem] def kl14 : List (Nat × List Nat) := [(1, [9, 10, 11, 12, 13, 14, 15]), (6, [21, 22]), (7, [23, 24]), (8, [26, 27, 28]), (9, [29]), (10, [30])]
@[go_sem] def kl15 : List (Nat × List Nat) := [(1, [5, 6, 7]), (3, [8, 9, 10]), (4, [12, 13]), (5, [14, 15, 16, 17, 18, 19, 20, 21]), (6, [22])]
@[go_sem] def kl16 : List (Nat × List Nat) := [(1, [9, 10, 11, 12, 13, 14, 15]), (6, [21, 22]), (7, [23, 24]), (8, [26, 27]), (9, [28]), (10, [29, 30, 31])]
@[go_sem] def kl17 : List (Nat × List Nat) := [(1, [6, 7, 8, 9]), (4, [11, 12, 13]), (5, [15, 16]), (6, [17, 18, 19, 20, 21, 22, 23, 24, 25])]
@[go_sem] def kl18 : List (Nat × List Nat) := [(1, [11, 12, 13, 14, 15, 16, 17, 18, 19, 20, 21, 22]), (6, [28, 29, 30]), (7, [31, 32, 33, 34, 35]), (8, [37, 38, 39, 40]), (9, [41]), (10, [42])]
@[go_sem] def kl19 : List (Nat × List Nat) := [(1, [8, 9, 10, 11, 12, 13, 14, 15, 16, 17, 18, 19]), (3, [21, 22, 23, 24])]
@[go_sem] def kl20 : List (Nat × List Nat) := [(1, [6, 7, 8, 9]), (4, [11, 12, 13]), (5, [15, 16]), (6, [17, 18, 19, 20, 21, 22, 23, 24])]
@[go_sem] def kl21 : List (Nat × List Nat) := [(2, [6, 7, 8]), (3, [10, 11]), (4, [12, 13, 14, 15, 16]), (5, [17, 18]), (6, [19, 20, 21, 22, 23]), (7, [24, 25]), (8, [26, 27, 28, 29, 30]), (9, [31, 32]), (10, [33, 34, 35, 36, 37]), (11, [38, 39]), (12, [40, 41, 42, 43, 44, 45, 46]), (13, [47, 48]), (14, [49])]
@[go_sem] def kl22 : List (Nat × List Nat) := [(2, [6, 7, 8]), (3, [10, 11]), (4, [12, 13, 14, 15]), (5, [16, 17]), (6, [18])]
@[go_sem] def kl23 : List (Nat × List Nat) := [(2, [6, 7, 8]), (3, [10, 11]), (4, [12, 13, 14, 15, 16]), (6, [18, 19]), (7, [20])]
@[go_sem] def kl24 : List (Nat × List Nat) := [(1, [11, 12, 13, 14, 15, 16, 17, 18, 19, 20, 21, 22]), (6, [28, 29]), (7, [30, 31, 32, 33, 34, 35, 36, 37, 38]), (8, [40, 41, 42, 43]), (9, [44]), (10, [45, 46, 47]), (12, [49])]
@[go_sem] def kl25 : List (Nat × List Nat) := [(1, [5, 6, 7]), (3, [8, 9, 10]), (4, [12, 13]), (5, [14, 15, 16, 17, 18, 19, 20]), (6, [21])]
@[go_sem] def kl26 : List (Nat × List Nat) := [(1, [9, 10, 11, 12, 13, 14, 15, 16, 17, 18, 19, 20]), (3, [22, 23, 24]), (4, [25, 26, 27]), (6, [29, 30, 31, 32])]
@[go_sem] def kl27 : List (Nat × List Nat) := [(1, [5, 6, 7, 8]), (2, [9]), (4, [11])]
@[go_sem] def kl28 : List (Nat × List Nat) := [(1, [3, 4])]
@[go_sem] def kl29 : List (Nat × List Nat) := [(1, [5, 6, 7]), (3, [8, 9, 10]), (4, [12, 13]), (5, [14, 15, 16, 17, 18, 19, 20, 21]), (6, [22])]
@[go_sem] def kl30 : List (Nat × List Nat) := [(3, [9, 10, 11]), (4, [12, 13, 14, 15, 16, 17, 18, 19, 20, 21, 22, 23, 24, 25, 26, 27, 28, 29, 30, 31, 32, 33, 34]), (6, [36, 37]), (7, [39, 40, 41, 42, 43, 44, 45, 46, 47, 48, 49, 50, 51, 52, 53]), (9, [55]), (10, [56, 57, 58])]
@[go_sem] def kl31 : List (Nat × List Nat) := [(1, [6, 7, 8, 9]), (4, [11, 12, 13]), (5, [15, 16]), (6, [17, 18, 19, 20, 21, 22, 23, 24, 25])]
@[go_sem] def kl32 : List (Nat × List Nat) := [(1, [9, 10]), (6, [16, 17]), (7, [18, 19, 20]), (8, [22, 23, 24, 25]), (9, [26]), (10, [27, 28, 29, 30]), (12, [32])]
@[go_sem] def kl33 : List (Nat × List Nat) := [(1, [9, 10, 11, 12, 13, 14, 15, 16]), (3, [18]), (6, [23, 24]), (7, [25, 26, 27]), (8, [29, 30, 31, 32]), (9, [33]), (10, [34])]
@[go_sem] def kl34 : List (Nat × List Nat) := [(2, [6, 7, 8]), (3, [10, 11]), (4, [12, 13, 14, 15, 16]), (5, [17, 18]), (6, [19, 20, 21, 22, 23]), (7, [24, 25]), (8, [26, 27, 28, 29, 30]), (9, [31, 32]), (10, [33])]
@[go_sem] def kl35 : List (Nat × List Nat) := [(2, [6, 7, 8]), (3, [10, 11]), (4, [12, 13, 14, 15, 16, 17]), (6, [19, 20]), (7, [21, 22, 23, 24, 25, 26]), (9, [28, 29]), (10, [30, 31, 32, 33, 34, 35]), (12, [37, 38]), (13, [39])]
@[go_sem] def kl36 : List (Nat × List Nat) := [(1, [7, 8, 9, 10, 11, 12, 13]), (3, [15, 16, 17, 18, 19, 20])]
@[go_sem] def kl37 : List (Nat × List Nat) := [(1, [7, 8, 9, 10, 11, 12, 13]), (3, [15, 16, 17, 18, 19, 20])]
@[go_sem] def kl38 : List (Nat × List Nat) := [(1, [5, 6, 7, 8]), (2, [9]), (4, [11])]
@[go_sem] def kl39 : List (Nat × List Nat) := [(1, [10, 11, 12, 13, 14, 15, 16]), (3, [18]), (7, [23, 24]), (8, [25, 26, 27]), (9, [29, 30, 31, 32, 33, 34, 35, 36]), (10, [37, 38]), (11, [39]), (12, [40, 41, 42]), (14, [44])]
@[go_sem] def kl40 : List (Nat × List Nat) := [(1, [5, 6, 7]), (3, [8, 9, 10]), (4, [12, 13]), (5, [14, 15, 16, 17, 18, 19, 20, 21]), (6, [22])]
@[go_sem] def kl41 : List (Nat × List Nat) := [(1, [10, 11, 12, 13, 14, 15, 16]), (3, [18]), (6, [23, 24]), (7, [25, 26, 27]), (8, [28]), (10, [30, 31, 32, 33, 34, 35, 36, 37, 38, 39, 40]), (11, [41]), (12, [42])]
@[go_sem] def kl42 : List (Nat × List Nat) := [(1, [6, 7, 8, 9]), (4, [11, 12, 13]), (5, [15, 16]), (6, [17, 18, 19, 20, 21, 22, 23, 24, 25])]
@[go_sem] def kl43 : List (Nat × List Nat) := [(2, [6, 7, 8]), (3, [10, 11]), (4, [12, 13, 14, 15, 16]), (5, [17, 18]), (6, [19, 20, 21, 22, 23]), (7, [24, 25]), (8, [26])]
@[go_sem] def kl44 : List (Nat × List Nat) := [(1, [11, 12, 13, 14]), (5, [20, 21]), (6, [22, 23, 24, 25]), (7, [26, 27, 28, 29, 30, 31, 32, 33, 34, 35]), (9, [37]), (10, [38, 39, 40, 41])]
@[go_sem] def kl45 : List (Nat × List Nat) := [(1, [15, 16, 17, 18]), (5, [24, 25]), (6, [26, 27, 28, 29, 30, 31, 32, 33, 34, 35, 36, 37, 38, 39]), (8, [41]), (9, [42]), (12, [47, 48]), (13, [49, 50, 51, 52, 53, 54, 55]), (14, [57, 58]), (15, [59, 60, 61, 62]), (16, [64, 65, 66]), (17, [67, 68, 69, 70, 71]), (18, [72]), (19, [73])]
@[go_sem] def kl46 : List (Nat × List Nat) := [(1, [8, 9, 10, 11]), (3, [13, 14, 15, 16])]
@[go_sem] def kl47 : List (Nat × List Nat) := [(1, [8, 9, 10, 11]), (3, [13, 14, 15, 16])]
@[go_sem] def kl48 : List (Nat × List Nat) := [(1, [15, 16, 17, 18, 19, 20, 21, 22, 23]), (3, [25, 26, 27, 28]), (6, [29, 30, 31]), (7, [33, 34, 35]), (9, [36]), (10, [37, 38, 39, 40, 41, 42, 43]), (11, [45, 46]), (12, [47, 48, 49, 50]), (13, [52, 53]), (14, [54]), (15, [56, 57, 58, 59]), (16, [60])]
@[go_sem] def kl49 : List (Nat × List Nat) := [(1, [15, 16, 17, 18, 19, 20, 21, 22, 23]), (3, [25, 26, 27, 28, 29]), (5, [30, 31, 32]), (6, [34, 35, 36]), (8, [37]), (9, [38, 39, 40, 41, 42, 43, 44]), (10, [46, 47]), (11, [48, 49, 50, 51]), (12, [53, 54]), (13, [55]), (14, [57, 58, 59, 60]), (15, [61])]
@[go_sem] def kl50 : List (Nat × List Nat) := [(1, [7, 8, 9, 10, 11, 12, 13, 14])]
@[go_sem] def kl51 : List (Nat × List Nat) := [(2, [4, 5, 6]), (3, [7, 8, 9]), (4, [10, 11, 12]), (5, [13, 14, 15]), (6, [16, 17, 18]), (7, [19])]
@[go_sem] def kl52 : List (Nat × List Nat) := [(1, [7, 8, 9, 10, 11, 12, 13, 14])]
@[go_sem] def kl53 : List (Nat × List Nat) := [(1, [5, 6, 7, 8]), (3, [10, 11, 12, 13]), (5, [15, 16, 17, 18]), (7, [20, 21, 22, 23]), (9, [25, 26, 27, 28])]
@[go_sem] def kl54 : List (Nat × List Nat) := [(1, [3, 4])]
@[go_sem] def kl55 : List (Nat × List Nat) := [(1, [7]), (4, [11]), (5, [12, 13]), (6, [15, 16, 17, 18]), (7, [19]), (8, [20])]
@[go_sem] def kl56 : List (Nat × List Nat) := [(1, [6, 7, 8, 9, 10, 11, 12, 13, 14])]
@[go_sem] def kl57 : List (Nat × List Nat) := [(3, [9, 10, 11]), (4, [12, 13, 14, 15, 16, 17, 18, 19, 20]), (6, [22]), (7, [23, 24, 25])]
@[go_sem] def kl58 : List (Nat × List Nat) := [(3, [11, 12]), (4, [13, 14]), (6, [16])]
@[go_sem] def kl59 : List (Nat × List Nat) := [(3, [9, 10, 11]), (4, [12, 13, 14, 15, 16, 17, 18, 19, 20]), (6, [22]), (7, [23, 24, 25])]
@[go_sem] def kl60 : List (Nat × List Nat) := [(1, [8]), (4, [13, 14]), (5, [15, 16, 17]), (6, [19, 20, 21, 22]), (7, [23]), (8, [24])]
@[go_sem] def kl61 : List (Nat × List Nat) := [(1, [3, 4, 5])]
@[go_sem] def kl62 : List (Nat × List Nat) := [(4, [13, 14]), (5, [15, 16, 17, 18, 19, 20, 21, 22, 23, 24, 25, 26, 27, 28, 29, 30, 31, 32, 33, 34, 35]), (7, [37, 38, 39, 40, 41, 42, 43, 44, 45, 46, 47, 48, 49]), (9, [51, 52, 53, 54, 55]), (10, [56, 57]), (11, [59, 60, 61, 62, 63]), (12, [64]), (15, [69, 70]), (16, [71, 72]), (18, [74]), (19, [75, 76, 77])]
@[go_sem] def kl63 : List (Nat × List Nat) := [(2, [4, 5, 6]), (3, [7, 8, 9]), (4, [10, 11, 12]), (5, [13])]
@[go_sem] def kl64 : List (Nat × List Nat) := [(1, [3, 4])]
@[go_sem] def kl65 : List (Nat × List Nat) := [(1, [3, 4])]
@[go_sem] def kl66 : List (Nat × List Nat) := [(1, [5, 6, 7])]
@[go_sem] def kl67 : List (Nat × List Nat) := [(1, [5, 6, 7, 8])]
@[go_sem] def kl68 : List (Nat × List Nat) := [(1, [4, 5, 6, 7, 8])]
@[go_sem] def kl69 : List (Nat × List Nat) := [(1, [5, 6, 7, 8]), (3, [10, 11, 12, 13]), (5, [15, 16, 17, 18])]
@[go_sem] def kl70 : List (Nat × List Nat) := [(3, [9, 10, 11]), (4, [12, 13, 14, 15, 16, 17, 18, 19, 20]), (6, [22]), (7, [23, 24, 25])]
@[go_sem] def kl71 : List (Nat × List Nat) := [(4, [12, 13]), (5, [14, 15, 16]), (6, [18, 19, 20, 21]), (7, [22]), (8, [23])]
@[go_sem] def kl72 : List (Nat × List Nat) := [(4, [10, 11]), (5, [12, 13, 14]), (7, [16, 17, 18, 19, 20]), (8, [21]), (9, [22, 23])]
@[go_sem] def kl73 : List (Nat × List Nat) := [(2, [4, 5, 6]), (3, [7, 8, 9]), (4, [10])]
@[go_sem] def kl74 : List (Nat × List Nat) := [(3, [11, 12, 13]), (4, [14, 15, 16, 17, 18, 19, 20, 21, 22]), (6, [24, 25]), (8, [30, 31]), (9, [32, 33, 34, 35]), (11, [37]), (12, [38]), (13, [39, 40, 41])]
@[go_sem] def kl75 : List (Nat × List Nat) := [(1, [6]), (3, [10]), (4, [11, 12, 13, 14, 15]), (5, [17]), (6, [18])]
@[go_sem] def kl76 : List (Nat × List Nat) := [(1, [4, 5, 6, 7])]
@[go_sem] def kl77 : List (Nat × List Nat) := [(1, [5, 6, 7, 8]), (3, [10, 11, 12, 13])]
@[go_sem] def kl78 : List (Nat × List Nat) := [(1, [7, 8, 9, 10, 11, 12, 13, 14, 15, 16])]
@[go_sem] def kl79 : List (Nat × List Nat) := [(3, [13, 14, 15]), (4, [16, 17, 18, 19, 20, 21, 22, 23, 24]), (5, [26]), (6, [27])]
@[go_sem] def kl80 : List (Nat × List Nat) := [(4, [15, 16]), (5, [17, 18, 19, 20]), (6, [21]), (7, [23, 24, 25, 26]), (8, [27, 28, 29, 30, 31]), (9, [33, 34, 35, 36, 37, 38, 39, 40]), (10, [41]), (11, [42])]
@[go_sem] def kl81 : List (Nat × List Nat) := [(1, [7, 8, 9, 10, 11, 12, 13, 14, 15, 16])]
@[go_sem] def kl82 : List (Nat × List Nat) := [(1, [5, 6, 7, 8])]
@[go_sem] def kl83 : List (Nat × List Nat) := [(3, [14, 15]), (4, [16, 17, 18, 19, 20, 21, 22, 23, 24]), (5, [26]), (6, [27]), (7, [28])]
@[go_sem] def kl84 : List (Nat × List Nat) := [(4, [15, 16, 17]), (5, [18, 19, 20, 21]), (6, [22, 23, 24, 25, 26, 27, 28, 29, 30]), (7, [32, 33, 34, 35, 36]), (8, [37]), (9, [38])]
@[go_sem] def kl85 : List (Nat × List Nat) := [(1, [12]), (4, [17, 18, 19]), (5, [20, 21, 22, 23, 24, 25, 26]), (6, [27, 28, 29, 30, 31]), (7, [33, 34, 35, 36, 37]), (8, [38]), (9, [39])]
@[go_sem] def kl86 : List (Nat × List Nat) := [(1, [3, 4])]
@[go_sem] def kl87 : List (Nat × List Nat) := [(1, [5, 6]), (2, [8]), (3, [9])]
@[go_sem] def kl88 : List (Nat × List Nat) := [(1, [3, 4])]
@[go_sem] def kl89 : List (Nat × List Nat) := [(1, [4, 5, 6, 7])]
@[go_sem] def kl90 : List (Nat × List Nat) := [(1, [6]), (3, [10]), (4, [11, 12, 13, 14, 15]), (5, [17]), (6, [18])]
@[go_sem] def kl91 : List (Nat × List Nat) := [(1, [3, 4])]
@[go_sem] def kl92 : List (Nat × List Nat) := [(1, [6]), (3, [10]), (4, [11, 12, 13, 14, 15]), (5, [17]), (6, [18])]
theorem pw_loop_over {P : Program} {Q : Exit → AS → Prop} {s : AS} {α : Type} {c : Code} (dead : List Nat) (L : α → List (Nat × PV)) (hp : α → List (Nat × Blk)) (nx : Nat) (J : α → Prop) (μ : α → Nat) (x0 : α) (h0 : J x0) (hf : Fits s ⟨over (wipe s.fr dead) (L x0), hp x0, nx⟩)
    (round : ∀ x, J x → PW P c (thenA (fun s' => ∃ x', J x' ∧ μ x' < μ x ∧ Fits s' ⟨over (wipe s.fr dead) (L x'), hp x', nx⟩) Q) ⟨over (wipe s.fr dead) (L x), hp x, nx⟩) : PW P (.loop c) Q s :=
  pw_loop (fun x => ⟨over (wipe s.fr dead) (L x), hp x, nx⟩) J μ x0 h0 hf round

/-- the truth of a proposition, as a bool -/
noncomputable def bP (p : Prop) : Bool := @decide p (Classical.propDecidable p)
theorem bP_true {p : Prop} (h : p) : bP p = true := by unfold bP; exact @decide_eq_true _ (Classical.propDecidable p) h
theorem bP_false {p : Prop} (h : ¬ p) : bP p = false := by unfold bP; exact @decide_eq_false _ (Classical.propDecidable p) h
theorem bP_iff {p : Prop} : bP p = true ↔ p := by unfold bP; exact @decide_eq_true_iff p (Classical.propDecidable p)
end Go.Proofs.Ytjcheccngombkaa
