/-
  The table of the program's types, for the abstract machine.
-/
import Derived.Test.YtldcnlhfanbdfaaProg
import Derived.Test.YtldcnlhfanbdfaaM11
namespace Go.Proofs.Ytldcnlhfanbdfaa
open Go.RowKit
def G : List (Nat × TI) := [(2, .num .i64), (3, .num .i64), (4, .bol), (5, .num .u8), (6, .num .u8), (7, .st 4 [(0, 1), (1, 1), (2, 1), (3, 1)] [.int .i64 0, .int .i64 0, .bool false, .int .u8 0]), (8, .st 4 [(0, 1), (1, 1), (2, 1), (3, 1)] [.int .i64 0, .int .i64 0, .bool false, .int .u8 0]), (9, .str), (10, .str), (11, .str), (12, .num .u64), (13, .st 2 [(0, 1), (1, 1)] [.str ⟨#[]⟩, .int .u64 0]), (14, .st 2 [(0, 1), (1, 1)] [.str ⟨#[]⟩, .int .u64 0]), (21, .num .i32), (22, .slc 5 1 1 [.int .u8 0]), (23, .slc 48 2 16 [.int .i64 0, .int .i64 0]), (25, .slc 3 1 8 [.int .i64 0]), (28, .slc 23 1 24 [.lst 2 []]), (47, .st 2 [(0, 1), (1, 1)] [.int .i64 0, .int .i64 0]), (48, .st 2 [(0, 1), (1, 1)] [.int .i64 0, .int .i64 0]), (53, .num .u64), (54, .st 3 [(0, 1), (1, 1), (2, 1)] [.lst 1 [], .int .i64 0, .int .u64 0]), (55, .st 3 [(0, 1), (1, 1), (2, 1)] [.lst 1 [], .int .i64 0, .int .u64 0]), (70, .num .u64), (72, .num .i64), (80, .num .u32), (82, .num .u64), (97, .num .u8), (98, .num .u8), (101, .num .i32), (102, .num .i32)]
theorem G_ok : GOK Try.prog G := GOK.of_all (by kernel_rfl)
@[go_sem] theorem G2 : tget G 2 = some (.num .i64) := rfl
@[go_sem] theorem G3 : tget G 3 = some (.num .i64) := rfl
@[go_sem] theorem G4 : tget G 4 = some (.bol) := rfl
@[go_sem] theorem G5 : tget G 5 = some (.num .u8) := rfl
@[go_sem] theorem G6 : tget G 6 = some (.num .u8) := rfl
@[go_sem] theorem G7 : tget G 7 = some (.st 4 [(0, 1), (1, 1), (2, 1), (3, 1)] [.int .i64 0, .int .i64 0, .bool false, .int .u8 0]) := rfl
@[go_sem] theorem G8 : tget G 8 = some (.st 4 [(0, 1), (1, 1), (2, 1), (3, 1)] [.int .i64 0, .int .i64 0, .bool false, .int .u8 0]) := rfl
@[go_sem] theorem G9 : tget G 9 = some (.str) := rfl
@[go_sem] theorem G10 : tget G 10 = some (.str) := rfl
@[go_sem] theorem G11 : tget G 11 = some (.str) := rfl
@[go_sem] theorem G12 : tget G 12 = some (.num .u64) := rfl
@[go_sem] theorem G13 : tget G 13 = some (.st 2 [(0, 1), (1, 1)] [.str ⟨#[]⟩, .int .u64 0]) := rfl
@[go_sem] theorem G14 : tget G 14 = some (.st 2 [(0, 1), (1, 1)] [.str ⟨#[]⟩, .int .u64 0]) := rfl
@[go_sem] theorem G21 : tget G 21 = some (.num .i32) := rfl
@[go_sem] theorem G22 : tget G 22 = some (.slc 5 1 1 [.int .u8 0]) := rfl
@[go_sem] theorem G23 : tget G 23 = some (.slc 48 2 16 [.int .i64 0, .int .i64 0]) := rfl
@[go_sem] theorem G25 : tget G 25 = some (.slc 3 1 8 [.int .i64 0]) := rfl
@[go_sem] theorem G28 : tget G 28 = some (.slc 23 1 24 [.lst 2 []]) := rfl
@[go_sem] theorem G47 : tget G 47 = some (.st 2 [(0, 1), (1, 1)] [.int .i64 0, .int .i64 0]) := rfl
@[go_sem] theorem G48 : tget G 48 = some (.st 2 [(0, 1), (1, 1)] [.int .i64 0, .int .i64 0]) := rfl
@[go_sem] theorem G53 : tget G 53 = some (.num .u64) := rfl
@[go_sem] theorem G54 : tget G 54 = some (.st 3 [(0, 1), (1, 1), (2, 1)] [.lst 1 [], .int .i64 0, .int .u64 0]) := rfl
@[go_sem] theorem G55 : tget G 55 = some (.st 3 [(0, 1), (1, 1), (2, 1)] [.lst 1 [], .int .i64 0, .int .u64 0]) := rfl
@[go_sem] theorem G70 : tget G 70 = some (.num .u64) := rfl
@[go_sem] theorem G72 : tget G 72 = some (.num .i64) := rfl
@[go_sem] theorem G80 : tget G 80 = some (.num .u32) := rfl
@[go_sem] theorem G82 : tget G 82 = some (.num .u64) := rfl
@[go_sem] theorem G97 : tget G 97 = some (.num .u8) := rfl
@[go_sem] theorem G98 : tget G 98 = some (.num .u8) := rfl
@[go_sem] theorem G101 : tget G 101 = some (.num .i32) := rfl
@[go_sem] theorem G102 : tget G 102 = some (.num .i32) := rfl
theorem mixed : Try.prog.follows .mixedOrders = true := by kernel_rfl

theorem retQ_ret {G : List (Nat × TI)} {fn : Func} {Post : List RV → Prop} {s : AS} {xs : List PV} {rs : List RV} (h1 : retPVs G s fn.results.toList = some xs) (h2 : retL s.hp xs = some rs) (h3 : (rowsOf xs).Nodup) (h4 : Post rs) : retQ G fn Post .ret s := ⟨xs, rs, h1, h2, h3, h4⟩
theorem retQ_normal {G : List (Nat × TI)} {fn : Func} {Post : List RV → Prop} {s : AS} {xs : List PV} {rs : List RV} (h1 : retPVs G s fn.results.toList = some xs) (h2 : retL s.hp xs = some rs) (h3 : (rowsOf xs).Nodup) (h4 : Post rs) : retQ G fn Post .normal s := ⟨xs, rs, h1, h2, h3, h4⟩

/-- slots given anew -/
def over : Fr → List (Nat × PV) → Fr
  | f, [] => f
  | f, (t, x) :: r => over ⟨f.n, ins f.l t x⟩ r
/-- slots forgotten behind a region: a table -/
def tlook : List (Nat × List Nat) → Nat → List Nat
  | [], _ => []
  | (k, ts) :: r, i => if i = k then ts else tlook r i
def forget (T : List (Nat × List Nat)) (id : Nat) (s : AS) : AS := ⟨wipe s.fr (tlook T id), s.hp, s.nx⟩
theorem pw_forget {P : Program} {c : Code} {Q : Exit → AS → Prop} {s : AS} (T : List (Nat × List Nat)) (id : Nat) (h : PW P c Q (forget T id s)) : PW P c Q s := fun X0 w0 m a w hs => h X0 w0 m a w (hs.wipe _)
theorem pw_seq_ops {P : Program} {G : List (Nat × TI)} (hG : GOK P G) {Q : Exit → AS → Prop} {s : AS} {id : Nat} {l : List Oper} {y : Code} (h : ∀ K : AS → Prop, (∀ s', PW P y Q s' → K s') → execL P G l.toArray l K s) : PW P (.seq (.region id l.toArray false) y) Q s :=
  pw_seq_k fun _ hK => pw_ops hG fun K' hK' => h K' fun s' h' => hK' s' (hK s' h')
theorem pw_seq_opsK {P : Program} {G : List (Nat × TI)} (T : List (Nat × List Nat)) (hG : GOK P G) {Q : Exit → AS → Prop} {s : AS} {id : Nat} {l : List Oper} {y : Code} (h : ∀ K : AS → Prop, (∀ s', PW P y Q (forget T id s') → K s') → execL P G l.toArray l K s) : PW P (.seq (.region id l.toArray false) y) Q s :=
  pw_seq_ops hG fun K hK => h K fun s' h' => hK s' (pw_forget T id h')
theorem pw_seq_drawK {P : Program} {G : List (Nat × TI)} (T : List (Nat × List Nat)) {Q : Exit → AS → Prop} {s : AS} {id : Nat} {l : List Oper} {y : Code} (hG : GOK P G) (hm : P.follows .mixedOrders = true) (hB : Region.lexB .any l.toArray = true) (h : ∀ K : AS → Prop, (∀ s', PW P y Q (forget T id s') → K s') → quietL P G l.toArray l K s) : PW P (.seq (.region id l.toArray true) y) Q s :=
  pw_seq_draw hG hm hB fun K hK => h K fun s' h' => hK s' (pw_forget T id h')
theorem pw_seq_tailK {P : Program} {G : List (Nat × TI)} (T : List (Nat × List Nat)) {Q : Exit → AS → Prop} {s : AS} {id : Nat} {l : List Oper} {y : Code} (hG : GOK P G) (p n : Nat) (hm : P.follows .mixedOrders = true) (hB : tailB l.toArray p n = true) (h : ∀ K : AS → Prop, (∀ s', PW P y Q (forget T id s') → K s') → quietL P G l.toArray (l.take n) (execL P G l.toArray (l.drop n) K) s) : PW P (.seq (.region id l.toArray true) y) Q s :=
  pw_seq_tail hG p n hm hB fun K hK => h K fun s' h' => hK s' (pw_forget T id h')
/-- a region in any order: from s, with these operations done, it leads into K -/
def AnyP (P : Program) (ops : Array Oper) (K : AS → Prop) (fuel : Nat) (listed : Array Bool) (s : AS) : Prop :=
  ∀ (X0 : Nat → Prop) (w0 : Base) (m : Mp) (a : Act) (w : World) (Q' : Exit → Act → World → Prop), (∀ m' s' a' w', K s' → Sim X0 w0 m' s' a' w' → Q' .normal a' w') → Sim X0 w0 m s a w → wpAny P .any ops Q' fuel listed a w
theorem any_done {P : Program} {ops : Array Oper} {K : AS → Prop} {fuel : Nat} {listed : Array Bool} {s : AS} (hR : Region.ready .any ops listed = []) (h : K s) : AnyP P ops K fuel listed s := by
  intro X0 w0 m a w Q' hQ hs
  cases fuel with
  | zero => exact ⟨hR, hQ m s a w h hs⟩
  | succ n => exact ⟨fun _ => hQ m s a w h hs, fun i hi => by rw [hR] at hi; cases hi⟩
theorem any_op {P : Program} {ops : Array Oper} {K : AS → Prop} {o : Oper} {i : Nat} {s : AS} {X0 : Nat → Prop} {w0 : Base} {m : Mp} {a : Act} {w : World} {Q' : Exit → Act → World → Prop} {A : Act → World → Prop} (ho : ops[i]? = some o) (h : PL P ops [o] K s) (hs : Sim X0 w0 m s a w)
    (hK : ∀ m' s' a' w', K s' → Sim X0 w0 m' s' a' w' → A a' w') : wpOp P ops Q' i A a w := by
  have step : ∀ s, Sim X0 w0 m s a w → PO P o s K → o.wp P a w A Q' := by
    intro s hs h1
    exact Oper.wp_mono (fun a' w' ⟨m', s', h2, h3⟩ => hK m' s' a' w' h2 h3) (h1 X0 w0 m a w Q' hs)
  unfold wpOp
  simp only [ho]
  simp only [PL] at h
  split at h
  · rename_i hg
    simp only [Region.wanted, hg, if_true]
    exact .inl (step s hs h)
  · rename_i j want hg
    rcases h with ⟨b, h1, h2, h3⟩ | ⟨h1, h3⟩
    · have hy : yielded ops a.tmps j = some b := by
        unfold yB at h1
        cases hd : (ops[j]?).bind (·.dst) with
        | none => rw [hd] at h1; cases h1
        | some t =>
          rw [hd] at h1
          have h4 := hs.get (.tmp t)
          have h1' : lk s.fr.l t = .d (.bool b) := h1
          simp only [AS.get] at h4
          rw [h1'] at h4
          have h5 : a.tmps.getD t undef = .bool b := h4.bool
          have h6 : a.tmps[t]? = some (.bool b) := by
            rw [Array.getD_eq_getD_getElem?] at h5
            cases ht : a.tmps[t]? with
            | none => rw [ht] at h5; cases h5
            | some u => rw [ht] at h5; simp at h5; rw [h5]
          unfold yielded
          rw [hd]
          simp [h6]
      simp only [Region.wanted, hg, hy]
      by_cases hb : b = want
      · subst hb
        simp only [beq_self_eq_true, if_true]
        exact .inl (step s hs (h2 rfl))
      · have : (some b == some want) = false := by simpa using hb
        simp only [this, Bool.false_eq_true, if_false]
        exact hK _ _ _ _ (h3 hb) (hs.put (tup0 _ _ _) o.dst)
    · have hy : yielded ops a.tmps j = none := by
        unfold yB at h1
        cases hd : (ops[j]?).bind (·.dst) with
        | none => rw [hd] at h1; cases h1
        | some t =>
          rw [hd] at h1
          have h4 := hs.get (.tmp t)
          have h1' : lk s.fr.l t = .tup [] := h1
          simp only [AS.get] at h4
          rw [h1'] at h4
          have h5 : ∀ b, a.tmps.getD t undef ≠ .bool b := by
            intro b he
            have h4' : R m (Owned X0 m s.hp) w (.tup []) (a.tmps.getD t undef) := h4
            rw [he] at h4'
            cases h4'
          unfold yielded
          rw [hd]
          simp only [Option.bind_some]
          split
          · rename_i b hb
            exact absurd (by rw [Array.getD_eq_getD_getElem?, hb]; rfl) (h5 b)
          · rfl
      simp only [Region.wanted, hg, hy]
      have : ((none : Option Bool) == some want) = false := rfl
      simp only [this, Bool.false_eq_true, if_false]
      exact hK _ _ _ _ h3 (hs.put (tup0 _ _ _) o.dst)
/-- all that may come next -/
def AllR (P : Program) (G : List (Nat × TI)) (l : List Oper) (K : AS → Prop) (fuel : Nat) (listed : Array Bool) (s : AS) : List Nat → Prop
  | [] => True
  | i :: r => (∃ o, l[i]? = some o ∧ ∀ K' : AS → Prop, (∀ s', AnyP P l.toArray K fuel (listed.setIfInBounds i true) s' → K' s') → step1 false P G l.toArray o s K') ∧ AllR P G l K fuel listed s r
theorem any_step {P : Program} {G : List (Nat × TI)} (hG : GOK P G) (R : List Nat) {l : List Oper} {K : AS → Prop} {fuel : Nat} {listed : Array Bool} {s : AS} (hR : Region.ready .any l.toArray listed = R) (hne : R.isEmpty = false) (h : AllR P G l K fuel listed s R) : AnyP P l.toArray K (fuel + 1) listed s := by
  intro X0 w0 m a w Q' hQ hs
  refine ⟨fun h0 => (by rw [hR] at h0; subst h0; cases hne), fun i hi => ?_⟩
  rw [hR] at hi
  have key : ∀ R : List Nat, AllR P G l K fuel listed s R → ∀ i ∈ R, ∃ o, l[i]? = some o ∧ ∀ K' : AS → Prop, (∀ s', AnyP P l.toArray K fuel (listed.setIfInBounds i true) s' → K' s') → step1 false P G l.toArray o s K' := by
    intro R
    induction R with
    | nil => intro _ i hi; cases hi
    | cons j r ih =>
      rintro ⟨h1, h2⟩ i hi
      rcases List.mem_cons.1 hi with rfl | hi
      · exact h1
      · exact ih h2 i hi
  obtain ⟨o, ho, h1⟩ := key R h i hi
  have h2 : execL P G l.toArray [o] (AnyP P l.toArray K fuel (listed.setIfInBounds i true)) s := execL_step fun K' hK' => h1 K' fun s' hs' => hK' s' hs'
  exact any_op (by simpa using ho) (execL_sound hG _ _ _ h2) hs fun m' s' a' w' h3 h4 => h3 X0 w0 m' a' w' Q' hQ h4
theorem pw_any {P : Program} {Q : Exit → AS → Prop} {s : AS} {id : Nat} {l : List Oper} (hm : P.follows .mixedOrders = true) (h : AnyP P l.toArray (Q .normal) l.length (Array.replicate l.length false) s) : PW P (.region id l.toArray true) Q s := by
  intro X0 w0 m a w hs
  refine wp_region_any hm ?_
  have := h X0 w0 m a w.drew (fun e a' w' => ∃ m' s', Q e s' ∧ Sim X0 w0 m' s' a' w') (fun m' s' a' w' h1 h2 => ⟨m', s', h1, h2⟩) hs.drew
  simpa using this
theorem pw_seq_any_to {P : Program} (T : List (Nat × List Nat)) {Q : Exit → AS → Prop} {s s1 : AS} {id : Nat} {l : List Oper} {y : Code} (hm : P.follows .mixedOrders = true)
    (h : AnyP P l.toArray (fun s' => forget T id s' = s1 ∨ Fits (forget T id s') s1) l.length (Array.replicate l.length false) s) (h2 : PW P y Q s1) : PW P (.seq (.region id l.toArray true) y) Q s :=
  pw_seq_k fun K hK => pw_any hm fun X0 w0 m a w Q' hQ hs => h X0 w0 m a w Q' (fun m' s' a' w' h3 h4 => hQ m' s' a' w' (hK s' (pw_forget T id (by
    rcases h3 with h3 | h3
    · rw [h3]; exact h2
    · exact pw_fits h3 h2))) h4) hs
@[congr] theorem PW_congr {P : Program} {c : Code} {Q : Exit → AS → Prop} {s s' : AS} (h : s = s') : PW P c Q s = PW P c Q s' := by subst h; rfl
attribute [go_sem] forget tlook
@[go_sem] def kl2 : List (Nat × List Nat) := [(0, [0])]
@[go_sem] def kl3 : List (Nat × List Nat) := [(1, [42, 43, 44, 45, 46]), (3, [48, 49]), (4, [50, 51, 52, 53, 54]), (5, [55, 56, 57, 58, 59]), (6, [60, 61]), (7, [62, 63, 64, 65, 66]), (8, [67, 68, 69, 70, 71]), (9, [72, 73, 74, 75, 76, 77]), (10, [78, 79, 80, 81, 82, 83, 84]), (11, [85, 86, 87, 88, 89, 90, 91]), (12, [92, 93, 94, 95, 96]), (13, [97, 98, 99, 100, 101, 102]), (14, [103, 104, 105, 106, 107, 108]), (15, [109, 110, 111, 112, 113, 114, 115, 116, 117, 118, 119, 120, 121, 122, 123, 124, 125, 126, 127, 128, 129, 130, 131, 132, 133, 134, 135, 136, 137, 138, 139, 140, 141, 142, 143, 144, 145, 146, 147, 148, 149, 150, 151, 152, 153, 154, 155, 156, 157, 158, 159, 160]), (19, [163]), (21, [167]), (22, [168, 169, 170, 171, 172]), (23, [173]), (24, [174, 175, 176]), (30, [183, 184]), (31, [185, 186, 187, 188, 189]), (32, [190]), (34, [192, 193, 194, 195]), (35, [196]), (36, [197, 198, 199, 200, 201, 202, 203, 204]), (39, [207, 208, 209, 210, 211, 212, 213]), (40, [214, 215, 216, 217, 218, 219, 220, 221, 222, 223, 224, 225, 226, 227, 228, 229]), (43, [232, 233, 234, 235, 236]), (44, [237, 238, 239, 240, 241]), (45, [242, 243, 244, 245, 246, 247, 248, 249, 250, 251, 252, 253, 254, 255, 256, 257, 258, 259, 260, 261, 262, 263, 264, 265, 266, 267, 268, 269]), (48, [271, 272, 273]), (49, [275, 276]), (50, [277, 278, 279, 280, 281, 282, 283, 284, 285])]
@[go_sem] def kl4 : List (Nat × List Nat) := [(1, [37, 38, 39, 40, 41]), (3, [43, 44, 45, 46, 47]), (4, [48, 49, 50, 51, 52, 53]), (5, [54, 55, 56, 57, 58, 59]), (6, [60, 61, 62, 63, 64, 65]), (7, [66, 67, 68, 69, 70, 71, 72]), (8, [73, 74, 75, 76, 77, 78, 79]), (9, [80, 81, 82, 83, 84, 85, 86]), (10, [87, 88, 89, 90, 91, 92, 93]), (11, [94, 95, 96, 97, 98]), (12, [99, 100, 101, 102, 103]), (13, [104, 105, 106, 107, 108, 109, 110, 111, 112, 113, 114, 115, 116, 117, 118, 119, 120, 121, 122, 123, 124, 125, 126, 127, 128, 129, 130, 131, 132, 133, 134, 135, 136, 137, 138, 139, 140, 141, 142, 143, 144, 145, 146, 147]), (16, [150, 151, 152, 153, 154]), (17, [155, 156, 157, 158, 159]), (18, [160, 161, 162, 163, 164, 165, 166, 167, 168, 169, 170, 171, 172, 173, 174, 175, 176, 177, 178, 179, 180, 181, 182]), (23, [188, 189, 190]), (24, [191, 192, 193, 194, 195, 196, 197, 198]), (25, [200]), (26, [201]), (27, [202, 203, 204, 205]), (29, [207]), (31, [209, 210, 211, 212, 213, 214, 215]), (35, [221, 222, 223]), (36, [224, 225, 226, 227, 228, 229, 230, 231, 232, 233, 234]), (38, [236, 237, 238, 239, 240, 241, 242]), (39, [243, 244, 245, 246, 247, 248, 249, 250, 251, 252, 253, 254, 255, 256, 257, 258, 259, 260, 261, 262, 263, 264, 265, 266, 267, 268, 269, 270, 271, 272, 273, 274, 275, 276]), (41, [278])]
@[go_sem] def kl5 : List (Nat × List Nat) := [(1, [3, 4])]
@[go_sem] def kl6 : List (Nat × List Nat) := [(1, [4, 5]), (3, [7, 8])]
@[go_sem] def kl7 : List (Nat × List Nat) := [(1, [7, 8]), (6, [14, 15]), (7, [16, 17, 18, 19, 20, 21, 22, 23, 24, 25]), (8, [26]), (9, [27])]
@[go_sem] def kl8 : List (Nat × List Nat) := [(1, [3, 4])]
@[go_sem] def kl9 : List (Nat × List Nat) := [(1, [4, 5]), (3, [7, 8])]
@[go_sem] def kl10 : List (Nat × List Nat) := [(1, [4, 5]), (3, [7, 8])]
@[go_sem] def kl11 : List (Nat × List Nat) := [(1, [6, 7, 8]), (2, [9, 10, 11, 12, 13, 14])]
@[go_sem] def kl12 : List (Nat × List Nat) := [(1, [8, 9, 10, 11, 12, 13, 14, 15, 16, 17, 18, 19]), (3, [21, 22, 23, 24])]
@[go_sem] def kl13 : List (Nat × List Nat) := [(1, [8, 9, 10, 11, 12, 13, 14, 15, 16, 17, 18, 19]), (3, [21, 22, 23, 24])]
@[go_sem] def kl14 : List (Nat × List Nat) := [(1, [5, 6, 7]), (2, [8, 9, 10, 11])]
@[go_sem] def kl15 : List (Nat × List Nat) := [(1, [6, 7, 8, 9, 10, 11, 12]), (3, [14, 15, 16])]
@[go_sem] def kl16 : List (Nat × List Nat) := [(1, [6, 7, 8, 9, 10, 11, 12]), (3, [14, 15, 16])]
@[go_sem] def kl17 : List (Nat × List Nat) := [(1, [6, 7, 8, 9]), (3, [11]), (5, [15]), (6, [16, 17, 18, 19, 20, 21, 22, 23]), (8, [25])]
@[go_sem] def kl18 : List (Nat × List Nat) := [(1, [8, 9]), (5, [15, 16, 17]), (6, [18, 19, 20]), (11, [26, 27, 28]), (12, [29, 30, 31, 32, 33, 34, 35, 36, 37]), (14, [39, 40, 41, 42]), (15, [44, 45]), (16, [46]), (17, [47, 48, 49]), (19, [51])]
@[go_sem] def kl19 : List (Nat × List Nat) := [(3, [9, 10]), (4, [11, 12]), (6, [14]), (7, [15, 16, 17])]
@[go_sem] def kl20 : List (Nat × List Nat) := [(4, [10, 11]), (5, [12, 13, 14]), (6, [15]), (7, [16])]
@[go_sem] def kl21 : List (Nat × List Nat) := [(1, [5, 6, 7]), (2, [8, 9, 10, 11, 12])]
@[go_sem] def kl22 : List (Nat × List Nat) := [(1, [9, 10, 11, 12, 13, 14, 15]), (3, [17]), (4, [18]), (6, [23, 24, 25]), (7, [26, 27]), (8, [29, 30, 31, 32, 33]), (9, [34]), (10, [35])]
@[go_sem] def kl23 : List (Nat × List Nat) := [(1, [9, 10, 11, 12, 13, 14, 15]), (4, [17]), (6, [22, 23, 24]), (7, [25, 26]), (8, [28, 29, 30, 31, 32]), (9, [33]), (10, [34])]
@[go_sem] def kl24 : List (Nat × List Nat) := [(1, [5, 6, 7, 8, 9])]
@[go_sem] def kl25 : List (Nat × List Nat) := [(1, [9, 10, 11, 12, 13, 14, 15, 16, 17, 18, 19, 20]), (3, [22, 23]), (4, [24, 25, 26, 27]), (5, [28, 29, 30, 31, 32, 33, 34])]
@[go_sem] def kl26 : List (Nat × List Nat) := [(1, [10, 11, 12, 13]), (3, [15]), (5, [20, 21, 22]), (6, [23, 24, 25, 26, 27, 28, 29, 30, 31, 32, 33]), (8, [35])]
@[go_sem] def kl27 : List (Nat × List Nat) := [(1, [8, 9, 10, 11, 12, 13, 14, 15, 16, 17, 18, 19]), (3, [21, 22, 23, 24])]
@[go_sem] def kl28 : List (Nat × List Nat) := [(1, [8, 9, 10, 11]), (3, [13, 14, 15, 16])]
@[go_sem] def kl29 : List (Nat × List Nat) := [(1, [4, 5]), (3, [7, 8])]
@[go_sem] def kl30 : List (Nat × List Nat) := [(1, [4, 5]), (3, [7, 8])]
@[go_sem] def kl31 : List (Nat × List Nat) := [(3, [11, 12]), (4, [13, 14]), (6, [16])]
@[go_sem] def kl32 : List (Nat × List Nat) := [(1, [4, 5, 6]), (2, [7, 8])]
@[go_sem] def kl33 : List (Nat × List Nat) := [(1, [9]), (4, [14, 15]), (8, [20, 21]), (9, [22, 23, 24, 25]), (10, [27, 28]), (11, [29]), (12, [30, 31, 32, 33, 34, 35, 36, 37, 38, 39]), (13, [40]), (14, [41])]
@[go_sem] def kl34 : List (Nat × List Nat) := [(4, [13, 14]), (8, [19, 20]), (9, [21, 22, 23, 24]), (10, [26, 27]), (11, [28]), (12, [29, 30, 31, 32, 33, 34, 35, 36, 37, 38, 39, 40, 41, 42, 43]), (14, [45, 46, 47, 48, 49]), (15, [50]), (16, [51, 52, 53])]
@[go_sem] def kl35 : List (Nat × List Nat) := [(1, [5, 6, 7, 8, 9, 10])]
@[go_sem] def kl36 : List (Nat × List Nat) := [(4, [12, 13]), (5, [14, 15, 16]), (6, [18, 19]), (7, [20]), (8, [21])]
@[go_sem] def kl37 : List (Nat × List Nat) := [(1, [4, 5, 6]), (2, [7, 8])]
@[go_sem] def kl38 : List (Nat × List Nat) := [(1, [5]), (3, [6]), (4, [8, 9]), (5, [10, 11, 12, 13, 14, 15, 16]), (6, [17])]
@[go_sem] def kl39 : List (Nat × List Nat) := [(3, [9, 10]), (4, [11, 12]), (6, [14]), (7, [15, 16, 17])]
@[go_sem] def kl40 : List (Nat × List Nat) := [(3, [5]), (4, [7, 8]), (5, [9, 10, 11, 12, 13, 14, 15]), (6, [16])]
@[go_sem] def kl41 : List (Nat × List Nat) := [(2, [5, 6]), (3, [7]), (4, [9, 10, 11]), (5, [12, 13, 14]), (6, [16, 17, 18, 19, 20]), (7, [21])]
@[go_sem] def kl42 : List (Nat × List Nat) := [(1, [3, 4, 5, 6, 7, 8])]
@[go_sem] def kl43 : List (Nat × List Nat) := [(1, [3, 4])]
@[go_sem] def kl44 : List (Nat × List Nat) := [(1, [12, 13, 14, 15, 16, 17]), (2, [18, 19, 20, 21, 22, 23, 24, 25]), (4, [30, 31]), (5, [32, 33, 34, 35, 36, 37, 38, 39, 40, 41]), (6, [42]), (7, [44]), (8, [45])]
@[go_sem] def kl45 : List (Nat × List Nat) := [(1, [3, 4])]
@[go_sem] def kl46 : List (Nat × List Nat) := [(1, [11, 12, 13, 14, 15, 16]), (4, [21, 22, 23]), (5, [24, 25, 26, 27, 28]), (6, [30, 31, 32, 33, 34, 35, 36]), (7, [37])]
@[go_sem] def kl47 : List (Nat × List Nat) := [(1, [11]), (4, [16, 17]), (6, [18]), (8, [23, 24, 25]), (9, [26, 27, 28, 29, 30, 31]), (10, [33]), (11, [34]), (12, [35, 36, 37, 38]), (13, [39]), (14, [40, 41]), (15, [42, 43]), (16, [44])]
@[go_sem] def kl48 : List (Nat × List Nat) := [(2, [9, 10]), (4, [15, 16]), (5, [17, 18]), (6, [19, 20, 21, 22, 23, 24, 25, 26, 27, 28]), (7, [30, 31]), (8, [32, 33, 34, 35, 36, 37, 38, 39, 40, 41, 42]), (9, [43]), (10, [44])]
@[go_sem] def kl49 : List (Nat × List Nat) := [(1, [5, 6, 7, 8, 9, 10, 11])]
@[go_sem] def kl50 : List (Nat × List Nat) := [(1, [7, 8, 9, 10, 11, 12, 13, 14])]
@[go_sem] def kl51 : List (Nat × List Nat) := [(1, [7]), (3, [8]), (4, [10, 11]), (7, [12]), (8, [14, 15]), (9, [16, 17, 18, 19]), (10, [21, 22]), (11, [23, 24, 25, 26]), (12, [27])]
@[go_sem] def kl52 : List (Nat × List Nat) := [(1, [7, 8, 9, 10, 11, 12, 13, 14])]
@[go_sem] def kl53 : List (Nat × List Nat) := [(3, [7]), (4, [9, 10]), (7, [11]), (8, [13, 14]), (9, [15, 16, 17, 18]), (10, [20, 21]), (11, [22, 23, 24, 25]), (12, [26])]
@[go_sem] def kl54 : List (Nat × List Nat) := [(1, [6, 7, 8]), (2, [9, 10, 11, 12, 13, 14, 15, 16, 17, 18])]
@[go_sem] def kl55 : List (Nat × List Nat) := [(1, [7, 8, 9, 10, 11, 12, 13])]
@[go_sem] def kl56 : List (Nat × List Nat) := [(1, [5, 6]), (2, [8]), (3, [9, 10, 11]), (5, [12, 13, 14]), (6, [16, 17]), (7, [18, 19, 20, 21, 22, 23]), (8, [24])]
@[go_sem] def kl57 : List (Nat × List Nat) := [(1, [7, 8, 9, 10, 11, 12, 13, 14, 15, 16])]
@[go_sem] def kl58 : List (Nat × List Nat) := [(1, [7, 8, 9, 10, 11, 12, 13, 14])]
@[go_sem] def kl59 : List (Nat × List Nat) := [(4, [11, 12]), (5, [13]), (8, [15, 16]), (9, [18, 19]), (10, [20, 21, 22, 23, 24, 25, 26, 27, 28, 29]), (11, [30, 31, 32, 33, 34, 35, 36, 37]), (12, [38, 39]), (13, [40, 41]), (14, [43, 44, 45]), (16, [46, 47, 48, 49, 50]), (17, [52, 53, 54]), (18, [55, 56, 57]), (19, [58, 59, 60, 61, 62, 63]), (20, [64, 65, 66, 67]), (21, [68]), (22, [70, 71, 72, 73, 74]), (23, [75]), (24, [78]), (25, [79, 80, 81, 82, 83, 84, 85, 86, 87, 88]), (26, [90]), (27, [91, 92, 93, 94, 95, 96]), (28, [98]), (29, [99, 100, 101, 102, 103, 104]), (30, [105])]
@[go_sem] def kl60 : List (Nat × List Nat) := [(3, [11, 12]), (4, [13, 14]), (6, [16])]
@[go_sem] def kl61 : List (Nat × List Nat) := [(4, [10, 11]), (5, [12, 13, 14]), (6, [15]), (7, [16])]
@[go_sem] def kl62 : List (Nat × List Nat) := [(4, [10, 11]), (5, [12, 13, 14]), (6, [15]), (7, [16])]
@[go_sem] def kl63 : List (Nat × List Nat) := [(4, [15, 16]), (8, [21, 22]), (9, [23, 24, 25]), (10, [27, 28, 29, 30, 31, 32, 33]), (11, [34]), (12, [35, 36, 37, 38]), (13, [39]), (14, [40])]
@[go_sem] def kl64 : List (Nat × List Nat) := [(1, [6]), (3, [8, 9]), (4, [10]), (5, [12, 13, 14, 15, 16]), (6, [17, 18, 19])]
@[go_sem] def kl65 : List (Nat × List Nat) := [(1, [5, 6, 7, 8])]
@[go_sem] def kl66 : List (Nat × List Nat) := [(1, [4, 5]), (3, [7, 8])]
@[go_sem] def kl67 : List (Nat × List Nat) := [(1, [6, 7, 8, 9, 10]), (2, [11, 12, 13, 14, 15, 16, 17, 18, 19, 20, 21, 22, 23])]
@[go_sem] def kl68 : List (Nat × List Nat) := [(1, [4, 5]), (3, [7, 8])]
@[go_sem] def kl69 : List (Nat × List Nat) := [(0, [3, 4]), (1, [5, 6, 7, 8, 9, 10])]
@[go_sem] def kl70 : List (Nat × List Nat) := [(0, [4, 5, 6]), (1, [7, 8]), (2, [10, 11, 12, 13]), (3, [14, 15, 16, 17, 18, 19, 20, 21, 22, 23, 24, 25, 26, 27])]
@[go_sem] def kl71 : List (Nat × List Nat) := [(1, [3, 4, 5])]
@[go_sem] def kl72 : List (Nat × List Nat) := [(2, [4, 5, 6, 7, 8, 9, 10, 11, 12]), (3, [14, 15, 16, 17, 18, 19, 20, 21, 22, 23, 24]), (4, [25, 26, 27, 28, 29, 30, 31]), (5, [32, 33, 34, 35, 36, 37, 38, 39, 40, 41, 42, 43]), (6, [44, 45, 46, 47, 48, 49, 50, 51, 52]), (7, [54]), (8, [55, 56, 57, 58, 59, 60, 61])]
@[go_sem] def kl73 : List (Nat × List Nat) := [(2, [19, 20, 21]), (3, [22]), (4, [24, 25, 26, 27]), (5, [28]), (6, [30, 31, 32, 33]), (7, [34]), (8, [36, 37, 38, 39]), (9, [40, 41]), (10, [42, 43, 44, 45, 46, 47, 48]), (11, [49]), (12, [51, 52, 53, 54]), (13, [55, 56, 57, 58, 59, 60]), (15, [61, 62, 63, 64, 65, 66, 67]), (16, [69, 70, 71]), (17, [73, 74, 75, 76, 77, 78, 79, 80, 81, 82, 83, 84, 85, 86]), (18, [88, 89, 90, 91, 92]), (19, [93]), (20, [94, 95, 96, 97, 98, 99, 100, 101]), (21, [102]), (22, [103, 104, 105, 106, 107, 108]), (23, [109, 110]), (24, [111, 112]), (25, [114, 115, 116]), (26, [117, 118, 119, 120, 121]), (27, [122, 123]), (28, [124, 125, 126]), (29, [127, 128, 129, 130, 131, 132]), (30, [133])]
@[go_sem] def kl74 : List (Nat × List Nat) := [(1, [3, 4, 5]), (2, [6, 7])]
@[go_sem] def kl75 : List (Nat × List Nat) := [(0, [8, 9]), (1, [10, 11]), (2, [13, 14]), (3, [15]), (4, [16, 17, 18, 19, 20, 21, 22, 23, 24, 25, 26, 27, 28, 29]), (5, [31, 32]), (6, [33, 34, 35, 36, 37, 38, 39, 40, 41, 42, 43, 44, 45, 46, 47, 48])]
@[go_sem] def kl76 : List (Nat × List Nat) := [(0, [11]), (2, [12, 13, 14]), (3, [15, 16, 17]), (4, [18]), (5, [20, 21]), (6, [22, 23, 24, 25, 26]), (7, [27, 28]), (8, [29]), (9, [31, 32]), (10, [33, 34, 35, 36, 37, 38, 39, 40, 41, 42, 43, 44, 45, 46, 47, 48, 49, 50]), (11, [51, 52, 53, 54, 55])]
@[go_sem] def kl77 : List (Nat × List Nat) := [(0, [11, 12, 13]), (1, [14]), (2, [16, 17]), (3, [18, 19]), (4, [20, 21, 22, 23, 24, 25]), (5, [26, 27, 28, 29, 30, 31, 32]), (6, [34, 35]), (7, [36, 37, 38, 39, 40]), (8, [41, 42]), (9, [44, 45, 46]), (10, [47, 48, 49, 50, 51, 52, 53, 54, 55, 56, 57, 58, 59, 60, 61, 62, 63, 64])]
@[go_sem] def kl78 : List (Nat × List Nat) := [(1, [13, 14, 15]), (3, [16, 17, 18, 19, 20]), (4, [21, 22, 23, 24, 25]), (5, [26, 27, 28, 29, 30]), (6, [31]), (7, [33]), (8, [35, 36, 37]), (9, [38, 39, 40]), (10, [41, 42, 43]), (11, [44, 45, 46, 47, 48]), (13, [50]), (14, [52]), (15, [53]), (16, [55]), (17, [56])]
@[go_sem] def kl79 : List (Nat × List Nat) := [(0, [8]), (1, [9, 10]), (2, [11, 12]), (3, [14, 15, 16, 17, 18, 19, 20, 21, 22, 23, 24, 25, 26, 27]), (4, [28, 29]), (5, [30, 31])]
@[go_sem] def kl80 : List (Nat × List Nat) := [(1, [11, 12]), (3, [13]), (4, [15, 16]), (5, [17, 18, 19, 20, 21, 22, 23, 24, 25, 26, 27, 28, 29, 30, 31]), (6, [33, 34]), (7, [35, 36]), (9, [38, 39, 40]), (11, [42, 43, 44, 45, 46, 47, 48, 49, 50, 51, 52, 53, 54, 55, 56, 57]), (12, [58, 59, 60]), (13, [62, 63]), (14, [64]), (15, [66, 67]), (16, [68, 69, 70, 71, 72, 73, 74, 75, 76, 77]), (17, [79, 80, 81, 82, 83, 84, 85, 86, 87, 88, 89, 90, 91, 92, 93, 94]), (18, [95, 96, 97]), (19, [99, 100]), (20, [101, 102]), (21, [104, 105]), (22, [106, 107, 108, 109, 110, 111, 112, 113, 114, 115]), (23, [117, 118, 119, 120, 121, 122, 123, 124, 125, 126, 127, 128, 129, 130, 131, 132])]
@[go_sem] def kl81 : List (Nat × List Nat) := [(1, [5, 6, 7, 8, 9, 10, 11, 12, 13, 14, 15, 16])]
@[go_sem] def kl82 : List (Nat × List Nat) := [(1, [11, 12, 13, 14, 15, 16, 17, 18, 19, 20, 21, 22, 23, 24]), (2, [25, 26, 27, 28]), (3, [29, 30, 31, 32, 33, 34, 35, 36, 37, 38, 39, 40, 41, 42]), (4, [44, 45]), (5, [46, 47, 48, 49, 50, 51, 52, 53, 54, 55, 56, 57, 58]), (6, [60, 61]), (7, [62, 63]), (8, [65, 66, 67, 68, 69, 70, 71, 72, 73, 74, 75, 76, 77, 78]), (9, [79, 80]), (10, [81, 82]), (11, [83])]
@[go_sem] def kl83 : List (Nat × List Nat) := [(1, [12, 13, 14, 15, 16, 17, 18, 19, 20, 21, 22, 23, 24, 25]), (2, [26, 27, 28, 29]), (3, [30, 31, 32, 33, 34, 35, 36, 37, 38, 39, 40, 41, 42]), (4, [44, 45]), (5, [46, 47, 48, 49, 50, 51, 52, 53, 54, 55, 56, 57, 58, 59]), (6, [61, 62]), (7, [63, 64]), (8, [66, 67, 68, 69, 70, 71, 72, 73, 74, 75, 76, 77, 78, 79]), (9, [80]), (10, [81, 82, 83, 84, 85, 86, 87, 88, 89, 90, 91, 92, 93, 94]), (11, [95, 96]), (12, [97, 98]), (13, [99, 100, 101, 102, 103, 104, 105, 106, 107, 108, 109, 110, 111]), (14, [113, 114]), (15, [115, 116, 117, 118, 119, 120, 121, 122, 123, 124, 125, 126, 127, 128]), (16, [130, 131]), (17, [132, 133]), (18, [135, 136, 137, 138, 139, 140, 141, 142, 143, 144, 145, 146, 147, 148]), (19, [149, 150]), (20, [151, 152]), (21, [153, 154, 155, 156, 157, 158, 159, 160, 161, 162, 163, 164, 165, 166]), (22, [167])]
@[go_sem] def kl84 : List (Nat × List Nat) := [(1, [3]), (2, [5, 6]), (4, [7]), (5, [9, 10]), (6, [11, 12]), (7, [13, 14, 15, 16, 17, 18])]
@[go_sem] def kl85 : List (Nat × List Nat) := [(1, [3]), (2, [5, 6]), (4, [7]), (5, [9, 10]), (6, [11, 12]), (7, [13]), (8, [15, 16]), (9, [17, 18]), (10, [19, 20, 21, 22, 23, 24])]
@[go_sem] def kl86 : List (Nat × List Nat) := [(0, [10]), (1, [11, 12, 13]), (2, [14, 15]), (3, [17, 18, 19, 20, 21, 22, 23, 24, 25, 26, 27, 28, 29, 30, 31, 32, 33, 34, 35]), (4, [37, 38]), (5, [39, 40, 41, 42, 43, 44, 45, 46, 47, 48, 49, 50, 51]), (6, [53, 54, 55, 56, 57, 58, 59, 60, 61, 62, 63, 64, 65, 66, 67, 68, 69, 70, 71, 72, 73, 74]), (7, [75])]
@[go_sem] def kl87 : List (Nat × List Nat) := [(1, [3, 4, 5, 6])]
@[go_sem] def kl88 : List (Nat × List Nat) := [(1, [3, 4, 5, 6, 7, 8, 9, 10, 11]), (2, [12, 13, 14, 15, 16, 17, 18, 19, 20]), (3, [21, 22, 23, 24, 25, 26, 27, 28, 29]), (4, [30, 31, 32])]
@[go_sem] def kl89 : List (Nat × List Nat) := [(1, [7, 8, 9, 10, 11, 12, 13, 14])]
@[go_sem] def kl90 : List (Nat × List Nat) := [(1, [11, 12, 13, 14, 15, 16, 17, 18]), (2, [19, 20, 21, 22, 23, 24, 25, 26]), (3, [27, 28, 29, 30, 31, 32, 33, 34]), (4, [35])]
@[go_sem] def kl91 : List (Nat × List Nat) := [(1, [3, 4, 5])]
@[go_sem] def kl92 : List (Nat × List Nat) := [(1, [10, 11, 12, 13, 14, 15, 16, 17]), (2, [19, 20, 21, 22, 23]), (3, [24, 25]), (4, [26, 27])]
theorem pw_loop_over {P : Program} {Q : Exit → AS → Prop} {s : AS} {α : Type} {c : Code} (dead : List Nat) (L : α → List (Nat × PV)) (hp : α → List (Nat × Blk)) (nx : Nat) (J : α → Prop) (μ : α → Nat) (x0 : α) (h0 : J x0) (hf : Fits s ⟨over (wipe s.fr dead) (L x0), hp x0, nx⟩)
    (round : ∀ x, J x → PW P c (thenA (fun s' => ∃ x', J x' ∧ μ x' < μ x ∧ Fits s' ⟨over (wipe s.fr dead) (L x'), hp x', nx⟩) Q) ⟨over (wipe s.fr dead) (L x), hp x, nx⟩) : PW P (.loop c) Q s :=
  pw_loop (fun x => ⟨over (wipe s.fr dead) (L x), hp x, nx⟩) J μ x0 h0 hf round

/-- the truth of a proposition, as a bool -/
noncomputable def bP (p : Prop) : Bool := @decide p (Classical.propDecidable p)
theorem bP_true {p : Prop} (h : p) : bP p = true := by unfold bP; exact @decide_eq_true _ (Classical.propDecidable p) h
theorem bP_false {p : Prop} (h : ¬ p) : bP p = false := by unfold bP; exact @decide_eq_false _ (Classical.propDecidable p) h
theorem bP_iff {p : Prop} : bP p = true ↔ p := by unfold bP; exact @decide_eq_true_iff p (Classical.propDecidable p)
end Go.Proofs.Ytldcnlhfanbdfaa
