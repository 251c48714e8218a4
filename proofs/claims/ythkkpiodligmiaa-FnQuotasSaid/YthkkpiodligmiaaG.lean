/-
  The table of the program's types, for the abstract machine.
-/
import Derived.Test.YthkkpiodligmiaaProg
import Derived.Test.YthkkpiodligmiaaM11
namespace Go.Proofs.Ythkkpiodligmiaa
open Go.RowKit
def G : List (Nat × TI) := [(2, .num .i64), (3, .num .i64), (4, .bol), (5, .num .u8), (6, .num .u8), (7, .st 4 [(0, 1), (1, 1), (2, 1), (3, 1)] [.int .i64 0, .int .i64 0, .bool false, .int .u8 0]), (8, .st 4 [(0, 1), (1, 1), (2, 1), (3, 1)] [.int .i64 0, .int .i64 0, .bool false, .int .u8 0]), (9, .str), (10, .str), (11, .str), (12, .num .u64), (13, .st 2 [(0, 1), (1, 1)] [.str ⟨#[]⟩, .int .u64 0]), (14, .st 2 [(0, 1), (1, 1)] [.str ⟨#[]⟩, .int .u64 0]), (21, .num .i32), (22, .slc 5 1 1 [.int .u8 0]), (23, .slc 29 2 32 [.int .i64 0, .lst 1 []]), (25, .slc 3 1 8 [.int .i64 0]), (28, .st 2 [(0, 1), (1, 1)] [.int .i64 0, .lst 1 []]), (29, .st 2 [(0, 1), (1, 1)] [.int .i64 0, .lst 1 []]), (57, .slc 103 2 16 [.int .i64 0, .int .i64 0]), (75, .num .u64), (76, .st 3 [(0, 1), (1, 1), (2, 1)] [.lst 1 [], .int .i64 0, .int .u64 0]), (77, .st 3 [(0, 1), (1, 1), (2, 1)] [.lst 1 [], .int .i64 0, .int .u64 0]), (102, .st 2 [(0, 1), (1, 1)] [.int .i64 0, .int .i64 0]), (103, .st 2 [(0, 1), (1, 1)] [.int .i64 0, .int .i64 0]), (112, .arr 21 1 [.int .i64 0, .int .i64 0, .int .i64 0, .int .i64 0, .int .i64 0, .int .i64 0, .int .i64 0, .int .i64 0, .int .i64 0, .int .i64 0, .int .i64 0, .int .i64 0, .int .i64 0, .int .i64 0, .int .i64 0, .int .i64 0, .int .i64 0, .int .i64 0, .int .i64 0, .int .i64 0, .int .i64 0]), (115, .num .u64), (118, .num .i64), (125, .num .u32), (127, .num .u64), (141, .num .u8), (142, .num .u8), (145, .num .i32), (146, .num .i32)]
theorem G_ok : GOK Try.prog G := GOK.of_all (by kernel_rfl)
@[go_sem] theorem G2 : tget G 2 = some (.num .i64) := rfl
@[go_sem] theorem G3 : tget G 3 = some (.num .i64) := rfl
@[go_sem] theorem G4 : tget G 4 = some (.bol) := rfl
@[go_sem] theorem G5 : tget G 5 = some (.num .u8) := rfl
@[go_sem] theorem G6 : tget G 6 = some (.num .u8) := rfl
@[go_sem] theorem G7 : tget G 7 = some (.st 4 [(0, 1), (1, 1), (2, 1), (3, 1)] [.int .i64 0, .int .i64 0, .bool false, .int .u8 0]) := rfl
@[go_sem] theorem G8 : tget G 8 = some (.st 4 [(0, 1), (1, 1), (2, 1), (3, 1)] [.int .i64 0, .int .i64 0, .bool false, .int .u8 0]) := rfl
@[go_sem] theorem G9 : tget G 9 = some (.str) := rfl
@[go_sem] theorem G10 : tget G 10 = some (.str) := rfl
@[go_sem] theorem G11 : tget G 11 = some (.str) := rfl
@[go_sem] theorem G12 : tget G 12 = some (.num .u64) := rfl
@[go_sem] theorem G13 : tget G 13 = some (.st 2 [(0, 1), (1, 1)] [.str ⟨#[]⟩, .int .u64 0]) := rfl
@[go_sem] theorem G14 : tget G 14 = some (.st 2 [(0, 1), (1, 1)] [.str ⟨#[]⟩, .int .u64 0]) := rfl
@[go_sem] theorem G21 : tget G 21 = some (.num .i32) := rfl
@[go_sem] theorem G22 : tget G 22 = some (.slc 5 1 1 [.int .u8 0]) := rfl
@[go_sem] theorem G23 : tget G 23 = some (.slc 29 2 32 [.int .i64 0, .lst 1 []]) := rfl
@[go_sem] theorem G25 : tget G 25 = some (.slc 3 1 8 [.int .i64 0]) := rfl
@[go_sem] theorem G28 : tget G 28 = some (.st 2 [(0, 1), (1, 1)] [.int .i64 0, .lst 1 []]) := rfl
@[go_sem] theorem G29 : tget G 29 = some (.st 2 [(0, 1), (1, 1)] [.int .i64 0, .lst 1 []]) := rfl
@[go_sem] theorem G57 : tget G 57 = some (.slc 103 2 16 [.int .i64 0, .int .i64 0]) := rfl
@[go_sem] theorem G75 : tget G 75 = some (.num .u64) := rfl
@[go_sem] theorem G76 : tget G 76 = some (.st 3 [(0, 1), (1, 1), (2, 1)] [.lst 1 [], .int .i64 0, .int .u64 0]) := rfl
@[go_sem] theorem G77 : tget G 77 = some (.st 3 [(0, 1), (1, 1), (2, 1)] [.lst 1 [], .int .i64 0, .int .u64 0]) := rfl
@[go_sem] theorem G102 : tget G 102 = some (.st 2 [(0, 1), (1, 1)] [.int .i64 0, .int .i64 0]) := rfl
@[go_sem] theorem G103 : tget G 103 = some (.st 2 [(0, 1), (1, 1)] [.int .i64 0, .int .i64 0]) := rfl
@[go_sem] theorem G112 : tget G 112 = some (.arr 21 1 [.int .i64 0, .int .i64 0, .int .i64 0, .int .i64 0, .int .i64 0, .int .i64 0, .int .i64 0, .int .i64 0, .int .i64 0, .int .i64 0, .int .i64 0, .int .i64 0, .int .i64 0, .int .i64 0, .int .i64 0, .int .i64 0, .int .i64 0, .int .i64 0, .int .i64 0, .int .i64 0, .int .i64 0]) := rfl
@[go_sem] theorem G115 : tget G 115 = some (.num .u64) := rfl
@[go_sem] theorem G118 : tget G 118 = some (.num .i64) := rfl
@[go_sem] theorem G125 : tget G 125 = some (.num .u32) := rfl
@[go_sem] theorem G127 : tget G 127 = some (.num .u64) := rfl
@[go_sem] theorem G141 : tget G 141 = some (.num .u8) := rfl
@[go_sem] theorem G142 : tget G 142 = some (.num .u8) := rfl
@[go_sem] theorem G145 : tget G 145 = some (.num .i32) := rfl
@[go_sem] theorem G146 : tget G 146 = some (.num .i32) := rfl
theorem mixed : Try.prog.follows .mixedOrders = true := by kernel_rfl

theorem retQ_ret {G : List (Nat × TI)} {fn : Func} {Post : List RV → Prop} {s : AS} {xs : List PV} {rs : List RV} (h1 : retPVs G s fn.results.toList = some xs) (h2 : retL s.hp xs = some rs) (h3 : (rowsOf xs).Nodup) (h4 : Post rs) : retQ G fn Post .ret s := ⟨xs, rs, h1, h2, h3, h4⟩
theorem retQ_normal {G : List (Nat × TI)} {fn : Func} {Post : List RV → Prop} {s : AS} {xs : List PV} {rs : List RV} (h1 : retPVs G s fn.results.toList = some xs) (h2 : retL s.hp xs = some rs) (h3 : (rowsOf xs).Nodup) (h4 : Post rs) : retQ G fn Post .normal s := ⟨xs, rs, h1, h2, h3, h4⟩

/-- slots given anew -/
def over : Fr → List (Nat × PV) → Fr
  | f, [] => f
  | f, (t, x) :: r => over ⟨f.n, ins f.l t x⟩ r
/-- slots forgotten behind a region: a table -/
def tlook : List (Nat × List Nat) → Nat → List Nat
  | [], _ => []
  | (k, ts) :: r, i => if i = k then ts else tlook r i
def forget (T : List (Nat × List Nat)) (id : Nat) (s : AS) : AS := ⟨wipe s.fr (tlook T id), s.hp, s.nx⟩
theorem pw_forget {P : Program} {c : Code} {Q : Exit → AS → Prop} {s : AS} (T : List (Nat × List Nat)) (id : Nat) (h : PW P c Q (forget T id s)) : PW P c Q s := fun X0 w0 m a w hs => h X0 w0 m a w (hs.wipe _)
theorem pw_seq_ops {P : Program} {G : List (Nat × TI)} (hG : GOK P G) {Q : Exit → AS → Prop} {s : AS} {id : Nat} {l : List Oper} {y : Code} (h : ∀ K : AS → Prop, (∀ s', PW P y Q s' → K s') → execL P G l.toArray l K s) : PW P (.seq (.region id l.toArray false) y) Q s :=
  pw_seq_k fun _ hK => pw_ops hG fun K' hK' => h K' fun s' h' => hK' s' (hK s' h')
theorem pw_seq_opsK {P : Program} {G : List (Nat × TI)} (T : List (Nat × List Nat)) (hG : GOK P G) {Q : Exit → AS → Prop} {s : AS} {id : Nat} {l : List Oper} {y : Code} (h : ∀ K : AS → Prop, (∀ s', PW P y Q (forget T id s') → K s') → execL P G l.toArray l K s) : PW P (.seq (.region id l.toArray false) y) Q s :=
  pw_seq_ops hG fun K hK => h K fun s' h' => hK s' (pw_forget T id h')
theorem pw_seq_drawK {P : Program} {G : List (Nat × TI)} (T : List (Nat × List Nat)) {Q : Exit → AS → Prop} {s : AS} {id : Nat} {l : List Oper} {y : Code} (hG : GOK P G) (hm : P.follows .mixedOrders = true) (hB : Region.lexB .any l.toArray = true) (h : ∀ K : AS → Prop, (∀ s', PW P y Q (forget T id s') → K s') → quietL P G l.toArray l K s) : PW P (.seq (.region id l.toArray true) y) Q s :=
  pw_seq_draw hG hm hB fun K hK => h K fun s' h' => hK s' (pw_forget T id h')
theorem pw_seq_tailK {P : Program} {G : List (Nat × TI)} (T : List (Nat × List Nat)) {Q : Exit → AS → Prop} {s : AS} {id : Nat} {l : List Oper} {y : Code} (hG : GOK P G) (p n : Nat) (hm : P.follows .mixedOrders = true) (hB : tailB l.toArray p n = true) (h : ∀ K : AS → Prop, (∀ s', PW P y Q (forget T id s') → K s') → quietL P G l.toArray (l.take n) (execL P G l.toArray (l.drop n) K) s) : PW P (.seq (.region id l.toArray true) y) Q s :=
  pw_seq_tail hG p n hm hB fun K hK => h K fun s' h' => hK s' (pw_forget T id h')
/-- a region in any order: from s, with these operations done, it leads into K -/
def AnyP (P : Program) (ops : Array Oper) (K : AS → Prop) (fuel : Nat) (listed : Array Bool) (s : AS) : Prop :=
  ∀ (X0 : Nat → Prop) (w0 : Base) (m : Mp) (a : Act) (w : World) (Q' : Exit → Act → World → Prop), (∀ m' s' a' w', K s' → Sim X0 w0 m' s' a' w' → Q' .normal a' w') → Sim X0 w0 m s a w → wpAny P .any ops Q' fuel listed a w
theorem any_done {P : Program} {ops : Array Oper} {K : AS → Prop} {fuel : Nat} {listed : Array Bool} {s : AS} (hR : Region.ready .any ops listed = []) (h : K s) : AnyP P ops K fuel listed s := by
  intro X0 w0 m a w Q' hQ hs
  cases fuel with
  | zero => exact ⟨hR, hQ m s a w h hs⟩
  | succ n => exact ⟨fun _ => hQ m s a w h hs, fun i hi => by rw [hR] at hi; cases hi⟩
theorem any_op {P : Program} {ops : Array Oper} {K : AS → Prop} {o : Oper} {i : Nat} {s : AS} {X0 : Nat → Prop} {w0 : Base} {m : Mp} {a : Act} {w : World} {Q' : Exit → Act → World → Prop} {A : Act → World → Prop} (ho : ops[i]? = some o) (h : PL P ops [o] K s) (hs : Sim X0 w0 m s a w)
    (hK : ∀ m' s' a' w', K s' → Sim X0 w0 m' s' a' w' → A a' w') : wpOp P ops Q' i A a w := by
  have step : ∀ s, Sim X0 w0 m s a w → PO P o s K → o.wp P a w A Q' := by
    intro s hs h1
    exact Oper.wp_mono (fun a' w' ⟨m', s', h2, h3⟩ => hK m' s' a' w' h2 h3) (h1 X0 w0 m a w Q' hs)
  unfold wpOp
  simp only [ho]
  simp only [PL] at h
  split at h
  · rename_i hg
    simp only [Region.wanted, hg, if_true]
    exact .inl (step s hs h)
  · rename_i j want hg
    rcases h with ⟨b, h1, h2, h3⟩ | ⟨h1, h3⟩
    · have hy : yielded ops a.tmps j = some b := by
        unfold yB at h1
        cases hd : (ops[j]?).bind (·.dst) with
        | none => rw [hd] at h1; cases h1
        | some t =>
          rw [hd] at h1
          have h4 := hs.get (.tmp t)
          have h1' : lk s.fr.l t = .d (.bool b) := h1
          simp only [AS.get] at h4
          rw [h1'] at h4
          have h5 : a.tmps.getD t undef = .bool b := h4.bool
          have h6 : a.tmps[t]? = some (.bool b) := by
            rw [Array.getD_eq_getD_getElem?] at h5
            cases ht : a.tmps[t]? with
            | none => rw [ht] at h5; cases h5
            | some u => rw [ht] at h5; simp at h5; rw [h5]
          unfold yielded
          rw [hd]
          simp [h6]
      simp only [Region.wanted, hg, hy]
      by_cases hb : b = want
      · subst hb
        simp only [beq_self_eq_true, if_true]
        exact .inl (step s hs (h2 rfl))
      · have : (some b == some want) = false := by simpa using hb
        simp only [this, Bool.false_eq_true, if_false]
        exact hK _ _ _ _ (h3 hb) (hs.put (tup0 _ _ _) o.dst)
    · have hy : yielded ops a.tmps j = none := by
        unfold yB at h1
        cases hd : (ops[j]?).bind (·.dst) with
        | none => rw [hd] at h1; cases h1
        | some t =>
          rw [hd] at h1
          have h4 := hs.get (.tmp t)
          have h1' : lk s.fr.l t = .tup [] := h1
          simp only [AS.get] at h4
          rw [h1'] at h4
          have h5 : ∀ b, a.tmps.getD t undef ≠ .bool b := by
            intro b he
            have h4' : R m (Owned X0 m s.hp) w (.tup []) (a.tmps.getD t undef) := h4
            rw [he] at h4'
            cases h4'
          unfold yielded
          rw [hd]
          simp only [Option.bind_some]
          split
          · rename_i b hb
            exact absurd (by rw [Array.getD_eq_getD_getElem?, hb]; rfl) (h5 b)
          · rfl
      simp only [Region.wanted, hg, hy]
      have : ((none : Option Bool) == some want) = false := rfl
      simp only [this, Bool.false_eq_true, if_false]
      exact hK _ _ _ _ h3 (hs.put (tup0 _ _ _) o.dst)
/-- all that may come next -/
def AllR (P : Program) (G : List (Nat × TI)) (l : List Oper) (K : AS → Prop) (fuel : Nat) (listed : Array Bool) (s : AS) : List Nat → Prop
  | [] => True
  | i :: r => (∃ o, l[i]? = some o ∧ ∀ K' : AS → Prop, (∀ s', AnyP P l.toArray K fuel (listed.setIfInBounds i true) s' → K' s') → step1 false P G l.toArray o s K') ∧ AllR P G l K fuel listed s r
theorem any_step {P : Program} {G : List (Nat × TI)} (hG : GOK P G) (R : List Nat) {l : List Oper} {K : AS → Prop} {fuel : Nat} {listed : Array Bool} {s : AS} (hR : Region.ready .any l.toArray listed = R) (hne : R.isEmpty = false) (h : AllR P G l K fuel listed s R) : AnyP P l.toArray K (fuel + 1) listed s := by
  intro X0 w0 m a w Q' hQ hs
  refine ⟨fun h0 => (by rw [hR] at h0; subst h0; cases hne), fun i hi => ?_⟩
  rw [hR] at hi
  have key : ∀ R : List Nat, AllR P G l K fuel listed s R → ∀ i ∈ R, ∃ o, l[i]? = some o ∧ ∀ K' : AS → Prop, (∀ s', AnyP P l.toArray K fuel (listed.setIfInBounds i true) s' → K' s') → step1 false P G l.toArray o s K' := by
    intro R
    induction R with
    | nil => intro _ i hi; cases hi
    | cons j r ih =>
      rintro ⟨h1, h2⟩ i hi
      rcases List.mem_cons.1 hi with rfl | hi
      · exact h1
      · exact ih h2 i hi
  obtain ⟨o, ho, h1⟩ := key R h i hi
  have h2 : execL P G l.toArray [o] (AnyP P l.toArray K fuel (listed.setIfInBounds i true)) s := execL_step fun K' hK' => h1 K' fun s' hs' => hK' s' hs'
  exact any_op (by simpa using ho) (execL_sound hG _ _ _ h2) hs fun m' s' a' w' h3 h4 => h3 X0 w0 m' a' w' Q' hQ h4
theorem pw_any {P : Program} {Q : Exit → AS → Prop} {s : AS} {id : Nat} {l : List Oper} (hm : P.follows .mixedOrders = true) (h : AnyP P l.toArray (Q .normal) l.length (Array.replicate l.length false) s) : PW P (.region id l.toArray true) Q s := by
  intro X0 w0 m a w hs
  refine wp_region_any hm ?_
  have := h X0 w0 m a w.drew (fun e a' w' => ∃ m' s', Q e s' ∧ Sim X0 w0 m' s' a' w') (fun m' s' a' w' h1 h2 => ⟨m', s', h1, h2⟩) hs.drew
  simpa using this
theorem pw_seq_any_to {P : Program} (T : List (Nat × List Nat)) {Q : Exit → AS → Prop} {s s1 : AS} {id : Nat} {l : List Oper} {y : Code} (hm : P.follows .mixedOrders = true)
    (h : AnyP P l.toArray (fun s' => forget T id s' = s1 ∨ Fits (forget T id s') s1) l.length (Array.replicate l.length false) s) (h2 : PW P y Q s1) : PW P (.seq (.region id l.toArray true) y) Q s :=
  pw_seq_k fun K hK => pw_any hm fun X0 w0 m a w Q' hQ hs => h X0 w0 m a w Q' (fun m' s' a' w' h3 h4 => hQ m' s' a' w' (hK s' (pw_forget T id (by
    rcases h3 with h3 | h3
    · rw [h3]; exact h2
    · exact pw_fits h3 h2))) h4) hs
@[congr] theorem PW_congr {P : Program} {c : Code} {Q : Exit → AS → Prop} {s s' : AS} (h : s = s') : PW P c Q s = PW P c Q s' := by subst h; rfl
attribute [go_sem] forget tlook
@[go_sem] def kl2 : List (Nat × List Nat) := [(0, [0])]
@[go_sem] def kl3 : List (Nat × List Nat) := [(1, [52, 53, 54, 55, 56]), (3, [58, 59]), (4, [60, 61, 62, 63, 64]), (5, [65, 66, 67, 68, 69]), (6, [70, 71, 72, 73, 74]), (7, [75, 76, 77, 78, 79]), (8, [80, 81, 82, 83, 84]), (9, [85, 86, 87, 88, 89, 90]), (10, [91, 92, 93, 94, 95, 96]), (11, [97, 98, 99, 100, 101]), (12, [102, 103, 104, 105, 106, 107]), (13, [108, 109, 110, 111, 112, 113]), (14, [114, 115]), (15, [116, 117, 118, 119, 120, 121]), (16, [122, 123, 124, 125, 126, 127]), (17, [128, 129, 130, 131, 132, 133, 134, 135, 136, 137, 138, 139, 140, 141, 142, 143, 144, 145, 146, 147, 148, 149, 150, 151, 152, 153, 154, 155, 156, 157, 158, 159, 160, 161, 162, 163, 164, 165, 166, 167, 168, 169, 170, 171, 172, 173, 174, 175, 176, 177, 178, 179, 180, 181, 182, 183, 184, 185, 186, 187, 188, 189, 190, 191, 192, 193]), (20, [196, 197, 198, 199, 200, 201]), (21, [202, 203, 204, 205, 206, 207]), (22, [208, 209, 210, 211, 212, 213]), (23, [214, 215, 216, 217, 218, 219, 220, 221, 222, 223, 224, 225, 226, 227, 228, 229, 230, 231, 232, 233, 234, 235, 236, 237, 238, 239, 240, 241, 242, 243, 244, 245, 246, 247, 248, 249, 250, 251, 252, 253, 254, 255, 256, 257, 258, 259, 260]), (26, [263, 264, 265, 266, 267]), (27, [268, 269, 270, 271, 272]), (28, [273, 274, 275, 276, 277, 278, 279, 280, 281, 282, 283, 284, 285, 286, 287, 288, 289]), (32, [295, 296, 297]), (33, [298, 299, 300, 301, 302, 303, 304, 305, 306]), (35, [308]), (36, [309]), (40, [315, 316, 317]), (41, [318, 319, 320, 321, 322, 323, 324, 325, 326, 327, 328, 329, 330]), (43, [332]), (44, [334, 335, 336, 337, 338]), (45, [339, 340, 341, 342, 343, 344, 345, 346, 347, 348, 349, 350]), (46, [351, 352, 353, 354, 355, 356, 357, 358, 359, 360, 361, 362, 363, 364, 365, 366, 367, 368, 369, 370, 371, 372, 373, 374, 375, 376, 377, 378, 379, 380, 381, 382, 383, 384, 385, 386, 387, 388, 389, 390, 391, 392, 393, 394, 395, 396, 397, 398, 399, 400]), (48, [402]), (49, [403, 404, 405, 406, 407])]
@[go_sem] def kl4 : List (Nat × List Nat) := [(1, [49, 50, 51, 52, 53]), (3, [55, 56, 57, 58, 59, 60, 61]), (4, [62, 63, 64, 65, 66, 67, 68, 69]), (5, [70, 71, 72, 73, 74, 75, 76, 77]), (6, [78, 79, 80, 81, 82, 83, 84]), (7, [85, 86, 87, 88, 89, 90, 91, 92]), (8, [93, 94, 95, 96, 97, 98, 99, 100]), (9, [101, 102, 103, 104, 105]), (10, [106, 107, 108, 109, 110, 111]), (11, [112, 113, 114, 115, 116, 117]), (12, [118, 119, 120, 121, 122]), (13, [123, 124, 125, 126, 127, 128]), (14, [129, 130, 131, 132, 133, 134]), (15, [135, 136, 137, 138, 139, 140, 141, 142, 143, 144, 145, 146, 147, 148, 149, 150, 151, 152, 153, 154, 155, 156, 157, 158, 159, 160, 161, 162, 163, 164, 165, 166, 167, 168, 169, 170, 171, 172, 173]), (18, [176, 177, 178, 179, 180, 181, 182, 183, 184, 185, 186, 187, 188, 189, 190]), (19, [191, 192, 193, 194, 195, 196, 197, 198, 199, 200, 201, 202, 203, 204, 205, 206, 207, 208, 209]), (24, [216, 217, 218]), (25, [219, 220, 221, 222, 223, 224, 225, 226, 227, 228, 229, 230, 231, 232, 233, 234, 235, 236, 237, 238]), (27, [240]), (28, [241, 242, 243, 244, 245, 246, 247, 248, 249, 250, 251, 252, 253, 254, 255]), (30, [257]), (32, [259, 260, 261, 262, 263, 264, 265, 266]), (33, [267, 268, 269, 270, 271]), (34, [272, 273, 274, 275, 276]), (35, [277, 278, 279, 280, 281, 282, 283, 284, 285, 286, 287, 288, 289, 290, 291, 292, 293, 294, 295, 296, 297, 298, 299]), (37, [301]), (39, [303, 304, 305, 306, 307, 308, 309, 310, 311]), (40, [312, 313, 314, 315, 316]), (41, [317, 318, 319, 320, 321]), (42, [322, 323, 324, 325, 326, 327, 328, 329, 330, 331, 332, 333, 334, 335, 336, 337, 338, 339, 340, 341])]
@[go_sem] def kl5 : List (Nat × List Nat) := [(1, [47, 48]), (3, [50, 51, 52, 53, 54]), (4, [55, 56, 57, 58, 59, 60]), (5, [61, 62, 63, 64, 65, 66]), (6, [67, 68, 69, 70, 71, 72, 73]), (7, [74, 75, 76, 77, 78, 79, 80]), (8, [81, 82, 83, 84, 85, 86, 87, 88, 89, 90, 91, 92, 93, 94, 95, 96, 97, 98, 99, 100, 101, 102, 103, 104, 105, 106, 107, 108, 109, 110, 111, 112, 113, 114]), (11, [117, 118, 119, 120, 121]), (12, [122, 123, 124, 125, 126]), (13, [127, 128, 129, 130, 131, 132, 133, 134, 135, 136, 137]), (17, [143, 144, 145]), (18, [146, 147, 148, 149]), (19, [150, 151, 152, 153, 154, 155, 156, 157, 158, 159, 160, 161, 162, 163, 164, 165, 166, 167, 168, 169, 170, 171, 172, 173, 174, 175, 176, 177, 178, 179, 180, 181, 182]), (21, [184]), (22, [185, 186, 187, 188, 189, 190]), (23, [191, 192, 193, 194, 195, 196, 197, 198]), (24, [199, 200, 201, 202, 203, 204, 205, 206]), (25, [207, 208, 209, 210, 211, 212, 213, 214, 215, 216, 217, 218, 219, 220, 221, 222, 223, 224, 225, 226, 227, 228, 229, 230, 231, 232, 233, 234, 235, 236, 237, 238, 239, 240, 241, 242, 243, 244, 245, 246, 247, 248, 249]), (27, [251, 252, 253, 254, 255, 256, 257]), (28, [258, 259, 260, 261, 262, 263, 264, 265]), (29, [266, 267, 268, 269, 270, 271, 272, 273]), (30, [274, 275, 276, 277, 278, 279, 280, 281, 282, 283, 284, 285, 286, 287]), (33, [290, 291, 292, 293, 294, 295, 296, 297, 298, 299, 300, 301, 302, 303, 304, 305, 306]), (34, [307, 308, 309, 310, 311]), (35, [312, 313, 314, 315, 316]), (36, [317, 318, 319, 320, 321, 322, 323, 324, 325, 326, 327, 328, 329, 330, 331, 332, 333, 334, 335, 336, 337, 338, 339, 340, 341, 342, 343, 344, 345, 346])]
@[go_sem] def kl6 : List (Nat × List Nat) := [(1, [48, 49]), (3, [51, 52, 53, 54, 55, 56, 57]), (4, [58, 59, 60, 61, 62, 63, 64, 65]), (5, [66, 67, 68, 69, 70, 71, 72, 73]), (6, [74, 75, 76, 77, 78, 79, 80, 81]), (7, [82, 83, 84, 85, 86, 87, 88, 89]), (8, [90, 91, 92, 93, 94, 95, 96, 97, 98, 99, 100, 101, 102, 103, 104, 105, 106, 107, 108, 109, 110, 111, 112, 113]), (11, [116, 117, 118, 119, 120, 121]), (12, [122, 123, 124, 125, 126, 127]), (13, [128, 129, 130, 131, 132, 133, 134, 135, 136, 137, 138, 139, 140, 141, 142, 143, 144, 145, 146, 147, 148, 149, 150, 151]), (17, [157, 158]), (18, [159, 160]), (20, [162]), (24, [167, 168]), (25, [169, 170, 171, 172]), (26, [174, 175]), (27, [176]), (28, [177, 178, 179, 180, 181, 182]), (32, [188, 189]), (33, [190, 191]), (35, [193]), (36, [194, 195, 196, 197, 198]), (37, [199, 200, 201, 202, 203, 204]), (38, [205, 206, 207, 208, 209, 210]), (39, [211, 212, 213, 214, 215]), (40, [216, 217, 218, 219, 220, 221]), (41, [222, 223, 224, 225, 226, 227]), (42, [228, 229, 230, 231, 232]), (43, [233, 234, 235, 236, 237, 238, 239]), (44, [240, 241, 242, 243, 244, 245, 246]), (45, [247, 248, 249, 250, 251, 252, 253, 254, 255, 256, 257, 258, 259, 260, 261, 262, 263, 264, 265, 266, 267, 268, 269, 270, 271, 272, 273, 274, 275, 276, 277, 278, 279, 280, 281]), (47, [283, 284, 285, 286, 287, 288, 289, 290, 291, 292, 293, 294, 295, 296, 297])]
@[go_sem] def kl7 : List (Nat × List Nat) := [(1, [3, 4])]
@[go_sem] def kl8 : List (Nat × List Nat) := [(1, [4, 5]), (3, [7, 8])]
@[go_sem] def kl9 : List (Nat × List Nat) := [(1, [4, 5]), (3, [7, 8])]
@[go_sem] def kl10 : List (Nat × List Nat) := [(1, [6, 7]), (3, [9]), (4, [10]), (6, [14]), (7, [15, 16, 17, 18, 19, 20]), (8, [21]), (9, [22])]
@[go_sem] def kl11 : List (Nat × List Nat) := [(1, [4, 5]), (3, [7, 8])]
@[go_sem] def kl12 : List (Nat × List Nat) := [(1, [6, 7, 8]), (2, [9, 10]), (3, [11, 12]), (4, [14, 15, 16, 17]), (5, [18, 19, 20, 21, 22, 23, 24, 25, 26, 27, 28, 29, 30, 31])]
@[go_sem] def kl13 : List (Nat × List Nat) := [(1, [6, 7, 8, 9, 10, 11, 12, 13, 14, 15, 16, 17, 18, 19, 20, 21]), (3, [23, 24, 25])]
@[go_sem] def kl14 : List (Nat × List Nat) := [(1, [6, 7, 8, 9, 10, 11, 12, 13, 14, 15, 16, 17, 18, 19, 20, 21]), (3, [23, 24, 25])]
@[go_sem] def kl15 : List (Nat × List Nat) := [(1, [6, 7, 8]), (2, [9, 10]), (3, [11, 12, 13, 14, 15, 16, 17, 18, 19, 20])]
@[go_sem] def kl16 : List (Nat × List Nat) := [(1, [6, 7, 8]), (3, [10, 11, 12, 13])]
@[go_sem] def kl17 : List (Nat × List Nat) := [(1, [9, 10, 11, 12, 13, 14, 15, 16, 17, 18]), (6, [24, 25, 26]), (7, [27, 28, 29, 30, 31, 32]), (8, [34, 35, 36, 37]), (9, [38]), (10, [39])]
@[go_sem] def kl18 : List (Nat × List Nat) := [(1, [5, 6, 7]), (2, [8, 9]), (3, [10, 11]), (4, [13, 14]), (5, [15, 16, 17, 18, 19, 20, 21])]
@[go_sem] def kl19 : List (Nat × List Nat) := [(1, [7, 8]), (3, [10, 11, 12, 13, 14]), (4, [15, 16])]
@[go_sem] def kl20 : List (Nat × List Nat) := [(1, [7, 8]), (3, [10, 11, 12, 13, 14]), (4, [15, 16])]
@[go_sem] def kl21 : List (Nat × List Nat) := [(1, [6, 7, 8, 9]), (3, [11]), (5, [15]), (6, [16, 17, 18, 19, 20, 21, 22, 23]), (8, [25])]
@[go_sem] def kl22 : List (Nat × List Nat) := [(3, [11, 12, 13]), (4, [14, 15, 16, 17, 18, 19, 20, 21, 22, 23, 24, 25, 26]), (6, [28, 29]), (8, [34, 35]), (9, [36, 37, 38, 39]), (11, [41]), (12, [42]), (13, [43, 44, 45])]
@[go_sem] def kl23 : List (Nat × List Nat) := [(3, [11, 12]), (4, [13, 14]), (6, [16])]
@[go_sem] def kl24 : List (Nat × List Nat) := [(1, [8, 9, 10]), (2, [11, 12]), (3, [13, 14, 15, 16, 17, 18, 19, 20, 21, 22, 23, 24, 25, 26, 27])]
@[go_sem] def kl25 : List (Nat × List Nat) := [(1, [10, 11, 12, 13, 14, 15, 16, 17, 18, 19, 20, 21, 22, 23]), (3, [25, 26, 27, 28, 29, 30, 31])]
@[go_sem] def kl26 : List (Nat × List Nat) := [(1, [13, 14, 15, 16, 17, 18, 19, 20, 21, 22, 23, 24, 25, 26, 27, 28, 29]), (4, [31, 32]), (5, [34, 35, 36, 37]), (6, [38, 39, 40, 41, 42, 43, 44, 45]), (7, [47]), (8, [48, 49]), (9, [50]), (11, [52])]
@[go_sem] def kl27 : List (Nat × List Nat) := [(1, [8, 9, 10]), (2, [11, 12]), (3, [13, 14, 15, 16, 17, 18, 19, 20, 21, 22, 23, 24, 25, 26, 27, 28, 29, 30, 31])]
@[go_sem] def kl28 : List (Nat × List Nat) := [(1, [11, 12, 13, 14, 15, 16, 17, 18, 19]), (3, [21, 22, 23, 24, 25]), (4, [26, 27]), (6, [29])]
@[go_sem] def kl29 : List (Nat × List Nat) := [(1, [10, 11, 12, 13, 14, 15, 16, 17, 18, 19, 20, 21, 22]), (3, [24, 25, 26, 27, 28])]
@[go_sem] def kl30 : List (Nat × List Nat) := [(1, [5, 6, 7]), (2, [8, 9, 10, 11, 12, 13, 14, 15])]
@[go_sem] def kl31 : List (Nat × List Nat) := [(1, [12, 13, 14]), (3, [16]), (6, [21, 22]), (7, [23, 24, 25, 26, 27, 28, 29, 30]), (8, [31]), (9, [32, 33]), (12, [38, 39, 40]), (13, [41]), (14, [43, 44, 45]), (15, [46]), (16, [47])]
@[go_sem] def kl32 : List (Nat × List Nat) := [(1, [12, 13, 14]), (6, [20, 21]), (10, [26, 27]), (11, [28, 29, 30, 31, 32, 33, 34, 35, 36, 37]), (12, [39, 40]), (13, [41]), (14, [42, 43, 44, 45, 46]), (16, [48, 49, 50, 51]), (17, [52]), (18, [53])]
@[go_sem] def kl33 : List (Nat × List Nat) := [(1, [5, 6, 7]), (2, [8, 9, 10, 11])]
@[go_sem] def kl34 : List (Nat × List Nat) := [(1, [11, 12, 13, 14, 15, 16, 17]), (6, [23, 24, 25]), (7, [26, 27]), (9, [32, 33]), (10, [34, 35, 36, 37, 38, 39, 40, 41, 42, 43, 44, 45, 46]), (11, [48, 49, 50, 51, 52, 53, 54, 55, 56, 57, 58, 59, 60, 61, 62, 63, 64, 65, 66, 67, 68, 69, 70, 71, 72, 73, 74]), (12, [76, 77]), (13, [78]), (14, [79]), (15, [80])]
@[go_sem] def kl35 : List (Nat × List Nat) := [(1, [13, 14, 15, 16, 17, 18, 19]), (6, [25, 26, 27]), (7, [28, 29]), (9, [34, 35]), (10, [36, 37, 38, 39, 40, 41, 42, 43, 44, 45, 46, 47]), (11, [48, 49, 50, 51, 52, 53, 54, 55, 56, 57, 58, 59, 60, 61]), (12, [62, 63, 64, 65, 66, 67, 68, 69, 70, 71, 72, 73, 74, 75, 76, 77, 78, 79, 80]), (13, [82, 83]), (14, [84]), (15, [85]), (16, [86])]
@[go_sem] def kl36 : List (Nat × List Nat) := [(1, [6, 7, 8, 9]), (3, [11]), (5, [15]), (6, [16, 17, 18, 19, 20, 21, 22, 23, 24, 25, 26, 27, 28, 29, 30, 31, 32, 33, 34, 35, 36, 37, 38, 39]), (8, [41])]
@[go_sem] def kl37 : List (Nat × List Nat) := [(1, [5, 6, 7, 8, 9, 10, 11, 12, 13, 14, 15])]
@[go_sem] def kl38 : List (Nat × List Nat) := [(1, [5, 6, 7]), (2, [8, 9, 10, 11])]
@[go_sem] def kl39 : List (Nat × List Nat) := [(1, [6, 7, 8, 9, 10, 11, 12]), (3, [14, 15, 16, 17, 18])]
@[go_sem] def kl40 : List (Nat × List Nat) := [(1, [6, 7, 8, 9, 10, 11, 12]), (3, [14, 15, 16, 17, 18])]
@[go_sem] def kl41 : List (Nat × List Nat) := [(1, [12, 13, 14, 15, 16, 17, 18]), (3, [20, 21, 22]), (4, [23, 24]), (6, [26, 27, 28, 29, 30, 31, 32, 33, 34]), (9, [39, 40]), (10, [41, 42, 43, 44]), (11, [46, 47, 48, 49]), (12, [50]), (13, [51, 52, 53, 54])]
@[go_sem] def kl42 : List (Nat × List Nat) := [(1, [12, 13, 14, 15, 16, 17, 18, 19, 20, 21, 22, 23, 24, 25]), (3, [27, 28, 29]), (4, [30, 31, 32, 33, 34, 35, 36, 37]), (8, [42, 43]), (9, [44, 45, 46, 47]), (10, [49, 50, 51, 52]), (11, [53]), (12, [54, 55, 56, 57])]
@[go_sem] def kl43 : List (Nat × List Nat) := [(1, [6, 7, 8, 9]), (3, [11]), (5, [15]), (6, [16, 17, 18, 19, 20, 21, 22, 23]), (8, [25])]
@[go_sem] def kl44 : List (Nat × List Nat) := [(3, [11, 12]), (4, [13, 14]), (6, [16])]
@[go_sem] def kl45 : List (Nat × List Nat) := [(1, [7, 8, 9]), (2, [10, 11]), (3, [12, 13, 14, 15, 16, 17, 18, 19, 20])]
@[go_sem] def kl46 : List (Nat × List Nat) := [(1, [10, 11, 12, 13, 14, 15, 16, 17, 18, 19, 20, 21, 22]), (3, [24, 25, 26, 27]), (4, [28, 29, 30, 31]), (5, [32, 33, 34, 35, 36, 37, 38, 39, 40, 41, 42, 43])]
@[go_sem] def kl47 : List (Nat × List Nat) := [(1, [11, 12, 13, 14, 15, 16, 17, 18, 19, 20, 21, 22, 23]), (3, [25, 26, 27, 28]), (4, [29, 30, 31, 32, 33, 34]), (5, [35, 36, 37, 38]), (6, [39, 40, 41, 42, 43, 44, 45, 46])]
@[go_sem] def kl48 : List (Nat × List Nat) := [(1, [8, 9, 10]), (2, [11, 12]), (3, [13, 14, 15, 16, 17, 18, 19, 20, 21, 22, 23, 24, 25, 26, 27, 28, 29])]
@[go_sem] def kl49 : List (Nat × List Nat) := [(1, [12, 13, 14, 15, 16, 17, 18, 19, 20, 21, 22, 23, 24, 25, 26, 27, 28, 29, 30, 31, 32, 33, 34, 35, 36]), (3, [38, 39, 40, 41, 42, 43, 44, 45]), (4, [46]), (6, [48, 49, 50, 51, 52, 53, 54, 55, 56, 57, 58])]
@[go_sem] def kl50 : List (Nat × List Nat) := [(1, [12, 13, 14, 15, 16, 17, 18, 19]), (2, [20, 21, 22, 23, 24, 25, 26, 27, 28, 29, 30, 31]), (4, [33, 34, 35, 36, 37, 38, 39, 40, 41, 42, 43])]
@[go_sem] def kl51 : List (Nat × List Nat) := [(1, [8, 9, 10]), (2, [11, 12]), (3, [13, 14, 15, 16, 17, 18, 19, 20])]
@[go_sem] def kl52 : List (Nat × List Nat) := [(1, [12, 13, 14, 15, 16]), (3, [11, 18, 19, 20, 21, 22, 23, 24, 25]), (4, [26, 27, 28])]
@[go_sem] def kl53 : List (Nat × List Nat) := [(1, [12, 13, 14, 15, 16]), (3, [11, 18, 19, 20, 21, 22, 23, 24, 25]), (4, [26, 27, 28])]
@[go_sem] def kl54 : List (Nat × List Nat) := [(1, [12, 13, 14, 15, 16]), (3, [10, 18, 19, 20, 21, 22, 23, 24, 25]), (4, [26, 27, 28])]
@[go_sem] def kl55 : List (Nat × List Nat) := [(1, [12, 13, 14, 15, 16]), (3, [10, 18, 19, 20, 21, 22, 23, 24, 25]), (4, [26, 27, 28])]
@[go_sem] def kl56 : List (Nat × List Nat) := [(1, [10, 11, 12, 13, 14, 15, 16]), (3, [18]), (6, [23, 24]), (7, [25, 26, 27]), (8, [28]), (10, [30, 31, 32, 33, 34, 35, 36, 37, 38, 39, 40]), (11, [41]), (12, [42])]
@[go_sem] def kl57 : List (Nat × List Nat) := [(1, [10, 11, 12, 13, 14, 15, 16]), (3, [18]), (7, [23, 24]), (8, [25, 26, 27]), (9, [29, 30, 31, 32, 33, 34, 35, 36]), (10, [37, 38]), (11, [39]), (12, [40, 41, 42]), (14, [44])]
@[go_sem] def kl58 : List (Nat × List Nat) := [(4, [10, 11]), (5, [12, 13, 14]), (6, [15]), (7, [16])]
@[go_sem] def kl59 : List (Nat × List Nat) := [(1, [6, 7, 8]), (2, [9, 10]), (3, [11, 12, 13, 14])]
@[go_sem] def kl60 : List (Nat × List Nat) := [(1, [6, 7]), (3, [9, 10, 11])]
@[go_sem] def kl61 : List (Nat × List Nat) := [(1, [6, 7]), (3, [9, 10, 11])]
@[go_sem] def kl62 : List (Nat × List Nat) := [(1, [9, 10, 11]), (2, [12, 13, 14, 15]), (3, [16]), (4, [18, 19, 20]), (8, [25, 26]), (9, [27, 28, 29, 30, 31, 32, 33, 34]), (10, [36, 37, 38, 39, 40]), (11, [41]), (12, [42, 43])]
@[go_sem] def kl63 : List (Nat × List Nat) := [(1, [5, 6, 7]), (2, [8, 9, 10, 11])]
@[go_sem] def kl64 : List (Nat × List Nat) := [(1, [7, 8, 9, 10, 11, 12, 13]), (3, [15, 16, 17, 18, 19, 20])]
@[go_sem] def kl65 : List (Nat × List Nat) := [(1, [7, 8, 9, 10, 11, 12, 13]), (3, [15, 16, 17, 18, 19, 20])]
@[go_sem] def kl66 : List (Nat × List Nat) := [(1, [4, 5, 6]), (2, [7, 8])]
@[go_sem] def kl67 : List (Nat × List Nat) := [(1, [4, 5, 6]), (2, [7, 8, 9]), (3, [10])]
@[go_sem] def kl68 : List (Nat × List Nat) := [(4, [10, 11]), (5, [12, 13, 14, 15, 16, 17, 18, 19, 20, 21, 22, 23, 24, 25, 26, 27, 28, 29, 30]), (7, [32, 33, 34, 35, 36]), (8, [37]), (9, [38, 39, 40])]
@[go_sem] def kl69 : List (Nat × List Nat) := [(4, [12, 13, 14]), (5, [15, 16]), (6, [17]), (7, [19, 20, 21, 22, 23, 24, 25, 26, 27, 28]), (8, [29, 30, 31, 32, 33, 34, 35, 36, 37, 38, 39, 40, 41, 42, 43, 44, 45, 46, 47]), (9, [49, 50]), (10, [51, 52, 53, 54, 55, 56, 57, 58, 59, 60, 61]), (11, [62]), (12, [63])]
@[go_sem] def kl70 : List (Nat × List Nat) := [(4, [12, 13]), (5, [14, 15, 16, 17, 18, 19]), (6, [21, 22]), (7, [23]), (8, [24])]
@[go_sem] def kl71 : List (Nat × List Nat) := [(2, [5]), (4, [9]), (5, [10, 11, 12, 13, 14, 15]), (6, [16]), (7, [17])]
@[go_sem] def kl72 : List (Nat × List Nat) := [(1, [7, 8, 9, 10, 11]), (2, [12, 13]), (3, [15, 16, 17, 18, 19, 20]), (4, [21]), (5, [24]), (6, [25, 26, 27, 28, 29, 30, 31, 32, 33, 34]), (7, [36]), (8, [37, 38, 39, 40, 41, 42, 43, 44]), (9, [46]), (10, [47, 48, 49, 50, 51, 52, 53, 54, 55]), (11, [57]), (12, [58, 59, 60]), (13, [62]), (15, [63, 64, 65]), (16, [67, 68, 69, 70, 71, 72, 73, 74, 75, 76, 77, 78]), (17, [80]), (18, [81]), (20, [85]), (21, [86, 87, 88, 89, 90]), (22, [91]), (23, [92])]
@[go_sem] def kl73 : List (Nat × List Nat) := [(1, [9, 10]), (2, [11, 12, 13, 14]), (3, [16, 17, 18, 19, 20, 21, 22, 23, 24, 25]), (4, [26, 27]), (5, [28, 29, 30, 31, 32]), (6, [34, 35]), (7, [36, 37, 38, 39]), (8, [40])]
@[go_sem] def kl74 : List (Nat × List Nat) := [(1, [6]), (3, [8, 9]), (4, [10]), (5, [12, 13, 14, 15, 16]), (6, [17, 18, 19])]
@[go_sem] def kl75 : List (Nat × List Nat) := [(1, [5]), (3, [10, 11, 12]), (4, [13, 14, 15, 16, 17, 18, 19, 20, 21, 22, 23, 24, 25, 26, 27, 28, 29, 30, 31]), (6, [33]), (7, [34, 35, 36, 37, 38, 39, 40, 41, 42])]
@[go_sem] def kl76 : List (Nat × List Nat) := [(1, [10, 11, 12, 13, 14]), (2, [15, 16, 17, 18, 19]), (3, [20, 21]), (4, [23, 24, 25, 26]), (5, [27, 28]), (6, [30, 31, 32, 33]), (7, [34, 35, 36, 37]), (8, [38]), (9, [40, 41]), (10, [42, 43, 44, 45, 46, 47, 48, 49, 50, 51]), (11, [53, 54, 55, 56, 57, 58, 59, 60, 61, 62, 63, 64])]
@[go_sem] def kl77 : List (Nat × List Nat) := [(2, [6]), (4, [11, 12]), (5, [13, 14, 15, 16, 17, 18, 19, 20, 21]), (7, [23, 24]), (8, [25]), (9, [26, 27, 28, 29, 30, 31, 32, 33, 34])]
@[go_sem] def kl78 : List (Nat × List Nat) := [(1, [10, 11, 12, 13, 14]), (2, [15, 16, 17, 18, 19]), (3, [20, 21]), (4, [23, 24, 25, 26]), (5, [27, 28]), (6, [30, 31, 32, 33]), (7, [34, 35, 36, 37]), (8, [38]), (9, [40, 41]), (10, [42, 43, 44, 45, 46, 47, 48, 49, 50, 51]), (11, [53, 54, 55, 56, 57, 58, 59, 60, 61, 62, 63, 64])]
@[go_sem] def kl79 : List (Nat × List Nat) := [(1, [5, 6, 7, 8, 9, 10, 11, 12, 13])]
@[go_sem] def kl80 : List (Nat × List Nat) := [(1, [7]), (4, [11]), (5, [12, 13]), (6, [15, 16, 17, 18]), (7, [19]), (8, [20])]
@[go_sem] def kl81 : List (Nat × List Nat) := [(1, [5, 6, 7, 8, 9, 10, 11])]
@[go_sem] def kl82 : List (Nat × List Nat) := [(1, [7, 8, 9, 10, 11, 12, 13, 14])]
@[go_sem] def kl83 : List (Nat × List Nat) := [(2, [8]), (4, [13, 14]), (5, [15]), (6, [17, 18, 19]), (7, [20, 21]), (8, [22]), (9, [23, 24])]
@[go_sem] def kl84 : List (Nat × List Nat) := [(2, [8]), (4, [13, 14]), (5, [15]), (6, [17, 18, 19]), (7, [20, 21]), (8, [22]), (9, [23, 24])]
@[go_sem] def kl85 : List (Nat × List Nat) := [(1, [5, 6, 7, 8, 9, 10, 11])]
@[go_sem] def kl86 : List (Nat × List Nat) := [(1, [5, 6, 7, 8, 9, 10, 11, 12, 13, 14, 15, 16, 17, 18, 19, 20, 21])]
@[go_sem] def kl87 : List (Nat × List Nat) := [(1, [7, 8, 9, 10, 11, 12, 13, 14])]
@[go_sem] def kl88 : List (Nat × List Nat) := [(2, [14, 15, 16, 17, 18]), (3, [19, 20, 21, 22, 23, 24, 25, 26, 27]), (5, [29, 30]), (6, [32, 33, 34, 35]), (7, [36, 37, 38, 39, 40, 41, 42, 43]), (8, [45]), (9, [46, 47]), (10, [48])]
@[go_sem] def kl89 : List (Nat × List Nat) := [(1, [7, 8, 9, 10, 11, 12, 13, 14, 15, 16])]
@[go_sem] def kl90 : List (Nat × List Nat) := [(4, [17, 18, 19]), (5, [20, 21, 22, 23, 24, 25]), (6, [26, 27]), (7, [29, 30, 31, 32, 33]), (8, [34, 35, 36, 37]), (9, [38]), (10, [39])]
@[go_sem] def kl91 : List (Nat × List Nat) := [(4, [12, 13]), (5, [14, 15, 16, 17, 18, 19]), (6, [21, 22]), (7, [23]), (8, [24])]
@[go_sem] def kl92 : List (Nat × List Nat) := [(1, [12]), (4, [17, 18]), (5, [19, 20, 21, 22, 23, 24, 25, 26, 27]), (6, [28]), (7, [29, 30, 31, 32, 33, 34, 35, 36]), (8, [37])]
@[go_sem] def kl93 : List (Nat × List Nat) := [(1, [9]), (4, [14, 15]), (8, [20, 21]), (9, [22, 23]), (10, [25, 26]), (11, [27]), (12, [28, 29, 30, 31]), (13, [32]), (14, [33])]
@[go_sem] def kl94 : List (Nat × List Nat) := [(1, [5, 6, 7, 8, 9, 10, 11, 12, 13, 14, 15, 16, 17, 18, 19, 20, 21])]
@[go_sem] def kl95 : List (Nat × List Nat) := [(1, [4, 5]), (3, [7, 8])]
@[go_sem] def kl96 : List (Nat × List Nat) := [(1, [4, 5]), (3, [7, 8])]
@[go_sem] def kl97 : List (Nat × List Nat) := [(1, [3, 4, 5, 6, 7, 8])]
@[go_sem] def kl98 : List (Nat × List Nat) := [(1, [3, 4])]
@[go_sem] def kl99 : List (Nat × List Nat) := [(1, [8]), (4, [13, 14]), (5, [15, 16, 17, 18, 19, 20, 21, 22]), (6, [23]), (7, [24])]
@[go_sem] def kl100 : List (Nat × List Nat) := [(1, [8]), (2, [9]), (4, [14, 15]), (5, [16, 17, 18, 19]), (6, [21, 22, 23, 24]), (7, [25]), (8, [26])]
@[go_sem] def kl101 : List (Nat × List Nat) := [(1, [3, 4])]
@[go_sem] def kl102 : List (Nat × List Nat) := [(4, [12, 13]), (5, [14, 15, 16, 17, 18, 19, 20, 21]), (6, [22]), (7, [23])]
@[go_sem] def kl103 : List (Nat × List Nat) := [(2, [8]), (4, [13, 14]), (5, [15, 16, 17, 18]), (6, [20, 21, 22, 23]), (7, [24]), (8, [25])]
@[go_sem] def kl104 : List (Nat × List Nat) := [(1, [6]), (2, [7]), (4, [12, 13]), (5, [14, 15, 16, 17, 18, 19, 20]), (6, [22, 23, 24, 25]), (7, [26]), (8, [27])]
@[go_sem] def kl105 : List (Nat × List Nat) := [(1, [3, 4, 5])]
@[go_sem] def kl106 : List (Nat × List Nat) := [(2, [6]), (4, [11, 12]), (5, [13, 14, 15, 16, 17, 18, 19]), (6, [21, 22, 23, 24]), (7, [25]), (8, [26])]
@[go_sem] def kl107 : List (Nat × List Nat) := [(1, [5, 6]), (2, [8]), (3, [9])]
@[go_sem] def kl108 : List (Nat × List Nat) := [(1, [3, 4, 5])]
@[go_sem] def kl109 : List (Nat × List Nat) := [(1, [5, 6]), (2, [8]), (3, [9])]
@[go_sem] def kl110 : List (Nat × List Nat) := [(4, [13, 14]), (5, [15, 16, 17, 18, 19, 20, 21, 22, 23, 24, 25, 26]), (6, [27]), (7, [28, 29]), (8, [31, 32, 33, 34, 35, 36]), (9, [37]), (10, [40]), (11, [41, 42, 43, 44, 45, 46]), (12, [48]), (13, [49, 50, 51, 52, 53, 54, 55, 56, 57, 58]), (14, [60]), (15, [61, 62]), (16, [63])]
@[go_sem] def kl111 : List (Nat × List Nat) := [(1, [3, 4, 5, 6, 7, 8])]
@[go_sem] def kl112 : List (Nat × List Nat) := [(1, [9, 10, 11, 12, 13, 14, 15, 16, 17, 18, 19, 20, 21, 22, 23])]
@[go_sem] def kl113 : List (Nat × List Nat) := [(1, [16, 17, 18]), (2, [19]), (4, [24, 25]), (5, [26, 27, 28, 29, 30]), (6, [31, 32, 33, 34, 35, 36, 37, 38, 39, 40]), (7, [42, 43, 44, 45]), (8, [46, 47, 48, 49, 50]), (9, [51, 52, 53, 54]), (10, [55]), (11, [56, 57])]
@[go_sem] def kl114 : List (Nat × List Nat) := [(1, [9, 10, 11, 12, 13, 14, 15, 16, 17, 18, 19, 20, 21, 22, 23])]
@[go_sem] def kl115 : List (Nat × List Nat) := [(1, [16]), (3, [17]), (5, [22, 23]), (6, [24, 25, 26, 27, 28]), (7, [29, 30, 31, 32, 33, 34, 35, 36, 37, 38, 39]), (8, [41, 42, 43, 44, 45, 46]), (9, [47, 48, 49, 50]), (10, [51, 52, 53, 54]), (11, [55]), (12, [56, 57])]
@[go_sem] def kl116 : List (Nat × List Nat) := [(3, [11, 12, 13]), (4, [14, 15, 16, 17, 18, 19, 20, 21, 22]), (6, [24, 25]), (8, [30, 31]), (9, [32, 33, 34, 35]), (11, [37]), (12, [38]), (13, [39, 40, 41])]
@[go_sem] def kl117 : List (Nat × List Nat) := [(3, [9, 10, 11]), (4, [12, 13, 14, 15, 16, 17, 18, 19, 20]), (6, [22]), (7, [23, 24, 25])]
@[go_sem] def kl118 : List (Nat × List Nat) := [(1, [6]), (3, [10]), (4, [11, 12, 13, 14, 15]), (5, [17]), (6, [18])]
@[go_sem] def kl119 : List (Nat × List Nat) := [(1, [4, 5, 6, 7])]
@[go_sem] def kl120 : List (Nat × List Nat) := [(4, [10, 11]), (5, [12, 13, 14]), (7, [16, 17, 18, 19, 20]), (8, [21]), (9, [22, 23])]
@[go_sem] def kl121 : List (Nat × List Nat) := [(3, [9, 10, 11]), (4, [12, 13, 14, 15, 16, 17, 18, 19, 20]), (6, [22]), (7, [23, 24, 25])]
@[go_sem] def kl122 : List (Nat × List Nat) := [(3, [11, 12]), (4, [13, 14]), (6, [16])]
@[go_sem] def kl123 : List (Nat × List Nat) := [(1, [7, 8, 9, 10, 11, 12, 13, 14, 15]), (5, [21, 22, 23]), (6, [24, 25, 26, 27, 28, 29, 30]), (8, [32])]
@[go_sem] def kl124 : List (Nat × List Nat) := [(1, [7, 8, 9, 10]), (5, [16, 17, 18]), (6, [19, 20, 21, 22, 23, 24, 25, 26, 27, 28, 29, 30, 31]), (8, [33])]
@[go_sem] def kl125 : List (Nat × List Nat) := [(1, [5, 6, 7, 8])]
@[go_sem] def kl126 : List (Nat × List Nat) := [(2, [7, 8]), (3, [9]), (4, [11, 12]), (5, [13, 14, 15]), (6, [16, 17, 18, 19, 20, 21, 22]), (7, [24, 25, 26, 27]), (8, [28]), (9, [31]), (10, [32, 33, 34, 35, 36, 37]), (11, [39]), (13, [40, 41, 42]), (14, [43, 44, 45]), (15, [47, 48, 49, 50, 51, 52]), (16, [53])]
@[go_sem] def kl127 : List (Nat × List Nat) := [(1, [8]), (4, [13, 14]), (5, [15, 16, 17]), (6, [19, 20, 21, 22]), (7, [23]), (8, [24])]
@[go_sem] def kl128 : List (Nat × List Nat) := [(4, [12, 13]), (5, [14, 15, 16]), (6, [18, 19, 20, 21]), (7, [22]), (8, [23])]
@[go_sem] def kl129 : List (Nat × List Nat) := []
@[go_sem] def kl130 : List (Nat × List Nat) := [(0, [5, 6]), (1, [7, 8, 9, 10, 11, 12, 13])]
@[go_sem] def kl131 : List (Nat × List Nat) := [(1, [7, 8, 9, 10, 11, 12, 13, 14, 15]), (2, [16]), (3, [18, 19]), (4, [20, 21, 22, 23, 24, 25, 26, 27, 28, 29, 30])]
@[go_sem] def kl132 : List (Nat × List Nat) := [(2, [7, 8]), (3, [9]), (5, [11, 12, 13]), (6, [15, 16, 17, 18, 19, 20, 21, 22, 23, 24, 25, 26, 27]), (7, [28, 29, 30, 31, 32]), (8, [34, 35, 36, 37, 38, 39, 40, 41, 42, 43]), (9, [44, 45, 46, 47, 48, 49, 50, 51, 52]), (10, [54, 55, 56, 57, 58, 59, 60, 61]), (11, [62, 63, 64, 65, 66, 67, 68, 69, 70, 71, 72, 73, 74, 75, 76, 77, 78, 79, 80, 81, 82, 83, 84, 85]), (12, [87, 88, 89, 90, 91, 92, 93, 94]), (13, [95, 96, 97, 98, 99, 100, 101, 102]), (14, [103])]
@[go_sem] def kl133 : List (Nat × List Nat) := [(2, [4, 5, 6, 7, 8, 9, 10, 11, 12]), (3, [14, 15, 16, 17, 18, 19, 20, 21, 22, 23, 24]), (4, [25, 26, 27, 28, 29, 30, 31]), (5, [32, 33, 34, 35, 36, 37, 38, 39, 40, 41, 42, 43]), (6, [44, 45, 46, 47, 48, 49, 50, 51, 52]), (7, [54]), (8, [55, 56, 57, 58, 59, 60, 61])]
@[go_sem] def kl134 : List (Nat × List Nat) := [(1, [3, 4])]
@[go_sem] def kl135 : List (Nat × List Nat) := [(1, [5, 6, 7, 8])]
@[go_sem] def kl136 : List (Nat × List Nat) := [(2, [21, 22, 23]), (3, [24]), (4, [26, 27, 28, 29, 30]), (5, [31]), (6, [33, 34, 35, 36, 37]), (7, [38]), (8, [40, 41, 42, 43, 44]), (9, [45, 46]), (10, [47, 48, 49, 50, 51, 52, 53, 54]), (11, [55]), (12, [57, 58, 59, 60, 61]), (13, [62, 63, 64, 65, 66, 67]), (15, [68, 69, 70, 71, 72, 73, 74]), (16, [76, 77, 78, 79]), (17, [81, 82, 83, 84, 85, 86, 87, 88, 89, 90, 91, 92, 93, 94, 95, 96]), (18, [98, 99, 100, 101, 102, 103]), (19, [104]), (20, [105, 106, 107, 108, 109, 110, 111, 112, 113]), (21, [114]), (22, [115, 116, 117, 118, 119, 120]), (23, [121, 122]), (24, [123, 124]), (25, [126, 127, 128]), (26, [129, 130, 131, 132, 133, 134]), (27, [135, 136]), (28, [137, 138, 139]), (29, [140, 141, 142, 143, 144, 145, 146]), (30, [147])]
@[go_sem] def kl137 : List (Nat × List Nat) := [(1, [3, 4, 5]), (2, [6, 7])]
@[go_sem] def kl138 : List (Nat × List Nat) := [(1, [6]), (3, [10]), (4, [11, 12, 13, 14, 15]), (5, [17]), (6, [18])]
@[go_sem] def kl139 : List (Nat × List Nat) := [(0, [10, 11]), (1, [12, 13]), (2, [15, 16]), (3, [17]), (4, [18, 19, 20, 21, 22, 23, 24, 25, 26, 27, 28, 29, 30, 31, 32, 33]), (5, [35, 36]), (6, [37, 38, 39, 40, 41, 42, 43, 44, 45, 46, 47, 48, 49, 50, 51, 52])]
@[go_sem] def kl140 : List (Nat × List Nat) := [(0, [13]), (2, [14, 15, 16]), (3, [17, 18, 19]), (4, [20]), (5, [22, 23]), (6, [24, 25, 26, 27, 28, 29]), (7, [30, 31]), (8, [32]), (9, [34, 35]), (10, [36, 37, 38, 39, 40, 41, 42, 43, 44, 45, 46, 47, 48, 49, 50, 51, 52, 53]), (11, [54, 55, 56, 57, 58, 59])]
@[go_sem] def kl141 : List (Nat × List Nat) := [(0, [13, 14, 15]), (1, [16]), (2, [18, 19]), (3, [20, 21]), (4, [22, 23, 24, 25, 26, 27]), (5, [28, 29, 30, 31, 32, 33, 34]), (6, [36, 37]), (7, [38, 39, 40, 41, 42]), (8, [43, 44]), (9, [46, 47, 48]), (10, [49, 50, 51, 52, 53, 54, 55, 56, 57, 58, 59, 60, 61, 62, 63, 64, 65, 66])]
@[go_sem] def kl142 : List (Nat × List Nat) := [(1, [15, 16, 17]), (3, [18, 19, 20, 21, 22]), (4, [23, 24, 25, 26, 27]), (5, [28, 29, 30, 31, 32]), (6, [33]), (7, [35]), (8, [37, 38, 39, 40]), (9, [41, 42, 43, 44]), (10, [45, 46, 47, 48]), (11, [49, 50, 51, 52, 53, 54]), (13, [56]), (14, [58]), (15, [59]), (16, [61]), (17, [62])]
@[go_sem] def kl143 : List (Nat × List Nat) := [(0, [10]), (1, [11, 12]), (2, [13, 14]), (3, [16, 17, 18, 19, 20, 21, 22, 23, 24, 25, 26, 27, 28, 29]), (4, [30, 31]), (5, [32, 33])]
@[go_sem] def kl144 : List (Nat × List Nat) := [(1, [13, 14]), (3, [15]), (4, [17, 18]), (5, [19, 20, 21, 22, 23, 24, 25, 26, 27, 28, 29, 30, 31, 32, 33, 34, 35]), (6, [37, 38]), (7, [39, 40]), (9, [42, 43, 44]), (11, [46, 47, 48, 49, 50, 51, 52, 53, 54, 55, 56, 57, 58, 59, 60, 61]), (12, [62, 63, 64]), (13, [66, 67]), (14, [68]), (15, [70, 71]), (16, [72, 73, 74, 75, 76, 77, 78, 79, 80, 81, 82, 83]), (17, [85, 86, 87, 88, 89, 90, 91, 92, 93, 94, 95, 96, 97, 98, 99, 100]), (18, [101, 102, 103]), (19, [105, 106]), (20, [107, 108]), (21, [110, 111]), (22, [112, 113, 114, 115, 116, 117, 118, 119, 120, 121, 122, 123]), (23, [125, 126, 127, 128, 129, 130, 131, 132, 133, 134, 135, 136, 137, 138, 139, 140])]
@[go_sem] def kl145 : List (Nat × List Nat) := [(1, [13, 14, 15, 16, 17, 18, 19, 20, 21, 22, 23, 24, 25, 26]), (2, [27, 28, 29, 30]), (3, [31, 32, 33, 34, 35, 36, 37, 38, 39, 40, 41, 42, 43, 44, 45, 46]), (4, [48, 49]), (5, [50, 51, 52, 53, 54, 55, 56, 57, 58, 59, 60, 61, 62, 63, 64]), (6, [66, 67]), (7, [68, 69]), (8, [71, 72, 73, 74, 75, 76, 77, 78, 79, 80, 81, 82, 83, 84]), (9, [85, 86]), (10, [87, 88]), (11, [89])]
@[go_sem] def kl146 : List (Nat × List Nat) := [(1, [14, 15, 16, 17, 18, 19, 20, 21, 22, 23, 24, 25, 26, 27]), (2, [28, 29, 30, 31]), (3, [32, 33, 34, 35, 36, 37, 38, 39, 40, 41, 42, 43, 44, 45, 46]), (4, [48, 49]), (5, [50, 51, 52, 53, 54, 55, 56, 57, 58, 59, 60, 61, 62, 63, 64, 65]), (6, [67, 68]), (7, [69, 70]), (8, [72, 73, 74, 75, 76, 77, 78, 79, 80, 81, 82, 83, 84, 85]), (9, [86]), (10, [87, 88, 89, 90, 91, 92, 93, 94, 95, 96, 97, 98, 99, 100]), (11, [101, 102]), (12, [103, 104]), (13, [105, 106, 107, 108, 109, 110, 111, 112, 113, 114, 115, 116, 117, 118, 119]), (14, [121, 122]), (15, [123, 124, 125, 126, 127, 128, 129, 130, 131, 132, 133, 134, 135, 136, 137, 138]), (16, [140, 141]), (17, [142, 143]), (18, [145, 146, 147, 148, 149, 150, 151, 152, 153, 154, 155, 156, 157, 158]), (19, [159, 160]), (20, [161, 162]), (21, [163, 164, 165, 166, 167, 168, 169, 170, 171, 172, 173, 174, 175, 176]), (22, [177])]
@[go_sem] def kl147 : List (Nat × List Nat) := [(1, [3]), (2, [5, 6]), (4, [7]), (5, [9, 10]), (6, [11, 12]), (7, [13, 14, 15, 16, 17, 18])]
@[go_sem] def kl148 : List (Nat × List Nat) := [(1, [3]), (2, [5, 6]), (4, [7]), (5, [9, 10]), (6, [11, 12]), (7, [13]), (8, [15, 16]), (9, [17, 18]), (10, [19, 20, 21, 22, 23, 24])]
@[go_sem] def kl149 : List (Nat × List Nat) := [(0, [12]), (1, [13, 14, 15]), (2, [16, 17]), (3, [19, 20, 21, 22, 23, 24, 25, 26, 27, 28, 29, 30, 31, 32, 33, 34, 35, 36, 37, 38, 39]), (4, [41, 42]), (5, [43, 44, 45, 46, 47, 48, 49, 50, 51, 52, 53, 54, 55, 56, 57]), (6, [59, 60, 61, 62, 63, 64, 65, 66, 67, 68, 69, 70, 71, 72, 73, 74, 75, 76, 77, 78, 79, 80]), (7, [81])]
@[go_sem] def kl150 : List (Nat × List Nat) := [(1, [3, 4, 5, 6])]
@[go_sem] def kl151 : List (Nat × List Nat) := [(1, [3, 4, 5, 6, 7, 8, 9, 10, 11]), (2, [12, 13, 14, 15, 16, 17, 18, 19, 20]), (3, [21, 22, 23, 24, 25, 26, 27, 28, 29]), (4, [30, 31, 32])]
@[go_sem] def kl152 : List (Nat × List Nat) := [(1, [9, 10, 11, 12, 13, 14, 15, 16, 17])]
@[go_sem] def kl153 : List (Nat × List Nat) := [(1, [13, 14, 15, 16, 17, 18, 19, 20, 21]), (2, [22, 23, 24, 25, 26, 27, 28, 29, 30]), (3, [31, 32, 33, 34, 35, 36, 37, 38, 39]), (4, [40])]
@[go_sem] def kl154 : List (Nat × List Nat) := [(1, [12, 13, 14, 15, 16, 17, 18, 19, 20, 21]), (2, [23, 24, 25, 26, 27]), (3, [28, 29]), (4, [30, 31])]
theorem pw_loop_over {P : Program} {Q : Exit → AS → Prop} {s : AS} {α : Type} {c : Code} (dead : List Nat) (L : α → List (Nat × PV)) (hp : α → List (Nat × Blk)) (nx : Nat) (J : α → Prop) (μ : α → Nat) (x0 : α) (h0 : J x0) (hf : Fits s ⟨over (wipe s.fr dead) (L x0), hp x0, nx⟩)
    (round : ∀ x, J x → PW P c (thenA (fun s' => ∃ x', J x' ∧ μ x' < μ x ∧ Fits s' ⟨over (wipe s.fr dead) (L x'), hp x', nx⟩) Q) ⟨over (wipe s.fr dead) (L x), hp x, nx⟩) : PW P (.loop c) Q s :=
  pw_loop (fun x => ⟨over (wipe s.fr dead) (L x), hp x, nx⟩) J μ x0 h0 hf round

/-- the truth of a proposition, as a bool -/
noncomputable def bP (p : Prop) : Bool := @decide p (Classical.propDecidable p)
theorem bP_true {p : Prop} (h : p) : bP p = true := by unfold bP; exact @decide_eq_true _ (Classical.propDecidable p) h
theorem bP_false {p : Prop} (h : ¬ p) : bP p = false := by unfold bP; exact @decide_eq_false _ (Classical.propDecidable p) h
theorem bP_iff {p : Prop} : bP p = true ↔ p := by unfold bP; exact @decide_eq_true_iff p (Classical.propDecidable p)
end Go.Proofs.Ythkkpiodligmiaa
