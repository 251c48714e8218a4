/-
  The table of the program's types, for the abstract machine.
-/
import Derived.Test.YteinekbgnleohaaProg
import Derived.Test.YteinekbgnleohaaM11
namespace Go.Proofs.Yteinekbgnleohaa
open Go.RowKit
def G : List (Nat × TI) := [(2, .num .i64), (3, .num .i64), (4, .bol), (5, .num .u8), (6, .num .u8), (7, .st 4 [(0, 1), (1, 1), (2, 1), (3, 1)] [.int .i64 0, .int .i64 0, .bool false, .int .u8 0]), (8, .st 4 [(0, 1), (1, 1), (2, 1), (3, 1)] [.int .i64 0, .int .i64 0, .bool false, .int .u8 0]), (9, .str), (10, .str), (11, .str), (12, .num .u64), (13, .st 2 [(0, 1), (1, 1)] [.str ⟨#[]⟩, .int .u64 0]), (14, .st 2 [(0, 1), (1, 1)] [.str ⟨#[]⟩, .int .u64 0]), (21, .num .i32), (22, .slc 48 3 56 [.lst 1 [], .lst 1 [], .bool false]), (23, .slc 55 5 40 [.int .i64 0, .int .i64 0, .int .i64 0, .int .i64 0, .bool false]), (28, .slc 50 3 56 [.lst 1 [], .lst 1 [], .bool false]), (30, .slc 53 5 40 [.int .i64 0, .int .i64 0, .int .i64 0, .int .i64 0, .bool false]), (39, .slc 61 6 48 [.int .i64 0, .int .i64 0, .int .i64 0, .int .i64 0, .int .i64 0, .bool false]), (45, .slc 9 1 16 [.str ⟨#[]⟩]), (46, .slc 3 1 8 [.int .i64 0]), (47, .st 3 [(0, 1), (1, 1), (2, 1)] [.lst 1 [], .lst 1 [], .bool false]), (48, .st 3 [(0, 1), (1, 1), (2, 1)] [.lst 1 [], .lst 1 [], .bool false]), (50, .st 3 [(0, 1), (1, 1), (2, 1)] [.lst 1 [], .lst 1 [], .bool false]), (52, .st 5 [(0, 1), (1, 1), (2, 1), (3, 1), (4, 1)] [.int .i64 0, .int .i64 0, .int .i64 0, .int .i64 0, .bool false]), (53, .st 5 [(0, 1), (1, 1), (2, 1), (3, 1), (4, 1)] [.int .i64 0, .int .i64 0, .int .i64 0, .int .i64 0, .bool false]), (55, .st 5 [(0, 1), (1, 1), (2, 1), (3, 1), (4, 1)] [.int .i64 0, .int .i64 0, .int .i64 0, .int .i64 0, .bool false]), (60, .st 6 [(0, 1), (1, 1), (2, 1), (3, 1), (4, 1), (5, 1)] [.int .i64 0, .int .i64 0, .int .i64 0, .int .i64 0, .int .i64 0, .bool false]), (61, .st 6 [(0, 1), (1, 1), (2, 1), (3, 1), (4, 1), (5, 1)] [.int .i64 0, .int .i64 0, .int .i64 0, .int .i64 0, .int .i64 0, .bool false]), (76, .slc 5 1 1 [.int .u8 0]), (85, .num .u32), (86, .num .u8), (87, .num .u8), (90, .num .i32), (91, .num .i32)]
theorem G_ok : GOK Try.prog G := GOK.of_all (by kernel_rfl)
@[go_sem] theorem G2 : tget G 2 = some (.num .i64) := rfl
@[go_sem] theorem G3 : tget G 3 = some (.num .i64) := rfl
@[go_sem] theorem G4 : tget G 4 = some (.bol) := rfl
@[go_sem] theorem G5 : tget G 5 = some (.num .u8) := rfl
@[go_sem] theorem G6 : tget G 6 = some (.num .u8) := rfl
@[go_sem] theorem G7 : tget G 7 = some (.st 4 [(0, 1), (1, 1), (2, 1), (3, 1)] [.int .i64 0, .int .i64 0, .bool false, .int .u8 0]) := rfl
@[go_sem] theorem G8 : tget G 8 = some (.st 4 [(0, 1), (1, 1), (2, 1), (3, 1)] [.int .i64 0, .int .i64 0, .bool false, .int .u8 0]) := rfl
@[go_sem] theorem G9 : tget G 9 = some (.str) := rfl
@[go_sem] theorem G10 : tget G 10 = some (.str) := rfl
@[go_sem] theorem G11 : tget G 11 = some (.str) := rfl
@[go_sem] theorem G12 : tget G 12 = some (.num .u64) := rfl
@[go_sem] theorem G13 : tget G 13 = some (.st 2 [(0, 1), (1, 1)] [.str ⟨#[]⟩, .int .u64 0]) := rfl
@[go_sem] theorem G14 : tget G 14 = some (.st 2 [(0, 1), (1, 1)] [.str ⟨#[]⟩, .int .u64 0]) := rfl
@[go_sem] theorem G21 : tget G 21 = some (.num .i32) := rfl
@[go_sem] theorem G22 : tget G 22 = some (.slc 48 3 56 [.lst 1 [], .lst 1 [], .bool false]) := rfl
@[go_sem] theorem G23 : tget G 23 = some (.slc 55 5 40 [.int .i64 0, .int .i64 0, .int .i64 0, .int .i64 0, .bool false]) := rfl
@[go_sem] theorem G28 : tget G 28 = some (.slc 50 3 56 [.lst 1 [], .lst 1 [], .bool false]) := rfl
@[go_sem] theorem G30 : tget G 30 = some (.slc 53 5 40 [.int .i64 0, .int .i64 0, .int .i64 0, .int .i64 0, .bool false]) := rfl
@[go_sem] theorem G39 : tget G 39 = some (.slc 61 6 48 [.int .i64 0, .int .i64 0, .int .i64 0, .int .i64 0, .int .i64 0, .bool false]) := rfl
@[go_sem] theorem G45 : tget G 45 = some (.slc 9 1 16 [.str ⟨#[]⟩]) := rfl
@[go_sem] theorem G46 : tget G 46 = some (.slc 3 1 8 [.int .i64 0]) := rfl
@[go_sem] theorem G47 : tget G 47 = some (.st 3 [(0, 1), (1, 1), (2, 1)] [.lst 1 [], .lst 1 [], .bool false]) := rfl
@[go_sem] theorem G48 : tget G 48 = some (.st 3 [(0, 1), (1, 1), (2, 1)] [.lst 1 [], .lst 1 [], .bool false]) := rfl
@[go_sem] theorem G50 : tget G 50 = some (.st 3 [(0, 1), (1, 1), (2, 1)] [.lst 1 [], .lst 1 [], .bool false]) := rfl
@[go_sem] theorem G52 : tget G 52 = some (.st 5 [(0, 1), (1, 1), (2, 1), (3, 1), (4, 1)] [.int .i64 0, .int .i64 0, .int .i64 0, .int .i64 0, .bool false]) := rfl
@[go_sem] theorem G53 : tget G 53 = some (.st 5 [(0, 1), (1, 1), (2, 1), (3, 1), (4, 1)] [.int .i64 0, .int .i64 0, .int .i64 0, .int .i64 0, .bool false]) := rfl
@[go_sem] theorem G55 : tget G 55 = some (.st 5 [(0, 1), (1, 1), (2, 1), (3, 1), (4, 1)] [.int .i64 0, .int .i64 0, .int .i64 0, .int .i64 0, .bool false]) := rfl
@[go_sem] theorem G60 : tget G 60 = some (.st 6 [(0, 1), (1, 1), (2, 1), (3, 1), (4, 1), (5, 1)] [.int .i64 0, .int .i64 0, .int .i64 0, .int .i64 0, .int .i64 0, .bool false]) := rfl
@[go_sem] theorem G61 : tget G 61 = some (.st 6 [(0, 1), (1, 1), (2, 1), (3, 1), (4, 1), (5, 1)] [.int .i64 0, .int .i64 0, .int .i64 0, .int .i64 0, .int .i64 0, .bool false]) := rfl
@[go_sem] theorem G76 : tget G 76 = some (.slc 5 1 1 [.int .u8 0]) := rfl
@[go_sem] theorem G85 : tget G 85 = some (.num .u32) := rfl
@[go_sem] theorem G86 : tget G 86 = some (.num .u8) := rfl
@[go_sem] theorem G87 : tget G 87 = some (.num .u8) := rfl
@[go_sem] theorem G90 : tget G 90 = some (.num .i32) := rfl
@[go_sem] theorem G91 : tget G 91 = some (.num .i32) := rfl
theorem mixed : Try.prog.follows .mixedOrders = true := by kernel_rfl

theorem retQ_ret {G : List (Nat × TI)} {fn : Func} {Post : List RV → Prop} {s : AS} {xs : List PV} {rs : List RV} (h1 : retPVs G s fn.results.toList = some xs) (h2 : retL s.hp xs = some rs) (h3 : (rowsOf xs).Nodup) (h4 : Post rs) : retQ G fn Post .ret s := ⟨xs, rs, h1, h2, h3, h4⟩
theorem retQ_normal {G : List (Nat × TI)} {fn : Func} {Post : List RV → Prop} {s : AS} {xs : List PV} {rs : List RV} (h1 : retPVs G s fn.results.toList = some xs) (h2 : retL s.hp xs = some rs) (h3 : (rowsOf xs).Nodup) (h4 : Post rs) : retQ G fn Post .normal s := ⟨xs, rs, h1, h2, h3, h4⟩

/-- slots given anew -/
def over : Fr → List (Nat × PV) → Fr
  | f, [] => f
  | f, (t, x) :: r => over ⟨f.n, ins f.l t x⟩ r
/-- slots forgotten behind a region: a table -/
def tlook : List (Nat × List Nat) → Nat → List Nat
  | [], _ => []
  | (k, ts) :: r, i => if i = k then ts else tlook r i
def forget (T : List (Nat × List Nat)) (id : Nat) (s : AS) : AS := ⟨wipe s.fr (tlook T id), s.hp, s.nx⟩
theorem pw_forget {P : Program} {c : Code} {Q : Exit → AS → Prop} {s : AS} (T : List (Nat × List Nat)) (id : Nat) (h : PW P c Q (forget T id s)) : PW P c Q s := fun X0 w0 m a w hs => h X0 w0 m a w (hs.wipe _)
theorem pw_seq_ops {P : Program} {G : List (Nat × TI)} (hG : GOK P G) {Q : Exit → AS → Prop} {s : AS} {id : Nat} {l : List Oper} {y : Code} (h : ∀ K : AS → Prop, (∀ s', PW P y Q s' → K s') → execL P G l.toArray l K s) : PW P (.seq (.region id l.toArray false) y) Q s :=
  pw_seq_k fun _ hK => pw_ops hG fun K' hK' => h K' fun s' h' => hK' s' (hK s' h')
theorem pw_seq_opsK {P : Program} {G : List (Nat × TI)} (T : List (Nat × List Nat)) (hG : GOK P G) {Q : Exit → AS → Prop} {s : AS} {id : Nat} {l : List Oper} {y : Code} (h : ∀ K : AS → Prop, (∀ s', PW P y Q (forget T id s') → K s') → execL P G l.toArray l K s) : PW P (.seq (.region id l.toArray false) y) Q s :=
  pw_seq_ops hG fun K hK => h K fun s' h' => hK s' (pw_forget T id h')
theorem pw_seq_drawK {P : Program} {G : List (Nat × TI)} (T : List (Nat × List Nat)) {Q : Exit → AS → Prop} {s : AS} {id : Nat} {l : List Oper} {y : Code} (hG : GOK P G) (hm : P.follows .mixedOrders = true) (hB : Region.lexB .any l.toArray = true) (h : ∀ K : AS → Prop, (∀ s', PW P y Q (forget T id s') → K s') → quietL P G l.toArray l K s) : PW P (.seq (.region id l.toArray true) y) Q s :=
  pw_seq_draw hG hm hB fun K hK => h K fun s' h' => hK s' (pw_forget T id h')
theorem pw_seq_tailK {P : Program} {G : List (Nat × TI)} (T : List (Nat × List Nat)) {Q : Exit → AS → Prop} {s : AS} {id : Nat} {l : List Oper} {y : Code} (hG : GOK P G) (p n : Nat) (hm : P.follows .mixedOrders = true) (hB : tailB l.toArray p n = true) (h : ∀ K : AS → Prop, (∀ s', PW P y Q (forget T id s') → K s') → quietL P G l.toArray (l.take n) (execL P G l.toArray (l.drop n) K) s) : PW P (.seq (.region id l.toArray true) y) Q s :=
  pw_seq_tail hG p n hm hB fun K hK => h K fun s' h' => hK s' (pw_forget T id h')
/-- a region in any order: from s, with these operations done, it leads into K -/
def AnyP (P : Program) (ops : Array Oper) (K : AS → Prop) (fuel : Nat) (listed : Array Bool) (s : AS) : Prop :=
  ∀ (X0 : Nat → Prop) (w0 : Base) (m : Mp) (a : Act) (w : World) (Q' : Exit → Act → World → Prop), (∀ m' s' a' w', K s' → Sim X0 w0 m' s' a' w' → Q' .normal a' w') → Sim X0 w0 m s a w → wpAny P .any ops Q' fuel listed a w
theorem any_done {P : Program} {ops : Array Oper} {K : AS → Prop} {fuel : Nat} {listed : Array Bool} {s : AS} (hR : Region.ready .any ops listed = []) (h : K s) : AnyP P ops K fuel listed s := by
  intro X0 w0 m a w Q' hQ hs
  cases fuel with
  | zero => exact ⟨hR, hQ m s a w h hs⟩
  | succ n => exact ⟨fun _ => hQ m s a w h hs, fun i hi => by rw [hR] at hi; cases hi⟩
theorem any_op {P : Program} {ops : Array Oper} {K : AS → Prop} {o : Oper} {i : Nat} {s : AS} {X0 : Nat → Prop} {w0 : Base} {m : Mp} {a : Act} {w : World} {Q' : Exit → Act → World → Prop} {A : Act → World → Prop} (ho : ops[i]? = some o) (h : PL P ops [o] K s) (hs : Sim X0 w0 m s a w)
    (hK : ∀ m' s' a' w', K s' → Sim X0 w0 m' s' a' w' → A a' w') : wpOp P ops Q' i A a w := by
  have step : ∀ s, Sim X0 w0 m s a w → PO P o s K → o.wp P a w A Q' := by
    intro s hs h1
    exact Oper.wp_mono (fun a' w' ⟨m', s', h2, h3⟩ => hK m' s' a' w' h2 h3) (h1 X0 w0 m a w Q' hs)
  unfold wpOp
  simp only [ho]
  simp only [PL] at h
  split at h
  · rename_i hg
    simp only [Region.wanted, hg, if_true]
    exact .inl (step s hs h)
  · rename_i j want hg
    rcases h with ⟨b, h1, h2, h3⟩ | ⟨h1, h3⟩
    · have hy : yielded ops a.tmps j = some b := by
        unfold yB at h1
        cases hd : (ops[j]?).bind (·.dst) with
        | none => rw [hd] at h1; cases h1
        | some t =>
          rw [hd] at h1
          have h4 := hs.get (.tmp t)
          have h1' : lk s.fr.l t = .d (.bool b) := h1
          simp only [AS.get] at h4
          rw [h1'] at h4
          have h5 : a.tmps.getD t undef = .bool b := h4.bool
          have h6 : a.tmps[t]? = some (.bool b) := by
            rw [Array.getD_eq_getD_getElem?] at h5
            cases ht : a.tmps[t]? with
            | none => rw [ht] at h5; cases h5
            | some u => rw [ht] at h5; simp at h5; rw [h5]
          unfold yielded
          rw [hd]
          simp [h6]
      simp only [Region.wanted, hg, hy]
      by_cases hb : b = want
      · subst hb
        simp only [beq_self_eq_true, if_true]
        exact .inl (step s hs (h2 rfl))
      · have : (some b == some want) = false := by simpa using hb
        simp only [this, Bool.false_eq_true, if_false]
        exact hK _ _ _ _ (h3 hb) (hs.put (tup0 _ _ _) o.dst)
    · have hy : yielded ops a.tmps j = none := by
        unfold yB at h1
        cases hd : (ops[j]?).bind (·.dst) with
        | none => rw [hd] at h1; cases h1
        | some t =>
          rw [hd] at h1
          have h4 := hs.get (.tmp t)
          have h1' : lk s.fr.l t = .tup [] := h1
          simp only [AS.get] at h4
          rw [h1'] at h4
          have h5 : ∀ b, a.tmps.getD t undef ≠ .bool b := by
            intro b he
            have h4' : R m (Owned X0 m s.hp) w (.tup []) (a.tmps.getD t undef) := h4
            rw [he] at h4'
            cases h4'
          unfold yielded
          rw [hd]
          simp only [Option.bind_some]
          split
          · rename_i b hb
            exact absurd (by rw [Array.getD_eq_getD_getElem?, hb]; rfl) (h5 b)
          · rfl
      simp only [Region.wanted, hg, hy]
      have : ((none : Option Bool) == some want) = false := rfl
      simp only [this, Bool.false_eq_true, if_false]
      exact hK _ _ _ _ h3 (hs.put (tup0 _ _ _) o.dst)
/-- all that may come next -/
def AllR (P : Program) (G : List (Nat × TI)) (l : List Oper) (K : AS → Prop) (fuel : Nat) (listed : Array Bool) (s : AS) : List Nat → Prop
  | [] => True
  | i :: r => (∃ o, l[i]? = some o ∧ ∀ K' : AS → Prop, (∀ s', AnyP P l.toArray K fuel (listed.setIfInBounds i true) s' → K' s') → step1 false P G l.toArray o s K') ∧ AllR P G l K fuel listed s r
theorem any_step {P : Program} {G : List (Nat × TI)} (hG : GOK P G) (R : List Nat) {l : List Oper} {K : AS → Prop} {fuel : Nat} {listed : Array Bool} {s : AS} (hR : Region.ready .any l.toArray listed = R) (hne : R.isEmpty = false) (h : AllR P G l K fuel listed s R) : AnyP P l.toArray K (fuel + 1) listed s := by
  intro X0 w0 m a w Q' hQ hs
  refine ⟨fun h0 => (by rw [hR] at h0; subst h0; cases hne), fun i hi => ?_⟩
  rw [hR] at hi
  have key : ∀ R : List Nat, AllR P G l K fuel listed s R → ∀ i ∈ R, ∃ o, l[i]? = some o ∧ ∀ K' : AS → Prop, (∀ s', AnyP P l.toArray K fuel (listed.setIfInBounds i true) s' → K' s') → step1 false P G l.toArray o s K' := by
    intro R
    induction R with
    | nil => intro _ i hi; cases hi
    | cons j r ih =>
      rintro ⟨h1, h2⟩ i hi
      rcases List.mem_cons.1 hi with rfl | hi
      · exact h1
      · exact ih h2 i hi
  obtain ⟨o, ho, h1⟩ := key R h i hi
  have h2 : execL P G l.toArray [o] (AnyP P l.toArray K fuel (listed.setIfInBounds i true)) s := execL_step fun K' hK' => h1 K' fun s' hs' => hK' s' hs'
  exact any_op (by simpa using ho) (execL_sound hG _ _ _ h2) hs fun m' s' a' w' h3 h4 => h3 X0 w0 m' a' w' Q' hQ h4
theorem pw_any {P : Program} {Q : Exit → AS → Prop} {s : AS} {id : Nat} {l : List Oper} (hm : P.follows .mixedOrders = true) (h : AnyP P l.toArray (Q .normal) l.length (Array.replicate l.length false) s) : PW P (.region id l.toArray true) Q s := by
  intro X0 w0 m a w hs
  refine wp_region_any hm ?_
  have := h X0 w0 m a w.drew (fun e a' w' => ∃ m' s', Q e s' ∧ Sim X0 w0 m' s' a' w') (fun m' s' a' w' h1 h2 => ⟨m', s', h1, h2⟩) hs.drew
  simpa using this
theorem pw_seq_any_to {P : Program} (T : List (Nat × List Nat)) {Q : Exit → AS → Prop} {s s1 : AS} {id : Nat} {l : List Oper} {y : Code} (hm : P.follows .mixedOrders = true)
    (h : AnyP P l.toArray (fun s' => forget T id s' = s1 ∨ Fits (forget T id s') s1) l.length (Array.replicate l.length false) s) (h2 : PW P y Q s1) : PW P (.seq (.region id l.toArray true) y) Q s :=
  pw_seq_k fun K hK => pw_any hm fun X0 w0 m a w Q' hQ hs => h X0 w0 m a w Q' (fun m' s' a' w' h3 h4 => hQ m' s' a' w' (hK s' (pw_forget T id (by
    rcases h3 with h3 | h3
    · rw [h3]; exact h2
    · exact pw_fits h3 h2))) h4) hs
@[congr] theorem PW_congr {P : Program} {c : Code} {Q : Exit → AS → Prop} {s s' : AS} (h : s = s') : PW P c Q s = PW P c Q s' := by subst h; rfl
attribute [go_sem] forget tlook
@[go_sem] def kl2 : List (Nat × List Nat) := [(0, [0])]
@[go_sem] def kl3 : List (Nat × List Nat) := [(2, [12, 13, 14]), (3, [15]), (5, [17, 18, 19]), (6, [20]), (8, [22, 23, 24, 25, 26, 27, 28, 29]), (9, [30, 31]), (10, [32, 33]), (11, [34, 35, 36, 37, 38, 39]), (12, [40, 41, 42, 43, 44, 45, 46]), (14, [48, 49, 50, 51]), (16, [53, 54, 55, 56])]
@[go_sem] def kl4 : List (Nat × List Nat) := [(2, [17, 18, 19]), (3, [20]), (5, [22, 23, 24]), (6, [25]), (8, [27, 28, 29, 30, 31, 32, 33, 34]), (9, [35, 36]), (10, [37, 38]), (11, [39, 40, 41, 42, 43, 44]), (12, [45, 46, 47, 48, 49, 50, 51, 52]), (14, [54, 55, 56, 57]), (16, [59, 60, 61, 62]), (19, [64, 65, 66]), (20, [67, 68, 69]), (21, [70, 71, 72, 73, 74, 75, 76, 77, 78, 79, 80, 81]), (24, [83, 84, 85]), (26, [86, 87, 88]), (27, [89]), (29, [91, 92]), (31, [94, 95, 96, 97, 98, 99, 100, 101]), (32, [102, 103, 104, 105, 106, 107, 108, 109]), (35, [111, 112, 113]), (36, [114]), (38, [116, 117])]
@[go_sem] def kl5 : List (Nat × List Nat) := [(2, [17, 18, 19]), (3, [20]), (5, [22, 23, 24]), (6, [25]), (8, [27, 28, 29, 30, 31, 32, 33, 34]), (9, [35, 36]), (10, [37, 38]), (11, [39, 40, 41, 42, 43, 44]), (12, [45, 46, 47, 48, 49, 50, 51, 52]), (14, [54, 55, 56, 57]), (16, [59, 60, 61, 62]), (19, [64, 65, 66]), (20, [67, 68, 69]), (21, [70, 71, 72, 73, 74, 75, 76, 77, 78, 79, 80, 81]), (24, [83, 84, 85]), (26, [86, 87, 88]), (27, [89]), (29, [91, 92]), (31, [94, 95, 96, 97, 98, 99, 100, 101]), (32, [102, 103, 104, 105, 106, 107, 108, 109]), (35, [111, 112, 113]), (36, [114]), (38, [116, 117])]
@[go_sem] def kl6 : List (Nat × List Nat) := [(1, [6, 7, 8, 9]), (2, [10]), (5, [12, 13, 14]), (6, [16, 17]), (7, [18, 19, 20, 21, 22, 23]), (8, [24]), (10, [26])]
@[go_sem] def kl7 : List (Nat × List Nat) := [(1, [5, 6, 7, 8]), (2, [9]), (4, [11])]
@[go_sem] def kl8 : List (Nat × List Nat) := [(1, [8, 9]), (3, [6, 11, 12, 13, 14, 15, 16]), (4, [17])]
@[go_sem] def kl9 : List (Nat × List Nat) := [(1, [5, 6, 7]), (3, [8, 9, 10]), (4, [12, 13]), (5, [14, 15, 16, 17, 18, 19, 20, 21]), (6, [22])]
@[go_sem] def kl10 : List (Nat × List Nat) := [(1, [5, 6, 7]), (3, [8, 9, 10]), (4, [12, 13]), (5, [14, 15, 16, 17, 18, 19, 20, 21]), (6, [22])]
@[go_sem] def kl11 : List (Nat × List Nat) := [(1, [8, 9]), (3, [6, 11, 12, 13, 14, 15, 16]), (4, [17])]
@[go_sem] def kl12 : List (Nat × List Nat) := [(1, [6, 7, 8, 9]), (4, [11, 12, 13]), (5, [15, 16]), (6, [17, 18, 19, 20, 21, 22, 23, 24, 25])]
@[go_sem] def kl13 : List (Nat × List Nat) := [(1, [6, 7, 8, 9]), (4, [11, 12, 13]), (5, [15, 16]), (6, [17, 18, 19, 20, 21, 22, 23, 24, 25])]
@[go_sem] def kl14 : List (Nat × List Nat) := [(1, [8, 9]), (3, [11, 12, 13, 14, 15, 16]), (4, [17]), (6, [19])]
@[go_sem] def kl15 : List (Nat × List Nat) := [(1, [8, 9]), (3, [11, 12, 13, 14, 15, 16]), (4, [17]), (6, [19])]
@[go_sem] def kl16 : List (Nat × List Nat) := [(2, [6, 7, 8]), (3, [10, 11]), (4, [12, 13, 14, 15, 16, 17, 18]), (5, [19, 20, 21, 22, 23, 24, 25]), (6, [26, 27, 28, 29, 30, 31, 32]), (7, [33, 34]), (8, [35])]
@[go_sem] def kl17 : List (Nat × List Nat) := [(2, [6, 7, 8]), (3, [10, 11]), (4, [12, 13, 14, 15, 16]), (5, [17, 18]), (6, [19, 20, 21, 22, 23]), (7, [24, 25]), (8, [26, 27, 28, 29, 30]), (9, [31, 32]), (10, [33, 34, 35, 36, 37]), (11, [38, 39]), (12, [40, 41, 42, 43, 44, 45, 46]), (13, [47, 48]), (14, [49])]
@[go_sem] def kl18 : List (Nat × List Nat) := [(2, [6, 7, 8]), (3, [10, 11]), (4, [12, 13, 14, 15, 16, 17, 18]), (5, [19]), (7, [21, 22, 23, 24, 25, 26, 27]), (8, [28]), (10, [30, 31, 32, 33, 34, 35, 36, 37]), (12, [39, 40]), (13, [41])]
@[go_sem] def kl19 : List (Nat × List Nat) := [(1, [6, 11, 12, 13, 14, 15, 16]), (2, [17]), (7, [23, 24]), (8, [25]), (9, [27, 28, 29, 30, 31, 32, 33, 34, 35, 36, 37, 38]), (10, [39]), (11, [40])]
@[go_sem] def kl20 : List (Nat × List Nat) := [(1, [6, 11, 12, 13, 14, 15, 16]), (2, [17]), (4, [19]), (7, [24, 25]), (8, [26]), (9, [28, 29, 30, 31, 32, 33, 34, 35, 36, 37, 38, 39]), (10, [40]), (11, [41])]
@[go_sem] def kl21 : List (Nat × List Nat) := [(1, [6, 7, 8, 9]), (4, [11, 12, 13]), (5, [15, 16]), (6, [17, 18, 19, 20, 21, 22, 23, 24, 25])]
@[go_sem] def kl22 : List (Nat × List Nat) := [(2, [6, 7, 8]), (3, [10, 11]), (4, [12, 13, 14, 15, 16]), (5, [17, 18]), (6, [19, 20, 21, 22, 23]), (7, [24, 25]), (8, [26, 27, 28, 29, 30]), (9, [31, 32]), (10, [33, 34, 35, 36, 37]), (11, [38, 39]), (12, [40, 41, 42, 43, 44]), (13, [45, 46]), (14, [47, 48, 49, 50, 51, 52, 53]), (15, [54, 55]), (16, [56])]
@[go_sem] def kl23 : List (Nat × List Nat) := [(2, [6, 7, 8]), (3, [10, 11]), (4, [12, 13, 14, 15, 16, 17]), (6, [19, 20]), (7, [21, 22, 23, 24, 25, 26]), (9, [28, 29]), (10, [30, 31, 32, 33, 34, 35]), (12, [37, 38]), (13, [39, 40, 41, 42, 43, 44]), (15, [46, 47]), (16, [48, 49, 50, 51, 52, 53]), (18, [55, 56]), (19, [57, 58, 59, 60, 61, 62, 63, 64]), (21, [66, 67]), (22, [68])]
@[go_sem] def kl24 : List (Nat × List Nat) := [(1, [5, 6, 7, 8]), (2, [9]), (4, [11, 12, 13, 14]), (5, [15]), (7, [17])]
@[go_sem] def kl25 : List (Nat × List Nat) := [(3, [9, 10]), (4, [11, 12]), (6, [14]), (7, [15, 16, 17])]
@[go_sem] def kl26 : List (Nat × List Nat) := [(1, [10, 11]), (5, [16, 17]), (6, [18, 19, 20, 21, 22, 23, 24, 25, 26, 27, 28, 29, 30, 31, 32, 33, 34, 35, 36, 37, 38, 39, 40, 41, 42, 43, 44, 45, 46, 47, 48, 49, 50, 51]), (8, [53, 54]), (9, [55]), (10, [57, 58, 59, 60, 61, 62, 63, 64, 65, 66, 67]), (11, [68]), (12, [69, 70, 71, 72])]
@[go_sem] def kl27 : List (Nat × List Nat) := [(2, [4, 5, 6, 7]), (3, [8, 9, 10, 11]), (4, [12, 13, 14]), (5, [15])]
@[go_sem] def kl28 : List (Nat × List Nat) := [(2, [4, 5, 6]), (3, [7, 8, 9]), (4, [10, 11, 12]), (5, [13, 14, 15]), (6, [16, 17, 18]), (7, [19])]
@[go_sem] def kl29 : List (Nat × List Nat) := [(3, [9, 10]), (4, [11, 12]), (6, [14]), (7, [15, 16, 17])]
@[go_sem] def kl30 : List (Nat × List Nat) := [(1, [10, 11]), (4, [16, 17, 18]), (5, [19, 20, 21, 22, 23, 24, 25, 26, 27, 28, 29, 30, 31, 32, 33, 34, 35, 36, 37, 38, 39, 40, 41, 42, 43, 44, 45, 46, 47, 48, 49, 50, 51]), (7, [53, 54, 55, 56, 57, 58]), (8, [59, 60, 61, 62, 63, 64, 65]), (10, [67]), (11, [69, 70, 71, 72, 73, 74]), (12, [75]), (13, [76, 77, 78, 79])]
@[go_sem] def kl31 : List (Nat × List Nat) := [(1, [5, 6, 7, 8, 9]), (3, [11, 12, 13, 14, 15]), (5, [17, 18, 19, 20])]
@[go_sem] def kl32 : List (Nat × List Nat) := [(1, [5, 6, 7, 8]), (3, [10, 11, 12, 13]), (5, [15, 16, 17, 18]), (7, [20, 21, 22, 23]), (9, [25, 26, 27, 28])]
@[go_sem] def kl33 : List (Nat × List Nat) := [(2, [6, 7, 8]), (3, [10, 11]), (4, [12, 13, 14, 15, 16]), (5, [17, 18]), (6, [19])]
@[go_sem] def kl34 : List (Nat × List Nat) := [(2, [6, 7, 8]), (3, [10, 11]), (4, [12, 13, 14, 15]), (5, [16, 17]), (6, [18])]
@[go_sem] def kl35 : List (Nat × List Nat) := [(2, [6, 7, 8]), (3, [10, 11]), (4, [12, 13, 14, 15, 16, 17]), (6, [19, 20]), (7, [21])]
@[go_sem] def kl36 : List (Nat × List Nat) := [(2, [6, 7, 8]), (3, [10, 11]), (4, [12, 13, 14, 15, 16]), (6, [18, 19]), (7, [20])]
@[go_sem] def kl37 : List (Nat × List Nat) := [(1, [5, 6, 7, 8]), (3, [10, 11, 12, 13]), (5, [15, 16, 17, 18]), (7, [20, 21, 22, 23]), (9, [25, 26, 27, 28]), (11, [30, 31, 32, 33])]
@[go_sem] def kl38 : List (Nat × List Nat) := [(1, [6, 7, 8, 9]), (2, [10]), (5, [12, 13, 14]), (6, [16, 17]), (7, [18, 19, 20, 21, 22, 23, 24]), (8, [25]), (10, [27])]
@[go_sem] def kl39 : List (Nat × List Nat) := [(1, [5, 6, 7, 8]), (2, [9]), (4, [11])]
@[go_sem] def kl40 : List (Nat × List Nat) := [(1, [5]), (3, [10, 11]), (4, [12, 13]), (6, [15]), (7, [16, 17, 18, 19, 20, 21, 22, 23, 24, 25, 26, 27, 28, 29, 30, 31, 32, 33])]
@[go_sem] def kl41 : List (Nat × List Nat) := [(4, [10, 11]), (5, [12, 13, 14, 15, 16, 17, 18, 19, 20, 21, 22, 23]), (6, [24]), (7, [25])]
@[go_sem] def kl42 : List (Nat × List Nat) := [(1, [7, 8, 9, 10, 11, 12, 13, 14])]
@[go_sem] def kl43 : List (Nat × List Nat) := [(1, [7, 8, 9, 10, 11, 12, 13, 14, 15, 16, 17, 18, 19, 20, 21, 22])]
@[go_sem] def kl44 : List (Nat × List Nat) := [(1, [5, 6, 7]), (3, [8, 9, 10]), (4, [12, 13]), (5, [14, 15, 16, 17, 18, 19, 20]), (6, [21])]
@[go_sem] def kl45 : List (Nat × List Nat) := [(1, [5, 6, 7]), (3, [8, 9, 10]), (4, [12, 13]), (5, [14, 15, 16, 17, 18, 19, 20]), (6, [21])]
@[go_sem] def kl46 : List (Nat × List Nat) := [(1, [5]), (3, [10, 11]), (4, [12, 13]), (6, [15]), (7, [16, 17, 18, 19, 20, 21, 22, 23, 24, 25, 26, 27, 28, 29, 30, 31, 32, 33])]
@[go_sem] def kl47 : List (Nat × List Nat) := [(1, [6]), (4, [11, 12]), (5, [13, 14, 15, 16, 17]), (6, [18]), (7, [19])]
@[go_sem] def kl48 : List (Nat × List Nat) := [(1, [3, 4])]
@[go_sem] def kl49 : List (Nat × List Nat) := [(1, [7, 8, 9, 10, 11, 12, 13, 14, 15, 16, 17, 18, 19, 20, 21, 22])]
@[go_sem] def kl50 : List (Nat × List Nat) := [(1, [3, 4])]
@[go_sem] def kl51 : List (Nat × List Nat) := [(1, [6, 7, 8, 9]), (4, [11, 12, 13]), (5, [15, 16]), (6, [17, 18, 19, 20, 21, 22, 23, 24])]
@[go_sem] def kl52 : List (Nat × List Nat) := [(1, [6, 7, 8, 9]), (4, [11, 12, 13]), (5, [15, 16]), (6, [17, 18, 19, 20, 21, 22, 23, 24])]
@[go_sem] def kl53 : List (Nat × List Nat) := [(1, [4]), (4, [6]), (5, [8, 9, 10, 11, 12, 13, 14, 15]), (6, [16, 17]), (7, [18, 19])]
@[go_sem] def kl54 : List (Nat × List Nat) := [(2, [4, 5, 6]), (3, [8, 9]), (4, [10, 11, 12, 13]), (6, [15, 16, 17])]
@[go_sem] def kl55 : List (Nat × List Nat) := [(3, [13, 14]), (4, [15, 16, 17, 18]), (6, [20])]
@[go_sem] def kl56 : List (Nat × List Nat) := [(1, [3, 4, 5])]
@[go_sem] def kl57 : List (Nat × List Nat) := [(1, [3, 4, 5])]
@[go_sem] def kl58 : List (Nat × List Nat) := [(1, [3, 4])]
@[go_sem] def kl59 : List (Nat × List Nat) := [(1, [7, 8, 9, 10, 11, 12, 13, 14])]
@[go_sem] def kl60 : List (Nat × List Nat) := [(3, [13, 14]), (4, [15, 16, 17, 18]), (6, [20])]
@[go_sem] def kl61 : List (Nat × List Nat) := [(1, [3, 4, 5, 6, 7, 8, 9, 10, 11, 12])]
@[go_sem] def kl62 : List (Nat × List Nat) := [(1, [3, 4, 5, 6, 7, 8, 9, 10, 11, 12, 13, 14, 15, 16])]
@[go_sem] def kl63 : List (Nat × List Nat) := [(2, [4, 5, 6]), (3, [8, 9]), (4, [10, 11, 12, 13, 14, 15, 16, 17, 18, 19, 20, 21, 22, 23, 24, 25, 26, 27, 28, 29, 30]), (6, [32, 33, 34])]
@[go_sem] def kl64 : List (Nat × List Nat) := [(1, [3, 4, 5])]
theorem pw_loop_over {P : Program} {Q : Exit → AS → Prop} {s : AS} {α : Type} {c : Code} (dead : List Nat) (L : α → List (Nat × PV)) (hp : α → List (Nat × Blk)) (nx : Nat) (J : α → Prop) (μ : α → Nat) (x0 : α) (h0 : J x0) (hf : Fits s ⟨over (wipe s.fr dead) (L x0), hp x0, nx⟩)
    (round : ∀ x, J x → PW P c (thenA (fun s' => ∃ x', J x' ∧ μ x' < μ x ∧ Fits s' ⟨over (wipe s.fr dead) (L x'), hp x', nx⟩) Q) ⟨over (wipe s.fr dead) (L x), hp x, nx⟩) : PW P (.loop c) Q s :=
  pw_loop (fun x => ⟨over (wipe s.fr dead) (L x), hp x, nx⟩) J μ x0 h0 hf round

/-- the truth of a proposition, as a bool -/
noncomputable def bP (p : Prop) : Bool := @decide p (Classical.propDecidable p)
theorem bP_true {p : Prop} (h : p) : bP p = true := by unfold bP; exact @decide_eq_true _ (Classical.propDecidable p) h
theorem bP_false {p : Prop} (h : ¬ p) : bP p = false := by unfold bP; exact @decide_eq_false _ (Classical.propDecidable p) h
theorem bP_iff {p : Prop} : bP p = true ↔ p := by unfold bP; exact @decide_eq_true_iff p (Classical.propDecidable p)
end Go.Proofs.Yteinekbgnleohaa
