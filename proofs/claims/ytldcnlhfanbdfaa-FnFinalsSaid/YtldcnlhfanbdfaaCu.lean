/-
  The cursor's functions: next, pick, one, among.
-/
import Derived.Test.YtldcnlhfanbdfaaWi
import Derived.Test.YtldcnlhfanbdfaaTk
import Derived.Test.YtldcnlhfanbdfaaMc
import Derived.Test.YtldcnlhfanbdfaaIs0
set_option linter.unusedSimpArgs false
set_option linter.unusedVariables false
set_option maxHeartbeats 2000000
set_option maxRecDepth 100000
namespace Go.Proofs.Ytldcnlhfanbdfaa
open Go.RowKit

/-- a place where a walk is to stop -/
def Stop (p : Prop) : Prop := p
theorem stop_seq {P : Program} {id : Nat} {l : Array Oper} {b : Bool} {y : Code} {Q : Exit → AS → Prop} {s : AS} (h : Stop (PW P (.seq (.region id l b) y) Q s)) : PW P (.seq (.region id l b) y) Q s := h
theorem stop_one {P : Program} {id : Nat} {l : Array Oper} {b : Bool} {Q : Exit → AS → Prop} {s : AS} (h : Stop (PW P (.region id l b) Q s)) : PW P (.region id l b) Q s := h
/-- a sum that may run over -/
theorem pq_addW {P : Program} {o : Oper} {s : AS} {KP : PV → Prop} {t t' : TypeId} {x y : Operand} {k : IntKind} {a b : Int} (ho : o.op = .binOp .add t x y t') (hx : s.get x = .d (.int k a)) (hy : s.get y = .d (.int k b)) (hK : KP (.d (.int k (k.wrap (a + b))))) : PQ P o s KP :=
  PQ.pure _ hK fun m X w ac hq => ⟨.int k (k.wrap (a + b)), fun u => by
    have h1 := hq x
    have h2 := hq y
    rw [hx] at h1
    rw [hy] at h2
    have hr : (eqGuard .add t x y (.int k a) (.int k b) >>= fun _ => binOp .add t (.int k a) (.int k b)).run P u = .ok (.int k (k.wrap (a + b))) u := by simp [go_sem]
    simp only [execOp, ho, h1.int, h2.int, Sem.run_bind] at hr ⊢
    simp only [hr, Result.andThen_ok, Sem.run_pure], .d _ _ (.int _ _)⟩
/-- the bytes that a cursor reads -/
def Bytes (code : List (List D)) : Prop := ∀ e, e ∈ code → ∃ n : Int, e = [.int .u8 n] ∧ 0 ≤ n ∧ n ≤ 255
/-- the cells of a cursor that has read k bytes at most -/
def Cur (k : Nat) (cs : List D) : Prop := ∃ (code : List (List D)) (a s : Int), cs = [.lst 1 code, .int .i64 a, .int .u64 s] ∧ Bytes code ∧ code.length ≤ 9223372036854775807 ∧ 0 ≤ a ∧ a ≤ k
theorem Cur.len {k : Nat} {cs : List D} (h : Cur k cs) : cs.length = 3 := by obtain ⟨_, _, _, rfl, _⟩ := h; rfl
theorem Cur.mono {k k' : Nat} {cs : List D} (h : Cur k cs) (hk : k ≤ k') : Cur k' cs := by
  obtain ⟨code, a, s, h1, h2, h3, h4, h5⟩ := h
  exact ⟨code, a, s, h1, h2, h3, h4, by omega⟩
/-- an answer out of a class, and a cursor that has gone on -/
def PostX {α : Type} (k : Nat) (p : α → Prop) (f : α → List RV) : List D → List RV → Prop := fun cs' rs => ∃ x, p x ∧ rs = f x ∧ Cur k cs'
abbrev PostI (k : Nat) (p : Int → Prop) : List D → List RV → Prop := PostX k p fun x => [.d (.int .i64 x)]

theorem next_ok {k : Nat} {cs : List D} (hC : Cur k cs) (hk : k ≤ 1099511627776) : FnC Try.prog 72 3 [] cs (PostI (k + 1) fun x => 0 ≤ x ∧ x ≤ 255) := by
  have hC' := hC
  obtain ⟨code, a, s, rfl, hB, hL, ha, hak⟩ := hC'
  refine fn_okC G_ok Try.func72 rfl rfl hC.len fun ty => ?_; simp only [Try.ntmps72, List.length_cons, List.length_nil, Nat.reduceAdd, Nat.reduceSub, List.map_cons, List.map_nil, List.length_map, enm]
  by_cases hlt : a < code.length
  · obtain ⟨n, rfl⟩ : ∃ n : Nat, a = n := ⟨a.toNat, by omega⟩
    have hn : n < code.length := by omega
    obtain ⟨b, hbn, hb0, hb1⟩ := hB code[n] (List.getElem_mem hn)
    have hgn : code[n]? = some [.int .u8 b] := by rw [List.getElem?_eq_getElem hn, hbn]
    repeat' (first | (with_reducible refine execL_step (fun K' hK' => ?_); (first | with_reducible refine s_none rfl ?_ | refine s_some2 rfl ?_); simp only [go_sem, hgn, hlt]) | (with_reducible refine hK' _ ?_; clear hK' K') | (with_reducible refine quietL_step (fun K' hK' => ?_); (first | with_reducible refine s_none rfl ?_ | refine s_some2 rfl ?_); simp only [go_sem, hgn, hlt]) | with_reducible refine quietL_nil ?_ | with_reducible refine execL_nil ?_ | (with_reducible refine hK _ ?_; clear hK K; try simp only [go_sem, hgn, hlt]) | with_reducible refine pw_seq_opsK kl72 G_ok (fun K hK => ?_) | with_reducible (first | refine pw_seq (x := .seq _ _) ?_ | refine thenA_normal ?_ | refine thenA_exit ?_ | refine thenA_ret ?_ | refine inBlockA_same ?_ | refine inBlockA_ret ?_ | refine inBlockA_normal ?_) | refine inBlockA_other (by decide) ?_ | with_reducible (first | refine pw_seq (pw_block ?_) | refine pw_seq (pw_skip (thenA_normal ?_)) | refine pw_skip ?_ | refine pw_exit ?_ | refine pw_ret ?_ | refine pw_ops G_ok (fun K hK => ?_)) | (with_reducible refine pw_seq_drawK kl72 G_ok mixed (by kernel_rfl) (fun K hK => ?_)) | (with_reducible refine pw_draw G_ok mixed (by kernel_rfl) ?_) | with_reducible refine pw_block ?_ | (with_reducible refine pK_mk (fun hc => ?_) (fun hc => ?_) <;> (try simp only [go_sem, hgn, hlt]) <;> (try simp at hc) <;> (try (exfalso; omega))) | ((first | refine pw_seq (pw_cond rfl (fun hc => ?_) (fun hc => ?_)) | refine pw_cond rfl (fun hc => ?_) (fun hc => ?_)) <;> (try simp at hc) <;> (try (exfalso; omega))) | with_reducible refine And.intro (by first | omega | (unfold inI; omega) | exact andI_inI _) ?_)
    all_goals (refine retC_ret (id := 0) [_, _, _] rfl rfl (by simp [rowsOf, lk]) rfl rfl ⟨_, ?_, rfl, code, _, _, rfl, hB, hL, ?_, ?_⟩ <;> first | omega | exact andI_255 _)
  · repeat' (first | (with_reducible refine execL_step (fun K' hK' => ?_); (first | with_reducible refine s_none rfl ?_ | refine s_some2 rfl ?_); simp only [go_sem, hlt]) | (with_reducible refine hK' _ ?_; clear hK' K') | (with_reducible refine quietL_step (fun K' hK' => ?_); (first | with_reducible refine s_none rfl ?_ | refine s_some2 rfl ?_); simp only [go_sem, hlt]) | with_reducible refine quietL_nil ?_ | with_reducible refine execL_nil ?_ | (with_reducible refine hK _ ?_; clear hK K; try simp only [go_sem, hlt]) | with_reducible refine pw_seq_opsK kl72 G_ok (fun K hK => ?_) | with_reducible (first | refine pw_seq (x := .seq _ _) ?_ | refine thenA_normal ?_ | refine thenA_exit ?_ | refine thenA_ret ?_ | refine inBlockA_same ?_ | refine inBlockA_ret ?_ | refine inBlockA_normal ?_) | refine inBlockA_other (by decide) ?_ | with_reducible (first | refine pw_seq (pw_block ?_) | refine pw_seq (pw_skip (thenA_normal ?_)) | refine pw_skip ?_ | refine pw_exit ?_ | refine pw_ret ?_ | refine pw_ops G_ok (fun K hK => ?_)) | (with_reducible refine pw_seq_drawK kl72 G_ok mixed (by kernel_rfl) (fun K hK => ?_)) | (with_reducible refine pw_draw G_ok mixed (by kernel_rfl) ?_) | with_reducible refine pw_block ?_ | (with_reducible refine pK_mk (fun hc => ?_) (fun hc => ?_) <;> (try simp only [go_sem, hlt]) <;> (try simp at hc) <;> (try (exfalso; omega))) | ((first | refine pw_seq (pw_cond rfl (fun hc => ?_) (fun hc => ?_)) | refine pw_cond rfl (fun hc => ?_) (fun hc => ?_)) <;> (try simp at hc) <;> (try (exfalso; omega))) | with_reducible refine And.intro (by first | omega | (unfold inI; omega) | exact andI_inI _) ?_)
    all_goals (refine retC_ret (id := 0) [_, _, _] rfl rfl (by simp [rowsOf, lk]) rfl rfl ⟨_, ?_, rfl, code, _, _, rfl, hB, hL, ?_, ?_⟩ <;> first | omega | exact andI_255 _)
theorem tmod_pick {x n : Int} (hx : 0 ≤ x) (hn : 0 < n) : 0 ≤ x.tmod n ∧ x.tmod n < n := ⟨Int.tmod_nonneg n hx, Int.tmod_lt_of_pos x hn⟩
theorem pick_ok {k : Nat} {cs : List D} {n : Int} (hC : Cur k cs) (hk : k ≤ 1099511627775) : FnC Try.prog 64 3 [.int .i64 n] cs (PostI (k + 2) fun x => 0 ≤ x ∧ (x = 0 ∨ x < n)) := by
  refine fn_okC G_ok Try.func64 rfl rfl hC.len fun ty => ?_; simp only [Try.ntmps64, List.length_cons, List.length_nil, Nat.reduceAdd, Nat.reduceSub, List.map_cons, List.map_nil, List.length_map, enm]
  repeat' (first | (with_reducible refine execL_step (fun K' hK' => ?_); (first | with_reducible refine s_none rfl ?_ | refine s_some2 rfl ?_); simp only [go_sem]) | (with_reducible refine hK' _ ?_; clear hK' K') | with_reducible refine execL_nil ?_ | (with_reducible refine hK _ ?_; clear hK K; try simp only [go_sem]) | with_reducible refine pw_seq_opsK kl64 G_ok (fun K hK => ?_) | (refine CallK.cur (some 0) (next_ok (by assumption) (by omega)) rfl rfl rfl rfl rfl rfl ?_; rintro c2 _ ⟨x, hx, rfl, hC⟩; try simp only [mkB, go_sem]) | with_reducible (first | refine pw_seq (x := .seq _ _) ?_ | refine thenA_normal ?_ | refine thenA_exit ?_ | refine thenA_ret ?_ | refine inBlockA_same ?_ | refine inBlockA_ret ?_ | refine inBlockA_normal ?_) | refine inBlockA_other (by decide) ?_ | with_reducible (first | refine pw_seq (pw_block ?_) | refine pw_seq (pw_skip (thenA_normal ?_)) | refine pw_skip ?_ | refine pw_exit ?_ | refine pw_ret ?_ | refine pw_ops G_ok (fun K hK => ?_)) | with_reducible refine pw_block ?_ | (with_reducible refine pK_mk (fun hc => ?_) (fun hc => ?_) <;> (try simp only [go_sem]) <;> (try simp at hc) <;> (try (exfalso; omega))) | ((first | refine pw_seq (pw_cond rfl (fun hc => ?_) (fun hc => ?_)) | refine pw_cond rfl (fun hc => ?_) (fun hc => ?_)) <;> (try simp at hc) <;> (try (exfalso; omega))) | with_reducible refine And.intro (by first | omega | (unfold inI; omega) | exact andI_inI _) ?_)
  all_goals refine retC_ret (id := 0) _ rfl rfl (by simp [rowsOf, lk]) rfl (Cur.len (by assumption)) ⟨_, ?_, rfl, Cur.mono (by assumption) (by omega)⟩
  · omega
  · rename_i z hz _; have := tmod_pick (x := z * 256 + x) (n := n) (by omega) (by omega); omega
  · have := tmod_pick (x := x) (n := n) (by omega) (by omega); omega
theorem onec_ok {k : Nat} {cs : List D} {n : Int} (hC : Cur k cs) (hk : k ≤ 1099511627775) : FnC Try.prog 65 3 [.int .i64 n] cs (PostX (k + 2) (fun _ : Bool => True) fun b => [.d (.bool b)]) := by
  refine fn_okC G_ok Try.func65 rfl rfl hC.len fun ty => ?_; simp only [Try.ntmps65, List.length_cons, List.length_nil, Nat.reduceAdd, Nat.reduceSub, List.map_cons, List.map_nil, List.length_map, enm]
  repeat' (first | (with_reducible refine execL_step (fun K' hK' => ?_); (first | with_reducible refine s_none rfl ?_ | refine s_some2 rfl ?_); simp only [go_sem]) | (with_reducible refine hK' _ ?_; clear hK' K') | with_reducible refine execL_nil ?_ | (with_reducible refine hK _ ?_; clear hK K; try simp only [go_sem]) | with_reducible refine pw_seq_opsK kl65 G_ok (fun K hK => ?_) | (refine CallK.cur (some 0) (pick_ok (by assumption) (by omega)) rfl rfl rfl rfl rfl rfl ?_; rintro c2 _ ⟨x, hx, rfl, hC⟩; try simp only [mkB, go_sem]) | with_reducible (first | refine pw_seq (x := .seq _ _) ?_ | refine thenA_normal ?_ | refine thenA_exit ?_ | refine thenA_ret ?_ | refine inBlockA_same ?_ | refine inBlockA_ret ?_ | refine inBlockA_normal ?_) | refine inBlockA_other (by decide) ?_ | with_reducible (first | refine pw_seq (pw_block ?_) | refine pw_seq (pw_skip (thenA_normal ?_)) | refine pw_skip ?_ | refine pw_exit ?_ | refine pw_ret ?_ | refine pw_ops G_ok (fun K hK => ?_)) | with_reducible refine pw_block ?_ | (with_reducible refine pK_mk (fun hc => ?_) (fun hc => ?_) <;> (try simp only [go_sem]) <;> (try simp at hc) <;> (try (exfalso; omega))) | ((first | refine pw_seq (pw_cond rfl (fun hc => ?_) (fun hc => ?_)) | refine pw_cond rfl (fun hc => ?_) (fun hc => ?_)) <;> (try simp at hc) <;> (try (exfalso; omega))) | with_reducible refine And.intro (by first | omega | (unfold inI; omega) | exact andI_inI _) ?_)
  all_goals (refine retC_ret (id := 0) _ rfl rfl (by simp [rowsOf, lk]) rfl (Cur.len (by assumption)) ⟨_, ?_, rfl, Cur.mono (by assumption) (by omega)⟩; trivial)
theorem among_ok {k : Nat} {cs : List D} {l : List Int} (hC : Cur k cs) (hk : k ≤ 1099511627775) (h0 : 0 < l.length) (hl : l.length ≤ 1048576) : FnC Try.prog 49 3 [.lst 1 (l.map datI)] cs (PostI (k + 2) fun x => x ∈ l) := by
  refine fn_okC G_ok Try.func49 rfl rfl hC.len fun ty => ?_; simp only [Try.ntmps49, List.length_cons, List.length_nil, Nat.reduceAdd, Nat.reduceSub, List.map_cons, List.map_nil, List.length_map, enm]
  repeat' (first | (with_reducible refine execL_step (fun K' hK' => ?_); (first | with_reducible refine s_none rfl ?_ | refine s_some2 rfl ?_); simp only [go_sem]) | (with_reducible refine hK' _ ?_; clear hK' K') | with_reducible refine execL_nil ?_ | (with_reducible refine hK _ ?_; clear hK K; try simp only [go_sem]) | with_reducible refine pw_seq_opsK kl49 G_ok (fun K hK => ?_) | with_reducible (first | refine pw_seq (x := .seq _ _) ?_ | refine thenA_normal ?_ | refine thenA_exit ?_ | refine thenA_ret ?_ | refine inBlockA_same ?_ | refine inBlockA_ret ?_ | refine inBlockA_normal ?_) | refine inBlockA_other (by decide) ?_ | with_reducible (first | refine pw_seq (pw_block ?_) | refine pw_seq (pw_skip (thenA_normal ?_)) | refine pw_skip ?_ | refine pw_exit ?_ | refine pw_ret ?_ | refine pw_ops G_ok (fun K hK => ?_)) | with_reducible refine pw_block ?_ | (with_reducible refine pK_mk (fun hc => ?_) (fun hc => ?_) <;> (try simp only [go_sem]) <;> (try simp at hc) <;> (try (exfalso; omega))) | ((first | refine pw_seq (pw_cond rfl (fun hc => ?_) (fun hc => ?_)) | refine pw_cond rfl (fun hc => ?_) (fun hc => ?_)) <;> (try simp at hc) <;> (try (exfalso; omega))) | with_reducible refine And.intro (by first | omega | (unfold inI; omega) | exact andI_inI _) ?_)
  refine CallK.cur (some 0) (pick_ok (by assumption) (by omega)) rfl rfl rfl rfl rfl rfl ?_; rintro c2 _ ⟨x, hx, rfl, hC⟩; try simp only [mkB, go_sem]
  obtain ⟨i, rfl⟩ : ∃ i : Nat, x = i := ⟨x.toNat, by omega⟩
  have hi : i < l.length := by omega
  have hg : l[i]? = some l[i] := List.getElem?_eq_getElem hi
  repeat' (first | (with_reducible refine execL_step (fun K' hK' => ?_); (first | with_reducible refine s_none rfl ?_ | refine s_some2 rfl ?_); simp only [go_sem, hg, List.getElem?_map, Option.map_some, datI]) | (with_reducible refine hK' _ ?_; clear hK' K') | with_reducible refine execL_nil ?_ | (with_reducible refine hK _ ?_; clear hK K; try simp only [go_sem, hg, List.getElem?_map, Option.map_some, datI]) | with_reducible refine pw_seq_opsK kl49 G_ok (fun K hK => ?_) | with_reducible (first | refine pw_seq (x := .seq _ _) ?_ | refine thenA_normal ?_ | refine thenA_exit ?_ | refine thenA_ret ?_ | refine inBlockA_same ?_ | refine inBlockA_ret ?_ | refine inBlockA_normal ?_) | refine inBlockA_other (by decide) ?_ | with_reducible (first | refine pw_seq (pw_block ?_) | refine pw_seq (pw_skip (thenA_normal ?_)) | refine pw_skip ?_ | refine pw_exit ?_ | refine pw_ret ?_ | refine pw_ops G_ok (fun K hK => ?_)) | with_reducible refine pw_block ?_ | (with_reducible refine pK_mk (fun hc => ?_) (fun hc => ?_) <;> (try simp only [go_sem, hg, List.getElem?_map, Option.map_some, datI]) <;> (try simp at hc) <;> (try (exfalso; omega))) | ((first | refine pw_seq (pw_cond rfl (fun hc => ?_) (fun hc => ?_)) | refine pw_cond rfl (fun hc => ?_) (fun hc => ?_)) <;> (try simp at hc) <;> (try (exfalso; omega))) | with_reducible refine And.intro (by first | omega | (unfold inI; omega) | exact andI_inI _) ?_)
  all_goals (refine retC_ret (id := 0) _ rfl rfl (by simp [rowsOf, lk]) rfl (Cur.len (by assumption)) ⟨_, ?_, rfl, Cur.mono (by assumption) (by omega)⟩; exact List.getElem_mem hi)
end Go.Proofs.Ytldcnlhfanbdfaa
namespace Go.Proofs.Ytldcnlhfanbdfaa
open Go.ChangeShapes Go.WideShapes Go.ChangeAt Go.RowKit Go.Deep

def datY (n : Int) : List D := [.int .u8 n]
section
variable {H : Type} {enc : TypeId × Value → H} {w : World} {base : Nat} {spare : Nat → Bool} {held : Bool}
theorem OpenK.byte {P : Program} {t : TypeId} (ht : P.underlying t = some (.int .u8)) : OpenK enc P w base spare held datY (fun n => 0 ≤ n ∧ n ≤ 255) t 1 := by
  refine ⟨fun _ => rfl, fun fuel cs y h => ?_⟩
  obtain ⟨n, rfl, _, hw⟩ := DataW.trod_int ht h
  have hw' : (decide (IntKind.u8.min ≤ n) && decide (n ≤ IntKind.u8.max)) = true := hw
  rw [Bool.and_eq_true, decide_eq_true_eq, decide_eq_true_eq] at hw'
  have e1 : IntKind.u8.min = 0 := by decide
  have e2 : IntKind.u8.max = 255 := by decide
  refine ⟨n, ⟨by omega, by omega⟩, rfl, fun j d u hd hu => ?_⟩
  cases j with
  | zero => simp [datY] at hd hu; subst hd hu; exact .int _ _
  | succ j => simp [datY] at hd
set_option maxRecDepth 100000 in
theorem open_bytes : OpenK enc Try.prog w base spare held (datL 1 datY) (fun xs => xs.length ≤ maxLen ∧ ∀ x ∈ xs, 0 ≤ x ∧ x ≤ 255) 22 1 :=
  OpenK.slc (OpenK.byte Try.underlying5) Try.underlying22 (by kernel_rfl) (by decide)
end
theorem bytes_map {xs : List Int} (h : ∀ x ∈ xs, 0 ≤ x ∧ x ≤ 255) : Bytes (xs.map datY) := by
  intro e he
  obtain ⟨n, hn, rfl⟩ := List.mem_map.1 he
  exact ⟨n, rfl, h n hn⟩
/-- a cursor at its start -/
theorem cur0 {xs : List Int} (h : ∀ x ∈ xs, 0 ≤ x ∧ x ≤ 255) (hn : xs.length ≤ 9223372036854775807) : Cur 0 [.lst 1 (xs.map datY), .int .i64 0, .int .u64 0] :=
  ⟨_, 0, 0, rfl, bytes_map h, by simpa using hn, Int.le_refl _, Int.le_refl _⟩
end Go.Proofs.Ytldcnlhfanbdfaa
