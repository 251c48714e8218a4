/-
  Inquiries: their words.
-/
import Derived.Test.YteinekbgnleohaaSmall
namespace Go.Proofs.Yteinekbgnleohaa
open Go.RowKit

structure InquiryD where
  tick : Int
  item : Int
  name : Int
  mark : Int
  acc : Bool

def InquiryD.enc (x : InquiryD) : List Value := [.int .i64 x.tick, .int .i64 x.item, .int .i64 x.name, .int .i64 x.mark, .bool x.acc]
theorem InquiryD.enc_len (x : InquiryD) : x.enc.length = 5 := rfl
theorem InquiryD.enc_one (x : InquiryD) : ∀ u ∈ x.enc, u.oneCell' = true := by simp [InquiryD.enc, Value.oneCell']
theorem InquiryD.eq {x y : InquiryD} (h0 : x.tick = y.tick) (h1 : x.item = y.item) (h2 : x.name = y.name) (h3 : x.mark = y.mark) (h4 : x.acc = y.acc) : x = y := by cases x; cases y; cases h0; cases h1; cases h2; cases h3; cases h4; rfl

theorem RdS.inquiry {w : World} {A : Option Addr} {xs : List InquiryD} (h : RdS InquiryD.enc 5 w A xs) {k : Nat} (hk : k < xs.length) :
    ∃ b off x, A = some ⟨b, off, none⟩ ∧ Hid (xs[k]? = some x) ∧ w.cell? ⟨b, off + k * 5, none⟩ = some (.int .i64 x.tick) ∧ w.cell? ⟨b, off + k * 5 + 1, none⟩ = some (.int .i64 x.item) ∧ w.cell? ⟨b, off + k * 5 + 2, none⟩ = some (.int .i64 x.name) ∧ w.cell? ⟨b, off + k * 5 + 3, none⟩ = some (.int .i64 x.mark) ∧ w.cell? ⟨b, off + k * 5 + 4, none⟩ = some (.bool x.acc) := by
  obtain ⟨b, off, x, hA, hx, hc⟩ := h.elem hk
  exact ⟨b, off, x, hA, hx, hc 0 _ rfl, hc 1 _ rfl, hc 2 _ rfl, hc 3 _ rfl, hc 4 _ rfl⟩

theorem inquiry_info : (Try.prog.info? 53).map (fun i => (i.zero, i.size, i.bytes)) = some (some (.agg #[Value.int IntKind.i64 0, Value.int IntKind.i64 0, Value.int IntKind.i64 0, Value.int IntKind.i64 0, Value.bool false]), 5, 40) := by kernel_rfl
end Go.Proofs.Yteinekbgnleohaa
