/- From 0 on, up to the last byte or beyond, all is meant; the last one alone by -1. -/
import Derived.Test.YtpgdafckelecjaaDoorPx3
import Derived.Test.YtpgdafckelecjaaDoorPx8
import Derived.Test.YtpgdafckelecjaaDoorPl
import Derived.Test.YtpgdafckelecjaaDoorSpanAwake
namespace Go.Proofs.YtpgdafckelecjaaDoor.Pure
open Go.RowKit Go.Proofs.YtpgdafckelecjaaDoor.P Go.Proofs.YtpgdafckelecjaaDoor.Pl Go.Proofs.YtpgdafckelecjaaDoor.Span Go.Proofs.YtpgdafckelecjaaDoorW.PrintWords Go.Proofs.YtpgdafckelecjaaDoorW.PrintLast Go.Proofs.YtpgdafckelecjaaDoorW.PrintMore
theorem u64_of {a : Int} (h : (Lit.int .u64 a).wf = true) : 0 ≤ a ∧ a ≤ 18446744073709551615 := by
  simpa [Lit.wf, IntKind.min, IntKind.max, IntKind.bits, IntKind.signed] using h
theorem SpanWhole : carryalllaw20_SpanWhole.Pure := by
  intro a b ha hb
  obtain ⟨a0, a1⟩ := u64_of ha
  obtain ⟨b0, b1⟩ := u64_of hb
  obtain ⟨K, hK⟩ : ∃ K : Nat, 100 ≤ K := ⟨100, Nat.le_refl _⟩
  refine ⟨K + 1, ?_⟩
  unfold carryalllaw20_SpanWhole.f
  rw [awake_at (K + 1) (by omega), Option.bind_some, if_pos rfl, Int.tmod_eq_emod_of_nonneg a0, Int.tmod_eq_emod_of_nonneg b0]
  obtain ⟨x, hx⟩ : ∃ x, a % 1099511627776 = x := ⟨_, rfl⟩
  obtain ⟨y, hy⟩ : ∃ y, b % 1099511627776 = y := ⟨_, rfl⟩
  have x0 : 0 ≤ x ∧ x < 1099511627776 := by omega
  have y0 : 0 ≤ y ∧ y < 1099511627776 := by omega
  rw [hx, hy, wrap_in (n := x) (by omega) (by omega), wrap_in (n := y) (by omega) (by omega), wrap_in (n := 1 + x) (by omega) (by omega), wrap_in (n := 1 + x - 1) (by omega) (by omega),
    wrap_in (n := 1 + x - 1 + y) (by omega) (by omega), wrap_in (n := 1 + x + y) (by omega) (by omega)]
  have w1 : wrap64 (1 + x - 1) = 1 + x - 1 := wrap_in (by omega) (by omega)
  have w2 : wrap64 (1 + x - (1 + x + y)) = 1 + x - (1 + x + y) := wrap_in (by omega) (by omega)
  have f1 : span_Range_Of.f (K + 1) 0 0 true false (1 + x) = some (0, 1 + x - 1, true) := by
    rw [span_Range_Of.f, if_pos rfl, if_neg (by omega), if_neg Bool.false_ne_true, span_Range_Of.j0, w1, if_neg Bool.false_ne_true, if_pos rfl, if_neg Bool.false_ne_true, if_neg (by omega), if_neg (by omega)]
  have f2 : span_Range_Of.f (K + 1) 0 (1 + x - 1 + y) true true (1 + x) = some (0, 1 + x - 1, true) := by
    have hm : mn (1 + x - 1) (1 + x - 1 + y) = 1 + x - 1 := by unfold mn; rw [if_neg (by omega)]
    rw [span_Range_Of.f, if_pos rfl, if_neg (by omega), if_pos rfl, decide_eq_false (by omega), span_Range_Of.j0, w1, if_neg Bool.false_ne_true, if_pos rfl, if_pos rfl, if_neg (by omega), hm, if_neg (by omega)]
  have f3 : span_Range_Of.f (K + 1) 0 (1 + x + y) false true (1 + x) = some (0, 1 + x - 1, true) := by
    have hm : mx 0 (1 + x - (1 + x + y)) = 0 := by unfold mx; rw [if_neg (by omega)]
    rw [span_Range_Of.f, if_neg Bool.false_ne_true, if_pos rfl, decide_eq_false (by omega), span_Range_Of.j0, w1, w2, if_neg Bool.false_ne_true, if_neg Bool.false_ne_true, if_neg (by omega), hm, if_neg (by omega)]
  have f4 : span_Range_Of.f (K + 1) 0 1 false true (1 + x) = some (1 + x - 1, 1 + x - 1, true) := by
    have hm : mx 0 (1 + x - 1) = 1 + x - 1 := by unfold mx; split <;> omega
    rw [span_Range_Of.f, if_neg Bool.false_ne_true, if_pos rfl, decide_eq_false (by omega), span_Range_Of.j0, w1, if_neg Bool.false_ne_true, if_neg Bool.false_ne_true, if_neg (by omega), hm, if_neg (by omega)]
  have f5 : span_Range_Of.f (K + 1) (1 + x + y) 0 true false (1 + x) = some (0, 0, false) := by
    rw [span_Range_Of.f, if_pos rfl, if_neg (by omega), if_neg Bool.false_ne_true, span_Range_Of.j0, w1, if_neg Bool.false_ne_true, if_pos rfl, if_neg Bool.false_ne_true, if_neg (by omega), if_pos (by omega)]
  rw [f1, f2, f3, f4, f5]
  simp
end Go.Proofs.YtpgdafckelecjaaDoor.Pure
