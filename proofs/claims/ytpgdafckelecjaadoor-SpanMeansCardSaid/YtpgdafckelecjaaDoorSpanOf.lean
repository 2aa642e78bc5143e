/- Which bytes a range means: span's Of and the reference's, in closed form; the laws SpanBig and SpanMeans in plain Lean, and their walks. -/
import Derived.Test.YtpgdafckelecjaaDoorPx3
import Derived.Test.YtpgdafckelecjaaDoorPx6
import Derived.Test.YtpgdafckelecjaaDoorPx7
import Derived.Test.YtpgdafckelecjaaDoorPx8
import Derived.Test.YtpgdafckelecjaaDoorPl
import Derived.Test.YtpgdafckelecjaaDoorSpanAwake
namespace Go.Proofs.YtpgdafckelecjaaDoor.Span
open Go.RowKit Go.Proofs.YtpgdafckelecjaaDoor.P Go.Proofs.YtpgdafckelecjaaDoor.Pl Go.Proofs.YtpgdafckelecjaaDoorW.PrintWords Go.Proofs.YtpgdafckelecjaaDoorW.PrintLast Go.Proofs.YtpgdafckelecjaaDoorW.PrintMore
def i64B (n : Int) : Prop := -9223372036854775808 ≤ n ∧ n ≤ 9223372036854775807
theorem i64_of {a : Int} (h : (Lit.int .i64 a).wf = true) : i64B a := by
  have : -9223372036854775808 ≤ a ∧ a ≤ 9223372036854775807 := by simpa [Lit.wf, IntKind.min, IntKind.max, IntKind.bits, IntKind.signed] using h
  exact this
def ofSpec (f t : Int) (hf ht : Bool) (n : Int) : Int × Int × Bool :=
  if n < 1 then (0, 0, false)
  else if hf = true then
    (if f < 0 then (0, 0, false)
     else if ht = true then (if t < 0 then (0, 0, false) else if f > mn (n - 1) t then (0, 0, false) else (f, mn (n - 1) t, true))
     else if f > n - 1 then (0, 0, false) else (f, n - 1, true))
  else if ht = true then (if t < 0 then (0, 0, false) else if mx 0 (n - t) > n - 1 then (0, 0, false) else (mx 0 (n - t), n - 1, true))
  else (0, 0, false)
theorem of_f {f t n : Int} (hf ht : Bool) (bf : i64B f) (bt : i64B t) (bn : i64B n) (k : Nat) : span_Range_Of.f (k + 1) f t hf ht n = some (ofSpec f t hf ht n) := by
  obtain ⟨f0, f1⟩ := bf
  obtain ⟨t0, t1⟩ := bt
  obtain ⟨n0, n1⟩ := bn
  unfold span_Range_Of.f ofSpec
  by_cases hn : n < 1
  · rw [if_pos hn]
    cases hf <;> cases ht <;> simp only [span_Range_Of.j0, if_true, if_false, Bool.false_eq_true, if_pos hn]
    all_goals repeat' split
    all_goals rfl
  · rw [if_neg hn]
    have w1 : wrap64 (n - 1) = n - 1 := wrap_in (by omega) (by omega)
    cases hf <;> cases ht <;> simp only [span_Range_Of.j0, if_true, if_false, Bool.false_eq_true, if_neg hn, w1, decide_eq_true_eq]
    · by_cases ht : t < 0
      · rw [if_pos ht, if_pos ht]
      · rw [if_neg ht, if_neg ht, wrap_in (n := n - t) (by omega) (by omega)]
        repeat' split
        all_goals rfl
    · repeat' split
      all_goals rfl
    · by_cases hf : f < 0
      · rw [if_pos hf, if_pos hf]
      · rw [if_neg hf, if_neg hf]
        repeat' split
        all_goals rfl
theorem SpanBig (f t : Int) (hf ht : Bool) (n : Int) (bf : i64B f) (bt : i64B t) (bn : i64B n) : ∃ k, carryalllaw20_SpanBig.f k f t hf ht n = some true := by
  obtain ⟨K, hK⟩ : ∃ K : Nat, 100 ≤ K := ⟨100, Nat.le_refl _⟩
  refine ⟨K + 1, ?_⟩
  unfold carryalllaw20_SpanBig.f
  rw [awake_at (K + 1) (by omega), Option.bind_some, if_pos rfl, of_f hf ht bf bt bn, Option.bind_some]
  obtain ⟨f0, f1⟩ := bf
  obtain ⟨t0, t1⟩ := bt
  obtain ⟨n0, n1⟩ := bn
  unfold ofSpec
  by_cases hn : n < 1
  · rw [if_pos hn]; rfl
  · rw [if_neg hn]
    have w1 : wrap64 (n - 1) = n - 1 := wrap_in (by omega) (by omega)
    cases hf <;> cases ht <;> simp only [if_true, if_false, Bool.false_eq_true, w1]
    · rfl
    · by_cases h1 : t < 0
      · rw [if_pos h1]; rfl
      · rw [if_neg h1]
        by_cases h2 : mx 0 (n - t) > n - 1
        · rw [if_pos h2]; rfl
        · rw [if_neg h2]
          have hm : 0 ≤ mx 0 (n - t) ∧ n - t ≤ mx 0 (n - t) ∧ (mx 0 (n - t) = 0 ∨ mx 0 (n - t) = n - t) := by unfold mx; split <;> omega
          generalize mx 0 (n - t) = a at *
          simp only [if_true]
          rw [if_pos (by omega), if_pos (by omega), if_pos (by omega), wrap_in (by omega) (by omega), decide_eq_true (by omega)]
    · by_cases h1 : f < 0
      · rw [if_pos h1]; rfl
      · rw [if_neg h1]
        by_cases h2 : f > n - 1
        · rw [if_pos h2]; rfl
        · rw [if_neg h2]
          simp only [if_true]
          rw [if_pos (by omega), if_pos (by omega), if_pos (by omega)]
    · by_cases h1 : f < 0
      · rw [if_pos h1]; rfl
      · rw [if_neg h1]
        by_cases h3 : t < 0
        · rw [if_pos h3]; rfl
        · rw [if_neg h3]
          by_cases h2 : f > mn (n - 1) t
          · rw [if_pos h2]; rfl
          · rw [if_neg h2]
            have hm : mn (n - 1) t ≤ n - 1 ∧ mn (n - 1) t ≤ t := by unfold mn; split <;> omega
            generalize mn (n - 1) t = b at *
            simp only [if_true]
            rw [if_pos (by omega), if_pos (by omega), if_pos (by omega), if_pos (by omega)]

/-! SpanMeans -/
def inB (f t : Int) (hf ht : Bool) (n i : Int) : Bool := (ofSpec f t hf ht n).2.2 && (decide (i ≥ (ofSpec f t hf ht n).1) && decide (i ≤ (ofSpec f t hf ht n).2.1))
theorem dec_and {p q r : Prop} [Decidable p] [Decidable q] [Decidable r] (h : p ↔ q ∧ r) : decide p = (decide q && decide r) := by
  by_cases hq : q <;> by_cases hr : r <;> simp_all
theorem rof_f {f t n i : Int} (hf ht : Bool) (bf : i64B f) (bt : i64B t) (bn : i64B n) (i0 : 0 ≤ i) (i1 : i < n) (k : Nat) : carryallref20_Range_Of.f (k + 1) f t hf ht i n = some (inB f t hf ht n i) := by
  obtain ⟨f0, f1⟩ := bf
  obtain ⟨t0, t1⟩ := bt
  obtain ⟨n0, n1⟩ := bn
  unfold carryallref20_Range_Of.f inB ofSpec
  have hn : ¬ n < 1 := by omega
  have hi : ¬ i < 0 := by omega
  have hin : ¬ i ≥ n := by omega
  have w1 : wrap64 (n - i) = n - i := wrap_in (by omega) (by omega)
  cases hf <;> cases ht <;> simp only [carryallref20_Range_Of.j0, if_true, if_false, Bool.false_eq_true, if_neg hi, decide_eq_false hin, w1]
  all_goals rw [if_neg hn]
  · rfl
  · by_cases h1 : t < 0
    · rw [if_pos h1, if_pos h1]; rfl
    · rw [if_neg h1, if_neg h1]
      have hm : 0 ≤ mx 0 (n - t) ∧ n - t ≤ mx 0 (n - t) ∧ (mx 0 (n - t) = 0 ∨ mx 0 (n - t) = n - t) := by unfold mx; split <;> omega
      generalize mx 0 (n - t) = a at *
      by_cases h2 : a > n - 1
      · rw [if_pos h2]
        simp
        first | omega | exact dec_and (by omega)
      · rw [if_neg h2]
        simp
        first | omega | exact dec_and (by omega)
  · by_cases h1 : f < 0
    · rw [if_pos h1, if_pos h1]; rfl
    · rw [if_neg h1, if_neg h1]
      by_cases h2 : f > n - 1
      · rw [if_pos h2, if_neg (by omega)]; rfl
      · rw [if_neg h2]
        by_cases h3 : i ≥ f
        · rw [if_pos h3]; simp; first | omega | exact dec_and (by omega)
        · rw [if_neg h3]; simp; first | omega | exact dec_and (by omega)
  · by_cases h1 : f < 0
    · rw [if_pos h1, if_pos h1]; rfl
    · rw [if_neg h1, if_neg h1]
      by_cases h4 : t < 0
      · rw [if_pos h4, if_pos h4]; rfl
      · rw [if_neg h4, if_neg h4]
        have hm : mn (n - 1) t ≤ n - 1 ∧ mn (n - 1) t ≤ t ∧ (mn (n - 1) t = n - 1 ∨ mn (n - 1) t = t) := by unfold mn; split <;> omega
        generalize mn (n - 1) t = b at *
        by_cases h2 : f > b
        · rw [if_pos h2]
          by_cases h3 : i ≥ f
          · rw [if_pos h3]; simp; first | omega | exact dec_and (by omega)
          · rw [if_neg h3]; simp
        · rw [if_neg h2]
          by_cases h3 : i ≥ f
          · rw [if_pos h3]; simp; first | omega | exact dec_and (by omega)
          · rw [if_neg h3]; simp; first | omega | exact dec_and (by omega)
theorem of_ok {f t n : Int} {hf ht : Bool} (_hn : 1 ≤ n) (h : (ofSpec f t hf ht n).2.2 = true) : 0 ≤ (ofSpec f t hf ht n).1 ∧ (ofSpec f t hf ht n).1 ≤ (ofSpec f t hf ht n).2.1 ∧ (ofSpec f t hf ht n).2.1 ≤ n - 1 := by
  have hm : 0 ≤ mx 0 (n - t) := by unfold mx; split <;> omega
  have hm2 : mn (n - 1) t ≤ n - 1 := by unfold mn; split <;> omega
  unfold ofSpec at h ⊢
  repeat' split
  all_goals simp_all
  all_goals omega
theorem of_no {f t n : Int} {hf ht : Bool} (h : (ofSpec f t hf ht n).2.2 = false) : (ofSpec f t hf ht n).1 = 0 ∧ (ofSpec f t hf ht n).2.1 = 0 := by
  unfold ofSpec at h ⊢
  repeat' split
  all_goals simp_all
theorem means_l0 {f t n : Int} (hf ht : Bool) (bf : i64B f) (bt : i64B t) (bn : i64B n) (hn : 1 ≤ n) (hn3 : n ≤ 300) : ∀ (d : Nat) (i : Int) (k : Nat), 0 ≤ i → i ≤ n → n - i = d → d + 2 ≤ k →
    carryalllaw20_SpanMeans.l0 k n (ofSpec f t hf ht n).1 (ofSpec f t hf ht n).2.1 (ofSpec f t hf ht n).2.2 ((ofSpec f t hf ht n).2.2 && decide ((ofSpec f t hf ht n).1 < i)) n i f t hf ht = some true := by
  have hok := of_ok (f := f) (t := t) (hf := hf) (ht := ht) hn
  have hno := of_no (f := f) (t := t) (n := n) (hf := hf) (ht := ht)
  intro d
  induction d with
  | zero =>
    intro i k i0 i1 hd hk
    obtain ⟨k, rfl⟩ : ∃ j, k = j + 1 := ⟨k - 1, by omega⟩
    rw [carryalllaw20_SpanMeans.l0, if_neg (by omega)]
    generalize ofSpec f t hf ht n = o at *
    obtain ⟨a, b, ok⟩ := o
    simp only at hok hno ⊢
    cases ok
    · obtain ⟨h1, h2⟩ := hno rfl
      subst h1 h2
      rfl
    · obtain ⟨h1, h2, h3⟩ := hok rfl
      simp
      omega
  | succ d ih =>
    intro i k i0 i1 hd hk
    obtain ⟨k, rfl⟩ : ∃ j, k = j + 2 := ⟨k - 2, by omega⟩
    have hw : wrap64 (i + 1) = i + 1 := wrap_in (by omega) (by omega)
    have IH := ih (i + 1) (k + 1) (by omega) (by omega) (by omega) (by omega)
    have hr := rof_f hf ht bf bt bn i0 (show i < n by omega) k
    rw [carryalllaw20_SpanMeans.l0, if_pos (by omega), hr, Option.bind_some, hw]
    unfold inB at *
    generalize ofSpec f t hf ht n = o at *
    obtain ⟨a, b, ok⟩ := o
    simp only at hok hno IH ⊢
    cases ok
    · simp only [Bool.false_and] at IH ⊢
      simpa using IH
    · obtain ⟨h1, h2, h3⟩ := hok rfl
      simp only [Bool.true_and, if_true] at IH ⊢
      by_cases g1 : a < i
      · have e1 : decide (a < i) = true := decide_eq_true g1
        have e2 : decide (i ≥ a) = true := decide_eq_true (by omega)
        have e3 : decide (a < i + 1) = true := decide_eq_true (by omega)
        rw [e3] at IH
        rw [e1, if_pos rfl, if_pos (by omega), e2, Bool.true_and, if_neg (by simp)]
        exact IH
      · have e1 : decide (a < i) = false := decide_eq_false g1
        rw [e1, if_neg Bool.false_ne_true]
        by_cases g2 : i = a
        · have e2 : decide (i ≥ a) = true := decide_eq_true (by omega)
          have e3 : decide (a < i + 1) = true := decide_eq_true (by omega)
          have e4 : decide (i ≤ b) = true := decide_eq_true (by omega)
          rw [e3] at IH
          rw [if_pos (by omega), e2, e4, if_neg (by simp)]
          exact IH
        · have e2 : decide (i ≥ a) = false := decide_eq_false (by omega)
          have e3 : decide (a < i + 1) = false := decide_eq_false (by omega)
          rw [e3] at IH
          rw [if_neg (by omega), e2, Bool.false_and, if_neg (by simp)]
          exact IH
theorem SpanMeans (f t : Int) (hf ht : Bool) (n : Int) (bf : i64B f) (bt : i64B t) (bn : i64B n) : ∃ k, carryalllaw20_SpanMeans.f k f t hf ht n = some true := by
  obtain ⟨K, hK⟩ : ∃ K : Nat, 1000 ≤ K := ⟨1000, Nat.le_refl _⟩
  refine ⟨K + 2, ?_⟩
  unfold carryalllaw20_SpanMeans.f
  rw [awake_at (K + 2) (by omega), Option.bind_some, if_pos rfl]
  by_cases hg : n > 300
  · rw [decide_eq_true hg, carryalllaw20_SpanMeans.j0, if_pos rfl, awake_at (K + 1) (by omega)]; rfl
  · rw [decide_eq_false hg, carryalllaw20_SpanMeans.j0, if_neg Bool.false_ne_true, of_f hf ht bf bt bn, Option.bind_some]
    by_cases hn : 1 ≤ n
    · have hx : mx n 0 = n := by unfold mx; rw [if_neg (by omega)]
      have := means_l0 hf ht bf bt bn hn (by omega) n.toNat 0 (K + 1) (by omega) (by omega) (by omega) (by omega)
      have e : ((ofSpec f t hf ht n).2.2 && decide ((ofSpec f t hf ht n).1 < 0)) = false := by
        cases h : (ofSpec f t hf ht n).2.2
        · rfl
        · have := (of_ok hn h).1
          rw [Bool.true_and]
          exact decide_eq_false (by omega)
      rw [e] at this
      rw [hx]
      exact this
    · have e : ofSpec f t hf ht n = (0, 0, false) := by unfold ofSpec; rw [if_pos (by omega)]
      have hx : ¬ (0 : Int) < mx n 0 := by unfold mx; split <;> omega
      rw [e, carryalllaw20_SpanMeans.l0, if_neg hx]
      rfl

/-! the walks -/
theorem big_walk (a00 a01 : Int) (a02 a03 : Bool) (a1 : Int) (w : World) (w00 : (Lit.int .i64 a00).wf = true) (w01 : (Lit.int .i64 a01).wf = true) (w1 : (Lit.int .i64 a1).wf = true) (hT : G.T w) :
    Calls Tryd.prog 6 #[.agg #[.int .i64 a00, .int .i64 a01, .bool a02, .bool a03], .int .i64 a1] w fun e w' => e = .returned (.bool true) ∧ Below w.heap.size w w' := by
  obtain ⟨k, h⟩ := SpanBig a00 a01 a02 a03 a1 (i64_of w00) (i64_of w01) (i64_of w1)
  exact carryalllaw20_SpanBig.calls k a00 a01 a02 a03 a1 true w h hT
theorem means_walk (a00 a01 : Int) (a02 a03 : Bool) (a1 : Int) (w : World) (w00 : (Lit.int .i64 a00).wf = true) (w01 : (Lit.int .i64 a01).wf = true) (w1 : (Lit.int .i64 a1).wf = true) (hT : G.T w) :
    Calls Tryd.prog 4 #[.agg #[.int .i64 a00, .int .i64 a01, .bool a02, .bool a03], .int .i64 a1] w fun e w' => e = .returned (.bool true) ∧ Below w.heap.size w w' := by
  obtain ⟨k, h⟩ := SpanMeans a00 a01 a02 a03 a1 (i64_of w00) (i64_of w01) (i64_of w1)
  exact carryalllaw20_SpanMeans.calls k a00 a01 a02 a03 a1 true w h hT
end Go.Proofs.YtpgdafckelecjaaDoor.Span
