/- Chapter 11: the reference's Few and Same, in plain words. -/
import Derived.Test.YtamoggikjaoanaaDoorPx2
import Derived.Test.YtamoggikjaoanaaDoorPx3
import Derived.Test.YtamoggikjaoanaaDoorPx4
import Derived.Test.YtamoggikjaoanaaDoorUrlS
namespace Go.Proofs.YtamoggikjaoanaaDoor.UrlP
open Go.RowKit Go.Proofs.YtamoggikjaoanaaDoor.P Go.Proofs.YtamoggikjaoanaaDoor.Url Go.Proofs.YtamoggikjaoanaaDoorW.PrintWords Go.Proofs.YtamoggikjaoanaaDoorW.PrintLast
set_option linter.unusedVariables false
set_option linter.unusedSimpArgs false
def sumw (l : List ByteArray) (n : Int) : Int := l.foldl (fun n s => wrap64 (n + (s.size : Int))) n
def few0 (a0 a1 a2 a3 : ByteArray) (a4 : Bool) (a5 : Int) (a6 : Bool) (a7 : ByteArray) (la : List ByteArray) (a9 a10 : Bool) (a11 a12 : ByteArray) : Int := wrap64 ((wrap64 ((wrap64 ((wrap64 ((wrap64 ((wrap64 ((a0.size : Int) + (a1.size : Int))) + (a2.size : Int))) + (a3.size : Int))) + (a7.size : Int))) + (a11.size : Int))) + (a12.size : Int))
theorem few_l0 (a0 a1 a2 a3 : ByteArray) (a4 : Bool) (a5 : Int) (a6 : Bool) (a7 : ByteArray) (la : List ByteArray) (a9 a10 : Bool) (a11 a12 : ByteArray) (hl : la.length ≤ 1000000000000000) : ∀ (d i : Nat) (n : Int) (k : Nat), i + d = la.length → d + 1 ≤ k → carryallref11_Few.l0 k n (la.length : Int) (i : Int) a0 a1 a2 a3 a4 a5 a6 a7 la a9 a10 a11 a12 = some (decide (sumw (la.drop i) n ≤ 1000) && decide ((la.length : Int) ≤ 50)) := by
  intro d
  induction d with
  | zero =>
    intro i n k hi hk
    obtain ⟨k, rfl⟩ : ∃ m, k = m + 1 := ⟨k - 1, by omega⟩
    have e1 : la.drop i = [] := List.drop_of_length_le (by omega)
    unfold carryallref11_Few.l0
    rw [if_neg (by omega), e1]
    show _ = some (decide (n ≤ 1000) && _)
    by_cases h : n ≤ 1000
    · rw [if_pos h, decide_eq_true h, Bool.true_and]
    · rw [if_neg h, decide_eq_false h, Bool.false_and]
  | succ d ih =>
    intro i n k hi hk
    obtain ⟨k, rfl⟩ : ∃ m, k = m + 1 := ⟨k - 1, by omega⟩
    have h1 : i < la.length := by omega
    have e1 : rdOf ByteArray.empty la (i : Int) = la[i] := by unfold rdOf; rw [Int.toNat_natCast, List.getD_eq_getElem?_getD, List.getElem?_eq_getElem h1]; rfl
    have hw : wrap64 ((i : Int) + 1) = ((i + 1 : Nat) : Int) := by unfold wrap64; omega
    unfold carryallref11_Few.l0
    rw [if_pos (by omega), if_pos (by omega), if_pos (by omega), hw, ih (i + 1) _ k (by omega) (by omega), e1, List.drop_eq_getElem_cons h1]
    rfl
theorem few_f (a0 a1 a2 a3 : ByteArray) (a4 : Bool) (a5 : Int) (a6 : Bool) (a7 : ByteArray) (la : List ByteArray) (a9 a10 : Bool) (a11 a12 : ByteArray) (hl : la.length ≤ 1000000000000000) (k : Nat) (hk : la.length + 1 ≤ k) : carryallref11_Few.f k a0 a1 a2 a3 a4 a5 a6 a7 la a9 a10 a11 a12 = some (decide (sumw la (few0 a0 a1 a2 a3 a4 a5 a6 a7 la a9 a10 a11 a12) ≤ 1000) && decide ((la.length : Int) ≤ 50)) := by
  have h := few_l0 a0 a1 a2 a3 a4 a5 a6 a7 la a9 a10 a11 a12 hl la.length 0 (few0 a0 a1 a2 a3 a4 a5 a6 a7 la a9 a10 a11 a12) k (by omega) hk
  rw [List.drop_zero] at h
  exact h
theorem same10_l0 (la lb : List ByteArray) (hl : la.length = lb.length) (hb : la.length ≤ 1000000) : ∀ d i k : Nat, i + d = la.length → d + 1 ≤ k → carryallref10_Same.l0 k la lb (la.length : Int) (i : Int) = some ((la.drop i).map ByteArray.toList == (lb.drop i).map ByteArray.toList) := by
  intro d
  induction d with
  | zero =>
    intro i k hi hk
    obtain ⟨k, rfl⟩ : ∃ m, k = m + 1 := ⟨k - 1, by omega⟩
    have e1 : la.drop i = [] := List.drop_of_length_le (by omega)
    have e2 : lb.drop i = [] := List.drop_of_length_le (by omega)
    unfold carryallref10_Same.l0
    rw [if_neg (by omega), e1, e2]
    rfl
  | succ d ih =>
    intro i k hi hk
    obtain ⟨k, rfl⟩ : ∃ m, k = m + 1 := ⟨k - 1, by omega⟩
    have h1 : i < la.length := by omega
    have h2 : i < lb.length := by omega
    have e1 : rdOf ByteArray.empty la (i : Int) = la[i] := by unfold rdOf; rw [Int.toNat_natCast, List.getD_eq_getElem?_getD, List.getElem?_eq_getElem h1]; rfl
    have e2 : rdOf ByteArray.empty lb (i : Int) = lb[i] := by unfold rdOf; rw [Int.toNat_natCast, List.getD_eq_getElem?_getD, List.getElem?_eq_getElem h2]; rfl
    have hw : wrap64 ((i : Int) + 1) = ((i + 1 : Nat) : Int) := by unfold wrap64; omega
    unfold carryallref10_Same.l0
    rw [if_pos (by omega), if_pos (by omega), if_pos (by omega), if_pos (by omega), e1, e2, List.drop_eq_getElem_cons h1, List.drop_eq_getElem_cons h2, List.map_cons, List.map_cons]
    by_cases h : la[i].toList = lb[i].toList
    · rw [if_pos h, hw, ih (i + 1) k (by omega) (by omega)]
      simp [h]
    · rw [if_neg h]
      simp [h]
theorem same10 (la lb : List ByteArray) (hb : la.length ≤ 1000000) (k : Nat) (hk : la.length + 1 ≤ k) : carryallref10_Same.f k la lb = some (eqL la lb) := by
  unfold carryallref10_Same.f eqL
  by_cases h : la.length = lb.length
  · rw [if_pos (by omega)]
    exact same10_l0 la lb h hb la.length 0 k (by omega) hk
  · rw [if_neg (by omega)]
    have : ¬ la.map ByteArray.toList = lb.map ByteArray.toList := fun e => h (by have := congrArg List.length e; simpa using this)
    simp [this]
theorem same11_j1 (a0 a1 a2 a3 : ByteArray) (a4 : Bool) (a5 : Int) (a6 : Bool) (a7 : ByteArray) (la : List ByteArray) (a9 a10 : Bool) (a11 a12 : ByteArray) (b0 b1 b2 b3 : ByteArray) (b4 : Bool) (b5 : Int) (b6 : Bool) (b7 : ByteArray) (lb : List ByteArray) (b9 b10 : Bool) (b11 b12 : ByteArray) (hb : la.length ≤ 1000000) (k : Nat) (hk : la.length + 2 ≤ k) (x : Bool) : carryallref11_Same.j1 k x a0 a1 a2 a3 a4 a5 a6 a7 la a9 a10 a11 a12 b0 b1 b2 b3 b4 b5 b6 b7 lb b9 b10 b11 b12 = some (!x && (if a6 = true then a7.toList == b7.toList else eqL la lb)) := by
  obtain ⟨k, rfl⟩ : ∃ m, k = m + 1 := ⟨k - 1, by omega⟩
  rw [carryallref11_Same.j1, same10 la lb hb k (by omega)]
  cases x <;> cases a6 <;> simp
theorem same11_j0 (a0 a1 a2 a3 : ByteArray) (a4 : Bool) (a5 : Int) (a6 : Bool) (a7 : ByteArray) (la : List ByteArray) (a9 a10 : Bool) (a11 a12 : ByteArray) (b0 b1 b2 b3 : ByteArray) (b4 : Bool) (b5 : Int) (b6 : Bool) (b7 : ByteArray) (lb : List ByteArray) (b9 b10 : Bool) (b11 b12 : ByteArray) (hb : la.length ≤ 1000000) (k : Nat) (hk : la.length + 3 ≤ k) (x : Bool) : carryallref11_Same.j0 k x a0 a1 a2 a3 a4 a5 a6 a7 la a9 a10 a11 a12 b0 b1 b2 b3 b4 b5 b6 b7 lb b9 b10 b11 b12 = some (!x && ((!a4 || a3.toList == b3.toList) && (!a9 || a11.toList == b11.toList) && (!a10 || a12.toList == b12.toList) && (if a6 = true then a7.toList == b7.toList else eqL la lb))) := by
  obtain ⟨k, rfl⟩ : ∃ m, k = m + 1 := ⟨k - 1, by omega⟩
  rw [carryallref11_Same.j0]
  simp only [same11_j1 a0 a1 a2 a3 a4 a5 a6 a7 la a9 a10 a11 a12 b0 b1 b2 b3 b4 b5 b6 b7 lb b9 b10 b11 b12 hb k (by omega)]
  generalize (if a6 = true then a7.toList == b7.toList else eqL la lb) = Z
  by_cases h3 : a3.toList = b3.toList <;> by_cases h11 : a11.toList = b11.toList <;> by_cases h12 : a12.toList = b12.toList <;> cases x <;> cases a4 <;> cases a9 <;> cases a10 <;> simp [h3, h11, h12, bne]
theorem same11 (a0 a1 a2 a3 : ByteArray) (a4 : Bool) (a5 : Int) (a6 : Bool) (a7 : ByteArray) (la : List ByteArray) (a9 a10 : Bool) (a11 a12 : ByteArray) (b0 b1 b2 b3 : ByteArray) (b4 : Bool) (b5 : Int) (b6 : Bool) (b7 : ByteArray) (lb : List ByteArray) (b9 b10 : Bool) (b11 b12 : ByteArray) (hb : la.length ≤ 1000000) (k : Nat) (hk : la.length + 3 ≤ k) : carryallref11_Same.f k a0 a1 a2 a3 a4 a5 a6 a7 la a9 a10 a11 a12 b0 b1 b2 b3 b4 b5 b6 b7 lb b9 b10 b11 b12 = some (sameB a0 a1 a2 a3 a4 a5 a6 a7 a9 a10 a11 a12 b0 b1 b2 b3 b4 b5 b6 b7 b9 b10 b11 b12 (eqL la lb)) := by
  unfold carryallref11_Same.f
  simp only [same11_j0 a0 a1 a2 a3 a4 a5 a6 a7 la a9 a10 a11 a12 b0 b1 b2 b3 b4 b5 b6 b7 lb b9 b10 b11 b12 hb k (by omega)]
  unfold sameB whomB pathB flagB
  generalize eqL la lb = Z
  generalize (a3.toList == b3.toList) = E3
  generalize (a7.toList == b7.toList) = E7
  generalize (a11.toList == b11.toList) = E11
  generalize (a12.toList == b12.toList) = E12
  by_cases h0 : a0.toList = b0.toList
  · by_cases h1 : a1.toList = b1.toList
    · by_cases h2 : a2.toList = b2.toList
      · by_cases h5 : a5 = b5
        · simp only [if_pos h0, if_pos h1, if_pos h2, if_pos h5, beq_iff_eq.mpr h0, beq_iff_eq.mpr h1, beq_iff_eq.mpr h2, beq_iff_eq.mpr h5]
          revert a4 b4 a6 b6 a9 b9 a10 b10 Z E3 E7 E11 E12
          decide
        · simp only [if_pos h0, if_pos h1, if_pos h2, if_neg h5, beq_iff_eq.mpr h0, beq_iff_eq.mpr h1, beq_iff_eq.mpr h2, beq_eq_false_iff_ne.mpr h5]
          cases a4 <;> cases b4 <;> simp
      · simp only [if_pos h0, if_pos h1, if_neg h2, beq_iff_eq.mpr h0, beq_iff_eq.mpr h1, beq_eq_false_iff_ne.mpr h2]
        simp
    · simp only [if_pos h0, if_neg h1, beq_iff_eq.mpr h0, beq_eq_false_iff_ne.mpr h1]
      simp
  · simp only [if_neg h0, beq_eq_false_iff_ne.mpr h0]
    simp
end Go.Proofs.YtamoggikjaoanaaDoor.UrlP
