/- Chapter 11: the reference's Print, walked. -/
import Derived.Test.YtamoggikjaoanaaDoorPx2
import Derived.Deep.DeepCutAuto
import Derived.Deep.CutBlock
namespace Go.Proofs.YtamoggikjaoanaaDoor.P
open Go.RowKit Go.Proofs.YtamoggikjaoanaaDoorW.PrintWords Go.Proofs.YtamoggikjaoanaaDoorW.PrintLast Go.Proofs.YtamoggikjaoanaaDoorW.PrintMore
attribute [local go_sem] max2_int min2_int max_two min_two max_three min_three max_four min_four
set_option linter.unusedVariables false
set_option linter.unusedSimpArgs false
def rS1 (a0 : ByteArray) : ByteArray := a0 ++ ⟨#[58]⟩
def rW2 (a0 a1 : ByteArray) : ByteArray := (rS1 a0 ++ ⟨#[47, 47]⟩) ++ a1
def rW3 (a0 a1 a2 : ByteArray) : ByteArray := if a2.toList = [] then rW2 a0 a1 else (rW2 a0 a1 ++ ⟨#[58]⟩) ++ a2
def rW4 (a0 a1 a2 : ByteArray) : ByteArray := if (a1 ++ a2).toList = [] then rW3 a0 a1 a2 else rW3 a0 a1 a2 ++ ⟨#[64]⟩
def rW5 (a0 a1 a2 a3 : ByteArray) : ByteArray := rW4 a0 a1 a2 ++ a3
def rW6 (a0 a1 a2 a3 : ByteArray) (a5 : Int) (pt : ByteArray) : ByteArray := if a5 = -1 then rW5 a0 a1 a2 a3 else (rW5 a0 a1 a2 a3 ++ ⟨#[58]⟩) ++ pt
def rDot (a6 : Bool) (l8 : List ByteArray) : Bool := !a6 && (decide ((l8.length : Int) > 1) && (rdOf ByteArray.empty l8 0).toList == [])
def rS2 (a0 a1 a2 a3 : ByteArray) (a4 : Bool) (a5 : Int) (a6 : Bool) (l8 : List ByteArray) (pt : ByteArray) : ByteArray := if a4 = true then rW6 a0 a1 a2 a3 a5 pt else if rDot a6 l8 = true then rS1 a0 ++ ⟨#[47, 46]⟩ else rS1 a0
def rS4 (s : ByteArray) (b : Bool) (q : ByteArray) (c : UInt8) : ByteArray := if b = true then (s ++ ⟨#[c]⟩) ++ q else s
theorem rs (x y : ByteArray) : (x ++ y).size = x.size + y.size := ByteArray.size_append
theorem rS1_le (a0 : ByteArray) : (rS1 a0).size ≤ a0.size + 1 := by unfold rS1; rw [rs]; exact Nat.le_refl _
theorem rW2_le (a0 a1 : ByteArray) : (rW2 a0 a1).size ≤ a0.size + a1.size + 3 := by
  unfold rW2; rw [rs, rs]
  have := rS1_le a0
  have e : (⟨#[47, 47]⟩ : ByteArray).size = 2 := rfl
  omega
theorem rW3_le (a0 a1 a2 : ByteArray) : (rW3 a0 a1 a2).size ≤ a0.size + a1.size + a2.size + 4 := by
  have := rW2_le a0 a1
  have e : (⟨#[58]⟩ : ByteArray).size = 1 := rfl
  unfold rW3; split
  · omega
  · rw [rs, rs]; omega
theorem rW4_le (a0 a1 a2 : ByteArray) : (rW4 a0 a1 a2).size ≤ a0.size + a1.size + a2.size + 5 := by
  have := rW3_le a0 a1 a2
  have e : (⟨#[64]⟩ : ByteArray).size = 1 := rfl
  unfold rW4; split
  · omega
  · rw [rs]; omega
theorem rW5_le (a0 a1 a2 a3 : ByteArray) : (rW5 a0 a1 a2 a3).size ≤ a0.size + a1.size + a2.size + a3.size + 5 := by
  have := rW4_le a0 a1 a2
  unfold rW5; rw [rs]; omega
theorem rW6_le (a0 a1 a2 a3 : ByteArray) (a5 : Int) (pt : ByteArray) : (rW6 a0 a1 a2 a3 a5 pt).size ≤ a0.size + a1.size + a2.size + a3.size + pt.size + 6 := by
  have := rW5_le a0 a1 a2 a3
  have e : (⟨#[58]⟩ : ByteArray).size = 1 := rfl
  unfold rW6; split
  · omega
  · rw [rs, rs]; omega
theorem rS2_le (a0 a1 a2 a3 : ByteArray) (a4 : Bool) (a5 : Int) (a6 : Bool) (l8 : List ByteArray) (pt : ByteArray) : (rS2 a0 a1 a2 a3 a4 a5 a6 l8 pt).size ≤ a0.size + a1.size + a2.size + a3.size + pt.size + 6 := by
  have := rW6_le a0 a1 a2 a3 a5 pt
  have := rS1_le a0
  have e : (⟨#[47, 46]⟩ : ByteArray).size = 2 := rfl
  unfold rS2; split
  · omega
  · split
    · rw [rs]; omega
    · omega
theorem rS4_le (s : ByteArray) (b : Bool) (q : ByteArray) (c : UInt8) : (rS4 s b q c).size ≤ s.size + q.size + 1 := by
  have e : (⟨#[c]⟩ : ByteArray).size = 1 := rfl
  unfold rS4; split
  · rw [rs, rs]; omega
  · omega
end Go.Proofs.YtamoggikjaoanaaDoor.P
