/- What the walks take of the world: that bytealg.MaxLen holds some number: nothing that a call makes turns it. Clone of strings; rows of strings. -/
import Derived.Test.YtpdkncchjkkmeaaDoorRows
import Derived.Test.YtpdkncchjkkmeaaDoorShelf
import Derived.Test.YtpdkncchjkkmeaaDoorWMore
import Derived.Lib.SplitLaws
import Derived.WalkSmall
import Derived.Sort.Grow
import Derived.Deep.Draws
import Derived.Below
import Derived.LaidMore
import Derived.Deep.DeepHandedRow
import Derived.MakeChecks
namespace Go.Proofs.YtpdkncchjkkmeaaDoor.G
open Go.RowKit Go.Proofs.YtpdkncchjkkmeaaDoorW.PrintWords
def T (w : World) : Prop := ∃ m, w.cell? ⟨0, 0, none⟩ = some (.int .i64 m)
theorem T_below {w w' : World} (h : T w) (hb : Below w.heap.size w w') : T w' := by
  obtain ⟨m, hm⟩ := h
  refine ⟨m, ?_⟩
  have hl : 0 < w.heap.size := by
    rcases Nat.lt_or_ge 0 w.heap.size with hl | hl
    · exact hl
    · unfold World.cell? at hm
      rw [Array.getElem?_eq_none hl] at hm
      cases hm
  rw [← hm]
  unfold World.cell?
  rw [hb.block 0 hl]
theorem T_of_laid {W : World} {L : List (String × DataW Unit)} (_ : laidMetH Tryd.prog L W) (hs : W.ShapedOpen Tryd.prog) : T W := Tryd.laysM146.s1_3 W hs
/-- The new row that strings.Split makes. -/
theorem row_new (w : World) (xs : List ByteArray) (hm : xs.length ≤ 9223372036854775807) : Kd.R Kd.string 9 (w.alloc (.cells (xs.map Value.string).toArray 9)) w.heap.size (fun _ => True) (.slice (some ⟨w.heap.size, 0, none⟩) xs.length xs.length) xs := by
  refine ⟨fun _ _ => trivial, xs.map Value.string, ⟨by rw [List.length_map]; show _ = _ * 1; omega, .inr ⟨w.heap.size, xs.length, (xs.map Value.string).toArray, rfl, Nat.le_refl _, ?_, Nat.le_refl _, ?_, ?_, ?_⟩⟩, ?_⟩
  · show (w.heap.push _)[w.heap.size]? = _
    simp
  · simpa [maxLen] using hm
  · show _ = _ * 1
    simp
  · show (List.take (_ * 1) _) = _
    simp
    exact List.take_of_length_le (by rw [List.length_map]; exact Nat.le_refl _)
  · refine ⟨by rw [List.length_map]; show _ = _ * 1; omega, fun j p hj => ?_⟩
    show _ = _
    obtain ⟨hl, rfl⟩ := List.getElem?_eq_some_iff.1 hj
    show ((List.map Value.string xs).drop (j * 1)).take 1 = [Value.string xs[j]]
    rw [Nat.mul_one, ← List.map_drop, List.drop_eq_getElem_cons hl]
    rfl
theorem addr_plain {w : World} {ad : Addr} {v : Value} (h : w.cell? (ad.add 0) = some v) : ad.spot = none ∧ ad.block < w.heap.size := by
  obtain ⟨b, o, sp⟩ := ad
  cases sp with
  | none =>
    refine ⟨rfl, ?_⟩
    have e : (⟨b, o, none⟩ : Addr).add 0 = ⟨b, o, none⟩ := rfl
    rw [e] at h
    rcases Nat.lt_or_ge b w.heap.size with hl | hl
    · exact hl
    · unfold World.cell? at h
      rw [Array.getElem?_eq_none hl] at h
      cases h
  | some x =>
    exfalso
    have e : ((⟨b, o, some x⟩ : Addr).add 0).spot.isSome = true := rfl
    unfold World.cell? at h
    split at h
    · rw [if_pos e] at h; cases h
    · cases h
/-- A row of the call's own, as the print's words have it. -/
theorem R_of_own {w : World} {b : Nat} {v : Value} {xs : List ByteArray} (h : w.ownsRow b 9 1 v xs.length (xs.map Value.string)) : Kd.R Kd.string 9 w b (fun _ => True) v xs := by
  refine ⟨fun _ _ => trivial, xs.map Value.string, h, ?_⟩
  refine ⟨by rw [List.length_map]; show _ = _ * 1; omega, fun j p hj => ?_⟩
  show _ = _
  obtain ⟨hl, rfl⟩ := List.getElem?_eq_some_iff.1 hj
  show ((List.map Value.string xs).drop (j * 1)).take 1 = [Value.string xs[j]]
  rw [Nat.mul_one, ← List.map_drop, List.drop_eq_getElem_cons hl]
  rfl
theorem cells_of {w : World} {A : Option Addr} {l : List ByteArray} (h : Kd.C Kd.string w A l.length l) (h1 : 0 < l.length) : ∃ b o, A = some ⟨b, o, none⟩ ∧ ∀ j, j < l.length → w.cell? ⟨b, o + j, none⟩ = some (.string (l.getD j ByteArray.empty)) := by
  obtain ⟨_, _, hc⟩ := Kd.reads_of_C (enc := Value.string) (d := ByteArray.empty) (h1 := fun _ => rfl) h
  obtain ⟨ad, rfl, hcell⟩ := hc h1
  obtain ⟨hs, hb⟩ := addr_plain (hcell 0 h1)
  obtain ⟨b, o, sp⟩ := ad
  simp only at hs hb
  subst hs
  refine ⟨b, o, rfl, fun j hj => ?_⟩
  have e : (⟨b, o, none⟩ : Addr).add j = ⟨b, o + j, none⟩ := by unfold Addr.add; split <;> simp_all
  have := hcell j hj
  rw [e] at this
  exact this
/-- slices.Clone of strings, whatever is read. -/
theorem clone (A : Option Addr) (c : Nat) (l : List ByteArray) (w : World) (hr : Kd.C Kd.string w A l.length l) (hb : l.length * 16 ≤ 140737488355328) :
    Calls Tryd.prog 24 #[.slice A l.length c] w fun e w' => ∃ v, e = .returned v ∧ w'.ownsRow w.heap.size 9 1 v l.length (l.map Value.string) ∧ Below w.heap.size w w' := by
  cases l with
  | nil =>
    cases A with
    | none =>
      refine (Tryd.slices_Clone_string_nil 0 c w).mono ?_
      rintro e w' ⟨rfl, rfl⟩
      exact ⟨_, rfl, ⟨rfl, .inl ⟨rfl, rfl⟩⟩, Below.refl _ _⟩
    | some a =>
      refine (Tryd.slices_Clone_string_zero a c w).mono ?_
      rintro e w' ⟨v, rfl, h1, _, h2⟩
      exact ⟨v, rfl, h1, h2⟩
  | cons x l =>
    obtain ⟨b, o, rfl, hc⟩ := cells_of hr (by simp)
    refine (Tryd.slices_Clone_string b o (x :: l).length c (x :: l) w (Nat.le_refl _) hb hc).mono ?_
    rintro e w' ⟨v, rfl, h1, _, h2⟩
    rw [List.take_length] at h1
    exact ⟨v, rfl, h1, h2⟩
end Go.Proofs.YtpdkncchjkkmeaaDoor.G
