/- Chapter 11: url.Same, walked. -/
import Derived.Test.YtamoggikjaoanaaDoorProg
import Derived.Below
import Derived.Deep.Draws
import Derived.OwnWalk
import Derived.IntWalk
import Derived.Tactics
import Derived.Laws.Slices
import Derived.WalkKit
import Derived.KernelRfl
import Derived.RowKit3
import Derived.Deep.LoopGhost
import Derived.Deep.QuietTactic
import Derived.BigQuiet
import Derived.Deep.DeepCutAuto
import Derived.Deep.CutBlock
import Derived.RowKit
import Derived.Test.YtamoggikjaoanaaDoorGWords
import Derived.Test.YtamoggikjaoanaaDoorWMore
namespace Go.Proofs.YtamoggikjaoanaaDoor.Url
open Go.RowKit Go.Proofs.YtamoggikjaoanaaDoorW.PrintWords Go.Proofs.YtamoggikjaoanaaDoorW.PrintLast Go.Proofs.YtamoggikjaoanaaDoorW.PrintMore
set_option linter.unusedVariables false
set_option linter.unusedSimpArgs false
attribute [local go_sem] max2_int min2_int max_two min_two max_three min_three max_four min_four
/-! slices.Equal, as the kit's print writes it. -/
def eqs.l0 : Nat → List ByteArray → List ByteArray → Int → Int → Option (Bool)
  | 0, _, _, _, _ => none
  | k + 1, x0, x1, x12, x13 => if x13 < x12 then (if 0 ≤ x13 then (if x13 < (x0.length : Int) then (if x13 < (x1.length : Int) then (if (rdOf ByteArray.empty x0 x13).toList = (rdOf ByteArray.empty x1 x13).toList then (eqs.l0 k x0 x1 x12 (wrap64 (x13 + 1))) else (some false)) else (none)) else (none)) else (none)) else (some true)
def eqs.f (k : Nat) (l0 : List ByteArray) (l1 : List ByteArray) : Option (Bool) := if (l0.length : Int) = (l1.length : Int) then (eqs.l0 k l0 l1 (l0.length : Int) 0) else (some false)
theorem eqs.mono_l : ∀ k, (∀ y0 y1 y2 y3, LeO (eqs.l0 k y0 y1 y2 y3) (eqs.l0 (k + 1) y0 y1 y2 y3))
  | 0 => fun _ _ _ _ r h => by simp [eqs.l0] at h
  | k + 1 => by
    have ih0 := eqs.mono_l k
    · intro y0 y1 y2 y3
      unfold eqs.l0
      repeat' first
      | (with_reducible exact ih0 _ _ _ _)
      | (with_reducible exact LeO.refl _)
      | (with_reducible exact LeO.none _)
      | (with_reducible refine LeO.ite ?_ ?_)
      | (with_reducible refine LeO.bind ?_ (fun _ => ?_))
      | exact ih0 _ _ _ _
      | exact LeO.none _
      | refine LeO.ite ?_ ?_
      | refine LeO.bind ?_ (fun _ => ?_)
theorem eqs.mono : ∀ a0 a1 k, LeO (eqs.f k a0 a1) (eqs.f (k + 1) a0 a1) := by
  intro a0 a1 k
  have ih0 := eqs.mono_l k
  unfold eqs.f
  repeat' first
      | (with_reducible exact ih0 _ _ _ _)
      | (with_reducible exact LeO.refl _)
      | (with_reducible exact LeO.none _)
      | (with_reducible refine LeO.ite ?_ ?_)
      | (with_reducible refine LeO.bind ?_ (fun _ => ?_))
      | exact ih0 _ _ _ _
      | exact LeO.none _
      | refine LeO.ite ?_ ?_
      | refine LeO.bind ?_ (fun _ => ?_)
set_option maxHeartbeats 8000000 in
set_option maxRecDepth 100000 in
theorem eqs.calls (k : Nat) (A0 : Option Addr) (c0 : Nat) (l0 : List ByteArray) (A1 : Option Addr) (c1 : Nat) (l1 : List ByteArray) (r : Bool) (w : World) (hr0 : Kd.C Kd.string w A0 l0.length l0) (hc0 : l0.length ≤ c0) (hr1 : Kd.C Kd.string w A1 l1.length l1) (hc1 : l1.length ≤ c1) (h : eqs.f k l0 l1 = some r) :
    Calls Tryd.prog 24 #[.slice A0 l0.length c0, .slice A1 l1.length c1] w fun e w' => e = .returned (.bool r) ∧ Drawn0 w w' := by
  have HR0 := Aside0.mk hr0
  have HC0 := Aside0.mk hc0
  clear hr0 hc0
  have HR1 := Aside0.mk hr1
  have HC1 := Aside0.mk hc1
  clear hr1 hc1
  have H : (if (l0.length : Int) = (l1.length : Int) then (eqs.l0 k l0 l1 (l0.length : Int) 0) else (some false)) = some r := h
  clear h
  by_cases c3 : (l0.length : Int) = (l1.length : Int)
  · rw [if_pos c3] at H
    have c3b0 : ((l0.length : Int) == (l1.length : Int)) = true := beq_iff_eq.mpr c3
    have c3b1 : ((l0.length : Int) != (l1.length : Int)) = false := bne_eq_false_iff_eq.mpr c3
    have c3b2 : (l0.length == l1.length) = true := by first | simpa using c3 | (simp at c3 ⊢; omega)
    clear c3
    have H' := Aside0.mk H
    clear H
    go_enter Tryd.func24, Tryd.ntmps24
    go_wp2
    repeat (go_quiet (fail); try go_wp2)
    go_loopg [13] k (fun kq v13 w' => ∃ (x13_1 : Int), v13 = .int .i64 x13_1 ∧ Aside0 (eqs.l0 kq l0 l1 (l0.length : Int) x13_1 = some r) ∧ Aside0 (kq ≤ k) ∧ Drawn0 w w')
    case atStart => exact ⟨(0), (by first | rfl | (simp; done) | (simp [*]; done) | (simp [Go.Proofs.YtamoggikjaoanaaDoor.G.isEmpty_ne]; done)), H', ⟨Nat.le_refl _⟩, by repeat (first | exact Drawn0.refl _ | apply Drawn0.step)⟩
    case round =>
      clear H'
      try clear c1
      try clear c2
      try clear p2
      try clear c3
      try clear c3b0
      try clear c3b1
      try clear c3b2
      obtain ⟨x13_1, rfl, HA, HK1, ⟨m1, rfl⟩⟩ := hrel
      cases gk with
      | zero => exact absurd HA.out (by simp [eqs.l0])
      | succ k1 =>
        have H := HA.out
        clear HA
        simp only [eqs.l0] at H
        by_cases c4 : x13_1 < (l0.length : Int)
        · rw [if_pos c4] at H
          have c4b0 : decide (x13_1 < (l0.length : Int)) = true := decide_eq_true c4
          clear c4
          by_cases c5 : 0 ≤ x13_1
          · rw [if_pos c5] at H
            have c5b0 : decide (0 ≤ x13_1) = true := decide_eq_true c5
            clear c5
            by_cases c6 : x13_1 < (l0.length : Int)
            · rw [if_pos c6] at H
              have c6b0 : decide (x13_1 < (l0.length : Int)) = true := decide_eq_true c6
              clear c6
              by_cases c7 : x13_1 < (l1.length : Int)
              · rw [if_pos c7] at H
                have c7b0 : decide (x13_1 < (l1.length : Int)) = true := decide_eq_true c7
                clear c7
                by_cases c8 : (rdOf ByteArray.empty l0 x13_1).toList = (rdOf ByteArray.empty l1 x13_1).toList
                · rw [if_pos c8] at H
                  have c8b0 : ((rdOf ByteArray.empty l0 x13_1).toList == (rdOf ByteArray.empty l1 x13_1).toList) = true := beq_iff_eq.mpr c8
                  have c8b1 : ((rdOf ByteArray.empty l0 x13_1).toList != (rdOf ByteArray.empty l1 x13_1).toList) = false := bne_eq_false_iff_eq.mpr c8
                  clear c8
                  have H' := Aside0.mk H
                  clear H
                  have p124 : 0 ≤ (x13_1 : Int) := of_decide_eq_true (by first | (with_reducible assumption) | assumption)
                  have q124 : x13_1 < (l0.length : Int) := of_decide_eq_true (by first | (with_reducible assumption) | assumption)
                  obtain ⟨ad124, e124, hx124_0⟩ := Kd.at_string HR0.out x13_1 p124 q124
                  cases e124
                  replace p124 := eq_true p124
                  replace q124 := eq_true q124
                  have p125 : 0 ≤ (x13_1 : Int) := of_decide_eq_true (by first | (with_reducible assumption) | assumption)
                  have q125 : x13_1 < (l1.length : Int) := of_decide_eq_true (by first | (with_reducible assumption) | assumption)
                  obtain ⟨ad125, e125, hx125_0⟩ := Kd.at_string HR1.out x13_1 p125 q125
                  cases e125
                  replace p125 := eq_true p125
                  replace q125 := eq_true q125
                  go_wp2
                  repeat (go_quiet (fail); try go_wp2)
                  go_roundg k1
                  case measure => have := HK1.out; omega
                  case rel => exact ⟨(wrap64 (x13_1 + 1)), (by first | rfl | (simp; done) | (simp [*]; done) | (simp [Go.Proofs.YtamoggikjaoanaaDoor.G.isEmpty_ne]; done)), H', ⟨by have := HK1.out; omega⟩, by repeat (first | exact Drawn0.refl _ | apply Drawn0.step)⟩
                · rw [if_neg c8] at H
                  have c8b0 : ((rdOf ByteArray.empty l0 x13_1).toList == (rdOf ByteArray.empty l1 x13_1).toList) = false := beq_eq_false_iff_ne.mpr c8
                  have c8b1 : ((rdOf ByteArray.empty l0 x13_1).toList != (rdOf ByteArray.empty l1 x13_1).toList) = true := bne_iff_ne.mpr c8
                  obtain rfl := Option.some.inj H
                  have p124 : 0 ≤ (x13_1 : Int) := of_decide_eq_true (by first | (with_reducible assumption) | assumption)
                  have q124 : x13_1 < (l0.length : Int) := of_decide_eq_true (by first | (with_reducible assumption) | assumption)
                  obtain ⟨ad124, e124, hx124_0⟩ := Kd.at_string HR0.out x13_1 p124 q124
                  cases e124
                  replace p124 := eq_true p124
                  replace q124 := eq_true q124
                  have p125 : 0 ≤ (x13_1 : Int) := of_decide_eq_true (by first | (with_reducible assumption) | assumption)
                  have q125 : x13_1 < (l1.length : Int) := of_decide_eq_true (by first | (with_reducible assumption) | assumption)
                  obtain ⟨ad125, e125, hx125_0⟩ := Kd.at_string HR1.out x13_1 p125 q125
                  cases e125
                  replace p125 := eq_true p125
                  replace q125 := eq_true q125
                  go_wp2
                  repeat (go_quiet (fail); try go_wp2)
                  go_ret
                  exact ⟨by first | rfl | (simp; done) | (simp [*]; done) | (simp [Go.Proofs.YtamoggikjaoanaaDoor.G.isEmpty_ne]; done), by repeat (first | exact Drawn0.refl _ | apply Drawn0.step)⟩
              · rw [if_neg c7] at H
                exact absurd H (by simp)
            · rw [if_neg c6] at H
              exact absurd H (by simp)
          · rw [if_neg c5] at H
            exact absurd H (by simp)
        · rw [if_neg c4] at H
          have c4b0 : decide (x13_1 < (l0.length : Int)) = false := decide_eq_false c4
          clear c4
          obtain rfl := Option.some.inj H
          go_wp2
          repeat (go_quiet (fail); try go_wp2)
          go_ret
          exact ⟨by first | rfl | (simp; done) | (simp [*]; done) | (simp [Go.Proofs.YtamoggikjaoanaaDoor.G.isEmpty_ne]; done), by repeat (first | exact Drawn0.refl _ | apply Drawn0.step)⟩
  · rw [if_neg c3] at H
    have c3b0 : ((l0.length : Int) == (l1.length : Int)) = false := beq_eq_false_iff_ne.mpr c3
    have c3b1 : ((l0.length : Int) != (l1.length : Int)) = true := bne_iff_ne.mpr c3
    have c3b2 : (l0.length == l1.length) = false := by first | simpa using c3 | (simp at c3 ⊢; omega)
    obtain rfl := Option.some.inj H
    go_enter Tryd.func24, Tryd.ntmps24
    go_wp2
    repeat (go_quiet (fail); try go_wp2)
    go_ret
    exact ⟨by first | rfl | (simp; done) | (simp [*]; done) | (simp [Go.Proofs.YtamoggikjaoanaaDoor.G.isEmpty_ne]; done), by repeat (first | exact Drawn0.refl _ | apply Drawn0.step)⟩

def whomB (a0 a1 a2 a3 : ByteArray) (a4 : Bool) (a5 : Int) (b0 b1 b2 b3 : ByteArray) (b4 : Bool) (b5 : Int) : Bool :=
  a0.toList == b0.toList && a1.toList == b1.toList && a2.toList == b2.toList && (a4 == b4) && (!a4 || a3.toList == b3.toList) && a5 == b5
def pathB (a6 : Bool) (a7 : ByteArray) (b6 : Bool) (b7 : ByteArray) (q : Bool) : Bool := a6 == b6 && (a6 && a7.toList == b7.toList || !a6 && q)
def flagB (a9 : Bool) (a11 : ByteArray) (b9 : Bool) (b11 : ByteArray) : Bool := a9 == b9 && (!a9 || a11.toList == b11.toList)
def sameB (a0 a1 a2 a3 : ByteArray) (a4 : Bool) (a5 : Int) (a6 : Bool) (a7 : ByteArray) (a9 a10 : Bool) (a11 a12 : ByteArray) (b0 b1 b2 b3 : ByteArray) (b4 : Bool) (b5 : Int) (b6 : Bool) (b7 : ByteArray) (b9 b10 : Bool) (b11 b12 : ByteArray) (q : Bool) : Bool :=
  whomB a0 a1 a2 a3 a4 a5 b0 b1 b2 b3 b4 b5 && pathB a6 a7 b6 b7 q && flagB a9 a11 b9 b11 && flagB a10 a12 b10 b12
set_option maxHeartbeats 8000000 in
set_option maxRecDepth 100000 in
theorem same_any (k : Nat) (a0 a1 a2 a3 : ByteArray) (a4 : Bool) (a5 : Int) (a6 : Bool) (a7 : ByteArray) (a9 a10 : Bool) (a11 a12 : ByteArray) (A8 : Option Addr) (ca : Nat) (la : List ByteArray) (b0 b1 b2 b3 : ByteArray) (b4 : Bool) (b5 : Int) (b6 : Bool) (b7 : ByteArray) (b9 b10 : Bool) (b11 b12 : ByteArray) (B8 : Option Addr) (cb : Nat) (lb : List ByteArray) (q : Bool) (w : World) (hra : Kd.C Kd.string w A8 la.length la) (hca : la.length ≤ ca) (hrb : Kd.C Kd.string w B8 lb.length lb) (hcb : lb.length ≤ cb) (hq : eqs.f k la lb = some q) :
    Calls Tryd.prog 17 #[.agg #[.string a0, .string a1, .string a2, .string a3, .bool a4, .int .i64 a5, .bool a6, .string a7, .slice A8 la.length ca, .bool a9, .bool a10, .string a11, .string a12], .agg #[.string b0, .string b1, .string b2, .string b3, .bool b4, .int .i64 b5, .bool b6, .string b7, .slice B8 lb.length cb, .bool b9, .bool b10, .string b11, .string b12]] w fun e w' => e = .returned (.bool (sameB a0 a1 a2 a3 a4 a5 a6 a7 a9 a10 a11 a12 b0 b1 b2 b3 b4 b5 b6 b7 b9 b10 b11 b12 q)) ∧ Below w.heap.size w w' := by
  have HA := Aside0.mk hra
  have HB := Aside0.mk hrb
  have HQ := Aside0.mk hq
  have HCA := Aside0.mk hca
  have HCB := Aside0.mk hcb
  clear hra hrb hq hca hcb
  have HB0 := Aside0.mk (show Below w.heap.size w ((w.alloc (.cells #[.string a0, .string a1, .string a2, .string a3, .bool a4, .int .i64 a5, .bool a6, .string a7, .slice A8 la.length ca, .bool a9, .bool a10, .string a11, .string a12] 24)).alloc (.cells #[.string b0, .string b1, .string b2, .string b3, .bool b4, .int .i64 b5, .bool b6, .string b7, .slice B8 lb.length cb, .bool b9, .bool b10, .string b11, .string b12] 24)) from ((Below.refl _ _).alloc (Nat.le_refl _) _).alloc (by simp) _)
  have HC := Aside0.mk (show ∀ w', Below (w.heap.size + 2) ((w.alloc (.cells #[.string a0, .string a1, .string a2, .string a3, .bool a4, .int .i64 a5, .bool a6, .string a7, .slice A8 la.length ca, .bool a9, .bool a10, .string a11, .string a12] 24)).alloc (.cells #[.string b0, .string b1, .string b2, .string b3, .bool b4, .int .i64 b5, .bool b6, .string b7, .slice B8 lb.length cb, .bool b9, .bool b10, .string b11, .string b12] 24)) w' → w'.cell? ⟨w.heap.size, 0, none⟩ = some (.string a0) ∧ w'.cell? ⟨w.heap.size, 1, none⟩ = some (.string a1) ∧ w'.cell? ⟨w.heap.size, 2, none⟩ = some (.string a2) ∧ w'.cell? ⟨w.heap.size, 3, none⟩ = some (.string a3) ∧ w'.cell? ⟨w.heap.size, 4, none⟩ = some (.bool a4) ∧ w'.cell? ⟨w.heap.size, 5, none⟩ = some (.int .i64 a5) ∧ w'.cell? ⟨w.heap.size, 6, none⟩ = some (.bool a6) ∧ w'.cell? ⟨w.heap.size, 7, none⟩ = some (.string a7) ∧ w'.cell? ⟨w.heap.size, 8, none⟩ = some (.slice A8 la.length ca) ∧ w'.cell? ⟨w.heap.size, 9, none⟩ = some (.bool a9) ∧ w'.cell? ⟨w.heap.size, 10, none⟩ = some (.bool a10) ∧ w'.cell? ⟨w.heap.size, 11, none⟩ = some (.string a11) ∧ w'.cell? ⟨w.heap.size, 12, none⟩ = some (.string a12) ∧ w'.cell? ⟨w.heap.size + 1, 0, none⟩ = some (.string b0) ∧ w'.cell? ⟨w.heap.size + 1, 1, none⟩ = some (.string b1) ∧ w'.cell? ⟨w.heap.size + 1, 2, none⟩ = some (.string b2) ∧ w'.cell? ⟨w.heap.size + 1, 3, none⟩ = some (.string b3) ∧ w'.cell? ⟨w.heap.size + 1, 4, none⟩ = some (.bool b4) ∧ w'.cell? ⟨w.heap.size + 1, 5, none⟩ = some (.int .i64 b5) ∧ w'.cell? ⟨w.heap.size + 1, 6, none⟩ = some (.bool b6) ∧ w'.cell? ⟨w.heap.size + 1, 7, none⟩ = some (.string b7) ∧ w'.cell? ⟨w.heap.size + 1, 8, none⟩ = some (.slice B8 lb.length cb) ∧ w'.cell? ⟨w.heap.size + 1, 9, none⟩ = some (.bool b9) ∧ w'.cell? ⟨w.heap.size + 1, 10, none⟩ = some (.bool b10) ∧ w'.cell? ⟨w.heap.size + 1, 11, none⟩ = some (.string b11) ∧ w'.cell? ⟨w.heap.size + 1, 12, none⟩ = some (.string b12) from fun w' hb => ⟨(hb.cell (p := ⟨w.heap.size, 0, none⟩) (by simp)).trans (by simp),
    (hb.cell (p := ⟨w.heap.size, 1, none⟩) (by simp)).trans (by simp),
    (hb.cell (p := ⟨w.heap.size, 2, none⟩) (by simp)).trans (by simp),
    (hb.cell (p := ⟨w.heap.size, 3, none⟩) (by simp)).trans (by simp),
    (hb.cell (p := ⟨w.heap.size, 4, none⟩) (by simp)).trans (by simp),
    (hb.cell (p := ⟨w.heap.size, 5, none⟩) (by simp)).trans (by simp),
    (hb.cell (p := ⟨w.heap.size, 6, none⟩) (by simp)).trans (by simp),
    (hb.cell (p := ⟨w.heap.size, 7, none⟩) (by simp)).trans (by simp),
    (hb.cell (p := ⟨w.heap.size, 8, none⟩) (by simp)).trans (by simp),
    (hb.cell (p := ⟨w.heap.size, 9, none⟩) (by simp)).trans (by simp),
    (hb.cell (p := ⟨w.heap.size, 10, none⟩) (by simp)).trans (by simp),
    (hb.cell (p := ⟨w.heap.size, 11, none⟩) (by simp)).trans (by simp),
    (hb.cell (p := ⟨w.heap.size, 12, none⟩) (by simp)).trans (by simp),
    (hb.cell (p := ⟨w.heap.size + 1, 0, none⟩) (by simp)).trans (by simp),
    (hb.cell (p := ⟨w.heap.size + 1, 1, none⟩) (by simp)).trans (by simp),
    (hb.cell (p := ⟨w.heap.size + 1, 2, none⟩) (by simp)).trans (by simp),
    (hb.cell (p := ⟨w.heap.size + 1, 3, none⟩) (by simp)).trans (by simp),
    (hb.cell (p := ⟨w.heap.size + 1, 4, none⟩) (by simp)).trans (by simp),
    (hb.cell (p := ⟨w.heap.size + 1, 5, none⟩) (by simp)).trans (by simp),
    (hb.cell (p := ⟨w.heap.size + 1, 6, none⟩) (by simp)).trans (by simp),
    (hb.cell (p := ⟨w.heap.size + 1, 7, none⟩) (by simp)).trans (by simp),
    (hb.cell (p := ⟨w.heap.size + 1, 8, none⟩) (by simp)).trans (by simp),
    (hb.cell (p := ⟨w.heap.size + 1, 9, none⟩) (by simp)).trans (by simp),
    (hb.cell (p := ⟨w.heap.size + 1, 10, none⟩) (by simp)).trans (by simp),
    (hb.cell (p := ⟨w.heap.size + 1, 11, none⟩) (by simp)).trans (by simp),
    (hb.cell (p := ⟨w.heap.size + 1, 12, none⟩) (by simp)).trans (by simp)⟩)
  have HZ0 := Aside0.mk (show w.heap.size + 2 ≤ ((w.alloc (.cells #[.string a0, .string a1, .string a2, .string a3, .bool a4, .int .i64 a5, .bool a6, .string a7, .slice A8 la.length ca, .bool a9, .bool a10, .string a11, .string a12] 24)).alloc (.cells #[.string b0, .string b1, .string b2, .string b3, .bool b4, .int .i64 b5, .bool b6, .string b7, .slice B8 lb.length cb, .bool b9, .bool b10, .string b11, .string b12] 24)).heap.size by simp)
  obtain ⟨W0, hW0⟩ : ∃ W0, ((w.alloc (.cells #[.string a0, .string a1, .string a2, .string a3, .bool a4, .int .i64 a5, .bool a6, .string a7, .slice A8 la.length ca, .bool a9, .bool a10, .string a11, .string a12] 24)).alloc (.cells #[.string b0, .string b1, .string b2, .string b3, .bool b4, .int .i64 b5, .bool b6, .string b7, .slice B8 lb.length cb, .bool b9, .bool b10, .string b11, .string b12] 24)) = W0 := ⟨_, rfl⟩
  rw [hW0] at HB0 HC HZ0
  go_enter Tryd.func17, Tryd.ntmps17
  go_upto_region 0 with fail
  go_cut [2, 3, 4] from 2 to 4 (fun s2 s3 s4 wx => s2 = .pointer (some ⟨w.heap.size, 0, none⟩) ∧ s3 = .pointer (some ⟨w.heap.size + 1, 0, none⟩) ∧ s4 = .bool false ∧ W0 = wx)
  case first =>
    clear HA HB HQ HCA HCB HB0 HC
    go_wp2_with fail
    all_goals (go_meet; exact ⟨rfl, by simp, rfl, by first | rfl | exact hW0.symm⟩)
  case rest =>
  obtain ⟨rfl, rfl, rfl, rfl⟩ := hcut
  clear hW0
  go_upto_region 1 with fail
  obtain ⟨ha0, ha1, ha2, ha3, ha4, ha5, ha6, ha7, ha8, ha9, ha10, ha11, ha12, hb0, hb1, hb2, hb3, hb4, hb5, hb6, hb7, hb8, hb9, hb10, hb11, hb12⟩ := HC.out _ (Below.refl _ _)
  go_cut [0, 1, 5] from 8 to 52 (fun s0 s1 s5 wx => s5 = .bool (whomB a0 a1 a2 a3 a4 a5 b0 b1 b2 b3 b4 b5) ∧ Below (w.heap.size + 2) W0 wx)
  case first =>
    clear HA HB HQ HCA HCB HC
    go_wp2_with fail
    all_goals (go_meet; exact ⟨by simp [whomB, *], Below.refl _ _⟩)
  case rest =>
  obtain ⟨rfl, hw1⟩ := hcut
  clear ha0 ha1 ha2 ha3 ha4 ha5 ha6 ha7 ha8 ha9 ha10 ha11 ha12 hb0 hb1 hb2 hb3 hb4 hb5 hb6 hb7 hb8 hb9 hb10 hb11 hb12
  go_upto_region 2 with fail
  obtain ⟨ha0, ha1, ha2, ha3, ha4, ha5, ha6, ha7, ha8, ha9, ha10, ha11, ha12, hb0, hb1, hb2, hb3, hb4, hb5, hb6, hb7, hb8, hb9, hb10, hb11, hb12⟩ := HC.out _ hw1
  have HW1 := Aside0.mk hw1
  clear hw1
  go_cut [0, 1, 6] from 53 to 80 (fun s0 s1 s6 wx => s6 = .bool (pathB a6 a7 b6 b7 q) ∧ Below (w.heap.size + 2) W0 wx)
  case first =>
    have HE := Aside0.mk (show ∀ wy, Below (w.heap.size + 2) W0 wy → Calls Tryd.prog 24 #[.slice A8 la.length ca, .slice B8 lb.length cb] wy fun e w' => e = .returned (.bool q) ∧ Drawn0 wy w' from fun wy hb => eqs.calls k A8 ca la B8 cb lb q wy (Kd.C_below HA.out (HB0.out.trans (hb.mono (by omega)))) HCA.out (Kd.C_below HB.out (HB0.out.trans (hb.mono (by omega)))) HCB.out HQ.out)
    clear HA HB HQ HCA HCB HB0
    go_wp2_with (go_at_call 24; (with_reducible refine (HE.out _ HW1.out).mono ?_); rintro e wz ⟨rfl, hz⟩; have HZ := Aside0.mk (HW1.out.trans (hz.below.mono (Nat.le_trans HZ0.out HW1.out.size))); clear hz)
    all_goals (go_meet; exact ⟨by simp [pathB, *], by first | exact HW1.out | exact HZ.out⟩)
  case rest =>
  obtain ⟨rfl, hw2⟩ := hcut
  clear ha0 ha1 ha2 ha3 ha4 ha5 ha6 ha7 ha8 ha9 ha10 ha11 ha12 hb0 hb1 hb2 hb3 hb4 hb5 hb6 hb7 hb8 hb9 hb10 hb11 hb12
  go_upto_region 3 with fail
  obtain ⟨ha0, ha1, ha2, ha3, ha4, ha5, ha6, ha7, ha8, ha9, ha10, ha11, ha12, hb0, hb1, hb2, hb3, hb4, hb5, hb6, hb7, hb8, hb9, hb10, hb11, hb12⟩ := HC.out _ hw2
  have HW2 := Aside0.mk hw2
  clear hw2
  go_cut [0, 1, 7] from 81 to 97 (fun s0 s1 s7 wx => s7 = .bool (flagB a9 a11 b9 b11) ∧ Below (w.heap.size + 2) W0 wx)
  case first =>
    clear HA HB HQ HCA HCB HB0 HC
    go_wp2_with fail
    all_goals (go_meet; exact ⟨by simp [flagB, *], HW2.out⟩)
  case rest =>
  obtain ⟨rfl, hw3⟩ := hcut
  clear ha0 ha1 ha2 ha3 ha4 ha5 ha6 ha7 ha8 ha9 ha10 ha11 ha12 hb0 hb1 hb2 hb3 hb4 hb5 hb6 hb7 hb8 hb9 hb10 hb11 hb12
  go_upto_region 4 with fail
  obtain ⟨ha0, ha1, ha2, ha3, ha4, ha5, ha6, ha7, ha8, ha9, ha10, ha11, ha12, hb0, hb1, hb2, hb3, hb4, hb5, hb6, hb7, hb8, hb9, hb10, hb11, hb12⟩ := HC.out _ hw3
  have HW3 := Aside0.mk (HB0.out.trans (hw3.mono (by omega)))
  clear hw3 HA HB HQ HCA HCB HB0 HC HW1 HW2
  obtain ⟨B1, e1⟩ : ∃ b, whomB a0 a1 a2 a3 a4 a5 b0 b1 b2 b3 b4 b5 = b := ⟨_, rfl⟩
  obtain ⟨B2, e2⟩ : ∃ b, pathB a6 a7 b6 b7 q = b := ⟨_, rfl⟩
  obtain ⟨B3, e3⟩ : ∃ b, flagB a9 a11 b9 b11 = b := ⟨_, rfl⟩
  rw [e1, e2, e3]
  have E1 := Aside0.mk e1
  have E2 := Aside0.mk e2
  have E3 := Aside0.mk e3
  clear e1 e2 e3
  go_wp2_with fail
  all_goals (go_ret; exact ⟨by unfold sameB; rw [E1.out, E2.out, E3.out]; simp [flagB, *], HW3.out⟩)
def eqL (la lb : List ByteArray) : Bool := la.map ByteArray.toList == lb.map ByteArray.toList
theorem eqs_l0 (la lb : List ByteArray) (hl : la.length = lb.length) (hb : la.length ≤ 1000000) : ∀ d i : Nat, i + d = la.length → eqs.l0 (d + 1) la lb (la.length : Int) (i : Int) = some ((la.drop i).map ByteArray.toList == (lb.drop i).map ByteArray.toList) := by
  intro d
  induction d with
  | zero =>
    intro i hi
    have e1 : la.drop i = [] := List.drop_of_length_le (by omega)
    have e2 : lb.drop i = [] := List.drop_of_length_le (by omega)
    unfold eqs.l0
    rw [if_neg (by omega), e1, e2]
    rfl
  | succ d ih =>
    intro i hi
    have h1 : i < la.length := by omega
    have h2 : i < lb.length := by omega
    have e1 : rdOf ByteArray.empty la (i : Int) = la[i] := by unfold rdOf; rw [Int.toNat_natCast, List.getD_eq_getElem?_getD, List.getElem?_eq_getElem h1]; rfl
    have e2 : rdOf ByteArray.empty lb (i : Int) = lb[i] := by unfold rdOf; rw [Int.toNat_natCast, List.getD_eq_getElem?_getD, List.getElem?_eq_getElem h2]; rfl
    have hw : wrap64 ((i : Int) + 1) = ((i + 1 : Nat) : Int) := by unfold wrap64; omega
    unfold eqs.l0
    rw [if_pos (by omega), if_pos (by omega), if_pos (by omega), if_pos (by omega), e1, e2, List.drop_eq_getElem_cons h1, List.drop_eq_getElem_cons h2, List.map_cons, List.map_cons]
    by_cases h : la[i].toList = lb[i].toList
    · rw [if_pos h, hw, ih (i + 1) (by omega)]
      simp [h]
    · rw [if_neg h]
      simp [h]
theorem eqs_law (la lb : List ByteArray) (hb : la.length ≤ 1000000) : eqs.f (la.length + 1) la lb = some (eqL la lb) := by
  unfold eqs.f eqL
  by_cases h : la.length = lb.length
  · rw [if_pos (by omega)]
    exact eqs_l0 la lb h hb la.length 0 (by omega)
  · rw [if_neg (by omega)]
    have : ¬ la.map ByteArray.toList = lb.map ByteArray.toList := fun e => h (by have := congrArg List.length e; simpa using this)
    simp [this]
end Go.Proofs.YtamoggikjaoanaaDoor.Url
