-- Written for this claim by a program of this session's (not a text of the kit's print).
import Derived.Test.YtkoddcihcoekgaaDoorPx0
namespace Go.Proofs.YtkoddcihcoekgaaDoor.P
open Go.RowKit Go.Proofs.YtkoddcihcoekgaaDoorW.PrintWords Go.Proofs.YtkoddcihcoekgaaDoorW.PrintLast Go.Proofs.YtkoddcihcoekgaaDoorW.PrintMore
attribute [local go_sem] max2_int min2_int max_two min_two max_three min_three max_four min_four   -- for this text's walks alone
set_option linter.unusedVariables false
set_option linter.unusedSimpArgs false

/-! ### carryallref01_starts: function 27 -/
mutual
def carryallref01_starts.j2 : Nat → List Int → Int → Option (Bool × Bool)
  | 0, _, _ => none
  | k + 1, x0, x4 => if (x0.length : Int) > x4 then (some (false, false)) else (carryallref01_starts.l0 k x0 x4 1)
def carryallref01_starts.l0 : Nat → List Int → Int → Int → Option (Bool × Bool)
  | 0, _, _, _ => none
  | k + 1, x0, x4, x5 => if x5 < (x0.length : Int) then (if 0 ≤ x5 then (if (rd x0 x5) < 128 then (some (false, false)) else (if (rd x0 x5) > 191 then (some (false, false)) else (carryallref01_starts.l0 k x0 x4 (wrap64 (x5 + 1))))) else (none)) else (if (x0.length : Int) > 1 then (if 0 < (x0.length : Int) then (if (rd x0 0) = 224 then (if 1 < (x0.length : Int) then (if (rd x0 1) < 160 then (some (false, false)) else (if (rd x0 0) = 237 then (if (rd x0 1) > 159 then (some (false, false)) else (if (rd x0 0) = 240 then (if (rd x0 1) < 144 then (some (false, false)) else (if (rd x0 0) = 244 then (if (rd x0 1) > 143 then (some (false, false)) else (some (true, ((x0.length : Int) == x4)))) else (some (true, ((x0.length : Int) == x4))))) else (if (rd x0 0) = 244 then (if (rd x0 1) > 143 then (some (false, false)) else (some (true, ((x0.length : Int) == x4)))) else (some (true, ((x0.length : Int) == x4)))))) else (if (rd x0 0) = 240 then (if (rd x0 1) < 144 then (some (false, false)) else (if (rd x0 0) = 244 then (if (rd x0 1) > 143 then (some (false, false)) else (some (true, ((x0.length : Int) == x4)))) else (some (true, ((x0.length : Int) == x4))))) else (if (rd x0 0) = 244 then (if (rd x0 1) > 143 then (some (false, false)) else (some (true, ((x0.length : Int) == x4)))) else (some (true, ((x0.length : Int) == x4))))))) else (none)) else (if (rd x0 0) = 237 then (if 1 < (x0.length : Int) then (if (rd x0 1) > 159 then (some (false, false)) else (if (rd x0 0) = 240 then (if (rd x0 1) < 144 then (some (false, false)) else (if (rd x0 0) = 244 then (if (rd x0 1) > 143 then (some (false, false)) else (some (true, ((x0.length : Int) == x4)))) else (some (true, ((x0.length : Int) == x4))))) else (if (rd x0 0) = 244 then (if (rd x0 1) > 143 then (some (false, false)) else (some (true, ((x0.length : Int) == x4)))) else (some (true, ((x0.length : Int) == x4)))))) else (none)) else (if (rd x0 0) = 240 then (if 1 < (x0.length : Int) then (if (rd x0 1) < 144 then (some (false, false)) else (if (rd x0 0) = 244 then (if (rd x0 1) > 143 then (some (false, false)) else (some (true, ((x0.length : Int) == x4)))) else (some (true, ((x0.length : Int) == x4))))) else (none)) else (if (rd x0 0) = 244 then (if 1 < (x0.length : Int) then (if (rd x0 1) > 143 then (some (false, false)) else (some (true, ((x0.length : Int) == x4)))) else (none)) else (some (true, ((x0.length : Int) == x4))))))) else (none)) else (some (true, ((x0.length : Int) == x4))))
def carryallref01_starts.j0 : Nat → List Int → Int → Bool → Option (Bool × Bool)
  | 0, _, _, _ => none
  | k + 1, x0, x4, x11 => if x11 = true then (carryallref01_starts.j2 k x0 2) else (if 0 < (x0.length : Int) then (if (rd x0 0) ≥ 224 then (carryallref01_starts.j1 k x0 x4 (decide ((rd x0 0) ≤ 239))) else (carryallref01_starts.j1 k x0 x4 false)) else (none))
def carryallref01_starts.j1 : Nat → List Int → Int → Bool → Option (Bool × Bool)
  | 0, _, _, _ => none
  | k + 1, x0, x4, x22 => if x22 = true then (carryallref01_starts.j2 k x0 3) else (if 0 < (x0.length : Int) then (if (rd x0 0) ≥ 240 then (if (rd x0 0) ≤ 244 then (carryallref01_starts.j2 k x0 4) else (carryallref01_starts.j2 k x0 x4)) else (carryallref01_starts.j2 k x0 x4)) else (none))
end
def carryallref01_starts.f (k : Nat) (l0 : List Int) : Option (Bool × Bool) := if 0 < (l0.length : Int) then (if (rd l0 0) < 128 then (carryallref01_starts.j2 k l0 1) else (if (rd l0 0) ≥ 194 then (carryallref01_starts.j0 k l0 0 (decide ((rd l0 0) ≤ 223))) else (carryallref01_starts.j0 k l0 0 false))) else (none)
theorem carryallref01_starts.mono_l : ∀ k, (∀ y0 y1, LeO (carryallref01_starts.j2 k y0 y1) (carryallref01_starts.j2 (k + 1) y0 y1)) ∧ (∀ y0 y1 y2, LeO (carryallref01_starts.l0 k y0 y1 y2) (carryallref01_starts.l0 (k + 1) y0 y1 y2)) ∧ (∀ y0 y1 y2, LeO (carryallref01_starts.j0 k y0 y1 y2) (carryallref01_starts.j0 (k + 1) y0 y1 y2)) ∧ (∀ y0 y1 y2, LeO (carryallref01_starts.j1 k y0 y1 y2) (carryallref01_starts.j1 (k + 1) y0 y1 y2))
  | 0 => ⟨fun _ _ r h => by simp [carryallref01_starts.j2] at h, fun _ _ _ r h => by simp [carryallref01_starts.l0] at h, fun _ _ _ r h => by simp [carryallref01_starts.j0] at h, fun _ _ _ r h => by simp [carryallref01_starts.j1] at h⟩
  | k + 1 => by
    obtain ⟨ih0, ih1, ih2, ih3⟩ := carryallref01_starts.mono_l k
    refine ⟨?_, ?_, ?_, ?_⟩
    · intro y0 y1
      unfold carryallref01_starts.j2
      repeat' first
      | (with_reducible exact ih0 _ _)
      | (with_reducible exact ih1 _ _ _)
      | (with_reducible exact ih2 _ _ _)
      | (with_reducible exact ih3 _ _ _)
      | (with_reducible exact LeO.refl _)
      | (with_reducible exact LeO.none _)
      | (with_reducible refine LeO.ite ?_ ?_)
      | (with_reducible refine LeO.bind ?_ (fun _ => ?_))
      | exact ih0 _ _
      | exact ih1 _ _ _
      | exact ih2 _ _ _
      | exact ih3 _ _ _
      | exact LeO.none _
      | refine LeO.ite ?_ ?_
      | refine LeO.bind ?_ (fun _ => ?_)
    · intro y0 y1 y2
      unfold carryallref01_starts.l0
      repeat' first
      | (with_reducible exact ih0 _ _)
      | (with_reducible exact ih1 _ _ _)
      | (with_reducible exact ih2 _ _ _)
      | (with_reducible exact ih3 _ _ _)
      | (with_reducible exact LeO.refl _)
      | (with_reducible exact LeO.none _)
      | (with_reducible refine LeO.ite ?_ ?_)
      | (with_reducible refine LeO.bind ?_ (fun _ => ?_))
      | exact ih0 _ _
      | exact ih1 _ _ _
      | exact ih2 _ _ _
      | exact ih3 _ _ _
      | exact LeO.none _
      | refine LeO.ite ?_ ?_
      | refine LeO.bind ?_ (fun _ => ?_)
    · intro y0 y1 y2
      unfold carryallref01_starts.j0
      repeat' first
      | (with_reducible exact ih0 _ _)
      | (with_reducible exact ih1 _ _ _)
      | (with_reducible exact ih2 _ _ _)
      | (with_reducible exact ih3 _ _ _)
      | (with_reducible exact LeO.refl _)
      | (with_reducible exact LeO.none _)
      | (with_reducible refine LeO.ite ?_ ?_)
      | (with_reducible refine LeO.bind ?_ (fun _ => ?_))
      | exact ih0 _ _
      | exact ih1 _ _ _
      | exact ih2 _ _ _
      | exact ih3 _ _ _
      | exact LeO.none _
      | refine LeO.ite ?_ ?_
      | refine LeO.bind ?_ (fun _ => ?_)
    · intro y0 y1 y2
      unfold carryallref01_starts.j1
      repeat' first
      | (with_reducible exact ih0 _ _)
      | (with_reducible exact ih1 _ _ _)
      | (with_reducible exact ih2 _ _ _)
      | (with_reducible exact ih3 _ _ _)
      | (with_reducible exact LeO.refl _)
      | (with_reducible exact LeO.none _)
      | (with_reducible refine LeO.ite ?_ ?_)
      | (with_reducible refine LeO.bind ?_ (fun _ => ?_))
      | exact ih0 _ _
      | exact ih1 _ _ _
      | exact ih2 _ _ _
      | exact ih3 _ _ _
      | exact LeO.none _
      | refine LeO.ite ?_ ?_
      | refine LeO.bind ?_ (fun _ => ?_)
theorem carryallref01_starts.mono : ∀ a0 k, LeO (carryallref01_starts.f k a0) (carryallref01_starts.f (k + 1) a0) := by
  intro a0 k
  obtain ⟨ih0, ih1, ih2, ih3⟩ := carryallref01_starts.mono_l k
  unfold carryallref01_starts.f
  repeat' first
      | (with_reducible exact ih0 _ _)
      | (with_reducible exact ih1 _ _ _)
      | (with_reducible exact ih2 _ _ _)
      | (with_reducible exact ih3 _ _ _)
      | (with_reducible exact LeO.refl _)
      | (with_reducible exact LeO.none _)
      | (with_reducible refine LeO.ite ?_ ?_)
      | (with_reducible refine LeO.bind ?_ (fun _ => ?_))
      | exact ih0 _ _
      | exact ih1 _ _ _
      | exact ih2 _ _ _
      | exact ih3 _ _ _
      | exact LeO.none _
      | refine LeO.ite ?_ ?_
      | refine LeO.bind ?_ (fun _ => ?_)
set_option maxHeartbeats 8000000 in
set_option maxRecDepth 100000 in
theorem carryallref01_starts.calls (k : Nat) (P0_ : Nat → Prop) (A0 : Option Addr) (c0 : Nat) (l0 : List Int) (r1 : Bool) (r2 : Bool) (w : World) (hs0 : Kd.V (Kd.int .u8) 5 w w.heap.size (fun k_ => P0_ k_) (.slice A0 l0.length c0) l0) (h : carryallref01_starts.f k l0 = some (r1, r2)) :
    Calls Tryd.prog 27 #[.slice A0 l0.length c0] w fun e w' => e = .returned (.tuple #[.bool r1, .bool r2]) ∧ Below w.heap.size w w' := by
  have HO0 := Aside0.mk (show Kd.V (Kd.int .u8) 5 w w.heap.size (fun k_ => (P0_ k_ ∨ w.heap.size ≤ k_)) (.slice A0 l0.length c0) l0 from Kd.V_mono hs0 (fun k_ hk => .inl hk))
  have HB := Aside0.mk (Below.refl w.heap.size w)
  have H : (if 0 < (l0.length : Int) then (if (rd l0 0) < 128 then (carryallref01_starts.j2 k l0 1) else (if (rd l0 0) ≥ 194 then (carryallref01_starts.j0 k l0 0 (decide ((rd l0 0) ≤ 223))) else (carryallref01_starts.j0 k l0 0 false))) else (none)) = some (r1, r2) := h
  clear h
  have HC2 := Aside0.mk H
  clear H
  go_enter Tryd.func27, Tryd.ntmps27
  go_upto_block 0 with (fail)
  go_cut [4] (fun v4 wc => ∃ (kq : Nat) (x4_1 : Int), v4 = .int .i64 x4_1 ∧ Aside0 (carryallref01_starts.j2 kq l0 x4_1 = some (r1, r2)) ∧ Aside0 (kq ≤ k) ∧ Aside0 (Kd.V (Kd.int .u8) 5 wc w.heap.size (fun k_ => (P0_ k_ ∨ w.heap.size ≤ k_)) (.slice A0 l0.length c0) l0) ∧ Aside0 (Below w.heap.size w wc))
  case first =>
    have H := HC2.out
    clear HC2
    by_cases c3 : 0 < (l0.length : Int)
    · rw [if_pos c3] at H
      have c3b0 : decide (0 < (l0.length : Int)) = true := decide_eq_true c3
      have c3b1 : decide (0 < l0.length) = true := decide_eq_true (by omega)
      clear c3
      (first | rw [c3b0] | (simp only [i64_w, i32_w]; rw [c3b0]) | skip)
      by_cases c4 : (rd l0 0) < 128
      · rw [if_pos c4] at H
        have c4b0 : decide ((rd l0 0) < 128) = true := decide_eq_true c4
        clear c4
        have H' := Aside0.mk H
        clear H
        have p240 : 0 ≤ (0 : Int) := (by omega)
        have q240 : 0 < (l0.length : Int) := of_decide_eq_true (by first | (with_reducible assumption) | assumption)
        obtain ⟨ad240, e240, hx240_0⟩ := Kd.at_int (Kd.V_reads' HO0.out).2.2 0 p240 q240
        cases e240
        have qi240 : (0 < l0.length) = True := eq_true (by omega)
        (try rw [show ((0 : Int)).toNat = 0 from rfl] at hx240_0)
        (try rw [Addr.add_zero'] at hx240_0)
        replace p240 := eq_true p240
        replace q240 := eq_true q240
        go_wp2
        go_meet
        case rel => exact ⟨_, (1), (by first | rfl | (simp; done) | (simp [*]; done) | (simp [Go.Proofs.YtkoddcihcoekgaaDoor.G.isEmpty_ne]; done)), H', ⟨by first | omega | exact Nat.le_refl _⟩, ⟨by (with_reducible repeat (first | apply Kd.V_alloc | apply Kd.V_drewN | apply Kd.V_drew)); exact HO0.out⟩, ⟨by repeat (first | (with_reducible first | exact HB.out | apply below_alloc | apply pw_below_drewN | apply below_drew1) | exact HB.out)⟩⟩
      · rw [if_neg c4] at H
        have c4b0 : decide ((rd l0 0) < 128) = false := decide_eq_false c4
        clear c4
        have HC5 := Aside0.mk H
        clear H
        have p240 : 0 ≤ (0 : Int) := (by omega)
        have q240 : 0 < (l0.length : Int) := of_decide_eq_true (by first | (with_reducible assumption) | assumption)
        obtain ⟨ad240, e240, hx240_0⟩ := Kd.at_int (Kd.V_reads' HO0.out).2.2 0 p240 q240
        cases e240
        have qi240 : (0 < l0.length) = True := eq_true (by omega)
        (try rw [show ((0 : Int)).toNat = 0 from rfl] at hx240_0)
        (try rw [Addr.add_zero'] at hx240_0)
        replace p240 := eq_true p240
        replace q240 := eq_true q240
        go_upto_region 4 with (fail)
        go_cut [11] (fun v11 wc => ∃ (kq : Nat) (x11_4 : Bool), v11 = .bool x11_4 ∧ Aside0 (carryallref01_starts.j0 kq l0 0 x11_4 = some (r1, r2)) ∧ Aside0 (kq ≤ k) ∧ Aside0 (Kd.V (Kd.int .u8) 5 wc w.heap.size (fun k_ => (P0_ k_ ∨ w.heap.size ≤ k_)) (.slice (some ad240) l0.length c0) l0) ∧ Aside0 (Below w.heap.size w wc))
        case first =>
          have H := HC5.out
          clear HC5
          by_cases c6 : (rd l0 0) ≥ 194
          · rw [if_pos c6] at H
            have c6b0 : decide (194 ≤ (rd l0 0)) = true := decide_eq_true c6
            clear c6
            (first | rw [c6b0] | (simp only [i64_w, i32_w]; rw [c6b0]) | skip)
            have H' := Aside0.mk H
            clear H
            have p241 : 0 ≤ (0 : Int) := (by omega)
            have q241 : 0 < (l0.length : Int) := of_decide_eq_true (by first | (with_reducible assumption) | assumption)
            obtain ⟨ad241, e241, hx241_0⟩ := Kd.at_int (Kd.V_reads' HO0.out).2.2 0 p241 q241
            obtain rfl : ad240 = ad241 := (by injection e241)
            have qi241 : (0 < l0.length) = True := eq_true (by omega)
            (try rw [show ((0 : Int)).toNat = 0 from rfl] at hx241_0)
            (try rw [Addr.add_zero'] at hx241_0)
            replace p241 := eq_true p241
            replace q241 := eq_true q241
            have p242 : 0 ≤ (0 : Int) := (by omega)
            have q242 : 0 < (l0.length : Int) := of_decide_eq_true (by first | (with_reducible assumption) | assumption)
            obtain ⟨ad242, e242, hx242_0⟩ := Kd.at_int (Kd.V_reads' HO0.out).2.2 0 p242 q242
            obtain rfl : ad240 = ad242 := (by injection e242)
            have qi242 : (0 < l0.length) = True := eq_true (by omega)
            (try rw [show ((0 : Int)).toNat = 0 from rfl] at hx242_0)
            (try rw [Addr.add_zero'] at hx242_0)
            replace p242 := eq_true p242
            replace q242 := eq_true q242
            go_wp2
            go_meet
            case rel => exact ⟨_, (decide ((rd l0 0) ≤ 223)), (by first | rfl | (simp; done) | (simp [*]; done) | (simp [Go.Proofs.YtkoddcihcoekgaaDoor.G.isEmpty_ne]; done)), H', ⟨by first | omega | exact Nat.le_refl _⟩, ⟨by (with_reducible repeat (first | apply Kd.V_alloc | apply Kd.V_drewN | apply Kd.V_drew)); exact HO0.out⟩, ⟨by repeat (first | (with_reducible first | exact HB.out | apply below_alloc | apply pw_below_drewN | apply below_drew1) | exact HB.out)⟩⟩
          · rw [if_neg c6] at H
            have c6b0 : decide (194 ≤ (rd l0 0)) = false := decide_eq_false c6
            clear c6
            (first | rw [c6b0] | (simp only [i64_w, i32_w]; rw [c6b0]) | skip)
            have H' := Aside0.mk H
            clear H
            have p241 : 0 ≤ (0 : Int) := (by omega)
            have q241 : 0 < (l0.length : Int) := of_decide_eq_true (by first | (with_reducible assumption) | assumption)
            obtain ⟨ad241, e241, hx241_0⟩ := Kd.at_int (Kd.V_reads' HO0.out).2.2 0 p241 q241
            obtain rfl : ad240 = ad241 := (by injection e241)
            have qi241 : (0 < l0.length) = True := eq_true (by omega)
            (try rw [show ((0 : Int)).toNat = 0 from rfl] at hx241_0)
            (try rw [Addr.add_zero'] at hx241_0)
            replace p241 := eq_true p241
            replace q241 := eq_true q241
            go_wp2
            go_meet
            case rel => exact ⟨_, (false), (by first | rfl | (simp; done) | (simp [*]; done) | (simp [Go.Proofs.YtkoddcihcoekgaaDoor.G.isEmpty_ne]; done)), H', ⟨by first | omega | exact Nat.le_refl _⟩, ⟨by (with_reducible repeat (first | apply Kd.V_alloc | apply Kd.V_drewN | apply Kd.V_drew)); exact HO0.out⟩, ⟨by repeat (first | (with_reducible first | exact HB.out | apply below_alloc | apply pw_below_drewN | apply below_drew1) | exact HB.out)⟩⟩
        case rest =>
          clear HC5
          try clear c2
          try clear p2
          try clear q2
          try clear hx2
          try clear qi2
          try clear c3
          try clear c3b0
          try clear c3b1
          try clear c4
          try clear c4b0
          try clear c6
          try clear c6b0
          try clear hx240_0
          try clear hx241_0
          try clear hx242_0
          try clear p240
          try clear p241
          try clear p242
          try clear q240
          try clear q241
          try clear q242
          obtain ⟨kq, x11_4, rfl, HA, HJ4, HO_0, HB⟩ := hcut
          cases kq with
          | zero => exact absurd HA.out (by simp [carryallref01_starts.j0])
          | succ kj4 =>
            have H := HA.out
            clear HA
            simp only [carryallref01_starts.j0] at H
            by_cases c7 : x11_4 = true
            · subst c7
              have H1 : (carryallref01_starts.j2 kj4 l0 2) = some (r1, r2) := by rw [if_pos rfl] at H; exact H
              clear H
              have H := H1
              clear H1
              have H' := Aside0.mk H
              clear H
              go_wp2
              go_meet
              case rel => exact ⟨_, (2), (by first | rfl | (simp; done) | (simp [*]; done) | (simp [Go.Proofs.YtkoddcihcoekgaaDoor.G.isEmpty_ne]; done)), H', ⟨by have := HJ4.out; first | omega | exact Nat.le_refl _⟩, ⟨by (with_reducible repeat (first | apply Kd.V_alloc | apply Kd.V_drewN | apply Kd.V_drew)); exact HO_0.out⟩, ⟨by repeat (first | (with_reducible first | exact HB.out | apply below_alloc | apply pw_below_drewN | apply below_drew1) | exact HB.out)⟩⟩
            · replace c7 := Bool.eq_false_iff.mpr c7
              subst c7
              have H1 : (if 0 < (l0.length : Int) then (if (rd l0 0) ≥ 224 then (carryallref01_starts.j1 kj4 l0 0 (decide ((rd l0 0) ≤ 239))) else (carryallref01_starts.j1 kj4 l0 0 false)) else (none)) = some (r1, r2) := by rw [if_neg (show ¬ (false = true) by decide)] at H; exact H
              clear H
              have H := H1
              clear H1
              have HC8 := Aside0.mk H
              clear H
              go_upto_region 6 with (fail)
              go_cut [22] (fun v22 wc => ∃ (kq : Nat) (x22_7 : Bool), v22 = .bool x22_7 ∧ Aside0 (carryallref01_starts.j1 kq l0 0 x22_7 = some (r1, r2)) ∧ Aside0 (kq ≤ kj4) ∧ Aside0 (Kd.V (Kd.int .u8) 5 wc w.heap.size (fun k_ => (P0_ k_ ∨ w.heap.size ≤ k_)) (.slice (some ad240) l0.length c0) l0) ∧ Aside0 (Below w.heap.size w wc))
              case first =>
                have H := HC8.out
                clear HC8
                by_cases c9 : 0 < (l0.length : Int)
                · rw [if_pos c9] at H
                  have c9b0 : decide (0 < (l0.length : Int)) = true := decide_eq_true c9
                  have c9b1 : decide (0 < l0.length) = true := decide_eq_true (by omega)
                  clear c9
                  (first | rw [c9b0] | (simp only [i64_w, i32_w]; rw [c9b0]) | skip)
                  by_cases c10 : (rd l0 0) ≥ 224
                  · rw [if_pos c10] at H
                    have c10b0 : decide (224 ≤ (rd l0 0)) = true := decide_eq_true c10
                    clear c10
                    have H' := Aside0.mk H
                    clear H
                    have p243 : 0 ≤ (0 : Int) := (by omega)
                    have q243 : 0 < (l0.length : Int) := of_decide_eq_true (by first | (with_reducible assumption) | assumption)
                    obtain ⟨ad243, e243, hx243_0⟩ := Kd.at_int (Kd.V_reads' HO_0.out).2.2 0 p243 q243
                    obtain rfl : ad240 = ad243 := (by injection e243)
                    have qi243 : (0 < l0.length) = True := eq_true (by omega)
                    (try rw [show ((0 : Int)).toNat = 0 from rfl] at hx243_0)
                    (try rw [Addr.add_zero'] at hx243_0)
                    replace p243 := eq_true p243
                    replace q243 := eq_true q243
                    have p244 : 0 ≤ (0 : Int) := (by omega)
                    have q244 : 0 < (l0.length : Int) := of_decide_eq_true (by first | (with_reducible assumption) | assumption)
                    obtain ⟨ad244, e244, hx244_0⟩ := Kd.at_int (Kd.V_reads' HO_0.out).2.2 0 p244 q244
                    obtain rfl : ad240 = ad244 := (by injection e244)
                    have qi244 : (0 < l0.length) = True := eq_true (by omega)
                    (try rw [show ((0 : Int)).toNat = 0 from rfl] at hx244_0)
                    (try rw [Addr.add_zero'] at hx244_0)
                    replace p244 := eq_true p244
                    replace q244 := eq_true q244
                    go_wp2
                    go_meet
                    case rel => exact ⟨_, (decide ((rd l0 0) ≤ 239)), (by first | rfl | (simp; done) | (simp [*]; done) | (simp [Go.Proofs.YtkoddcihcoekgaaDoor.G.isEmpty_ne]; done)), H', ⟨by have := HJ4.out; first | omega | exact Nat.le_refl _⟩, ⟨by (with_reducible repeat (first | apply Kd.V_alloc | apply Kd.V_drewN | apply Kd.V_drew)); exact HO_0.out⟩, ⟨by repeat (first | (with_reducible first | exact HB.out | apply below_alloc | apply pw_below_drewN | apply below_drew1) | exact HB.out)⟩⟩
                  · rw [if_neg c10] at H
                    have c10b0 : decide (224 ≤ (rd l0 0)) = false := decide_eq_false c10
                    clear c10
                    have H' := Aside0.mk H
                    clear H
                    have p243 : 0 ≤ (0 : Int) := (by omega)
                    have q243 : 0 < (l0.length : Int) := of_decide_eq_true (by first | (with_reducible assumption) | assumption)
                    obtain ⟨ad243, e243, hx243_0⟩ := Kd.at_int (Kd.V_reads' HO_0.out).2.2 0 p243 q243
                    obtain rfl : ad240 = ad243 := (by injection e243)
                    have qi243 : (0 < l0.length) = True := eq_true (by omega)
                    (try rw [show ((0 : Int)).toNat = 0 from rfl] at hx243_0)
                    (try rw [Addr.add_zero'] at hx243_0)
                    replace p243 := eq_true p243
                    replace q243 := eq_true q243
                    go_wp2
                    go_meet
                    case rel => exact ⟨_, (false), (by first | rfl | (simp; done) | (simp [*]; done) | (simp [Go.Proofs.YtkoddcihcoekgaaDoor.G.isEmpty_ne]; done)), H', ⟨by have := HJ4.out; first | omega | exact Nat.le_refl _⟩, ⟨by (with_reducible repeat (first | apply Kd.V_alloc | apply Kd.V_drewN | apply Kd.V_drew)); exact HO_0.out⟩, ⟨by repeat (first | (with_reducible first | exact HB.out | apply below_alloc | apply pw_below_drewN | apply below_drew1) | exact HB.out)⟩⟩
                · rw [if_neg c9] at H
                  exact absurd H (by simp)
              case rest =>
                clear HC8
                try clear c1
                try clear c2
                try clear p2
                try clear q2
                try clear hx2
                try clear qi2
                try clear c3
                try clear c3b0
                try clear c3b1
                try clear c4
                try clear c4b0
                try clear c6
                try clear c6b0
                try clear c7
                try clear c9
                try clear c9b0
                try clear c9b1
                try clear c10
                try clear c10b0
                try clear hx240_0
                try clear hx241_0
                try clear hx242_0
                try clear hx243_0
                try clear hx244_0
                try clear p2
                try clear p240
                try clear p241
                try clear p242
                try clear p243
                try clear p244
                try clear q2
                try clear q240
                try clear q241
                try clear q242
                try clear q243
                try clear q244
                obtain ⟨kq, x22_7, rfl, HA, HJ7, HO_0, HB⟩ := hcut
                cases kq with
                | zero => exact absurd HA.out (by simp [carryallref01_starts.j1])
                | succ kj7 =>
                  have H := HA.out
                  clear HA
                  simp only [carryallref01_starts.j1] at H
                  by_cases c11 : x22_7 = true
                  · subst c11
                    have H1 : (carryallref01_starts.j2 kj7 l0 3) = some (r1, r2) := by rw [if_pos rfl] at H; exact H
                    clear H
                    have H := H1
                    clear H1
                    have H' := Aside0.mk H
                    clear H
                    go_wp2
                    go_meet
                    case rel => exact ⟨_, (3), (by first | rfl | (simp; done) | (simp [*]; done) | (simp [Go.Proofs.YtkoddcihcoekgaaDoor.G.isEmpty_ne]; done)), H', ⟨by have := HJ4.out; have := HJ7.out; first | omega | exact Nat.le_refl _⟩, ⟨by (with_reducible repeat (first | apply Kd.V_alloc | apply Kd.V_drewN | apply Kd.V_drew)); exact HO_0.out⟩, ⟨by repeat (first | (with_reducible first | exact HB.out | apply below_alloc | apply pw_below_drewN | apply below_drew1) | exact HB.out)⟩⟩
                  · replace c11 := Bool.eq_false_iff.mpr c11
                    subst c11
                    have H1 : (if 0 < (l0.length : Int) then (if (rd l0 0) ≥ 240 then (if (rd l0 0) ≤ 244 then (carryallref01_starts.j2 kj7 l0 4) else (carryallref01_starts.j2 kj7 l0 0)) else (carryallref01_starts.j2 kj7 l0 0)) else (none)) = some (r1, r2) := by rw [if_neg (show ¬ (false = true) by decide)] at H; exact H
                    clear H
                    have H := H1
                    clear H1
                    by_cases c12 : 0 < (l0.length : Int)
                    · rw [if_pos c12] at H
                      have c12b0 : decide (0 < (l0.length : Int)) = true := decide_eq_true c12
                      have c12b1 : decide (0 < l0.length) = true := decide_eq_true (by omega)
                      clear c12
                      by_cases c13 : (rd l0 0) ≥ 240
                      · rw [if_pos c13] at H
                        have c13b0 : decide (240 ≤ (rd l0 0)) = true := decide_eq_true c13
                        clear c13
                        by_cases c14 : (rd l0 0) ≤ 244
                        · rw [if_pos c14] at H
                          have c14b0 : decide ((rd l0 0) ≤ 244) = true := decide_eq_true c14
                          clear c14
                          have H' := Aside0.mk H
                          clear H
                          have p245 : 0 ≤ (0 : Int) := (by omega)
                          have q245 : 0 < (l0.length : Int) := of_decide_eq_true (by first | (with_reducible assumption) | assumption)
                          obtain ⟨ad245, e245, hx245_0⟩ := Kd.at_int (Kd.V_reads' HO_0.out).2.2 0 p245 q245
                          obtain rfl : ad240 = ad245 := (by injection e245)
                          have qi245 : (0 < l0.length) = True := eq_true (by omega)
                          (try rw [show ((0 : Int)).toNat = 0 from rfl] at hx245_0)
                          (try rw [Addr.add_zero'] at hx245_0)
                          replace p245 := eq_true p245
                          replace q245 := eq_true q245
                          have p246 : 0 ≤ (0 : Int) := (by omega)
                          have q246 : 0 < (l0.length : Int) := of_decide_eq_true (by first | (with_reducible assumption) | assumption)
                          obtain ⟨ad246, e246, hx246_0⟩ := Kd.at_int (Kd.V_reads' HO_0.out).2.2 0 p246 q246
                          obtain rfl : ad240 = ad246 := (by injection e246)
                          have qi246 : (0 < l0.length) = True := eq_true (by omega)
                          (try rw [show ((0 : Int)).toNat = 0 from rfl] at hx246_0)
                          (try rw [Addr.add_zero'] at hx246_0)
                          replace p246 := eq_true p246
                          replace q246 := eq_true q246
                          go_wp2
                          go_meet
                          case rel => exact ⟨_, (4), (by first | rfl | (simp; done) | (simp [*]; done) | (simp [Go.Proofs.YtkoddcihcoekgaaDoor.G.isEmpty_ne]; done)), H', ⟨by have := HJ4.out; have := HJ7.out; first | omega | exact Nat.le_refl _⟩, ⟨by (with_reducible repeat (first | apply Kd.V_alloc | apply Kd.V_drewN | apply Kd.V_drew)); exact HO_0.out⟩, ⟨by repeat (first | (with_reducible first | exact HB.out | apply below_alloc | apply pw_below_drewN | apply below_drew1) | exact HB.out)⟩⟩
                        · rw [if_neg c14] at H
                          have c14b0 : decide ((rd l0 0) ≤ 244) = false := decide_eq_false c14
                          clear c14
                          have H' := Aside0.mk H
                          clear H
                          have p245 : 0 ≤ (0 : Int) := (by omega)
                          have q245 : 0 < (l0.length : Int) := of_decide_eq_true (by first | (with_reducible assumption) | assumption)
                          obtain ⟨ad245, e245, hx245_0⟩ := Kd.at_int (Kd.V_reads' HO_0.out).2.2 0 p245 q245
                          obtain rfl : ad240 = ad245 := (by injection e245)
                          have qi245 : (0 < l0.length) = True := eq_true (by omega)
                          (try rw [show ((0 : Int)).toNat = 0 from rfl] at hx245_0)
                          (try rw [Addr.add_zero'] at hx245_0)
                          replace p245 := eq_true p245
                          replace q245 := eq_true q245
                          have p246 : 0 ≤ (0 : Int) := (by omega)
                          have q246 : 0 < (l0.length : Int) := of_decide_eq_true (by first | (with_reducible assumption) | assumption)
                          obtain ⟨ad246, e246, hx246_0⟩ := Kd.at_int (Kd.V_reads' HO_0.out).2.2 0 p246 q246
                          obtain rfl : ad240 = ad246 := (by injection e246)
                          have qi246 : (0 < l0.length) = True := eq_true (by omega)
                          (try rw [show ((0 : Int)).toNat = 0 from rfl] at hx246_0)
                          (try rw [Addr.add_zero'] at hx246_0)
                          replace p246 := eq_true p246
                          replace q246 := eq_true q246
                          go_wp2
                          go_meet
                          case rel => exact ⟨_, (0), (by first | rfl | (simp; done) | (simp [*]; done) | (simp [Go.Proofs.YtkoddcihcoekgaaDoor.G.isEmpty_ne]; done)), H', ⟨by have := HJ4.out; have := HJ7.out; first | omega | exact Nat.le_refl _⟩, ⟨by (with_reducible repeat (first | apply Kd.V_alloc | apply Kd.V_drewN | apply Kd.V_drew)); exact HO_0.out⟩, ⟨by repeat (first | (with_reducible first | exact HB.out | apply below_alloc | apply pw_below_drewN | apply below_drew1) | exact HB.out)⟩⟩
                      · rw [if_neg c13] at H
                        have c13b0 : decide (240 ≤ (rd l0 0)) = false := decide_eq_false c13
                        clear c13
                        have H' := Aside0.mk H
                        clear H
                        have p245 : 0 ≤ (0 : Int) := (by omega)
                        have q245 : 0 < (l0.length : Int) := of_decide_eq_true (by first | (with_reducible assumption) | assumption)
                        obtain ⟨ad245, e245, hx245_0⟩ := Kd.at_int (Kd.V_reads' HO_0.out).2.2 0 p245 q245
                        obtain rfl : ad240 = ad245 := (by injection e245)
                        have qi245 : (0 < l0.length) = True := eq_true (by omega)
                        (try rw [show ((0 : Int)).toNat = 0 from rfl] at hx245_0)
                        (try rw [Addr.add_zero'] at hx245_0)
                        replace p245 := eq_true p245
                        replace q245 := eq_true q245
                        go_wp2
                        go_meet
                        case rel => exact ⟨_, (0), (by first | rfl | (simp; done) | (simp [*]; done) | (simp [Go.Proofs.YtkoddcihcoekgaaDoor.G.isEmpty_ne]; done)), H', ⟨by have := HJ4.out; have := HJ7.out; first | omega | exact Nat.le_refl _⟩, ⟨by (with_reducible repeat (first | apply Kd.V_alloc | apply Kd.V_drewN | apply Kd.V_drew)); exact HO_0.out⟩, ⟨by repeat (first | (with_reducible first | exact HB.out | apply below_alloc | apply pw_below_drewN | apply below_drew1) | exact HB.out)⟩⟩
                    · rw [if_neg c12] at H
                      exact absurd H (by simp)
    · rw [if_neg c3] at H
      exact absurd H (by simp)
  case rest =>
    clear HC2
    try clear c1
    try clear c2
    try clear p2
    try clear q2
    try clear hx2
    try clear qi2
    try clear c3
    try clear c3b0
    try clear c3b1
    try clear c4
    try clear c4b0
    try clear c6
    try clear c6b0
    try clear c7
    try clear c9
    try clear c9b0
    try clear c9b1
    try clear c10
    try clear c10b0
    try clear c11
    try clear c12
    try clear c12b0
    try clear c12b1
    try clear c13
    try clear c13b0
    try clear c14
    try clear c14b0
    try clear hx240_0
    try clear hx241_0
    try clear hx242_0
    try clear hx243_0
    try clear hx244_0
    try clear hx245_0
    try clear hx246_0
    try clear p2
    try clear p240
    try clear p241
    try clear p242
    try clear p243
    try clear p244
    try clear p245
    try clear p246
    try clear q2
    try clear q240
    try clear q241
    try clear q242
    try clear q243
    try clear q244
    try clear q245
    try clear q246
    obtain ⟨kq, x4_1, rfl, HA, HJ1, HO_0, HB⟩ := hcut
    cases kq with
    | zero => exact absurd HA.out (by simp [carryallref01_starts.j2])
    | succ kj1 =>
      have H := HA.out
      clear HA
      simp only [carryallref01_starts.j2] at H
      by_cases c15 : (l0.length : Int) > x4_1
      · rw [if_pos c15] at H
        have c15b0 : decide (x4_1 < (l0.length : Int)) = true := decide_eq_true c15
        clear c15
        simp only [Option.some.injEq, Prod.mk.injEq] at H
        obtain ⟨rfl, rfl⟩ := H
        go_wp2
        go_ret2
        exact ⟨by first | rfl | (simp [errW_none, errW_some] <;> rfl) | (simp [*, errW_none, errW_some] <;> rfl) | (simp [errW_none, errW_some, Go.Proofs.YtkoddcihcoekgaaDoor.G.isEmpty_ne]; done), by repeat (first | (with_reducible first | exact HB.out | apply below_alloc | apply pw_below_drewN | apply below_drew1) | exact HB.out)⟩
      · rw [if_neg c15] at H
        have c15b0 : decide (x4_1 < (l0.length : Int)) = false := decide_eq_false c15
        clear c15
        have H' := Aside0.mk H
        clear H
        go_wp2
        go_loopg [5] kj1 (fun kq v5 w' => ∃ (x5_2 : Int), v5 = .int .i64 x5_2 ∧ Aside0 (carryallref01_starts.l0 kq l0 x4_1 x5_2 = some (r1, r2)) ∧ Aside0 (kq ≤ kj1) ∧ Aside0 (Kd.V (Kd.int .u8) 5 w' w.heap.size (fun k_ => (P0_ k_ ∨ w.heap.size ≤ k_)) (.slice A0 l0.length c0) l0) ∧ Aside0 (Below w.heap.size w w'))
        case atStart => exact ⟨(1), (by first | rfl | (simp; done) | (simp [*]; done) | (simp [Go.Proofs.YtkoddcihcoekgaaDoor.G.isEmpty_ne]; done)), H', ⟨Nat.le_refl _⟩, ⟨by (with_reducible repeat (first | apply Kd.V_alloc | apply Kd.V_drewN | apply Kd.V_drew)); exact HO_0.out⟩, ⟨by repeat (first | (with_reducible first | exact HB.out | apply below_alloc | apply pw_below_drewN | apply below_drew1) | exact HB.out)⟩⟩
        case round =>
          clear H'
          try clear c1
          try clear c2
          try clear p2
          try clear q2
          try clear hx2
          try clear qi2
          try clear c3
          try clear c3b0
          try clear c3b1
          try clear c4
          try clear c4b0
          try clear c6
          try clear c6b0
          try clear c7
          try clear c9
          try clear c9b0
          try clear c9b1
          try clear c10
          try clear c10b0
          try clear c11
          try clear c12
          try clear c12b0
          try clear c12b1
          try clear c13
          try clear c13b0
          try clear c14
          try clear c14b0
          try clear c15
          try clear c15b0
          try clear hx240_0
          try clear hx241_0
          try clear hx242_0
          try clear hx243_0
          try clear hx244_0
          try clear hx245_0
          try clear hx246_0
          try clear p2
          try clear p240
          try clear p241
          try clear p242
          try clear p243
          try clear p244
          try clear p245
          try clear p246
          try clear q2
          try clear q240
          try clear q241
          try clear q242
          try clear q243
          try clear q244
          try clear q245
          try clear q246
          obtain ⟨x5_2, rfl, HA, HK2, HO_0, HB⟩ := hrel
          cases gk with
          | zero => exact absurd HA.out (by simp [carryallref01_starts.l0])
          | succ k2 =>
            have H := HA.out
            clear HA
            simp only [carryallref01_starts.l0] at H
            by_cases c16 : x5_2 < (l0.length : Int)
            · rw [if_pos c16] at H
              have c16b0 : decide (x5_2 < (l0.length : Int)) = true := decide_eq_true c16
              clear c16
              by_cases c17 : 0 ≤ x5_2
              · rw [if_pos c17] at H
                have c17b0 : decide (0 ≤ x5_2) = true := decide_eq_true c17
                clear c17
                by_cases c18 : (rd l0 x5_2) < 128
                · rw [if_pos c18] at H
                  have c18b0 : decide ((rd l0 x5_2) < 128) = true := decide_eq_true c18
                  clear c18
                  simp only [Option.some.injEq, Prod.mk.injEq] at H
                  obtain ⟨rfl, rfl⟩ := H
                  have p247 : 0 ≤ (x5_2 : Int) := of_decide_eq_true (by first | (with_reducible assumption) | assumption)
                  have q247 : x5_2 < (l0.length : Int) := of_decide_eq_true (by first | (with_reducible assumption) | assumption)
                  obtain ⟨ad247, e247, hx247_0⟩ := Kd.at_int (Kd.V_reads' HO_0.out).2.2 x5_2 p247 q247
                  cases e247
                  replace p247 := eq_true p247
                  replace q247 := eq_true q247
                  go_wp2
                  go_ret2
                  exact ⟨by first | rfl | (simp [errW_none, errW_some] <;> rfl) | (simp [*, errW_none, errW_some] <;> rfl) | (simp [errW_none, errW_some, Go.Proofs.YtkoddcihcoekgaaDoor.G.isEmpty_ne]; done), by repeat (first | (with_reducible first | exact HB.out | apply below_alloc | apply pw_below_drewN | apply below_drew1) | exact HB.out)⟩
                · rw [if_neg c18] at H
                  have c18b0 : decide ((rd l0 x5_2) < 128) = false := decide_eq_false c18
                  clear c18
                  by_cases c19 : (rd l0 x5_2) > 191
                  · rw [if_pos c19] at H
                    have c19b0 : decide (191 < (rd l0 x5_2)) = true := decide_eq_true c19
                    clear c19
                    simp only [Option.some.injEq, Prod.mk.injEq] at H
                    obtain ⟨rfl, rfl⟩ := H
                    have p247 : 0 ≤ (x5_2 : Int) := of_decide_eq_true (by first | (with_reducible assumption) | assumption)
                    have q247 : x5_2 < (l0.length : Int) := of_decide_eq_true (by first | (with_reducible assumption) | assumption)
                    obtain ⟨ad247, e247, hx247_0⟩ := Kd.at_int (Kd.V_reads' HO_0.out).2.2 x5_2 p247 q247
                    cases e247
                    replace p247 := eq_true p247
                    replace q247 := eq_true q247
                    have p248 : 0 ≤ (x5_2 : Int) := of_decide_eq_true (by first | (with_reducible assumption) | assumption)
                    have q248 : x5_2 < (l0.length : Int) := of_decide_eq_true (by first | (with_reducible assumption) | assumption)
                    obtain ⟨ad248, e248, hx248_0⟩ := Kd.at_int (Kd.V_reads' HO_0.out).2.2 x5_2 p248 q248
                    obtain rfl : ad247 = ad248 := (by injection e248)
                    replace p248 := eq_true p248
                    replace q248 := eq_true q248
                    go_wp2
                    go_ret2
                    exact ⟨by first | rfl | (simp [errW_none, errW_some] <;> rfl) | (simp [*, errW_none, errW_some] <;> rfl) | (simp [errW_none, errW_some, Go.Proofs.YtkoddcihcoekgaaDoor.G.isEmpty_ne]; done), by repeat (first | (with_reducible first | exact HB.out | apply below_alloc | apply pw_below_drewN | apply below_drew1) | exact HB.out)⟩
                  · rw [if_neg c19] at H
                    have c19b0 : decide (191 < (rd l0 x5_2)) = false := decide_eq_false c19
                    clear c19
                    have H' := Aside0.mk H
                    clear H
                    have p247 : 0 ≤ (x5_2 : Int) := of_decide_eq_true (by first | (with_reducible assumption) | assumption)
                    have q247 : x5_2 < (l0.length : Int) := of_decide_eq_true (by first | (with_reducible assumption) | assumption)
                    obtain ⟨ad247, e247, hx247_0⟩ := Kd.at_int (Kd.V_reads' HO_0.out).2.2 x5_2 p247 q247
                    cases e247
                    replace p247 := eq_true p247
                    replace q247 := eq_true q247
                    have p248 : 0 ≤ (x5_2 : Int) := of_decide_eq_true (by first | (with_reducible assumption) | assumption)
                    have q248 : x5_2 < (l0.length : Int) := of_decide_eq_true (by first | (with_reducible assumption) | assumption)
                    obtain ⟨ad248, e248, hx248_0⟩ := Kd.at_int (Kd.V_reads' HO_0.out).2.2 x5_2 p248 q248
                    obtain rfl : ad247 = ad248 := (by injection e248)
                    replace p248 := eq_true p248
                    replace q248 := eq_true q248
                    go_wp2
                    go_roundg k2
                    case measure => have := HJ1.out; have := HK2.out; omega
                    case rel => exact ⟨(wrap64 (x5_2 + 1)), (by first | rfl | (simp; done) | (simp [*]; done) | (simp [Go.Proofs.YtkoddcihcoekgaaDoor.G.isEmpty_ne]; done)), H', ⟨by have := HJ1.out; have := HK2.out; omega⟩, ⟨by (with_reducible repeat (first | apply Kd.V_alloc | apply Kd.V_drewN | apply Kd.V_drew)); exact HO_0.out⟩, ⟨by repeat (first | (with_reducible first | exact HB.out | apply below_alloc | apply pw_below_drewN | apply below_drew1) | exact HB.out)⟩⟩
              · rw [if_neg c17] at H
                exact absurd H (by simp)
            · rw [if_neg c16] at H
              have c16b0 : decide (x5_2 < (l0.length : Int)) = false := decide_eq_false c16
              clear c16
              by_cases c20 : (l0.length : Int) > 1
              · rw [if_pos c20] at H
                have c20b0 : decide (1 < (l0.length : Int)) = true := decide_eq_true c20
                have c20b1 : decide (1 < l0.length) = true := decide_eq_true (by omega)
                clear c20
                by_cases c21 : 0 < (l0.length : Int)
                · rw [if_pos c21] at H
                  have c21b0 : decide (0 < (l0.length : Int)) = true := decide_eq_true c21
                  have c21b1 : decide (0 < l0.length) = true := decide_eq_true (by omega)
                  clear c21
                  by_cases c22 : (rd l0 0) = 224
                  · rw [if_pos c22] at H
                    have c22b0 : ((rd l0 0) == 224) = true := beq_iff_eq.mpr c22
                    have c22b1 : ((rd l0 0) != 224) = false := bne_eq_false_iff_eq.mpr c22
                    clear c22
                    by_cases c23 : 1 < (l0.length : Int)
                    · rw [if_pos c23] at H
                      have c23b0 : decide (1 < (l0.length : Int)) = true := decide_eq_true c23
                      have c23b1 : decide (1 < l0.length) = true := decide_eq_true (by omega)
                      clear c23
                      by_cases c24 : (rd l0 1) < 160
                      · rw [if_pos c24] at H
                        have c24b0 : decide ((rd l0 1) < 160) = true := decide_eq_true c24
                        clear c24
                        simp only [Option.some.injEq, Prod.mk.injEq] at H
                        obtain ⟨rfl, rfl⟩ := H
                        have p249 : 0 ≤ (0 : Int) := (by omega)
                        have q249 : 0 < (l0.length : Int) := of_decide_eq_true (by first | (with_reducible assumption) | assumption)
                        obtain ⟨ad249, e249, hx249_0⟩ := Kd.at_int (Kd.V_reads' HO_0.out).2.2 0 p249 q249
                        cases e249
                        have qi249 : (0 < l0.length) = True := eq_true (by omega)
                        (try rw [show ((0 : Int)).toNat = 0 from rfl] at hx249_0)
                        (try rw [Addr.add_zero'] at hx249_0)
                        replace p249 := eq_true p249
                        replace q249 := eq_true q249
                        have p250 : 0 ≤ (1 : Int) := (by omega)
                        have q250 : 1 < (l0.length : Int) := of_decide_eq_true (by first | (with_reducible assumption) | assumption)
                        obtain ⟨ad250, e250, hx250_0⟩ := Kd.at_int (Kd.V_reads' HO_0.out).2.2 1 p250 q250
                        obtain rfl : ad249 = ad250 := (by injection e250)
                        (try simp only [show (1 : Int).toNat = 1 from rfl, Nat.reduceMul, Nat.reduceEqDiff, Go.Addr.add, ↓reduceIte] at hx250_0)
                        have qi250 : (1 < l0.length) = True := eq_true (by omega)
                        (try rw [show ((1 : Int)).toNat = 1 from rfl] at hx250_0)
                        replace p250 := eq_true p250
                        replace q250 := eq_true q250
                        go_wp2
                        go_ret2
                        exact ⟨by first | rfl | (simp [errW_none, errW_some] <;> rfl) | (simp [*, errW_none, errW_some] <;> rfl) | (simp [errW_none, errW_some, Go.Proofs.YtkoddcihcoekgaaDoor.G.isEmpty_ne]; done), by repeat (first | (with_reducible first | exact HB.out | apply below_alloc | apply pw_below_drewN | apply below_drew1) | exact HB.out)⟩
                      · rw [if_neg c24] at H
                        have c24b0 : decide ((rd l0 1) < 160) = false := decide_eq_false c24
                        clear c24
                        by_cases c25 : (rd l0 0) = 237
                        · rw [if_pos c25] at H
                          have c25b0 : ((rd l0 0) == 237) = true := beq_iff_eq.mpr c25
                          have c25b1 : ((rd l0 0) != 237) = false := bne_eq_false_iff_eq.mpr c25
                          clear c25
                          by_cases c26 : (rd l0 1) > 159
                          · rw [if_pos c26] at H
                            have c26b0 : decide (159 < (rd l0 1)) = true := decide_eq_true c26
                            clear c26
                            simp only [Option.some.injEq, Prod.mk.injEq] at H
                            obtain ⟨rfl, rfl⟩ := H
                            have p249 : 0 ≤ (0 : Int) := (by omega)
                            have q249 : 0 < (l0.length : Int) := of_decide_eq_true (by first | (with_reducible assumption) | assumption)
                            obtain ⟨ad249, e249, hx249_0⟩ := Kd.at_int (Kd.V_reads' HO_0.out).2.2 0 p249 q249
                            cases e249
                            have qi249 : (0 < l0.length) = True := eq_true (by omega)
                            (try rw [show ((0 : Int)).toNat = 0 from rfl] at hx249_0)
                            (try rw [Addr.add_zero'] at hx249_0)
                            replace p249 := eq_true p249
                            replace q249 := eq_true q249
                            have p250 : 0 ≤ (1 : Int) := (by omega)
                            have q250 : 1 < (l0.length : Int) := of_decide_eq_true (by first | (with_reducible assumption) | assumption)
                            obtain ⟨ad250, e250, hx250_0⟩ := Kd.at_int (Kd.V_reads' HO_0.out).2.2 1 p250 q250
                            obtain rfl : ad249 = ad250 := (by injection e250)
                            (try simp only [show (1 : Int).toNat = 1 from rfl, Nat.reduceMul, Nat.reduceEqDiff, Go.Addr.add, ↓reduceIte] at hx250_0)
                            have qi250 : (1 < l0.length) = True := eq_true (by omega)
                            (try rw [show ((1 : Int)).toNat = 1 from rfl] at hx250_0)
                            replace p250 := eq_true p250
                            replace q250 := eq_true q250
                            have p251 : 0 ≤ (0 : Int) := (by omega)
                            have q251 : 0 < (l0.length : Int) := of_decide_eq_true (by first | (with_reducible assumption) | assumption)
                            obtain ⟨ad251, e251, hx251_0⟩ := Kd.at_int (Kd.V_reads' HO_0.out).2.2 0 p251 q251
                            obtain rfl : ad249 = ad251 := (by injection e251)
                            have qi251 : (0 < l0.length) = True := eq_true (by omega)
                            (try rw [show ((0 : Int)).toNat = 0 from rfl] at hx251_0)
                            (try rw [Addr.add_zero'] at hx251_0)
                            replace p251 := eq_true p251
                            replace q251 := eq_true q251
                            have p252 : 0 ≤ (1 : Int) := (by omega)
                            have q252 : 1 < (l0.length : Int) := of_decide_eq_true (by first | (with_reducible assumption) | assumption)
                            obtain ⟨ad252, e252, hx252_0⟩ := Kd.at_int (Kd.V_reads' HO_0.out).2.2 1 p252 q252
                            obtain rfl : ad249 = ad252 := (by injection e252)
                            (try simp only [show (1 : Int).toNat = 1 from rfl, Nat.reduceMul, Nat.reduceEqDiff, Go.Addr.add, ↓reduceIte] at hx252_0)
                            have qi252 : (1 < l0.length) = True := eq_true (by omega)
                            (try rw [show ((1 : Int)).toNat = 1 from rfl] at hx252_0)
                            replace p252 := eq_true p252
                            replace q252 := eq_true q252
                            go_wp2
                            go_ret2
                            exact ⟨by first | rfl | (simp [errW_none, errW_some] <;> rfl) | (simp [*, errW_none, errW_some] <;> rfl) | (simp [errW_none, errW_some, Go.Proofs.YtkoddcihcoekgaaDoor.G.isEmpty_ne]; done), by repeat (first | (with_reducible first | exact HB.out | apply below_alloc | apply pw_below_drewN | apply below_drew1) | exact HB.out)⟩
                          · rw [if_neg c26] at H
                            have c26b0 : decide (159 < (rd l0 1)) = false := decide_eq_false c26
                            clear c26
                            by_cases c27 : (rd l0 0) = 240
                            · rw [if_pos c27] at H
                              have c27b0 : ((rd l0 0) == 240) = true := beq_iff_eq.mpr c27
                              have c27b1 : ((rd l0 0) != 240) = false := bne_eq_false_iff_eq.mpr c27
                              clear c27
                              by_cases c28 : (rd l0 1) < 144
                              · rw [if_pos c28] at H
                                have c28b0 : decide ((rd l0 1) < 144) = true := decide_eq_true c28
                                clear c28
                                simp only [Option.some.injEq, Prod.mk.injEq] at H
                                obtain ⟨rfl, rfl⟩ := H
                                have p249 : 0 ≤ (0 : Int) := (by omega)
                                have q249 : 0 < (l0.length : Int) := of_decide_eq_true (by first | (with_reducible assumption) | assumption)
                                obtain ⟨ad249, e249, hx249_0⟩ := Kd.at_int (Kd.V_reads' HO_0.out).2.2 0 p249 q249
                                cases e249
                                have qi249 : (0 < l0.length) = True := eq_true (by omega)
                                (try rw [show ((0 : Int)).toNat = 0 from rfl] at hx249_0)
                                (try rw [Addr.add_zero'] at hx249_0)
                                replace p249 := eq_true p249
                                replace q249 := eq_true q249
                                have p250 : 0 ≤ (1 : Int) := (by omega)
                                have q250 : 1 < (l0.length : Int) := of_decide_eq_true (by first | (with_reducible assumption) | assumption)
                                obtain ⟨ad250, e250, hx250_0⟩ := Kd.at_int (Kd.V_reads' HO_0.out).2.2 1 p250 q250
                                obtain rfl : ad249 = ad250 := (by injection e250)
                                (try simp only [show (1 : Int).toNat = 1 from rfl, Nat.reduceMul, Nat.reduceEqDiff, Go.Addr.add, ↓reduceIte] at hx250_0)
                                have qi250 : (1 < l0.length) = True := eq_true (by omega)
                                (try rw [show ((1 : Int)).toNat = 1 from rfl] at hx250_0)
                                replace p250 := eq_true p250
                                replace q250 := eq_true q250
                                have p251 : 0 ≤ (0 : Int) := (by omega)
                                have q251 : 0 < (l0.length : Int) := of_decide_eq_true (by first | (with_reducible assumption) | assumption)
                                obtain ⟨ad251, e251, hx251_0⟩ := Kd.at_int (Kd.V_reads' HO_0.out).2.2 0 p251 q251
                                obtain rfl : ad249 = ad251 := (by injection e251)
                                have qi251 : (0 < l0.length) = True := eq_true (by omega)
                                (try rw [show ((0 : Int)).toNat = 0 from rfl] at hx251_0)
                                (try rw [Addr.add_zero'] at hx251_0)
                                replace p251 := eq_true p251
                                replace q251 := eq_true q251
                                have p252 : 0 ≤ (1 : Int) := (by omega)
                                have q252 : 1 < (l0.length : Int) := of_decide_eq_true (by first | (with_reducible assumption) | assumption)
                                obtain ⟨ad252, e252, hx252_0⟩ := Kd.at_int (Kd.V_reads' HO_0.out).2.2 1 p252 q252
                                obtain rfl : ad249 = ad252 := (by injection e252)
                                (try simp only [show (1 : Int).toNat = 1 from rfl, Nat.reduceMul, Nat.reduceEqDiff, Go.Addr.add, ↓reduceIte] at hx252_0)
                                have qi252 : (1 < l0.length) = True := eq_true (by omega)
                                (try rw [show ((1 : Int)).toNat = 1 from rfl] at hx252_0)
                                replace p252 := eq_true p252
                                replace q252 := eq_true q252
                                have p253 : 0 ≤ (0 : Int) := (by omega)
                                have q253 : 0 < (l0.length : Int) := of_decide_eq_true (by first | (with_reducible assumption) | assumption)
                                obtain ⟨ad253, e253, hx253_0⟩ := Kd.at_int (Kd.V_reads' HO_0.out).2.2 0 p253 q253
                                obtain rfl : ad249 = ad253 := (by injection e253)
                                have qi253 : (0 < l0.length) = True := eq_true (by omega)
                                (try rw [show ((0 : Int)).toNat = 0 from rfl] at hx253_0)
                                (try rw [Addr.add_zero'] at hx253_0)
                                replace p253 := eq_true p253
                                replace q253 := eq_true q253
                                have p254 : 0 ≤ (1 : Int) := (by omega)
                                have q254 : 1 < (l0.length : Int) := of_decide_eq_true (by first | (with_reducible assumption) | assumption)
                                obtain ⟨ad254, e254, hx254_0⟩ := Kd.at_int (Kd.V_reads' HO_0.out).2.2 1 p254 q254
                                obtain rfl : ad249 = ad254 := (by injection e254)
                                (try simp only [show (1 : Int).toNat = 1 from rfl, Nat.reduceMul, Nat.reduceEqDiff, Go.Addr.add, ↓reduceIte] at hx254_0)
                                have qi254 : (1 < l0.length) = True := eq_true (by omega)
                                (try rw [show ((1 : Int)).toNat = 1 from rfl] at hx254_0)
                                replace p254 := eq_true p254
                                replace q254 := eq_true q254
                                go_wp2
                                go_ret2
                                exact ⟨by first | rfl | (simp [errW_none, errW_some] <;> rfl) | (simp [*, errW_none, errW_some] <;> rfl) | (simp [errW_none, errW_some, Go.Proofs.YtkoddcihcoekgaaDoor.G.isEmpty_ne]; done), by repeat (first | (with_reducible first | exact HB.out | apply below_alloc | apply pw_below_drewN | apply below_drew1) | exact HB.out)⟩
                              · rw [if_neg c28] at H
                                have c28b0 : decide ((rd l0 1) < 144) = false := decide_eq_false c28
                                clear c28
                                by_cases c29 : (rd l0 0) = 244
                                · rw [if_pos c29] at H
                                  have c29b0 : ((rd l0 0) == 244) = true := beq_iff_eq.mpr c29
                                  have c29b1 : ((rd l0 0) != 244) = false := bne_eq_false_iff_eq.mpr c29
                                  clear c29
                                  by_cases c30 : (rd l0 1) > 143
                                  · rw [if_pos c30] at H
                                    have c30b0 : decide (143 < (rd l0 1)) = true := decide_eq_true c30
                                    clear c30
                                    simp only [Option.some.injEq, Prod.mk.injEq] at H
                                    obtain ⟨rfl, rfl⟩ := H
                                    have p249 : 0 ≤ (0 : Int) := (by omega)
                                    have q249 : 0 < (l0.length : Int) := of_decide_eq_true (by first | (with_reducible assumption) | assumption)
                                    obtain ⟨ad249, e249, hx249_0⟩ := Kd.at_int (Kd.V_reads' HO_0.out).2.2 0 p249 q249
                                    cases e249
                                    have qi249 : (0 < l0.length) = True := eq_true (by omega)
                                    (try rw [show ((0 : Int)).toNat = 0 from rfl] at hx249_0)
                                    (try rw [Addr.add_zero'] at hx249_0)
                                    replace p249 := eq_true p249
                                    replace q249 := eq_true q249
                                    have p250 : 0 ≤ (1 : Int) := (by omega)
                                    have q250 : 1 < (l0.length : Int) := of_decide_eq_true (by first | (with_reducible assumption) | assumption)
                                    obtain ⟨ad250, e250, hx250_0⟩ := Kd.at_int (Kd.V_reads' HO_0.out).2.2 1 p250 q250
                                    obtain rfl : ad249 = ad250 := (by injection e250)
                                    (try simp only [show (1 : Int).toNat = 1 from rfl, Nat.reduceMul, Nat.reduceEqDiff, Go.Addr.add, ↓reduceIte] at hx250_0)
                                    have qi250 : (1 < l0.length) = True := eq_true (by omega)
                                    (try rw [show ((1 : Int)).toNat = 1 from rfl] at hx250_0)
                                    replace p250 := eq_true p250
                                    replace q250 := eq_true q250
                                    have p251 : 0 ≤ (0 : Int) := (by omega)
                                    have q251 : 0 < (l0.length : Int) := of_decide_eq_true (by first | (with_reducible assumption) | assumption)
                                    obtain ⟨ad251, e251, hx251_0⟩ := Kd.at_int (Kd.V_reads' HO_0.out).2.2 0 p251 q251
                                    obtain rfl : ad249 = ad251 := (by injection e251)
                                    have qi251 : (0 < l0.length) = True := eq_true (by omega)
                                    (try rw [show ((0 : Int)).toNat = 0 from rfl] at hx251_0)
                                    (try rw [Addr.add_zero'] at hx251_0)
                                    replace p251 := eq_true p251
                                    replace q251 := eq_true q251
                                    have p252 : 0 ≤ (1 : Int) := (by omega)
                                    have q252 : 1 < (l0.length : Int) := of_decide_eq_true (by first | (with_reducible assumption) | assumption)
                                    obtain ⟨ad252, e252, hx252_0⟩ := Kd.at_int (Kd.V_reads' HO_0.out).2.2 1 p252 q252
                                    obtain rfl : ad249 = ad252 := (by injection e252)
                                    (try simp only [show (1 : Int).toNat = 1 from rfl, Nat.reduceMul, Nat.reduceEqDiff, Go.Addr.add, ↓reduceIte] at hx252_0)
                                    have qi252 : (1 < l0.length) = True := eq_true (by omega)
                                    (try rw [show ((1 : Int)).toNat = 1 from rfl] at hx252_0)
                                    replace p252 := eq_true p252
                                    replace q252 := eq_true q252
                                    have p253 : 0 ≤ (0 : Int) := (by omega)
                                    have q253 : 0 < (l0.length : Int) := of_decide_eq_true (by first | (with_reducible assumption) | assumption)
                                    obtain ⟨ad253, e253, hx253_0⟩ := Kd.at_int (Kd.V_reads' HO_0.out).2.2 0 p253 q253
                                    obtain rfl : ad249 = ad253 := (by injection e253)
                                    have qi253 : (0 < l0.length) = True := eq_true (by omega)
                                    (try rw [show ((0 : Int)).toNat = 0 from rfl] at hx253_0)
                                    (try rw [Addr.add_zero'] at hx253_0)
                                    replace p253 := eq_true p253
                                    replace q253 := eq_true q253
                                    have p254 : 0 ≤ (1 : Int) := (by omega)
                                    have q254 : 1 < (l0.length : Int) := of_decide_eq_true (by first | (with_reducible assumption) | assumption)
                                    obtain ⟨ad254, e254, hx254_0⟩ := Kd.at_int (Kd.V_reads' HO_0.out).2.2 1 p254 q254
                                    obtain rfl : ad249 = ad254 := (by injection e254)
                                    (try simp only [show (1 : Int).toNat = 1 from rfl, Nat.reduceMul, Nat.reduceEqDiff, Go.Addr.add, ↓reduceIte] at hx254_0)
                                    have qi254 : (1 < l0.length) = True := eq_true (by omega)
                                    (try rw [show ((1 : Int)).toNat = 1 from rfl] at hx254_0)
                                    replace p254 := eq_true p254
                                    replace q254 := eq_true q254
                                    have p255 : 0 ≤ (0 : Int) := (by omega)
                                    have q255 : 0 < (l0.length : Int) := of_decide_eq_true (by first | (with_reducible assumption) | assumption)
                                    obtain ⟨ad255, e255, hx255_0⟩ := Kd.at_int (Kd.V_reads' HO_0.out).2.2 0 p255 q255
                                    obtain rfl : ad249 = ad255 := (by injection e255)
                                    have qi255 : (0 < l0.length) = True := eq_true (by omega)
                                    (try rw [show ((0 : Int)).toNat = 0 from rfl] at hx255_0)
                                    (try rw [Addr.add_zero'] at hx255_0)
                                    replace p255 := eq_true p255
                                    replace q255 := eq_true q255
                                    have p256 : 0 ≤ (1 : Int) := (by omega)
                                    have q256 : 1 < (l0.length : Int) := of_decide_eq_true (by first | (with_reducible assumption) | assumption)
                                    obtain ⟨ad256, e256, hx256_0⟩ := Kd.at_int (Kd.V_reads' HO_0.out).2.2 1 p256 q256
                                    obtain rfl : ad249 = ad256 := (by injection e256)
                                    (try simp only [show (1 : Int).toNat = 1 from rfl, Nat.reduceMul, Nat.reduceEqDiff, Go.Addr.add, ↓reduceIte] at hx256_0)
                                    have qi256 : (1 < l0.length) = True := eq_true (by omega)
                                    (try rw [show ((1 : Int)).toNat = 1 from rfl] at hx256_0)
                                    replace p256 := eq_true p256
                                    replace q256 := eq_true q256
                                    go_wp2
                                    go_ret2
                                    exact ⟨by first | rfl | (simp [errW_none, errW_some] <;> rfl) | (simp [*, errW_none, errW_some] <;> rfl) | (simp [errW_none, errW_some, Go.Proofs.YtkoddcihcoekgaaDoor.G.isEmpty_ne]; done), by repeat (first | (with_reducible first | exact HB.out | apply below_alloc | apply pw_below_drewN | apply below_drew1) | exact HB.out)⟩
                                  · rw [if_neg c30] at H
                                    have c30b0 : decide (143 < (rd l0 1)) = false := decide_eq_false c30
                                    clear c30
                                    simp only [Option.some.injEq, Prod.mk.injEq] at H
                                    obtain ⟨rfl, rfl⟩ := H
                                    have p249 : 0 ≤ (0 : Int) := (by omega)
                                    have q249 : 0 < (l0.length : Int) := of_decide_eq_true (by first | (with_reducible assumption) | assumption)
                                    obtain ⟨ad249, e249, hx249_0⟩ := Kd.at_int (Kd.V_reads' HO_0.out).2.2 0 p249 q249
                                    cases e249
                                    have qi249 : (0 < l0.length) = True := eq_true (by omega)
                                    (try rw [show ((0 : Int)).toNat = 0 from rfl] at hx249_0)
                                    (try rw [Addr.add_zero'] at hx249_0)
                                    replace p249 := eq_true p249
                                    replace q249 := eq_true q249
                                    have p250 : 0 ≤ (1 : Int) := (by omega)
                                    have q250 : 1 < (l0.length : Int) := of_decide_eq_true (by first | (with_reducible assumption) | assumption)
                                    obtain ⟨ad250, e250, hx250_0⟩ := Kd.at_int (Kd.V_reads' HO_0.out).2.2 1 p250 q250
                                    obtain rfl : ad249 = ad250 := (by injection e250)
                                    (try simp only [show (1 : Int).toNat = 1 from rfl, Nat.reduceMul, Nat.reduceEqDiff, Go.Addr.add, ↓reduceIte] at hx250_0)
                                    have qi250 : (1 < l0.length) = True := eq_true (by omega)
                                    (try rw [show ((1 : Int)).toNat = 1 from rfl] at hx250_0)
                                    replace p250 := eq_true p250
                                    replace q250 := eq_true q250
                                    have p251 : 0 ≤ (0 : Int) := (by omega)
                                    have q251 : 0 < (l0.length : Int) := of_decide_eq_true (by first | (with_reducible assumption) | assumption)
                                    obtain ⟨ad251, e251, hx251_0⟩ := Kd.at_int (Kd.V_reads' HO_0.out).2.2 0 p251 q251
                                    obtain rfl : ad249 = ad251 := (by injection e251)
                                    have qi251 : (0 < l0.length) = True := eq_true (by omega)
                                    (try rw [show ((0 : Int)).toNat = 0 from rfl] at hx251_0)
                                    (try rw [Addr.add_zero'] at hx251_0)
                                    replace p251 := eq_true p251
                                    replace q251 := eq_true q251
                                    have p252 : 0 ≤ (1 : Int) := (by omega)
                                    have q252 : 1 < (l0.length : Int) := of_decide_eq_true (by first | (with_reducible assumption) | assumption)
                                    obtain ⟨ad252, e252, hx252_0⟩ := Kd.at_int (Kd.V_reads' HO_0.out).2.2 1 p252 q252
                                    obtain rfl : ad249 = ad252 := (by injection e252)
                                    (try simp only [show (1 : Int).toNat = 1 from rfl, Nat.reduceMul, Nat.reduceEqDiff, Go.Addr.add, ↓reduceIte] at hx252_0)
                                    have qi252 : (1 < l0.length) = True := eq_true (by omega)
                                    (try rw [show ((1 : Int)).toNat = 1 from rfl] at hx252_0)
                                    replace p252 := eq_true p252
                                    replace q252 := eq_true q252
                                    have p253 : 0 ≤ (0 : Int) := (by omega)
                                    have q253 : 0 < (l0.length : Int) := of_decide_eq_true (by first | (with_reducible assumption) | assumption)
                                    obtain ⟨ad253, e253, hx253_0⟩ := Kd.at_int (Kd.V_reads' HO_0.out).2.2 0 p253 q253
                                    obtain rfl : ad249 = ad253 := (by injection e253)
                                    have qi253 : (0 < l0.length) = True := eq_true (by omega)
                                    (try rw [show ((0 : Int)).toNat = 0 from rfl] at hx253_0)
                                    (try rw [Addr.add_zero'] at hx253_0)
                                    replace p253 := eq_true p253
                                    replace q253 := eq_true q253
                                    have p254 : 0 ≤ (1 : Int) := (by omega)
                                    have q254 : 1 < (l0.length : Int) := of_decide_eq_true (by first | (with_reducible assumption) | assumption)
                                    obtain ⟨ad254, e254, hx254_0⟩ := Kd.at_int (Kd.V_reads' HO_0.out).2.2 1 p254 q254
                                    obtain rfl : ad249 = ad254 := (by injection e254)
                                    (try simp only [show (1 : Int).toNat = 1 from rfl, Nat.reduceMul, Nat.reduceEqDiff, Go.Addr.add, ↓reduceIte] at hx254_0)
                                    have qi254 : (1 < l0.length) = True := eq_true (by omega)
                                    (try rw [show ((1 : Int)).toNat = 1 from rfl] at hx254_0)
                                    replace p254 := eq_true p254
                                    replace q254 := eq_true q254
                                    have p255 : 0 ≤ (0 : Int) := (by omega)
                                    have q255 : 0 < (l0.length : Int) := of_decide_eq_true (by first | (with_reducible assumption) | assumption)
                                    obtain ⟨ad255, e255, hx255_0⟩ := Kd.at_int (Kd.V_reads' HO_0.out).2.2 0 p255 q255
                                    obtain rfl : ad249 = ad255 := (by injection e255)
                                    have qi255 : (0 < l0.length) = True := eq_true (by omega)
                                    (try rw [show ((0 : Int)).toNat = 0 from rfl] at hx255_0)
                                    (try rw [Addr.add_zero'] at hx255_0)
                                    replace p255 := eq_true p255
                                    replace q255 := eq_true q255
                                    have p256 : 0 ≤ (1 : Int) := (by omega)
                                    have q256 : 1 < (l0.length : Int) := of_decide_eq_true (by first | (with_reducible assumption) | assumption)
                                    obtain ⟨ad256, e256, hx256_0⟩ := Kd.at_int (Kd.V_reads' HO_0.out).2.2 1 p256 q256
                                    obtain rfl : ad249 = ad256 := (by injection e256)
                                    (try simp only [show (1 : Int).toNat = 1 from rfl, Nat.reduceMul, Nat.reduceEqDiff, Go.Addr.add, ↓reduceIte] at hx256_0)
                                    have qi256 : (1 < l0.length) = True := eq_true (by omega)
                                    (try rw [show ((1 : Int)).toNat = 1 from rfl] at hx256_0)
                                    replace p256 := eq_true p256
                                    replace q256 := eq_true q256
                                    go_wp2
                                    go_ret2
                                    exact ⟨by first | rfl | (simp [errW_none, errW_some] <;> rfl) | (simp [*, errW_none, errW_some] <;> rfl) | (simp [errW_none, errW_some, Go.Proofs.YtkoddcihcoekgaaDoor.G.isEmpty_ne]; done), by repeat (first | (with_reducible first | exact HB.out | apply below_alloc | apply pw_below_drewN | apply below_drew1) | exact HB.out)⟩
                                · rw [if_neg c29] at H
                                  have c29b0 : ((rd l0 0) == 244) = false := beq_eq_false_iff_ne.mpr c29
                                  have c29b1 : ((rd l0 0) != 244) = true := bne_iff_ne.mpr c29
                                  simp only [Option.some.injEq, Prod.mk.injEq] at H
                                  obtain ⟨rfl, rfl⟩ := H
                                  have p249 : 0 ≤ (0 : Int) := (by omega)
                                  have q249 : 0 < (l0.length : Int) := of_decide_eq_true (by first | (with_reducible assumption) | assumption)
                                  obtain ⟨ad249, e249, hx249_0⟩ := Kd.at_int (Kd.V_reads' HO_0.out).2.2 0 p249 q249
                                  cases e249
                                  have qi249 : (0 < l0.length) = True := eq_true (by omega)
                                  (try rw [show ((0 : Int)).toNat = 0 from rfl] at hx249_0)
                                  (try rw [Addr.add_zero'] at hx249_0)
                                  replace p249 := eq_true p249
                                  replace q249 := eq_true q249
                                  have p250 : 0 ≤ (1 : Int) := (by omega)
                                  have q250 : 1 < (l0.length : Int) := of_decide_eq_true (by first | (with_reducible assumption) | assumption)
                                  obtain ⟨ad250, e250, hx250_0⟩ := Kd.at_int (Kd.V_reads' HO_0.out).2.2 1 p250 q250
                                  obtain rfl : ad249 = ad250 := (by injection e250)
                                  (try simp only [show (1 : Int).toNat = 1 from rfl, Nat.reduceMul, Nat.reduceEqDiff, Go.Addr.add, ↓reduceIte] at hx250_0)
                                  have qi250 : (1 < l0.length) = True := eq_true (by omega)
                                  (try rw [show ((1 : Int)).toNat = 1 from rfl] at hx250_0)
                                  replace p250 := eq_true p250
                                  replace q250 := eq_true q250
                                  have p251 : 0 ≤ (0 : Int) := (by omega)
                                  have q251 : 0 < (l0.length : Int) := of_decide_eq_true (by first | (with_reducible assumption) | assumption)
                                  obtain ⟨ad251, e251, hx251_0⟩ := Kd.at_int (Kd.V_reads' HO_0.out).2.2 0 p251 q251
                                  obtain rfl : ad249 = ad251 := (by injection e251)
                                  have qi251 : (0 < l0.length) = True := eq_true (by omega)
                                  (try rw [show ((0 : Int)).toNat = 0 from rfl] at hx251_0)
                                  (try rw [Addr.add_zero'] at hx251_0)
                                  replace p251 := eq_true p251
                                  replace q251 := eq_true q251
                                  have p252 : 0 ≤ (1 : Int) := (by omega)
                                  have q252 : 1 < (l0.length : Int) := of_decide_eq_true (by first | (with_reducible assumption) | assumption)
                                  obtain ⟨ad252, e252, hx252_0⟩ := Kd.at_int (Kd.V_reads' HO_0.out).2.2 1 p252 q252
                                  obtain rfl : ad249 = ad252 := (by injection e252)
                                  (try simp only [show (1 : Int).toNat = 1 from rfl, Nat.reduceMul, Nat.reduceEqDiff, Go.Addr.add, ↓reduceIte] at hx252_0)
                                  have qi252 : (1 < l0.length) = True := eq_true (by omega)
                                  (try rw [show ((1 : Int)).toNat = 1 from rfl] at hx252_0)
                                  replace p252 := eq_true p252
                                  replace q252 := eq_true q252
                                  have p253 : 0 ≤ (0 : Int) := (by omega)
                                  have q253 : 0 < (l0.length : Int) := of_decide_eq_true (by first | (with_reducible assumption) | assumption)
                                  obtain ⟨ad253, e253, hx253_0⟩ := Kd.at_int (Kd.V_reads' HO_0.out).2.2 0 p253 q253
                                  obtain rfl : ad249 = ad253 := (by injection e253)
                                  have qi253 : (0 < l0.length) = True := eq_true (by omega)
                                  (try rw [show ((0 : Int)).toNat = 0 from rfl] at hx253_0)
                                  (try rw [Addr.add_zero'] at hx253_0)
                                  replace p253 := eq_true p253
                                  replace q253 := eq_true q253
                                  have p254 : 0 ≤ (1 : Int) := (by omega)
                                  have q254 : 1 < (l0.length : Int) := of_decide_eq_true (by first | (with_reducible assumption) | assumption)
                                  obtain ⟨ad254, e254, hx254_0⟩ := Kd.at_int (Kd.V_reads' HO_0.out).2.2 1 p254 q254
                                  obtain rfl : ad249 = ad254 := (by injection e254)
                                  (try simp only [show (1 : Int).toNat = 1 from rfl, Nat.reduceMul, Nat.reduceEqDiff, Go.Addr.add, ↓reduceIte] at hx254_0)
                                  have qi254 : (1 < l0.length) = True := eq_true (by omega)
                                  (try rw [show ((1 : Int)).toNat = 1 from rfl] at hx254_0)
                                  replace p254 := eq_true p254
                                  replace q254 := eq_true q254
                                  have p255 : 0 ≤ (0 : Int) := (by omega)
                                  have q255 : 0 < (l0.length : Int) := of_decide_eq_true (by first | (with_reducible assumption) | assumption)
                                  obtain ⟨ad255, e255, hx255_0⟩ := Kd.at_int (Kd.V_reads' HO_0.out).2.2 0 p255 q255
                                  obtain rfl : ad249 = ad255 := (by injection e255)
                                  have qi255 : (0 < l0.length) = True := eq_true (by omega)
                                  (try rw [show ((0 : Int)).toNat = 0 from rfl] at hx255_0)
                                  (try rw [Addr.add_zero'] at hx255_0)
                                  replace p255 := eq_true p255
                                  replace q255 := eq_true q255
                                  go_wp2
                                  go_ret2
                                  exact ⟨by first | rfl | (simp [errW_none, errW_some] <;> rfl) | (simp [*, errW_none, errW_some] <;> rfl) | (simp [errW_none, errW_some, Go.Proofs.YtkoddcihcoekgaaDoor.G.isEmpty_ne]; done), by repeat (first | (with_reducible first | exact HB.out | apply below_alloc | apply pw_below_drewN | apply below_drew1) | exact HB.out)⟩
                            · rw [if_neg c27] at H
                              have c27b0 : ((rd l0 0) == 240) = false := beq_eq_false_iff_ne.mpr c27
                              have c27b1 : ((rd l0 0) != 240) = true := bne_iff_ne.mpr c27
                              by_cases c31 : (rd l0 0) = 244
                              · rw [if_pos c31] at H
                                have c31b0 : ((rd l0 0) == 244) = true := beq_iff_eq.mpr c31
                                have c31b1 : ((rd l0 0) != 244) = false := bne_eq_false_iff_eq.mpr c31
                                clear c31
                                by_cases c32 : (rd l0 1) > 143
                                · rw [if_pos c32] at H
                                  have c32b0 : decide (143 < (rd l0 1)) = true := decide_eq_true c32
                                  clear c32
                                  simp only [Option.some.injEq, Prod.mk.injEq] at H
                                  obtain ⟨rfl, rfl⟩ := H
                                  have p249 : 0 ≤ (0 : Int) := (by omega)
                                  have q249 : 0 < (l0.length : Int) := of_decide_eq_true (by first | (with_reducible assumption) | assumption)
                                  obtain ⟨ad249, e249, hx249_0⟩ := Kd.at_int (Kd.V_reads' HO_0.out).2.2 0 p249 q249
                                  cases e249
                                  have qi249 : (0 < l0.length) = True := eq_true (by omega)
                                  (try rw [show ((0 : Int)).toNat = 0 from rfl] at hx249_0)
                                  (try rw [Addr.add_zero'] at hx249_0)
                                  replace p249 := eq_true p249
                                  replace q249 := eq_true q249
                                  have p250 : 0 ≤ (1 : Int) := (by omega)
                                  have q250 : 1 < (l0.length : Int) := of_decide_eq_true (by first | (with_reducible assumption) | assumption)
                                  obtain ⟨ad250, e250, hx250_0⟩ := Kd.at_int (Kd.V_reads' HO_0.out).2.2 1 p250 q250
                                  obtain rfl : ad249 = ad250 := (by injection e250)
                                  (try simp only [show (1 : Int).toNat = 1 from rfl, Nat.reduceMul, Nat.reduceEqDiff, Go.Addr.add, ↓reduceIte] at hx250_0)
                                  have qi250 : (1 < l0.length) = True := eq_true (by omega)
                                  (try rw [show ((1 : Int)).toNat = 1 from rfl] at hx250_0)
                                  replace p250 := eq_true p250
                                  replace q250 := eq_true q250
                                  have p251 : 0 ≤ (0 : Int) := (by omega)
                                  have q251 : 0 < (l0.length : Int) := of_decide_eq_true (by first | (with_reducible assumption) | assumption)
                                  obtain ⟨ad251, e251, hx251_0⟩ := Kd.at_int (Kd.V_reads' HO_0.out).2.2 0 p251 q251
                                  obtain rfl : ad249 = ad251 := (by injection e251)
                                  have qi251 : (0 < l0.length) = True := eq_true (by omega)
                                  (try rw [show ((0 : Int)).toNat = 0 from rfl] at hx251_0)
                                  (try rw [Addr.add_zero'] at hx251_0)
                                  replace p251 := eq_true p251
                                  replace q251 := eq_true q251
                                  have p252 : 0 ≤ (1 : Int) := (by omega)
                                  have q252 : 1 < (l0.length : Int) := of_decide_eq_true (by first | (with_reducible assumption) | assumption)
                                  obtain ⟨ad252, e252, hx252_0⟩ := Kd.at_int (Kd.V_reads' HO_0.out).2.2 1 p252 q252
                                  obtain rfl : ad249 = ad252 := (by injection e252)
                                  (try simp only [show (1 : Int).toNat = 1 from rfl, Nat.reduceMul, Nat.reduceEqDiff, Go.Addr.add, ↓reduceIte] at hx252_0)
                                  have qi252 : (1 < l0.length) = True := eq_true (by omega)
                                  (try rw [show ((1 : Int)).toNat = 1 from rfl] at hx252_0)
                                  replace p252 := eq_true p252
                                  replace q252 := eq_true q252
                                  have p253 : 0 ≤ (0 : Int) := (by omega)
                                  have q253 : 0 < (l0.length : Int) := of_decide_eq_true (by first | (with_reducible assumption) | assumption)
                                  obtain ⟨ad253, e253, hx253_0⟩ := Kd.at_int (Kd.V_reads' HO_0.out).2.2 0 p253 q253
                                  obtain rfl : ad249 = ad253 := (by injection e253)
                                  have qi253 : (0 < l0.length) = True := eq_true (by omega)
                                  (try rw [show ((0 : Int)).toNat = 0 from rfl] at hx253_0)
                                  (try rw [Addr.add_zero'] at hx253_0)
                                  replace p253 := eq_true p253
                                  replace q253 := eq_true q253
                                  have p257 : 0 ≤ (0 : Int) := (by omega)
                                  have q257 : 0 < (l0.length : Int) := of_decide_eq_true (by first | (with_reducible assumption) | assumption)
                                  obtain ⟨ad257, e257, hx257_0⟩ := Kd.at_int (Kd.V_reads' HO_0.out).2.2 0 p257 q257
                                  obtain rfl : ad249 = ad257 := (by injection e257)
                                  have qi257 : (0 < l0.length) = True := eq_true (by omega)
                                  (try rw [show ((0 : Int)).toNat = 0 from rfl] at hx257_0)
                                  (try rw [Addr.add_zero'] at hx257_0)
                                  replace p257 := eq_true p257
                                  replace q257 := eq_true q257
                                  have p258 : 0 ≤ (1 : Int) := (by omega)
                                  have q258 : 1 < (l0.length : Int) := of_decide_eq_true (by first | (with_reducible assumption) | assumption)
                                  obtain ⟨ad258, e258, hx258_0⟩ := Kd.at_int (Kd.V_reads' HO_0.out).2.2 1 p258 q258
                                  obtain rfl : ad249 = ad258 := (by injection e258)
                                  (try simp only [show (1 : Int).toNat = 1 from rfl, Nat.reduceMul, Nat.reduceEqDiff, Go.Addr.add, ↓reduceIte] at hx258_0)
                                  have qi258 : (1 < l0.length) = True := eq_true (by omega)
                                  (try rw [show ((1 : Int)).toNat = 1 from rfl] at hx258_0)
                                  replace p258 := eq_true p258
                                  replace q258 := eq_true q258
                                  go_wp2
                                  go_ret2
                                  exact ⟨by first | rfl | (simp [errW_none, errW_some] <;> rfl) | (simp [*, errW_none, errW_some] <;> rfl) | (simp [errW_none, errW_some, Go.Proofs.YtkoddcihcoekgaaDoor.G.isEmpty_ne]; done), by repeat (first | (with_reducible first | exact HB.out | apply below_alloc | apply pw_below_drewN | apply below_drew1) | exact HB.out)⟩
                                · rw [if_neg c32] at H
                                  have c32b0 : decide (143 < (rd l0 1)) = false := decide_eq_false c32
                                  clear c32
                                  simp only [Option.some.injEq, Prod.mk.injEq] at H
                                  obtain ⟨rfl, rfl⟩ := H
                                  have p249 : 0 ≤ (0 : Int) := (by omega)
                                  have q249 : 0 < (l0.length : Int) := of_decide_eq_true (by first | (with_reducible assumption) | assumption)
                                  obtain ⟨ad249, e249, hx249_0⟩ := Kd.at_int (Kd.V_reads' HO_0.out).2.2 0 p249 q249
                                  cases e249
                                  have qi249 : (0 < l0.length) = True := eq_true (by omega)
                                  (try rw [show ((0 : Int)).toNat = 0 from rfl] at hx249_0)
                                  (try rw [Addr.add_zero'] at hx249_0)
                                  replace p249 := eq_true p249
                                  replace q249 := eq_true q249
                                  have p250 : 0 ≤ (1 : Int) := (by omega)
                                  have q250 : 1 < (l0.length : Int) := of_decide_eq_true (by first | (with_reducible assumption) | assumption)
                                  obtain ⟨ad250, e250, hx250_0⟩ := Kd.at_int (Kd.V_reads' HO_0.out).2.2 1 p250 q250
                                  obtain rfl : ad249 = ad250 := (by injection e250)
                                  (try simp only [show (1 : Int).toNat = 1 from rfl, Nat.reduceMul, Nat.reduceEqDiff, Go.Addr.add, ↓reduceIte] at hx250_0)
                                  have qi250 : (1 < l0.length) = True := eq_true (by omega)
                                  (try rw [show ((1 : Int)).toNat = 1 from rfl] at hx250_0)
                                  replace p250 := eq_true p250
                                  replace q250 := eq_true q250
                                  have p251 : 0 ≤ (0 : Int) := (by omega)
                                  have q251 : 0 < (l0.length : Int) := of_decide_eq_true (by first | (with_reducible assumption) | assumption)
                                  obtain ⟨ad251, e251, hx251_0⟩ := Kd.at_int (Kd.V_reads' HO_0.out).2.2 0 p251 q251
                                  obtain rfl : ad249 = ad251 := (by injection e251)
                                  have qi251 : (0 < l0.length) = True := eq_true (by omega)
                                  (try rw [show ((0 : Int)).toNat = 0 from rfl] at hx251_0)
                                  (try rw [Addr.add_zero'] at hx251_0)
                                  replace p251 := eq_true p251
                                  replace q251 := eq_true q251
                                  have p252 : 0 ≤ (1 : Int) := (by omega)
                                  have q252 : 1 < (l0.length : Int) := of_decide_eq_true (by first | (with_reducible assumption) | assumption)
                                  obtain ⟨ad252, e252, hx252_0⟩ := Kd.at_int (Kd.V_reads' HO_0.out).2.2 1 p252 q252
                                  obtain rfl : ad249 = ad252 := (by injection e252)
                                  (try simp only [show (1 : Int).toNat = 1 from rfl, Nat.reduceMul, Nat.reduceEqDiff, Go.Addr.add, ↓reduceIte] at hx252_0)
                                  have qi252 : (1 < l0.length) = True := eq_true (by omega)
                                  (try rw [show ((1 : Int)).toNat = 1 from rfl] at hx252_0)
                                  replace p252 := eq_true p252
                                  replace q252 := eq_true q252
                                  have p253 : 0 ≤ (0 : Int) := (by omega)
                                  have q253 : 0 < (l0.length : Int) := of_decide_eq_true (by first | (with_reducible assumption) | assumption)
                                  obtain ⟨ad253, e253, hx253_0⟩ := Kd.at_int (Kd.V_reads' HO_0.out).2.2 0 p253 q253
                                  obtain rfl : ad249 = ad253 := (by injection e253)
                                  have qi253 : (0 < l0.length) = True := eq_true (by omega)
                                  (try rw [show ((0 : Int)).toNat = 0 from rfl] at hx253_0)
                                  (try rw [Addr.add_zero'] at hx253_0)
                                  replace p253 := eq_true p253
                                  replace q253 := eq_true q253
                                  have p257 : 0 ≤ (0 : Int) := (by omega)
                                  have q257 : 0 < (l0.length : Int) := of_decide_eq_true (by first | (with_reducible assumption) | assumption)
                                  obtain ⟨ad257, e257, hx257_0⟩ := Kd.at_int (Kd.V_reads' HO_0.out).2.2 0 p257 q257
                                  obtain rfl : ad249 = ad257 := (by injection e257)
                                  have qi257 : (0 < l0.length) = True := eq_true (by omega)
                                  (try rw [show ((0 : Int)).toNat = 0 from rfl] at hx257_0)
                                  (try rw [Addr.add_zero'] at hx257_0)
                                  replace p257 := eq_true p257
                                  replace q257 := eq_true q257
                                  have p258 : 0 ≤ (1 : Int) := (by omega)
                                  have q258 : 1 < (l0.length : Int) := of_decide_eq_true (by first | (with_reducible assumption) | assumption)
                                  obtain ⟨ad258, e258, hx258_0⟩ := Kd.at_int (Kd.V_reads' HO_0.out).2.2 1 p258 q258
                                  obtain rfl : ad249 = ad258 := (by injection e258)
                                  (try simp only [show (1 : Int).toNat = 1 from rfl, Nat.reduceMul, Nat.reduceEqDiff, Go.Addr.add, ↓reduceIte] at hx258_0)
                                  have qi258 : (1 < l0.length) = True := eq_true (by omega)
                                  (try rw [show ((1 : Int)).toNat = 1 from rfl] at hx258_0)
                                  replace p258 := eq_true p258
                                  replace q258 := eq_true q258
                                  go_wp2
                                  go_ret2
                                  exact ⟨by first | rfl | (simp [errW_none, errW_some] <;> rfl) | (simp [*, errW_none, errW_some] <;> rfl) | (simp [errW_none, errW_some, Go.Proofs.YtkoddcihcoekgaaDoor.G.isEmpty_ne]; done), by repeat (first | (with_reducible first | exact HB.out | apply below_alloc | apply pw_below_drewN | apply below_drew1) | exact HB.out)⟩
                              · rw [if_neg c31] at H
                                have c31b0 : ((rd l0 0) == 244) = false := beq_eq_false_iff_ne.mpr c31
                                have c31b1 : ((rd l0 0) != 244) = true := bne_iff_ne.mpr c31
                                simp only [Option.some.injEq, Prod.mk.injEq] at H
                                obtain ⟨rfl, rfl⟩ := H
                                have p249 : 0 ≤ (0 : Int) := (by omega)
                                have q249 : 0 < (l0.length : Int) := of_decide_eq_true (by first | (with_reducible assumption) | assumption)
                                obtain ⟨ad249, e249, hx249_0⟩ := Kd.at_int (Kd.V_reads' HO_0.out).2.2 0 p249 q249
                                cases e249
                                have qi249 : (0 < l0.length) = True := eq_true (by omega)
                                (try rw [show ((0 : Int)).toNat = 0 from rfl] at hx249_0)
                                (try rw [Addr.add_zero'] at hx249_0)
                                replace p249 := eq_true p249
                                replace q249 := eq_true q249
                                have p250 : 0 ≤ (1 : Int) := (by omega)
                                have q250 : 1 < (l0.length : Int) := of_decide_eq_true (by first | (with_reducible assumption) | assumption)
                                obtain ⟨ad250, e250, hx250_0⟩ := Kd.at_int (Kd.V_reads' HO_0.out).2.2 1 p250 q250
                                obtain rfl : ad249 = ad250 := (by injection e250)
                                (try simp only [show (1 : Int).toNat = 1 from rfl, Nat.reduceMul, Nat.reduceEqDiff, Go.Addr.add, ↓reduceIte] at hx250_0)
                                have qi250 : (1 < l0.length) = True := eq_true (by omega)
                                (try rw [show ((1 : Int)).toNat = 1 from rfl] at hx250_0)
                                replace p250 := eq_true p250
                                replace q250 := eq_true q250
                                have p251 : 0 ≤ (0 : Int) := (by omega)
                                have q251 : 0 < (l0.length : Int) := of_decide_eq_true (by first | (with_reducible assumption) | assumption)
                                obtain ⟨ad251, e251, hx251_0⟩ := Kd.at_int (Kd.V_reads' HO_0.out).2.2 0 p251 q251
                                obtain rfl : ad249 = ad251 := (by injection e251)
                                have qi251 : (0 < l0.length) = True := eq_true (by omega)
                                (try rw [show ((0 : Int)).toNat = 0 from rfl] at hx251_0)
                                (try rw [Addr.add_zero'] at hx251_0)
                                replace p251 := eq_true p251
                                replace q251 := eq_true q251
                                have p252 : 0 ≤ (1 : Int) := (by omega)
                                have q252 : 1 < (l0.length : Int) := of_decide_eq_true (by first | (with_reducible assumption) | assumption)
                                obtain ⟨ad252, e252, hx252_0⟩ := Kd.at_int (Kd.V_reads' HO_0.out).2.2 1 p252 q252
                                obtain rfl : ad249 = ad252 := (by injection e252)
                                (try simp only [show (1 : Int).toNat = 1 from rfl, Nat.reduceMul, Nat.reduceEqDiff, Go.Addr.add, ↓reduceIte] at hx252_0)
                                have qi252 : (1 < l0.length) = True := eq_true (by omega)
                                (try rw [show ((1 : Int)).toNat = 1 from rfl] at hx252_0)
                                replace p252 := eq_true p252
                                replace q252 := eq_true q252
                                have p253 : 0 ≤ (0 : Int) := (by omega)
                                have q253 : 0 < (l0.length : Int) := of_decide_eq_true (by first | (with_reducible assumption) | assumption)
                                obtain ⟨ad253, e253, hx253_0⟩ := Kd.at_int (Kd.V_reads' HO_0.out).2.2 0 p253 q253
                                obtain rfl : ad249 = ad253 := (by injection e253)
                                have qi253 : (0 < l0.length) = True := eq_true (by omega)
                                (try rw [show ((0 : Int)).toNat = 0 from rfl] at hx253_0)
                                (try rw [Addr.add_zero'] at hx253_0)
                                replace p253 := eq_true p253
                                replace q253 := eq_true q253
                                have p257 : 0 ≤ (0 : Int) := (by omega)
                                have q257 : 0 < (l0.length : Int) := of_decide_eq_true (by first | (with_reducible assumption) | assumption)
                                obtain ⟨ad257, e257, hx257_0⟩ := Kd.at_int (Kd.V_reads' HO_0.out).2.2 0 p257 q257
                                obtain rfl : ad249 = ad257 := (by injection e257)
                                have qi257 : (0 < l0.length) = True := eq_true (by omega)
                                (try rw [show ((0 : Int)).toNat = 0 from rfl] at hx257_0)
                                (try rw [Addr.add_zero'] at hx257_0)
                                replace p257 := eq_true p257
                                replace q257 := eq_true q257
                                go_wp2
                                go_ret2
                                exact ⟨by first | rfl | (simp [errW_none, errW_some] <;> rfl) | (simp [*, errW_none, errW_some] <;> rfl) | (simp [errW_none, errW_some, Go.Proofs.YtkoddcihcoekgaaDoor.G.isEmpty_ne]; done), by repeat (first | (with_reducible first | exact HB.out | apply below_alloc | apply pw_below_drewN | apply below_drew1) | exact HB.out)⟩
                        · rw [if_neg c25] at H
                          have c25b0 : ((rd l0 0) == 237) = false := beq_eq_false_iff_ne.mpr c25
                          have c25b1 : ((rd l0 0) != 237) = true := bne_iff_ne.mpr c25
                          by_cases c33 : (rd l0 0) = 240
                          · rw [if_pos c33] at H
                            have c33b0 : ((rd l0 0) == 240) = true := beq_iff_eq.mpr c33
                            have c33b1 : ((rd l0 0) != 240) = false := bne_eq_false_iff_eq.mpr c33
                            clear c33
                            by_cases c34 : (rd l0 1) < 144
                            · rw [if_pos c34] at H
                              have c34b0 : decide ((rd l0 1) < 144) = true := decide_eq_true c34
                              clear c34
                              simp only [Option.some.injEq, Prod.mk.injEq] at H
                              obtain ⟨rfl, rfl⟩ := H
                              have p249 : 0 ≤ (0 : Int) := (by omega)
                              have q249 : 0 < (l0.length : Int) := of_decide_eq_true (by first | (with_reducible assumption) | assumption)
                              obtain ⟨ad249, e249, hx249_0⟩ := Kd.at_int (Kd.V_reads' HO_0.out).2.2 0 p249 q249
                              cases e249
                              have qi249 : (0 < l0.length) = True := eq_true (by omega)
                              (try rw [show ((0 : Int)).toNat = 0 from rfl] at hx249_0)
                              (try rw [Addr.add_zero'] at hx249_0)
                              replace p249 := eq_true p249
                              replace q249 := eq_true q249
                              have p250 : 0 ≤ (1 : Int) := (by omega)
                              have q250 : 1 < (l0.length : Int) := of_decide_eq_true (by first | (with_reducible assumption) | assumption)
                              obtain ⟨ad250, e250, hx250_0⟩ := Kd.at_int (Kd.V_reads' HO_0.out).2.2 1 p250 q250
                              obtain rfl : ad249 = ad250 := (by injection e250)
                              (try simp only [show (1 : Int).toNat = 1 from rfl, Nat.reduceMul, Nat.reduceEqDiff, Go.Addr.add, ↓reduceIte] at hx250_0)
                              have qi250 : (1 < l0.length) = True := eq_true (by omega)
                              (try rw [show ((1 : Int)).toNat = 1 from rfl] at hx250_0)
                              replace p250 := eq_true p250
                              replace q250 := eq_true q250
                              have p251 : 0 ≤ (0 : Int) := (by omega)
                              have q251 : 0 < (l0.length : Int) := of_decide_eq_true (by first | (with_reducible assumption) | assumption)
                              obtain ⟨ad251, e251, hx251_0⟩ := Kd.at_int (Kd.V_reads' HO_0.out).2.2 0 p251 q251
                              obtain rfl : ad249 = ad251 := (by injection e251)
                              have qi251 : (0 < l0.length) = True := eq_true (by omega)
                              (try rw [show ((0 : Int)).toNat = 0 from rfl] at hx251_0)
                              (try rw [Addr.add_zero'] at hx251_0)
                              replace p251 := eq_true p251
                              replace q251 := eq_true q251
                              have p259 : 0 ≤ (0 : Int) := (by omega)
                              have q259 : 0 < (l0.length : Int) := of_decide_eq_true (by first | (with_reducible assumption) | assumption)
                              obtain ⟨ad259, e259, hx259_0⟩ := Kd.at_int (Kd.V_reads' HO_0.out).2.2 0 p259 q259
                              obtain rfl : ad249 = ad259 := (by injection e259)
                              have qi259 : (0 < l0.length) = True := eq_true (by omega)
                              (try rw [show ((0 : Int)).toNat = 0 from rfl] at hx259_0)
                              (try rw [Addr.add_zero'] at hx259_0)
                              replace p259 := eq_true p259
                              replace q259 := eq_true q259
                              have p260 : 0 ≤ (1 : Int) := (by omega)
                              have q260 : 1 < (l0.length : Int) := of_decide_eq_true (by first | (with_reducible assumption) | assumption)
                              obtain ⟨ad260, e260, hx260_0⟩ := Kd.at_int (Kd.V_reads' HO_0.out).2.2 1 p260 q260
                              obtain rfl : ad249 = ad260 := (by injection e260)
                              (try simp only [show (1 : Int).toNat = 1 from rfl, Nat.reduceMul, Nat.reduceEqDiff, Go.Addr.add, ↓reduceIte] at hx260_0)
                              have qi260 : (1 < l0.length) = True := eq_true (by omega)
                              (try rw [show ((1 : Int)).toNat = 1 from rfl] at hx260_0)
                              replace p260 := eq_true p260
                              replace q260 := eq_true q260
                              go_wp2
                              go_ret2
                              exact ⟨by first | rfl | (simp [errW_none, errW_some] <;> rfl) | (simp [*, errW_none, errW_some] <;> rfl) | (simp [errW_none, errW_some, Go.Proofs.YtkoddcihcoekgaaDoor.G.isEmpty_ne]; done), by repeat (first | (with_reducible first | exact HB.out | apply below_alloc | apply pw_below_drewN | apply below_drew1) | exact HB.out)⟩
                            · rw [if_neg c34] at H
                              have c34b0 : decide ((rd l0 1) < 144) = false := decide_eq_false c34
                              clear c34
                              by_cases c35 : (rd l0 0) = 244
                              · rw [if_pos c35] at H
                                have c35b0 : ((rd l0 0) == 244) = true := beq_iff_eq.mpr c35
                                have c35b1 : ((rd l0 0) != 244) = false := bne_eq_false_iff_eq.mpr c35
                                clear c35
                                by_cases c36 : (rd l0 1) > 143
                                · rw [if_pos c36] at H
                                  have c36b0 : decide (143 < (rd l0 1)) = true := decide_eq_true c36
                                  clear c36
                                  simp only [Option.some.injEq, Prod.mk.injEq] at H
                                  obtain ⟨rfl, rfl⟩ := H
                                  have p249 : 0 ≤ (0 : Int) := (by omega)
                                  have q249 : 0 < (l0.length : Int) := of_decide_eq_true (by first | (with_reducible assumption) | assumption)
                                  obtain ⟨ad249, e249, hx249_0⟩ := Kd.at_int (Kd.V_reads' HO_0.out).2.2 0 p249 q249
                                  cases e249
                                  have qi249 : (0 < l0.length) = True := eq_true (by omega)
                                  (try rw [show ((0 : Int)).toNat = 0 from rfl] at hx249_0)
                                  (try rw [Addr.add_zero'] at hx249_0)
                                  replace p249 := eq_true p249
                                  replace q249 := eq_true q249
                                  have p250 : 0 ≤ (1 : Int) := (by omega)
                                  have q250 : 1 < (l0.length : Int) := of_decide_eq_true (by first | (with_reducible assumption) | assumption)
                                  obtain ⟨ad250, e250, hx250_0⟩ := Kd.at_int (Kd.V_reads' HO_0.out).2.2 1 p250 q250
                                  obtain rfl : ad249 = ad250 := (by injection e250)
                                  (try simp only [show (1 : Int).toNat = 1 from rfl, Nat.reduceMul, Nat.reduceEqDiff, Go.Addr.add, ↓reduceIte] at hx250_0)
                                  have qi250 : (1 < l0.length) = True := eq_true (by omega)
                                  (try rw [show ((1 : Int)).toNat = 1 from rfl] at hx250_0)
                                  replace p250 := eq_true p250
                                  replace q250 := eq_true q250
                                  have p251 : 0 ≤ (0 : Int) := (by omega)
                                  have q251 : 0 < (l0.length : Int) := of_decide_eq_true (by first | (with_reducible assumption) | assumption)
                                  obtain ⟨ad251, e251, hx251_0⟩ := Kd.at_int (Kd.V_reads' HO_0.out).2.2 0 p251 q251
                                  obtain rfl : ad249 = ad251 := (by injection e251)
                                  have qi251 : (0 < l0.length) = True := eq_true (by omega)
                                  (try rw [show ((0 : Int)).toNat = 0 from rfl] at hx251_0)
                                  (try rw [Addr.add_zero'] at hx251_0)
                                  replace p251 := eq_true p251
                                  replace q251 := eq_true q251
                                  have p259 : 0 ≤ (0 : Int) := (by omega)
                                  have q259 : 0 < (l0.length : Int) := of_decide_eq_true (by first | (with_reducible assumption) | assumption)
                                  obtain ⟨ad259, e259, hx259_0⟩ := Kd.at_int (Kd.V_reads' HO_0.out).2.2 0 p259 q259
                                  obtain rfl : ad249 = ad259 := (by injection e259)
                                  have qi259 : (0 < l0.length) = True := eq_true (by omega)
                                  (try rw [show ((0 : Int)).toNat = 0 from rfl] at hx259_0)
                                  (try rw [Addr.add_zero'] at hx259_0)
                                  replace p259 := eq_true p259
                                  replace q259 := eq_true q259
                                  have p260 : 0 ≤ (1 : Int) := (by omega)
                                  have q260 : 1 < (l0.length : Int) := of_decide_eq_true (by first | (with_reducible assumption) | assumption)
                                  obtain ⟨ad260, e260, hx260_0⟩ := Kd.at_int (Kd.V_reads' HO_0.out).2.2 1 p260 q260
                                  obtain rfl : ad249 = ad260 := (by injection e260)
                                  (try simp only [show (1 : Int).toNat = 1 from rfl, Nat.reduceMul, Nat.reduceEqDiff, Go.Addr.add, ↓reduceIte] at hx260_0)
                                  have qi260 : (1 < l0.length) = True := eq_true (by omega)
                                  (try rw [show ((1 : Int)).toNat = 1 from rfl] at hx260_0)
                                  replace p260 := eq_true p260
                                  replace q260 := eq_true q260
                                  have p261 : 0 ≤ (0 : Int) := (by omega)
                                  have q261 : 0 < (l0.length : Int) := of_decide_eq_true (by first | (with_reducible assumption) | assumption)
                                  obtain ⟨ad261, e261, hx261_0⟩ := Kd.at_int (Kd.V_reads' HO_0.out).2.2 0 p261 q261
                                  obtain rfl : ad249 = ad261 := (by injection e261)
                                  have qi261 : (0 < l0.length) = True := eq_true (by omega)
                                  (try rw [show ((0 : Int)).toNat = 0 from rfl] at hx261_0)
                                  (try rw [Addr.add_zero'] at hx261_0)
                                  replace p261 := eq_true p261
                                  replace q261 := eq_true q261
                                  have p262 : 0 ≤ (1 : Int) := (by omega)
                                  have q262 : 1 < (l0.length : Int) := of_decide_eq_true (by first | (with_reducible assumption) | assumption)
                                  obtain ⟨ad262, e262, hx262_0⟩ := Kd.at_int (Kd.V_reads' HO_0.out).2.2 1 p262 q262
                                  obtain rfl : ad249 = ad262 := (by injection e262)
                                  (try simp only [show (1 : Int).toNat = 1 from rfl, Nat.reduceMul, Nat.reduceEqDiff, Go.Addr.add, ↓reduceIte] at hx262_0)
                                  have qi262 : (1 < l0.length) = True := eq_true (by omega)
                                  (try rw [show ((1 : Int)).toNat = 1 from rfl] at hx262_0)
                                  replace p262 := eq_true p262
                                  replace q262 := eq_true q262
                                  go_wp2
                                  go_ret2
                                  exact ⟨by first | rfl | (simp [errW_none, errW_some] <;> rfl) | (simp [*, errW_none, errW_some] <;> rfl) | (simp [errW_none, errW_some, Go.Proofs.YtkoddcihcoekgaaDoor.G.isEmpty_ne]; done), by repeat (first | (with_reducible first | exact HB.out | apply below_alloc | apply pw_below_drewN | apply below_drew1) | exact HB.out)⟩
                                · rw [if_neg c36] at H
                                  have c36b0 : decide (143 < (rd l0 1)) = false := decide_eq_false c36
                                  clear c36
                                  simp only [Option.some.injEq, Prod.mk.injEq] at H
                                  obtain ⟨rfl, rfl⟩ := H
                                  have p249 : 0 ≤ (0 : Int) := (by omega)
                                  have q249 : 0 < (l0.length : Int) := of_decide_eq_true (by first | (with_reducible assumption) | assumption)
                                  obtain ⟨ad249, e249, hx249_0⟩ := Kd.at_int (Kd.V_reads' HO_0.out).2.2 0 p249 q249
                                  cases e249
                                  have qi249 : (0 < l0.length) = True := eq_true (by omega)
                                  (try rw [show ((0 : Int)).toNat = 0 from rfl] at hx249_0)
                                  (try rw [Addr.add_zero'] at hx249_0)
                                  replace p249 := eq_true p249
                                  replace q249 := eq_true q249
                                  have p250 : 0 ≤ (1 : Int) := (by omega)
                                  have q250 : 1 < (l0.length : Int) := of_decide_eq_true (by first | (with_reducible assumption) | assumption)
                                  obtain ⟨ad250, e250, hx250_0⟩ := Kd.at_int (Kd.V_reads' HO_0.out).2.2 1 p250 q250
                                  obtain rfl : ad249 = ad250 := (by injection e250)
                                  (try simp only [show (1 : Int).toNat = 1 from rfl, Nat.reduceMul, Nat.reduceEqDiff, Go.Addr.add, ↓reduceIte] at hx250_0)
                                  have qi250 : (1 < l0.length) = True := eq_true (by omega)
                                  (try rw [show ((1 : Int)).toNat = 1 from rfl] at hx250_0)
                                  replace p250 := eq_true p250
                                  replace q250 := eq_true q250
                                  have p251 : 0 ≤ (0 : Int) := (by omega)
                                  have q251 : 0 < (l0.length : Int) := of_decide_eq_true (by first | (with_reducible assumption) | assumption)
                                  obtain ⟨ad251, e251, hx251_0⟩ := Kd.at_int (Kd.V_reads' HO_0.out).2.2 0 p251 q251
                                  obtain rfl : ad249 = ad251 := (by injection e251)
                                  have qi251 : (0 < l0.length) = True := eq_true (by omega)
                                  (try rw [show ((0 : Int)).toNat = 0 from rfl] at hx251_0)
                                  (try rw [Addr.add_zero'] at hx251_0)
                                  replace p251 := eq_true p251
                                  replace q251 := eq_true q251
                                  have p259 : 0 ≤ (0 : Int) := (by omega)
                                  have q259 : 0 < (l0.length : Int) := of_decide_eq_true (by first | (with_reducible assumption) | assumption)
                                  obtain ⟨ad259, e259, hx259_0⟩ := Kd.at_int (Kd.V_reads' HO_0.out).2.2 0 p259 q259
                                  obtain rfl : ad249 = ad259 := (by injection e259)
                                  have qi259 : (0 < l0.length) = True := eq_true (by omega)
                                  (try rw [show ((0 : Int)).toNat = 0 from rfl] at hx259_0)
                                  (try rw [Addr.add_zero'] at hx259_0)
                                  replace p259 := eq_true p259
                                  replace q259 := eq_true q259
                                  have p260 : 0 ≤ (1 : Int) := (by omega)
                                  have q260 : 1 < (l0.length : Int) := of_decide_eq_true (by first | (with_reducible assumption) | assumption)
                                  obtain ⟨ad260, e260, hx260_0⟩ := Kd.at_int (Kd.V_reads' HO_0.out).2.2 1 p260 q260
                                  obtain rfl : ad249 = ad260 := (by injection e260)
                                  (try simp only [show (1 : Int).toNat = 1 from rfl, Nat.reduceMul, Nat.reduceEqDiff, Go.Addr.add, ↓reduceIte] at hx260_0)
                                  have qi260 : (1 < l0.length) = True := eq_true (by omega)
                                  (try rw [show ((1 : Int)).toNat = 1 from rfl] at hx260_0)
                                  replace p260 := eq_true p260
                                  replace q260 := eq_true q260
                                  have p261 : 0 ≤ (0 : Int) := (by omega)
                                  have q261 : 0 < (l0.length : Int) := of_decide_eq_true (by first | (with_reducible assumption) | assumption)
                                  obtain ⟨ad261, e261, hx261_0⟩ := Kd.at_int (Kd.V_reads' HO_0.out).2.2 0 p261 q261
                                  obtain rfl : ad249 = ad261 := (by injection e261)
                                  have qi261 : (0 < l0.length) = True := eq_true (by omega)
                                  (try rw [show ((0 : Int)).toNat = 0 from rfl] at hx261_0)
                                  (try rw [Addr.add_zero'] at hx261_0)
                                  replace p261 := eq_true p261
                                  replace q261 := eq_true q261
                                  have p262 : 0 ≤ (1 : Int) := (by omega)
                                  have q262 : 1 < (l0.length : Int) := of_decide_eq_true (by first | (with_reducible assumption) | assumption)
                                  obtain ⟨ad262, e262, hx262_0⟩ := Kd.at_int (Kd.V_reads' HO_0.out).2.2 1 p262 q262
                                  obtain rfl : ad249 = ad262 := (by injection e262)
                                  (try simp only [show (1 : Int).toNat = 1 from rfl, Nat.reduceMul, Nat.reduceEqDiff, Go.Addr.add, ↓reduceIte] at hx262_0)
                                  have qi262 : (1 < l0.length) = True := eq_true (by omega)
                                  (try rw [show ((1 : Int)).toNat = 1 from rfl] at hx262_0)
                                  replace p262 := eq_true p262
                                  replace q262 := eq_true q262
                                  go_wp2
                                  go_ret2
                                  exact ⟨by first | rfl | (simp [errW_none, errW_some] <;> rfl) | (simp [*, errW_none, errW_some] <;> rfl) | (simp [errW_none, errW_some, Go.Proofs.YtkoddcihcoekgaaDoor.G.isEmpty_ne]; done), by repeat (first | (with_reducible first | exact HB.out | apply below_alloc | apply pw_below_drewN | apply below_drew1) | exact HB.out)⟩
                              · rw [if_neg c35] at H
                                have c35b0 : ((rd l0 0) == 244) = false := beq_eq_false_iff_ne.mpr c35
                                have c35b1 : ((rd l0 0) != 244) = true := bne_iff_ne.mpr c35
                                simp only [Option.some.injEq, Prod.mk.injEq] at H
                                obtain ⟨rfl, rfl⟩ := H
                                have p249 : 0 ≤ (0 : Int) := (by omega)
                                have q249 : 0 < (l0.length : Int) := of_decide_eq_true (by first | (with_reducible assumption) | assumption)
                                obtain ⟨ad249, e249, hx249_0⟩ := Kd.at_int (Kd.V_reads' HO_0.out).2.2 0 p249 q249
                                cases e249
                                have qi249 : (0 < l0.length) = True := eq_true (by omega)
                                (try rw [show ((0 : Int)).toNat = 0 from rfl] at hx249_0)
                                (try rw [Addr.add_zero'] at hx249_0)
                                replace p249 := eq_true p249
                                replace q249 := eq_true q249
                                have p250 : 0 ≤ (1 : Int) := (by omega)
                                have q250 : 1 < (l0.length : Int) := of_decide_eq_true (by first | (with_reducible assumption) | assumption)
                                obtain ⟨ad250, e250, hx250_0⟩ := Kd.at_int (Kd.V_reads' HO_0.out).2.2 1 p250 q250
                                obtain rfl : ad249 = ad250 := (by injection e250)
                                (try simp only [show (1 : Int).toNat = 1 from rfl, Nat.reduceMul, Nat.reduceEqDiff, Go.Addr.add, ↓reduceIte] at hx250_0)
                                have qi250 : (1 < l0.length) = True := eq_true (by omega)
                                (try rw [show ((1 : Int)).toNat = 1 from rfl] at hx250_0)
                                replace p250 := eq_true p250
                                replace q250 := eq_true q250
                                have p251 : 0 ≤ (0 : Int) := (by omega)
                                have q251 : 0 < (l0.length : Int) := of_decide_eq_true (by first | (with_reducible assumption) | assumption)
                                obtain ⟨ad251, e251, hx251_0⟩ := Kd.at_int (Kd.V_reads' HO_0.out).2.2 0 p251 q251
                                obtain rfl : ad249 = ad251 := (by injection e251)
                                have qi251 : (0 < l0.length) = True := eq_true (by omega)
                                (try rw [show ((0 : Int)).toNat = 0 from rfl] at hx251_0)
                                (try rw [Addr.add_zero'] at hx251_0)
                                replace p251 := eq_true p251
                                replace q251 := eq_true q251
                                have p259 : 0 ≤ (0 : Int) := (by omega)
                                have q259 : 0 < (l0.length : Int) := of_decide_eq_true (by first | (with_reducible assumption) | assumption)
                                obtain ⟨ad259, e259, hx259_0⟩ := Kd.at_int (Kd.V_reads' HO_0.out).2.2 0 p259 q259
                                obtain rfl : ad249 = ad259 := (by injection e259)
                                have qi259 : (0 < l0.length) = True := eq_true (by omega)
                                (try rw [show ((0 : Int)).toNat = 0 from rfl] at hx259_0)
                                (try rw [Addr.add_zero'] at hx259_0)
                                replace p259 := eq_true p259
                                replace q259 := eq_true q259
                                have p260 : 0 ≤ (1 : Int) := (by omega)
                                have q260 : 1 < (l0.length : Int) := of_decide_eq_true (by first | (with_reducible assumption) | assumption)
                                obtain ⟨ad260, e260, hx260_0⟩ := Kd.at_int (Kd.V_reads' HO_0.out).2.2 1 p260 q260
                                obtain rfl : ad249 = ad260 := (by injection e260)
                                (try simp only [show (1 : Int).toNat = 1 from rfl, Nat.reduceMul, Nat.reduceEqDiff, Go.Addr.add, ↓reduceIte] at hx260_0)
                                have qi260 : (1 < l0.length) = True := eq_true (by omega)
                                (try rw [show ((1 : Int)).toNat = 1 from rfl] at hx260_0)
                                replace p260 := eq_true p260
                                replace q260 := eq_true q260
                                have p261 : 0 ≤ (0 : Int) := (by omega)
                                have q261 : 0 < (l0.length : Int) := of_decide_eq_true (by first | (with_reducible assumption) | assumption)
                                obtain ⟨ad261, e261, hx261_0⟩ := Kd.at_int (Kd.V_reads' HO_0.out).2.2 0 p261 q261
                                obtain rfl : ad249 = ad261 := (by injection e261)
                                have qi261 : (0 < l0.length) = True := eq_true (by omega)
                                (try rw [show ((0 : Int)).toNat = 0 from rfl] at hx261_0)
                                (try rw [Addr.add_zero'] at hx261_0)
                                replace p261 := eq_true p261
                                replace q261 := eq_true q261
                                go_wp2
                                go_ret2
                                exact ⟨by first | rfl | (simp [errW_none, errW_some] <;> rfl) | (simp [*, errW_none, errW_some] <;> rfl) | (simp [errW_none, errW_some, Go.Proofs.YtkoddcihcoekgaaDoor.G.isEmpty_ne]; done), by repeat (first | (with_reducible first | exact HB.out | apply below_alloc | apply pw_below_drewN | apply below_drew1) | exact HB.out)⟩
                          · rw [if_neg c33] at H
                            have c33b0 : ((rd l0 0) == 240) = false := beq_eq_false_iff_ne.mpr c33
                            have c33b1 : ((rd l0 0) != 240) = true := bne_iff_ne.mpr c33
                            by_cases c37 : (rd l0 0) = 244
                            · rw [if_pos c37] at H
                              have c37b0 : ((rd l0 0) == 244) = true := beq_iff_eq.mpr c37
                              have c37b1 : ((rd l0 0) != 244) = false := bne_eq_false_iff_eq.mpr c37
                              clear c37
                              by_cases c38 : (rd l0 1) > 143
                              · rw [if_pos c38] at H
                                have c38b0 : decide (143 < (rd l0 1)) = true := decide_eq_true c38
                                clear c38
                                simp only [Option.some.injEq, Prod.mk.injEq] at H
                                obtain ⟨rfl, rfl⟩ := H
                                have p249 : 0 ≤ (0 : Int) := (by omega)
                                have q249 : 0 < (l0.length : Int) := of_decide_eq_true (by first | (with_reducible assumption) | assumption)
                                obtain ⟨ad249, e249, hx249_0⟩ := Kd.at_int (Kd.V_reads' HO_0.out).2.2 0 p249 q249
                                cases e249
                                have qi249 : (0 < l0.length) = True := eq_true (by omega)
                                (try rw [show ((0 : Int)).toNat = 0 from rfl] at hx249_0)
                                (try rw [Addr.add_zero'] at hx249_0)
                                replace p249 := eq_true p249
                                replace q249 := eq_true q249
                                have p250 : 0 ≤ (1 : Int) := (by omega)
                                have q250 : 1 < (l0.length : Int) := of_decide_eq_true (by first | (with_reducible assumption) | assumption)
                                obtain ⟨ad250, e250, hx250_0⟩ := Kd.at_int (Kd.V_reads' HO_0.out).2.2 1 p250 q250
                                obtain rfl : ad249 = ad250 := (by injection e250)
                                (try simp only [show (1 : Int).toNat = 1 from rfl, Nat.reduceMul, Nat.reduceEqDiff, Go.Addr.add, ↓reduceIte] at hx250_0)
                                have qi250 : (1 < l0.length) = True := eq_true (by omega)
                                (try rw [show ((1 : Int)).toNat = 1 from rfl] at hx250_0)
                                replace p250 := eq_true p250
                                replace q250 := eq_true q250
                                have p251 : 0 ≤ (0 : Int) := (by omega)
                                have q251 : 0 < (l0.length : Int) := of_decide_eq_true (by first | (with_reducible assumption) | assumption)
                                obtain ⟨ad251, e251, hx251_0⟩ := Kd.at_int (Kd.V_reads' HO_0.out).2.2 0 p251 q251
                                obtain rfl : ad249 = ad251 := (by injection e251)
                                have qi251 : (0 < l0.length) = True := eq_true (by omega)
                                (try rw [show ((0 : Int)).toNat = 0 from rfl] at hx251_0)
                                (try rw [Addr.add_zero'] at hx251_0)
                                replace p251 := eq_true p251
                                replace q251 := eq_true q251
                                have p259 : 0 ≤ (0 : Int) := (by omega)
                                have q259 : 0 < (l0.length : Int) := of_decide_eq_true (by first | (with_reducible assumption) | assumption)
                                obtain ⟨ad259, e259, hx259_0⟩ := Kd.at_int (Kd.V_reads' HO_0.out).2.2 0 p259 q259
                                obtain rfl : ad249 = ad259 := (by injection e259)
                                have qi259 : (0 < l0.length) = True := eq_true (by omega)
                                (try rw [show ((0 : Int)).toNat = 0 from rfl] at hx259_0)
                                (try rw [Addr.add_zero'] at hx259_0)
                                replace p259 := eq_true p259
                                replace q259 := eq_true q259
                                have p263 : 0 ≤ (0 : Int) := (by omega)
                                have q263 : 0 < (l0.length : Int) := of_decide_eq_true (by first | (with_reducible assumption) | assumption)
                                obtain ⟨ad263, e263, hx263_0⟩ := Kd.at_int (Kd.V_reads' HO_0.out).2.2 0 p263 q263
                                obtain rfl : ad249 = ad263 := (by injection e263)
                                have qi263 : (0 < l0.length) = True := eq_true (by omega)
                                (try rw [show ((0 : Int)).toNat = 0 from rfl] at hx263_0)
                                (try rw [Addr.add_zero'] at hx263_0)
                                replace p263 := eq_true p263
                                replace q263 := eq_true q263
                                have p264 : 0 ≤ (1 : Int) := (by omega)
                                have q264 : 1 < (l0.length : Int) := of_decide_eq_true (by first | (with_reducible assumption) | assumption)
                                obtain ⟨ad264, e264, hx264_0⟩ := Kd.at_int (Kd.V_reads' HO_0.out).2.2 1 p264 q264
                                obtain rfl : ad249 = ad264 := (by injection e264)
                                (try simp only [show (1 : Int).toNat = 1 from rfl, Nat.reduceMul, Nat.reduceEqDiff, Go.Addr.add, ↓reduceIte] at hx264_0)
                                have qi264 : (1 < l0.length) = True := eq_true (by omega)
                                (try rw [show ((1 : Int)).toNat = 1 from rfl] at hx264_0)
                                replace p264 := eq_true p264
                                replace q264 := eq_true q264
                                go_wp2
                                go_ret2
                                exact ⟨by first | rfl | (simp [errW_none, errW_some] <;> rfl) | (simp [*, errW_none, errW_some] <;> rfl) | (simp [errW_none, errW_some, Go.Proofs.YtkoddcihcoekgaaDoor.G.isEmpty_ne]; done), by repeat (first | (with_reducible first | exact HB.out | apply below_alloc | apply pw_below_drewN | apply below_drew1) | exact HB.out)⟩
                              · rw [if_neg c38] at H
                                have c38b0 : decide (143 < (rd l0 1)) = false := decide_eq_false c38
                                clear c38
                                simp only [Option.some.injEq, Prod.mk.injEq] at H
                                obtain ⟨rfl, rfl⟩ := H
                                have p249 : 0 ≤ (0 : Int) := (by omega)
                                have q249 : 0 < (l0.length : Int) := of_decide_eq_true (by first | (with_reducible assumption) | assumption)
                                obtain ⟨ad249, e249, hx249_0⟩ := Kd.at_int (Kd.V_reads' HO_0.out).2.2 0 p249 q249
                                cases e249
                                have qi249 : (0 < l0.length) = True := eq_true (by omega)
                                (try rw [show ((0 : Int)).toNat = 0 from rfl] at hx249_0)
                                (try rw [Addr.add_zero'] at hx249_0)
                                replace p249 := eq_true p249
                                replace q249 := eq_true q249
                                have p250 : 0 ≤ (1 : Int) := (by omega)
                                have q250 : 1 < (l0.length : Int) := of_decide_eq_true (by first | (with_reducible assumption) | assumption)
                                obtain ⟨ad250, e250, hx250_0⟩ := Kd.at_int (Kd.V_reads' HO_0.out).2.2 1 p250 q250
                                obtain rfl : ad249 = ad250 := (by injection e250)
                                (try simp only [show (1 : Int).toNat = 1 from rfl, Nat.reduceMul, Nat.reduceEqDiff, Go.Addr.add, ↓reduceIte] at hx250_0)
                                have qi250 : (1 < l0.length) = True := eq_true (by omega)
                                (try rw [show ((1 : Int)).toNat = 1 from rfl] at hx250_0)
                                replace p250 := eq_true p250
                                replace q250 := eq_true q250
                                have p251 : 0 ≤ (0 : Int) := (by omega)
                                have q251 : 0 < (l0.length : Int) := of_decide_eq_true (by first | (with_reducible assumption) | assumption)
                                obtain ⟨ad251, e251, hx251_0⟩ := Kd.at_int (Kd.V_reads' HO_0.out).2.2 0 p251 q251
                                obtain rfl : ad249 = ad251 := (by injection e251)
                                have qi251 : (0 < l0.length) = True := eq_true (by omega)
                                (try rw [show ((0 : Int)).toNat = 0 from rfl] at hx251_0)
                                (try rw [Addr.add_zero'] at hx251_0)
                                replace p251 := eq_true p251
                                replace q251 := eq_true q251
                                have p259 : 0 ≤ (0 : Int) := (by omega)
                                have q259 : 0 < (l0.length : Int) := of_decide_eq_true (by first | (with_reducible assumption) | assumption)
                                obtain ⟨ad259, e259, hx259_0⟩ := Kd.at_int (Kd.V_reads' HO_0.out).2.2 0 p259 q259
                                obtain rfl : ad249 = ad259 := (by injection e259)
                                have qi259 : (0 < l0.length) = True := eq_true (by omega)
                                (try rw [show ((0 : Int)).toNat = 0 from rfl] at hx259_0)
                                (try rw [Addr.add_zero'] at hx259_0)
                                replace p259 := eq_true p259
                                replace q259 := eq_true q259
                                have p263 : 0 ≤ (0 : Int) := (by omega)
                                have q263 : 0 < (l0.length : Int) := of_decide_eq_true (by first | (with_reducible assumption) | assumption)
                                obtain ⟨ad263, e263, hx263_0⟩ := Kd.at_int (Kd.V_reads' HO_0.out).2.2 0 p263 q263
                                obtain rfl : ad249 = ad263 := (by injection e263)
                                have qi263 : (0 < l0.length) = True := eq_true (by omega)
                                (try rw [show ((0 : Int)).toNat = 0 from rfl] at hx263_0)
                                (try rw [Addr.add_zero'] at hx263_0)
                                replace p263 := eq_true p263
                                replace q263 := eq_true q263
                                have p264 : 0 ≤ (1 : Int) := (by omega)
                                have q264 : 1 < (l0.length : Int) := of_decide_eq_true (by first | (with_reducible assumption) | assumption)
                                obtain ⟨ad264, e264, hx264_0⟩ := Kd.at_int (Kd.V_reads' HO_0.out).2.2 1 p264 q264
                                obtain rfl : ad249 = ad264 := (by injection e264)
                                (try simp only [show (1 : Int).toNat = 1 from rfl, Nat.reduceMul, Nat.reduceEqDiff, Go.Addr.add, ↓reduceIte] at hx264_0)
                                have qi264 : (1 < l0.length) = True := eq_true (by omega)
                                (try rw [show ((1 : Int)).toNat = 1 from rfl] at hx264_0)
                                replace p264 := eq_true p264
                                replace q264 := eq_true q264
                                go_wp2
                                go_ret2
                                exact ⟨by first | rfl | (simp [errW_none, errW_some] <;> rfl) | (simp [*, errW_none, errW_some] <;> rfl) | (simp [errW_none, errW_some, Go.Proofs.YtkoddcihcoekgaaDoor.G.isEmpty_ne]; done), by repeat (first | (with_reducible first | exact HB.out | apply below_alloc | apply pw_below_drewN | apply below_drew1) | exact HB.out)⟩
                            · rw [if_neg c37] at H
                              have c37b0 : ((rd l0 0) == 244) = false := beq_eq_false_iff_ne.mpr c37
                              have c37b1 : ((rd l0 0) != 244) = true := bne_iff_ne.mpr c37
                              simp only [Option.some.injEq, Prod.mk.injEq] at H
                              obtain ⟨rfl, rfl⟩ := H
                              have p249 : 0 ≤ (0 : Int) := (by omega)
                              have q249 : 0 < (l0.length : Int) := of_decide_eq_true (by first | (with_reducible assumption) | assumption)
                              obtain ⟨ad249, e249, hx249_0⟩ := Kd.at_int (Kd.V_reads' HO_0.out).2.2 0 p249 q249
                              cases e249
                              have qi249 : (0 < l0.length) = True := eq_true (by omega)
                              (try rw [show ((0 : Int)).toNat = 0 from rfl] at hx249_0)
                              (try rw [Addr.add_zero'] at hx249_0)
                              replace p249 := eq_true p249
                              replace q249 := eq_true q249
                              have p250 : 0 ≤ (1 : Int) := (by omega)
                              have q250 : 1 < (l0.length : Int) := of_decide_eq_true (by first | (with_reducible assumption) | assumption)
                              obtain ⟨ad250, e250, hx250_0⟩ := Kd.at_int (Kd.V_reads' HO_0.out).2.2 1 p250 q250
                              obtain rfl : ad249 = ad250 := (by injection e250)
                              (try simp only [show (1 : Int).toNat = 1 from rfl, Nat.reduceMul, Nat.reduceEqDiff, Go.Addr.add, ↓reduceIte] at hx250_0)
                              have qi250 : (1 < l0.length) = True := eq_true (by omega)
                              (try rw [show ((1 : Int)).toNat = 1 from rfl] at hx250_0)
                              replace p250 := eq_true p250
                              replace q250 := eq_true q250
                              have p251 : 0 ≤ (0 : Int) := (by omega)
                              have q251 : 0 < (l0.length : Int) := of_decide_eq_true (by first | (with_reducible assumption) | assumption)
                              obtain ⟨ad251, e251, hx251_0⟩ := Kd.at_int (Kd.V_reads' HO_0.out).2.2 0 p251 q251
                              obtain rfl : ad249 = ad251 := (by injection e251)
                              have qi251 : (0 < l0.length) = True := eq_true (by omega)
                              (try rw [show ((0 : Int)).toNat = 0 from rfl] at hx251_0)
                              (try rw [Addr.add_zero'] at hx251_0)
                              replace p251 := eq_true p251
                              replace q251 := eq_true q251
                              have p259 : 0 ≤ (0 : Int) := (by omega)
                              have q259 : 0 < (l0.length : Int) := of_decide_eq_true (by first | (with_reducible assumption) | assumption)
                              obtain ⟨ad259, e259, hx259_0⟩ := Kd.at_int (Kd.V_reads' HO_0.out).2.2 0 p259 q259
                              obtain rfl : ad249 = ad259 := (by injection e259)
                              have qi259 : (0 < l0.length) = True := eq_true (by omega)
                              (try rw [show ((0 : Int)).toNat = 0 from rfl] at hx259_0)
                              (try rw [Addr.add_zero'] at hx259_0)
                              replace p259 := eq_true p259
                              replace q259 := eq_true q259
                              have p263 : 0 ≤ (0 : Int) := (by omega)
                              have q263 : 0 < (l0.length : Int) := of_decide_eq_true (by first | (with_reducible assumption) | assumption)
                              obtain ⟨ad263, e263, hx263_0⟩ := Kd.at_int (Kd.V_reads' HO_0.out).2.2 0 p263 q263
                              obtain rfl : ad249 = ad263 := (by injection e263)
                              have qi263 : (0 < l0.length) = True := eq_true (by omega)
                              (try rw [show ((0 : Int)).toNat = 0 from rfl] at hx263_0)
                              (try rw [Addr.add_zero'] at hx263_0)
                              replace p263 := eq_true p263
                              replace q263 := eq_true q263
                              go_wp2
                              go_ret2
                              exact ⟨by first | rfl | (simp [errW_none, errW_some] <;> rfl) | (simp [*, errW_none, errW_some] <;> rfl) | (simp [errW_none, errW_some, Go.Proofs.YtkoddcihcoekgaaDoor.G.isEmpty_ne]; done), by repeat (first | (with_reducible first | exact HB.out | apply below_alloc | apply pw_below_drewN | apply below_drew1) | exact HB.out)⟩
                    · rw [if_neg c23] at H
                      exact absurd H (by simp)
                  · rw [if_neg c22] at H
                    have c22b0 : ((rd l0 0) == 224) = false := beq_eq_false_iff_ne.mpr c22
                    have c22b1 : ((rd l0 0) != 224) = true := bne_iff_ne.mpr c22
                    by_cases c39 : (rd l0 0) = 237
                    · rw [if_pos c39] at H
                      have c39b0 : ((rd l0 0) == 237) = true := beq_iff_eq.mpr c39
                      have c39b1 : ((rd l0 0) != 237) = false := bne_eq_false_iff_eq.mpr c39
                      clear c39
                      by_cases c40 : 1 < (l0.length : Int)
                      · rw [if_pos c40] at H
                        have c40b0 : decide (1 < (l0.length : Int)) = true := decide_eq_true c40
                        have c40b1 : decide (1 < l0.length) = true := decide_eq_true (by omega)
                        clear c40
                        by_cases c41 : (rd l0 1) > 159
                        · rw [if_pos c41] at H
                          have c41b0 : decide (159 < (rd l0 1)) = true := decide_eq_true c41
                          clear c41
                          simp only [Option.some.injEq, Prod.mk.injEq] at H
                          obtain ⟨rfl, rfl⟩ := H
                          have p249 : 0 ≤ (0 : Int) := (by omega)
                          have q249 : 0 < (l0.length : Int) := of_decide_eq_true (by first | (with_reducible assumption) | assumption)
                          obtain ⟨ad249, e249, hx249_0⟩ := Kd.at_int (Kd.V_reads' HO_0.out).2.2 0 p249 q249
                          cases e249
                          have qi249 : (0 < l0.length) = True := eq_true (by omega)
                          (try rw [show ((0 : Int)).toNat = 0 from rfl] at hx249_0)
                          (try rw [Addr.add_zero'] at hx249_0)
                          replace p249 := eq_true p249
                          replace q249 := eq_true q249
                          have p265 : 0 ≤ (0 : Int) := (by omega)
                          have q265 : 0 < (l0.length : Int) := of_decide_eq_true (by first | (with_reducible assumption) | assumption)
                          obtain ⟨ad265, e265, hx265_0⟩ := Kd.at_int (Kd.V_reads' HO_0.out).2.2 0 p265 q265
                          obtain rfl : ad249 = ad265 := (by injection e265)
                          have qi265 : (0 < l0.length) = True := eq_true (by omega)
                          (try rw [show ((0 : Int)).toNat = 0 from rfl] at hx265_0)
                          (try rw [Addr.add_zero'] at hx265_0)
                          replace p265 := eq_true p265
                          replace q265 := eq_true q265
                          have p266 : 0 ≤ (1 : Int) := (by omega)
                          have q266 : 1 < (l0.length : Int) := of_decide_eq_true (by first | (with_reducible assumption) | assumption)
                          obtain ⟨ad266, e266, hx266_0⟩ := Kd.at_int (Kd.V_reads' HO_0.out).2.2 1 p266 q266
                          obtain rfl : ad249 = ad266 := (by injection e266)
                          (try simp only [show (1 : Int).toNat = 1 from rfl, Nat.reduceMul, Nat.reduceEqDiff, Go.Addr.add, ↓reduceIte] at hx266_0)
                          have qi266 : (1 < l0.length) = True := eq_true (by omega)
                          (try rw [show ((1 : Int)).toNat = 1 from rfl] at hx266_0)
                          replace p266 := eq_true p266
                          replace q266 := eq_true q266
                          go_wp2
                          go_ret2
                          exact ⟨by first | rfl | (simp [errW_none, errW_some] <;> rfl) | (simp [*, errW_none, errW_some] <;> rfl) | (simp [errW_none, errW_some, Go.Proofs.YtkoddcihcoekgaaDoor.G.isEmpty_ne]; done), by repeat (first | (with_reducible first | exact HB.out | apply below_alloc | apply pw_below_drewN | apply below_drew1) | exact HB.out)⟩
                        · rw [if_neg c41] at H
                          have c41b0 : decide (159 < (rd l0 1)) = false := decide_eq_false c41
                          clear c41
                          by_cases c42 : (rd l0 0) = 240
                          · rw [if_pos c42] at H
                            have c42b0 : ((rd l0 0) == 240) = true := beq_iff_eq.mpr c42
                            have c42b1 : ((rd l0 0) != 240) = false := bne_eq_false_iff_eq.mpr c42
                            clear c42
                            by_cases c43 : (rd l0 1) < 144
                            · rw [if_pos c43] at H
                              have c43b0 : decide ((rd l0 1) < 144) = true := decide_eq_true c43
                              clear c43
                              simp only [Option.some.injEq, Prod.mk.injEq] at H
                              obtain ⟨rfl, rfl⟩ := H
                              have p249 : 0 ≤ (0 : Int) := (by omega)
                              have q249 : 0 < (l0.length : Int) := of_decide_eq_true (by first | (with_reducible assumption) | assumption)
                              obtain ⟨ad249, e249, hx249_0⟩ := Kd.at_int (Kd.V_reads' HO_0.out).2.2 0 p249 q249
                              cases e249
                              have qi249 : (0 < l0.length) = True := eq_true (by omega)
                              (try rw [show ((0 : Int)).toNat = 0 from rfl] at hx249_0)
                              (try rw [Addr.add_zero'] at hx249_0)
                              replace p249 := eq_true p249
                              replace q249 := eq_true q249
                              have p265 : 0 ≤ (0 : Int) := (by omega)
                              have q265 : 0 < (l0.length : Int) := of_decide_eq_true (by first | (with_reducible assumption) | assumption)
                              obtain ⟨ad265, e265, hx265_0⟩ := Kd.at_int (Kd.V_reads' HO_0.out).2.2 0 p265 q265
                              obtain rfl : ad249 = ad265 := (by injection e265)
                              have qi265 : (0 < l0.length) = True := eq_true (by omega)
                              (try rw [show ((0 : Int)).toNat = 0 from rfl] at hx265_0)
                              (try rw [Addr.add_zero'] at hx265_0)
                              replace p265 := eq_true p265
                              replace q265 := eq_true q265
                              have p266 : 0 ≤ (1 : Int) := (by omega)
                              have q266 : 1 < (l0.length : Int) := of_decide_eq_true (by first | (with_reducible assumption) | assumption)
                              obtain ⟨ad266, e266, hx266_0⟩ := Kd.at_int (Kd.V_reads' HO_0.out).2.2 1 p266 q266
                              obtain rfl : ad249 = ad266 := (by injection e266)
                              (try simp only [show (1 : Int).toNat = 1 from rfl, Nat.reduceMul, Nat.reduceEqDiff, Go.Addr.add, ↓reduceIte] at hx266_0)
                              have qi266 : (1 < l0.length) = True := eq_true (by omega)
                              (try rw [show ((1 : Int)).toNat = 1 from rfl] at hx266_0)
                              replace p266 := eq_true p266
                              replace q266 := eq_true q266
                              have p267 : 0 ≤ (0 : Int) := (by omega)
                              have q267 : 0 < (l0.length : Int) := of_decide_eq_true (by first | (with_reducible assumption) | assumption)
                              obtain ⟨ad267, e267, hx267_0⟩ := Kd.at_int (Kd.V_reads' HO_0.out).2.2 0 p267 q267
                              obtain rfl : ad249 = ad267 := (by injection e267)
                              have qi267 : (0 < l0.length) = True := eq_true (by omega)
                              (try rw [show ((0 : Int)).toNat = 0 from rfl] at hx267_0)
                              (try rw [Addr.add_zero'] at hx267_0)
                              replace p267 := eq_true p267
                              replace q267 := eq_true q267
                              have p268 : 0 ≤ (1 : Int) := (by omega)
                              have q268 : 1 < (l0.length : Int) := of_decide_eq_true (by first | (with_reducible assumption) | assumption)
                              obtain ⟨ad268, e268, hx268_0⟩ := Kd.at_int (Kd.V_reads' HO_0.out).2.2 1 p268 q268
                              obtain rfl : ad249 = ad268 := (by injection e268)
                              (try simp only [show (1 : Int).toNat = 1 from rfl, Nat.reduceMul, Nat.reduceEqDiff, Go.Addr.add, ↓reduceIte] at hx268_0)
                              have qi268 : (1 < l0.length) = True := eq_true (by omega)
                              (try rw [show ((1 : Int)).toNat = 1 from rfl] at hx268_0)
                              replace p268 := eq_true p268
                              replace q268 := eq_true q268
                              go_wp2
                              go_ret2
                              exact ⟨by first | rfl | (simp [errW_none, errW_some] <;> rfl) | (simp [*, errW_none, errW_some] <;> rfl) | (simp [errW_none, errW_some, Go.Proofs.YtkoddcihcoekgaaDoor.G.isEmpty_ne]; done), by repeat (first | (with_reducible first | exact HB.out | apply below_alloc | apply pw_below_drewN | apply below_drew1) | exact HB.out)⟩
                            · rw [if_neg c43] at H
                              have c43b0 : decide ((rd l0 1) < 144) = false := decide_eq_false c43
                              clear c43
                              by_cases c44 : (rd l0 0) = 244
                              · rw [if_pos c44] at H
                                have c44b0 : ((rd l0 0) == 244) = true := beq_iff_eq.mpr c44
                                have c44b1 : ((rd l0 0) != 244) = false := bne_eq_false_iff_eq.mpr c44
                                clear c44
                                by_cases c45 : (rd l0 1) > 143
                                · rw [if_pos c45] at H
                                  have c45b0 : decide (143 < (rd l0 1)) = true := decide_eq_true c45
                                  clear c45
                                  simp only [Option.some.injEq, Prod.mk.injEq] at H
                                  obtain ⟨rfl, rfl⟩ := H
                                  have p249 : 0 ≤ (0 : Int) := (by omega)
                                  have q249 : 0 < (l0.length : Int) := of_decide_eq_true (by first | (with_reducible assumption) | assumption)
                                  obtain ⟨ad249, e249, hx249_0⟩ := Kd.at_int (Kd.V_reads' HO_0.out).2.2 0 p249 q249
                                  cases e249
                                  have qi249 : (0 < l0.length) = True := eq_true (by omega)
                                  (try rw [show ((0 : Int)).toNat = 0 from rfl] at hx249_0)
                                  (try rw [Addr.add_zero'] at hx249_0)
                                  replace p249 := eq_true p249
                                  replace q249 := eq_true q249
                                  have p265 : 0 ≤ (0 : Int) := (by omega)
                                  have q265 : 0 < (l0.length : Int) := of_decide_eq_true (by first | (with_reducible assumption) | assumption)
                                  obtain ⟨ad265, e265, hx265_0⟩ := Kd.at_int (Kd.V_reads' HO_0.out).2.2 0 p265 q265
                                  obtain rfl : ad249 = ad265 := (by injection e265)
                                  have qi265 : (0 < l0.length) = True := eq_true (by omega)
                                  (try rw [show ((0 : Int)).toNat = 0 from rfl] at hx265_0)
                                  (try rw [Addr.add_zero'] at hx265_0)
                                  replace p265 := eq_true p265
                                  replace q265 := eq_true q265
                                  have p266 : 0 ≤ (1 : Int) := (by omega)
                                  have q266 : 1 < (l0.length : Int) := of_decide_eq_true (by first | (with_reducible assumption) | assumption)
                                  obtain ⟨ad266, e266, hx266_0⟩ := Kd.at_int (Kd.V_reads' HO_0.out).2.2 1 p266 q266
                                  obtain rfl : ad249 = ad266 := (by injection e266)
                                  (try simp only [show (1 : Int).toNat = 1 from rfl, Nat.reduceMul, Nat.reduceEqDiff, Go.Addr.add, ↓reduceIte] at hx266_0)
                                  have qi266 : (1 < l0.length) = True := eq_true (by omega)
                                  (try rw [show ((1 : Int)).toNat = 1 from rfl] at hx266_0)
                                  replace p266 := eq_true p266
                                  replace q266 := eq_true q266
                                  have p267 : 0 ≤ (0 : Int) := (by omega)
                                  have q267 : 0 < (l0.length : Int) := of_decide_eq_true (by first | (with_reducible assumption) | assumption)
                                  obtain ⟨ad267, e267, hx267_0⟩ := Kd.at_int (Kd.V_reads' HO_0.out).2.2 0 p267 q267
                                  obtain rfl : ad249 = ad267 := (by injection e267)
                                  have qi267 : (0 < l0.length) = True := eq_true (by omega)
                                  (try rw [show ((0 : Int)).toNat = 0 from rfl] at hx267_0)
                                  (try rw [Addr.add_zero'] at hx267_0)
                                  replace p267 := eq_true p267
                                  replace q267 := eq_true q267
                                  have p268 : 0 ≤ (1 : Int) := (by omega)
                                  have q268 : 1 < (l0.length : Int) := of_decide_eq_true (by first | (with_reducible assumption) | assumption)
                                  obtain ⟨ad268, e268, hx268_0⟩ := Kd.at_int (Kd.V_reads' HO_0.out).2.2 1 p268 q268
                                  obtain rfl : ad249 = ad268 := (by injection e268)
                                  (try simp only [show (1 : Int).toNat = 1 from rfl, Nat.reduceMul, Nat.reduceEqDiff, Go.Addr.add, ↓reduceIte] at hx268_0)
                                  have qi268 : (1 < l0.length) = True := eq_true (by omega)
                                  (try rw [show ((1 : Int)).toNat = 1 from rfl] at hx268_0)
                                  replace p268 := eq_true p268
                                  replace q268 := eq_true q268
                                  have p269 : 0 ≤ (0 : Int) := (by omega)
                                  have q269 : 0 < (l0.length : Int) := of_decide_eq_true (by first | (with_reducible assumption) | assumption)
                                  obtain ⟨ad269, e269, hx269_0⟩ := Kd.at_int (Kd.V_reads' HO_0.out).2.2 0 p269 q269
                                  obtain rfl : ad249 = ad269 := (by injection e269)
                                  have qi269 : (0 < l0.length) = True := eq_true (by omega)
                                  (try rw [show ((0 : Int)).toNat = 0 from rfl] at hx269_0)
                                  (try rw [Addr.add_zero'] at hx269_0)
                                  replace p269 := eq_true p269
                                  replace q269 := eq_true q269
                                  have p270 : 0 ≤ (1 : Int) := (by omega)
                                  have q270 : 1 < (l0.length : Int) := of_decide_eq_true (by first | (with_reducible assumption) | assumption)
                                  obtain ⟨ad270, e270, hx270_0⟩ := Kd.at_int (Kd.V_reads' HO_0.out).2.2 1 p270 q270
                                  obtain rfl : ad249 = ad270 := (by injection e270)
                                  (try simp only [show (1 : Int).toNat = 1 from rfl, Nat.reduceMul, Nat.reduceEqDiff, Go.Addr.add, ↓reduceIte] at hx270_0)
                                  have qi270 : (1 < l0.length) = True := eq_true (by omega)
                                  (try rw [show ((1 : Int)).toNat = 1 from rfl] at hx270_0)
                                  replace p270 := eq_true p270
                                  replace q270 := eq_true q270
                                  go_wp2
                                  go_ret2
                                  exact ⟨by first | rfl | (simp [errW_none, errW_some] <;> rfl) | (simp [*, errW_none, errW_some] <;> rfl) | (simp [errW_none, errW_some, Go.Proofs.YtkoddcihcoekgaaDoor.G.isEmpty_ne]; done), by repeat (first | (with_reducible first | exact HB.out | apply below_alloc | apply pw_below_drewN | apply below_drew1) | exact HB.out)⟩
                                · rw [if_neg c45] at H
                                  have c45b0 : decide (143 < (rd l0 1)) = false := decide_eq_false c45
                                  clear c45
                                  simp only [Option.some.injEq, Prod.mk.injEq] at H
                                  obtain ⟨rfl, rfl⟩ := H
                                  have p249 : 0 ≤ (0 : Int) := (by omega)
                                  have q249 : 0 < (l0.length : Int) := of_decide_eq_true (by first | (with_reducible assumption) | assumption)
                                  obtain ⟨ad249, e249, hx249_0⟩ := Kd.at_int (Kd.V_reads' HO_0.out).2.2 0 p249 q249
                                  cases e249
                                  have qi249 : (0 < l0.length) = True := eq_true (by omega)
                                  (try rw [show ((0 : Int)).toNat = 0 from rfl] at hx249_0)
                                  (try rw [Addr.add_zero'] at hx249_0)
                                  replace p249 := eq_true p249
                                  replace q249 := eq_true q249
                                  have p265 : 0 ≤ (0 : Int) := (by omega)
                                  have q265 : 0 < (l0.length : Int) := of_decide_eq_true (by first | (with_reducible assumption) | assumption)
                                  obtain ⟨ad265, e265, hx265_0⟩ := Kd.at_int (Kd.V_reads' HO_0.out).2.2 0 p265 q265
                                  obtain rfl : ad249 = ad265 := (by injection e265)
                                  have qi265 : (0 < l0.length) = True := eq_true (by omega)
                                  (try rw [show ((0 : Int)).toNat = 0 from rfl] at hx265_0)
                                  (try rw [Addr.add_zero'] at hx265_0)
                                  replace p265 := eq_true p265
                                  replace q265 := eq_true q265
                                  have p266 : 0 ≤ (1 : Int) := (by omega)
                                  have q266 : 1 < (l0.length : Int) := of_decide_eq_true (by first | (with_reducible assumption) | assumption)
                                  obtain ⟨ad266, e266, hx266_0⟩ := Kd.at_int (Kd.V_reads' HO_0.out).2.2 1 p266 q266
                                  obtain rfl : ad249 = ad266 := (by injection e266)
                                  (try simp only [show (1 : Int).toNat = 1 from rfl, Nat.reduceMul, Nat.reduceEqDiff, Go.Addr.add, ↓reduceIte] at hx266_0)
                                  have qi266 : (1 < l0.length) = True := eq_true (by omega)
                                  (try rw [show ((1 : Int)).toNat = 1 from rfl] at hx266_0)
                                  replace p266 := eq_true p266
                                  replace q266 := eq_true q266
                                  have p267 : 0 ≤ (0 : Int) := (by omega)
                                  have q267 : 0 < (l0.length : Int) := of_decide_eq_true (by first | (with_reducible assumption) | assumption)
                                  obtain ⟨ad267, e267, hx267_0⟩ := Kd.at_int (Kd.V_reads' HO_0.out).2.2 0 p267 q267
                                  obtain rfl : ad249 = ad267 := (by injection e267)
                                  have qi267 : (0 < l0.length) = True := eq_true (by omega)
                                  (try rw [show ((0 : Int)).toNat = 0 from rfl] at hx267_0)
                                  (try rw [Addr.add_zero'] at hx267_0)
                                  replace p267 := eq_true p267
                                  replace q267 := eq_true q267
                                  have p268 : 0 ≤ (1 : Int) := (by omega)
                                  have q268 : 1 < (l0.length : Int) := of_decide_eq_true (by first | (with_reducible assumption) | assumption)
                                  obtain ⟨ad268, e268, hx268_0⟩ := Kd.at_int (Kd.V_reads' HO_0.out).2.2 1 p268 q268
                                  obtain rfl : ad249 = ad268 := (by injection e268)
                                  (try simp only [show (1 : Int).toNat = 1 from rfl, Nat.reduceMul, Nat.reduceEqDiff, Go.Addr.add, ↓reduceIte] at hx268_0)
                                  have qi268 : (1 < l0.length) = True := eq_true (by omega)
                                  (try rw [show ((1 : Int)).toNat = 1 from rfl] at hx268_0)
                                  replace p268 := eq_true p268
                                  replace q268 := eq_true q268
                                  have p269 : 0 ≤ (0 : Int) := (by omega)
                                  have q269 : 0 < (l0.length : Int) := of_decide_eq_true (by first | (with_reducible assumption) | assumption)
                                  obtain ⟨ad269, e269, hx269_0⟩ := Kd.at_int (Kd.V_reads' HO_0.out).2.2 0 p269 q269
                                  obtain rfl : ad249 = ad269 := (by injection e269)
                                  have qi269 : (0 < l0.length) = True := eq_true (by omega)
                                  (try rw [show ((0 : Int)).toNat = 0 from rfl] at hx269_0)
                                  (try rw [Addr.add_zero'] at hx269_0)
                                  replace p269 := eq_true p269
                                  replace q269 := eq_true q269
                                  have p270 : 0 ≤ (1 : Int) := (by omega)
                                  have q270 : 1 < (l0.length : Int) := of_decide_eq_true (by first | (with_reducible assumption) | assumption)
                                  obtain ⟨ad270, e270, hx270_0⟩ := Kd.at_int (Kd.V_reads' HO_0.out).2.2 1 p270 q270
                                  obtain rfl : ad249 = ad270 := (by injection e270)
                                  (try simp only [show (1 : Int).toNat = 1 from rfl, Nat.reduceMul, Nat.reduceEqDiff, Go.Addr.add, ↓reduceIte] at hx270_0)
                                  have qi270 : (1 < l0.length) = True := eq_true (by omega)
                                  (try rw [show ((1 : Int)).toNat = 1 from rfl] at hx270_0)
                                  replace p270 := eq_true p270
                                  replace q270 := eq_true q270
                                  go_wp2
                                  go_ret2
                                  exact ⟨by first | rfl | (simp [errW_none, errW_some] <;> rfl) | (simp [*, errW_none, errW_some] <;> rfl) | (simp [errW_none, errW_some, Go.Proofs.YtkoddcihcoekgaaDoor.G.isEmpty_ne]; done), by repeat (first | (with_reducible first | exact HB.out | apply below_alloc | apply pw_below_drewN | apply below_drew1) | exact HB.out)⟩
                              · rw [if_neg c44] at H
                                have c44b0 : ((rd l0 0) == 244) = false := beq_eq_false_iff_ne.mpr c44
                                have c44b1 : ((rd l0 0) != 244) = true := bne_iff_ne.mpr c44
                                simp only [Option.some.injEq, Prod.mk.injEq] at H
                                obtain ⟨rfl, rfl⟩ := H
                                have p249 : 0 ≤ (0 : Int) := (by omega)
                                have q249 : 0 < (l0.length : Int) := of_decide_eq_true (by first | (with_reducible assumption) | assumption)
                                obtain ⟨ad249, e249, hx249_0⟩ := Kd.at_int (Kd.V_reads' HO_0.out).2.2 0 p249 q249
                                cases e249
                                have qi249 : (0 < l0.length) = True := eq_true (by omega)
                                (try rw [show ((0 : Int)).toNat = 0 from rfl] at hx249_0)
                                (try rw [Addr.add_zero'] at hx249_0)
                                replace p249 := eq_true p249
                                replace q249 := eq_true q249
                                have p265 : 0 ≤ (0 : Int) := (by omega)
                                have q265 : 0 < (l0.length : Int) := of_decide_eq_true (by first | (with_reducible assumption) | assumption)
                                obtain ⟨ad265, e265, hx265_0⟩ := Kd.at_int (Kd.V_reads' HO_0.out).2.2 0 p265 q265
                                obtain rfl : ad249 = ad265 := (by injection e265)
                                have qi265 : (0 < l0.length) = True := eq_true (by omega)
                                (try rw [show ((0 : Int)).toNat = 0 from rfl] at hx265_0)
                                (try rw [Addr.add_zero'] at hx265_0)
                                replace p265 := eq_true p265
                                replace q265 := eq_true q265
                                have p266 : 0 ≤ (1 : Int) := (by omega)
                                have q266 : 1 < (l0.length : Int) := of_decide_eq_true (by first | (with_reducible assumption) | assumption)
                                obtain ⟨ad266, e266, hx266_0⟩ := Kd.at_int (Kd.V_reads' HO_0.out).2.2 1 p266 q266
                                obtain rfl : ad249 = ad266 := (by injection e266)
                                (try simp only [show (1 : Int).toNat = 1 from rfl, Nat.reduceMul, Nat.reduceEqDiff, Go.Addr.add, ↓reduceIte] at hx266_0)
                                have qi266 : (1 < l0.length) = True := eq_true (by omega)
                                (try rw [show ((1 : Int)).toNat = 1 from rfl] at hx266_0)
                                replace p266 := eq_true p266
                                replace q266 := eq_true q266
                                have p267 : 0 ≤ (0 : Int) := (by omega)
                                have q267 : 0 < (l0.length : Int) := of_decide_eq_true (by first | (with_reducible assumption) | assumption)
                                obtain ⟨ad267, e267, hx267_0⟩ := Kd.at_int (Kd.V_reads' HO_0.out).2.2 0 p267 q267
                                obtain rfl : ad249 = ad267 := (by injection e267)
                                have qi267 : (0 < l0.length) = True := eq_true (by omega)
                                (try rw [show ((0 : Int)).toNat = 0 from rfl] at hx267_0)
                                (try rw [Addr.add_zero'] at hx267_0)
                                replace p267 := eq_true p267
                                replace q267 := eq_true q267
                                have p268 : 0 ≤ (1 : Int) := (by omega)
                                have q268 : 1 < (l0.length : Int) := of_decide_eq_true (by first | (with_reducible assumption) | assumption)
                                obtain ⟨ad268, e268, hx268_0⟩ := Kd.at_int (Kd.V_reads' HO_0.out).2.2 1 p268 q268
                                obtain rfl : ad249 = ad268 := (by injection e268)
                                (try simp only [show (1 : Int).toNat = 1 from rfl, Nat.reduceMul, Nat.reduceEqDiff, Go.Addr.add, ↓reduceIte] at hx268_0)
                                have qi268 : (1 < l0.length) = True := eq_true (by omega)
                                (try rw [show ((1 : Int)).toNat = 1 from rfl] at hx268_0)
                                replace p268 := eq_true p268
                                replace q268 := eq_true q268
                                have p269 : 0 ≤ (0 : Int) := (by omega)
                                have q269 : 0 < (l0.length : Int) := of_decide_eq_true (by first | (with_reducible assumption) | assumption)
                                obtain ⟨ad269, e269, hx269_0⟩ := Kd.at_int (Kd.V_reads' HO_0.out).2.2 0 p269 q269
                                obtain rfl : ad249 = ad269 := (by injection e269)
                                have qi269 : (0 < l0.length) = True := eq_true (by omega)
                                (try rw [show ((0 : Int)).toNat = 0 from rfl] at hx269_0)
                                (try rw [Addr.add_zero'] at hx269_0)
                                replace p269 := eq_true p269
                                replace q269 := eq_true q269
                                go_wp2
                                go_ret2
                                exact ⟨by first | rfl | (simp [errW_none, errW_some] <;> rfl) | (simp [*, errW_none, errW_some] <;> rfl) | (simp [errW_none, errW_some, Go.Proofs.YtkoddcihcoekgaaDoor.G.isEmpty_ne]; done), by repeat (first | (with_reducible first | exact HB.out | apply below_alloc | apply pw_below_drewN | apply below_drew1) | exact HB.out)⟩
                          · rw [if_neg c42] at H
                            have c42b0 : ((rd l0 0) == 240) = false := beq_eq_false_iff_ne.mpr c42
                            have c42b1 : ((rd l0 0) != 240) = true := bne_iff_ne.mpr c42
                            by_cases c46 : (rd l0 0) = 244
                            · rw [if_pos c46] at H
                              have c46b0 : ((rd l0 0) == 244) = true := beq_iff_eq.mpr c46
                              have c46b1 : ((rd l0 0) != 244) = false := bne_eq_false_iff_eq.mpr c46
                              clear c46
                              by_cases c47 : (rd l0 1) > 143
                              · rw [if_pos c47] at H
                                have c47b0 : decide (143 < (rd l0 1)) = true := decide_eq_true c47
                                clear c47
                                simp only [Option.some.injEq, Prod.mk.injEq] at H
                                obtain ⟨rfl, rfl⟩ := H
                                have p249 : 0 ≤ (0 : Int) := (by omega)
                                have q249 : 0 < (l0.length : Int) := of_decide_eq_true (by first | (with_reducible assumption) | assumption)
                                obtain ⟨ad249, e249, hx249_0⟩ := Kd.at_int (Kd.V_reads' HO_0.out).2.2 0 p249 q249
                                cases e249
                                have qi249 : (0 < l0.length) = True := eq_true (by omega)
                                (try rw [show ((0 : Int)).toNat = 0 from rfl] at hx249_0)
                                (try rw [Addr.add_zero'] at hx249_0)
                                replace p249 := eq_true p249
                                replace q249 := eq_true q249
                                have p265 : 0 ≤ (0 : Int) := (by omega)
                                have q265 : 0 < (l0.length : Int) := of_decide_eq_true (by first | (with_reducible assumption) | assumption)
                                obtain ⟨ad265, e265, hx265_0⟩ := Kd.at_int (Kd.V_reads' HO_0.out).2.2 0 p265 q265
                                obtain rfl : ad249 = ad265 := (by injection e265)
                                have qi265 : (0 < l0.length) = True := eq_true (by omega)
                                (try rw [show ((0 : Int)).toNat = 0 from rfl] at hx265_0)
                                (try rw [Addr.add_zero'] at hx265_0)
                                replace p265 := eq_true p265
                                replace q265 := eq_true q265
                                have p266 : 0 ≤ (1 : Int) := (by omega)
                                have q266 : 1 < (l0.length : Int) := of_decide_eq_true (by first | (with_reducible assumption) | assumption)
                                obtain ⟨ad266, e266, hx266_0⟩ := Kd.at_int (Kd.V_reads' HO_0.out).2.2 1 p266 q266
                                obtain rfl : ad249 = ad266 := (by injection e266)
                                (try simp only [show (1 : Int).toNat = 1 from rfl, Nat.reduceMul, Nat.reduceEqDiff, Go.Addr.add, ↓reduceIte] at hx266_0)
                                have qi266 : (1 < l0.length) = True := eq_true (by omega)
                                (try rw [show ((1 : Int)).toNat = 1 from rfl] at hx266_0)
                                replace p266 := eq_true p266
                                replace q266 := eq_true q266
                                have p267 : 0 ≤ (0 : Int) := (by omega)
                                have q267 : 0 < (l0.length : Int) := of_decide_eq_true (by first | (with_reducible assumption) | assumption)
                                obtain ⟨ad267, e267, hx267_0⟩ := Kd.at_int (Kd.V_reads' HO_0.out).2.2 0 p267 q267
                                obtain rfl : ad249 = ad267 := (by injection e267)
                                have qi267 : (0 < l0.length) = True := eq_true (by omega)
                                (try rw [show ((0 : Int)).toNat = 0 from rfl] at hx267_0)
                                (try rw [Addr.add_zero'] at hx267_0)
                                replace p267 := eq_true p267
                                replace q267 := eq_true q267
                                have p271 : 0 ≤ (0 : Int) := (by omega)
                                have q271 : 0 < (l0.length : Int) := of_decide_eq_true (by first | (with_reducible assumption) | assumption)
                                obtain ⟨ad271, e271, hx271_0⟩ := Kd.at_int (Kd.V_reads' HO_0.out).2.2 0 p271 q271
                                obtain rfl : ad249 = ad271 := (by injection e271)
                                have qi271 : (0 < l0.length) = True := eq_true (by omega)
                                (try rw [show ((0 : Int)).toNat = 0 from rfl] at hx271_0)
                                (try rw [Addr.add_zero'] at hx271_0)
                                replace p271 := eq_true p271
                                replace q271 := eq_true q271
                                have p272 : 0 ≤ (1 : Int) := (by omega)
                                have q272 : 1 < (l0.length : Int) := of_decide_eq_true (by first | (with_reducible assumption) | assumption)
                                obtain ⟨ad272, e272, hx272_0⟩ := Kd.at_int (Kd.V_reads' HO_0.out).2.2 1 p272 q272
                                obtain rfl : ad249 = ad272 := (by injection e272)
                                (try simp only [show (1 : Int).toNat = 1 from rfl, Nat.reduceMul, Nat.reduceEqDiff, Go.Addr.add, ↓reduceIte] at hx272_0)
                                have qi272 : (1 < l0.length) = True := eq_true (by omega)
                                (try rw [show ((1 : Int)).toNat = 1 from rfl] at hx272_0)
                                replace p272 := eq_true p272
                                replace q272 := eq_true q272
                                go_wp2
                                go_ret2
                                exact ⟨by first | rfl | (simp [errW_none, errW_some] <;> rfl) | (simp [*, errW_none, errW_some] <;> rfl) | (simp [errW_none, errW_some, Go.Proofs.YtkoddcihcoekgaaDoor.G.isEmpty_ne]; done), by repeat (first | (with_reducible first | exact HB.out | apply below_alloc | apply pw_below_drewN | apply below_drew1) | exact HB.out)⟩
                              · rw [if_neg c47] at H
                                have c47b0 : decide (143 < (rd l0 1)) = false := decide_eq_false c47
                                clear c47
                                simp only [Option.some.injEq, Prod.mk.injEq] at H
                                obtain ⟨rfl, rfl⟩ := H
                                have p249 : 0 ≤ (0 : Int) := (by omega)
                                have q249 : 0 < (l0.length : Int) := of_decide_eq_true (by first | (with_reducible assumption) | assumption)
                                obtain ⟨ad249, e249, hx249_0⟩ := Kd.at_int (Kd.V_reads' HO_0.out).2.2 0 p249 q249
                                cases e249
                                have qi249 : (0 < l0.length) = True := eq_true (by omega)
                                (try rw [show ((0 : Int)).toNat = 0 from rfl] at hx249_0)
                                (try rw [Addr.add_zero'] at hx249_0)
                                replace p249 := eq_true p249
                                replace q249 := eq_true q249
                                have p265 : 0 ≤ (0 : Int) := (by omega)
                                have q265 : 0 < (l0.length : Int) := of_decide_eq_true (by first | (with_reducible assumption) | assumption)
                                obtain ⟨ad265, e265, hx265_0⟩ := Kd.at_int (Kd.V_reads' HO_0.out).2.2 0 p265 q265
                                obtain rfl : ad249 = ad265 := (by injection e265)
                                have qi265 : (0 < l0.length) = True := eq_true (by omega)
                                (try rw [show ((0 : Int)).toNat = 0 from rfl] at hx265_0)
                                (try rw [Addr.add_zero'] at hx265_0)
                                replace p265 := eq_true p265
                                replace q265 := eq_true q265
                                have p266 : 0 ≤ (1 : Int) := (by omega)
                                have q266 : 1 < (l0.length : Int) := of_decide_eq_true (by first | (with_reducible assumption) | assumption)
                                obtain ⟨ad266, e266, hx266_0⟩ := Kd.at_int (Kd.V_reads' HO_0.out).2.2 1 p266 q266
                                obtain rfl : ad249 = ad266 := (by injection e266)
                                (try simp only [show (1 : Int).toNat = 1 from rfl, Nat.reduceMul, Nat.reduceEqDiff, Go.Addr.add, ↓reduceIte] at hx266_0)
                                have qi266 : (1 < l0.length) = True := eq_true (by omega)
                                (try rw [show ((1 : Int)).toNat = 1 from rfl] at hx266_0)
                                replace p266 := eq_true p266
                                replace q266 := eq_true q266
                                have p267 : 0 ≤ (0 : Int) := (by omega)
                                have q267 : 0 < (l0.length : Int) := of_decide_eq_true (by first | (with_reducible assumption) | assumption)
                                obtain ⟨ad267, e267, hx267_0⟩ := Kd.at_int (Kd.V_reads' HO_0.out).2.2 0 p267 q267
                                obtain rfl : ad249 = ad267 := (by injection e267)
                                have qi267 : (0 < l0.length) = True := eq_true (by omega)
                                (try rw [show ((0 : Int)).toNat = 0 from rfl] at hx267_0)
                                (try rw [Addr.add_zero'] at hx267_0)
                                replace p267 := eq_true p267
                                replace q267 := eq_true q267
                                have p271 : 0 ≤ (0 : Int) := (by omega)
                                have q271 : 0 < (l0.length : Int) := of_decide_eq_true (by first | (with_reducible assumption) | assumption)
                                obtain ⟨ad271, e271, hx271_0⟩ := Kd.at_int (Kd.V_reads' HO_0.out).2.2 0 p271 q271
                                obtain rfl : ad249 = ad271 := (by injection e271)
                                have qi271 : (0 < l0.length) = True := eq_true (by omega)
                                (try rw [show ((0 : Int)).toNat = 0 from rfl] at hx271_0)
                                (try rw [Addr.add_zero'] at hx271_0)
                                replace p271 := eq_true p271
                                replace q271 := eq_true q271
                                have p272 : 0 ≤ (1 : Int) := (by omega)
                                have q272 : 1 < (l0.length : Int) := of_decide_eq_true (by first | (with_reducible assumption) | assumption)
                                obtain ⟨ad272, e272, hx272_0⟩ := Kd.at_int (Kd.V_reads' HO_0.out).2.2 1 p272 q272
                                obtain rfl : ad249 = ad272 := (by injection e272)
                                (try simp only [show (1 : Int).toNat = 1 from rfl, Nat.reduceMul, Nat.reduceEqDiff, Go.Addr.add, ↓reduceIte] at hx272_0)
                                have qi272 : (1 < l0.length) = True := eq_true (by omega)
                                (try rw [show ((1 : Int)).toNat = 1 from rfl] at hx272_0)
                                replace p272 := eq_true p272
                                replace q272 := eq_true q272
                                go_wp2
                                go_ret2
                                exact ⟨by first | rfl | (simp [errW_none, errW_some] <;> rfl) | (simp [*, errW_none, errW_some] <;> rfl) | (simp [errW_none, errW_some, Go.Proofs.YtkoddcihcoekgaaDoor.G.isEmpty_ne]; done), by repeat (first | (with_reducible first | exact HB.out | apply below_alloc | apply pw_below_drewN | apply below_drew1) | exact HB.out)⟩
                            · rw [if_neg c46] at H
                              have c46b0 : ((rd l0 0) == 244) = false := beq_eq_false_iff_ne.mpr c46
                              have c46b1 : ((rd l0 0) != 244) = true := bne_iff_ne.mpr c46
                              simp only [Option.some.injEq, Prod.mk.injEq] at H
                              obtain ⟨rfl, rfl⟩ := H
                              have p249 : 0 ≤ (0 : Int) := (by omega)
                              have q249 : 0 < (l0.length : Int) := of_decide_eq_true (by first | (with_reducible assumption) | assumption)
                              obtain ⟨ad249, e249, hx249_0⟩ := Kd.at_int (Kd.V_reads' HO_0.out).2.2 0 p249 q249
                              cases e249
                              have qi249 : (0 < l0.length) = True := eq_true (by omega)
                              (try rw [show ((0 : Int)).toNat = 0 from rfl] at hx249_0)
                              (try rw [Addr.add_zero'] at hx249_0)
                              replace p249 := eq_true p249
                              replace q249 := eq_true q249
                              have p265 : 0 ≤ (0 : Int) := (by omega)
                              have q265 : 0 < (l0.length : Int) := of_decide_eq_true (by first | (with_reducible assumption) | assumption)
                              obtain ⟨ad265, e265, hx265_0⟩ := Kd.at_int (Kd.V_reads' HO_0.out).2.2 0 p265 q265
                              obtain rfl : ad249 = ad265 := (by injection e265)
                              have qi265 : (0 < l0.length) = True := eq_true (by omega)
                              (try rw [show ((0 : Int)).toNat = 0 from rfl] at hx265_0)
                              (try rw [Addr.add_zero'] at hx265_0)
                              replace p265 := eq_true p265
                              replace q265 := eq_true q265
                              have p266 : 0 ≤ (1 : Int) := (by omega)
                              have q266 : 1 < (l0.length : Int) := of_decide_eq_true (by first | (with_reducible assumption) | assumption)
                              obtain ⟨ad266, e266, hx266_0⟩ := Kd.at_int (Kd.V_reads' HO_0.out).2.2 1 p266 q266
                              obtain rfl : ad249 = ad266 := (by injection e266)
                              (try simp only [show (1 : Int).toNat = 1 from rfl, Nat.reduceMul, Nat.reduceEqDiff, Go.Addr.add, ↓reduceIte] at hx266_0)
                              have qi266 : (1 < l0.length) = True := eq_true (by omega)
                              (try rw [show ((1 : Int)).toNat = 1 from rfl] at hx266_0)
                              replace p266 := eq_true p266
                              replace q266 := eq_true q266
                              have p267 : 0 ≤ (0 : Int) := (by omega)
                              have q267 : 0 < (l0.length : Int) := of_decide_eq_true (by first | (with_reducible assumption) | assumption)
                              obtain ⟨ad267, e267, hx267_0⟩ := Kd.at_int (Kd.V_reads' HO_0.out).2.2 0 p267 q267
                              obtain rfl : ad249 = ad267 := (by injection e267)
                              have qi267 : (0 < l0.length) = True := eq_true (by omega)
                              (try rw [show ((0 : Int)).toNat = 0 from rfl] at hx267_0)
                              (try rw [Addr.add_zero'] at hx267_0)
                              replace p267 := eq_true p267
                              replace q267 := eq_true q267
                              have p271 : 0 ≤ (0 : Int) := (by omega)
                              have q271 : 0 < (l0.length : Int) := of_decide_eq_true (by first | (with_reducible assumption) | assumption)
                              obtain ⟨ad271, e271, hx271_0⟩ := Kd.at_int (Kd.V_reads' HO_0.out).2.2 0 p271 q271
                              obtain rfl : ad249 = ad271 := (by injection e271)
                              have qi271 : (0 < l0.length) = True := eq_true (by omega)
                              (try rw [show ((0 : Int)).toNat = 0 from rfl] at hx271_0)
                              (try rw [Addr.add_zero'] at hx271_0)
                              replace p271 := eq_true p271
                              replace q271 := eq_true q271
                              go_wp2
                              go_ret2
                              exact ⟨by first | rfl | (simp [errW_none, errW_some] <;> rfl) | (simp [*, errW_none, errW_some] <;> rfl) | (simp [errW_none, errW_some, Go.Proofs.YtkoddcihcoekgaaDoor.G.isEmpty_ne]; done), by repeat (first | (with_reducible first | exact HB.out | apply below_alloc | apply pw_below_drewN | apply below_drew1) | exact HB.out)⟩
                      · rw [if_neg c40] at H
                        exact absurd H (by simp)
                    · rw [if_neg c39] at H
                      have c39b0 : ((rd l0 0) == 237) = false := beq_eq_false_iff_ne.mpr c39
                      have c39b1 : ((rd l0 0) != 237) = true := bne_iff_ne.mpr c39
                      by_cases c48 : (rd l0 0) = 240
                      · rw [if_pos c48] at H
                        have c48b0 : ((rd l0 0) == 240) = true := beq_iff_eq.mpr c48
                        have c48b1 : ((rd l0 0) != 240) = false := bne_eq_false_iff_eq.mpr c48
                        clear c48
                        by_cases c49 : 1 < (l0.length : Int)
                        · rw [if_pos c49] at H
                          have c49b0 : decide (1 < (l0.length : Int)) = true := decide_eq_true c49
                          have c49b1 : decide (1 < l0.length) = true := decide_eq_true (by omega)
                          clear c49
                          by_cases c50 : (rd l0 1) < 144
                          · rw [if_pos c50] at H
                            have c50b0 : decide ((rd l0 1) < 144) = true := decide_eq_true c50
                            clear c50
                            simp only [Option.some.injEq, Prod.mk.injEq] at H
                            obtain ⟨rfl, rfl⟩ := H
                            have p249 : 0 ≤ (0 : Int) := (by omega)
                            have q249 : 0 < (l0.length : Int) := of_decide_eq_true (by first | (with_reducible assumption) | assumption)
                            obtain ⟨ad249, e249, hx249_0⟩ := Kd.at_int (Kd.V_reads' HO_0.out).2.2 0 p249 q249
                            cases e249
                            have qi249 : (0 < l0.length) = True := eq_true (by omega)
                            (try rw [show ((0 : Int)).toNat = 0 from rfl] at hx249_0)
                            (try rw [Addr.add_zero'] at hx249_0)
                            replace p249 := eq_true p249
                            replace q249 := eq_true q249
                            have p265 : 0 ≤ (0 : Int) := (by omega)
                            have q265 : 0 < (l0.length : Int) := of_decide_eq_true (by first | (with_reducible assumption) | assumption)
                            obtain ⟨ad265, e265, hx265_0⟩ := Kd.at_int (Kd.V_reads' HO_0.out).2.2 0 p265 q265
                            obtain rfl : ad249 = ad265 := (by injection e265)
                            have qi265 : (0 < l0.length) = True := eq_true (by omega)
                            (try rw [show ((0 : Int)).toNat = 0 from rfl] at hx265_0)
                            (try rw [Addr.add_zero'] at hx265_0)
                            replace p265 := eq_true p265
                            replace q265 := eq_true q265
                            have p273 : 0 ≤ (0 : Int) := (by omega)
                            have q273 : 0 < (l0.length : Int) := of_decide_eq_true (by first | (with_reducible assumption) | assumption)
                            obtain ⟨ad273, e273, hx273_0⟩ := Kd.at_int (Kd.V_reads' HO_0.out).2.2 0 p273 q273
                            obtain rfl : ad249 = ad273 := (by injection e273)
                            have qi273 : (0 < l0.length) = True := eq_true (by omega)
                            (try rw [show ((0 : Int)).toNat = 0 from rfl] at hx273_0)
                            (try rw [Addr.add_zero'] at hx273_0)
                            replace p273 := eq_true p273
                            replace q273 := eq_true q273
                            have p274 : 0 ≤ (1 : Int) := (by omega)
                            have q274 : 1 < (l0.length : Int) := of_decide_eq_true (by first | (with_reducible assumption) | assumption)
                            obtain ⟨ad274, e274, hx274_0⟩ := Kd.at_int (Kd.V_reads' HO_0.out).2.2 1 p274 q274
                            obtain rfl : ad249 = ad274 := (by injection e274)
                            (try simp only [show (1 : Int).toNat = 1 from rfl, Nat.reduceMul, Nat.reduceEqDiff, Go.Addr.add, ↓reduceIte] at hx274_0)
                            have qi274 : (1 < l0.length) = True := eq_true (by omega)
                            (try rw [show ((1 : Int)).toNat = 1 from rfl] at hx274_0)
                            replace p274 := eq_true p274
                            replace q274 := eq_true q274
                            go_wp2
                            go_ret2
                            exact ⟨by first | rfl | (simp [errW_none, errW_some] <;> rfl) | (simp [*, errW_none, errW_some] <;> rfl) | (simp [errW_none, errW_some, Go.Proofs.YtkoddcihcoekgaaDoor.G.isEmpty_ne]; done), by repeat (first | (with_reducible first | exact HB.out | apply below_alloc | apply pw_below_drewN | apply below_drew1) | exact HB.out)⟩
                          · rw [if_neg c50] at H
                            have c50b0 : decide ((rd l0 1) < 144) = false := decide_eq_false c50
                            clear c50
                            by_cases c51 : (rd l0 0) = 244
                            · rw [if_pos c51] at H
                              have c51b0 : ((rd l0 0) == 244) = true := beq_iff_eq.mpr c51
                              have c51b1 : ((rd l0 0) != 244) = false := bne_eq_false_iff_eq.mpr c51
                              clear c51
                              by_cases c52 : (rd l0 1) > 143
                              · rw [if_pos c52] at H
                                have c52b0 : decide (143 < (rd l0 1)) = true := decide_eq_true c52
                                clear c52
                                simp only [Option.some.injEq, Prod.mk.injEq] at H
                                obtain ⟨rfl, rfl⟩ := H
                                have p249 : 0 ≤ (0 : Int) := (by omega)
                                have q249 : 0 < (l0.length : Int) := of_decide_eq_true (by first | (with_reducible assumption) | assumption)
                                obtain ⟨ad249, e249, hx249_0⟩ := Kd.at_int (Kd.V_reads' HO_0.out).2.2 0 p249 q249
                                cases e249
                                have qi249 : (0 < l0.length) = True := eq_true (by omega)
                                (try rw [show ((0 : Int)).toNat = 0 from rfl] at hx249_0)
                                (try rw [Addr.add_zero'] at hx249_0)
                                replace p249 := eq_true p249
                                replace q249 := eq_true q249
                                have p265 : 0 ≤ (0 : Int) := (by omega)
                                have q265 : 0 < (l0.length : Int) := of_decide_eq_true (by first | (with_reducible assumption) | assumption)
                                obtain ⟨ad265, e265, hx265_0⟩ := Kd.at_int (Kd.V_reads' HO_0.out).2.2 0 p265 q265
                                obtain rfl : ad249 = ad265 := (by injection e265)
                                have qi265 : (0 < l0.length) = True := eq_true (by omega)
                                (try rw [show ((0 : Int)).toNat = 0 from rfl] at hx265_0)
                                (try rw [Addr.add_zero'] at hx265_0)
                                replace p265 := eq_true p265
                                replace q265 := eq_true q265
                                have p273 : 0 ≤ (0 : Int) := (by omega)
                                have q273 : 0 < (l0.length : Int) := of_decide_eq_true (by first | (with_reducible assumption) | assumption)
                                obtain ⟨ad273, e273, hx273_0⟩ := Kd.at_int (Kd.V_reads' HO_0.out).2.2 0 p273 q273
                                obtain rfl : ad249 = ad273 := (by injection e273)
                                have qi273 : (0 < l0.length) = True := eq_true (by omega)
                                (try rw [show ((0 : Int)).toNat = 0 from rfl] at hx273_0)
                                (try rw [Addr.add_zero'] at hx273_0)
                                replace p273 := eq_true p273
                                replace q273 := eq_true q273
                                have p274 : 0 ≤ (1 : Int) := (by omega)
                                have q274 : 1 < (l0.length : Int) := of_decide_eq_true (by first | (with_reducible assumption) | assumption)
                                obtain ⟨ad274, e274, hx274_0⟩ := Kd.at_int (Kd.V_reads' HO_0.out).2.2 1 p274 q274
                                obtain rfl : ad249 = ad274 := (by injection e274)
                                (try simp only [show (1 : Int).toNat = 1 from rfl, Nat.reduceMul, Nat.reduceEqDiff, Go.Addr.add, ↓reduceIte] at hx274_0)
                                have qi274 : (1 < l0.length) = True := eq_true (by omega)
                                (try rw [show ((1 : Int)).toNat = 1 from rfl] at hx274_0)
                                replace p274 := eq_true p274
                                replace q274 := eq_true q274
                                have p275 : 0 ≤ (0 : Int) := (by omega)
                                have q275 : 0 < (l0.length : Int) := of_decide_eq_true (by first | (with_reducible assumption) | assumption)
                                obtain ⟨ad275, e275, hx275_0⟩ := Kd.at_int (Kd.V_reads' HO_0.out).2.2 0 p275 q275
                                obtain rfl : ad249 = ad275 := (by injection e275)
                                have qi275 : (0 < l0.length) = True := eq_true (by omega)
                                (try rw [show ((0 : Int)).toNat = 0 from rfl] at hx275_0)
                                (try rw [Addr.add_zero'] at hx275_0)
                                replace p275 := eq_true p275
                                replace q275 := eq_true q275
                                have p276 : 0 ≤ (1 : Int) := (by omega)
                                have q276 : 1 < (l0.length : Int) := of_decide_eq_true (by first | (with_reducible assumption) | assumption)
                                obtain ⟨ad276, e276, hx276_0⟩ := Kd.at_int (Kd.V_reads' HO_0.out).2.2 1 p276 q276
                                obtain rfl : ad249 = ad276 := (by injection e276)
                                (try simp only [show (1 : Int).toNat = 1 from rfl, Nat.reduceMul, Nat.reduceEqDiff, Go.Addr.add, ↓reduceIte] at hx276_0)
                                have qi276 : (1 < l0.length) = True := eq_true (by omega)
                                (try rw [show ((1 : Int)).toNat = 1 from rfl] at hx276_0)
                                replace p276 := eq_true p276
                                replace q276 := eq_true q276
                                go_wp2
                                go_ret2
                                exact ⟨by first | rfl | (simp [errW_none, errW_some] <;> rfl) | (simp [*, errW_none, errW_some] <;> rfl) | (simp [errW_none, errW_some, Go.Proofs.YtkoddcihcoekgaaDoor.G.isEmpty_ne]; done), by repeat (first | (with_reducible first | exact HB.out | apply below_alloc | apply pw_below_drewN | apply below_drew1) | exact HB.out)⟩
                              · rw [if_neg c52] at H
                                have c52b0 : decide (143 < (rd l0 1)) = false := decide_eq_false c52
                                clear c52
                                simp only [Option.some.injEq, Prod.mk.injEq] at H
                                obtain ⟨rfl, rfl⟩ := H
                                have p249 : 0 ≤ (0 : Int) := (by omega)
                                have q249 : 0 < (l0.length : Int) := of_decide_eq_true (by first | (with_reducible assumption) | assumption)
                                obtain ⟨ad249, e249, hx249_0⟩ := Kd.at_int (Kd.V_reads' HO_0.out).2.2 0 p249 q249
                                cases e249
                                have qi249 : (0 < l0.length) = True := eq_true (by omega)
                                (try rw [show ((0 : Int)).toNat = 0 from rfl] at hx249_0)
                                (try rw [Addr.add_zero'] at hx249_0)
                                replace p249 := eq_true p249
                                replace q249 := eq_true q249
                                have p265 : 0 ≤ (0 : Int) := (by omega)
                                have q265 : 0 < (l0.length : Int) := of_decide_eq_true (by first | (with_reducible assumption) | assumption)
                                obtain ⟨ad265, e265, hx265_0⟩ := Kd.at_int (Kd.V_reads' HO_0.out).2.2 0 p265 q265
                                obtain rfl : ad249 = ad265 := (by injection e265)
                                have qi265 : (0 < l0.length) = True := eq_true (by omega)
                                (try rw [show ((0 : Int)).toNat = 0 from rfl] at hx265_0)
                                (try rw [Addr.add_zero'] at hx265_0)
                                replace p265 := eq_true p265
                                replace q265 := eq_true q265
                                have p273 : 0 ≤ (0 : Int) := (by omega)
                                have q273 : 0 < (l0.length : Int) := of_decide_eq_true (by first | (with_reducible assumption) | assumption)
                                obtain ⟨ad273, e273, hx273_0⟩ := Kd.at_int (Kd.V_reads' HO_0.out).2.2 0 p273 q273
                                obtain rfl : ad249 = ad273 := (by injection e273)
                                have qi273 : (0 < l0.length) = True := eq_true (by omega)
                                (try rw [show ((0 : Int)).toNat = 0 from rfl] at hx273_0)
                                (try rw [Addr.add_zero'] at hx273_0)
                                replace p273 := eq_true p273
                                replace q273 := eq_true q273
                                have p274 : 0 ≤ (1 : Int) := (by omega)
                                have q274 : 1 < (l0.length : Int) := of_decide_eq_true (by first | (with_reducible assumption) | assumption)
                                obtain ⟨ad274, e274, hx274_0⟩ := Kd.at_int (Kd.V_reads' HO_0.out).2.2 1 p274 q274
                                obtain rfl : ad249 = ad274 := (by injection e274)
                                (try simp only [show (1 : Int).toNat = 1 from rfl, Nat.reduceMul, Nat.reduceEqDiff, Go.Addr.add, ↓reduceIte] at hx274_0)
                                have qi274 : (1 < l0.length) = True := eq_true (by omega)
                                (try rw [show ((1 : Int)).toNat = 1 from rfl] at hx274_0)
                                replace p274 := eq_true p274
                                replace q274 := eq_true q274
                                have p275 : 0 ≤ (0 : Int) := (by omega)
                                have q275 : 0 < (l0.length : Int) := of_decide_eq_true (by first | (with_reducible assumption) | assumption)
                                obtain ⟨ad275, e275, hx275_0⟩ := Kd.at_int (Kd.V_reads' HO_0.out).2.2 0 p275 q275
                                obtain rfl : ad249 = ad275 := (by injection e275)
                                have qi275 : (0 < l0.length) = True := eq_true (by omega)
                                (try rw [show ((0 : Int)).toNat = 0 from rfl] at hx275_0)
                                (try rw [Addr.add_zero'] at hx275_0)
                                replace p275 := eq_true p275
                                replace q275 := eq_true q275
                                have p276 : 0 ≤ (1 : Int) := (by omega)
                                have q276 : 1 < (l0.length : Int) := of_decide_eq_true (by first | (with_reducible assumption) | assumption)
                                obtain ⟨ad276, e276, hx276_0⟩ := Kd.at_int (Kd.V_reads' HO_0.out).2.2 1 p276 q276
                                obtain rfl : ad249 = ad276 := (by injection e276)
                                (try simp only [show (1 : Int).toNat = 1 from rfl, Nat.reduceMul, Nat.reduceEqDiff, Go.Addr.add, ↓reduceIte] at hx276_0)
                                have qi276 : (1 < l0.length) = True := eq_true (by omega)
                                (try rw [show ((1 : Int)).toNat = 1 from rfl] at hx276_0)
                                replace p276 := eq_true p276
                                replace q276 := eq_true q276
                                go_wp2
                                go_ret2
                                exact ⟨by first | rfl | (simp [errW_none, errW_some] <;> rfl) | (simp [*, errW_none, errW_some] <;> rfl) | (simp [errW_none, errW_some, Go.Proofs.YtkoddcihcoekgaaDoor.G.isEmpty_ne]; done), by repeat (first | (with_reducible first | exact HB.out | apply below_alloc | apply pw_below_drewN | apply below_drew1) | exact HB.out)⟩
                            · rw [if_neg c51] at H
                              have c51b0 : ((rd l0 0) == 244) = false := beq_eq_false_iff_ne.mpr c51
                              have c51b1 : ((rd l0 0) != 244) = true := bne_iff_ne.mpr c51
                              simp only [Option.some.injEq, Prod.mk.injEq] at H
                              obtain ⟨rfl, rfl⟩ := H
                              have p249 : 0 ≤ (0 : Int) := (by omega)
                              have q249 : 0 < (l0.length : Int) := of_decide_eq_true (by first | (with_reducible assumption) | assumption)
                              obtain ⟨ad249, e249, hx249_0⟩ := Kd.at_int (Kd.V_reads' HO_0.out).2.2 0 p249 q249
                              cases e249
                              have qi249 : (0 < l0.length) = True := eq_true (by omega)
                              (try rw [show ((0 : Int)).toNat = 0 from rfl] at hx249_0)
                              (try rw [Addr.add_zero'] at hx249_0)
                              replace p249 := eq_true p249
                              replace q249 := eq_true q249
                              have p265 : 0 ≤ (0 : Int) := (by omega)
                              have q265 : 0 < (l0.length : Int) := of_decide_eq_true (by first | (with_reducible assumption) | assumption)
                              obtain ⟨ad265, e265, hx265_0⟩ := Kd.at_int (Kd.V_reads' HO_0.out).2.2 0 p265 q265
                              obtain rfl : ad249 = ad265 := (by injection e265)
                              have qi265 : (0 < l0.length) = True := eq_true (by omega)
                              (try rw [show ((0 : Int)).toNat = 0 from rfl] at hx265_0)
                              (try rw [Addr.add_zero'] at hx265_0)
                              replace p265 := eq_true p265
                              replace q265 := eq_true q265
                              have p273 : 0 ≤ (0 : Int) := (by omega)
                              have q273 : 0 < (l0.length : Int) := of_decide_eq_true (by first | (with_reducible assumption) | assumption)
                              obtain ⟨ad273, e273, hx273_0⟩ := Kd.at_int (Kd.V_reads' HO_0.out).2.2 0 p273 q273
                              obtain rfl : ad249 = ad273 := (by injection e273)
                              have qi273 : (0 < l0.length) = True := eq_true (by omega)
                              (try rw [show ((0 : Int)).toNat = 0 from rfl] at hx273_0)
                              (try rw [Addr.add_zero'] at hx273_0)
                              replace p273 := eq_true p273
                              replace q273 := eq_true q273
                              have p274 : 0 ≤ (1 : Int) := (by omega)
                              have q274 : 1 < (l0.length : Int) := of_decide_eq_true (by first | (with_reducible assumption) | assumption)
                              obtain ⟨ad274, e274, hx274_0⟩ := Kd.at_int (Kd.V_reads' HO_0.out).2.2 1 p274 q274
                              obtain rfl : ad249 = ad274 := (by injection e274)
                              (try simp only [show (1 : Int).toNat = 1 from rfl, Nat.reduceMul, Nat.reduceEqDiff, Go.Addr.add, ↓reduceIte] at hx274_0)
                              have qi274 : (1 < l0.length) = True := eq_true (by omega)
                              (try rw [show ((1 : Int)).toNat = 1 from rfl] at hx274_0)
                              replace p274 := eq_true p274
                              replace q274 := eq_true q274
                              have p275 : 0 ≤ (0 : Int) := (by omega)
                              have q275 : 0 < (l0.length : Int) := of_decide_eq_true (by first | (with_reducible assumption) | assumption)
                              obtain ⟨ad275, e275, hx275_0⟩ := Kd.at_int (Kd.V_reads' HO_0.out).2.2 0 p275 q275
                              obtain rfl : ad249 = ad275 := (by injection e275)
                              have qi275 : (0 < l0.length) = True := eq_true (by omega)
                              (try rw [show ((0 : Int)).toNat = 0 from rfl] at hx275_0)
                              (try rw [Addr.add_zero'] at hx275_0)
                              replace p275 := eq_true p275
                              replace q275 := eq_true q275
                              go_wp2
                              go_ret2
                              exact ⟨by first | rfl | (simp [errW_none, errW_some] <;> rfl) | (simp [*, errW_none, errW_some] <;> rfl) | (simp [errW_none, errW_some, Go.Proofs.YtkoddcihcoekgaaDoor.G.isEmpty_ne]; done), by repeat (first | (with_reducible first | exact HB.out | apply below_alloc | apply pw_below_drewN | apply below_drew1) | exact HB.out)⟩
                        · rw [if_neg c49] at H
                          exact absurd H (by simp)
                      · rw [if_neg c48] at H
                        have c48b0 : ((rd l0 0) == 240) = false := beq_eq_false_iff_ne.mpr c48
                        have c48b1 : ((rd l0 0) != 240) = true := bne_iff_ne.mpr c48
                        by_cases c53 : (rd l0 0) = 244
                        · rw [if_pos c53] at H
                          have c53b0 : ((rd l0 0) == 244) = true := beq_iff_eq.mpr c53
                          have c53b1 : ((rd l0 0) != 244) = false := bne_eq_false_iff_eq.mpr c53
                          clear c53
                          by_cases c54 : 1 < (l0.length : Int)
                          · rw [if_pos c54] at H
                            have c54b0 : decide (1 < (l0.length : Int)) = true := decide_eq_true c54
                            have c54b1 : decide (1 < l0.length) = true := decide_eq_true (by omega)
                            clear c54
                            by_cases c55 : (rd l0 1) > 143
                            · rw [if_pos c55] at H
                              have c55b0 : decide (143 < (rd l0 1)) = true := decide_eq_true c55
                              clear c55
                              simp only [Option.some.injEq, Prod.mk.injEq] at H
                              obtain ⟨rfl, rfl⟩ := H
                              have p249 : 0 ≤ (0 : Int) := (by omega)
                              have q249 : 0 < (l0.length : Int) := of_decide_eq_true (by first | (with_reducible assumption) | assumption)
                              obtain ⟨ad249, e249, hx249_0⟩ := Kd.at_int (Kd.V_reads' HO_0.out).2.2 0 p249 q249
                              cases e249
                              have qi249 : (0 < l0.length) = True := eq_true (by omega)
                              (try rw [show ((0 : Int)).toNat = 0 from rfl] at hx249_0)
                              (try rw [Addr.add_zero'] at hx249_0)
                              replace p249 := eq_true p249
                              replace q249 := eq_true q249
                              have p265 : 0 ≤ (0 : Int) := (by omega)
                              have q265 : 0 < (l0.length : Int) := of_decide_eq_true (by first | (with_reducible assumption) | assumption)
                              obtain ⟨ad265, e265, hx265_0⟩ := Kd.at_int (Kd.V_reads' HO_0.out).2.2 0 p265 q265
                              obtain rfl : ad249 = ad265 := (by injection e265)
                              have qi265 : (0 < l0.length) = True := eq_true (by omega)
                              (try rw [show ((0 : Int)).toNat = 0 from rfl] at hx265_0)
                              (try rw [Addr.add_zero'] at hx265_0)
                              replace p265 := eq_true p265
                              replace q265 := eq_true q265
                              have p273 : 0 ≤ (0 : Int) := (by omega)
                              have q273 : 0 < (l0.length : Int) := of_decide_eq_true (by first | (with_reducible assumption) | assumption)
                              obtain ⟨ad273, e273, hx273_0⟩ := Kd.at_int (Kd.V_reads' HO_0.out).2.2 0 p273 q273
                              obtain rfl : ad249 = ad273 := (by injection e273)
                              have qi273 : (0 < l0.length) = True := eq_true (by omega)
                              (try rw [show ((0 : Int)).toNat = 0 from rfl] at hx273_0)
                              (try rw [Addr.add_zero'] at hx273_0)
                              replace p273 := eq_true p273
                              replace q273 := eq_true q273
                              have p277 : 0 ≤ (0 : Int) := (by omega)
                              have q277 : 0 < (l0.length : Int) := of_decide_eq_true (by first | (with_reducible assumption) | assumption)
                              obtain ⟨ad277, e277, hx277_0⟩ := Kd.at_int (Kd.V_reads' HO_0.out).2.2 0 p277 q277
                              obtain rfl : ad249 = ad277 := (by injection e277)
                              have qi277 : (0 < l0.length) = True := eq_true (by omega)
                              (try rw [show ((0 : Int)).toNat = 0 from rfl] at hx277_0)
                              (try rw [Addr.add_zero'] at hx277_0)
                              replace p277 := eq_true p277
                              replace q277 := eq_true q277
                              have p278 : 0 ≤ (1 : Int) := (by omega)
                              have q278 : 1 < (l0.length : Int) := of_decide_eq_true (by first | (with_reducible assumption) | assumption)
                              obtain ⟨ad278, e278, hx278_0⟩ := Kd.at_int (Kd.V_reads' HO_0.out).2.2 1 p278 q278
                              obtain rfl : ad249 = ad278 := (by injection e278)
                              (try simp only [show (1 : Int).toNat = 1 from rfl, Nat.reduceMul, Nat.reduceEqDiff, Go.Addr.add, ↓reduceIte] at hx278_0)
                              have qi278 : (1 < l0.length) = True := eq_true (by omega)
                              (try rw [show ((1 : Int)).toNat = 1 from rfl] at hx278_0)
                              replace p278 := eq_true p278
                              replace q278 := eq_true q278
                              go_wp2
                              go_ret2
                              exact ⟨by first | rfl | (simp [errW_none, errW_some] <;> rfl) | (simp [*, errW_none, errW_some] <;> rfl) | (simp [errW_none, errW_some, Go.Proofs.YtkoddcihcoekgaaDoor.G.isEmpty_ne]; done), by repeat (first | (with_reducible first | exact HB.out | apply below_alloc | apply pw_below_drewN | apply below_drew1) | exact HB.out)⟩
                            · rw [if_neg c55] at H
                              have c55b0 : decide (143 < (rd l0 1)) = false := decide_eq_false c55
                              clear c55
                              simp only [Option.some.injEq, Prod.mk.injEq] at H
                              obtain ⟨rfl, rfl⟩ := H
                              have p249 : 0 ≤ (0 : Int) := (by omega)
                              have q249 : 0 < (l0.length : Int) := of_decide_eq_true (by first | (with_reducible assumption) | assumption)
                              obtain ⟨ad249, e249, hx249_0⟩ := Kd.at_int (Kd.V_reads' HO_0.out).2.2 0 p249 q249
                              cases e249
                              have qi249 : (0 < l0.length) = True := eq_true (by omega)
                              (try rw [show ((0 : Int)).toNat = 0 from rfl] at hx249_0)
                              (try rw [Addr.add_zero'] at hx249_0)
                              replace p249 := eq_true p249
                              replace q249 := eq_true q249
                              have p265 : 0 ≤ (0 : Int) := (by omega)
                              have q265 : 0 < (l0.length : Int) := of_decide_eq_true (by first | (with_reducible assumption) | assumption)
                              obtain ⟨ad265, e265, hx265_0⟩ := Kd.at_int (Kd.V_reads' HO_0.out).2.2 0 p265 q265
                              obtain rfl : ad249 = ad265 := (by injection e265)
                              have qi265 : (0 < l0.length) = True := eq_true (by omega)
                              (try rw [show ((0 : Int)).toNat = 0 from rfl] at hx265_0)
                              (try rw [Addr.add_zero'] at hx265_0)
                              replace p265 := eq_true p265
                              replace q265 := eq_true q265
                              have p273 : 0 ≤ (0 : Int) := (by omega)
                              have q273 : 0 < (l0.length : Int) := of_decide_eq_true (by first | (with_reducible assumption) | assumption)
                              obtain ⟨ad273, e273, hx273_0⟩ := Kd.at_int (Kd.V_reads' HO_0.out).2.2 0 p273 q273
                              obtain rfl : ad249 = ad273 := (by injection e273)
                              have qi273 : (0 < l0.length) = True := eq_true (by omega)
                              (try rw [show ((0 : Int)).toNat = 0 from rfl] at hx273_0)
                              (try rw [Addr.add_zero'] at hx273_0)
                              replace p273 := eq_true p273
                              replace q273 := eq_true q273
                              have p277 : 0 ≤ (0 : Int) := (by omega)
                              have q277 : 0 < (l0.length : Int) := of_decide_eq_true (by first | (with_reducible assumption) | assumption)
                              obtain ⟨ad277, e277, hx277_0⟩ := Kd.at_int (Kd.V_reads' HO_0.out).2.2 0 p277 q277
                              obtain rfl : ad249 = ad277 := (by injection e277)
                              have qi277 : (0 < l0.length) = True := eq_true (by omega)
                              (try rw [show ((0 : Int)).toNat = 0 from rfl] at hx277_0)
                              (try rw [Addr.add_zero'] at hx277_0)
                              replace p277 := eq_true p277
                              replace q277 := eq_true q277
                              have p278 : 0 ≤ (1 : Int) := (by omega)
                              have q278 : 1 < (l0.length : Int) := of_decide_eq_true (by first | (with_reducible assumption) | assumption)
                              obtain ⟨ad278, e278, hx278_0⟩ := Kd.at_int (Kd.V_reads' HO_0.out).2.2 1 p278 q278
                              obtain rfl : ad249 = ad278 := (by injection e278)
                              (try simp only [show (1 : Int).toNat = 1 from rfl, Nat.reduceMul, Nat.reduceEqDiff, Go.Addr.add, ↓reduceIte] at hx278_0)
                              have qi278 : (1 < l0.length) = True := eq_true (by omega)
                              (try rw [show ((1 : Int)).toNat = 1 from rfl] at hx278_0)
                              replace p278 := eq_true p278
                              replace q278 := eq_true q278
                              go_wp2
                              go_ret2
                              exact ⟨by first | rfl | (simp [errW_none, errW_some] <;> rfl) | (simp [*, errW_none, errW_some] <;> rfl) | (simp [errW_none, errW_some, Go.Proofs.YtkoddcihcoekgaaDoor.G.isEmpty_ne]; done), by repeat (first | (with_reducible first | exact HB.out | apply below_alloc | apply pw_below_drewN | apply below_drew1) | exact HB.out)⟩
                          · rw [if_neg c54] at H
                            exact absurd H (by simp)
                        · rw [if_neg c53] at H
                          have c53b0 : ((rd l0 0) == 244) = false := beq_eq_false_iff_ne.mpr c53
                          have c53b1 : ((rd l0 0) != 244) = true := bne_iff_ne.mpr c53
                          simp only [Option.some.injEq, Prod.mk.injEq] at H
                          obtain ⟨rfl, rfl⟩ := H
                          have p249 : 0 ≤ (0 : Int) := (by omega)
                          have q249 : 0 < (l0.length : Int) := of_decide_eq_true (by first | (with_reducible assumption) | assumption)
                          obtain ⟨ad249, e249, hx249_0⟩ := Kd.at_int (Kd.V_reads' HO_0.out).2.2 0 p249 q249
                          cases e249
                          have qi249 : (0 < l0.length) = True := eq_true (by omega)
                          (try rw [show ((0 : Int)).toNat = 0 from rfl] at hx249_0)
                          (try rw [Addr.add_zero'] at hx249_0)
                          replace p249 := eq_true p249
                          replace q249 := eq_true q249
                          have p265 : 0 ≤ (0 : Int) := (by omega)
                          have q265 : 0 < (l0.length : Int) := of_decide_eq_true (by first | (with_reducible assumption) | assumption)
                          obtain ⟨ad265, e265, hx265_0⟩ := Kd.at_int (Kd.V_reads' HO_0.out).2.2 0 p265 q265
                          obtain rfl : ad249 = ad265 := (by injection e265)
                          have qi265 : (0 < l0.length) = True := eq_true (by omega)
                          (try rw [show ((0 : Int)).toNat = 0 from rfl] at hx265_0)
                          (try rw [Addr.add_zero'] at hx265_0)
                          replace p265 := eq_true p265
                          replace q265 := eq_true q265
                          have p273 : 0 ≤ (0 : Int) := (by omega)
                          have q273 : 0 < (l0.length : Int) := of_decide_eq_true (by first | (with_reducible assumption) | assumption)
                          obtain ⟨ad273, e273, hx273_0⟩ := Kd.at_int (Kd.V_reads' HO_0.out).2.2 0 p273 q273
                          obtain rfl : ad249 = ad273 := (by injection e273)
                          have qi273 : (0 < l0.length) = True := eq_true (by omega)
                          (try rw [show ((0 : Int)).toNat = 0 from rfl] at hx273_0)
                          (try rw [Addr.add_zero'] at hx273_0)
                          replace p273 := eq_true p273
                          replace q273 := eq_true q273
                          have p277 : 0 ≤ (0 : Int) := (by omega)
                          have q277 : 0 < (l0.length : Int) := of_decide_eq_true (by first | (with_reducible assumption) | assumption)
                          obtain ⟨ad277, e277, hx277_0⟩ := Kd.at_int (Kd.V_reads' HO_0.out).2.2 0 p277 q277
                          obtain rfl : ad249 = ad277 := (by injection e277)
                          have qi277 : (0 < l0.length) = True := eq_true (by omega)
                          (try rw [show ((0 : Int)).toNat = 0 from rfl] at hx277_0)
                          (try rw [Addr.add_zero'] at hx277_0)
                          replace p277 := eq_true p277
                          replace q277 := eq_true q277
                          go_wp2
                          go_ret2
                          exact ⟨by first | rfl | (simp [errW_none, errW_some] <;> rfl) | (simp [*, errW_none, errW_some] <;> rfl) | (simp [errW_none, errW_some, Go.Proofs.YtkoddcihcoekgaaDoor.G.isEmpty_ne]; done), by repeat (first | (with_reducible first | exact HB.out | apply below_alloc | apply pw_below_drewN | apply below_drew1) | exact HB.out)⟩
                · rw [if_neg c21] at H
                  exact absurd H (by simp)
              · rw [if_neg c20] at H
                have c20b0 : decide (1 < (l0.length : Int)) = false := decide_eq_false c20
                have c20b1 : decide (1 < l0.length) = false := decide_eq_false (by omega)
                clear c20
                simp only [Option.some.injEq, Prod.mk.injEq] at H
                obtain ⟨rfl, rfl⟩ := H
                go_wp2
                go_ret2
                exact ⟨by first | rfl | (simp [errW_none, errW_some] <;> rfl) | (simp [*, errW_none, errW_some] <;> rfl) | (simp [errW_none, errW_some, Go.Proofs.YtkoddcihcoekgaaDoor.G.isEmpty_ne]; done), by repeat (first | (with_reducible first | exact HB.out | apply below_alloc | apply pw_below_drewN | apply below_drew1) | exact HB.out)⟩

end Go.Proofs.YtkoddcihcoekgaaDoor.P
