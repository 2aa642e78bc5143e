-- Written for this claim by a program of this session's (not a text of the kit's print).
import Derived.Test.YtbbdfamfmkcfhaaGreatDoorPx0
namespace Go.Proofs.YtbbdfamfmkcfhaaGreatDoor.P
open Go.RowKit Go.Proofs.YtbbdfamfmkcfhaaGreatDoorW.PrintWords Go.Proofs.YtbbdfamfmkcfhaaGreatDoorW.PrintLast Go.Proofs.YtbbdfamfmkcfhaaGreatDoorW.PrintMore
attribute [local go_sem] max2_int min2_int max_two min_two max_three min_three max_four min_four   -- for this text's walks alone
set_option linter.unusedVariables false
set_option linter.unusedSimpArgs false

/-! ### carryallref01_starts: function 49 -/
mutual
def carryallref01_starts.j2 : Nat → List Int → Int → Option (Bool × Bool)
 | 0, _, _ => none
 | k + 1, x0, x4 => if (x0.length : Int) > x4 then (some (false, false)) else (carryallref01_starts.l0 k x0 x4 1)
def carryallref01_starts.l0 : Nat → List Int → Int → Int → Option (Bool × Bool)
 | 0, _, _, _ => none
 | k + 1, x0, x4, x5 => if x5 < (x0.length : Int) then (if 0 ≤ x5 then (if (rd x0 x5) < 128 then (some (false, false)) else (if (rd x0 x5) > 191 then (some (false, false)) else (carryallref01_starts.l0 k x0 x4 (wrap64 (x5 + 1))))) else (none)) else (if (x0.length : Int) > 1 then (if 0 < (x0.length : Int) then (if (rd x0 0) = 224 then (if 1 < (x0.length : Int) then (if (rd x0 1) < 160 then (some (false, false)) else (if (rd x0 0) = 237 then (if (rd x0 1) > 159 then (some (false, false)) else (if (rd x0 0) = 240 then (if (rd x0 1) < 144 then (some (false, false)) else (if (rd x0 0) = 244 then (if (rd x0 1) > 143 then (some (false, false)) else (some (true, ((x0.length : Int) == x4)))) else (some (true, ((x0.length : Int) == x4))))) else (if (rd x0 0) = 244 then (if (rd x0 1) > 143 then (some (false, false)) else (some (true, ((x0.length : Int) == x4)))) else (some (true, ((x0.length : Int) == x4)))))) else (if (rd x0 0) = 240 then (if (rd x0 1) < 144 then (some (false, false)) else (if (rd x0 0) = 244 then (if (rd x0 1) > 143 then (some (false, false)) else (some (true, ((x0.length : Int) == x4)))) else (some (true, ((x0.length : Int) == x4))))) else (if (rd x0 0) = 244 then (if (rd x0 1) > 143 then (some (false, false)) else (some (true, ((x0.length : Int) == x4)))) else (some (true, ((x0.length : Int) == x4))))))) else (none)) else (if (rd x0 0) = 237 then (if 1 < (x0.length : Int) then (if (rd x0 1) > 159 then (some (false, false)) else (if (rd x0 0) = 240 then (if (rd x0 1) < 144 then (some (false, false)) else (if (rd x0 0) = 244 then (if (rd x0 1) > 143 then (some (false, false)) else (some (true, ((x0.length : Int) == x4)))) else (some (true, ((x0.length : Int) == x4))))) else (if (rd x0 0) = 244 then (if (rd x0 1) > 143 then (some (false, false)) else (some (true, ((x0.length : Int) == x4)))) else (some (true, ((x0.length : Int) == x4)))))) else (none)) else (if (rd x0 0) = 240 then (if 1 < (x0.length : Int) then (if (rd x0 1) < 144 then (some (false, false)) else (if (rd x0 0) = 244 then (if (rd x0 1) > 143 then (some (false, false)) else (some (true, ((x0.length : Int) == x4)))) else (some (true, ((x0.length : Int) == x4))))) else (none)) else (if (rd x0 0) = 244 then (if 1 < (x0.length : Int) then (if (rd x0 1) > 143 then (some (false, false)) else (some (true, ((x0.length : Int) == x4)))) else (none)) else (some (true, ((x0.length : Int) == x4))))))) else (none)) else (some (true, ((x0.length : Int) == x4))))
def carryallref01_starts.j0 : Nat → List Int → Int → Bool → Option (Bool × Bool)
 | 0, _, _, _ => none
 | k + 1, x0, x4, x11 => if x11 = true then (carryallref01_starts.j2 k x0 2) else (if 0 < (x0.length : Int) then (if (rd x0 0) ≥ 224 then (carryallref01_starts.j1 k x0 x4 (decide ((rd x0 0) ≤ 239))) else (carryallref01_starts.j1 k x0 x4 false)) else (none))
def carryallref01_starts.j1 : Nat → List Int → Int → Bool → Option (Bool × Bool)
 | 0, _, _, _ => none
 | k + 1, x0, x4, x22 => if x22 = true then (carryallref01_starts.j2 k x0 3) else (if 0 < (x0.length : Int) then (if (rd x0 0) ≥ 240 then (if (rd x0 0) ≤ 244 then (carryallref01_starts.j2 k x0 4) else (carryallref01_starts.j2 k x0 x4)) else (carryallref01_starts.j2 k x0 x4)) else (none))
end
def carryallref01_starts.f (k : Nat) (l0 : List Int) : Option (Bool × Bool) := if 0 < (l0.length : Int) then (if (rd l0 0) < 128 then (carryallref01_starts.j2 k l0 1) else (if (rd l0 0) ≥ 194 then (carryallref01_starts.j0 k l0 0 (decide ((rd l0 0) ≤ 223))) else (carryallref01_starts.j0 k l0 0 false))) else (none)
theorem carryallref01_starts.mono_l : ∀ k, (∀ y0 y1, LeO (carryallref01_starts.j2 k y0 y1) (carryallref01_starts.j2 (k + 1) y0 y1)) ∧ (∀ y0 y1 y2, LeO (carryallref01_starts.l0 k y0 y1 y2) (carryallref01_starts.l0 (k + 1) y0 y1 y2)) ∧ (∀ y0 y1 y2, LeO (carryallref01_starts.j0 k y0 y1 y2) (carryallref01_starts.j0 (k + 1) y0 y1 y2)) ∧ (∀ y0 y1 y2, LeO (carryallref01_starts.j1 k y0 y1 y2) (carryallref01_starts.j1 (k + 1) y0 y1 y2))
 | 0 => ⟨fun _ _ r h => by simp [carryallref01_starts.j2] at h, fun _ _ _ r h => by simp [carryallref01_starts.l0] at h, fun _ _ _ r h => by simp [carryallref01_starts.j0] at h, fun _ _ _ r h => by simp [carryallref01_starts.j1] at h⟩
 | k + 1 => by
  obtain ⟨ih0, ih1, ih2, ih3⟩ := carryallref01_starts.mono_l k
  refine ⟨?_, ?_, ?_, ?_⟩
  ·intro y0 y1
   unfold carryallref01_starts.j2
   repeat' first
   | (with_reducible exact ih0 _ _)
   | (with_reducible exact ih1 _ _ _)
   | (with_reducible exact ih2 _ _ _)
   | (with_reducible exact ih3 _ _ _)
   | (with_reducible exact LeO.refl _)
   | (with_reducible exact LeO.none _)
   | (with_reducible refine LeO.ite ?_ ?_)
   | (with_reducible refine LeO.bind ?_ (fun _ => ?_))
   | exact ih0 _ _
   | exact ih1 _ _ _
   | exact ih2 _ _ _
   | exact ih3 _ _ _
   | exact LeO.none _
   | refine LeO.ite ?_ ?_
   | refine LeO.bind ?_ (fun _ => ?_)
  ·intro y0 y1 y2
   unfold carryallref01_starts.l0
   repeat' first
   | (with_reducible exact ih0 _ _)
   | (with_reducible exact ih1 _ _ _)
   | (with_reducible exact ih2 _ _ _)
   | (with_reducible exact ih3 _ _ _)
   | (with_reducible exact LeO.refl _)
   | (with_reducible exact LeO.none _)
   | (with_reducible refine LeO.ite ?_ ?_)
   | (with_reducible refine LeO.bind ?_ (fun _ => ?_))
   | exact ih0 _ _
   | exact ih1 _ _ _
   | exact ih2 _ _ _
   | exact ih3 _ _ _
   | exact LeO.none _
   | refine LeO.ite ?_ ?_
   | refine LeO.bind ?_ (fun _ => ?_)
  ·intro y0 y1 y2
   unfold carryallref01_starts.j0
   repeat' first
   | (with_reducible exact ih0 _ _)
   | (with_reducible exact ih1 _ _ _)
   | (with_reducible exact ih2 _ _ _)
   | (with_reducible exact ih3 _ _ _)
   | (with_reducible exact LeO.refl _)
   | (with_reducible exact LeO.none _)
   | (with_reducible refine LeO.ite ?_ ?_)
   | (with_reducible refine LeO.bind ?_ (fun _ => ?_))
   | exact ih0 _ _
   | exact ih1 _ _ _
   | exact ih2 _ _ _
   | exact ih3 _ _ _
   | exact LeO.none _
   | refine LeO.ite ?_ ?_
   | refine LeO.bind ?_ (fun _ => ?_)
  ·intro y0 y1 y2
   unfold carryallref01_starts.j1
   repeat' first
   | (with_reducible exact ih0 _ _)
   | (with_reducible exact ih1 _ _ _)
   | (with_reducible exact ih2 _ _ _)
   | (with_reducible exact ih3 _ _ _)
   | (with_reducible exact LeO.refl _)
   | (with_reducible exact LeO.none _)
   | (with_reducible refine LeO.ite ?_ ?_)
   | (with_reducible refine LeO.bind ?_ (fun _ => ?_))
   | exact ih0 _ _
   | exact ih1 _ _ _
   | exact ih2 _ _ _
   | exact ih3 _ _ _
   | exact LeO.none _
   | refine LeO.ite ?_ ?_
   | refine LeO.bind ?_ (fun _ => ?_)
theorem carryallref01_starts.mono : ∀ a0 k, LeO (carryallref01_starts.f k a0) (carryallref01_starts.f (k + 1) a0) := by
 intro a0 k
 obtain ⟨ih0, ih1, ih2, ih3⟩ := carryallref01_starts.mono_l k
 unfold carryallref01_starts.f
 repeat' first
   | (with_reducible exact ih0 _ _)
   | (with_reducible exact ih1 _ _ _)
   | (with_reducible exact ih2 _ _ _)
   | (with_reducible exact ih3 _ _ _)
   | (with_reducible exact LeO.refl _)
   | (with_reducible exact LeO.none _)
   | (with_reducible refine LeO.ite ?_ ?_)
   | (with_reducible refine LeO.bind ?_ (fun _ => ?_))
   | exact ih0 _ _
   | exact ih1 _ _ _
   | exact ih2 _ _ _
   | exact ih3 _ _ _
   | exact LeO.none _
   | refine LeO.ite ?_ ?_
   | refine LeO.bind ?_ (fun _ => ?_)
set_option maxHeartbeats 8000000 in
set_option maxRecDepth 100000 in
theorem carryallref01_starts.calls (k : Nat) (P0_ : Nat → Prop) (A0 : Option Addr) (c0 : Nat) (l0 : List Int) (r1 : Bool) (r2 : Bool) (w : World) (hs0 : Kd.V (Kd.int .u8) 5 w w.heap.size (fun k_ => P0_ k_) (.slice A0 l0.length c0) l0) (h : carryallref01_starts.f k l0 = some (r1, r2)) :
  Calls Tryz.prog 49 #[.slice A0 l0.length c0] w fun e w' => e = .returned (.tuple #[.bool r1, .bool r2]) ∧ Below w.heap.size w w' := by
 have HO0 := Aside0.mk (show Kd.V (Kd.int .u8) 5 w w.heap.size (fun k_ => (P0_ k_ ∨ w.heap.size ≤ k_)) (.slice A0 l0.length c0) l0 from Kd.V_mono hs0 (fun k_ hk => .inl hk))
 have HB := Aside0.mk (Below.refl w.heap.size w)
 have H : (if 0 < (l0.length : Int) then (if (rd l0 0) < 128 then (carryallref01_starts.j2 k l0 1) else (if (rd l0 0) ≥ 194 then (carryallref01_starts.j0 k l0 0 (decide ((rd l0 0) ≤ 223))) else (carryallref01_starts.j0 k l0 0 false))) else (none)) = some (r1, r2) := h
 clear h
 have HC2 := Aside0.mk H
 clear H
 go_enter Tryz.func49, Tryz.ntmps49
 go_upto_block 0 with (fail)
 go_cut [4] (fun v4 wc => ∃ (kq : Nat) (x4_1 : Int), v4 = .int .i64 x4_1 ∧ Aside0 (carryallref01_starts.j2 kq l0 x4_1 = some (r1, r2)) ∧ Aside0 (kq ≤ k) ∧ Aside0 (Kd.V (Kd.int .u8) 5 wc w.heap.size (fun k_ => (P0_ k_ ∨ w.heap.size ≤ k_)) (.slice A0 l0.length c0) l0) ∧ Aside0 (Below w.heap.size w wc))
 case first =>
  have H := HC2.out
  clear HC2
  by_cases c3 : 0 < (l0.length : Int)
  ·rw [if_pos c3] at H
   have c3b0 : decide (0 < (l0.length : Int)) = true := decide_eq_true c3
   have c3b1 : decide (0 < l0.length) = true := decide_eq_true (by omega)
   clear c3
   (first | rw [c3b0] | (simp only [i64_w, i32_w]; rw [c3b0]) | skip)
   by_cases c4 : (rd l0 0) < 128
   ·rw [if_pos c4] at H
    have c4b0 : decide ((rd l0 0) < 128) = true := decide_eq_true c4
    clear c4
    have H' := Aside0.mk H
    clear H
    have p172 : 0 ≤ (0 : Int) := (by omega)
    have q172 : 0 < (l0.length : Int) := of_decide_eq_true (by first | (with_reducible assumption) | assumption)
    obtain ⟨ad172, e172, hx172_0⟩ := Kd.at_int (Kd.V_reads' HO0.out).2.2 0 p172 q172
    cases e172
    have qi172 : (0 < l0.length) = True := eq_true (by omega)
    (try rw [show ((0 : Int)).toNat = 0 from rfl] at hx172_0)
    (try rw [Addr.add_zero'] at hx172_0)
    replace p172 := eq_true p172
    replace q172 := eq_true q172
    go_wp2
    go_meet
    case rel => exact ⟨_, (1), (by first | rfl | (simp; done) | (simp [*]; done) | (simp [G.isEmpty_ne]; done)), H', ⟨by first | omega | exact Nat.le_refl _⟩, ⟨by (with_reducible repeat (first | apply Kd.V_alloc | apply Kd.V_drewN | apply Kd.V_drew)); exact HO0.out⟩, ⟨by repeat (first | (with_reducible first | exact HB.out | apply below_alloc | apply pw_below_drewN | apply below_drew1) | exact HB.out)⟩⟩
   ·rw [if_neg c4] at H
    have c4b0 : decide ((rd l0 0) < 128) = false := decide_eq_false c4
    clear c4
    have HC5 := Aside0.mk H
    clear H
    have p172 : 0 ≤ (0 : Int) := (by omega)
    have q172 : 0 < (l0.length : Int) := of_decide_eq_true (by first | (with_reducible assumption) | assumption)
    obtain ⟨ad172, e172, hx172_0⟩ := Kd.at_int (Kd.V_reads' HO0.out).2.2 0 p172 q172
    cases e172
    have qi172 : (0 < l0.length) = True := eq_true (by omega)
    (try rw [show ((0 : Int)).toNat = 0 from rfl] at hx172_0)
    (try rw [Addr.add_zero'] at hx172_0)
    replace p172 := eq_true p172
    replace q172 := eq_true q172
    go_upto_region 4 with (fail)
    go_cut [11] (fun v11 wc => ∃ (kq : Nat) (x11_4 : Bool), v11 = .bool x11_4 ∧ Aside0 (carryallref01_starts.j0 kq l0 0 x11_4 = some (r1, r2)) ∧ Aside0 (kq ≤ k) ∧ Aside0 (Kd.V (Kd.int .u8) 5 wc w.heap.size (fun k_ => (P0_ k_ ∨ w.heap.size ≤ k_)) (.slice (some ad172) l0.length c0) l0) ∧ Aside0 (Below w.heap.size w wc))
    case first =>
     have H := HC5.out
     clear HC5
     by_cases c6 : (rd l0 0) ≥ 194
     ·rw [if_pos c6] at H
      have c6b0 : decide (194 ≤ (rd l0 0)) = true := decide_eq_true c6
      clear c6
      (first | rw [c6b0] | (simp only [i64_w, i32_w]; rw [c6b0]) | skip)
      have H' := Aside0.mk H
      clear H
      have p173 : 0 ≤ (0 : Int) := (by omega)
      have q173 : 0 < (l0.length : Int) := of_decide_eq_true (by first | (with_reducible assumption) | assumption)
      obtain ⟨ad173, e173, hx173_0⟩ := Kd.at_int (Kd.V_reads' HO0.out).2.2 0 p173 q173
      obtain rfl : ad172 = ad173 := (by injection e173)
      have qi173 : (0 < l0.length) = True := eq_true (by omega)
      (try rw [show ((0 : Int)).toNat = 0 from rfl] at hx173_0)
      (try rw [Addr.add_zero'] at hx173_0)
      replace p173 := eq_true p173
      replace q173 := eq_true q173
      have p174 : 0 ≤ (0 : Int) := (by omega)
      have q174 : 0 < (l0.length : Int) := of_decide_eq_true (by first | (with_reducible assumption) | assumption)
      obtain ⟨ad174, e174, hx174_0⟩ := Kd.at_int (Kd.V_reads' HO0.out).2.2 0 p174 q174
      obtain rfl : ad172 = ad174 := (by injection e174)
      have qi174 : (0 < l0.length) = True := eq_true (by omega)
      (try rw [show ((0 : Int)).toNat = 0 from rfl] at hx174_0)
      (try rw [Addr.add_zero'] at hx174_0)
      replace p174 := eq_true p174
      replace q174 := eq_true q174
      go_wp2
      go_meet
      case rel => exact ⟨_, (decide ((rd l0 0) ≤ 223)), (by first | rfl | (simp; done) | (simp [*]; done) | (simp [G.isEmpty_ne]; done)), H', ⟨by first | omega | exact Nat.le_refl _⟩, ⟨by (with_reducible repeat (first | apply Kd.V_alloc | apply Kd.V_drewN | apply Kd.V_drew)); exact HO0.out⟩, ⟨by repeat (first | (with_reducible first | exact HB.out | apply below_alloc | apply pw_below_drewN | apply below_drew1) | exact HB.out)⟩⟩
     ·rw [if_neg c6] at H
      have c6b0 : decide (194 ≤ (rd l0 0)) = false := decide_eq_false c6
      clear c6
      (first | rw [c6b0] | (simp only [i64_w, i32_w]; rw [c6b0]) | skip)
      have H' := Aside0.mk H
      clear H
      have p173 : 0 ≤ (0 : Int) := (by omega)
      have q173 : 0 < (l0.length : Int) := of_decide_eq_true (by first | (with_reducible assumption) | assumption)
      obtain ⟨ad173, e173, hx173_0⟩ := Kd.at_int (Kd.V_reads' HO0.out).2.2 0 p173 q173
      obtain rfl : ad172 = ad173 := (by injection e173)
      have qi173 : (0 < l0.length) = True := eq_true (by omega)
      (try rw [show ((0 : Int)).toNat = 0 from rfl] at hx173_0)
      (try rw [Addr.add_zero'] at hx173_0)
      replace p173 := eq_true p173
      replace q173 := eq_true q173
      go_wp2
      go_meet
      case rel => exact ⟨_, (false), (by first | rfl | (simp; done) | (simp [*]; done) | (simp [G.isEmpty_ne]; done)), H', ⟨by first | omega | exact Nat.le_refl _⟩, ⟨by (with_reducible repeat (first | apply Kd.V_alloc | apply Kd.V_drewN | apply Kd.V_drew)); exact HO0.out⟩, ⟨by repeat (first | (with_reducible first | exact HB.out | apply below_alloc | apply pw_below_drewN | apply below_drew1) | exact HB.out)⟩⟩
    case rest =>
     clear HC5
     try clear p1
     try clear q1
     try clear hx1
     try clear qi1
     try clear p2
     try clear c3
     try clear c3b0
     try clear c3b1
     try clear c4
     try clear c4b0
     try clear c6
     try clear c6b0
     try clear hx172_0
     try clear hx173_0
     try clear hx174_0
     try clear p172
     try clear p173
     try clear p174
     try clear q172
     try clear q173
     try clear q174
     obtain ⟨kq, x11_4, rfl, HA, HJ4, HO_0, HB⟩ := hcut
     cases kq with
     | zero => exact absurd HA.out (by simp [carryallref01_starts.j0])
     | succ kj4 =>
      have H := HA.out
      clear HA
      simp only [carryallref01_starts.j0] at H
      by_cases c7 : x11_4 = true
      ·subst c7
       have H1 : (carryallref01_starts.j2 kj4 l0 2) = some (r1, r2) := by rw [if_pos rfl] at H; exact H
       clear H
       have H := H1
       clear H1
       have H' := Aside0.mk H
       clear H
       go_wp2
       go_meet
       case rel => exact ⟨_, (2), (by first | rfl | (simp; done) | (simp [*]; done) | (simp [G.isEmpty_ne]; done)), H', ⟨by have := HJ4.out; first | omega | exact Nat.le_refl _⟩, ⟨by (with_reducible repeat (first | apply Kd.V_alloc | apply Kd.V_drewN | apply Kd.V_drew)); exact HO_0.out⟩, ⟨by repeat (first | (with_reducible first | exact HB.out | apply below_alloc | apply pw_below_drewN | apply below_drew1) | exact HB.out)⟩⟩
      ·replace c7 := Bool.eq_false_iff.mpr c7
       subst c7
       have H1 : (if 0 < (l0.length : Int) then (if (rd l0 0) ≥ 224 then (carryallref01_starts.j1 kj4 l0 0 (decide ((rd l0 0) ≤ 239))) else (carryallref01_starts.j1 kj4 l0 0 false)) else (none)) = some (r1, r2) := by rw [if_neg (show ¬ (false = true) by decide)] at H; exact H
       clear H
       have H := H1
       clear H1
       have HC8 := Aside0.mk H
       clear H
       go_upto_region 6 with (fail)
       go_cut [22] (fun v22 wc => ∃ (kq : Nat) (x22_7 : Bool), v22 = .bool x22_7 ∧ Aside0 (carryallref01_starts.j1 kq l0 0 x22_7 = some (r1, r2)) ∧ Aside0 (kq ≤ kj4) ∧ Aside0 (Kd.V (Kd.int .u8) 5 wc w.heap.size (fun k_ => (P0_ k_ ∨ w.heap.size ≤ k_)) (.slice (some ad172) l0.length c0) l0) ∧ Aside0 (Below w.heap.size w wc))
       case first =>
        have H := HC8.out
        clear HC8
        by_cases c9 : 0 < (l0.length : Int)
        ·rw [if_pos c9] at H
         have c9b0 : decide (0 < (l0.length : Int)) = true := decide_eq_true c9
         have c9b1 : decide (0 < l0.length) = true := decide_eq_true (by omega)
         clear c9
         (first | rw [c9b0] | (simp only [i64_w, i32_w]; rw [c9b0]) | skip)
         by_cases c10 : (rd l0 0) ≥ 224
         ·rw [if_pos c10] at H
          have c10b0 : decide (224 ≤ (rd l0 0)) = true := decide_eq_true c10
          clear c10
          have H' := Aside0.mk H
          clear H
          have p175 : 0 ≤ (0 : Int) := (by omega)
          have q175 : 0 < (l0.length : Int) := of_decide_eq_true (by first | (with_reducible assumption) | assumption)
          obtain ⟨ad175, e175, hx175_0⟩ := Kd.at_int (Kd.V_reads' HO_0.out).2.2 0 p175 q175
          obtain rfl : ad172 = ad175 := (by injection e175)
          have qi175 : (0 < l0.length) = True := eq_true (by omega)
          (try rw [show ((0 : Int)).toNat = 0 from rfl] at hx175_0)
          (try rw [Addr.add_zero'] at hx175_0)
          replace p175 := eq_true p175
          replace q175 := eq_true q175
          have p176 : 0 ≤ (0 : Int) := (by omega)
          have q176 : 0 < (l0.length : Int) := of_decide_eq_true (by first | (with_reducible assumption) | assumption)
          obtain ⟨ad176, e176, hx176_0⟩ := Kd.at_int (Kd.V_reads' HO_0.out).2.2 0 p176 q176
          obtain rfl : ad172 = ad176 := (by injection e176)
          have qi176 : (0 < l0.length) = True := eq_true (by omega)
          (try rw [show ((0 : Int)).toNat = 0 from rfl] at hx176_0)
          (try rw [Addr.add_zero'] at hx176_0)
          replace p176 := eq_true p176
          replace q176 := eq_true q176
          go_wp2
          go_meet
          case rel => exact ⟨_, (decide ((rd l0 0) ≤ 239)), (by first | rfl | (simp; done) | (simp [*]; done) | (simp [G.isEmpty_ne]; done)), H', ⟨by have := HJ4.out; first | omega | exact Nat.le_refl _⟩, ⟨by (with_reducible repeat (first | apply Kd.V_alloc | apply Kd.V_drewN | apply Kd.V_drew)); exact HO_0.out⟩, ⟨by repeat (first | (with_reducible first | exact HB.out | apply below_alloc | apply pw_below_drewN | apply below_drew1) | exact HB.out)⟩⟩
         ·rw [if_neg c10] at H
          have c10b0 : decide (224 ≤ (rd l0 0)) = false := decide_eq_false c10
          clear c10
          have H' := Aside0.mk H
          clear H
          have p175 : 0 ≤ (0 : Int) := (by omega)
          have q175 : 0 < (l0.length : Int) := of_decide_eq_true (by first | (with_reducible assumption) | assumption)
          obtain ⟨ad175, e175, hx175_0⟩ := Kd.at_int (Kd.V_reads' HO_0.out).2.2 0 p175 q175
          obtain rfl : ad172 = ad175 := (by injection e175)
          have qi175 : (0 < l0.length) = True := eq_true (by omega)
          (try rw [show ((0 : Int)).toNat = 0 from rfl] at hx175_0)
          (try rw [Addr.add_zero'] at hx175_0)
          replace p175 := eq_true p175
          replace q175 := eq_true q175
          go_wp2
          go_meet
          case rel => exact ⟨_, (false), (by first | rfl | (simp; done) | (simp [*]; done) | (simp [G.isEmpty_ne]; done)), H', ⟨by have := HJ4.out; first | omega | exact Nat.le_refl _⟩, ⟨by (with_reducible repeat (first | apply Kd.V_alloc | apply Kd.V_drewN | apply Kd.V_drew)); exact HO_0.out⟩, ⟨by repeat (first | (with_reducible first | exact HB.out | apply below_alloc | apply pw_below_drewN | apply below_drew1) | exact HB.out)⟩⟩
        ·rw [if_neg c9] at H
         exact absurd H (by simp)
       case rest =>
        clear HC8
        try clear c1
        try clear p1
        try clear q1
        try clear hx1
        try clear qi1
        try clear p2
        try clear c3
        try clear c3b0
        try clear c3b1
        try clear c4
        try clear c4b0
        try clear c6
        try clear c6b0
        try clear c7
        try clear c9
        try clear c9b0
        try clear c9b1
        try clear c10
        try clear c10b0
        try clear hx172_0
        try clear hx173_0
        try clear hx174_0
        try clear hx175_0
        try clear hx176_0
        try clear p1
        try clear p172
        try clear p173
        try clear p174
        try clear p175
        try clear p176
        try clear p2
        try clear q1
        try clear q172
        try clear q173
        try clear q174
        try clear q175
        try clear q176
        obtain ⟨kq, x22_7, rfl, HA, HJ7, HO_0, HB⟩ := hcut
        cases kq with
        | zero => exact absurd HA.out (by simp [carryallref01_starts.j1])
        | succ kj7 =>
         have H := HA.out
         clear HA
         simp only [carryallref01_starts.j1] at H
         by_cases c11 : x22_7 = true
         ·subst c11
          have H1 : (carryallref01_starts.j2 kj7 l0 3) = some (r1, r2) := by rw [if_pos rfl] at H; exact H
          clear H
          have H := H1
          clear H1
          have H' := Aside0.mk H
          clear H
          go_wp2
          go_meet
          case rel => exact ⟨_, (3), (by first | rfl | (simp; done) | (simp [*]; done) | (simp [G.isEmpty_ne]; done)), H', ⟨by have := HJ4.out; have := HJ7.out; first | omega | exact Nat.le_refl _⟩, ⟨by (with_reducible repeat (first | apply Kd.V_alloc | apply Kd.V_drewN | apply Kd.V_drew)); exact HO_0.out⟩, ⟨by repeat (first | (with_reducible first | exact HB.out | apply below_alloc | apply pw_below_drewN | apply below_drew1) | exact HB.out)⟩⟩
         ·replace c11 := Bool.eq_false_iff.mpr c11
          subst c11
          have H1 : (if 0 < (l0.length : Int) then (if (rd l0 0) ≥ 240 then (if (rd l0 0) ≤ 244 then (carryallref01_starts.j2 kj7 l0 4) else (carryallref01_starts.j2 kj7 l0 0)) else (carryallref01_starts.j2 kj7 l0 0)) else (none)) = some (r1, r2) := by rw [if_neg (show ¬ (false = true) by decide)] at H; exact H
          clear H
          have H := H1
          clear H1
          by_cases c12 : 0 < (l0.length : Int)
          ·rw [if_pos c12] at H
           have c12b0 : decide (0 < (l0.length : Int)) = true := decide_eq_true c12
           have c12b1 : decide (0 < l0.length) = true := decide_eq_true (by omega)
           clear c12
           by_cases c13 : (rd l0 0) ≥ 240
           ·rw [if_pos c13] at H
            have c13b0 : decide (240 ≤ (rd l0 0)) = true := decide_eq_true c13
            clear c13
            by_cases c14 : (rd l0 0) ≤ 244
            ·rw [if_pos c14] at H
             have c14b0 : decide ((rd l0 0) ≤ 244) = true := decide_eq_true c14
             clear c14
             have H' := Aside0.mk H
             clear H
             have p177 : 0 ≤ (0 : Int) := (by omega)
             have q177 : 0 < (l0.length : Int) := of_decide_eq_true (by first | (with_reducible assumption) | assumption)
             obtain ⟨ad177, e177, hx177_0⟩ := Kd.at_int (Kd.V_reads' HO_0.out).2.2 0 p177 q177
             obtain rfl : ad172 = ad177 := (by injection e177)
             have qi177 : (0 < l0.length) = True := eq_true (by omega)
             (try rw [show ((0 : Int)).toNat = 0 from rfl] at hx177_0)
             (try rw [Addr.add_zero'] at hx177_0)
             replace p177 := eq_true p177
             replace q177 := eq_true q177
             have p178 : 0 ≤ (0 : Int) := (by omega)
             have q178 : 0 < (l0.length : Int) := of_decide_eq_true (by first | (with_reducible assumption) | assumption)
             obtain ⟨ad178, e178, hx178_0⟩ := Kd.at_int (Kd.V_reads' HO_0.out).2.2 0 p178 q178
             obtain rfl : ad172 = ad178 := (by injection e178)
             have qi178 : (0 < l0.length) = True := eq_true (by omega)
             (try rw [show ((0 : Int)).toNat = 0 from rfl] at hx178_0)
             (try rw [Addr.add_zero'] at hx178_0)
             replace p178 := eq_true p178
             replace q178 := eq_true q178
             go_wp2
             go_meet
             case rel => exact ⟨_, (4), (by first | rfl | (simp; done) | (simp [*]; done) | (simp [G.isEmpty_ne]; done)), H', ⟨by have := HJ4.out; have := HJ7.out; first | omega | exact Nat.le_refl _⟩, ⟨by (with_reducible repeat (first | apply Kd.V_alloc | apply Kd.V_drewN | apply Kd.V_drew)); exact HO_0.out⟩, ⟨by repeat (first | (with_reducible first | exact HB.out | apply below_alloc | apply pw_below_drewN | apply below_drew1) | exact HB.out)⟩⟩
            ·rw [if_neg c14] at H
             have c14b0 : decide ((rd l0 0) ≤ 244) = false := decide_eq_false c14
             clear c14
             have H' := Aside0.mk H
             clear H
             have p177 : 0 ≤ (0 : Int) := (by omega)
             have q177 : 0 < (l0.length : Int) := of_decide_eq_true (by first | (with_reducible assumption) | assumption)
             obtain ⟨ad177, e177, hx177_0⟩ := Kd.at_int (Kd.V_reads' HO_0.out).2.2 0 p177 q177
             obtain rfl : ad172 = ad177 := (by injection e177)
             have qi177 : (0 < l0.length) = True := eq_true (by omega)
             (try rw [show ((0 : Int)).toNat = 0 from rfl] at hx177_0)
             (try rw [Addr.add_zero'] at hx177_0)
             replace p177 := eq_true p177
             replace q177 := eq_true q177
             have p178 : 0 ≤ (0 : Int) := (by omega)
             have q178 : 0 < (l0.length : Int) := of_decide_eq_true (by first | (with_reducible assumption) | assumption)
             obtain ⟨ad178, e178, hx178_0⟩ := Kd.at_int (Kd.V_reads' HO_0.out).2.2 0 p178 q178
             obtain rfl : ad172 = ad178 := (by injection e178)
             have qi178 : (0 < l0.length) = True := eq_true (by omega)
             (try rw [show ((0 : Int)).toNat = 0 from rfl] at hx178_0)
             (try rw [Addr.add_zero'] at hx178_0)
             replace p178 := eq_true p178
             replace q178 := eq_true q178
             go_wp2
             go_meet
             case rel => exact ⟨_, (0), (by first | rfl | (simp; done) | (simp [*]; done) | (simp [G.isEmpty_ne]; done)), H', ⟨by have := HJ4.out; have := HJ7.out; first | omega | exact Nat.le_refl _⟩, ⟨by (with_reducible repeat (first | apply Kd.V_alloc | apply Kd.V_drewN | apply Kd.V_drew)); exact HO_0.out⟩, ⟨by repeat (first | (with_reducible first | exact HB.out | apply below_alloc | apply pw_below_drewN | apply below_drew1) | exact HB.out)⟩⟩
           ·rw [if_neg c13] at H
            have c13b0 : decide (240 ≤ (rd l0 0)) = false := decide_eq_false c13
            clear c13
            have H' := Aside0.mk H
            clear H
            have p177 : 0 ≤ (0 : Int) := (by omega)
            have q177 : 0 < (l0.length : Int) := of_decide_eq_true (by first | (with_reducible assumption) | assumption)
            obtain ⟨ad177, e177, hx177_0⟩ := Kd.at_int (Kd.V_reads' HO_0.out).2.2 0 p177 q177
            obtain rfl : ad172 = ad177 := (by injection e177)
            have qi177 : (0 < l0.length) = True := eq_true (by omega)
            (try rw [show ((0 : Int)).toNat = 0 from rfl] at hx177_0)
            (try rw [Addr.add_zero'] at hx177_0)
            replace p177 := eq_true p177
            replace q177 := eq_true q177
            go_wp2
            go_meet
            case rel => exact ⟨_, (0), (by first | rfl | (simp; done) | (simp [*]; done) | (simp [G.isEmpty_ne]; done)), H', ⟨by have := HJ4.out; have := HJ7.out; first | omega | exact Nat.le_refl _⟩, ⟨by (with_reducible repeat (first | apply Kd.V_alloc | apply Kd.V_drewN | apply Kd.V_drew)); exact HO_0.out⟩, ⟨by repeat (first | (with_reducible first | exact HB.out | apply below_alloc | apply pw_below_drewN | apply below_drew1) | exact HB.out)⟩⟩
          ·rw [if_neg c12] at H
           exact absurd H (by simp)
  ·rw [if_neg c3] at H
   exact absurd H (by simp)
 case rest =>
  clear HC2
  try clear c1
  try clear p1
  try clear q1
  try clear hx1
  try clear qi1
  try clear p2
  try clear c3
  try clear c3b0
  try clear c3b1
  try clear c4
  try clear c4b0
  try clear c6
  try clear c6b0
  try clear c7
  try clear c9
  try clear c9b0
  try clear c9b1
  try clear c10
  try clear c10b0
  try clear c11
  try clear c12
  try clear c12b0
  try clear c12b1
  try clear c13
  try clear c13b0
  try clear c14
  try clear c14b0
  try clear hx172_0
  try clear hx173_0
  try clear hx174_0
  try clear hx175_0
  try clear hx176_0
  try clear hx177_0
  try clear hx178_0
  try clear p1
  try clear p172
  try clear p173
  try clear p174
  try clear p175
  try clear p176
  try clear p177
  try clear p178
  try clear p2
  try clear q1
  try clear q172
  try clear q173
  try clear q174
  try clear q175
  try clear q176
  try clear q177
  try clear q178
  obtain ⟨kq, x4_1, rfl, HA, HJ1, HO_0, HB⟩ := hcut
  cases kq with
  | zero => exact absurd HA.out (by simp [carryallref01_starts.j2])
  | succ kj1 =>
   have H := HA.out
   clear HA
   simp only [carryallref01_starts.j2] at H
   by_cases c15 : (l0.length : Int) > x4_1
   ·rw [if_pos c15] at H
    have c15b0 : decide (x4_1 < (l0.length : Int)) = true := decide_eq_true c15
    clear c15
    simp only [Option.some.injEq, Prod.mk.injEq] at H
    obtain ⟨rfl, rfl⟩ := H
    go_wp2
    go_ret2
    exact ⟨by first | rfl | (simp [errW_none, errW_some] <;> rfl) | (simp [*, errW_none, errW_some] <;> rfl) | (simp [errW_none, errW_some, G.isEmpty_ne]; done), by repeat (first | (with_reducible first | exact HB.out | apply below_alloc | apply pw_below_drewN | apply below_drew1) | exact HB.out)⟩
   ·rw [if_neg c15] at H
    have c15b0 : decide (x4_1 < (l0.length : Int)) = false := decide_eq_false c15
    clear c15
    have H' := Aside0.mk H
    clear H
    go_wp2
    go_loopg [5] kj1 (fun kq v5 w' => ∃ (x5_2 : Int), v5 = .int .i64 x5_2 ∧ Aside0 (carryallref01_starts.l0 kq l0 x4_1 x5_2 = some (r1, r2)) ∧ Aside0 (kq ≤ kj1) ∧ Aside0 (Kd.V (Kd.int .u8) 5 w' w.heap.size (fun k_ => (P0_ k_ ∨ w.heap.size ≤ k_)) (.slice A0 l0.length c0) l0) ∧ Aside0 (Below w.heap.size w w'))
    case atStart => exact ⟨(1), (by first | rfl | (simp; done) | (simp [*]; done) | (simp [G.isEmpty_ne]; done)), H', ⟨Nat.le_refl _⟩, ⟨by (with_reducible repeat (first | apply Kd.V_alloc | apply Kd.V_drewN | apply Kd.V_drew)); exact HO_0.out⟩, ⟨by repeat (first | (with_reducible first | exact HB.out | apply below_alloc | apply pw_below_drewN | apply below_drew1) | exact HB.out)⟩⟩
    case round =>
     clear H'
     try clear c1
     try clear p1
     try clear q1
     try clear hx1
     try clear qi1
     try clear p2
     try clear c3
     try clear c3b0
     try clear c3b1
     try clear c4
     try clear c4b0
     try clear c6
     try clear c6b0
     try clear c7
     try clear c9
     try clear c9b0
     try clear c9b1
     try clear c10
     try clear c10b0
     try clear c11
     try clear c12
     try clear c12b0
     try clear c12b1
     try clear c13
     try clear c13b0
     try clear c14
     try clear c14b0
     try clear c15
     try clear c15b0
     try clear hx172_0
     try clear hx173_0
     try clear hx174_0
     try clear hx175_0
     try clear hx176_0
     try clear hx177_0
     try clear hx178_0
     try clear p1
     try clear p172
     try clear p173
     try clear p174
     try clear p175
     try clear p176
     try clear p177
     try clear p178
     try clear p2
     try clear q1
     try clear q172
     try clear q173
     try clear q174
     try clear q175
     try clear q176
     try clear q177
     try clear q178
     obtain ⟨x5_2, rfl, HA, HK2, HO_0, HB⟩ := hrel
     cases gk with
     | zero => exact absurd HA.out (by simp [carryallref01_starts.l0])
     | succ k2 =>
      have H := HA.out
      clear HA
      simp only [carryallref01_starts.l0] at H
      by_cases c16 : x5_2 < (l0.length : Int)
      ·rw [if_pos c16] at H
       have c16b0 : decide (x5_2 < (l0.length : Int)) = true := decide_eq_true c16
       clear c16
       by_cases c17 : 0 ≤ x5_2
       ·rw [if_pos c17] at H
        have c17b0 : decide (0 ≤ x5_2) = true := decide_eq_true c17
        clear c17
        by_cases c18 : (rd l0 x5_2) < 128
        ·rw [if_pos c18] at H
         have c18b0 : decide ((rd l0 x5_2) < 128) = true := decide_eq_true c18
         clear c18
         simp only [Option.some.injEq, Prod.mk.injEq] at H
         obtain ⟨rfl, rfl⟩ := H
         have p179 : 0 ≤ (x5_2 : Int) := of_decide_eq_true (by first | (with_reducible assumption) | assumption)
         have q179 : x5_2 < (l0.length : Int) := of_decide_eq_true (by first | (with_reducible assumption) | assumption)
         obtain ⟨ad179, e179, hx179_0⟩ := Kd.at_int (Kd.V_reads' HO_0.out).2.2 x5_2 p179 q179
         cases e179
         replace p179 := eq_true p179
         replace q179 := eq_true q179
         go_wp2
         go_ret2
         exact ⟨by first | rfl | (simp [errW_none, errW_some] <;> rfl) | (simp [*, errW_none, errW_some] <;> rfl) | (simp [errW_none, errW_some, G.isEmpty_ne]; done), by repeat (first | (with_reducible first | exact HB.out | apply below_alloc | apply pw_below_drewN | apply below_drew1) | exact HB.out)⟩
        ·rw [if_neg c18] at H
         have c18b0 : decide ((rd l0 x5_2) < 128) = false := decide_eq_false c18
         clear c18
         by_cases c19 : (rd l0 x5_2) > 191
         ·rw [if_pos c19] at H
          have c19b0 : decide (191 < (rd l0 x5_2)) = true := decide_eq_true c19
          clear c19
          simp only [Option.some.injEq, Prod.mk.injEq] at H
          obtain ⟨rfl, rfl⟩ := H
          have p179 : 0 ≤ (x5_2 : Int) := of_decide_eq_true (by first | (with_reducible assumption) | assumption)
          have q179 : x5_2 < (l0.length : Int) := of_decide_eq_true (by first | (with_reducible assumption) | assumption)
          obtain ⟨ad179, e179, hx179_0⟩ := Kd.at_int (Kd.V_reads' HO_0.out).2.2 x5_2 p179 q179
          cases e179
          replace p179 := eq_true p179
          replace q179 := eq_true q179
          have p180 : 0 ≤ (x5_2 : Int) := of_decide_eq_true (by first | (with_reducible assumption) | assumption)
          have q180 : x5_2 < (l0.length : Int) := of_decide_eq_true (by first | (with_reducible assumption) | assumption)
          obtain ⟨ad180, e180, hx180_0⟩ := Kd.at_int (Kd.V_reads' HO_0.out).2.2 x5_2 p180 q180
          obtain rfl : ad179 = ad180 := (by injection e180)
          replace p180 := eq_true p180
          replace q180 := eq_true q180
          go_wp2
          go_ret2
          exact ⟨by first | rfl | (simp [errW_none, errW_some] <;> rfl) | (simp [*, errW_none, errW_some] <;> rfl) | (simp [errW_none, errW_some, G.isEmpty_ne]; done), by repeat (first | (with_reducible first | exact HB.out | apply below_alloc | apply pw_below_drewN | apply below_drew1) | exact HB.out)⟩
         ·rw [if_neg c19] at H
          have c19b0 : decide (191 < (rd l0 x5_2)) = false := decide_eq_false c19
          clear c19
          have H' := Aside0.mk H
          clear H
          have p179 : 0 ≤ (x5_2 : Int) := of_decide_eq_true (by first | (with_reducible assumption) | assumption)
          have q179 : x5_2 < (l0.length : Int) := of_decide_eq_true (by first | (with_reducible assumption) | assumption)
          obtain ⟨ad179, e179, hx179_0⟩ := Kd.at_int (Kd.V_reads' HO_0.out).2.2 x5_2 p179 q179
          cases e179
          replace p179 := eq_true p179
          replace q179 := eq_true q179
          have p180 : 0 ≤ (x5_2 : Int) := of_decide_eq_true (by first | (with_reducible assumption) | assumption)
          have q180 : x5_2 < (l0.length : Int) := of_decide_eq_true (by first | (with_reducible assumption) | assumption)
          obtain ⟨ad180, e180, hx180_0⟩ := Kd.at_int (Kd.V_reads' HO_0.out).2.2 x5_2 p180 q180
          obtain rfl : ad179 = ad180 := (by injection e180)
          replace p180 := eq_true p180
          replace q180 := eq_true q180
          go_wp2
          go_roundg k2
          case measure => have := HJ1.out; have := HK2.out; omega
          case rel => exact ⟨(wrap64 (x5_2 + 1)), (by first | rfl | (simp; done) | (simp [*]; done) | (simp [G.isEmpty_ne]; done)), H', ⟨by have := HJ1.out; have := HK2.out; omega⟩, ⟨by (with_reducible repeat (first | apply Kd.V_alloc | apply Kd.V_drewN | apply Kd.V_drew)); exact HO_0.out⟩, ⟨by repeat (first | (with_reducible first | exact HB.out | apply below_alloc | apply pw_below_drewN | apply below_drew1) | exact HB.out)⟩⟩
       ·rw [if_neg c17] at H
        exact absurd H (by simp)
      ·rw [if_neg c16] at H
       have c16b0 : decide (x5_2 < (l0.length : Int)) = false := decide_eq_false c16
       clear c16
       by_cases c20 : (l0.length : Int) > 1
       ·rw [if_pos c20] at H
        have c20b0 : decide (1 < (l0.length : Int)) = true := decide_eq_true c20
        have c20b1 : decide (1 < l0.length) = true := decide_eq_true (by omega)
        clear c20
        by_cases c21 : 0 < (l0.length : Int)
        ·rw [if_pos c21] at H
         have c21b0 : decide (0 < (l0.length : Int)) = true := decide_eq_true c21
         have c21b1 : decide (0 < l0.length) = true := decide_eq_true (by omega)
         clear c21
         by_cases c22 : (rd l0 0) = 224
         ·rw [if_pos c22] at H
          have c22b0 : ((rd l0 0) == 224) = true := beq_iff_eq.mpr c22
          have c22b1 : ((rd l0 0) != 224) = false := bne_eq_false_iff_eq.mpr c22
          clear c22
          by_cases c23 : 1 < (l0.length : Int)
          ·rw [if_pos c23] at H
           have c23b0 : decide (1 < (l0.length : Int)) = true := decide_eq_true c23
           have c23b1 : decide (1 < l0.length) = true := decide_eq_true (by omega)
           clear c23
           by_cases c24 : (rd l0 1) < 160
           ·rw [if_pos c24] at H
            have c24b0 : decide ((rd l0 1) < 160) = true := decide_eq_true c24
            clear c24
            simp only [Option.some.injEq, Prod.mk.injEq] at H
            obtain ⟨rfl, rfl⟩ := H
            have p181 : 0 ≤ (0 : Int) := (by omega)
            have q181 : 0 < (l0.length : Int) := of_decide_eq_true (by first | (with_reducible assumption) | assumption)
            obtain ⟨ad181, e181, hx181_0⟩ := Kd.at_int (Kd.V_reads' HO_0.out).2.2 0 p181 q181
            cases e181
            have qi181 : (0 < l0.length) = True := eq_true (by omega)
            (try rw [show ((0 : Int)).toNat = 0 from rfl] at hx181_0)
            (try rw [Addr.add_zero'] at hx181_0)
            replace p181 := eq_true p181
            replace q181 := eq_true q181
            have p182 : 0 ≤ (1 : Int) := (by omega)
            have q182 : 1 < (l0.length : Int) := of_decide_eq_true (by first | (with_reducible assumption) | assumption)
            obtain ⟨ad182, e182, hx182_0⟩ := Kd.at_int (Kd.V_reads' HO_0.out).2.2 1 p182 q182
            obtain rfl : ad181 = ad182 := (by injection e182)
            (try simp only [show (1 : Int).toNat = 1 from rfl, Nat.reduceMul, Nat.reduceEqDiff, Go.Addr.add, ↓reduceIte] at hx182_0)
            have qi182 : (1 < l0.length) = True := eq_true (by omega)
            (try rw [show ((1 : Int)).toNat = 1 from rfl] at hx182_0)
            replace p182 := eq_true p182
            replace q182 := eq_true q182
            go_wp2
            go_ret2
            exact ⟨by first | rfl | (simp [errW_none, errW_some] <;> rfl) | (simp [*, errW_none, errW_some] <;> rfl) | (simp [errW_none, errW_some, G.isEmpty_ne]; done), by repeat (first | (with_reducible first | exact HB.out | apply below_alloc | apply pw_below_drewN | apply below_drew1) | exact HB.out)⟩
           ·rw [if_neg c24] at H
            have c24b0 : decide ((rd l0 1) < 160) = false := decide_eq_false c24
            clear c24
            by_cases c25 : (rd l0 0) = 237
            ·rw [if_pos c25] at H
             have c25b0 : ((rd l0 0) == 237) = true := beq_iff_eq.mpr c25
             have c25b1 : ((rd l0 0) != 237) = false := bne_eq_false_iff_eq.mpr c25
             clear c25
             by_cases c26 : (rd l0 1) > 159
             ·rw [if_pos c26] at H
              have c26b0 : decide (159 < (rd l0 1)) = true := decide_eq_true c26
              clear c26
              simp only [Option.some.injEq, Prod.mk.injEq] at H
              obtain ⟨rfl, rfl⟩ := H
              have p181 : 0 ≤ (0 : Int) := (by omega)
              have q181 : 0 < (l0.length : Int) := of_decide_eq_true (by first | (with_reducible assumption) | assumption)
              obtain ⟨ad181, e181, hx181_0⟩ := Kd.at_int (Kd.V_reads' HO_0.out).2.2 0 p181 q181
              cases e181
              have qi181 : (0 < l0.length) = True := eq_true (by omega)
              (try rw [show ((0 : Int)).toNat = 0 from rfl] at hx181_0)
              (try rw [Addr.add_zero'] at hx181_0)
              replace p181 := eq_true p181
              replace q181 := eq_true q181
              have p182 : 0 ≤ (1 : Int) := (by omega)
              have q182 : 1 < (l0.length : Int) := of_decide_eq_true (by first | (with_reducible assumption) | assumption)
              obtain ⟨ad182, e182, hx182_0⟩ := Kd.at_int (Kd.V_reads' HO_0.out).2.2 1 p182 q182
              obtain rfl : ad181 = ad182 := (by injection e182)
              (try simp only [show (1 : Int).toNat = 1 from rfl, Nat.reduceMul, Nat.reduceEqDiff, Go.Addr.add, ↓reduceIte] at hx182_0)
              have qi182 : (1 < l0.length) = True := eq_true (by omega)
              (try rw [show ((1 : Int)).toNat = 1 from rfl] at hx182_0)
              replace p182 := eq_true p182
              replace q182 := eq_true q182
              have p183 : 0 ≤ (0 : Int) := (by omega)
              have q183 : 0 < (l0.length : Int) := of_decide_eq_true (by first | (with_reducible assumption) | assumption)
              obtain ⟨ad183, e183, hx183_0⟩ := Kd.at_int (Kd.V_reads' HO_0.out).2.2 0 p183 q183
              obtain rfl : ad181 = ad183 := (by injection e183)
              have qi183 : (0 < l0.length) = True := eq_true (by omega)
              (try rw [show ((0 : Int)).toNat = 0 from rfl] at hx183_0)
              (try rw [Addr.add_zero'] at hx183_0)
              replace p183 := eq_true p183
              replace q183 := eq_true q183
              have p184 : 0 ≤ (1 : Int) := (by omega)
              have q184 : 1 < (l0.length : Int) := of_decide_eq_true (by first | (with_reducible assumption) | assumption)
              obtain ⟨ad184, e184, hx184_0⟩ := Kd.at_int (Kd.V_reads' HO_0.out).2.2 1 p184 q184
              obtain rfl : ad181 = ad184 := (by injection e184)
              (try simp only [show (1 : Int).toNat = 1 from rfl, Nat.reduceMul, Nat.reduceEqDiff, Go.Addr.add, ↓reduceIte] at hx184_0)
              have qi184 : (1 < l0.length) = True := eq_true (by omega)
              (try rw [show ((1 : Int)).toNat = 1 from rfl] at hx184_0)
              replace p184 := eq_true p184
              replace q184 := eq_true q184
              go_wp2
              go_ret2
              exact ⟨by first | rfl | (simp [errW_none, errW_some] <;> rfl) | (simp [*, errW_none, errW_some] <;> rfl) | (simp [errW_none, errW_some, G.isEmpty_ne]; done), by repeat (first | (with_reducible first | exact HB.out | apply below_alloc | apply pw_below_drewN | apply below_drew1) | exact HB.out)⟩
             ·rw [if_neg c26] at H
              have c26b0 : decide (159 < (rd l0 1)) = false := decide_eq_false c26
              clear c26
              by_cases c27 : (rd l0 0) = 240
              ·rw [if_pos c27] at H
               have c27b0 : ((rd l0 0) == 240) = true := beq_iff_eq.mpr c27
               have c27b1 : ((rd l0 0) != 240) = false := bne_eq_false_iff_eq.mpr c27
               clear c27
               by_cases c28 : (rd l0 1) < 144
               ·rw [if_pos c28] at H
                have c28b0 : decide ((rd l0 1) < 144) = true := decide_eq_true c28
                clear c28
                simp only [Option.some.injEq, Prod.mk.injEq] at H
                obtain ⟨rfl, rfl⟩ := H
                have p181 : 0 ≤ (0 : Int) := (by omega)
                have q181 : 0 < (l0.length : Int) := of_decide_eq_true (by first | (with_reducible assumption) | assumption)
                obtain ⟨ad181, e181, hx181_0⟩ := Kd.at_int (Kd.V_reads' HO_0.out).2.2 0 p181 q181
                cases e181
                have qi181 : (0 < l0.length) = True := eq_true (by omega)
                (try rw [show ((0 : Int)).toNat = 0 from rfl] at hx181_0)
                (try rw [Addr.add_zero'] at hx181_0)
                replace p181 := eq_true p181
                replace q181 := eq_true q181
                have p182 : 0 ≤ (1 : Int) := (by omega)
                have q182 : 1 < (l0.length : Int) := of_decide_eq_true (by first | (with_reducible assumption) | assumption)
                obtain ⟨ad182, e182, hx182_0⟩ := Kd.at_int (Kd.V_reads' HO_0.out).2.2 1 p182 q182
                obtain rfl : ad181 = ad182 := (by injection e182)
                (try simp only [show (1 : Int).toNat = 1 from rfl, Nat.reduceMul, Nat.reduceEqDiff, Go.Addr.add, ↓reduceIte] at hx182_0)
                have qi182 : (1 < l0.length) = True := eq_true (by omega)
                (try rw [show ((1 : Int)).toNat = 1 from rfl] at hx182_0)
                replace p182 := eq_true p182
                replace q182 := eq_true q182
                have p183 : 0 ≤ (0 : Int) := (by omega)
                have q183 : 0 < (l0.length : Int) := of_decide_eq_true (by first | (with_reducible assumption) | assumption)
                obtain ⟨ad183, e183, hx183_0⟩ := Kd.at_int (Kd.V_reads' HO_0.out).2.2 0 p183 q183
                obtain rfl : ad181 = ad183 := (by injection e183)
                have qi183 : (0 < l0.length) = True := eq_true (by omega)
                (try rw [show ((0 : Int)).toNat = 0 from rfl] at hx183_0)
                (try rw [Addr.add_zero'] at hx183_0)
                replace p183 := eq_true p183
                replace q183 := eq_true q183
                have p184 : 0 ≤ (1 : Int) := (by omega)
                have q184 : 1 < (l0.length : Int) := of_decide_eq_true (by first | (with_reducible assumption) | assumption)
                obtain ⟨ad184, e184, hx184_0⟩ := Kd.at_int (Kd.V_reads' HO_0.out).2.2 1 p184 q184
                obtain rfl : ad181 = ad184 := (by injection e184)
                (try simp only [show (1 : Int).toNat = 1 from rfl, Nat.reduceMul, Nat.reduceEqDiff, Go.Addr.add, ↓reduceIte] at hx184_0)
                have qi184 : (1 < l0.length) = True := eq_true (by omega)
                (try rw [show ((1 : Int)).toNat = 1 from rfl] at hx184_0)
                replace p184 := eq_true p184
                replace q184 := eq_true q184
                have p185 : 0 ≤ (0 : Int) := (by omega)
                have q185 : 0 < (l0.length : Int) := of_decide_eq_true (by first | (with_reducible assumption) | assumption)
                obtain ⟨ad185, e185, hx185_0⟩ := Kd.at_int (Kd.V_reads' HO_0.out).2.2 0 p185 q185
                obtain rfl : ad181 = ad185 := (by injection e185)
                have qi185 : (0 < l0.length) = True := eq_true (by omega)
                (try rw [show ((0 : Int)).toNat = 0 from rfl] at hx185_0)
                (try rw [Addr.add_zero'] at hx185_0)
                replace p185 := eq_true p185
                replace q185 := eq_true q185
                have p186 : 0 ≤ (1 : Int) := (by omega)
                have q186 : 1 < (l0.length : Int) := of_decide_eq_true (by first | (with_reducible assumption) | assumption)
                obtain ⟨ad186, e186, hx186_0⟩ := Kd.at_int (Kd.V_reads' HO_0.out).2.2 1 p186 q186
                obtain rfl : ad181 = ad186 := (by injection e186)
                (try simp only [show (1 : Int).toNat = 1 from rfl, Nat.reduceMul, Nat.reduceEqDiff, Go.Addr.add, ↓reduceIte] at hx186_0)
                have qi186 : (1 < l0.length) = True := eq_true (by omega)
                (try rw [show ((1 : Int)).toNat = 1 from rfl] at hx186_0)
                replace p186 := eq_true p186
                replace q186 := eq_true q186
                go_wp2
                go_ret2
                exact ⟨by first | rfl | (simp [errW_none, errW_some] <;> rfl) | (simp [*, errW_none, errW_some] <;> rfl) | (simp [errW_none, errW_some, G.isEmpty_ne]; done), by repeat (first | (with_reducible first | exact HB.out | apply below_alloc | apply pw_below_drewN | apply below_drew1) | exact HB.out)⟩
               ·rw [if_neg c28] at H
                have c28b0 : decide ((rd l0 1) < 144) = false := decide_eq_false c28
                clear c28
                by_cases c29 : (rd l0 0) = 244
                ·rw [if_pos c29] at H
                 have c29b0 : ((rd l0 0) == 244) = true := beq_iff_eq.mpr c29
                 have c29b1 : ((rd l0 0) != 244) = false := bne_eq_false_iff_eq.mpr c29
                 clear c29
                 by_cases c30 : (rd l0 1) > 143
                 ·rw [if_pos c30] at H
                  have c30b0 : decide (143 < (rd l0 1)) = true := decide_eq_true c30
                  clear c30
                  simp only [Option.some.injEq, Prod.mk.injEq] at H
                  obtain ⟨rfl, rfl⟩ := H
                  have p181 : 0 ≤ (0 : Int) := (by omega)
                  have q181 : 0 < (l0.length : Int) := of_decide_eq_true (by first | (with_reducible assumption) | assumption)
                  obtain ⟨ad181, e181, hx181_0⟩ := Kd.at_int (Kd.V_reads' HO_0.out).2.2 0 p181 q181
                  cases e181
                  have qi181 : (0 < l0.length) = True := eq_true (by omega)
                  (try rw [show ((0 : Int)).toNat = 0 from rfl] at hx181_0)
                  (try rw [Addr.add_zero'] at hx181_0)
                  replace p181 := eq_true p181
                  replace q181 := eq_true q181
                  have p182 : 0 ≤ (1 : Int) := (by omega)
                  have q182 : 1 < (l0.length : Int) := of_decide_eq_true (by first | (with_reducible assumption) | assumption)
                  obtain ⟨ad182, e182, hx182_0⟩ := Kd.at_int (Kd.V_reads' HO_0.out).2.2 1 p182 q182
                  obtain rfl : ad181 = ad182 := (by injection e182)
                  (try simp only [show (1 : Int).toNat = 1 from rfl, Nat.reduceMul, Nat.reduceEqDiff, Go.Addr.add, ↓reduceIte] at hx182_0)
                  have qi182 : (1 < l0.length) = True := eq_true (by omega)
                  (try rw [show ((1 : Int)).toNat = 1 from rfl] at hx182_0)
                  replace p182 := eq_true p182
                  replace q182 := eq_true q182
                  have p183 : 0 ≤ (0 : Int) := (by omega)
                  have q183 : 0 < (l0.length : Int) := of_decide_eq_true (by first | (with_reducible assumption) | assumption)
                  obtain ⟨ad183, e183, hx183_0⟩ := Kd.at_int (Kd.V_reads' HO_0.out).2.2 0 p183 q183
                  obtain rfl : ad181 = ad183 := (by injection e183)
                  have qi183 : (0 < l0.length) = True := eq_true (by omega)
                  (try rw [show ((0 : Int)).toNat = 0 from rfl] at hx183_0)
                  (try rw [Addr.add_zero'] at hx183_0)
                  replace p183 := eq_true p183
                  replace q183 := eq_true q183
                  have p184 : 0 ≤ (1 : Int) := (by omega)
                  have q184 : 1 < (l0.length : Int) := of_decide_eq_true (by first | (with_reducible assumption) | assumption)
                  obtain ⟨ad184, e184, hx184_0⟩ := Kd.at_int (Kd.V_reads' HO_0.out).2.2 1 p184 q184
                  obtain rfl : ad181 = ad184 := (by injection e184)
                  (try simp only [show (1 : Int).toNat = 1 from rfl, Nat.reduceMul, Nat.reduceEqDiff, Go.Addr.add, ↓reduceIte] at hx184_0)
                  have qi184 : (1 < l0.length) = True := eq_true (by omega)
                  (try rw [show ((1 : Int)).toNat = 1 from rfl] at hx184_0)
                  replace p184 := eq_true p184
                  replace q184 := eq_true q184
                  have p185 : 0 ≤ (0 : Int) := (by omega)
                  have q185 : 0 < (l0.length : Int) := of_decide_eq_true (by first | (with_reducible assumption) | assumption)
                  obtain ⟨ad185, e185, hx185_0⟩ := Kd.at_int (Kd.V_reads' HO_0.out).2.2 0 p185 q185
                  obtain rfl : ad181 = ad185 := (by injection e185)
                  have qi185 : (0 < l0.length) = True := eq_true (by omega)
                  (try rw [show ((0 : Int)).toNat = 0 from rfl] at hx185_0)
                  (try rw [Addr.add_zero'] at hx185_0)
                  replace p185 := eq_true p185
                  replace q185 := eq_true q185
                  have p186 : 0 ≤ (1 : Int) := (by omega)
                  have q186 : 1 < (l0.length : Int) := of_decide_eq_true (by first | (with_reducible assumption) | assumption)
                  obtain ⟨ad186, e186, hx186_0⟩ := Kd.at_int (Kd.V_reads' HO_0.out).2.2 1 p186 q186
                  obtain rfl : ad181 = ad186 := (by injection e186)
                  (try simp only [show (1 : Int).toNat = 1 from rfl, Nat.reduceMul, Nat.reduceEqDiff, Go.Addr.add, ↓reduceIte] at hx186_0)
                  have qi186 : (1 < l0.length) = True := eq_true (by omega)
                  (try rw [show ((1 : Int)).toNat = 1 from rfl] at hx186_0)
                  replace p186 := eq_true p186
                  replace q186 := eq_true q186
                  have p187 : 0 ≤ (0 : Int) := (by omega)
                  have q187 : 0 < (l0.length : Int) := of_decide_eq_true (by first | (with_reducible assumption) | assumption)
                  obtain ⟨ad187, e187, hx187_0⟩ := Kd.at_int (Kd.V_reads' HO_0.out).2.2 0 p187 q187
                  obtain rfl : ad181 = ad187 := (by injection e187)
                  have qi187 : (0 < l0.length) = True := eq_true (by omega)
                  (try rw [show ((0 : Int)).toNat = 0 from rfl] at hx187_0)
                  (try rw [Addr.add_zero'] at hx187_0)
                  replace p187 := eq_true p187
                  replace q187 := eq_true q187
                  have p188 : 0 ≤ (1 : Int) := (by omega)
                  have q188 : 1 < (l0.length : Int) := of_decide_eq_true (by first | (with_reducible assumption) | assumption)
                  obtain ⟨ad188, e188, hx188_0⟩ := Kd.at_int (Kd.V_reads' HO_0.out).2.2 1 p188 q188
                  obtain rfl : ad181 = ad188 := (by injection e188)
                  (try simp only [show (1 : Int).toNat = 1 from rfl, Nat.reduceMul, Nat.reduceEqDiff, Go.Addr.add, ↓reduceIte] at hx188_0)
                  have qi188 : (1 < l0.length) = True := eq_true (by omega)
                  (try rw [show ((1 : Int)).toNat = 1 from rfl] at hx188_0)
                  replace p188 := eq_true p188
                  replace q188 := eq_true q188
                  go_wp2
                  go_ret2
                  exact ⟨by first | rfl | (simp [errW_none, errW_some] <;> rfl) | (simp [*, errW_none, errW_some] <;> rfl) | (simp [errW_none, errW_some, G.isEmpty_ne]; done), by repeat (first | (with_reducible first | exact HB.out | apply below_alloc | apply pw_below_drewN | apply below_drew1) | exact HB.out)⟩
                 ·rw [if_neg c30] at H
                  have c30b0 : decide (143 < (rd l0 1)) = false := decide_eq_false c30
                  clear c30
                  simp only [Option.some.injEq, Prod.mk.injEq] at H
                  obtain ⟨rfl, rfl⟩ := H
                  have p181 : 0 ≤ (0 : Int) := (by omega)
                  have q181 : 0 < (l0.length : Int) := of_decide_eq_true (by first | (with_reducible assumption) | assumption)
                  obtain ⟨ad181, e181, hx181_0⟩ := Kd.at_int (Kd.V_reads' HO_0.out).2.2 0 p181 q181
                  cases e181
                  have qi181 : (0 < l0.length) = True := eq_true (by omega)
                  (try rw [show ((0 : Int)).toNat = 0 from rfl] at hx181_0)
                  (try rw [Addr.add_zero'] at hx181_0)
                  replace p181 := eq_true p181
                  replace q181 := eq_true q181
                  have p182 : 0 ≤ (1 : Int) := (by omega)
                  have q182 : 1 < (l0.length : Int) := of_decide_eq_true (by first | (with_reducible assumption) | assumption)
                  obtain ⟨ad182, e182, hx182_0⟩ := Kd.at_int (Kd.V_reads' HO_0.out).2.2 1 p182 q182
                  obtain rfl : ad181 = ad182 := (by injection e182)
                  (try simp only [show (1 : Int).toNat = 1 from rfl, Nat.reduceMul, Nat.reduceEqDiff, Go.Addr.add, ↓reduceIte] at hx182_0)
                  have qi182 : (1 < l0.length) = True := eq_true (by omega)
                  (try rw [show ((1 : Int)).toNat = 1 from rfl] at hx182_0)
                  replace p182 := eq_true p182
                  replace q182 := eq_true q182
                  have p183 : 0 ≤ (0 : Int) := (by omega)
                  have q183 : 0 < (l0.length : Int) := of_decide_eq_true (by first | (with_reducible assumption) | assumption)
                  obtain ⟨ad183, e183, hx183_0⟩ := Kd.at_int (Kd.V_reads' HO_0.out).2.2 0 p183 q183
                  obtain rfl : ad181 = ad183 := (by injection e183)
                  have qi183 : (0 < l0.length) = True := eq_true (by omega)
                  (try rw [show ((0 : Int)).toNat = 0 from rfl] at hx183_0)
                  (try rw [Addr.add_zero'] at hx183_0)
                  replace p183 := eq_true p183
                  replace q183 := eq_true q183
                  have p184 : 0 ≤ (1 : Int) := (by omega)
                  have q184 : 1 < (l0.length : Int) := of_decide_eq_true (by first | (with_reducible assumption) | assumption)
                  obtain ⟨ad184, e184, hx184_0⟩ := Kd.at_int (Kd.V_reads' HO_0.out).2.2 1 p184 q184
                  obtain rfl : ad181 = ad184 := (by injection e184)
                  (try simp only [show (1 : Int).toNat = 1 from rfl, Nat.reduceMul, Nat.reduceEqDiff, Go.Addr.add, ↓reduceIte] at hx184_0)
                  have qi184 : (1 < l0.length) = True := eq_true (by omega)
                  (try rw [show ((1 : Int)).toNat = 1 from rfl] at hx184_0)
                  replace p184 := eq_true p184
                  replace q184 := eq_true q184
                  have p185 : 0 ≤ (0 : Int) := (by omega)
                  have q185 : 0 < (l0.length : Int) := of_decide_eq_true (by first | (with_reducible assumption) | assumption)
                  obtain ⟨ad185, e185, hx185_0⟩ := Kd.at_int (Kd.V_reads' HO_0.out).2.2 0 p185 q185
                  obtain rfl : ad181 = ad185 := (by injection e185)
                  have qi185 : (0 < l0.length) = True := eq_true (by omega)
                  (try rw [show ((0 : Int)).toNat = 0 from rfl] at hx185_0)
                  (try rw [Addr.add_zero'] at hx185_0)
                  replace p185 := eq_true p185
                  replace q185 := eq_true q185
                  have p186 : 0 ≤ (1 : Int) := (by omega)
                  have q186 : 1 < (l0.length : Int) := of_decide_eq_true (by first | (with_reducible assumption) | assumption)
                  obtain ⟨ad186, e186, hx186_0⟩ := Kd.at_int (Kd.V_reads' HO_0.out).2.2 1 p186 q186
                  obtain rfl : ad181 = ad186 := (by injection e186)
                  (try simp only [show (1 : Int).toNat = 1 from rfl, Nat.reduceMul, Nat.reduceEqDiff, Go.Addr.add, ↓reduceIte] at hx186_0)
                  have qi186 : (1 < l0.length) = True := eq_true (by omega)
                  (try rw [show ((1 : Int)).toNat = 1 from rfl] at hx186_0)
                  replace p186 := eq_true p186
                  replace q186 := eq_true q186
                  have p187 : 0 ≤ (0 : Int) := (by omega)
                  have q187 : 0 < (l0.length : Int) := of_decide_eq_true (by first | (with_reducible assumption) | assumption)
                  obtain ⟨ad187, e187, hx187_0⟩ := Kd.at_int (Kd.V_reads' HO_0.out).2.2 0 p187 q187
                  obtain rfl : ad181 = ad187 := (by injection e187)
                  have qi187 : (0 < l0.length) = True := eq_true (by omega)
                  (try rw [show ((0 : Int)).toNat = 0 from rfl] at hx187_0)
                  (try rw [Addr.add_zero'] at hx187_0)
                  replace p187 := eq_true p187
                  replace q187 := eq_true q187
                  have p188 : 0 ≤ (1 : Int) := (by omega)
                  have q188 : 1 < (l0.length : Int) := of_decide_eq_true (by first | (with_reducible assumption) | assumption)
                  obtain ⟨ad188, e188, hx188_0⟩ := Kd.at_int (Kd.V_reads' HO_0.out).2.2 1 p188 q188
                  obtain rfl : ad181 = ad188 := (by injection e188)
                  (try simp only [show (1 : Int).toNat = 1 from rfl, Nat.reduceMul, Nat.reduceEqDiff, Go.Addr.add, ↓reduceIte] at hx188_0)
                  have qi188 : (1 < l0.length) = True := eq_true (by omega)
                  (try rw [show ((1 : Int)).toNat = 1 from rfl] at hx188_0)
                  replace p188 := eq_true p188
                  replace q188 := eq_true q188
                  go_wp2
                  go_ret2
                  exact ⟨by first | rfl | (simp [errW_none, errW_some] <;> rfl) | (simp [*, errW_none, errW_some] <;> rfl) | (simp [errW_none, errW_some, G.isEmpty_ne]; done), by repeat (first | (with_reducible first | exact HB.out | apply below_alloc | apply pw_below_drewN | apply below_drew1) | exact HB.out)⟩
                ·rw [if_neg c29] at H
                 have c29b0 : ((rd l0 0) == 244) = false := beq_eq_false_iff_ne.mpr c29
                 have c29b1 : ((rd l0 0) != 244) = true := bne_iff_ne.mpr c29
                 simp only [Option.some.injEq, Prod.mk.injEq] at H
                 obtain ⟨rfl, rfl⟩ := H
                 have p181 : 0 ≤ (0 : Int) := (by omega)
                 have q181 : 0 < (l0.length : Int) := of_decide_eq_true (by first | (with_reducible assumption) | assumption)
                 obtain ⟨ad181, e181, hx181_0⟩ := Kd.at_int (Kd.V_reads' HO_0.out).2.2 0 p181 q181
                 cases e181
                 have qi181 : (0 < l0.length) = True := eq_true (by omega)
                 (try rw [show ((0 : Int)).toNat = 0 from rfl] at hx181_0)
                 (try rw [Addr.add_zero'] at hx181_0)
                 replace p181 := eq_true p181
                 replace q181 := eq_true q181
                 have p182 : 0 ≤ (1 : Int) := (by omega)
                 have q182 : 1 < (l0.length : Int) := of_decide_eq_true (by first | (with_reducible assumption) | assumption)
                 obtain ⟨ad182, e182, hx182_0⟩ := Kd.at_int (Kd.V_reads' HO_0.out).2.2 1 p182 q182
                 obtain rfl : ad181 = ad182 := (by injection e182)
                 (try simp only [show (1 : Int).toNat = 1 from rfl, Nat.reduceMul, Nat.reduceEqDiff, Go.Addr.add, ↓reduceIte] at hx182_0)
                 have qi182 : (1 < l0.length) = True := eq_true (by omega)
                 (try rw [show ((1 : Int)).toNat = 1 from rfl] at hx182_0)
                 replace p182 := eq_true p182
                 replace q182 := eq_true q182
                 have p183 : 0 ≤ (0 : Int) := (by omega)
                 have q183 : 0 < (l0.length : Int) := of_decide_eq_true (by first | (with_reducible assumption) | assumption)
                 obtain ⟨ad183, e183, hx183_0⟩ := Kd.at_int (Kd.V_reads' HO_0.out).2.2 0 p183 q183
                 obtain rfl : ad181 = ad183 := (by injection e183)
                 have qi183 : (0 < l0.length) = True := eq_true (by omega)
                 (try rw [show ((0 : Int)).toNat = 0 from rfl] at hx183_0)
                 (try rw [Addr.add_zero'] at hx183_0)
                 replace p183 := eq_true p183
                 replace q183 := eq_true q183
                 have p184 : 0 ≤ (1 : Int) := (by omega)
                 have q184 : 1 < (l0.length : Int) := of_decide_eq_true (by first | (with_reducible assumption) | assumption)
                 obtain ⟨ad184, e184, hx184_0⟩ := Kd.at_int (Kd.V_reads' HO_0.out).2.2 1 p184 q184
                 obtain rfl : ad181 = ad184 := (by injection e184)
                 (try simp only [show (1 : Int).toNat = 1 from rfl, Nat.reduceMul, Nat.reduceEqDiff, Go.Addr.add, ↓reduceIte] at hx184_0)
                 have qi184 : (1 < l0.length) = True := eq_true (by omega)
                 (try rw [show ((1 : Int)).toNat = 1 from rfl] at hx184_0)
                 replace p184 := eq_true p184
                 replace q184 := eq_true q184
                 have p185 : 0 ≤ (0 : Int) := (by omega)
                 have q185 : 0 < (l0.length : Int) := of_decide_eq_true (by first | (with_reducible assumption) | assumption)
                 obtain ⟨ad185, e185, hx185_0⟩ := Kd.at_int (Kd.V_reads' HO_0.out).2.2 0 p185 q185
                 obtain rfl : ad181 = ad185 := (by injection e185)
                 have qi185 : (0 < l0.length) = True := eq_true (by omega)
                 (try rw [show ((0 : Int)).toNat = 0 from rfl] at hx185_0)
                 (try rw [Addr.add_zero'] at hx185_0)
                 replace p185 := eq_true p185
                 replace q185 := eq_true q185
                 have p186 : 0 ≤ (1 : Int) := (by omega)
                 have q186 : 1 < (l0.length : Int) := of_decide_eq_true (by first | (with_reducible assumption) | assumption)
                 obtain ⟨ad186, e186, hx186_0⟩ := Kd.at_int (Kd.V_reads' HO_0.out).2.2 1 p186 q186
                 obtain rfl : ad181 = ad186 := (by injection e186)
                 (try simp only [show (1 : Int).toNat = 1 from rfl, Nat.reduceMul, Nat.reduceEqDiff, Go.Addr.add, ↓reduceIte] at hx186_0)
                 have qi186 : (1 < l0.length) = True := eq_true (by omega)
                 (try rw [show ((1 : Int)).toNat = 1 from rfl] at hx186_0)
                 replace p186 := eq_true p186
                 replace q186 := eq_true q186
                 have p187 : 0 ≤ (0 : Int) := (by omega)
                 have q187 : 0 < (l0.length : Int) := of_decide_eq_true (by first | (with_reducible assumption) | assumption)
                 obtain ⟨ad187, e187, hx187_0⟩ := Kd.at_int (Kd.V_reads' HO_0.out).2.2 0 p187 q187
                 obtain rfl : ad181 = ad187 := (by injection e187)
                 have qi187 : (0 < l0.length) = True := eq_true (by omega)
                 (try rw [show ((0 : Int)).toNat = 0 from rfl] at hx187_0)
                 (try rw [Addr.add_zero'] at hx187_0)
                 replace p187 := eq_true p187
                 replace q187 := eq_true q187
                 go_wp2
                 go_ret2
                 exact ⟨by first | rfl | (simp [errW_none, errW_some] <;> rfl) | (simp [*, errW_none, errW_some] <;> rfl) | (simp [errW_none, errW_some, G.isEmpty_ne]; done), by repeat (first | (with_reducible first | exact HB.out | apply below_alloc | apply pw_below_drewN | apply below_drew1) | exact HB.out)⟩
              ·rw [if_neg c27] at H
               have c27b0 : ((rd l0 0) == 240) = false := beq_eq_false_iff_ne.mpr c27
               have c27b1 : ((rd l0 0) != 240) = true := bne_iff_ne.mpr c27
               by_cases c31 : (rd l0 0) = 244
               ·rw [if_pos c31] at H
                have c31b0 : ((rd l0 0) == 244) = true := beq_iff_eq.mpr c31
                have c31b1 : ((rd l0 0) != 244) = false := bne_eq_false_iff_eq.mpr c31
                clear c31
                by_cases c32 : (rd l0 1) > 143
                ·rw [if_pos c32] at H
                 have c32b0 : decide (143 < (rd l0 1)) = true := decide_eq_true c32
                 clear c32
                 simp only [Option.some.injEq, Prod.mk.injEq] at H
                 obtain ⟨rfl, rfl⟩ := H
                 have p181 : 0 ≤ (0 : Int) := (by omega)
                 have q181 : 0 < (l0.length : Int) := of_decide_eq_true (by first | (with_reducible assumption) | assumption)
                 obtain ⟨ad181, e181, hx181_0⟩ := Kd.at_int (Kd.V_reads' HO_0.out).2.2 0 p181 q181
                 cases e181
                 have qi181 : (0 < l0.length) = True := eq_true (by omega)
                 (try rw [show ((0 : Int)).toNat = 0 from rfl] at hx181_0)
                 (try rw [Addr.add_zero'] at hx181_0)
                 replace p181 := eq_true p181
                 replace q181 := eq_true q181
                 have p182 : 0 ≤ (1 : Int) := (by omega)
                 have q182 : 1 < (l0.length : Int) := of_decide_eq_true (by first | (with_reducible assumption) | assumption)
                 obtain ⟨ad182, e182, hx182_0⟩ := Kd.at_int (Kd.V_reads' HO_0.out).2.2 1 p182 q182
                 obtain rfl : ad181 = ad182 := (by injection e182)
                 (try simp only [show (1 : Int).toNat = 1 from rfl, Nat.reduceMul, Nat.reduceEqDiff, Go.Addr.add, ↓reduceIte] at hx182_0)
                 have qi182 : (1 < l0.length) = True := eq_true (by omega)
                 (try rw [show ((1 : Int)).toNat = 1 from rfl] at hx182_0)
                 replace p182 := eq_true p182
                 replace q182 := eq_true q182
                 have p183 : 0 ≤ (0 : Int) := (by omega)
                 have q183 : 0 < (l0.length : Int) := of_decide_eq_true (by first | (with_reducible assumption) | assumption)
                 obtain ⟨ad183, e183, hx183_0⟩ := Kd.at_int (Kd.V_reads' HO_0.out).2.2 0 p183 q183
                 obtain rfl : ad181 = ad183 := (by injection e183)
                 have qi183 : (0 < l0.length) = True := eq_true (by omega)
                 (try rw [show ((0 : Int)).toNat = 0 from rfl] at hx183_0)
                 (try rw [Addr.add_zero'] at hx183_0)
                 replace p183 := eq_true p183
                 replace q183 := eq_true q183
                 have p184 : 0 ≤ (1 : Int) := (by omega)
                 have q184 : 1 < (l0.length : Int) := of_decide_eq_true (by first | (with_reducible assumption) | assumption)
                 obtain ⟨ad184, e184, hx184_0⟩ := Kd.at_int (Kd.V_reads' HO_0.out).2.2 1 p184 q184
                 obtain rfl : ad181 = ad184 := (by injection e184)
                 (try simp only [show (1 : Int).toNat = 1 from rfl, Nat.reduceMul, Nat.reduceEqDiff, Go.Addr.add, ↓reduceIte] at hx184_0)
                 have qi184 : (1 < l0.length) = True := eq_true (by omega)
                 (try rw [show ((1 : Int)).toNat = 1 from rfl] at hx184_0)
                 replace p184 := eq_true p184
                 replace q184 := eq_true q184
                 have p185 : 0 ≤ (0 : Int) := (by omega)
                 have q185 : 0 < (l0.length : Int) := of_decide_eq_true (by first | (with_reducible assumption) | assumption)
                 obtain ⟨ad185, e185, hx185_0⟩ := Kd.at_int (Kd.V_reads' HO_0.out).2.2 0 p185 q185
                 obtain rfl : ad181 = ad185 := (by injection e185)
                 have qi185 : (0 < l0.length) = True := eq_true (by omega)
                 (try rw [show ((0 : Int)).toNat = 0 from rfl] at hx185_0)
                 (try rw [Addr.add_zero'] at hx185_0)
                 replace p185 := eq_true p185
                 replace q185 := eq_true q185
                 have p189 : 0 ≤ (0 : Int) := (by omega)
                 have q189 : 0 < (l0.length : Int) := of_decide_eq_true (by first | (with_reducible assumption) | assumption)
                 obtain ⟨ad189, e189, hx189_0⟩ := Kd.at_int (Kd.V_reads' HO_0.out).2.2 0 p189 q189
                 obtain rfl : ad181 = ad189 := (by injection e189)
                 have qi189 : (0 < l0.length) = True := eq_true (by omega)
                 (try rw [show ((0 : Int)).toNat = 0 from rfl] at hx189_0)
                 (try rw [Addr.add_zero'] at hx189_0)
                 replace p189 := eq_true p189
                 replace q189 := eq_true q189
                 have p190 : 0 ≤ (1 : Int) := (by omega)
                 have q190 : 1 < (l0.length : Int) := of_decide_eq_true (by first | (with_reducible assumption) | assumption)
                 obtain ⟨ad190, e190, hx190_0⟩ := Kd.at_int (Kd.V_reads' HO_0.out).2.2 1 p190 q190
                 obtain rfl : ad181 = ad190 := (by injection e190)
                 (try simp only [show (1 : Int).toNat = 1 from rfl, Nat.reduceMul, Nat.reduceEqDiff, Go.Addr.add, ↓reduceIte] at hx190_0)
                 have qi190 : (1 < l0.length) = True := eq_true (by omega)
                 (try rw [show ((1 : Int)).toNat = 1 from rfl] at hx190_0)
                 replace p190 := eq_true p190
                 replace q190 := eq_true q190
                 go_wp2
                 go_ret2
                 exact ⟨by first | rfl | (simp [errW_none, errW_some] <;> rfl) | (simp [*, errW_none, errW_some] <;> rfl) | (simp [errW_none, errW_some, G.isEmpty_ne]; done), by repeat (first | (with_reducible first | exact HB.out | apply below_alloc | apply pw_below_drewN | apply below_drew1) | exact HB.out)⟩
                ·rw [if_neg c32] at H
                 have c32b0 : decide (143 < (rd l0 1)) = false := decide_eq_false c32
                 clear c32
                 simp only [Option.some.injEq, Prod.mk.injEq] at H
                 obtain ⟨rfl, rfl⟩ := H
                 have p181 : 0 ≤ (0 : Int) := (by omega)
                 have q181 : 0 < (l0.length : Int) := of_decide_eq_true (by first | (with_reducible assumption) | assumption)
                 obtain ⟨ad181, e181, hx181_0⟩ := Kd.at_int (Kd.V_reads' HO_0.out).2.2 0 p181 q181
                 cases e181
                 have qi181 : (0 < l0.length) = True := eq_true (by omega)
                 (try rw [show ((0 : Int)).toNat = 0 from rfl] at hx181_0)
                 (try rw [Addr.add_zero'] at hx181_0)
                 replace p181 := eq_true p181
                 replace q181 := eq_true q181
                 have p182 : 0 ≤ (1 : Int) := (by omega)
                 have q182 : 1 < (l0.length : Int) := of_decide_eq_true (by first | (with_reducible assumption) | assumption)
                 obtain ⟨ad182, e182, hx182_0⟩ := Kd.at_int (Kd.V_reads' HO_0.out).2.2 1 p182 q182
                 obtain rfl : ad181 = ad182 := (by injection e182)
                 (try simp only [show (1 : Int).toNat = 1 from rfl, Nat.reduceMul, Nat.reduceEqDiff, Go.Addr.add, ↓reduceIte] at hx182_0)
                 have qi182 : (1 < l0.length) = True := eq_true (by omega)
                 (try rw [show ((1 : Int)).toNat = 1 from rfl] at hx182_0)
                 replace p182 := eq_true p182
                 replace q182 := eq_true q182
                 have p183 : 0 ≤ (0 : Int) := (by omega)
                 have q183 : 0 < (l0.length : Int) := of_decide_eq_true (by first | (with_reducible assumption) | assumption)
                 obtain ⟨ad183, e183, hx183_0⟩ := Kd.at_int (Kd.V_reads' HO_0.out).2.2 0 p183 q183
                 obtain rfl : ad181 = ad183 := (by injection e183)
                 have qi183 : (0 < l0.length) = True := eq_true (by omega)
                 (try rw [show ((0 : Int)).toNat = 0 from rfl] at hx183_0)
                 (try rw [Addr.add_zero'] at hx183_0)
                 replace p183 := eq_true p183
                 replace q183 := eq_true q183
                 have p184 : 0 ≤ (1 : Int) := (by omega)
                 have q184 : 1 < (l0.length : Int) := of_decide_eq_true (by first | (with_reducible assumption) | assumption)
                 obtain ⟨ad184, e184, hx184_0⟩ := Kd.at_int (Kd.V_reads' HO_0.out).2.2 1 p184 q184
                 obtain rfl : ad181 = ad184 := (by injection e184)
                 (try simp only [show (1 : Int).toNat = 1 from rfl, Nat.reduceMul, Nat.reduceEqDiff, Go.Addr.add, ↓reduceIte] at hx184_0)
                 have qi184 : (1 < l0.length) = True := eq_true (by omega)
                 (try rw [show ((1 : Int)).toNat = 1 from rfl] at hx184_0)
                 replace p184 := eq_true p184
                 replace q184 := eq_true q184
                 have p185 : 0 ≤ (0 : Int) := (by omega)
                 have q185 : 0 < (l0.length : Int) := of_decide_eq_true (by first | (with_reducible assumption) | assumption)
                 obtain ⟨ad185, e185, hx185_0⟩ := Kd.at_int (Kd.V_reads' HO_0.out).2.2 0 p185 q185
                 obtain rfl : ad181 = ad185 := (by injection e185)
                 have qi185 : (0 < l0.length) = True := eq_true (by omega)
                 (try rw [show ((0 : Int)).toNat = 0 from rfl] at hx185_0)
                 (try rw [Addr.add_zero'] at hx185_0)
                 replace p185 := eq_true p185
                 replace q185 := eq_true q185
                 have p189 : 0 ≤ (0 : Int) := (by omega)
                 have q189 : 0 < (l0.length : Int) := of_decide_eq_true (by first | (with_reducible assumption) | assumption)
                 obtain ⟨ad189, e189, hx189_0⟩ := Kd.at_int (Kd.V_reads' HO_0.out).2.2 0 p189 q189
                 obtain rfl : ad181 = ad189 := (by injection e189)
                 have qi189 : (0 < l0.length) = True := eq_true (by omega)
                 (try rw [show ((0 : Int)).toNat = 0 from rfl] at hx189_0)
                 (try rw [Addr.add_zero'] at hx189_0)
                 replace p189 := eq_true p189
                 replace q189 := eq_true q189
                 have p190 : 0 ≤ (1 : Int) := (by omega)
                 have q190 : 1 < (l0.length : Int) := of_decide_eq_true (by first | (with_reducible assumption) | assumption)
                 obtain ⟨ad190, e190, hx190_0⟩ := Kd.at_int (Kd.V_reads' HO_0.out).2.2 1 p190 q190
                 obtain rfl : ad181 = ad190 := (by injection e190)
                 (try simp only [show (1 : Int).toNat = 1 from rfl, Nat.reduceMul, Nat.reduceEqDiff, Go.Addr.add, ↓reduceIte] at hx190_0)
                 have qi190 : (1 < l0.length) = True := eq_true (by omega)
                 (try rw [show ((1 : Int)).toNat = 1 from rfl] at hx190_0)
                 replace p190 := eq_true p190
                 replace q190 := eq_true q190
                 go_wp2
                 go_ret2
                 exact ⟨by first | rfl | (simp [errW_none, errW_some] <;> rfl) | (simp [*, errW_none, errW_some] <;> rfl) | (simp [errW_none, errW_some, G.isEmpty_ne]; done), by repeat (first | (with_reducible first | exact HB.out | apply below_alloc | apply pw_below_drewN | apply below_drew1) | exact HB.out)⟩
               ·rw [if_neg c31] at H
                have c31b0 : ((rd l0 0) == 244) = false := beq_eq_false_iff_ne.mpr c31
                have c31b1 : ((rd l0 0) != 244) = true := bne_iff_ne.mpr c31
                simp only [Option.some.injEq, Prod.mk.injEq] at H
                obtain ⟨rfl, rfl⟩ := H
                have p181 : 0 ≤ (0 : Int) := (by omega)
                have q181 : 0 < (l0.length : Int) := of_decide_eq_true (by first | (with_reducible assumption) | assumption)
                obtain ⟨ad181, e181, hx181_0⟩ := Kd.at_int (Kd.V_reads' HO_0.out).2.2 0 p181 q181
                cases e181
                have qi181 : (0 < l0.length) = True := eq_true (by omega)
                (try rw [show ((0 : Int)).toNat = 0 from rfl] at hx181_0)
                (try rw [Addr.add_zero'] at hx181_0)
                replace p181 := eq_true p181
                replace q181 := eq_true q181
                have p182 : 0 ≤ (1 : Int) := (by omega)
                have q182 : 1 < (l0.length : Int) := of_decide_eq_true (by first | (with_reducible assumption) | assumption)
                obtain ⟨ad182, e182, hx182_0⟩ := Kd.at_int (Kd.V_reads' HO_0.out).2.2 1 p182 q182
                obtain rfl : ad181 = ad182 := (by injection e182)
                (try simp only [show (1 : Int).toNat = 1 from rfl, Nat.reduceMul, Nat.reduceEqDiff, Go.Addr.add, ↓reduceIte] at hx182_0)
                have qi182 : (1 < l0.length) = True := eq_true (by omega)
                (try rw [show ((1 : Int)).toNat = 1 from rfl] at hx182_0)
                replace p182 := eq_true p182
                replace q182 := eq_true q182
                have p183 : 0 ≤ (0 : Int) := (by omega)
                have q183 : 0 < (l0.length : Int) := of_decide_eq_true (by first | (with_reducible assumption) | assumption)
                obtain ⟨ad183, e183, hx183_0⟩ := Kd.at_int (Kd.V_reads' HO_0.out).2.2 0 p183 q183
                obtain rfl : ad181 = ad183 := (by injection e183)
                have qi183 : (0 < l0.length) = True := eq_true (by omega)
                (try rw [show ((0 : Int)).toNat = 0 from rfl] at hx183_0)
                (try rw [Addr.add_zero'] at hx183_0)
                replace p183 := eq_true p183
                replace q183 := eq_true q183
                have p184 : 0 ≤ (1 : Int) := (by omega)
                have q184 : 1 < (l0.length : Int) := of_decide_eq_true (by first | (with_reducible assumption) | assumption)
                obtain ⟨ad184, e184, hx184_0⟩ := Kd.at_int (Kd.V_reads' HO_0.out).2.2 1 p184 q184
                obtain rfl : ad181 = ad184 := (by injection e184)
                (try simp only [show (1 : Int).toNat = 1 from rfl, Nat.reduceMul, Nat.reduceEqDiff, Go.Addr.add, ↓reduceIte] at hx184_0)
                have qi184 : (1 < l0.length) = True := eq_true (by omega)
                (try rw [show ((1 : Int)).toNat = 1 from rfl] at hx184_0)
                replace p184 := eq_true p184
                replace q184 := eq_true q184
                have p185 : 0 ≤ (0 : Int) := (by omega)
                have q185 : 0 < (l0.length : Int) := of_decide_eq_true (by first | (with_reducible assumption) | assumption)
                obtain ⟨ad185, e185, hx185_0⟩ := Kd.at_int (Kd.V_reads' HO_0.out).2.2 0 p185 q185
                obtain rfl : ad181 = ad185 := (by injection e185)
                have qi185 : (0 < l0.length) = True := eq_true (by omega)
                (try rw [show ((0 : Int)).toNat = 0 from rfl] at hx185_0)
                (try rw [Addr.add_zero'] at hx185_0)
                replace p185 := eq_true p185
                replace q185 := eq_true q185
                have p189 : 0 ≤ (0 : Int) := (by omega)
                have q189 : 0 < (l0.length : Int) := of_decide_eq_true (by first | (with_reducible assumption) | assumption)
                obtain ⟨ad189, e189, hx189_0⟩ := Kd.at_int (Kd.V_reads' HO_0.out).2.2 0 p189 q189
                obtain rfl : ad181 = ad189 := (by injection e189)
                have qi189 : (0 < l0.length) = True := eq_true (by omega)
                (try rw [show ((0 : Int)).toNat = 0 from rfl] at hx189_0)
                (try rw [Addr.add_zero'] at hx189_0)
                replace p189 := eq_true p189
                replace q189 := eq_true q189
                go_wp2
                go_ret2
                exact ⟨by first | rfl | (simp [errW_none, errW_some] <;> rfl) | (simp [*, errW_none, errW_some] <;> rfl) | (simp [errW_none, errW_some, G.isEmpty_ne]; done), by repeat (first | (with_reducible first | exact HB.out | apply below_alloc | apply pw_below_drewN | apply below_drew1) | exact HB.out)⟩
            ·rw [if_neg c25] at H
             have c25b0 : ((rd l0 0) == 237) = false := beq_eq_false_iff_ne.mpr c25
             have c25b1 : ((rd l0 0) != 237) = true := bne_iff_ne.mpr c25
             by_cases c33 : (rd l0 0) = 240
             ·rw [if_pos c33] at H
              have c33b0 : ((rd l0 0) == 240) = true := beq_iff_eq.mpr c33
              have c33b1 : ((rd l0 0) != 240) = false := bne_eq_false_iff_eq.mpr c33
              clear c33
              by_cases c34 : (rd l0 1) < 144
              ·rw [if_pos c34] at H
               have c34b0 : decide ((rd l0 1) < 144) = true := decide_eq_true c34
               clear c34
               simp only [Option.some.injEq, Prod.mk.injEq] at H
               obtain ⟨rfl, rfl⟩ := H
               have p181 : 0 ≤ (0 : Int) := (by omega)
               have q181 : 0 < (l0.length : Int) := of_decide_eq_true (by first | (with_reducible assumption) | assumption)
               obtain ⟨ad181, e181, hx181_0⟩ := Kd.at_int (Kd.V_reads' HO_0.out).2.2 0 p181 q181
               cases e181
               have qi181 : (0 < l0.length) = True := eq_true (by omega)
               (try rw [show ((0 : Int)).toNat = 0 from rfl] at hx181_0)
               (try rw [Addr.add_zero'] at hx181_0)
               replace p181 := eq_true p181
               replace q181 := eq_true q181
               have p182 : 0 ≤ (1 : Int) := (by omega)
               have q182 : 1 < (l0.length : Int) := of_decide_eq_true (by first | (with_reducible assumption) | assumption)
               obtain ⟨ad182, e182, hx182_0⟩ := Kd.at_int (Kd.V_reads' HO_0.out).2.2 1 p182 q182
               obtain rfl : ad181 = ad182 := (by injection e182)
               (try simp only [show (1 : Int).toNat = 1 from rfl, Nat.reduceMul, Nat.reduceEqDiff, Go.Addr.add, ↓reduceIte] at hx182_0)
               have qi182 : (1 < l0.length) = True := eq_true (by omega)
               (try rw [show ((1 : Int)).toNat = 1 from rfl] at hx182_0)
               replace p182 := eq_true p182
               replace q182 := eq_true q182
               have p183 : 0 ≤ (0 : Int) := (by omega)
               have q183 : 0 < (l0.length : Int) := of_decide_eq_true (by first | (with_reducible assumption) | assumption)
               obtain ⟨ad183, e183, hx183_0⟩ := Kd.at_int (Kd.V_reads' HO_0.out).2.2 0 p183 q183
               obtain rfl : ad181 = ad183 := (by injection e183)
               have qi183 : (0 < l0.length) = True := eq_true (by omega)
               (try rw [show ((0 : Int)).toNat = 0 from rfl] at hx183_0)
               (try rw [Addr.add_zero'] at hx183_0)
               replace p183 := eq_true p183
               replace q183 := eq_true q183
               have p191 : 0 ≤ (0 : Int) := (by omega)
               have q191 : 0 < (l0.length : Int) := of_decide_eq_true (by first | (with_reducible assumption) | assumption)
               obtain ⟨ad191, e191, hx191_0⟩ := Kd.at_int (Kd.V_reads' HO_0.out).2.2 0 p191 q191
               obtain rfl : ad181 = ad191 := (by injection e191)
               have qi191 : (0 < l0.length) = True := eq_true (by omega)
               (try rw [show ((0 : Int)).toNat = 0 from rfl] at hx191_0)
               (try rw [Addr.add_zero'] at hx191_0)
               replace p191 := eq_true p191
               replace q191 := eq_true q191
               have p192 : 0 ≤ (1 : Int) := (by omega)
               have q192 : 1 < (l0.length : Int) := of_decide_eq_true (by first | (with_reducible assumption) | assumption)
               obtain ⟨ad192, e192, hx192_0⟩ := Kd.at_int (Kd.V_reads' HO_0.out).2.2 1 p192 q192
               obtain rfl : ad181 = ad192 := (by injection e192)
               (try simp only [show (1 : Int).toNat = 1 from rfl, Nat.reduceMul, Nat.reduceEqDiff, Go.Addr.add, ↓reduceIte] at hx192_0)
               have qi192 : (1 < l0.length) = True := eq_true (by omega)
               (try rw [show ((1 : Int)).toNat = 1 from rfl] at hx192_0)
               replace p192 := eq_true p192
               replace q192 := eq_true q192
               go_wp2
               go_ret2
               exact ⟨by first | rfl | (simp [errW_none, errW_some] <;> rfl) | (simp [*, errW_none, errW_some] <;> rfl) | (simp [errW_none, errW_some, G.isEmpty_ne]; done), by repeat (first | (with_reducible first | exact HB.out | apply below_alloc | apply pw_below_drewN | apply below_drew1) | exact HB.out)⟩
              ·rw [if_neg c34] at H
               have c34b0 : decide ((rd l0 1) < 144) = false := decide_eq_false c34
               clear c34
               by_cases c35 : (rd l0 0) = 244
               ·rw [if_pos c35] at H
                have c35b0 : ((rd l0 0) == 244) = true := beq_iff_eq.mpr c35
                have c35b1 : ((rd l0 0) != 244) = false := bne_eq_false_iff_eq.mpr c35
                clear c35
                by_cases c36 : (rd l0 1) > 143
                ·rw [if_pos c36] at H
                 have c36b0 : decide (143 < (rd l0 1)) = true := decide_eq_true c36
                 clear c36
                 simp only [Option.some.injEq, Prod.mk.injEq] at H
                 obtain ⟨rfl, rfl⟩ := H
                 have p181 : 0 ≤ (0 : Int) := (by omega)
                 have q181 : 0 < (l0.length : Int) := of_decide_eq_true (by first | (with_reducible assumption) | assumption)
                 obtain ⟨ad181, e181, hx181_0⟩ := Kd.at_int (Kd.V_reads' HO_0.out).2.2 0 p181 q181
                 cases e181
                 have qi181 : (0 < l0.length) = True := eq_true (by omega)
                 (try rw [show ((0 : Int)).toNat = 0 from rfl] at hx181_0)
                 (try rw [Addr.add_zero'] at hx181_0)
                 replace p181 := eq_true p181
                 replace q181 := eq_true q181
                 have p182 : 0 ≤ (1 : Int) := (by omega)
                 have q182 : 1 < (l0.length : Int) := of_decide_eq_true (by first | (with_reducible assumption) | assumption)
                 obtain ⟨ad182, e182, hx182_0⟩ := Kd.at_int (Kd.V_reads' HO_0.out).2.2 1 p182 q182
                 obtain rfl : ad181 = ad182 := (by injection e182)
                 (try simp only [show (1 : Int).toNat = 1 from rfl, Nat.reduceMul, Nat.reduceEqDiff, Go.Addr.add, ↓reduceIte] at hx182_0)
                 have qi182 : (1 < l0.length) = True := eq_true (by omega)
                 (try rw [show ((1 : Int)).toNat = 1 from rfl] at hx182_0)
                 replace p182 := eq_true p182
                 replace q182 := eq_true q182
                 have p183 : 0 ≤ (0 : Int) := (by omega)
                 have q183 : 0 < (l0.length : Int) := of_decide_eq_true (by first | (with_reducible assumption) | assumption)
                 obtain ⟨ad183, e183, hx183_0⟩ := Kd.at_int (Kd.V_reads' HO_0.out).2.2 0 p183 q183
                 obtain rfl : ad181 = ad183 := (by injection e183)
                 have qi183 : (0 < l0.length) = True := eq_true (by omega)
                 (try rw [show ((0 : Int)).toNat = 0 from rfl] at hx183_0)
                 (try rw [Addr.add_zero'] at hx183_0)
                 replace p183 := eq_true p183
                 replace q183 := eq_true q183
                 have p191 : 0 ≤ (0 : Int) := (by omega)
                 have q191 : 0 < (l0.length : Int) := of_decide_eq_true (by first | (with_reducible assumption) | assumption)
                 obtain ⟨ad191, e191, hx191_0⟩ := Kd.at_int (Kd.V_reads' HO_0.out).2.2 0 p191 q191
                 obtain rfl : ad181 = ad191 := (by injection e191)
                 have qi191 : (0 < l0.length) = True := eq_true (by omega)
                 (try rw [show ((0 : Int)).toNat = 0 from rfl] at hx191_0)
                 (try rw [Addr.add_zero'] at hx191_0)
                 replace p191 := eq_true p191
                 replace q191 := eq_true q191
                 have p192 : 0 ≤ (1 : Int) := (by omega)
                 have q192 : 1 < (l0.length : Int) := of_decide_eq_true (by first | (with_reducible assumption) | assumption)
                 obtain ⟨ad192, e192, hx192_0⟩ := Kd.at_int (Kd.V_reads' HO_0.out).2.2 1 p192 q192
                 obtain rfl : ad181 = ad192 := (by injection e192)
                 (try simp only [show (1 : Int).toNat = 1 from rfl, Nat.reduceMul, Nat.reduceEqDiff, Go.Addr.add, ↓reduceIte] at hx192_0)
                 have qi192 : (1 < l0.length) = True := eq_true (by omega)
                 (try rw [show ((1 : Int)).toNat = 1 from rfl] at hx192_0)
                 replace p192 := eq_true p192
                 replace q192 := eq_true q192
                 have p193 : 0 ≤ (0 : Int) := (by omega)
                 have q193 : 0 < (l0.length : Int) := of_decide_eq_true (by first | (with_reducible assumption) | assumption)
                 obtain ⟨ad193, e193, hx193_0⟩ := Kd.at_int (Kd.V_reads' HO_0.out).2.2 0 p193 q193
                 obtain rfl : ad181 = ad193 := (by injection e193)
                 have qi193 : (0 < l0.length) = True := eq_true (by omega)
                 (try rw [show ((0 : Int)).toNat = 0 from rfl] at hx193_0)
                 (try rw [Addr.add_zero'] at hx193_0)
                 replace p193 := eq_true p193
                 replace q193 := eq_true q193
                 have p194 : 0 ≤ (1 : Int) := (by omega)
                 have q194 : 1 < (l0.length : Int) := of_decide_eq_true (by first | (with_reducible assumption) | assumption)
                 obtain ⟨ad194, e194, hx194_0⟩ := Kd.at_int (Kd.V_reads' HO_0.out).2.2 1 p194 q194
                 obtain rfl : ad181 = ad194 := (by injection e194)
                 (try simp only [show (1 : Int).toNat = 1 from rfl, Nat.reduceMul, Nat.reduceEqDiff, Go.Addr.add, ↓reduceIte] at hx194_0)
                 have qi194 : (1 < l0.length) = True := eq_true (by omega)
                 (try rw [show ((1 : Int)).toNat = 1 from rfl] at hx194_0)
                 replace p194 := eq_true p194
                 replace q194 := eq_true q194
                 go_wp2
                 go_ret2
                 exact ⟨by first | rfl | (simp [errW_none, errW_some] <;> rfl) | (simp [*, errW_none, errW_some] <;> rfl) | (simp [errW_none, errW_some, G.isEmpty_ne]; done), by repeat (first | (with_reducible first | exact HB.out | apply below_alloc | apply pw_below_drewN | apply below_drew1) | exact HB.out)⟩
                ·rw [if_neg c36] at H
                 have c36b0 : decide (143 < (rd l0 1)) = false := decide_eq_false c36
                 clear c36
                 simp only [Option.some.injEq, Prod.mk.injEq] at H
                 obtain ⟨rfl, rfl⟩ := H
                 have p181 : 0 ≤ (0 : Int) := (by omega)
                 have q181 : 0 < (l0.length : Int) := of_decide_eq_true (by first | (with_reducible assumption) | assumption)
                 obtain ⟨ad181, e181, hx181_0⟩ := Kd.at_int (Kd.V_reads' HO_0.out).2.2 0 p181 q181
                 cases e181
                 have qi181 : (0 < l0.length) = True := eq_true (by omega)
                 (try rw [show ((0 : Int)).toNat = 0 from rfl] at hx181_0)
                 (try rw [Addr.add_zero'] at hx181_0)
                 replace p181 := eq_true p181
                 replace q181 := eq_true q181
                 have p182 : 0 ≤ (1 : Int) := (by omega)
                 have q182 : 1 < (l0.length : Int) := of_decide_eq_true (by first | (with_reducible assumption) | assumption)
                 obtain ⟨ad182, e182, hx182_0⟩ := Kd.at_int (Kd.V_reads' HO_0.out).2.2 1 p182 q182
                 obtain rfl : ad181 = ad182 := (by injection e182)
                 (try simp only [show (1 : Int).toNat = 1 from rfl, Nat.reduceMul, Nat.reduceEqDiff, Go.Addr.add, ↓reduceIte] at hx182_0)
                 have qi182 : (1 < l0.length) = True := eq_true (by omega)
                 (try rw [show ((1 : Int)).toNat = 1 from rfl] at hx182_0)
                 replace p182 := eq_true p182
                 replace q182 := eq_true q182
                 have p183 : 0 ≤ (0 : Int) := (by omega)
                 have q183 : 0 < (l0.length : Int) := of_decide_eq_true (by first | (with_reducible assumption) | assumption)
                 obtain ⟨ad183, e183, hx183_0⟩ := Kd.at_int (Kd.V_reads' HO_0.out).2.2 0 p183 q183
                 obtain rfl : ad181 = ad183 := (by injection e183)
                 have qi183 : (0 < l0.length) = True := eq_true (by omega)
                 (try rw [show ((0 : Int)).toNat = 0 from rfl] at hx183_0)
                 (try rw [Addr.add_zero'] at hx183_0)
                 replace p183 := eq_true p183
                 replace q183 := eq_true q183
                 have p191 : 0 ≤ (0 : Int) := (by omega)
                 have q191 : 0 < (l0.length : Int) := of_decide_eq_true (by first | (with_reducible assumption) | assumption)
                 obtain ⟨ad191, e191, hx191_0⟩ := Kd.at_int (Kd.V_reads' HO_0.out).2.2 0 p191 q191
                 obtain rfl : ad181 = ad191 := (by injection e191)
                 have qi191 : (0 < l0.length) = True := eq_true (by omega)
                 (try rw [show ((0 : Int)).toNat = 0 from rfl] at hx191_0)
                 (try rw [Addr.add_zero'] at hx191_0)
                 replace p191 := eq_true p191
                 replace q191 := eq_true q191
                 have p192 : 0 ≤ (1 : Int) := (by omega)
                 have q192 : 1 < (l0.length : Int) := of_decide_eq_true (by first | (with_reducible assumption) | assumption)
                 obtain ⟨ad192, e192, hx192_0⟩ := Kd.at_int (Kd.V_reads' HO_0.out).2.2 1 p192 q192
                 obtain rfl : ad181 = ad192 := (by injection e192)
                 (try simp only [show (1 : Int).toNat = 1 from rfl, Nat.reduceMul, Nat.reduceEqDiff, Go.Addr.add, ↓reduceIte] at hx192_0)
                 have qi192 : (1 < l0.length) = True := eq_true (by omega)
                 (try rw [show ((1 : Int)).toNat = 1 from rfl] at hx192_0)
                 replace p192 := eq_true p192
                 replace q192 := eq_true q192
                 have p193 : 0 ≤ (0 : Int) := (by omega)
                 have q193 : 0 < (l0.length : Int) := of_decide_eq_true (by first | (with_reducible assumption) | assumption)
                 obtain ⟨ad193, e193, hx193_0⟩ := Kd.at_int (Kd.V_reads' HO_0.out).2.2 0 p193 q193
                 obtain rfl : ad181 = ad193 := (by injection e193)
                 have qi193 : (0 < l0.length) = True := eq_true (by omega)
                 (try rw [show ((0 : Int)).toNat = 0 from rfl] at hx193_0)
                 (try rw [Addr.add_zero'] at hx193_0)
                 replace p193 := eq_true p193
                 replace q193 := eq_true q193
                 have p194 : 0 ≤ (1 : Int) := (by omega)
                 have q194 : 1 < (l0.length : Int) := of_decide_eq_true (by first | (with_reducible assumption) | assumption)
                 obtain ⟨ad194, e194, hx194_0⟩ := Kd.at_int (Kd.V_reads' HO_0.out).2.2 1 p194 q194
                 obtain rfl : ad181 = ad194 := (by injection e194)
                 (try simp only [show (1 : Int).toNat = 1 from rfl, Nat.reduceMul, Nat.reduceEqDiff, Go.Addr.add, ↓reduceIte] at hx194_0)
                 have qi194 : (1 < l0.length) = True := eq_true (by omega)
                 (try rw [show ((1 : Int)).toNat = 1 from rfl] at hx194_0)
                 replace p194 := eq_true p194
                 replace q194 := eq_true q194
                 go_wp2
                 go_ret2
                 exact ⟨by first | rfl | (simp [errW_none, errW_some] <;> rfl) | (simp [*, errW_none, errW_some] <;> rfl) | (simp [errW_none, errW_some, G.isEmpty_ne]; done), by repeat (first | (with_reducible first | exact HB.out | apply below_alloc | apply pw_below_drewN | apply below_drew1) | exact HB.out)⟩
               ·rw [if_neg c35] at H
                have c35b0 : ((rd l0 0) == 244) = false := beq_eq_false_iff_ne.mpr c35
                have c35b1 : ((rd l0 0) != 244) = true := bne_iff_ne.mpr c35
                simp only [Option.some.injEq, Prod.mk.injEq] at H
                obtain ⟨rfl, rfl⟩ := H
                have p181 : 0 ≤ (0 : Int) := (by omega)
                have q181 : 0 < (l0.length : Int) := of_decide_eq_true (by first | (with_reducible assumption) | assumption)
                obtain ⟨ad181, e181, hx181_0⟩ := Kd.at_int (Kd.V_reads' HO_0.out).2.2 0 p181 q181
                cases e181
                have qi181 : (0 < l0.length) = True := eq_true (by omega)
                (try rw [show ((0 : Int)).toNat = 0 from rfl] at hx181_0)
                (try rw [Addr.add_zero'] at hx181_0)
                replace p181 := eq_true p181
                replace q181 := eq_true q181
                have p182 : 0 ≤ (1 : Int) := (by omega)
                have q182 : 1 < (l0.length : Int) := of_decide_eq_true (by first | (with_reducible assumption) | assumption)
                obtain ⟨ad182, e182, hx182_0⟩ := Kd.at_int (Kd.V_reads' HO_0.out).2.2 1 p182 q182
                obtain rfl : ad181 = ad182 := (by injection e182)
                (try simp only [show (1 : Int).toNat = 1 from rfl, Nat.reduceMul, Nat.reduceEqDiff, Go.Addr.add, ↓reduceIte] at hx182_0)
                have qi182 : (1 < l0.length) = True := eq_true (by omega)
                (try rw [show ((1 : Int)).toNat = 1 from rfl] at hx182_0)
                replace p182 := eq_true p182
                replace q182 := eq_true q182
                have p183 : 0 ≤ (0 : Int) := (by omega)
                have q183 : 0 < (l0.length : Int) := of_decide_eq_true (by first | (with_reducible assumption) | assumption)
                obtain ⟨ad183, e183, hx183_0⟩ := Kd.at_int (Kd.V_reads' HO_0.out).2.2 0 p183 q183
                obtain rfl : ad181 = ad183 := (by injection e183)
                have qi183 : (0 < l0.length) = True := eq_true (by omega)
                (try rw [show ((0 : Int)).toNat = 0 from rfl] at hx183_0)
                (try rw [Addr.add_zero'] at hx183_0)
                replace p183 := eq_true p183
                replace q183 := eq_true q183
                have p191 : 0 ≤ (0 : Int) := (by omega)
                have q191 : 0 < (l0.length : Int) := of_decide_eq_true (by first | (with_reducible assumption) | assumption)
                obtain ⟨ad191, e191, hx191_0⟩ := Kd.at_int (Kd.V_reads' HO_0.out).2.2 0 p191 q191
                obtain rfl : ad181 = ad191 := (by injection e191)
                have qi191 : (0 < l0.length) = True := eq_true (by omega)
                (try rw [show ((0 : Int)).toNat = 0 from rfl] at hx191_0)
                (try rw [Addr.add_zero'] at hx191_0)
                replace p191 := eq_true p191
                replace q191 := eq_true q191
                have p192 : 0 ≤ (1 : Int) := (by omega)
                have q192 : 1 < (l0.length : Int) := of_decide_eq_true (by first | (with_reducible assumption) | assumption)
                obtain ⟨ad192, e192, hx192_0⟩ := Kd.at_int (Kd.V_reads' HO_0.out).2.2 1 p192 q192
                obtain rfl : ad181 = ad192 := (by injection e192)
                (try simp only [show (1 : Int).toNat = 1 from rfl, Nat.reduceMul, Nat.reduceEqDiff, Go.Addr.add, ↓reduceIte] at hx192_0)
                have qi192 : (1 < l0.length) = True := eq_true (by omega)
                (try rw [show ((1 : Int)).toNat = 1 from rfl] at hx192_0)
                replace p192 := eq_true p192
                replace q192 := eq_true q192
                have p193 : 0 ≤ (0 : Int) := (by omega)
                have q193 : 0 < (l0.length : Int) := of_decide_eq_true (by first | (with_reducible assumption) | assumption)
                obtain ⟨ad193, e193, hx193_0⟩ := Kd.at_int (Kd.V_reads' HO_0.out).2.2 0 p193 q193
                obtain rfl : ad181 = ad193 := (by injection e193)
                have qi193 : (0 < l0.length) = True := eq_true (by omega)
                (try rw [show ((0 : Int)).toNat = 0 from rfl] at hx193_0)
                (try rw [Addr.add_zero'] at hx193_0)
                replace p193 := eq_true p193
                replace q193 := eq_true q193
                go_wp2
                go_ret2
                exact ⟨by first | rfl | (simp [errW_none, errW_some] <;> rfl) | (simp [*, errW_none, errW_some] <;> rfl) | (simp [errW_none, errW_some, G.isEmpty_ne]; done), by repeat (first | (with_reducible first | exact HB.out | apply below_alloc | apply pw_below_drewN | apply below_drew1) | exact HB.out)⟩
             ·rw [if_neg c33] at H
              have c33b0 : ((rd l0 0) == 240) = false := beq_eq_false_iff_ne.mpr c33
              have c33b1 : ((rd l0 0) != 240) = true := bne_iff_ne.mpr c33
              by_cases c37 : (rd l0 0) = 244
              ·rw [if_pos c37] at H
               have c37b0 : ((rd l0 0) == 244) = true := beq_iff_eq.mpr c37
               have c37b1 : ((rd l0 0) != 244) = false := bne_eq_false_iff_eq.mpr c37
               clear c37
               by_cases c38 : (rd l0 1) > 143
               ·rw [if_pos c38] at H
                have c38b0 : decide (143 < (rd l0 1)) = true := decide_eq_true c38
                clear c38
                simp only [Option.some.injEq, Prod.mk.injEq] at H
                obtain ⟨rfl, rfl⟩ := H
                have p181 : 0 ≤ (0 : Int) := (by omega)
                have q181 : 0 < (l0.length : Int) := of_decide_eq_true (by first | (with_reducible assumption) | assumption)
                obtain ⟨ad181, e181, hx181_0⟩ := Kd.at_int (Kd.V_reads' HO_0.out).2.2 0 p181 q181
                cases e181
                have qi181 : (0 < l0.length) = True := eq_true (by omega)
                (try rw [show ((0 : Int)).toNat = 0 from rfl] at hx181_0)
                (try rw [Addr.add_zero'] at hx181_0)
                replace p181 := eq_true p181
                replace q181 := eq_true q181
                have p182 : 0 ≤ (1 : Int) := (by omega)
                have q182 : 1 < (l0.length : Int) := of_decide_eq_true (by first | (with_reducible assumption) | assumption)
                obtain ⟨ad182, e182, hx182_0⟩ := Kd.at_int (Kd.V_reads' HO_0.out).2.2 1 p182 q182
                obtain rfl : ad181 = ad182 := (by injection e182)
                (try simp only [show (1 : Int).toNat = 1 from rfl, Nat.reduceMul, Nat.reduceEqDiff, Go.Addr.add, ↓reduceIte] at hx182_0)
                have qi182 : (1 < l0.length) = True := eq_true (by omega)
                (try rw [show ((1 : Int)).toNat = 1 from rfl] at hx182_0)
                replace p182 := eq_true p182
                replace q182 := eq_true q182
                have p183 : 0 ≤ (0 : Int) := (by omega)
                have q183 : 0 < (l0.length : Int) := of_decide_eq_true (by first | (with_reducible assumption) | assumption)
                obtain ⟨ad183, e183, hx183_0⟩ := Kd.at_int (Kd.V_reads' HO_0.out).2.2 0 p183 q183
                obtain rfl : ad181 = ad183 := (by injection e183)
                have qi183 : (0 < l0.length) = True := eq_true (by omega)
                (try rw [show ((0 : Int)).toNat = 0 from rfl] at hx183_0)
                (try rw [Addr.add_zero'] at hx183_0)
                replace p183 := eq_true p183
                replace q183 := eq_true q183
                have p191 : 0 ≤ (0 : Int) := (by omega)
                have q191 : 0 < (l0.length : Int) := of_decide_eq_true (by first | (with_reducible assumption) | assumption)
                obtain ⟨ad191, e191, hx191_0⟩ := Kd.at_int (Kd.V_reads' HO_0.out).2.2 0 p191 q191
                obtain rfl : ad181 = ad191 := (by injection e191)
                have qi191 : (0 < l0.length) = True := eq_true (by omega)
                (try rw [show ((0 : Int)).toNat = 0 from rfl] at hx191_0)
                (try rw [Addr.add_zero'] at hx191_0)
                replace p191 := eq_true p191
                replace q191 := eq_true q191
                have p195 : 0 ≤ (0 : Int) := (by omega)
                have q195 : 0 < (l0.length : Int) := of_decide_eq_true (by first | (with_reducible assumption) | assumption)
                obtain ⟨ad195, e195, hx195_0⟩ := Kd.at_int (Kd.V_reads' HO_0.out).2.2 0 p195 q195
                obtain rfl : ad181 = ad195 := (by injection e195)
                have qi195 : (0 < l0.length) = True := eq_true (by omega)
                (try rw [show ((0 : Int)).toNat = 0 from rfl] at hx195_0)
                (try rw [Addr.add_zero'] at hx195_0)
                replace p195 := eq_true p195
                replace q195 := eq_true q195
                have p196 : 0 ≤ (1 : Int) := (by omega)
                have q196 : 1 < (l0.length : Int) := of_decide_eq_true (by first | (with_reducible assumption) | assumption)
                obtain ⟨ad196, e196, hx196_0⟩ := Kd.at_int (Kd.V_reads' HO_0.out).2.2 1 p196 q196
                obtain rfl : ad181 = ad196 := (by injection e196)
                (try simp only [show (1 : Int).toNat = 1 from rfl, Nat.reduceMul, Nat.reduceEqDiff, Go.Addr.add, ↓reduceIte] at hx196_0)
                have qi196 : (1 < l0.length) = True := eq_true (by omega)
                (try rw [show ((1 : Int)).toNat = 1 from rfl] at hx196_0)
                replace p196 := eq_true p196
                replace q196 := eq_true q196
                go_wp2
                go_ret2
                exact ⟨by first | rfl | (simp [errW_none, errW_some] <;> rfl) | (simp [*, errW_none, errW_some] <;> rfl) | (simp [errW_none, errW_some, G.isEmpty_ne]; done), by repeat (first | (with_reducible first | exact HB.out | apply below_alloc | apply pw_below_drewN | apply below_drew1) | exact HB.out)⟩
               ·rw [if_neg c38] at H
                have c38b0 : decide (143 < (rd l0 1)) = false := decide_eq_false c38
                clear c38
                simp only [Option.some.injEq, Prod.mk.injEq] at H
                obtain ⟨rfl, rfl⟩ := H
                have p181 : 0 ≤ (0 : Int) := (by omega)
                have q181 : 0 < (l0.length : Int) := of_decide_eq_true (by first | (with_reducible assumption) | assumption)
                obtain ⟨ad181, e181, hx181_0⟩ := Kd.at_int (Kd.V_reads' HO_0.out).2.2 0 p181 q181
                cases e181
                have qi181 : (0 < l0.length) = True := eq_true (by omega)
                (try rw [show ((0 : Int)).toNat = 0 from rfl] at hx181_0)
                (try rw [Addr.add_zero'] at hx181_0)
                replace p181 := eq_true p181
                replace q181 := eq_true q181
                have p182 : 0 ≤ (1 : Int) := (by omega)
                have q182 : 1 < (l0.length : Int) := of_decide_eq_true (by first | (with_reducible assumption) | assumption)
                obtain ⟨ad182, e182, hx182_0⟩ := Kd.at_int (Kd.V_reads' HO_0.out).2.2 1 p182 q182
                obtain rfl : ad181 = ad182 := (by injection e182)
                (try simp only [show (1 : Int).toNat = 1 from rfl, Nat.reduceMul, Nat.reduceEqDiff, Go.Addr.add, ↓reduceIte] at hx182_0)
                have qi182 : (1 < l0.length) = True := eq_true (by omega)
                (try rw [show ((1 : Int)).toNat = 1 from rfl] at hx182_0)
                replace p182 := eq_true p182
                replace q182 := eq_true q182
                have p183 : 0 ≤ (0 : Int) := (by omega)
                have q183 : 0 < (l0.length : Int) := of_decide_eq_true (by first | (with_reducible assumption) | assumption)
                obtain ⟨ad183, e183, hx183_0⟩ := Kd.at_int (Kd.V_reads' HO_0.out).2.2 0 p183 q183
                obtain rfl : ad181 = ad183 := (by injection e183)
                have qi183 : (0 < l0.length) = True := eq_true (by omega)
                (try rw [show ((0 : Int)).toNat = 0 from rfl] at hx183_0)
                (try rw [Addr.add_zero'] at hx183_0)
                replace p183 := eq_true p183
                replace q183 := eq_true q183
                have p191 : 0 ≤ (0 : Int) := (by omega)
                have q191 : 0 < (l0.length : Int) := of_decide_eq_true (by first | (with_reducible assumption) | assumption)
                obtain ⟨ad191, e191, hx191_0⟩ := Kd.at_int (Kd.V_reads' HO_0.out).2.2 0 p191 q191
                obtain rfl : ad181 = ad191 := (by injection e191)
                have qi191 : (0 < l0.length) = True := eq_true (by omega)
                (try rw [show ((0 : Int)).toNat = 0 from rfl] at hx191_0)
                (try rw [Addr.add_zero'] at hx191_0)
                replace p191 := eq_true p191
                replace q191 := eq_true q191
                have p195 : 0 ≤ (0 : Int) := (by omega)
                have q195 : 0 < (l0.length : Int) := of_decide_eq_true (by first | (with_reducible assumption) | assumption)
                obtain ⟨ad195, e195, hx195_0⟩ := Kd.at_int (Kd.V_reads' HO_0.out).2.2 0 p195 q195
                obtain rfl : ad181 = ad195 := (by injection e195)
                have qi195 : (0 < l0.length) = True := eq_true (by omega)
                (try rw [show ((0 : Int)).toNat = 0 from rfl] at hx195_0)
                (try rw [Addr.add_zero'] at hx195_0)
                replace p195 := eq_true p195
                replace q195 := eq_true q195
                have p196 : 0 ≤ (1 : Int) := (by omega)
                have q196 : 1 < (l0.length : Int) := of_decide_eq_true (by first | (with_reducible assumption) | assumption)
                obtain ⟨ad196, e196, hx196_0⟩ := Kd.at_int (Kd.V_reads' HO_0.out).2.2 1 p196 q196
                obtain rfl : ad181 = ad196 := (by injection e196)
                (try simp only [show (1 : Int).toNat = 1 from rfl, Nat.reduceMul, Nat.reduceEqDiff, Go.Addr.add, ↓reduceIte] at hx196_0)
                have qi196 : (1 < l0.length) = True := eq_true (by omega)
                (try rw [show ((1 : Int)).toNat = 1 from rfl] at hx196_0)
                replace p196 := eq_true p196
                replace q196 := eq_true q196
                go_wp2
                go_ret2
                exact ⟨by first | rfl | (simp [errW_none, errW_some] <;> rfl) | (simp [*, errW_none, errW_some] <;> rfl) | (simp [errW_none, errW_some, G.isEmpty_ne]; done), by repeat (first | (with_reducible first | exact HB.out | apply below_alloc | apply pw_below_drewN | apply below_drew1) | exact HB.out)⟩
              ·rw [if_neg c37] at H
               have c37b0 : ((rd l0 0) == 244) = false := beq_eq_false_iff_ne.mpr c37
               have c37b1 : ((rd l0 0) != 244) = true := bne_iff_ne.mpr c37
               simp only [Option.some.injEq, Prod.mk.injEq] at H
               obtain ⟨rfl, rfl⟩ := H
               have p181 : 0 ≤ (0 : Int) := (by omega)
               have q181 : 0 < (l0.length : Int) := of_decide_eq_true (by first | (with_reducible assumption) | assumption)
               obtain ⟨ad181, e181, hx181_0⟩ := Kd.at_int (Kd.V_reads' HO_0.out).2.2 0 p181 q181
               cases e181
               have qi181 : (0 < l0.length) = True := eq_true (by omega)
               (try rw [show ((0 : Int)).toNat = 0 from rfl] at hx181_0)
               (try rw [Addr.add_zero'] at hx181_0)
               replace p181 := eq_true p181
               replace q181 := eq_true q181
               have p182 : 0 ≤ (1 : Int) := (by omega)
               have q182 : 1 < (l0.length : Int) := of_decide_eq_true (by first | (with_reducible assumption) | assumption)
               obtain ⟨ad182, e182, hx182_0⟩ := Kd.at_int (Kd.V_reads' HO_0.out).2.2 1 p182 q182
               obtain rfl : ad181 = ad182 := (by injection e182)
               (try simp only [show (1 : Int).toNat = 1 from rfl, Nat.reduceMul, Nat.reduceEqDiff, Go.Addr.add, ↓reduceIte] at hx182_0)
               have qi182 : (1 < l0.length) = True := eq_true (by omega)
               (try rw [show ((1 : Int)).toNat = 1 from rfl] at hx182_0)
               replace p182 := eq_true p182
               replace q182 := eq_true q182
               have p183 : 0 ≤ (0 : Int) := (by omega)
               have q183 : 0 < (l0.length : Int) := of_decide_eq_true (by first | (with_reducible assumption) | assumption)
               obtain ⟨ad183, e183, hx183_0⟩ := Kd.at_int (Kd.V_reads' HO_0.out).2.2 0 p183 q183
               obtain rfl : ad181 = ad183 := (by injection e183)
               have qi183 : (0 < l0.length) = True := eq_true (by omega)
               (try rw [show ((0 : Int)).toNat = 0 from rfl] at hx183_0)
               (try rw [Addr.add_zero'] at hx183_0)
               replace p183 := eq_true p183
               replace q183 := eq_true q183
               have p191 : 0 ≤ (0 : Int) := (by omega)
               have q191 : 0 < (l0.length : Int) := of_decide_eq_true (by first | (with_reducible assumption) | assumption)
               obtain ⟨ad191, e191, hx191_0⟩ := Kd.at_int (Kd.V_reads' HO_0.out).2.2 0 p191 q191
               obtain rfl : ad181 = ad191 := (by injection e191)
               have qi191 : (0 < l0.length) = True := eq_true (by omega)
               (try rw [show ((0 : Int)).toNat = 0 from rfl] at hx191_0)
               (try rw [Addr.add_zero'] at hx191_0)
               replace p191 := eq_true p191
               replace q191 := eq_true q191
               have p195 : 0 ≤ (0 : Int) := (by omega)
               have q195 : 0 < (l0.length : Int) := of_decide_eq_true (by first | (with_reducible assumption) | assumption)
               obtain ⟨ad195, e195, hx195_0⟩ := Kd.at_int (Kd.V_reads' HO_0.out).2.2 0 p195 q195
               obtain rfl : ad181 = ad195 := (by injection e195)
               have qi195 : (0 < l0.length) = True := eq_true (by omega)
               (try rw [show ((0 : Int)).toNat = 0 from rfl] at hx195_0)
               (try rw [Addr.add_zero'] at hx195_0)
               replace p195 := eq_true p195
               replace q195 := eq_true q195
               go_wp2
               go_ret2
               exact ⟨by first | rfl | (simp [errW_none, errW_some] <;> rfl) | (simp [*, errW_none, errW_some] <;> rfl) | (simp [errW_none, errW_some, G.isEmpty_ne]; done), by repeat (first | (with_reducible first | exact HB.out | apply below_alloc | apply pw_below_drewN | apply below_drew1) | exact HB.out)⟩
          ·rw [if_neg c23] at H
           exact absurd H (by simp)
         ·rw [if_neg c22] at H
          have c22b0 : ((rd l0 0) == 224) = false := beq_eq_false_iff_ne.mpr c22
          have c22b1 : ((rd l0 0) != 224) = true := bne_iff_ne.mpr c22
          by_cases c39 : (rd l0 0) = 237
          ·rw [if_pos c39] at H
           have c39b0 : ((rd l0 0) == 237) = true := beq_iff_eq.mpr c39
           have c39b1 : ((rd l0 0) != 237) = false := bne_eq_false_iff_eq.mpr c39
           clear c39
           by_cases c40 : 1 < (l0.length : Int)
           ·rw [if_pos c40] at H
            have c40b0 : decide (1 < (l0.length : Int)) = true := decide_eq_true c40
            have c40b1 : decide (1 < l0.length) = true := decide_eq_true (by omega)
            clear c40
            by_cases c41 : (rd l0 1) > 159
            ·rw [if_pos c41] at H
             have c41b0 : decide (159 < (rd l0 1)) = true := decide_eq_true c41
             clear c41
             simp only [Option.some.injEq, Prod.mk.injEq] at H
             obtain ⟨rfl, rfl⟩ := H
             have p181 : 0 ≤ (0 : Int) := (by omega)
             have q181 : 0 < (l0.length : Int) := of_decide_eq_true (by first | (with_reducible assumption) | assumption)
             obtain ⟨ad181, e181, hx181_0⟩ := Kd.at_int (Kd.V_reads' HO_0.out).2.2 0 p181 q181
             cases e181
             have qi181 : (0 < l0.length) = True := eq_true (by omega)
             (try rw [show ((0 : Int)).toNat = 0 from rfl] at hx181_0)
             (try rw [Addr.add_zero'] at hx181_0)
             replace p181 := eq_true p181
             replace q181 := eq_true q181
             have p197 : 0 ≤ (0 : Int) := (by omega)
             have q197 : 0 < (l0.length : Int) := of_decide_eq_true (by first | (with_reducible assumption) | assumption)
             obtain ⟨ad197, e197, hx197_0⟩ := Kd.at_int (Kd.V_reads' HO_0.out).2.2 0 p197 q197
             obtain rfl : ad181 = ad197 := (by injection e197)
             have qi197 : (0 < l0.length) = True := eq_true (by omega)
             (try rw [show ((0 : Int)).toNat = 0 from rfl] at hx197_0)
             (try rw [Addr.add_zero'] at hx197_0)
             replace p197 := eq_true p197
             replace q197 := eq_true q197
             have p198 : 0 ≤ (1 : Int) := (by omega)
             have q198 : 1 < (l0.length : Int) := of_decide_eq_true (by first | (with_reducible assumption) | assumption)
             obtain ⟨ad198, e198, hx198_0⟩ := Kd.at_int (Kd.V_reads' HO_0.out).2.2 1 p198 q198
             obtain rfl : ad181 = ad198 := (by injection e198)
             (try simp only [show (1 : Int).toNat = 1 from rfl, Nat.reduceMul, Nat.reduceEqDiff, Go.Addr.add, ↓reduceIte] at hx198_0)
             have qi198 : (1 < l0.length) = True := eq_true (by omega)
             (try rw [show ((1 : Int)).toNat = 1 from rfl] at hx198_0)
             replace p198 := eq_true p198
             replace q198 := eq_true q198
             go_wp2
             go_ret2
             exact ⟨by first | rfl | (simp [errW_none, errW_some] <;> rfl) | (simp [*, errW_none, errW_some] <;> rfl) | (simp [errW_none, errW_some, G.isEmpty_ne]; done), by repeat (first | (with_reducible first | exact HB.out | apply below_alloc | apply pw_below_drewN | apply below_drew1) | exact HB.out)⟩
            ·rw [if_neg c41] at H
             have c41b0 : decide (159 < (rd l0 1)) = false := decide_eq_false c41
             clear c41
             by_cases c42 : (rd l0 0) = 240
             ·rw [if_pos c42] at H
              have c42b0 : ((rd l0 0) == 240) = true := beq_iff_eq.mpr c42
              have c42b1 : ((rd l0 0) != 240) = false := bne_eq_false_iff_eq.mpr c42
              clear c42
              by_cases c43 : (rd l0 1) < 144
              ·rw [if_pos c43] at H
               have c43b0 : decide ((rd l0 1) < 144) = true := decide_eq_true c43
               clear c43
               simp only [Option.some.injEq, Prod.mk.injEq] at H
               obtain ⟨rfl, rfl⟩ := H
               have p181 : 0 ≤ (0 : Int) := (by omega)
               have q181 : 0 < (l0.length : Int) := of_decide_eq_true (by first | (with_reducible assumption) | assumption)
               obtain ⟨ad181, e181, hx181_0⟩ := Kd.at_int (Kd.V_reads' HO_0.out).2.2 0 p181 q181
               cases e181
               have qi181 : (0 < l0.length) = True := eq_true (by omega)
               (try rw [show ((0 : Int)).toNat = 0 from rfl] at hx181_0)
               (try rw [Addr.add_zero'] at hx181_0)
               replace p181 := eq_true p181
               replace q181 := eq_true q181
               have p197 : 0 ≤ (0 : Int) := (by omega)
               have q197 : 0 < (l0.length : Int) := of_decide_eq_true (by first | (with_reducible assumption) | assumption)
               obtain ⟨ad197, e197, hx197_0⟩ := Kd.at_int (Kd.V_reads' HO_0.out).2.2 0 p197 q197
               obtain rfl : ad181 = ad197 := (by injection e197)
               have qi197 : (0 < l0.length) = True := eq_true (by omega)
               (try rw [show ((0 : Int)).toNat = 0 from rfl] at hx197_0)
               (try rw [Addr.add_zero'] at hx197_0)
               replace p197 := eq_true p197
               replace q197 := eq_true q197
               have p198 : 0 ≤ (1 : Int) := (by omega)
               have q198 : 1 < (l0.length : Int) := of_decide_eq_true (by first | (with_reducible assumption) | assumption)
               obtain ⟨ad198, e198, hx198_0⟩ := Kd.at_int (Kd.V_reads' HO_0.out).2.2 1 p198 q198
               obtain rfl : ad181 = ad198 := (by injection e198)
               (try simp only [show (1 : Int).toNat = 1 from rfl, Nat.reduceMul, Nat.reduceEqDiff, Go.Addr.add, ↓reduceIte] at hx198_0)
               have qi198 : (1 < l0.length) = True := eq_true (by omega)
               (try rw [show ((1 : Int)).toNat = 1 from rfl] at hx198_0)
               replace p198 := eq_true p198
               replace q198 := eq_true q198
               have p199 : 0 ≤ (0 : Int) := (by omega)
               have q199 : 0 < (l0.length : Int) := of_decide_eq_true (by first | (with_reducible assumption) | assumption)
               obtain ⟨ad199, e199, hx199_0⟩ := Kd.at_int (Kd.V_reads' HO_0.out).2.2 0 p199 q199
               obtain rfl : ad181 = ad199 := (by injection e199)
               have qi199 : (0 < l0.length) = True := eq_true (by omega)
               (try rw [show ((0 : Int)).toNat = 0 from rfl] at hx199_0)
               (try rw [Addr.add_zero'] at hx199_0)
               replace p199 := eq_true p199
               replace q199 := eq_true q199
               have p200 : 0 ≤ (1 : Int) := (by omega)
               have q200 : 1 < (l0.length : Int) := of_decide_eq_true (by first | (with_reducible assumption) | assumption)
               obtain ⟨ad200, e200, hx200_0⟩ := Kd.at_int (Kd.V_reads' HO_0.out).2.2 1 p200 q200
               obtain rfl : ad181 = ad200 := (by injection e200)
               (try simp only [show (1 : Int).toNat = 1 from rfl, Nat.reduceMul, Nat.reduceEqDiff, Go.Addr.add, ↓reduceIte] at hx200_0)
               have qi200 : (1 < l0.length) = True := eq_true (by omega)
               (try rw [show ((1 : Int)).toNat = 1 from rfl] at hx200_0)
               replace p200 := eq_true p200
               replace q200 := eq_true q200
               go_wp2
               go_ret2
               exact ⟨by first | rfl | (simp [errW_none, errW_some] <;> rfl) | (simp [*, errW_none, errW_some] <;> rfl) | (simp [errW_none, errW_some, G.isEmpty_ne]; done), by repeat (first | (with_reducible first | exact HB.out | apply below_alloc | apply pw_below_drewN | apply below_drew1) | exact HB.out)⟩
              ·rw [if_neg c43] at H
               have c43b0 : decide ((rd l0 1) < 144) = false := decide_eq_false c43
               clear c43
               by_cases c44 : (rd l0 0) = 244
               ·rw [if_pos c44] at H
                have c44b0 : ((rd l0 0) == 244) = true := beq_iff_eq.mpr c44
                have c44b1 : ((rd l0 0) != 244) = false := bne_eq_false_iff_eq.mpr c44
                clear c44
                by_cases c45 : (rd l0 1) > 143
                ·rw [if_pos c45] at H
                 have c45b0 : decide (143 < (rd l0 1)) = true := decide_eq_true c45
                 clear c45
                 simp only [Option.some.injEq, Prod.mk.injEq] at H
                 obtain ⟨rfl, rfl⟩ := H
                 have p181 : 0 ≤ (0 : Int) := (by omega)
                 have q181 : 0 < (l0.length : Int) := of_decide_eq_true (by first | (with_reducible assumption) | assumption)
                 obtain ⟨ad181, e181, hx181_0⟩ := Kd.at_int (Kd.V_reads' HO_0.out).2.2 0 p181 q181
                 cases e181
                 have qi181 : (0 < l0.length) = True := eq_true (by omega)
                 (try rw [show ((0 : Int)).toNat = 0 from rfl] at hx181_0)
                 (try rw [Addr.add_zero'] at hx181_0)
                 replace p181 := eq_true p181
                 replace q181 := eq_true q181
                 have p197 : 0 ≤ (0 : Int) := (by omega)
                 have q197 : 0 < (l0.length : Int) := of_decide_eq_true (by first | (with_reducible assumption) | assumption)
                 obtain ⟨ad197, e197, hx197_0⟩ := Kd.at_int (Kd.V_reads' HO_0.out).2.2 0 p197 q197
                 obtain rfl : ad181 = ad197 := (by injection e197)
                 have qi197 : (0 < l0.length) = True := eq_true (by omega)
                 (try rw [show ((0 : Int)).toNat = 0 from rfl] at hx197_0)
                 (try rw [Addr.add_zero'] at hx197_0)
                 replace p197 := eq_true p197
                 replace q197 := eq_true q197
                 have p198 : 0 ≤ (1 : Int) := (by omega)
                 have q198 : 1 < (l0.length : Int) := of_decide_eq_true (by first | (with_reducible assumption) | assumption)
                 obtain ⟨ad198, e198, hx198_0⟩ := Kd.at_int (Kd.V_reads' HO_0.out).2.2 1 p198 q198
                 obtain rfl : ad181 = ad198 := (by injection e198)
                 (try simp only [show (1 : Int).toNat = 1 from rfl, Nat.reduceMul, Nat.reduceEqDiff, Go.Addr.add, ↓reduceIte] at hx198_0)
                 have qi198 : (1 < l0.length) = True := eq_true (by omega)
                 (try rw [show ((1 : Int)).toNat = 1 from rfl] at hx198_0)
                 replace p198 := eq_true p198
                 replace q198 := eq_true q198
                 have p199 : 0 ≤ (0 : Int) := (by omega)
                 have q199 : 0 < (l0.length : Int) := of_decide_eq_true (by first | (with_reducible assumption) | assumption)
                 obtain ⟨ad199, e199, hx199_0⟩ := Kd.at_int (Kd.V_reads' HO_0.out).2.2 0 p199 q199
                 obtain rfl : ad181 = ad199 := (by injection e199)
                 have qi199 : (0 < l0.length) = True := eq_true (by omega)
                 (try rw [show ((0 : Int)).toNat = 0 from rfl] at hx199_0)
                 (try rw [Addr.add_zero'] at hx199_0)
                 replace p199 := eq_true p199
                 replace q199 := eq_true q199
                 have p200 : 0 ≤ (1 : Int) := (by omega)
                 have q200 : 1 < (l0.length : Int) := of_decide_eq_true (by first | (with_reducible assumption) | assumption)
                 obtain ⟨ad200, e200, hx200_0⟩ := Kd.at_int (Kd.V_reads' HO_0.out).2.2 1 p200 q200
                 obtain rfl : ad181 = ad200 := (by injection e200)
                 (try simp only [show (1 : Int).toNat = 1 from rfl, Nat.reduceMul, Nat.reduceEqDiff, Go.Addr.add, ↓reduceIte] at hx200_0)
                 have qi200 : (1 < l0.length) = True := eq_true (by omega)
                 (try rw [show ((1 : Int)).toNat = 1 from rfl] at hx200_0)
                 replace p200 := eq_true p200
                 replace q200 := eq_true q200
                 have p201 : 0 ≤ (0 : Int) := (by omega)
                 have q201 : 0 < (l0.length : Int) := of_decide_eq_true (by first | (with_reducible assumption) | assumption)
                 obtain ⟨ad201, e201, hx201_0⟩ := Kd.at_int (Kd.V_reads' HO_0.out).2.2 0 p201 q201
                 obtain rfl : ad181 = ad201 := (by injection e201)
                 have qi201 : (0 < l0.length) = True := eq_true (by omega)
                 (try rw [show ((0 : Int)).toNat = 0 from rfl] at hx201_0)
                 (try rw [Addr.add_zero'] at hx201_0)
                 replace p201 := eq_true p201
                 replace q201 := eq_true q201
                 have p202 : 0 ≤ (1 : Int) := (by omega)
                 have q202 : 1 < (l0.length : Int) := of_decide_eq_true (by first | (with_reducible assumption) | assumption)
                 obtain ⟨ad202, e202, hx202_0⟩ := Kd.at_int (Kd.V_reads' HO_0.out).2.2 1 p202 q202
                 obtain rfl : ad181 = ad202 := (by injection e202)
                 (try simp only [show (1 : Int).toNat = 1 from rfl, Nat.reduceMul, Nat.reduceEqDiff, Go.Addr.add, ↓reduceIte] at hx202_0)
                 have qi202 : (1 < l0.length) = True := eq_true (by omega)
                 (try rw [show ((1 : Int)).toNat = 1 from rfl] at hx202_0)
                 replace p202 := eq_true p202
                 replace q202 := eq_true q202
                 go_wp2
                 go_ret2
                 exact ⟨by first | rfl | (simp [errW_none, errW_some] <;> rfl) | (simp [*, errW_none, errW_some] <;> rfl) | (simp [errW_none, errW_some, G.isEmpty_ne]; done), by repeat (first | (with_reducible first | exact HB.out | apply below_alloc | apply pw_below_drewN | apply below_drew1) | exact HB.out)⟩
                ·rw [if_neg c45] at H
                 have c45b0 : decide (143 < (rd l0 1)) = false := decide_eq_false c45
                 clear c45
                 simp only [Option.some.injEq, Prod.mk.injEq] at H
                 obtain ⟨rfl, rfl⟩ := H
                 have p181 : 0 ≤ (0 : Int) := (by omega)
                 have q181 : 0 < (l0.length : Int) := of_decide_eq_true (by first | (with_reducible assumption) | assumption)
                 obtain ⟨ad181, e181, hx181_0⟩ := Kd.at_int (Kd.V_reads' HO_0.out).2.2 0 p181 q181
                 cases e181
                 have qi181 : (0 < l0.length) = True := eq_true (by omega)
                 (try rw [show ((0 : Int)).toNat = 0 from rfl] at hx181_0)
                 (try rw [Addr.add_zero'] at hx181_0)
                 replace p181 := eq_true p181
                 replace q181 := eq_true q181
                 have p197 : 0 ≤ (0 : Int) := (by omega)
                 have q197 : 0 < (l0.length : Int) := of_decide_eq_true (by first | (with_reducible assumption) | assumption)
                 obtain ⟨ad197, e197, hx197_0⟩ := Kd.at_int (Kd.V_reads' HO_0.out).2.2 0 p197 q197
                 obtain rfl : ad181 = ad197 := (by injection e197)
                 have qi197 : (0 < l0.length) = True := eq_true (by omega)
                 (try rw [show ((0 : Int)).toNat = 0 from rfl] at hx197_0)
                 (try rw [Addr.add_zero'] at hx197_0)
                 replace p197 := eq_true p197
                 replace q197 := eq_true q197
                 have p198 : 0 ≤ (1 : Int) := (by omega)
                 have q198 : 1 < (l0.length : Int) := of_decide_eq_true (by first | (with_reducible assumption) | assumption)
                 obtain ⟨ad198, e198, hx198_0⟩ := Kd.at_int (Kd.V_reads' HO_0.out).2.2 1 p198 q198
                 obtain rfl : ad181 = ad198 := (by injection e198)
                 (try simp only [show (1 : Int).toNat = 1 from rfl, Nat.reduceMul, Nat.reduceEqDiff, Go.Addr.add, ↓reduceIte] at hx198_0)
                 have qi198 : (1 < l0.length) = True := eq_true (by omega)
                 (try rw [show ((1 : Int)).toNat = 1 from rfl] at hx198_0)
                 replace p198 := eq_true p198
                 replace q198 := eq_true q198
                 have p199 : 0 ≤ (0 : Int) := (by omega)
                 have q199 : 0 < (l0.length : Int) := of_decide_eq_true (by first | (with_reducible assumption) | assumption)
                 obtain ⟨ad199, e199, hx199_0⟩ := Kd.at_int (Kd.V_reads' HO_0.out).2.2 0 p199 q199
                 obtain rfl : ad181 = ad199 := (by injection e199)
                 have qi199 : (0 < l0.length) = True := eq_true (by omega)
                 (try rw [show ((0 : Int)).toNat = 0 from rfl] at hx199_0)
                 (try rw [Addr.add_zero'] at hx199_0)
                 replace p199 := eq_true p199
                 replace q199 := eq_true q199
                 have p200 : 0 ≤ (1 : Int) := (by omega)
                 have q200 : 1 < (l0.length : Int) := of_decide_eq_true (by first | (with_reducible assumption) | assumption)
                 obtain ⟨ad200, e200, hx200_0⟩ := Kd.at_int (Kd.V_reads' HO_0.out).2.2 1 p200 q200
                 obtain rfl : ad181 = ad200 := (by injection e200)
                 (try simp only [show (1 : Int).toNat = 1 from rfl, Nat.reduceMul, Nat.reduceEqDiff, Go.Addr.add, ↓reduceIte] at hx200_0)
                 have qi200 : (1 < l0.length) = True := eq_true (by omega)
                 (try rw [show ((1 : Int)).toNat = 1 from rfl] at hx200_0)
                 replace p200 := eq_true p200
                 replace q200 := eq_true q200
                 have p201 : 0 ≤ (0 : Int) := (by omega)
                 have q201 : 0 < (l0.length : Int) := of_decide_eq_true (by first | (with_reducible assumption) | assumption)
                 obtain ⟨ad201, e201, hx201_0⟩ := Kd.at_int (Kd.V_reads' HO_0.out).2.2 0 p201 q201
                 obtain rfl : ad181 = ad201 := (by injection e201)
                 have qi201 : (0 < l0.length) = True := eq_true (by omega)
                 (try rw [show ((0 : Int)).toNat = 0 from rfl] at hx201_0)
                 (try rw [Addr.add_zero'] at hx201_0)
                 replace p201 := eq_true p201
                 replace q201 := eq_true q201
                 have p202 : 0 ≤ (1 : Int) := (by omega)
                 have q202 : 1 < (l0.length : Int) := of_decide_eq_true (by first | (with_reducible assumption) | assumption)
                 obtain ⟨ad202, e202, hx202_0⟩ := Kd.at_int (Kd.V_reads' HO_0.out).2.2 1 p202 q202
                 obtain rfl : ad181 = ad202 := (by injection e202)
                 (try simp only [show (1 : Int).toNat = 1 from rfl, Nat.reduceMul, Nat.reduceEqDiff, Go.Addr.add, ↓reduceIte] at hx202_0)
                 have qi202 : (1 < l0.length) = True := eq_true (by omega)
                 (try rw [show ((1 : Int)).toNat = 1 from rfl] at hx202_0)
                 replace p202 := eq_true p202
                 replace q202 := eq_true q202
                 go_wp2
                 go_ret2
                 exact ⟨by first | rfl | (simp [errW_none, errW_some] <;> rfl) | (simp [*, errW_none, errW_some] <;> rfl) | (simp [errW_none, errW_some, G.isEmpty_ne]; done), by repeat (first | (with_reducible first | exact HB.out | apply below_alloc | apply pw_below_drewN | apply below_drew1) | exact HB.out)⟩
               ·rw [if_neg c44] at H
                have c44b0 : ((rd l0 0) == 244) = false := beq_eq_false_iff_ne.mpr c44
                have c44b1 : ((rd l0 0) != 244) = true := bne_iff_ne.mpr c44
                simp only [Option.some.injEq, Prod.mk.injEq] at H
                obtain ⟨rfl, rfl⟩ := H
                have p181 : 0 ≤ (0 : Int) := (by omega)
                have q181 : 0 < (l0.length : Int) := of_decide_eq_true (by first | (with_reducible assumption) | assumption)
                obtain ⟨ad181, e181, hx181_0⟩ := Kd.at_int (Kd.V_reads' HO_0.out).2.2 0 p181 q181
                cases e181
                have qi181 : (0 < l0.length) = True := eq_true (by omega)
                (try rw [show ((0 : Int)).toNat = 0 from rfl] at hx181_0)
                (try rw [Addr.add_zero'] at hx181_0)
                replace p181 := eq_true p181
                replace q181 := eq_true q181
                have p197 : 0 ≤ (0 : Int) := (by omega)
                have q197 : 0 < (l0.length : Int) := of_decide_eq_true (by first | (with_reducible assumption) | assumption)
                obtain ⟨ad197, e197, hx197_0⟩ := Kd.at_int (Kd.V_reads' HO_0.out).2.2 0 p197 q197
                obtain rfl : ad181 = ad197 := (by injection e197)
                have qi197 : (0 < l0.length) = True := eq_true (by omega)
                (try rw [show ((0 : Int)).toNat = 0 from rfl] at hx197_0)
                (try rw [Addr.add_zero'] at hx197_0)
                replace p197 := eq_true p197
                replace q197 := eq_true q197
                have p198 : 0 ≤ (1 : Int) := (by omega)
                have q198 : 1 < (l0.length : Int) := of_decide_eq_true (by first | (with_reducible assumption) | assumption)
                obtain ⟨ad198, e198, hx198_0⟩ := Kd.at_int (Kd.V_reads' HO_0.out).2.2 1 p198 q198
                obtain rfl : ad181 = ad198 := (by injection e198)
                (try simp only [show (1 : Int).toNat = 1 from rfl, Nat.reduceMul, Nat.reduceEqDiff, Go.Addr.add, ↓reduceIte] at hx198_0)
                have qi198 : (1 < l0.length) = True := eq_true (by omega)
                (try rw [show ((1 : Int)).toNat = 1 from rfl] at hx198_0)
                replace p198 := eq_true p198
                replace q198 := eq_true q198
                have p199 : 0 ≤ (0 : Int) := (by omega)
                have q199 : 0 < (l0.length : Int) := of_decide_eq_true (by first | (with_reducible assumption) | assumption)
                obtain ⟨ad199, e199, hx199_0⟩ := Kd.at_int (Kd.V_reads' HO_0.out).2.2 0 p199 q199
                obtain rfl : ad181 = ad199 := (by injection e199)
                have qi199 : (0 < l0.length) = True := eq_true (by omega)
                (try rw [show ((0 : Int)).toNat = 0 from rfl] at hx199_0)
                (try rw [Addr.add_zero'] at hx199_0)
                replace p199 := eq_true p199
                replace q199 := eq_true q199
                have p200 : 0 ≤ (1 : Int) := (by omega)
                have q200 : 1 < (l0.length : Int) := of_decide_eq_true (by first | (with_reducible assumption) | assumption)
                obtain ⟨ad200, e200, hx200_0⟩ := Kd.at_int (Kd.V_reads' HO_0.out).2.2 1 p200 q200
                obtain rfl : ad181 = ad200 := (by injection e200)
                (try simp only [show (1 : Int).toNat = 1 from rfl, Nat.reduceMul, Nat.reduceEqDiff, Go.Addr.add, ↓reduceIte] at hx200_0)
                have qi200 : (1 < l0.length) = True := eq_true (by omega)
                (try rw [show ((1 : Int)).toNat = 1 from rfl] at hx200_0)
                replace p200 := eq_true p200
                replace q200 := eq_true q200
                have p201 : 0 ≤ (0 : Int) := (by omega)
                have q201 : 0 < (l0.length : Int) := of_decide_eq_true (by first | (with_reducible assumption) | assumption)
                obtain ⟨ad201, e201, hx201_0⟩ := Kd.at_int (Kd.V_reads' HO_0.out).2.2 0 p201 q201
                obtain rfl : ad181 = ad201 := (by injection e201)
                have qi201 : (0 < l0.length) = True := eq_true (by omega)
                (try rw [show ((0 : Int)).toNat = 0 from rfl] at hx201_0)
                (try rw [Addr.add_zero'] at hx201_0)
                replace p201 := eq_true p201
                replace q201 := eq_true q201
                go_wp2
                go_ret2
                exact ⟨by first | rfl | (simp [errW_none, errW_some] <;> rfl) | (simp [*, errW_none, errW_some] <;> rfl) | (simp [errW_none, errW_some, G.isEmpty_ne]; done), by repeat (first | (with_reducible first | exact HB.out | apply below_alloc | apply pw_below_drewN | apply below_drew1) | exact HB.out)⟩
             ·rw [if_neg c42] at H
              have c42b0 : ((rd l0 0) == 240) = false := beq_eq_false_iff_ne.mpr c42
              have c42b1 : ((rd l0 0) != 240) = true := bne_iff_ne.mpr c42
              by_cases c46 : (rd l0 0) = 244
              ·rw [if_pos c46] at H
               have c46b0 : ((rd l0 0) == 244) = true := beq_iff_eq.mpr c46
               have c46b1 : ((rd l0 0) != 244) = false := bne_eq_false_iff_eq.mpr c46
               clear c46
               by_cases c47 : (rd l0 1) > 143
               ·rw [if_pos c47] at H
                have c47b0 : decide (143 < (rd l0 1)) = true := decide_eq_true c47
                clear c47
                simp only [Option.some.injEq, Prod.mk.injEq] at H
                obtain ⟨rfl, rfl⟩ := H
                have p181 : 0 ≤ (0 : Int) := (by omega)
                have q181 : 0 < (l0.length : Int) := of_decide_eq_true (by first | (with_reducible assumption) | assumption)
                obtain ⟨ad181, e181, hx181_0⟩ := Kd.at_int (Kd.V_reads' HO_0.out).2.2 0 p181 q181
                cases e181
                have qi181 : (0 < l0.length) = True := eq_true (by omega)
                (try rw [show ((0 : Int)).toNat = 0 from rfl] at hx181_0)
                (try rw [Addr.add_zero'] at hx181_0)
                replace p181 := eq_true p181
                replace q181 := eq_true q181
                have p197 : 0 ≤ (0 : Int) := (by omega)
                have q197 : 0 < (l0.length : Int) := of_decide_eq_true (by first | (with_reducible assumption) | assumption)
                obtain ⟨ad197, e197, hx197_0⟩ := Kd.at_int (Kd.V_reads' HO_0.out).2.2 0 p197 q197
                obtain rfl : ad181 = ad197 := (by injection e197)
                have qi197 : (0 < l0.length) = True := eq_true (by omega)
                (try rw [show ((0 : Int)).toNat = 0 from rfl] at hx197_0)
                (try rw [Addr.add_zero'] at hx197_0)
                replace p197 := eq_true p197
                replace q197 := eq_true q197
                have p198 : 0 ≤ (1 : Int) := (by omega)
                have q198 : 1 < (l0.length : Int) := of_decide_eq_true (by first | (with_reducible assumption) | assumption)
                obtain ⟨ad198, e198, hx198_0⟩ := Kd.at_int (Kd.V_reads' HO_0.out).2.2 1 p198 q198
                obtain rfl : ad181 = ad198 := (by injection e198)
                (try simp only [show (1 : Int).toNat = 1 from rfl, Nat.reduceMul, Nat.reduceEqDiff, Go.Addr.add, ↓reduceIte] at hx198_0)
                have qi198 : (1 < l0.length) = True := eq_true (by omega)
                (try rw [show ((1 : Int)).toNat = 1 from rfl] at hx198_0)
                replace p198 := eq_true p198
                replace q198 := eq_true q198
                have p199 : 0 ≤ (0 : Int) := (by omega)
                have q199 : 0 < (l0.length : Int) := of_decide_eq_true (by first | (with_reducible assumption) | assumption)
                obtain ⟨ad199, e199, hx199_0⟩ := Kd.at_int (Kd.V_reads' HO_0.out).2.2 0 p199 q199
                obtain rfl : ad181 = ad199 := (by injection e199)
                have qi199 : (0 < l0.length) = True := eq_true (by omega)
                (try rw [show ((0 : Int)).toNat = 0 from rfl] at hx199_0)
                (try rw [Addr.add_zero'] at hx199_0)
                replace p199 := eq_true p199
                replace q199 := eq_true q199
                have p203 : 0 ≤ (0 : Int) := (by omega)
                have q203 : 0 < (l0.length : Int) := of_decide_eq_true (by first | (with_reducible assumption) | assumption)
                obtain ⟨ad203, e203, hx203_0⟩ := Kd.at_int (Kd.V_reads' HO_0.out).2.2 0 p203 q203
                obtain rfl : ad181 = ad203 := (by injection e203)
                have qi203 : (0 < l0.length) = True := eq_true (by omega)
                (try rw [show ((0 : Int)).toNat = 0 from rfl] at hx203_0)
                (try rw [Addr.add_zero'] at hx203_0)
                replace p203 := eq_true p203
                replace q203 := eq_true q203
                have p204 : 0 ≤ (1 : Int) := (by omega)
                have q204 : 1 < (l0.length : Int) := of_decide_eq_true (by first | (with_reducible assumption) | assumption)
                obtain ⟨ad204, e204, hx204_0⟩ := Kd.at_int (Kd.V_reads' HO_0.out).2.2 1 p204 q204
                obtain rfl : ad181 = ad204 := (by injection e204)
                (try simp only [show (1 : Int).toNat = 1 from rfl, Nat.reduceMul, Nat.reduceEqDiff, Go.Addr.add, ↓reduceIte] at hx204_0)
                have qi204 : (1 < l0.length) = True := eq_true (by omega)
                (try rw [show ((1 : Int)).toNat = 1 from rfl] at hx204_0)
                replace p204 := eq_true p204
                replace q204 := eq_true q204
                go_wp2
                go_ret2
                exact ⟨by first | rfl | (simp [errW_none, errW_some] <;> rfl) | (simp [*, errW_none, errW_some] <;> rfl) | (simp [errW_none, errW_some, G.isEmpty_ne]; done), by repeat (first | (with_reducible first | exact HB.out | apply below_alloc | apply pw_below_drewN | apply below_drew1) | exact HB.out)⟩
               ·rw [if_neg c47] at H
                have c47b0 : decide (143 < (rd l0 1)) = false := decide_eq_false c47
                clear c47
                simp only [Option.some.injEq, Prod.mk.injEq] at H
                obtain ⟨rfl, rfl⟩ := H
                have p181 : 0 ≤ (0 : Int) := (by omega)
                have q181 : 0 < (l0.length : Int) := of_decide_eq_true (by first | (with_reducible assumption) | assumption)
                obtain ⟨ad181, e181, hx181_0⟩ := Kd.at_int (Kd.V_reads' HO_0.out).2.2 0 p181 q181
                cases e181
                have qi181 : (0 < l0.length) = True := eq_true (by omega)
                (try rw [show ((0 : Int)).toNat = 0 from rfl] at hx181_0)
                (try rw [Addr.add_zero'] at hx181_0)
                replace p181 := eq_true p181
                replace q181 := eq_true q181
                have p197 : 0 ≤ (0 : Int) := (by omega)
                have q197 : 0 < (l0.length : Int) := of_decide_eq_true (by first | (with_reducible assumption) | assumption)
                obtain ⟨ad197, e197, hx197_0⟩ := Kd.at_int (Kd.V_reads' HO_0.out).2.2 0 p197 q197
                obtain rfl : ad181 = ad197 := (by injection e197)
                have qi197 : (0 < l0.length) = True := eq_true (by omega)
                (try rw [show ((0 : Int)).toNat = 0 from rfl] at hx197_0)
                (try rw [Addr.add_zero'] at hx197_0)
                replace p197 := eq_true p197
                replace q197 := eq_true q197
                have p198 : 0 ≤ (1 : Int) := (by omega)
                have q198 : 1 < (l0.length : Int) := of_decide_eq_true (by first | (with_reducible assumption) | assumption)
                obtain ⟨ad198, e198, hx198_0⟩ := Kd.at_int (Kd.V_reads' HO_0.out).2.2 1 p198 q198
                obtain rfl : ad181 = ad198 := (by injection e198)
                (try simp only [show (1 : Int).toNat = 1 from rfl, Nat.reduceMul, Nat.reduceEqDiff, Go.Addr.add, ↓reduceIte] at hx198_0)
                have qi198 : (1 < l0.length) = True := eq_true (by omega)
                (try rw [show ((1 : Int)).toNat = 1 from rfl] at hx198_0)
                replace p198 := eq_true p198
                replace q198 := eq_true q198
                have p199 : 0 ≤ (0 : Int) := (by omega)
                have q199 : 0 < (l0.length : Int) := of_decide_eq_true (by first | (with_reducible assumption) | assumption)
                obtain ⟨ad199, e199, hx199_0⟩ := Kd.at_int (Kd.V_reads' HO_0.out).2.2 0 p199 q199
                obtain rfl : ad181 = ad199 := (by injection e199)
                have qi199 : (0 < l0.length) = True := eq_true (by omega)
                (try rw [show ((0 : Int)).toNat = 0 from rfl] at hx199_0)
                (try rw [Addr.add_zero'] at hx199_0)
                replace p199 := eq_true p199
                replace q199 := eq_true q199
                have p203 : 0 ≤ (0 : Int) := (by omega)
                have q203 : 0 < (l0.length : Int) := of_decide_eq_true (by first | (with_reducible assumption) | assumption)
                obtain ⟨ad203, e203, hx203_0⟩ := Kd.at_int (Kd.V_reads' HO_0.out).2.2 0 p203 q203
                obtain rfl : ad181 = ad203 := (by injection e203)
                have qi203 : (0 < l0.length) = True := eq_true (by omega)
                (try rw [show ((0 : Int)).toNat = 0 from rfl] at hx203_0)
                (try rw [Addr.add_zero'] at hx203_0)
                replace p203 := eq_true p203
                replace q203 := eq_true q203
                have p204 : 0 ≤ (1 : Int) := (by omega)
                have q204 : 1 < (l0.length : Int) := of_decide_eq_true (by first | (with_reducible assumption) | assumption)
                obtain ⟨ad204, e204, hx204_0⟩ := Kd.at_int (Kd.V_reads' HO_0.out).2.2 1 p204 q204
                obtain rfl : ad181 = ad204 := (by injection e204)
                (try simp only [show (1 : Int).toNat = 1 from rfl, Nat.reduceMul, Nat.reduceEqDiff, Go.Addr.add, ↓reduceIte] at hx204_0)
                have qi204 : (1 < l0.length) = True := eq_true (by omega)
                (try rw [show ((1 : Int)).toNat = 1 from rfl] at hx204_0)
                replace p204 := eq_true p204
                replace q204 := eq_true q204
                go_wp2
                go_ret2
                exact ⟨by first | rfl | (simp [errW_none, errW_some] <;> rfl) | (simp [*, errW_none, errW_some] <;> rfl) | (simp [errW_none, errW_some, G.isEmpty_ne]; done), by repeat (first | (with_reducible first | exact HB.out | apply below_alloc | apply pw_below_drewN | apply below_drew1) | exact HB.out)⟩
              ·rw [if_neg c46] at H
               have c46b0 : ((rd l0 0) == 244) = false := beq_eq_false_iff_ne.mpr c46
               have c46b1 : ((rd l0 0) != 244) = true := bne_iff_ne.mpr c46
               simp only [Option.some.injEq, Prod.mk.injEq] at H
               obtain ⟨rfl, rfl⟩ := H
               have p181 : 0 ≤ (0 : Int) := (by omega)
               have q181 : 0 < (l0.length : Int) := of_decide_eq_true (by first | (with_reducible assumption) | assumption)
               obtain ⟨ad181, e181, hx181_0⟩ := Kd.at_int (Kd.V_reads' HO_0.out).2.2 0 p181 q181
               cases e181
               have qi181 : (0 < l0.length) = True := eq_true (by omega)
               (try rw [show ((0 : Int)).toNat = 0 from rfl] at hx181_0)
               (try rw [Addr.add_zero'] at hx181_0)
               replace p181 := eq_true p181
               replace q181 := eq_true q181
               have p197 : 0 ≤ (0 : Int) := (by omega)
               have q197 : 0 < (l0.length : Int) := of_decide_eq_true (by first | (with_reducible assumption) | assumption)
               obtain ⟨ad197, e197, hx197_0⟩ := Kd.at_int (Kd.V_reads' HO_0.out).2.2 0 p197 q197
               obtain rfl : ad181 = ad197 := (by injection e197)
               have qi197 : (0 < l0.length) = True := eq_true (by omega)
               (try rw [show ((0 : Int)).toNat = 0 from rfl] at hx197_0)
               (try rw [Addr.add_zero'] at hx197_0)
               replace p197 := eq_true p197
               replace q197 := eq_true q197
               have p198 : 0 ≤ (1 : Int) := (by omega)
               have q198 : 1 < (l0.length : Int) := of_decide_eq_true (by first | (with_reducible assumption) | assumption)
               obtain ⟨ad198, e198, hx198_0⟩ := Kd.at_int (Kd.V_reads' HO_0.out).2.2 1 p198 q198
               obtain rfl : ad181 = ad198 := (by injection e198)
               (try simp only [show (1 : Int).toNat = 1 from rfl, Nat.reduceMul, Nat.reduceEqDiff, Go.Addr.add, ↓reduceIte] at hx198_0)
               have qi198 : (1 < l0.length) = True := eq_true (by omega)
               (try rw [show ((1 : Int)).toNat = 1 from rfl] at hx198_0)
               replace p198 := eq_true p198
               replace q198 := eq_true q198
               have p199 : 0 ≤ (0 : Int) := (by omega)
               have q199 : 0 < (l0.length : Int) := of_decide_eq_true (by first | (with_reducible assumption) | assumption)
               obtain ⟨ad199, e199, hx199_0⟩ := Kd.at_int (Kd.V_reads' HO_0.out).2.2 0 p199 q199
               obtain rfl : ad181 = ad199 := (by injection e199)
               have qi199 : (0 < l0.length) = True := eq_true (by omega)
               (try rw [show ((0 : Int)).toNat = 0 from rfl] at hx199_0)
               (try rw [Addr.add_zero'] at hx199_0)
               replace p199 := eq_true p199
               replace q199 := eq_true q199
               have p203 : 0 ≤ (0 : Int) := (by omega)
               have q203 : 0 < (l0.length : Int) := of_decide_eq_true (by first | (with_reducible assumption) | assumption)
               obtain ⟨ad203, e203, hx203_0⟩ := Kd.at_int (Kd.V_reads' HO_0.out).2.2 0 p203 q203
               obtain rfl : ad181 = ad203 := (by injection e203)
               have qi203 : (0 < l0.length) = True := eq_true (by omega)
               (try rw [show ((0 : Int)).toNat = 0 from rfl] at hx203_0)
               (try rw [Addr.add_zero'] at hx203_0)
               replace p203 := eq_true p203
               replace q203 := eq_true q203
               go_wp2
               go_ret2
               exact ⟨by first | rfl | (simp [errW_none, errW_some] <;> rfl) | (simp [*, errW_none, errW_some] <;> rfl) | (simp [errW_none, errW_some, G.isEmpty_ne]; done), by repeat (first | (with_reducible first | exact HB.out | apply below_alloc | apply pw_below_drewN | apply below_drew1) | exact HB.out)⟩
           ·rw [if_neg c40] at H
            exact absurd H (by simp)
          ·rw [if_neg c39] at H
           have c39b0 : ((rd l0 0) == 237) = false := beq_eq_false_iff_ne.mpr c39
           have c39b1 : ((rd l0 0) != 237) = true := bne_iff_ne.mpr c39
           by_cases c48 : (rd l0 0) = 240
           ·rw [if_pos c48] at H
            have c48b0 : ((rd l0 0) == 240) = true := beq_iff_eq.mpr c48
            have c48b1 : ((rd l0 0) != 240) = false := bne_eq_false_iff_eq.mpr c48
            clear c48
            by_cases c49 : 1 < (l0.length : Int)
            ·rw [if_pos c49] at H
             have c49b0 : decide (1 < (l0.length : Int)) = true := decide_eq_true c49
             have c49b1 : decide (1 < l0.length) = true := decide_eq_true (by omega)
             clear c49
             by_cases c50 : (rd l0 1) < 144
             ·rw [if_pos c50] at H
              have c50b0 : decide ((rd l0 1) < 144) = true := decide_eq_true c50
              clear c50
              simp only [Option.some.injEq, Prod.mk.injEq] at H
              obtain ⟨rfl, rfl⟩ := H
              have p181 : 0 ≤ (0 : Int) := (by omega)
              have q181 : 0 < (l0.length : Int) := of_decide_eq_true (by first | (with_reducible assumption) | assumption)
              obtain ⟨ad181, e181, hx181_0⟩ := Kd.at_int (Kd.V_reads' HO_0.out).2.2 0 p181 q181
              cases e181
              have qi181 : (0 < l0.length) = True := eq_true (by omega)
              (try rw [show ((0 : Int)).toNat = 0 from rfl] at hx181_0)
              (try rw [Addr.add_zero'] at hx181_0)
              replace p181 := eq_true p181
              replace q181 := eq_true q181
              have p197 : 0 ≤ (0 : Int) := (by omega)
              have q197 : 0 < (l0.length : Int) := of_decide_eq_true (by first | (with_reducible assumption) | assumption)
              obtain ⟨ad197, e197, hx197_0⟩ := Kd.at_int (Kd.V_reads' HO_0.out).2.2 0 p197 q197
              obtain rfl : ad181 = ad197 := (by injection e197)
              have qi197 : (0 < l0.length) = True := eq_true (by omega)
              (try rw [show ((0 : Int)).toNat = 0 from rfl] at hx197_0)
              (try rw [Addr.add_zero'] at hx197_0)
              replace p197 := eq_true p197
              replace q197 := eq_true q197
              have p205 : 0 ≤ (0 : Int) := (by omega)
              have q205 : 0 < (l0.length : Int) := of_decide_eq_true (by first | (with_reducible assumption) | assumption)
              obtain ⟨ad205, e205, hx205_0⟩ := Kd.at_int (Kd.V_reads' HO_0.out).2.2 0 p205 q205
              obtain rfl : ad181 = ad205 := (by injection e205)
              have qi205 : (0 < l0.length) = True := eq_true (by omega)
              (try rw [show ((0 : Int)).toNat = 0 from rfl] at hx205_0)
              (try rw [Addr.add_zero'] at hx205_0)
              replace p205 := eq_true p205
              replace q205 := eq_true q205
              have p206 : 0 ≤ (1 : Int) := (by omega)
              have q206 : 1 < (l0.length : Int) := of_decide_eq_true (by first | (with_reducible assumption) | assumption)
              obtain ⟨ad206, e206, hx206_0⟩ := Kd.at_int (Kd.V_reads' HO_0.out).2.2 1 p206 q206
              obtain rfl : ad181 = ad206 := (by injection e206)
              (try simp only [show (1 : Int).toNat = 1 from rfl, Nat.reduceMul, Nat.reduceEqDiff, Go.Addr.add, ↓reduceIte] at hx206_0)
              have qi206 : (1 < l0.length) = True := eq_true (by omega)
              (try rw [show ((1 : Int)).toNat = 1 from rfl] at hx206_0)
              replace p206 := eq_true p206
              replace q206 := eq_true q206
              go_wp2
              go_ret2
              exact ⟨by first | rfl | (simp [errW_none, errW_some] <;> rfl) | (simp [*, errW_none, errW_some] <;> rfl) | (simp [errW_none, errW_some, G.isEmpty_ne]; done), by repeat (first | (with_reducible first | exact HB.out | apply below_alloc | apply pw_below_drewN | apply below_drew1) | exact HB.out)⟩
             ·rw [if_neg c50] at H
              have c50b0 : decide ((rd l0 1) < 144) = false := decide_eq_false c50
              clear c50
              by_cases c51 : (rd l0 0) = 244
              ·rw [if_pos c51] at H
               have c51b0 : ((rd l0 0) == 244) = true := beq_iff_eq.mpr c51
               have c51b1 : ((rd l0 0) != 244) = false := bne_eq_false_iff_eq.mpr c51
               clear c51
               by_cases c52 : (rd l0 1) > 143
               ·rw [if_pos c52] at H
                have c52b0 : decide (143 < (rd l0 1)) = true := decide_eq_true c52
                clear c52
                simp only [Option.some.injEq, Prod.mk.injEq] at H
                obtain ⟨rfl, rfl⟩ := H
                have p181 : 0 ≤ (0 : Int) := (by omega)
                have q181 : 0 < (l0.length : Int) := of_decide_eq_true (by first | (with_reducible assumption) | assumption)
                obtain ⟨ad181, e181, hx181_0⟩ := Kd.at_int (Kd.V_reads' HO_0.out).2.2 0 p181 q181
                cases e181
                have qi181 : (0 < l0.length) = True := eq_true (by omega)
                (try rw [show ((0 : Int)).toNat = 0 from rfl] at hx181_0)
                (try rw [Addr.add_zero'] at hx181_0)
                replace p181 := eq_true p181
                replace q181 := eq_true q181
                have p197 : 0 ≤ (0 : Int) := (by omega)
                have q197 : 0 < (l0.length : Int) := of_decide_eq_true (by first | (with_reducible assumption) | assumption)
                obtain ⟨ad197, e197, hx197_0⟩ := Kd.at_int (Kd.V_reads' HO_0.out).2.2 0 p197 q197
                obtain rfl : ad181 = ad197 := (by injection e197)
                have qi197 : (0 < l0.length) = True := eq_true (by omega)
                (try rw [show ((0 : Int)).toNat = 0 from rfl] at hx197_0)
                (try rw [Addr.add_zero'] at hx197_0)
                replace p197 := eq_true p197
                replace q197 := eq_true q197
                have p205 : 0 ≤ (0 : Int) := (by omega)
                have q205 : 0 < (l0.length : Int) := of_decide_eq_true (by first | (with_reducible assumption) | assumption)
                obtain ⟨ad205, e205, hx205_0⟩ := Kd.at_int (Kd.V_reads' HO_0.out).2.2 0 p205 q205
                obtain rfl : ad181 = ad205 := (by injection e205)
                have qi205 : (0 < l0.length) = True := eq_true (by omega)
                (try rw [show ((0 : Int)).toNat = 0 from rfl] at hx205_0)
                (try rw [Addr.add_zero'] at hx205_0)
                replace p205 := eq_true p205
                replace q205 := eq_true q205
                have p206 : 0 ≤ (1 : Int) := (by omega)
                have q206 : 1 < (l0.length : Int) := of_decide_eq_true (by first | (with_reducible assumption) | assumption)
                obtain ⟨ad206, e206, hx206_0⟩ := Kd.at_int (Kd.V_reads' HO_0.out).2.2 1 p206 q206
                obtain rfl : ad181 = ad206 := (by injection e206)
                (try simp only [show (1 : Int).toNat = 1 from rfl, Nat.reduceMul, Nat.reduceEqDiff, Go.Addr.add, ↓reduceIte] at hx206_0)
                have qi206 : (1 < l0.length) = True := eq_true (by omega)
                (try rw [show ((1 : Int)).toNat = 1 from rfl] at hx206_0)
                replace p206 := eq_true p206
                replace q206 := eq_true q206
                have p207 : 0 ≤ (0 : Int) := (by omega)
                have q207 : 0 < (l0.length : Int) := of_decide_eq_true (by first | (with_reducible assumption) | assumption)
                obtain ⟨ad207, e207, hx207_0⟩ := Kd.at_int (Kd.V_reads' HO_0.out).2.2 0 p207 q207
                obtain rfl : ad181 = ad207 := (by injection e207)
                have qi207 : (0 < l0.length) = True := eq_true (by omega)
                (try rw [show ((0 : Int)).toNat = 0 from rfl] at hx207_0)
                (try rw [Addr.add_zero'] at hx207_0)
                replace p207 := eq_true p207
                replace q207 := eq_true q207
                have p208 : 0 ≤ (1 : Int) := (by omega)
                have q208 : 1 < (l0.length : Int) := of_decide_eq_true (by first | (with_reducible assumption) | assumption)
                obtain ⟨ad208, e208, hx208_0⟩ := Kd.at_int (Kd.V_reads' HO_0.out).2.2 1 p208 q208
                obtain rfl : ad181 = ad208 := (by injection e208)
                (try simp only [show (1 : Int).toNat = 1 from rfl, Nat.reduceMul, Nat.reduceEqDiff, Go.Addr.add, ↓reduceIte] at hx208_0)
                have qi208 : (1 < l0.length) = True := eq_true (by omega)
                (try rw [show ((1 : Int)).toNat = 1 from rfl] at hx208_0)
                replace p208 := eq_true p208
                replace q208 := eq_true q208
                go_wp2
                go_ret2
                exact ⟨by first | rfl | (simp [errW_none, errW_some] <;> rfl) | (simp [*, errW_none, errW_some] <;> rfl) | (simp [errW_none, errW_some, G.isEmpty_ne]; done), by repeat (first | (with_reducible first | exact HB.out | apply below_alloc | apply pw_below_drewN | apply below_drew1) | exact HB.out)⟩
               ·rw [if_neg c52] at H
                have c52b0 : decide (143 < (rd l0 1)) = false := decide_eq_false c52
                clear c52
                simp only [Option.some.injEq, Prod.mk.injEq] at H
                obtain ⟨rfl, rfl⟩ := H
                have p181 : 0 ≤ (0 : Int) := (by omega)
                have q181 : 0 < (l0.length : Int) := of_decide_eq_true (by first | (with_reducible assumption) | assumption)
                obtain ⟨ad181, e181, hx181_0⟩ := Kd.at_int (Kd.V_reads' HO_0.out).2.2 0 p181 q181
                cases e181
                have qi181 : (0 < l0.length) = True := eq_true (by omega)
                (try rw [show ((0 : Int)).toNat = 0 from rfl] at hx181_0)
                (try rw [Addr.add_zero'] at hx181_0)
                replace p181 := eq_true p181
                replace q181 := eq_true q181
                have p197 : 0 ≤ (0 : Int) := (by omega)
                have q197 : 0 < (l0.length : Int) := of_decide_eq_true (by first | (with_reducible assumption) | assumption)
                obtain ⟨ad197, e197, hx197_0⟩ := Kd.at_int (Kd.V_reads' HO_0.out).2.2 0 p197 q197
                obtain rfl : ad181 = ad197 := (by injection e197)
                have qi197 : (0 < l0.length) = True := eq_true (by omega)
                (try rw [show ((0 : Int)).toNat = 0 from rfl] at hx197_0)
                (try rw [Addr.add_zero'] at hx197_0)
                replace p197 := eq_true p197
                replace q197 := eq_true q197
                have p205 : 0 ≤ (0 : Int) := (by omega)
                have q205 : 0 < (l0.length : Int) := of_decide_eq_true (by first | (with_reducible assumption) | assumption)
                obtain ⟨ad205, e205, hx205_0⟩ := Kd.at_int (Kd.V_reads' HO_0.out).2.2 0 p205 q205
                obtain rfl : ad181 = ad205 := (by injection e205)
                have qi205 : (0 < l0.length) = True := eq_true (by omega)
                (try rw [show ((0 : Int)).toNat = 0 from rfl] at hx205_0)
                (try rw [Addr.add_zero'] at hx205_0)
                replace p205 := eq_true p205
                replace q205 := eq_true q205
                have p206 : 0 ≤ (1 : Int) := (by omega)
                have q206 : 1 < (l0.length : Int) := of_decide_eq_true (by first | (with_reducible assumption) | assumption)
                obtain ⟨ad206, e206, hx206_0⟩ := Kd.at_int (Kd.V_reads' HO_0.out).2.2 1 p206 q206
                obtain rfl : ad181 = ad206 := (by injection e206)
                (try simp only [show (1 : Int).toNat = 1 from rfl, Nat.reduceMul, Nat.reduceEqDiff, Go.Addr.add, ↓reduceIte] at hx206_0)
                have qi206 : (1 < l0.length) = True := eq_true (by omega)
                (try rw [show ((1 : Int)).toNat = 1 from rfl] at hx206_0)
                replace p206 := eq_true p206
                replace q206 := eq_true q206
                have p207 : 0 ≤ (0 : Int) := (by omega)
                have q207 : 0 < (l0.length : Int) := of_decide_eq_true (by first | (with_reducible assumption) | assumption)
                obtain ⟨ad207, e207, hx207_0⟩ := Kd.at_int (Kd.V_reads' HO_0.out).2.2 0 p207 q207
                obtain rfl : ad181 = ad207 := (by injection e207)
                have qi207 : (0 < l0.length) = True := eq_true (by omega)
                (try rw [show ((0 : Int)).toNat = 0 from rfl] at hx207_0)
                (try rw [Addr.add_zero'] at hx207_0)
                replace p207 := eq_true p207
                replace q207 := eq_true q207
                have p208 : 0 ≤ (1 : Int) := (by omega)
                have q208 : 1 < (l0.length : Int) := of_decide_eq_true (by first | (with_reducible assumption) | assumption)
                obtain ⟨ad208, e208, hx208_0⟩ := Kd.at_int (Kd.V_reads' HO_0.out).2.2 1 p208 q208
                obtain rfl : ad181 = ad208 := (by injection e208)
                (try simp only [show (1 : Int).toNat = 1 from rfl, Nat.reduceMul, Nat.reduceEqDiff, Go.Addr.add, ↓reduceIte] at hx208_0)
                have qi208 : (1 < l0.length) = True := eq_true (by omega)
                (try rw [show ((1 : Int)).toNat = 1 from rfl] at hx208_0)
                replace p208 := eq_true p208
                replace q208 := eq_true q208
                go_wp2
                go_ret2
                exact ⟨by first | rfl | (simp [errW_none, errW_some] <;> rfl) | (simp [*, errW_none, errW_some] <;> rfl) | (simp [errW_none, errW_some, G.isEmpty_ne]; done), by repeat (first | (with_reducible first | exact HB.out | apply below_alloc | apply pw_below_drewN | apply below_drew1) | exact HB.out)⟩
              ·rw [if_neg c51] at H
               have c51b0 : ((rd l0 0) == 244) = false := beq_eq_false_iff_ne.mpr c51
               have c51b1 : ((rd l0 0) != 244) = true := bne_iff_ne.mpr c51
               simp only [Option.some.injEq, Prod.mk.injEq] at H
               obtain ⟨rfl, rfl⟩ := H
               have p181 : 0 ≤ (0 : Int) := (by omega)
               have q181 : 0 < (l0.length : Int) := of_decide_eq_true (by first | (with_reducible assumption) | assumption)
               obtain ⟨ad181, e181, hx181_0⟩ := Kd.at_int (Kd.V_reads' HO_0.out).2.2 0 p181 q181
               cases e181
               have qi181 : (0 < l0.length) = True := eq_true (by omega)
               (try rw [show ((0 : Int)).toNat = 0 from rfl] at hx181_0)
               (try rw [Addr.add_zero'] at hx181_0)
               replace p181 := eq_true p181
               replace q181 := eq_true q181
               have p197 : 0 ≤ (0 : Int) := (by omega)
               have q197 : 0 < (l0.length : Int) := of_decide_eq_true (by first | (with_reducible assumption) | assumption)
               obtain ⟨ad197, e197, hx197_0⟩ := Kd.at_int (Kd.V_reads' HO_0.out).2.2 0 p197 q197
               obtain rfl : ad181 = ad197 := (by injection e197)
               have qi197 : (0 < l0.length) = True := eq_true (by omega)
               (try rw [show ((0 : Int)).toNat = 0 from rfl] at hx197_0)
               (try rw [Addr.add_zero'] at hx197_0)
               replace p197 := eq_true p197
               replace q197 := eq_true q197
               have p205 : 0 ≤ (0 : Int) := (by omega)
               have q205 : 0 < (l0.length : Int) := of_decide_eq_true (by first | (with_reducible assumption) | assumption)
               obtain ⟨ad205, e205, hx205_0⟩ := Kd.at_int (Kd.V_reads' HO_0.out).2.2 0 p205 q205
               obtain rfl : ad181 = ad205 := (by injection e205)
               have qi205 : (0 < l0.length) = True := eq_true (by omega)
               (try rw [show ((0 : Int)).toNat = 0 from rfl] at hx205_0)
               (try rw [Addr.add_zero'] at hx205_0)
               replace p205 := eq_true p205
               replace q205 := eq_true q205
               have p206 : 0 ≤ (1 : Int) := (by omega)
               have q206 : 1 < (l0.length : Int) := of_decide_eq_true (by first | (with_reducible assumption) | assumption)
               obtain ⟨ad206, e206, hx206_0⟩ := Kd.at_int (Kd.V_reads' HO_0.out).2.2 1 p206 q206
               obtain rfl : ad181 = ad206 := (by injection e206)
               (try simp only [show (1 : Int).toNat = 1 from rfl, Nat.reduceMul, Nat.reduceEqDiff, Go.Addr.add, ↓reduceIte] at hx206_0)
               have qi206 : (1 < l0.length) = True := eq_true (by omega)
               (try rw [show ((1 : Int)).toNat = 1 from rfl] at hx206_0)
               replace p206 := eq_true p206
               replace q206 := eq_true q206
               have p207 : 0 ≤ (0 : Int) := (by omega)
               have q207 : 0 < (l0.length : Int) := of_decide_eq_true (by first | (with_reducible assumption) | assumption)
               obtain ⟨ad207, e207, hx207_0⟩ := Kd.at_int (Kd.V_reads' HO_0.out).2.2 0 p207 q207
               obtain rfl : ad181 = ad207 := (by injection e207)
               have qi207 : (0 < l0.length) = True := eq_true (by omega)
               (try rw [show ((0 : Int)).toNat = 0 from rfl] at hx207_0)
               (try rw [Addr.add_zero'] at hx207_0)
               replace p207 := eq_true p207
               replace q207 := eq_true q207
               go_wp2
               go_ret2
               exact ⟨by first | rfl | (simp [errW_none, errW_some] <;> rfl) | (simp [*, errW_none, errW_some] <;> rfl) | (simp [errW_none, errW_some, G.isEmpty_ne]; done), by repeat (first | (with_reducible first | exact HB.out | apply below_alloc | apply pw_below_drewN | apply below_drew1) | exact HB.out)⟩
            ·rw [if_neg c49] at H
             exact absurd H (by simp)
           ·rw [if_neg c48] at H
            have c48b0 : ((rd l0 0) == 240) = false := beq_eq_false_iff_ne.mpr c48
            have c48b1 : ((rd l0 0) != 240) = true := bne_iff_ne.mpr c48
            by_cases c53 : (rd l0 0) = 244
            ·rw [if_pos c53] at H
             have c53b0 : ((rd l0 0) == 244) = true := beq_iff_eq.mpr c53
             have c53b1 : ((rd l0 0) != 244) = false := bne_eq_false_iff_eq.mpr c53
             clear c53
             by_cases c54 : 1 < (l0.length : Int)
             ·rw [if_pos c54] at H
              have c54b0 : decide (1 < (l0.length : Int)) = true := decide_eq_true c54
              have c54b1 : decide (1 < l0.length) = true := decide_eq_true (by omega)
              clear c54
              by_cases c55 : (rd l0 1) > 143
              ·rw [if_pos c55] at H
               have c55b0 : decide (143 < (rd l0 1)) = true := decide_eq_true c55
               clear c55
               simp only [Option.some.injEq, Prod.mk.injEq] at H
               obtain ⟨rfl, rfl⟩ := H
               have p181 : 0 ≤ (0 : Int) := (by omega)
               have q181 : 0 < (l0.length : Int) := of_decide_eq_true (by first | (with_reducible assumption) | assumption)
               obtain ⟨ad181, e181, hx181_0⟩ := Kd.at_int (Kd.V_reads' HO_0.out).2.2 0 p181 q181
               cases e181
               have qi181 : (0 < l0.length) = True := eq_true (by omega)
               (try rw [show ((0 : Int)).toNat = 0 from rfl] at hx181_0)
               (try rw [Addr.add_zero'] at hx181_0)
               replace p181 := eq_true p181
               replace q181 := eq_true q181
               have p197 : 0 ≤ (0 : Int) := (by omega)
               have q197 : 0 < (l0.length : Int) := of_decide_eq_true (by first | (with_reducible assumption) | assumption)
               obtain ⟨ad197, e197, hx197_0⟩ := Kd.at_int (Kd.V_reads' HO_0.out).2.2 0 p197 q197
               obtain rfl : ad181 = ad197 := (by injection e197)
               have qi197 : (0 < l0.length) = True := eq_true (by omega)
               (try rw [show ((0 : Int)).toNat = 0 from rfl] at hx197_0)
               (try rw [Addr.add_zero'] at hx197_0)
               replace p197 := eq_true p197
               replace q197 := eq_true q197
               have p205 : 0 ≤ (0 : Int) := (by omega)
               have q205 : 0 < (l0.length : Int) := of_decide_eq_true (by first | (with_reducible assumption) | assumption)
               obtain ⟨ad205, e205, hx205_0⟩ := Kd.at_int (Kd.V_reads' HO_0.out).2.2 0 p205 q205
               obtain rfl : ad181 = ad205 := (by injection e205)
               have qi205 : (0 < l0.length) = True := eq_true (by omega)
               (try rw [show ((0 : Int)).toNat = 0 from rfl] at hx205_0)
               (try rw [Addr.add_zero'] at hx205_0)
               replace p205 := eq_true p205
               replace q205 := eq_true q205
               have p209 : 0 ≤ (0 : Int) := (by omega)
               have q209 : 0 < (l0.length : Int) := of_decide_eq_true (by first | (with_reducible assumption) | assumption)
               obtain ⟨ad209, e209, hx209_0⟩ := Kd.at_int (Kd.V_reads' HO_0.out).2.2 0 p209 q209
               obtain rfl : ad181 = ad209 := (by injection e209)
               have qi209 : (0 < l0.length) = True := eq_true (by omega)
               (try rw [show ((0 : Int)).toNat = 0 from rfl] at hx209_0)
               (try rw [Addr.add_zero'] at hx209_0)
               replace p209 := eq_true p209
               replace q209 := eq_true q209
               have p210 : 0 ≤ (1 : Int) := (by omega)
               have q210 : 1 < (l0.length : Int) := of_decide_eq_true (by first | (with_reducible assumption) | assumption)
               obtain ⟨ad210, e210, hx210_0⟩ := Kd.at_int (Kd.V_reads' HO_0.out).2.2 1 p210 q210
               obtain rfl : ad181 = ad210 := (by injection e210)
               (try simp only [show (1 : Int).toNat = 1 from rfl, Nat.reduceMul, Nat.reduceEqDiff, Go.Addr.add, ↓reduceIte] at hx210_0)
               have qi210 : (1 < l0.length) = True := eq_true (by omega)
               (try rw [show ((1 : Int)).toNat = 1 from rfl] at hx210_0)
               replace p210 := eq_true p210
               replace q210 := eq_true q210
               go_wp2
               go_ret2
               exact ⟨by first | rfl | (simp [errW_none, errW_some] <;> rfl) | (simp [*, errW_none, errW_some] <;> rfl) | (simp [errW_none, errW_some, G.isEmpty_ne]; done), by repeat (first | (with_reducible first | exact HB.out | apply below_alloc | apply pw_below_drewN | apply below_drew1) | exact HB.out)⟩
              ·rw [if_neg c55] at H
               have c55b0 : decide (143 < (rd l0 1)) = false := decide_eq_false c55
               clear c55
               simp only [Option.some.injEq, Prod.mk.injEq] at H
               obtain ⟨rfl, rfl⟩ := H
               have p181 : 0 ≤ (0 : Int) := (by omega)
               have q181 : 0 < (l0.length : Int) := of_decide_eq_true (by first | (with_reducible assumption) | assumption)
               obtain ⟨ad181, e181, hx181_0⟩ := Kd.at_int (Kd.V_reads' HO_0.out).2.2 0 p181 q181
               cases e181
               have qi181 : (0 < l0.length) = True := eq_true (by omega)
               (try rw [show ((0 : Int)).toNat = 0 from rfl] at hx181_0)
               (try rw [Addr.add_zero'] at hx181_0)
               replace p181 := eq_true p181
               replace q181 := eq_true q181
               have p197 : 0 ≤ (0 : Int) := (by omega)
               have q197 : 0 < (l0.length : Int) := of_decide_eq_true (by first | (with_reducible assumption) | assumption)
               obtain ⟨ad197, e197, hx197_0⟩ := Kd.at_int (Kd.V_reads' HO_0.out).2.2 0 p197 q197
               obtain rfl : ad181 = ad197 := (by injection e197)
               have qi197 : (0 < l0.length) = True := eq_true (by omega)
               (try rw [show ((0 : Int)).toNat = 0 from rfl] at hx197_0)
               (try rw [Addr.add_zero'] at hx197_0)
               replace p197 := eq_true p197
               replace q197 := eq_true q197
               have p205 : 0 ≤ (0 : Int) := (by omega)
               have q205 : 0 < (l0.length : Int) := of_decide_eq_true (by first | (with_reducible assumption) | assumption)
               obtain ⟨ad205, e205, hx205_0⟩ := Kd.at_int (Kd.V_reads' HO_0.out).2.2 0 p205 q205
               obtain rfl : ad181 = ad205 := (by injection e205)
               have qi205 : (0 < l0.length) = True := eq_true (by omega)
               (try rw [show ((0 : Int)).toNat = 0 from rfl] at hx205_0)
               (try rw [Addr.add_zero'] at hx205_0)
               replace p205 := eq_true p205
               replace q205 := eq_true q205
               have p209 : 0 ≤ (0 : Int) := (by omega)
               have q209 : 0 < (l0.length : Int) := of_decide_eq_true (by first | (with_reducible assumption) | assumption)
               obtain ⟨ad209, e209, hx209_0⟩ := Kd.at_int (Kd.V_reads' HO_0.out).2.2 0 p209 q209
               obtain rfl : ad181 = ad209 := (by injection e209)
               have qi209 : (0 < l0.length) = True := eq_true (by omega)
               (try rw [show ((0 : Int)).toNat = 0 from rfl] at hx209_0)
               (try rw [Addr.add_zero'] at hx209_0)
               replace p209 := eq_true p209
               replace q209 := eq_true q209
               have p210 : 0 ≤ (1 : Int) := (by omega)
               have q210 : 1 < (l0.length : Int) := of_decide_eq_true (by first | (with_reducible assumption) | assumption)
               obtain ⟨ad210, e210, hx210_0⟩ := Kd.at_int (Kd.V_reads' HO_0.out).2.2 1 p210 q210
               obtain rfl : ad181 = ad210 := (by injection e210)
               (try simp only [show (1 : Int).toNat = 1 from rfl, Nat.reduceMul, Nat.reduceEqDiff, Go.Addr.add, ↓reduceIte] at hx210_0)
               have qi210 : (1 < l0.length) = True := eq_true (by omega)
               (try rw [show ((1 : Int)).toNat = 1 from rfl] at hx210_0)
               replace p210 := eq_true p210
               replace q210 := eq_true q210
               go_wp2
               go_ret2
               exact ⟨by first | rfl | (simp [errW_none, errW_some] <;> rfl) | (simp [*, errW_none, errW_some] <;> rfl) | (simp [errW_none, errW_some, G.isEmpty_ne]; done), by repeat (first | (with_reducible first | exact HB.out | apply below_alloc | apply pw_below_drewN | apply below_drew1) | exact HB.out)⟩
             ·rw [if_neg c54] at H
              exact absurd H (by simp)
            ·rw [if_neg c53] at H
             have c53b0 : ((rd l0 0) == 244) = false := beq_eq_false_iff_ne.mpr c53
             have c53b1 : ((rd l0 0) != 244) = true := bne_iff_ne.mpr c53
             simp only [Option.some.injEq, Prod.mk.injEq] at H
             obtain ⟨rfl, rfl⟩ := H
             have p181 : 0 ≤ (0 : Int) := (by omega)
             have q181 : 0 < (l0.length : Int) := of_decide_eq_true (by first | (with_reducible assumption) | assumption)
             obtain ⟨ad181, e181, hx181_0⟩ := Kd.at_int (Kd.V_reads' HO_0.out).2.2 0 p181 q181
             cases e181
             have qi181 : (0 < l0.length) = True := eq_true (by omega)
             (try rw [show ((0 : Int)).toNat = 0 from rfl] at hx181_0)
             (try rw [Addr.add_zero'] at hx181_0)
             replace p181 := eq_true p181
             replace q181 := eq_true q181
             have p197 : 0 ≤ (0 : Int) := (by omega)
             have q197 : 0 < (l0.length : Int) := of_decide_eq_true (by first | (with_reducible assumption) | assumption)
             obtain ⟨ad197, e197, hx197_0⟩ := Kd.at_int (Kd.V_reads' HO_0.out).2.2 0 p197 q197
             obtain rfl : ad181 = ad197 := (by injection e197)
             have qi197 : (0 < l0.length) = True := eq_true (by omega)
             (try rw [show ((0 : Int)).toNat = 0 from rfl] at hx197_0)
             (try rw [Addr.add_zero'] at hx197_0)
             replace p197 := eq_true p197
             replace q197 := eq_true q197
             have p205 : 0 ≤ (0 : Int) := (by omega)
             have q205 : 0 < (l0.length : Int) := of_decide_eq_true (by first | (with_reducible assumption) | assumption)
             obtain ⟨ad205, e205, hx205_0⟩ := Kd.at_int (Kd.V_reads' HO_0.out).2.2 0 p205 q205
             obtain rfl : ad181 = ad205 := (by injection e205)
             have qi205 : (0 < l0.length) = True := eq_true (by omega)
             (try rw [show ((0 : Int)).toNat = 0 from rfl] at hx205_0)
             (try rw [Addr.add_zero'] at hx205_0)
             replace p205 := eq_true p205
             replace q205 := eq_true q205
             have p209 : 0 ≤ (0 : Int) := (by omega)
             have q209 : 0 < (l0.length : Int) := of_decide_eq_true (by first | (with_reducible assumption) | assumption)
             obtain ⟨ad209, e209, hx209_0⟩ := Kd.at_int (Kd.V_reads' HO_0.out).2.2 0 p209 q209
             obtain rfl : ad181 = ad209 := (by injection e209)
             have qi209 : (0 < l0.length) = True := eq_true (by omega)
             (try rw [show ((0 : Int)).toNat = 0 from rfl] at hx209_0)
             (try rw [Addr.add_zero'] at hx209_0)
             replace p209 := eq_true p209
             replace q209 := eq_true q209
             go_wp2
             go_ret2
             exact ⟨by first | rfl | (simp [errW_none, errW_some] <;> rfl) | (simp [*, errW_none, errW_some] <;> rfl) | (simp [errW_none, errW_some, G.isEmpty_ne]; done), by repeat (first | (with_reducible first | exact HB.out | apply below_alloc | apply pw_below_drewN | apply below_drew1) | exact HB.out)⟩
        ·rw [if_neg c21] at H
         exact absurd H (by simp)
       ·rw [if_neg c20] at H
        have c20b0 : decide (1 < (l0.length : Int)) = false := decide_eq_false c20
        have c20b1 : decide (1 < l0.length) = false := decide_eq_false (by omega)
        clear c20
        simp only [Option.some.injEq, Prod.mk.injEq] at H
        obtain ⟨rfl, rfl⟩ := H
        go_wp2
        go_ret2
        exact ⟨by first | rfl | (simp [errW_none, errW_some] <;> rfl) | (simp [*, errW_none, errW_some] <;> rfl) | (simp [errW_none, errW_some, G.isEmpty_ne]; done), by repeat (first | (with_reducible first | exact HB.out | apply below_alloc | apply pw_below_drewN | apply below_drew1) | exact HB.out)⟩

end Go.Proofs.YtbbdfamfmkcfhaaGreatDoor.P
