-- Written for this claim by a program of this session's (not a text of the kit's print).
import Derived.Test.YtbbdfamfmkcfhaaGreatDoorPx0
namespace Go.Proofs.YtbbdfamfmkcfhaaGreatDoor.P
open Go.RowKit Go.Proofs.YtbbdfamfmkcfhaaGreatDoorW.PrintWords Go.Proofs.YtbbdfamfmkcfhaaGreatDoorW.PrintLast Go.Proofs.YtbbdfamfmkcfhaaGreatDoorW.PrintMore
attribute [local go_sem] max2_int min2_int max_two min_two max_three min_three max_four min_four   -- for this text's walks alone
set_option linter.unusedVariables false
set_option linter.unusedSimpArgs false

/-! ### carryallref02_In: function 30 -/
mutual
def carryallref02_In.j0 : Nat → Int → Int → Bool → Option (Bool)
 | 0, _, _, _ => none
 | k + 1, x0, x1, x13 => if x13 = true then (some false) else (if x1 < 32 then (carryallref02_In.j1 k x0 x1 true) else (carryallref02_In.j1 k x0 x1 (decide (x1 > 126))))
def carryallref02_In.j1 : Nat → Int → Int → Bool → Option (Bool)
 | 0, _, _, _ => none
 | k + 1, x0, x1, x19 => if x19 = true then (some true) else (if x1 = 32 then (carryallref02_In.j2 k x0 x1 true) else (if x1 = 34 then (carryallref02_In.j2 k x0 x1 true) else (if x1 = 35 then (carryallref02_In.j2 k x0 x1 true) else (if x1 = 60 then (carryallref02_In.j2 k x0 x1 true) else (carryallref02_In.j2 k x0 x1 (x1 == 62))))))
def carryallref02_In.j2 : Nat → Int → Int → Bool → Option (Bool)
 | 0, _, _, _ => none
 | k + 1, x0, x1, x5 => if x5 = true then (carryallref02_In.j3 k x0 x1 x5 true) else (if x1 = 63 then (carryallref02_In.j3 k x0 x1 x5 true) else (if x1 = 94 then (carryallref02_In.j3 k x0 x1 x5 true) else (if x1 = 96 then (carryallref02_In.j3 k x0 x1 x5 true) else (if x1 = 123 then (carryallref02_In.j3 k x0 x1 x5 true) else (carryallref02_In.j3 k x0 x1 x5 (x1 == 125))))))
def carryallref02_In.j3 : Nat → Int → Int → Bool → Bool → Option (Bool)
 | 0, _, _, _, _ => none
 | k + 1, x0, x1, x5, x6 => if x6 = true then (carryallref02_In.j4 k x0 x1 x5 x6 true) else (if x1 = 47 then (carryallref02_In.j4 k x0 x1 x5 x6 true) else (if x1 = 58 then (carryallref02_In.j4 k x0 x1 x5 x6 true) else (if x1 = 59 then (carryallref02_In.j4 k x0 x1 x5 x6 true) else (if x1 = 61 then (carryallref02_In.j4 k x0 x1 x5 x6 true) else (if x1 = 64 then (carryallref02_In.j4 k x0 x1 x5 x6 true) else (if x1 = 91 then (carryallref02_In.j4 k x0 x1 x5 x6 true) else (if x1 = 92 then (carryallref02_In.j4 k x0 x1 x5 x6 true) else (if x1 = 93 then (carryallref02_In.j4 k x0 x1 x5 x6 true) else (carryallref02_In.j4 k x0 x1 x5 x6 (x1 == 124))))))))))
def carryallref02_In.j4 : Nat → Int → Int → Bool → Bool → Bool → Option (Bool)
 | 0, _, _, _, _, _ => none
 | k + 1, x0, x1, x5, x6, x7 => if x0 = 1 then (if x1 = 32 then (some true) else (if x1 = 34 then (some true) else (if x1 = 60 then (some true) else (if x1 = 62 then (some true) else (some (x1 == 96)))))) else (if x0 = 2 then (some x5) else (if x0 = 3 then (if x5 = true then (some true) else (some (x1 == 39))) else (if x0 = 4 then (some x6) else (if x0 = 5 then (some x7) else (if x0 = 6 then (if x7 = true then (some true) else (if x1 = 36 then (some true) else (if x1 = 37 then (some true) else (if x1 = 38 then (some true) else (if x1 = 43 then (some true) else (some (x1 == 44))))))) else (some false))))))
end
def carryallref02_In.f (k : Nat) (a0 : Int) (a1 : Int) : Option (Bool) := if a0 < 0 then (carryallref02_In.j0 k a0 a1 true) else (carryallref02_In.j0 k a0 a1 (decide (a0 > 6)))
theorem carryallref02_In.mono_l : ∀ k, (∀ y0 y1 y2, LeO (carryallref02_In.j0 k y0 y1 y2) (carryallref02_In.j0 (k + 1) y0 y1 y2)) ∧ (∀ y0 y1 y2, LeO (carryallref02_In.j1 k y0 y1 y2) (carryallref02_In.j1 (k + 1) y0 y1 y2)) ∧ (∀ y0 y1 y2, LeO (carryallref02_In.j2 k y0 y1 y2) (carryallref02_In.j2 (k + 1) y0 y1 y2)) ∧ (∀ y0 y1 y2 y3, LeO (carryallref02_In.j3 k y0 y1 y2 y3) (carryallref02_In.j3 (k + 1) y0 y1 y2 y3)) ∧ (∀ y0 y1 y2 y3 y4, LeO (carryallref02_In.j4 k y0 y1 y2 y3 y4) (carryallref02_In.j4 (k + 1) y0 y1 y2 y3 y4))
 | 0 => ⟨fun _ _ _ r h => by simp [carryallref02_In.j0] at h, fun _ _ _ r h => by simp [carryallref02_In.j1] at h, fun _ _ _ r h => by simp [carryallref02_In.j2] at h, fun _ _ _ _ r h => by simp [carryallref02_In.j3] at h, fun _ _ _ _ _ r h => by simp [carryallref02_In.j4] at h⟩
 | k + 1 => by
  obtain ⟨ih0, ih1, ih2, ih3, ih4⟩ := carryallref02_In.mono_l k
  refine ⟨?_, ?_, ?_, ?_, ?_⟩
  ·intro y0 y1 y2
   unfold carryallref02_In.j0
   repeat' first
   | (with_reducible exact ih0 _ _ _)
   | (with_reducible exact ih1 _ _ _)
   | (with_reducible exact ih2 _ _ _)
   | (with_reducible exact ih3 _ _ _ _)
   | (with_reducible exact ih4 _ _ _ _ _)
   | (with_reducible exact LeO.refl _)
   | (with_reducible exact LeO.none _)
   | (with_reducible refine LeO.ite ?_ ?_)
   | (with_reducible refine LeO.bind ?_ (fun _ => ?_))
   | exact ih0 _ _ _
   | exact ih1 _ _ _
   | exact ih2 _ _ _
   | exact ih3 _ _ _ _
   | exact ih4 _ _ _ _ _
   | exact LeO.none _
   | refine LeO.ite ?_ ?_
   | refine LeO.bind ?_ (fun _ => ?_)
  ·intro y0 y1 y2
   unfold carryallref02_In.j1
   repeat' first
   | (with_reducible exact ih0 _ _ _)
   | (with_reducible exact ih1 _ _ _)
   | (with_reducible exact ih2 _ _ _)
   | (with_reducible exact ih3 _ _ _ _)
   | (with_reducible exact ih4 _ _ _ _ _)
   | (with_reducible exact LeO.refl _)
   | (with_reducible exact LeO.none _)
   | (with_reducible refine LeO.ite ?_ ?_)
   | (with_reducible refine LeO.bind ?_ (fun _ => ?_))
   | exact ih0 _ _ _
   | exact ih1 _ _ _
   | exact ih2 _ _ _
   | exact ih3 _ _ _ _
   | exact ih4 _ _ _ _ _
   | exact LeO.none _
   | refine LeO.ite ?_ ?_
   | refine LeO.bind ?_ (fun _ => ?_)
  ·intro y0 y1 y2
   unfold carryallref02_In.j2
   repeat' first
   | (with_reducible exact ih0 _ _ _)
   | (with_reducible exact ih1 _ _ _)
   | (with_reducible exact ih2 _ _ _)
   | (with_reducible exact ih3 _ _ _ _)
   | (with_reducible exact ih4 _ _ _ _ _)
   | (with_reducible exact LeO.refl _)
   | (with_reducible exact LeO.none _)
   | (with_reducible refine LeO.ite ?_ ?_)
   | (with_reducible refine LeO.bind ?_ (fun _ => ?_))
   | exact ih0 _ _ _
   | exact ih1 _ _ _
   | exact ih2 _ _ _
   | exact ih3 _ _ _ _
   | exact ih4 _ _ _ _ _
   | exact LeO.none _
   | refine LeO.ite ?_ ?_
   | refine LeO.bind ?_ (fun _ => ?_)
  ·intro y0 y1 y2 y3
   unfold carryallref02_In.j3
   repeat' first
   | (with_reducible exact ih0 _ _ _)
   | (with_reducible exact ih1 _ _ _)
   | (with_reducible exact ih2 _ _ _)
   | (with_reducible exact ih3 _ _ _ _)
   | (with_reducible exact ih4 _ _ _ _ _)
   | (with_reducible exact LeO.refl _)
   | (with_reducible exact LeO.none _)
   | (with_reducible refine LeO.ite ?_ ?_)
   | (with_reducible refine LeO.bind ?_ (fun _ => ?_))
   | exact ih0 _ _ _
   | exact ih1 _ _ _
   | exact ih2 _ _ _
   | exact ih3 _ _ _ _
   | exact ih4 _ _ _ _ _
   | exact LeO.none _
   | refine LeO.ite ?_ ?_
   | refine LeO.bind ?_ (fun _ => ?_)
  ·intro y0 y1 y2 y3 y4
   unfold carryallref02_In.j4
   repeat' first
   | (with_reducible exact ih0 _ _ _)
   | (with_reducible exact ih1 _ _ _)
   | (with_reducible exact ih2 _ _ _)
   | (with_reducible exact ih3 _ _ _ _)
   | (with_reducible exact ih4 _ _ _ _ _)
   | (with_reducible exact LeO.refl _)
   | (with_reducible exact LeO.none _)
   | (with_reducible refine LeO.ite ?_ ?_)
   | (with_reducible refine LeO.bind ?_ (fun _ => ?_))
   | exact ih0 _ _ _
   | exact ih1 _ _ _
   | exact ih2 _ _ _
   | exact ih3 _ _ _ _
   | exact ih4 _ _ _ _ _
   | exact LeO.none _
   | refine LeO.ite ?_ ?_
   | refine LeO.bind ?_ (fun _ => ?_)
theorem carryallref02_In.mono : ∀ a0 a1 k, LeO (carryallref02_In.f k a0 a1) (carryallref02_In.f (k + 1) a0 a1) := by
 intro a0 a1 k
 obtain ⟨ih0, ih1, ih2, ih3, ih4⟩ := carryallref02_In.mono_l k
 unfold carryallref02_In.f
 repeat' first
   | (with_reducible exact ih0 _ _ _)
   | (with_reducible exact ih1 _ _ _)
   | (with_reducible exact ih2 _ _ _)
   | (with_reducible exact ih3 _ _ _ _)
   | (with_reducible exact ih4 _ _ _ _ _)
   | (with_reducible exact LeO.refl _)
   | (with_reducible exact LeO.none _)
   | (with_reducible refine LeO.ite ?_ ?_)
   | (with_reducible refine LeO.bind ?_ (fun _ => ?_))
   | exact ih0 _ _ _
   | exact ih1 _ _ _
   | exact ih2 _ _ _
   | exact ih3 _ _ _ _
   | exact ih4 _ _ _ _ _
   | exact LeO.none _
   | refine LeO.ite ?_ ?_
   | refine LeO.bind ?_ (fun _ => ?_)
set_option maxHeartbeats 8000000 in
set_option maxRecDepth 100000 in
theorem carryallref02_In.calls (k : Nat) (a0 : Int) (a1 : Int) (r : Bool) (w : World) (h : carryallref02_In.f k a0 a1 = some r) :
  Calls Tryz.prog 30 #[.int .i64 a0, .int .u8 a1] w fun e w' => e = .returned (.bool r) ∧ Drawn0 w w' := by
 have H : (if a0 < 0 then (carryallref02_In.j0 k a0 a1 true) else (carryallref02_In.j0 k a0 a1 (decide (a0 > 6)))) = some r := h
 clear h
 have HC3 := Aside0.mk H
 clear H
 go_enter Tryz.func30, Tryz.ntmps30
 go_upto_region 1 with (fail)
 go_cut [13] (fun v13 wc => ∃ (kq : Nat) (x13_2 : Bool), v13 = .bool x13_2 ∧ Aside0 (carryallref02_In.j0 kq a0 a1 x13_2 = some r) ∧ Aside0 (kq ≤ k) ∧ Drawn0 w wc)
 case first =>
  have H := HC3.out
  clear HC3
  by_cases c4 : a0 < 0
  ·rw [if_pos c4] at H
   have c4b0 : decide (a0 < 0) = true := decide_eq_true c4
   clear c4
   (first | rw [c4b0] | (simp only [i64_w, i32_w]; rw [c4b0]) | skip)
   have H' := Aside0.mk H
   clear H
   go_wp2
   go_meet
   case rel => exact ⟨_, (true), (by first | rfl | (simp; done) | (simp [*]; done) | (simp [G.isEmpty_ne]; done)), H', ⟨by first | omega | exact Nat.le_refl _⟩, by repeat (first | exact Drawn0.refl _ | apply Drawn0.step)⟩
  ·rw [if_neg c4] at H
   have c4b0 : decide (a0 < 0) = false := decide_eq_false c4
   clear c4
   (first | rw [c4b0] | (simp only [i64_w, i32_w]; rw [c4b0]) | skip)
   have H' := Aside0.mk H
   clear H
   go_wp2
   go_meet
   case rel => exact ⟨_, (decide (a0 > 6)), (by first | rfl | (simp; done) | (simp [*]; done) | (simp [G.isEmpty_ne]; done)), H', ⟨by first | omega | exact Nat.le_refl _⟩, by repeat (first | exact Drawn0.refl _ | apply Drawn0.step)⟩
 case rest =>
  clear HC3
  try clear p2
  try clear c3
  try clear c4
  try clear c4b0
  obtain ⟨kq, x13_2, rfl, HA, HJ2, ⟨mc2, rfl⟩⟩ := hcut
  cases kq with
  | zero => exact absurd HA.out (by simp [carryallref02_In.j0])
  | succ kj2 =>
   have H := HA.out
   clear HA
   simp only [carryallref02_In.j0] at H
   by_cases c5 : x13_2 = true
   ·subst c5
    have H1 : (some false) = some r := by rw [if_pos rfl] at H; exact H
    clear H
    have H := H1
    clear H1
    obtain rfl := Option.some.inj H
    go_wp2
    go_ret
    exact ⟨by first | rfl | (simp; done) | (simp [*]; done) | (simp [G.isEmpty_ne]; done), by repeat (first | exact Drawn0.refl _ | apply Drawn0.step)⟩
   ·replace c5 := Bool.eq_false_iff.mpr c5
    subst c5
    have H1 : (if a1 < 32 then (carryallref02_In.j1 kj2 a0 a1 true) else (carryallref02_In.j1 kj2 a0 a1 (decide (a1 > 126)))) = some r := by rw [if_neg (show ¬ (false = true) by decide)] at H; exact H
    clear H
    have H := H1
    clear H1
    have HC6 := Aside0.mk H
    clear H
    go_upto_region 3 with (fail)
    go_cut [19] (fun v19 wc => ∃ (kq : Nat) (x19_5 : Bool), v19 = .bool x19_5 ∧ Aside0 (carryallref02_In.j1 kq a0 a1 x19_5 = some r) ∧ Aside0 (kq ≤ kj2) ∧ Drawn0 w wc)
    case first =>
     have H := HC6.out
     clear HC6
     by_cases c7 : a1 < 32
     ·rw [if_pos c7] at H
      have c7b0 : decide (a1 < 32) = true := decide_eq_true c7
      clear c7
      (first | rw [c7b0] | (simp only [i64_w, i32_w]; rw [c7b0]) | skip)
      have H' := Aside0.mk H
      clear H
      go_wp2
      go_meet
      case rel => exact ⟨_, (true), (by first | rfl | (simp; done) | (simp [*]; done) | (simp [G.isEmpty_ne]; done)), H', ⟨by have := HJ2.out; first | omega | exact Nat.le_refl _⟩, by repeat (first | exact Drawn0.refl _ | apply Drawn0.step)⟩
     ·rw [if_neg c7] at H
      have c7b0 : decide (a1 < 32) = false := decide_eq_false c7
      clear c7
      (first | rw [c7b0] | (simp only [i64_w, i32_w]; rw [c7b0]) | skip)
      have H' := Aside0.mk H
      clear H
      go_wp2
      go_meet
      case rel => exact ⟨_, (decide (a1 > 126)), (by first | rfl | (simp; done) | (simp [*]; done) | (simp [G.isEmpty_ne]; done)), H', ⟨by have := HJ2.out; first | omega | exact Nat.le_refl _⟩, by repeat (first | exact Drawn0.refl _ | apply Drawn0.step)⟩
    case rest =>
     clear HC6
     try clear c2
     try clear p2
     try clear c3
     try clear c4
     try clear c4b0
     try clear c5
     try clear c7
     try clear c7b0
     try clear p2
     obtain ⟨kq, x19_5, rfl, HA, HJ5, ⟨mc5, rfl⟩⟩ := hcut
     cases kq with
     | zero => exact absurd HA.out (by simp [carryallref02_In.j1])
     | succ kj5 =>
      have H := HA.out
      clear HA
      simp only [carryallref02_In.j1] at H
      by_cases c8 : x19_5 = true
      ·subst c8
       have H1 : (some true) = some r := by rw [if_pos rfl] at H; exact H
       clear H
       have H := H1
       clear H1
       obtain rfl := Option.some.inj H
       go_wp2
       go_ret
       exact ⟨by first | rfl | (simp; done) | (simp [*]; done) | (simp [G.isEmpty_ne]; done), by repeat (first | exact Drawn0.refl _ | apply Drawn0.step)⟩
      ·replace c8 := Bool.eq_false_iff.mpr c8
       subst c8
       have H1 : (if a1 = 32 then (carryallref02_In.j2 kj5 a0 a1 true) else (if a1 = 34 then (carryallref02_In.j2 kj5 a0 a1 true) else (if a1 = 35 then (carryallref02_In.j2 kj5 a0 a1 true) else (if a1 = 60 then (carryallref02_In.j2 kj5 a0 a1 true) else (carryallref02_In.j2 kj5 a0 a1 (a1 == 62)))))) = some r := by rw [if_neg (show ¬ (false = true) by decide)] at H; exact H
       clear H
       have H := H1
       clear H1
       have HC9 := Aside0.mk H
       clear H
       go_upto_region 5 with (fail)
       go_cut [5] (fun v5 wc => ∃ (kq : Nat) (x5_8 : Bool), v5 = .bool x5_8 ∧ Aside0 (carryallref02_In.j2 kq a0 a1 x5_8 = some r) ∧ Aside0 (kq ≤ kj5) ∧ Drawn0 w wc)
       case first =>
        have H := HC9.out
        clear HC9
        by_cases c10 : a1 = 32
        ·rw [if_pos c10] at H
         have c10b0 : (a1 == 32) = true := beq_iff_eq.mpr c10
         have c10b1 : (a1 != 32) = false := bne_eq_false_iff_eq.mpr c10
         clear c10
         (first | rw [c10b0] | (simp only [i64_w, i32_w]; rw [c10b0]) | skip)
         have H' := Aside0.mk H
         clear H
         go_wp2
         go_meet
         case rel => exact ⟨_, (true), (by first | rfl | (simp; done) | (simp [*]; done) | (simp [G.isEmpty_ne]; done)), H', ⟨by have := HJ2.out; have := HJ5.out; first | omega | exact Nat.le_refl _⟩, by repeat (first | exact Drawn0.refl _ | apply Drawn0.step)⟩
        ·rw [if_neg c10] at H
         have c10b0 : (a1 == 32) = false := beq_eq_false_iff_ne.mpr c10
         have c10b1 : (a1 != 32) = true := bne_iff_ne.mpr c10
         (first | rw [c10b0] | (simp only [i64_w, i32_w]; rw [c10b0]) | skip)
         by_cases c11 : a1 = 34
         ·rw [if_pos c11] at H
          have c11b0 : (a1 == 34) = true := beq_iff_eq.mpr c11
          have c11b1 : (a1 != 34) = false := bne_eq_false_iff_eq.mpr c11
          clear c11
          have H' := Aside0.mk H
          clear H
          go_wp2
          go_meet
          case rel => exact ⟨_, (true), (by first | rfl | (simp; done) | (simp [*]; done) | (simp [G.isEmpty_ne]; done)), H', ⟨by have := HJ2.out; have := HJ5.out; first | omega | exact Nat.le_refl _⟩, by repeat (first | exact Drawn0.refl _ | apply Drawn0.step)⟩
         ·rw [if_neg c11] at H
          have c11b0 : (a1 == 34) = false := beq_eq_false_iff_ne.mpr c11
          have c11b1 : (a1 != 34) = true := bne_iff_ne.mpr c11
          by_cases c12 : a1 = 35
          ·rw [if_pos c12] at H
           have c12b0 : (a1 == 35) = true := beq_iff_eq.mpr c12
           have c12b1 : (a1 != 35) = false := bne_eq_false_iff_eq.mpr c12
           clear c12
           have H' := Aside0.mk H
           clear H
           go_wp2
           go_meet
           case rel => exact ⟨_, (true), (by first | rfl | (simp; done) | (simp [*]; done) | (simp [G.isEmpty_ne]; done)), H', ⟨by have := HJ2.out; have := HJ5.out; first | omega | exact Nat.le_refl _⟩, by repeat (first | exact Drawn0.refl _ | apply Drawn0.step)⟩
          ·rw [if_neg c12] at H
           have c12b0 : (a1 == 35) = false := beq_eq_false_iff_ne.mpr c12
           have c12b1 : (a1 != 35) = true := bne_iff_ne.mpr c12
           by_cases c13 : a1 = 60
           ·rw [if_pos c13] at H
            have c13b0 : (a1 == 60) = true := beq_iff_eq.mpr c13
            have c13b1 : (a1 != 60) = false := bne_eq_false_iff_eq.mpr c13
            clear c13
            have H' := Aside0.mk H
            clear H
            go_wp2
            go_meet
            case rel => exact ⟨_, (true), (by first | rfl | (simp; done) | (simp [*]; done) | (simp [G.isEmpty_ne]; done)), H', ⟨by have := HJ2.out; have := HJ5.out; first | omega | exact Nat.le_refl _⟩, by repeat (first | exact Drawn0.refl _ | apply Drawn0.step)⟩
           ·rw [if_neg c13] at H
            have c13b0 : (a1 == 60) = false := beq_eq_false_iff_ne.mpr c13
            have c13b1 : (a1 != 60) = true := bne_iff_ne.mpr c13
            have H' := Aside0.mk H
            clear H
            go_wp2
            go_meet
            case rel => exact ⟨_, ((a1 == 62)), (by first | rfl | (simp; done) | (simp [*]; done) | (simp [G.isEmpty_ne]; done)), H', ⟨by have := HJ2.out; have := HJ5.out; first | omega | exact Nat.le_refl _⟩, by repeat (first | exact Drawn0.refl _ | apply Drawn0.step)⟩
       case rest =>
        clear HC9
        try clear c1
        try clear c2
        try clear p2
        try clear c3
        try clear c4
        try clear c4b0
        try clear c5
        try clear c7
        try clear c7b0
        try clear c8
        try clear c10
        try clear c10b0
        try clear c10b1
        try clear c11
        try clear c11b0
        try clear c11b1
        try clear c12
        try clear c12b0
        try clear c12b1
        try clear c13
        try clear c13b0
        try clear c13b1
        try clear p2
        obtain ⟨kq, x5_8, rfl, HA, HJ8, ⟨mc8, rfl⟩⟩ := hcut
        cases kq with
        | zero => exact absurd HA.out (by simp [carryallref02_In.j2])
        | succ kj8 =>
         have H := HA.out
         clear HA
         simp only [carryallref02_In.j2] at H
         have HC14 := Aside0.mk H
         clear H
         go_upto_region 6 with (fail)
         go_cut [6] (fun v6 wc => ∃ (kq : Nat) (x6_13 : Bool), v6 = .bool x6_13 ∧ Aside0 (carryallref02_In.j3 kq a0 a1 x5_8 x6_13 = some r) ∧ Aside0 (kq ≤ kj8) ∧ Drawn0 w wc)
         case first =>
          have H := HC14.out
          clear HC14
          by_cases c15 : x5_8 = true
          ·subst c15
           have H1 : (carryallref02_In.j3 kj8 a0 a1 true true) = some r := by rw [if_pos rfl] at H; exact H
           clear H
           have H := H1
           clear H1
           have H' := Aside0.mk H
           clear H
           go_wp2
           go_meet
           case rel => exact ⟨_, (true), (by first | rfl | (simp; done) | (simp [*]; done) | (simp [G.isEmpty_ne]; done)), H', ⟨by have := HJ2.out; have := HJ5.out; have := HJ8.out; first | omega | exact Nat.le_refl _⟩, by repeat (first | exact Drawn0.refl _ | apply Drawn0.step)⟩
          ·replace c15 := Bool.eq_false_iff.mpr c15
           subst c15
           have H1 : (if a1 = 63 then (carryallref02_In.j3 kj8 a0 a1 false true) else (if a1 = 94 then (carryallref02_In.j3 kj8 a0 a1 false true) else (if a1 = 96 then (carryallref02_In.j3 kj8 a0 a1 false true) else (if a1 = 123 then (carryallref02_In.j3 kj8 a0 a1 false true) else (carryallref02_In.j3 kj8 a0 a1 false (a1 == 125)))))) = some r := by rw [if_neg (show ¬ (false = true) by decide)] at H; exact H
           clear H
           have H := H1
           clear H1
           by_cases c16 : a1 = 63
           ·rw [if_pos c16] at H
            have c16b0 : (a1 == 63) = true := beq_iff_eq.mpr c16
            have c16b1 : (a1 != 63) = false := bne_eq_false_iff_eq.mpr c16
            clear c16
            (first | rw [c16b0] | (simp only [i64_w, i32_w]; rw [c16b0]) | skip)
            have H' := Aside0.mk H
            clear H
            go_wp2
            go_meet
            case rel => exact ⟨_, (true), (by first | rfl | (simp; done) | (simp [*]; done) | (simp [G.isEmpty_ne]; done)), H', ⟨by have := HJ2.out; have := HJ5.out; have := HJ8.out; first | omega | exact Nat.le_refl _⟩, by repeat (first | exact Drawn0.refl _ | apply Drawn0.step)⟩
           ·rw [if_neg c16] at H
            have c16b0 : (a1 == 63) = false := beq_eq_false_iff_ne.mpr c16
            have c16b1 : (a1 != 63) = true := bne_iff_ne.mpr c16
            (first | rw [c16b0] | (simp only [i64_w, i32_w]; rw [c16b0]) | skip)
            by_cases c17 : a1 = 94
            ·rw [if_pos c17] at H
             have c17b0 : (a1 == 94) = true := beq_iff_eq.mpr c17
             have c17b1 : (a1 != 94) = false := bne_eq_false_iff_eq.mpr c17
             clear c17
             have H' := Aside0.mk H
             clear H
             go_wp2
             go_meet
             case rel => exact ⟨_, (true), (by first | rfl | (simp; done) | (simp [*]; done) | (simp [G.isEmpty_ne]; done)), H', ⟨by have := HJ2.out; have := HJ5.out; have := HJ8.out; first | omega | exact Nat.le_refl _⟩, by repeat (first | exact Drawn0.refl _ | apply Drawn0.step)⟩
            ·rw [if_neg c17] at H
             have c17b0 : (a1 == 94) = false := beq_eq_false_iff_ne.mpr c17
             have c17b1 : (a1 != 94) = true := bne_iff_ne.mpr c17
             by_cases c18 : a1 = 96
             ·rw [if_pos c18] at H
              have c18b0 : (a1 == 96) = true := beq_iff_eq.mpr c18
              have c18b1 : (a1 != 96) = false := bne_eq_false_iff_eq.mpr c18
              clear c18
              have H' := Aside0.mk H
              clear H
              go_wp2
              go_meet
              case rel => exact ⟨_, (true), (by first | rfl | (simp; done) | (simp [*]; done) | (simp [G.isEmpty_ne]; done)), H', ⟨by have := HJ2.out; have := HJ5.out; have := HJ8.out; first | omega | exact Nat.le_refl _⟩, by repeat (first | exact Drawn0.refl _ | apply Drawn0.step)⟩
             ·rw [if_neg c18] at H
              have c18b0 : (a1 == 96) = false := beq_eq_false_iff_ne.mpr c18
              have c18b1 : (a1 != 96) = true := bne_iff_ne.mpr c18
              by_cases c19 : a1 = 123
              ·rw [if_pos c19] at H
               have c19b0 : (a1 == 123) = true := beq_iff_eq.mpr c19
               have c19b1 : (a1 != 123) = false := bne_eq_false_iff_eq.mpr c19
               clear c19
               have H' := Aside0.mk H
               clear H
               go_wp2
               go_meet
               case rel => exact ⟨_, (true), (by first | rfl | (simp; done) | (simp [*]; done) | (simp [G.isEmpty_ne]; done)), H', ⟨by have := HJ2.out; have := HJ5.out; have := HJ8.out; first | omega | exact Nat.le_refl _⟩, by repeat (first | exact Drawn0.refl _ | apply Drawn0.step)⟩
              ·rw [if_neg c19] at H
               have c19b0 : (a1 == 123) = false := beq_eq_false_iff_ne.mpr c19
               have c19b1 : (a1 != 123) = true := bne_iff_ne.mpr c19
               have H' := Aside0.mk H
               clear H
               go_wp2
               go_meet
               case rel => exact ⟨_, ((a1 == 125)), (by first | rfl | (simp; done) | (simp [*]; done) | (simp [G.isEmpty_ne]; done)), H', ⟨by have := HJ2.out; have := HJ5.out; have := HJ8.out; first | omega | exact Nat.le_refl _⟩, by repeat (first | exact Drawn0.refl _ | apply Drawn0.step)⟩
         case rest =>
          clear HC14
          try clear c1
          try clear c2
          try clear p2
          try clear c3
          try clear c4
          try clear c4b0
          try clear c5
          try clear c7
          try clear c7b0
          try clear c8
          try clear c10
          try clear c10b0
          try clear c10b1
          try clear c11
          try clear c11b0
          try clear c11b1
          try clear c12
          try clear c12b0
          try clear c12b1
          try clear c13
          try clear c13b0
          try clear c13b1
          try clear c15
          try clear c16
          try clear c16b0
          try clear c16b1
          try clear c17
          try clear c17b0
          try clear c17b1
          try clear c18
          try clear c18b0
          try clear c18b1
          try clear c19
          try clear c19b0
          try clear c19b1
          try clear p2
          obtain ⟨kq, x6_13, rfl, HA, HJ13, ⟨mc13, rfl⟩⟩ := hcut
          cases kq with
          | zero => exact absurd HA.out (by simp [carryallref02_In.j3])
          | succ kj13 =>
           have H := HA.out
           clear HA
           simp only [carryallref02_In.j3] at H
           have HC20 := Aside0.mk H
           clear H
           go_upto_region 7 with (fail)
           go_cut [7] (fun v7 wc => ∃ (kq : Nat) (x7_19 : Bool), v7 = .bool x7_19 ∧ Aside0 (carryallref02_In.j4 kq a0 a1 x5_8 x6_13 x7_19 = some r) ∧ Aside0 (kq ≤ kj13) ∧ Drawn0 w wc)
           case first =>
            have H := HC20.out
            clear HC20
            by_cases c21 : x6_13 = true
            ·subst c21
             have H1 : (carryallref02_In.j4 kj13 a0 a1 x5_8 true true) = some r := by rw [if_pos rfl] at H; exact H
             clear H
             have H := H1
             clear H1
             have H' := Aside0.mk H
             clear H
             go_wp2
             go_meet
             case rel => exact ⟨_, (true), (by first | rfl | (simp; done) | (simp [*]; done) | (simp [G.isEmpty_ne]; done)), H', ⟨by have := HJ2.out; have := HJ5.out; have := HJ8.out; have := HJ13.out; first | omega | exact Nat.le_refl _⟩, by repeat (first | exact Drawn0.refl _ | apply Drawn0.step)⟩
            ·replace c21 := Bool.eq_false_iff.mpr c21
             subst c21
             have H1 : (if a1 = 47 then (carryallref02_In.j4 kj13 a0 a1 x5_8 false true) else (if a1 = 58 then (carryallref02_In.j4 kj13 a0 a1 x5_8 false true) else (if a1 = 59 then (carryallref02_In.j4 kj13 a0 a1 x5_8 false true) else (if a1 = 61 then (carryallref02_In.j4 kj13 a0 a1 x5_8 false true) else (if a1 = 64 then (carryallref02_In.j4 kj13 a0 a1 x5_8 false true) else (if a1 = 91 then (carryallref02_In.j4 kj13 a0 a1 x5_8 false true) else (if a1 = 92 then (carryallref02_In.j4 kj13 a0 a1 x5_8 false true) else (if a1 = 93 then (carryallref02_In.j4 kj13 a0 a1 x5_8 false true) else (carryallref02_In.j4 kj13 a0 a1 x5_8 false (a1 == 124)))))))))) = some r := by rw [if_neg (show ¬ (false = true) by decide)] at H; exact H
             clear H
             have H := H1
             clear H1
             by_cases c22 : a1 = 47
             ·rw [if_pos c22] at H
              have c22b0 : (a1 == 47) = true := beq_iff_eq.mpr c22
              have c22b1 : (a1 != 47) = false := bne_eq_false_iff_eq.mpr c22
              clear c22
              (first | rw [c22b0] | (simp only [i64_w, i32_w]; rw [c22b0]) | skip)
              have H' := Aside0.mk H
              clear H
              go_wp2
              go_meet
              case rel => exact ⟨_, (true), (by first | rfl | (simp; done) | (simp [*]; done) | (simp [G.isEmpty_ne]; done)), H', ⟨by have := HJ2.out; have := HJ5.out; have := HJ8.out; have := HJ13.out; first | omega | exact Nat.le_refl _⟩, by repeat (first | exact Drawn0.refl _ | apply Drawn0.step)⟩
             ·rw [if_neg c22] at H
              have c22b0 : (a1 == 47) = false := beq_eq_false_iff_ne.mpr c22
              have c22b1 : (a1 != 47) = true := bne_iff_ne.mpr c22
              (first | rw [c22b0] | (simp only [i64_w, i32_w]; rw [c22b0]) | skip)
              by_cases c23 : a1 = 58
              ·rw [if_pos c23] at H
               have c23b0 : (a1 == 58) = true := beq_iff_eq.mpr c23
               have c23b1 : (a1 != 58) = false := bne_eq_false_iff_eq.mpr c23
               clear c23
               have H' := Aside0.mk H
               clear H
               go_wp2
               go_meet
               case rel => exact ⟨_, (true), (by first | rfl | (simp; done) | (simp [*]; done) | (simp [G.isEmpty_ne]; done)), H', ⟨by have := HJ2.out; have := HJ5.out; have := HJ8.out; have := HJ13.out; first | omega | exact Nat.le_refl _⟩, by repeat (first | exact Drawn0.refl _ | apply Drawn0.step)⟩
              ·rw [if_neg c23] at H
               have c23b0 : (a1 == 58) = false := beq_eq_false_iff_ne.mpr c23
               have c23b1 : (a1 != 58) = true := bne_iff_ne.mpr c23
               by_cases c24 : a1 = 59
               ·rw [if_pos c24] at H
                have c24b0 : (a1 == 59) = true := beq_iff_eq.mpr c24
                have c24b1 : (a1 != 59) = false := bne_eq_false_iff_eq.mpr c24
                clear c24
                have H' := Aside0.mk H
                clear H
                go_wp2
                go_meet
                case rel => exact ⟨_, (true), (by first | rfl | (simp; done) | (simp [*]; done) | (simp [G.isEmpty_ne]; done)), H', ⟨by have := HJ2.out; have := HJ5.out; have := HJ8.out; have := HJ13.out; first | omega | exact Nat.le_refl _⟩, by repeat (first | exact Drawn0.refl _ | apply Drawn0.step)⟩
               ·rw [if_neg c24] at H
                have c24b0 : (a1 == 59) = false := beq_eq_false_iff_ne.mpr c24
                have c24b1 : (a1 != 59) = true := bne_iff_ne.mpr c24
                by_cases c25 : a1 = 61
                ·rw [if_pos c25] at H
                 have c25b0 : (a1 == 61) = true := beq_iff_eq.mpr c25
                 have c25b1 : (a1 != 61) = false := bne_eq_false_iff_eq.mpr c25
                 clear c25
                 have H' := Aside0.mk H
                 clear H
                 go_wp2
                 go_meet
                 case rel => exact ⟨_, (true), (by first | rfl | (simp; done) | (simp [*]; done) | (simp [G.isEmpty_ne]; done)), H', ⟨by have := HJ2.out; have := HJ5.out; have := HJ8.out; have := HJ13.out; first | omega | exact Nat.le_refl _⟩, by repeat (first | exact Drawn0.refl _ | apply Drawn0.step)⟩
                ·rw [if_neg c25] at H
                 have c25b0 : (a1 == 61) = false := beq_eq_false_iff_ne.mpr c25
                 have c25b1 : (a1 != 61) = true := bne_iff_ne.mpr c25
                 by_cases c26 : a1 = 64
                 ·rw [if_pos c26] at H
                  have c26b0 : (a1 == 64) = true := beq_iff_eq.mpr c26
                  have c26b1 : (a1 != 64) = false := bne_eq_false_iff_eq.mpr c26
                  clear c26
                  have H' := Aside0.mk H
                  clear H
                  go_wp2
                  go_meet
                  case rel => exact ⟨_, (true), (by first | rfl | (simp; done) | (simp [*]; done) | (simp [G.isEmpty_ne]; done)), H', ⟨by have := HJ2.out; have := HJ5.out; have := HJ8.out; have := HJ13.out; first | omega | exact Nat.le_refl _⟩, by repeat (first | exact Drawn0.refl _ | apply Drawn0.step)⟩
                 ·rw [if_neg c26] at H
                  have c26b0 : (a1 == 64) = false := beq_eq_false_iff_ne.mpr c26
                  have c26b1 : (a1 != 64) = true := bne_iff_ne.mpr c26
                  by_cases c27 : a1 = 91
                  ·rw [if_pos c27] at H
                   have c27b0 : (a1 == 91) = true := beq_iff_eq.mpr c27
                   have c27b1 : (a1 != 91) = false := bne_eq_false_iff_eq.mpr c27
                   clear c27
                   have H' := Aside0.mk H
                   clear H
                   go_wp2
                   go_meet
                   case rel => exact ⟨_, (true), (by first | rfl | (simp; done) | (simp [*]; done) | (simp [G.isEmpty_ne]; done)), H', ⟨by have := HJ2.out; have := HJ5.out; have := HJ8.out; have := HJ13.out; first | omega | exact Nat.le_refl _⟩, by repeat (first | exact Drawn0.refl _ | apply Drawn0.step)⟩
                  ·rw [if_neg c27] at H
                   have c27b0 : (a1 == 91) = false := beq_eq_false_iff_ne.mpr c27
                   have c27b1 : (a1 != 91) = true := bne_iff_ne.mpr c27
                   by_cases c28 : a1 = 92
                   ·rw [if_pos c28] at H
                    have c28b0 : (a1 == 92) = true := beq_iff_eq.mpr c28
                    have c28b1 : (a1 != 92) = false := bne_eq_false_iff_eq.mpr c28
                    clear c28
                    have H' := Aside0.mk H
                    clear H
                    go_wp2
                    go_meet
                    case rel => exact ⟨_, (true), (by first | rfl | (simp; done) | (simp [*]; done) | (simp [G.isEmpty_ne]; done)), H', ⟨by have := HJ2.out; have := HJ5.out; have := HJ8.out; have := HJ13.out; first | omega | exact Nat.le_refl _⟩, by repeat (first | exact Drawn0.refl _ | apply Drawn0.step)⟩
                   ·rw [if_neg c28] at H
                    have c28b0 : (a1 == 92) = false := beq_eq_false_iff_ne.mpr c28
                    have c28b1 : (a1 != 92) = true := bne_iff_ne.mpr c28
                    by_cases c29 : a1 = 93
                    ·rw [if_pos c29] at H
                     have c29b0 : (a1 == 93) = true := beq_iff_eq.mpr c29
                     have c29b1 : (a1 != 93) = false := bne_eq_false_iff_eq.mpr c29
                     clear c29
                     have H' := Aside0.mk H
                     clear H
                     go_wp2
                     go_meet
                     case rel => exact ⟨_, (true), (by first | rfl | (simp; done) | (simp [*]; done) | (simp [G.isEmpty_ne]; done)), H', ⟨by have := HJ2.out; have := HJ5.out; have := HJ8.out; have := HJ13.out; first | omega | exact Nat.le_refl _⟩, by repeat (first | exact Drawn0.refl _ | apply Drawn0.step)⟩
                    ·rw [if_neg c29] at H
                     have c29b0 : (a1 == 93) = false := beq_eq_false_iff_ne.mpr c29
                     have c29b1 : (a1 != 93) = true := bne_iff_ne.mpr c29
                     have H' := Aside0.mk H
                     clear H
                     go_wp2
                     go_meet
                     case rel => exact ⟨_, ((a1 == 124)), (by first | rfl | (simp; done) | (simp [*]; done) | (simp [G.isEmpty_ne]; done)), H', ⟨by have := HJ2.out; have := HJ5.out; have := HJ8.out; have := HJ13.out; first | omega | exact Nat.le_refl _⟩, by repeat (first | exact Drawn0.refl _ | apply Drawn0.step)⟩
           case rest =>
            clear HC20
            try clear c1
            try clear c2
            try clear p2
            try clear c3
            try clear c4
            try clear c4b0
            try clear c5
            try clear c7
            try clear c7b0
            try clear c8
            try clear c10
            try clear c10b0
            try clear c10b1
            try clear c11
            try clear c11b0
            try clear c11b1
            try clear c12
            try clear c12b0
            try clear c12b1
            try clear c13
            try clear c13b0
            try clear c13b1
            try clear c15
            try clear c16
            try clear c16b0
            try clear c16b1
            try clear c17
            try clear c17b0
            try clear c17b1
            try clear c18
            try clear c18b0
            try clear c18b1
            try clear c19
            try clear c19b0
            try clear c19b1
            try clear c21
            try clear c22
            try clear c22b0
            try clear c22b1
            try clear c23
            try clear c23b0
            try clear c23b1
            try clear c24
            try clear c24b0
            try clear c24b1
            try clear c25
            try clear c25b0
            try clear c25b1
            try clear c26
            try clear c26b0
            try clear c26b1
            try clear c27
            try clear c27b0
            try clear c27b1
            try clear c28
            try clear c28b0
            try clear c28b1
            try clear c29
            try clear c29b0
            try clear c29b1
            try clear p2
            obtain ⟨kq, x7_19, rfl, HA, HJ19, ⟨mc19, rfl⟩⟩ := hcut
            cases kq with
            | zero => exact absurd HA.out (by simp [carryallref02_In.j4])
            | succ kj19 =>
             have H := HA.out
             clear HA
             simp only [carryallref02_In.j4] at H
             by_cases c30 : a0 = 1
             ·rw [if_pos c30] at H
              have c30b0 : (a0 == 1) = true := beq_iff_eq.mpr c30
              have c30b1 : (a0 != 1) = false := bne_eq_false_iff_eq.mpr c30
              clear c30
              by_cases c31 : a1 = 32
              ·rw [if_pos c31] at H
               have c31b0 : (a1 == 32) = true := beq_iff_eq.mpr c31
               have c31b1 : (a1 != 32) = false := bne_eq_false_iff_eq.mpr c31
               clear c31
               obtain rfl := Option.some.inj H
               go_wp2
               go_ret
               exact ⟨by first | rfl | (simp; done) | (simp [*]; done) | (simp [G.isEmpty_ne]; done), by repeat (first | exact Drawn0.refl _ | apply Drawn0.step)⟩
              ·rw [if_neg c31] at H
               have c31b0 : (a1 == 32) = false := beq_eq_false_iff_ne.mpr c31
               have c31b1 : (a1 != 32) = true := bne_iff_ne.mpr c31
               by_cases c32 : a1 = 34
               ·rw [if_pos c32] at H
                have c32b0 : (a1 == 34) = true := beq_iff_eq.mpr c32
                have c32b1 : (a1 != 34) = false := bne_eq_false_iff_eq.mpr c32
                clear c32
                obtain rfl := Option.some.inj H
                go_wp2
                go_ret
                exact ⟨by first | rfl | (simp; done) | (simp [*]; done) | (simp [G.isEmpty_ne]; done), by repeat (first | exact Drawn0.refl _ | apply Drawn0.step)⟩
               ·rw [if_neg c32] at H
                have c32b0 : (a1 == 34) = false := beq_eq_false_iff_ne.mpr c32
                have c32b1 : (a1 != 34) = true := bne_iff_ne.mpr c32
                by_cases c33 : a1 = 60
                ·rw [if_pos c33] at H
                 have c33b0 : (a1 == 60) = true := beq_iff_eq.mpr c33
                 have c33b1 : (a1 != 60) = false := bne_eq_false_iff_eq.mpr c33
                 clear c33
                 obtain rfl := Option.some.inj H
                 go_wp2
                 go_ret
                 exact ⟨by first | rfl | (simp; done) | (simp [*]; done) | (simp [G.isEmpty_ne]; done), by repeat (first | exact Drawn0.refl _ | apply Drawn0.step)⟩
                ·rw [if_neg c33] at H
                 have c33b0 : (a1 == 60) = false := beq_eq_false_iff_ne.mpr c33
                 have c33b1 : (a1 != 60) = true := bne_iff_ne.mpr c33
                 by_cases c34 : a1 = 62
                 ·rw [if_pos c34] at H
                  have c34b0 : (a1 == 62) = true := beq_iff_eq.mpr c34
                  have c34b1 : (a1 != 62) = false := bne_eq_false_iff_eq.mpr c34
                  clear c34
                  obtain rfl := Option.some.inj H
                  go_wp2
                  go_ret
                  exact ⟨by first | rfl | (simp; done) | (simp [*]; done) | (simp [G.isEmpty_ne]; done), by repeat (first | exact Drawn0.refl _ | apply Drawn0.step)⟩
                 ·rw [if_neg c34] at H
                  have c34b0 : (a1 == 62) = false := beq_eq_false_iff_ne.mpr c34
                  have c34b1 : (a1 != 62) = true := bne_iff_ne.mpr c34
                  obtain rfl := Option.some.inj H
                  go_wp2
                  go_ret
                  exact ⟨by first | rfl | (simp; done) | (simp [*]; done) | (simp [G.isEmpty_ne]; done), by repeat (first | exact Drawn0.refl _ | apply Drawn0.step)⟩
             ·rw [if_neg c30] at H
              have c30b0 : (a0 == 1) = false := beq_eq_false_iff_ne.mpr c30
              have c30b1 : (a0 != 1) = true := bne_iff_ne.mpr c30
              by_cases c35 : a0 = 2
              ·rw [if_pos c35] at H
               have c35b0 : (a0 == 2) = true := beq_iff_eq.mpr c35
               have c35b1 : (a0 != 2) = false := bne_eq_false_iff_eq.mpr c35
               clear c35
               obtain rfl := Option.some.inj H
               go_wp2
               go_ret
               exact ⟨by first | rfl | (simp; done) | (simp [*]; done) | (simp [G.isEmpty_ne]; done), by repeat (first | exact Drawn0.refl _ | apply Drawn0.step)⟩
              ·rw [if_neg c35] at H
               have c35b0 : (a0 == 2) = false := beq_eq_false_iff_ne.mpr c35
               have c35b1 : (a0 != 2) = true := bne_iff_ne.mpr c35
               by_cases c36 : a0 = 3
               ·rw [if_pos c36] at H
                have c36b0 : (a0 == 3) = true := beq_iff_eq.mpr c36
                have c36b1 : (a0 != 3) = false := bne_eq_false_iff_eq.mpr c36
                clear c36
                by_cases c37 : x5_8 = true
                ·subst c37
                 have H1 : (some true) = some r := by rw [if_pos rfl] at H; exact H
                 clear H
                 have H := H1
                 clear H1
                 obtain rfl := Option.some.inj H
                 go_wp2
                 go_ret
                 exact ⟨by first | rfl | (simp; done) | (simp [*]; done) | (simp [G.isEmpty_ne]; done), by repeat (first | exact Drawn0.refl _ | apply Drawn0.step)⟩
                ·replace c37 := Bool.eq_false_iff.mpr c37
                 subst c37
                 have H1 : (some (a1 == 39)) = some r := by rw [if_neg (show ¬ (false = true) by decide)] at H; exact H
                 clear H
                 have H := H1
                 clear H1
                 obtain rfl := Option.some.inj H
                 go_wp2
                 go_ret
                 exact ⟨by first | rfl | (simp; done) | (simp [*]; done) | (simp [G.isEmpty_ne]; done), by repeat (first | exact Drawn0.refl _ | apply Drawn0.step)⟩
               ·rw [if_neg c36] at H
                have c36b0 : (a0 == 3) = false := beq_eq_false_iff_ne.mpr c36
                have c36b1 : (a0 != 3) = true := bne_iff_ne.mpr c36
                by_cases c38 : a0 = 4
                ·rw [if_pos c38] at H
                 have c38b0 : (a0 == 4) = true := beq_iff_eq.mpr c38
                 have c38b1 : (a0 != 4) = false := bne_eq_false_iff_eq.mpr c38
                 clear c38
                 obtain rfl := Option.some.inj H
                 go_wp2
                 go_ret
                 exact ⟨by first | rfl | (simp; done) | (simp [*]; done) | (simp [G.isEmpty_ne]; done), by repeat (first | exact Drawn0.refl _ | apply Drawn0.step)⟩
                ·rw [if_neg c38] at H
                 have c38b0 : (a0 == 4) = false := beq_eq_false_iff_ne.mpr c38
                 have c38b1 : (a0 != 4) = true := bne_iff_ne.mpr c38
                 by_cases c39 : a0 = 5
                 ·rw [if_pos c39] at H
                  have c39b0 : (a0 == 5) = true := beq_iff_eq.mpr c39
                  have c39b1 : (a0 != 5) = false := bne_eq_false_iff_eq.mpr c39
                  clear c39
                  obtain rfl := Option.some.inj H
                  go_wp2
                  go_ret
                  exact ⟨by first | rfl | (simp; done) | (simp [*]; done) | (simp [G.isEmpty_ne]; done), by repeat (first | exact Drawn0.refl _ | apply Drawn0.step)⟩
                 ·rw [if_neg c39] at H
                  have c39b0 : (a0 == 5) = false := beq_eq_false_iff_ne.mpr c39
                  have c39b1 : (a0 != 5) = true := bne_iff_ne.mpr c39
                  by_cases c40 : a0 = 6
                  ·rw [if_pos c40] at H
                   have c40b0 : (a0 == 6) = true := beq_iff_eq.mpr c40
                   have c40b1 : (a0 != 6) = false := bne_eq_false_iff_eq.mpr c40
                   clear c40
                   by_cases c41 : x7_19 = true
                   ·subst c41
                    have H1 : (some true) = some r := by rw [if_pos rfl] at H; exact H
                    clear H
                    have H := H1
                    clear H1
                    obtain rfl := Option.some.inj H
                    go_wp2
                    go_ret
                    exact ⟨by first | rfl | (simp; done) | (simp [*]; done) | (simp [G.isEmpty_ne]; done), by repeat (first | exact Drawn0.refl _ | apply Drawn0.step)⟩
                   ·replace c41 := Bool.eq_false_iff.mpr c41
                    subst c41
                    have H1 : (if a1 = 36 then (some true) else (if a1 = 37 then (some true) else (if a1 = 38 then (some true) else (if a1 = 43 then (some true) else (some (a1 == 44)))))) = some r := by rw [if_neg (show ¬ (false = true) by decide)] at H; exact H
                    clear H
                    have H := H1
                    clear H1
                    by_cases c42 : a1 = 36
                    ·rw [if_pos c42] at H
                     have c42b0 : (a1 == 36) = true := beq_iff_eq.mpr c42
                     have c42b1 : (a1 != 36) = false := bne_eq_false_iff_eq.mpr c42
                     clear c42
                     obtain rfl := Option.some.inj H
                     go_wp2
                     go_ret
                     exact ⟨by first | rfl | (simp; done) | (simp [*]; done) | (simp [G.isEmpty_ne]; done), by repeat (first | exact Drawn0.refl _ | apply Drawn0.step)⟩
                    ·rw [if_neg c42] at H
                     have c42b0 : (a1 == 36) = false := beq_eq_false_iff_ne.mpr c42
                     have c42b1 : (a1 != 36) = true := bne_iff_ne.mpr c42
                     by_cases c43 : a1 = 37
                     ·rw [if_pos c43] at H
                      have c43b0 : (a1 == 37) = true := beq_iff_eq.mpr c43
                      have c43b1 : (a1 != 37) = false := bne_eq_false_iff_eq.mpr c43
                      clear c43
                      obtain rfl := Option.some.inj H
                      go_wp2
                      go_ret
                      exact ⟨by first | rfl | (simp; done) | (simp [*]; done) | (simp [G.isEmpty_ne]; done), by repeat (first | exact Drawn0.refl _ | apply Drawn0.step)⟩
                     ·rw [if_neg c43] at H
                      have c43b0 : (a1 == 37) = false := beq_eq_false_iff_ne.mpr c43
                      have c43b1 : (a1 != 37) = true := bne_iff_ne.mpr c43
                      by_cases c44 : a1 = 38
                      ·rw [if_pos c44] at H
                       have c44b0 : (a1 == 38) = true := beq_iff_eq.mpr c44
                       have c44b1 : (a1 != 38) = false := bne_eq_false_iff_eq.mpr c44
                       clear c44
                       obtain rfl := Option.some.inj H
                       go_wp2
                       go_ret
                       exact ⟨by first | rfl | (simp; done) | (simp [*]; done) | (simp [G.isEmpty_ne]; done), by repeat (first | exact Drawn0.refl _ | apply Drawn0.step)⟩
                      ·rw [if_neg c44] at H
                       have c44b0 : (a1 == 38) = false := beq_eq_false_iff_ne.mpr c44
                       have c44b1 : (a1 != 38) = true := bne_iff_ne.mpr c44
                       by_cases c45 : a1 = 43
                       ·rw [if_pos c45] at H
                        have c45b0 : (a1 == 43) = true := beq_iff_eq.mpr c45
                        have c45b1 : (a1 != 43) = false := bne_eq_false_iff_eq.mpr c45
                        clear c45
                        obtain rfl := Option.some.inj H
                        go_wp2
                        go_ret
                        exact ⟨by first | rfl | (simp; done) | (simp [*]; done) | (simp [G.isEmpty_ne]; done), by repeat (first | exact Drawn0.refl _ | apply Drawn0.step)⟩
                       ·rw [if_neg c45] at H
                        have c45b0 : (a1 == 43) = false := beq_eq_false_iff_ne.mpr c45
                        have c45b1 : (a1 != 43) = true := bne_iff_ne.mpr c45
                        obtain rfl := Option.some.inj H
                        go_wp2
                        go_ret
                        exact ⟨by first | rfl | (simp; done) | (simp [*]; done) | (simp [G.isEmpty_ne]; done), by repeat (first | exact Drawn0.refl _ | apply Drawn0.step)⟩
                  ·rw [if_neg c40] at H
                   have c40b0 : (a0 == 6) = false := beq_eq_false_iff_ne.mpr c40
                   have c40b1 : (a0 != 6) = true := bne_iff_ne.mpr c40
                   obtain rfl := Option.some.inj H
                   go_wp2
                   go_ret
                   exact ⟨by first | rfl | (simp; done) | (simp [*]; done) | (simp [G.isEmpty_ne]; done), by repeat (first | exact Drawn0.refl _ | apply Drawn0.step)⟩

end Go.Proofs.YtbbdfamfmkcfhaaGreatDoor.P
