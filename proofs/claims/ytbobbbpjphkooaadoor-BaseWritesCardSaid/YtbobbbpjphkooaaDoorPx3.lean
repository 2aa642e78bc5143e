-- Written for this claim by a program of this session's (not a text of the kit's print).
import Derived.Test.YtbobbbpjphkooaaDoorPx0
import Derived.Test.YtbobbbpjphkooaaDoorPx2
namespace Go.Proofs.YtbobbbpjphkooaaDoor.P
open Go.RowKit Go.Proofs.YtbobbbpjphkooaaDoorW.PrintWords Go.Proofs.YtbobbbpjphkooaaDoorW.PrintLast Go.Proofs.YtbobbbpjphkooaaDoorW.PrintMore
attribute [local go_sem] max2_int min2_int max_two min_two max_three min_three max_four min_four   -- for this text's walks alone
set_option linter.unusedVariables false
set_option linter.unusedSimpArgs false

/-! ### carryallref03_Decode: function 12 -/
mutual
def carryallref03_Decode.l0 : Nat → ByteArray → List Int → Int → Int → Option (List Int × Bool)
  | 0, _, _, _, _ => none
  | k + 1, x0, x4, x14, x15 => if x15 < x14 then (if 0 ≤ x15 then (if x15 < (x0.size : Int) then (if (bt x0 x15) = 9 then (carryallref03_Decode.l0 k x0 x4 x14 (wrap64 (x15 + 1))) else (if (bt x0 x15) = 10 then (carryallref03_Decode.l0 k x0 x4 x14 (wrap64 (x15 + 1))) else (if (bt x0 x15) = 12 then (carryallref03_Decode.l0 k x0 x4 x14 (wrap64 (x15 + 1))) else (if (bt x0 x15) = 13 then (carryallref03_Decode.l0 k x0 x4 x14 (wrap64 (x15 + 1))) else (if (bt x0 x15) = 32 then (carryallref03_Decode.l0 k x0 x4 x14 (wrap64 (x15 + 1))) else (if x4.length < 140737488355328 then (carryallref03_Decode.l0 k x0 (x4 ++ [bt x0 x15]) x14 (wrap64 (x15 + 1))) else (none))))))) else (none)) else (none)) else (if (x4.length : Int) > 0 then (if ((x4.length : Int) % 4) = 0 then (if 0 ≤ (wrap64 ((x4.length : Int) - 1)) then (if (wrap64 ((x4.length : Int) - 1)) < (x4.length : Int) then (carryallref03_Decode.j1 k x4 (x4.length : Int) ((rd x4 (wrap64 ((x4.length : Int) - 1))) == 61)) else (none)) else (none)) else (carryallref03_Decode.j1 k x4 (x4.length : Int) false)) else (carryallref03_Decode.j1 k x4 (x4.length : Int) false))
def carryallref03_Decode.j1 : Nat → List Int → Int → Bool → Option (List Int × Bool)
  | 0, _, _, _ => none
  | k + 1, x4, x7, x60 => if x60 = true then (if 0 ≤ (wrap64 (x7 - 1)) then (if (wrap64 (x7 - 1)) ≤ (x4.length : Int) then ((some (x4.take ((wrap64 (x7 - 1)) : Int).toNat : List Int)).bind fun y136 => (if 0 ≤ (wrap64 (x7 - 2)) then (if (wrap64 (x7 - 2)) < (y136.length : Int) then (if (rd y136 (wrap64 (x7 - 2))) = 61 then (if (wrap64 (x7 - 2)) ≤ (y136.length : Int) then (carryallref03_Decode.j2 k (y136.take ((wrap64 (x7 - 2)) : Int).toNat)) else (none)) else (carryallref03_Decode.j2 k y136)) else (none)) else (none))) else (none)) else (none)) else (carryallref03_Decode.j2 k x4)
def carryallref03_Decode.j2 : Nat → List Int → Option (List Int × Bool)
  | 0, _ => none
  | k + 1, x4 => if ((x4.length : Int) % 4) = 1 then (some (([] : List Int), false)) else (if 0 ≤ (wrap64 (Int.tdiv (wrap64 (6 * (x4.length : Int))) 8)) then (if (wrap64 (Int.tdiv (wrap64 (6 * (x4.length : Int))) 8) : Int).toNat ≤ 281474976710656 then (carryallref03_Decode.l1 k x4 (List.replicate (wrap64 (Int.tdiv (wrap64 (6 * (x4.length : Int))) 8) : Int).toNat 0) (x4.length : Int) 0) else (none)) else (none))
def carryallref03_Decode.l1 : Nat → List Int → List Int → Int → Int → Option (List Int × Bool)
  | 0, _, _, _, _ => none
  | k + 1, x4, x8, x85, x86 => if x86 < x85 then (if 0 ≤ x86 then (if x86 < (x4.length : Int) then ((carryallref03_number.f k (rd x4 x86)).bind fun t147 => (if t147 < 0 then (some (([] : List Int), false)) else (carryallref03_Decode.l2 k x4 x8 x86 t147 x85 x86 0))) else (none)) else (none)) else (some (x8, true))
def carryallref03_Decode.l2 : Nat → List Int → List Int → Int → Int → Int → Int → Int → Option (List Int × Bool)
  | 0, _, _, _, _, _, _, _ => none
  | k + 1, x4, x8, x9, x10, x85, x86, x96 => if x96 < 6 then (if (wrap64 ((wrap64 (6 * x9)) + x96)) < (wrap64 (8 * (x8.length : Int))) then (if 0 ≤ (IntKind.u64.wrap (5 - (IntKind.u64.wrap (x96)))) then (if (Go.bits .and .i64 (shr .i64 x10 (IntKind.u64.wrap (5 - (IntKind.u64.wrap (x96))))) 1) = 1 then (if 0 ≤ (wrap64 (Int.tdiv (wrap64 ((wrap64 (6 * x9)) + x96)) 8)) then (if (wrap64 (Int.tdiv (wrap64 ((wrap64 (6 * x9)) + x96)) 8)) < (x8.length : Int) then (if 0 ≤ (IntKind.u64.wrap (7 - (IntKind.u64.wrap (Int.tmod (wrap64 ((wrap64 (6 * x9)) + x96)) 8)))) then (carryallref03_Decode.l2 k x4 (x8.set ((wrap64 (Int.tdiv (wrap64 ((wrap64 (6 * x9)) + x96)) 8)) : Int).toNat (Go.bits .or .u8 (rd x8 (wrap64 (Int.tdiv (wrap64 ((wrap64 (6 * x9)) + x96)) 8))) (shl .u8 1 (IntKind.u64.wrap (7 - (IntKind.u64.wrap (Int.tmod (wrap64 ((wrap64 (6 * x9)) + x96)) 8))))))) x9 x10 x85 x86 (wrap64 (x96 + 1))) else (none)) else (none)) else (none)) else (carryallref03_Decode.l2 k x4 x8 x9 x10 x85 x86 (wrap64 (x96 + 1)))) else (none)) else (carryallref03_Decode.l2 k x4 x8 x9 x10 x85 x86 (wrap64 (x96 + 1)))) else (carryallref03_Decode.l1 k x4 x8 x85 (wrap64 (x86 + 1)))
end
def carryallref03_Decode.f (k : Nat) (a0 : ByteArray) : Option (List Int × Bool) := carryallref03_Decode.l0 k a0 ([] : List Int) (a0.size : Int) 0
theorem carryallref03_Decode.mono_l : ∀ k, (∀ y0 y1 y2 y3, LeO (carryallref03_Decode.l0 k y0 y1 y2 y3) (carryallref03_Decode.l0 (k + 1) y0 y1 y2 y3)) ∧ (∀ y0 y1 y2, LeO (carryallref03_Decode.j1 k y0 y1 y2) (carryallref03_Decode.j1 (k + 1) y0 y1 y2)) ∧ (∀ y0, LeO (carryallref03_Decode.j2 k y0) (carryallref03_Decode.j2 (k + 1) y0)) ∧ (∀ y0 y1 y2 y3, LeO (carryallref03_Decode.l1 k y0 y1 y2 y3) (carryallref03_Decode.l1 (k + 1) y0 y1 y2 y3)) ∧ (∀ y0 y1 y2 y3 y4 y5 y6, LeO (carryallref03_Decode.l2 k y0 y1 y2 y3 y4 y5 y6) (carryallref03_Decode.l2 (k + 1) y0 y1 y2 y3 y4 y5 y6))
  | 0 => ⟨fun _ _ _ _ r h => by simp [carryallref03_Decode.l0] at h, fun _ _ _ r h => by simp [carryallref03_Decode.j1] at h, fun _ r h => by simp [carryallref03_Decode.j2] at h, fun _ _ _ _ r h => by simp [carryallref03_Decode.l1] at h, fun _ _ _ _ _ _ _ r h => by simp [carryallref03_Decode.l2] at h⟩
  | k + 1 => by
    obtain ⟨ih0, ih1, ih2, ih3, ih4⟩ := carryallref03_Decode.mono_l k
    refine ⟨?_, ?_, ?_, ?_, ?_⟩
    · intro y0 y1 y2 y3
      unfold carryallref03_Decode.l0
      repeat' first
      | (with_reducible exact ih0 _ _ _ _)
      | (with_reducible exact ih1 _ _ _)
      | (with_reducible exact ih2 _)
      | (with_reducible exact ih3 _ _ _ _)
      | (with_reducible exact ih4 _ _ _ _ _ _ _)
      | (with_reducible exact carryallref03_number.mono _ _)
      | (with_reducible exact LeO.refl _)
      | (with_reducible exact LeO.none _)
      | (with_reducible refine LeO.ite ?_ ?_)
      | (with_reducible refine LeO.bind ?_ (fun _ => ?_))
      | exact ih0 _ _ _ _
      | exact ih1 _ _ _
      | exact ih2 _
      | exact ih3 _ _ _ _
      | exact ih4 _ _ _ _ _ _ _
      | exact carryallref03_number.mono _ _
      | exact LeO.none _
      | refine LeO.ite ?_ ?_
      | refine LeO.bind ?_ (fun _ => ?_)
    · intro y0 y1 y2
      unfold carryallref03_Decode.j1
      repeat' first
      | (with_reducible exact ih0 _ _ _ _)
      | (with_reducible exact ih1 _ _ _)
      | (with_reducible exact ih2 _)
      | (with_reducible exact ih3 _ _ _ _)
      | (with_reducible exact ih4 _ _ _ _ _ _ _)
      | (with_reducible exact carryallref03_number.mono _ _)
      | (with_reducible exact LeO.refl _)
      | (with_reducible exact LeO.none _)
      | (with_reducible refine LeO.ite ?_ ?_)
      | (with_reducible refine LeO.bind ?_ (fun _ => ?_))
      | exact ih0 _ _ _ _
      | exact ih1 _ _ _
      | exact ih2 _
      | exact ih3 _ _ _ _
      | exact ih4 _ _ _ _ _ _ _
      | exact carryallref03_number.mono _ _
      | exact LeO.none _
      | refine LeO.ite ?_ ?_
      | refine LeO.bind ?_ (fun _ => ?_)
    · intro y0
      unfold carryallref03_Decode.j2
      repeat' first
      | (with_reducible exact ih0 _ _ _ _)
      | (with_reducible exact ih1 _ _ _)
      | (with_reducible exact ih2 _)
      | (with_reducible exact ih3 _ _ _ _)
      | (with_reducible exact ih4 _ _ _ _ _ _ _)
      | (with_reducible exact carryallref03_number.mono _ _)
      | (with_reducible exact LeO.refl _)
      | (with_reducible exact LeO.none _)
      | (with_reducible refine LeO.ite ?_ ?_)
      | (with_reducible refine LeO.bind ?_ (fun _ => ?_))
      | exact ih0 _ _ _ _
      | exact ih1 _ _ _
      | exact ih2 _
      | exact ih3 _ _ _ _
      | exact ih4 _ _ _ _ _ _ _
      | exact carryallref03_number.mono _ _
      | exact LeO.none _
      | refine LeO.ite ?_ ?_
      | refine LeO.bind ?_ (fun _ => ?_)
    · intro y0 y1 y2 y3
      unfold carryallref03_Decode.l1
      repeat' first
      | (with_reducible exact ih0 _ _ _ _)
      | (with_reducible exact ih1 _ _ _)
      | (with_reducible exact ih2 _)
      | (with_reducible exact ih3 _ _ _ _)
      | (with_reducible exact ih4 _ _ _ _ _ _ _)
      | (with_reducible exact carryallref03_number.mono _ _)
      | (with_reducible exact LeO.refl _)
      | (with_reducible exact LeO.none _)
      | (with_reducible refine LeO.ite ?_ ?_)
      | (with_reducible refine LeO.bind ?_ (fun _ => ?_))
      | exact ih0 _ _ _ _
      | exact ih1 _ _ _
      | exact ih2 _
      | exact ih3 _ _ _ _
      | exact ih4 _ _ _ _ _ _ _
      | exact carryallref03_number.mono _ _
      | exact LeO.none _
      | refine LeO.ite ?_ ?_
      | refine LeO.bind ?_ (fun _ => ?_)
    · intro y0 y1 y2 y3 y4 y5 y6
      unfold carryallref03_Decode.l2
      repeat' first
      | (with_reducible exact ih0 _ _ _ _)
      | (with_reducible exact ih1 _ _ _)
      | (with_reducible exact ih2 _)
      | (with_reducible exact ih3 _ _ _ _)
      | (with_reducible exact ih4 _ _ _ _ _ _ _)
      | (with_reducible exact carryallref03_number.mono _ _)
      | (with_reducible exact LeO.refl _)
      | (with_reducible exact LeO.none _)
      | (with_reducible refine LeO.ite ?_ ?_)
      | (with_reducible refine LeO.bind ?_ (fun _ => ?_))
      | exact ih0 _ _ _ _
      | exact ih1 _ _ _
      | exact ih2 _
      | exact ih3 _ _ _ _
      | exact ih4 _ _ _ _ _ _ _
      | exact carryallref03_number.mono _ _
      | exact LeO.none _
      | refine LeO.ite ?_ ?_
      | refine LeO.bind ?_ (fun _ => ?_)
theorem carryallref03_Decode.mono : ∀ a0 k, LeO (carryallref03_Decode.f k a0) (carryallref03_Decode.f (k + 1) a0) := by
  intro a0 k
  obtain ⟨ih0, ih1, ih2, ih3, ih4⟩ := carryallref03_Decode.mono_l k
  unfold carryallref03_Decode.f
  repeat' first
      | (with_reducible exact ih0 _ _ _ _)
      | (with_reducible exact ih1 _ _ _)
      | (with_reducible exact ih2 _)
      | (with_reducible exact ih3 _ _ _ _)
      | (with_reducible exact ih4 _ _ _ _ _ _ _)
      | (with_reducible exact carryallref03_number.mono _ _)
      | (with_reducible exact LeO.refl _)
      | (with_reducible exact LeO.none _)
      | (with_reducible refine LeO.ite ?_ ?_)
      | (with_reducible refine LeO.bind ?_ (fun _ => ?_))
      | exact ih0 _ _ _ _
      | exact ih1 _ _ _
      | exact ih2 _
      | exact ih3 _ _ _ _
      | exact ih4 _ _ _ _ _ _ _
      | exact carryallref03_number.mono _ _
      | exact LeO.none _
      | refine LeO.ite ?_ ?_
      | refine LeO.bind ?_ (fun _ => ?_)
set_option maxHeartbeats 8000000 in
set_option maxRecDepth 100000 in
theorem carryallref03_Decode.calls (k : Nat) (a0 : ByteArray) (r1 : List Int) (r2 : Bool) (w : World) (h : carryallref03_Decode.f k a0 = some (r1, r2)) :
    Calls Tryd.prog 12 #[.string a0] w fun e w' => ∃ v0_ : Value, e = .returned (.tuple #[v0_, .bool r2]) ∧ Kd.R (Kd.int .u8) 5 w' w.heap.size (fun _ => True) v0_ r1 ∧ Below w.heap.size w w' := by
  have HB := Aside0.mk (Below.refl w.heap.size w)
  have H : (carryallref03_Decode.l0 k a0 ([] : List Int) (a0.size : Int) 0) = some (r1, r2) := h
  clear h
  have H' := Aside0.mk H
  clear H
  go_enter Tryd.func12, Tryd.ntmps12
  go_wp2
  go_loopg [4, 15] k (fun kq v4 v15 w' => ∃ (x4_1 : List Int) (x15_1 : Int), v15 = .int .i64 x15_1 ∧ Aside0 (carryallref03_Decode.l0 kq a0 x4_1 (a0.size : Int) x15_1 = some (r1, r2)) ∧ Aside0 (kq ≤ k) ∧ Aside0 (Kd.R (Kd.int .u8) 5 w' w.heap.size (fun _ => True) v4 x4_1) ∧ Aside0 (Below w.heap.size w w'))
  case atStart => exact ⟨(([] : List Int)), (0), (by first | rfl | (simp; done) | (simp [*]; done) | (simp [Go.Proofs.YtbobbbpjphkooaaDoor.G.isEmpty_ne]; done)), H', ⟨Nat.le_refl _⟩, ⟨by first | exact Kd.R_nil _ _ _ _ _ | exact Kd.N_nil _ _ _ _ _ | exact Kd.V_nil _ _ _ _ _ | exact Kd.Q_nil _ _ _ _ _ | exact Kd.S_nil _ _ _ _ _⟩, ⟨by repeat (first | (with_reducible first | exact HB.out | apply below_alloc | apply pw_below_drewN | apply below_drew1) | exact HB.out)⟩⟩
  case round =>
    clear H'
    try clear c1
    obtain ⟨x4_1, x15_1, rfl, HA, HK1, HO_4, HB⟩ := hrel
    cases gk with
    | zero => exact absurd HA.out (by simp [carryallref03_Decode.l0])
    | succ k1 =>
      have H := HA.out
      clear HA
      simp only [carryallref03_Decode.l0] at H
      by_cases c2 : x15_1 < (a0.size : Int)
      · rw [if_pos c2] at H
        have c2b0 : decide (x15_1 < (a0.size : Int)) = true := decide_eq_true c2
        clear c2
        by_cases c3 : 0 ≤ x15_1
        · rw [if_pos c3] at H
          have c3b0 : decide (0 ≤ x15_1) = true := decide_eq_true c3
          clear c3
          by_cases c4 : x15_1 < (a0.size : Int)
          · rw [if_pos c4] at H
            have c4b0 : decide (x15_1 < (a0.size : Int)) = true := decide_eq_true c4
            clear c4
            by_cases c6 : (bt a0 x15_1) = 9
            · rw [if_pos c6] at H
              have c6b0 : ((bt a0 x15_1) == 9) = true := beq_iff_eq.mpr c6
              have c6b1 : ((bt a0 x15_1) != 9) = false := bne_eq_false_iff_eq.mpr c6
              clear c6
              have H' := Aside0.mk H
              clear H
              have p5 : 0 ≤ (x15_1 : Int) := of_decide_eq_true (by first | (with_reducible assumption) | assumption)
              have q5 : x15_1 < (a0.size : Int) := of_decide_eq_true (by first | (with_reducible assumption) | assumption)
              have hx5 := bt_at a0 x15_1
              replace p5 := eq_true p5
              replace q5 := eq_true q5
              go_wp2
              go_roundg k1
              case measure => have := HK1.out; omega
              case rel => exact ⟨(x4_1), (wrap64 (x15_1 + 1)), (by first | rfl | (simp; done) | (simp [*]; done) | (simp [Go.Proofs.YtbobbbpjphkooaaDoor.G.isEmpty_ne]; done)), H', ⟨by have := HK1.out; omega⟩, ⟨by (with_reducible repeat (first | apply Kd.R_alloc | apply Kd.R_drewN | apply Kd.R_drew)); exact HO_4.out⟩, ⟨by repeat (first | (with_reducible first | exact HB.out | apply below_alloc | apply pw_below_drewN | apply below_drew1) | exact HB.out)⟩⟩
            · rw [if_neg c6] at H
              have c6b0 : ((bt a0 x15_1) == 9) = false := beq_eq_false_iff_ne.mpr c6
              have c6b1 : ((bt a0 x15_1) != 9) = true := bne_iff_ne.mpr c6
              by_cases c7 : (bt a0 x15_1) = 10
              · rw [if_pos c7] at H
                have c7b0 : ((bt a0 x15_1) == 10) = true := beq_iff_eq.mpr c7
                have c7b1 : ((bt a0 x15_1) != 10) = false := bne_eq_false_iff_eq.mpr c7
                clear c7
                have H' := Aside0.mk H
                clear H
                have p5 : 0 ≤ (x15_1 : Int) := of_decide_eq_true (by first | (with_reducible assumption) | assumption)
                have q5 : x15_1 < (a0.size : Int) := of_decide_eq_true (by first | (with_reducible assumption) | assumption)
                have hx5 := bt_at a0 x15_1
                replace p5 := eq_true p5
                replace q5 := eq_true q5
                go_wp2
                go_roundg k1
                case measure => have := HK1.out; omega
                case rel => exact ⟨(x4_1), (wrap64 (x15_1 + 1)), (by first | rfl | (simp; done) | (simp [*]; done) | (simp [Go.Proofs.YtbobbbpjphkooaaDoor.G.isEmpty_ne]; done)), H', ⟨by have := HK1.out; omega⟩, ⟨by (with_reducible repeat (first | apply Kd.R_alloc | apply Kd.R_drewN | apply Kd.R_drew)); exact HO_4.out⟩, ⟨by repeat (first | (with_reducible first | exact HB.out | apply below_alloc | apply pw_below_drewN | apply below_drew1) | exact HB.out)⟩⟩
              · rw [if_neg c7] at H
                have c7b0 : ((bt a0 x15_1) == 10) = false := beq_eq_false_iff_ne.mpr c7
                have c7b1 : ((bt a0 x15_1) != 10) = true := bne_iff_ne.mpr c7
                by_cases c8 : (bt a0 x15_1) = 12
                · rw [if_pos c8] at H
                  have c8b0 : ((bt a0 x15_1) == 12) = true := beq_iff_eq.mpr c8
                  have c8b1 : ((bt a0 x15_1) != 12) = false := bne_eq_false_iff_eq.mpr c8
                  clear c8
                  have H' := Aside0.mk H
                  clear H
                  have p5 : 0 ≤ (x15_1 : Int) := of_decide_eq_true (by first | (with_reducible assumption) | assumption)
                  have q5 : x15_1 < (a0.size : Int) := of_decide_eq_true (by first | (with_reducible assumption) | assumption)
                  have hx5 := bt_at a0 x15_1
                  replace p5 := eq_true p5
                  replace q5 := eq_true q5
                  go_wp2
                  go_roundg k1
                  case measure => have := HK1.out; omega
                  case rel => exact ⟨(x4_1), (wrap64 (x15_1 + 1)), (by first | rfl | (simp; done) | (simp [*]; done) | (simp [Go.Proofs.YtbobbbpjphkooaaDoor.G.isEmpty_ne]; done)), H', ⟨by have := HK1.out; omega⟩, ⟨by (with_reducible repeat (first | apply Kd.R_alloc | apply Kd.R_drewN | apply Kd.R_drew)); exact HO_4.out⟩, ⟨by repeat (first | (with_reducible first | exact HB.out | apply below_alloc | apply pw_below_drewN | apply below_drew1) | exact HB.out)⟩⟩
                · rw [if_neg c8] at H
                  have c8b0 : ((bt a0 x15_1) == 12) = false := beq_eq_false_iff_ne.mpr c8
                  have c8b1 : ((bt a0 x15_1) != 12) = true := bne_iff_ne.mpr c8
                  by_cases c9 : (bt a0 x15_1) = 13
                  · rw [if_pos c9] at H
                    have c9b0 : ((bt a0 x15_1) == 13) = true := beq_iff_eq.mpr c9
                    have c9b1 : ((bt a0 x15_1) != 13) = false := bne_eq_false_iff_eq.mpr c9
                    clear c9
                    have H' := Aside0.mk H
                    clear H
                    have p5 : 0 ≤ (x15_1 : Int) := of_decide_eq_true (by first | (with_reducible assumption) | assumption)
                    have q5 : x15_1 < (a0.size : Int) := of_decide_eq_true (by first | (with_reducible assumption) | assumption)
                    have hx5 := bt_at a0 x15_1
                    replace p5 := eq_true p5
                    replace q5 := eq_true q5
                    go_wp2
                    go_roundg k1
                    case measure => have := HK1.out; omega
                    case rel => exact ⟨(x4_1), (wrap64 (x15_1 + 1)), (by first | rfl | (simp; done) | (simp [*]; done) | (simp [Go.Proofs.YtbobbbpjphkooaaDoor.G.isEmpty_ne]; done)), H', ⟨by have := HK1.out; omega⟩, ⟨by (with_reducible repeat (first | apply Kd.R_alloc | apply Kd.R_drewN | apply Kd.R_drew)); exact HO_4.out⟩, ⟨by repeat (first | (with_reducible first | exact HB.out | apply below_alloc | apply pw_below_drewN | apply below_drew1) | exact HB.out)⟩⟩
                  · rw [if_neg c9] at H
                    have c9b0 : ((bt a0 x15_1) == 13) = false := beq_eq_false_iff_ne.mpr c9
                    have c9b1 : ((bt a0 x15_1) != 13) = true := bne_iff_ne.mpr c9
                    by_cases c10 : (bt a0 x15_1) = 32
                    · rw [if_pos c10] at H
                      have c10b0 : ((bt a0 x15_1) == 32) = true := beq_iff_eq.mpr c10
                      have c10b1 : ((bt a0 x15_1) != 32) = false := bne_eq_false_iff_eq.mpr c10
                      clear c10
                      have H' := Aside0.mk H
                      clear H
                      have p5 : 0 ≤ (x15_1 : Int) := of_decide_eq_true (by first | (with_reducible assumption) | assumption)
                      have q5 : x15_1 < (a0.size : Int) := of_decide_eq_true (by first | (with_reducible assumption) | assumption)
                      have hx5 := bt_at a0 x15_1
                      replace p5 := eq_true p5
                      replace q5 := eq_true q5
                      go_wp2
                      go_roundg k1
                      case measure => have := HK1.out; omega
                      case rel => exact ⟨(x4_1), (wrap64 (x15_1 + 1)), (by first | rfl | (simp; done) | (simp [*]; done) | (simp [Go.Proofs.YtbobbbpjphkooaaDoor.G.isEmpty_ne]; done)), H', ⟨by have := HK1.out; omega⟩, ⟨by (with_reducible repeat (first | apply Kd.R_alloc | apply Kd.R_drewN | apply Kd.R_drew)); exact HO_4.out⟩, ⟨by repeat (first | (with_reducible first | exact HB.out | apply below_alloc | apply pw_below_drewN | apply below_drew1) | exact HB.out)⟩⟩
                    · rw [if_neg c10] at H
                      have c10b0 : ((bt a0 x15_1) == 32) = false := beq_eq_false_iff_ne.mpr c10
                      have c10b1 : ((bt a0 x15_1) != 32) = true := bne_iff_ne.mpr c10
                      by_cases c11 : x4_1.length < 140737488355328
                      · rw [if_pos c11] at H
                        have LMc11 := Aside0.mk c11
                        clear c11
                        obtain ⟨y132, hy132⟩ : ∃ y_ : List Int, y_ = (x4_1 ++ [bt a0 x15_1]) := ⟨_, rfl⟩
                        replace H : (carryallref03_Decode.l0 k1 a0 y132 (a0.size : Int) (wrap64 (x15_1 + 1))) = some (r1, r2) := by first | (rw [hy132]; with_reducible exact H) | (have H2_ := (Option.bind_some _ _).symm.trans H; rw [hy132]; with_reducible exact H2_) | (have H2_ := (Option.bind_some _ _).symm.trans H; with_reducible exact H2_) | with_reducible exact H | (rw [hy132]; exact H) | exact H
                        have Ny132 := Aside0.mk hy132
                        clear hy132
                        have H' := Aside0.mk H
                        clear H
                        have p5 : 0 ≤ (x15_1 : Int) := of_decide_eq_true (by first | (with_reducible assumption) | assumption)
                        have q5 : x15_1 < (a0.size : Int) := of_decide_eq_true (by first | (with_reducible assumption) | assumption)
                        have hx5 := bt_at a0 x15_1
                        replace p5 := eq_true p5
                        replace q5 := eq_true q5
                        go_wp2_with (first | ((with_reducible refine gate_builtin (b := .append) (xs := #[.tmp 39, .tmp 41]) rfl ?_); at_builtin; refine Kd.R_append (Kd.int .u8) (w0 := w) w.heap.size rfl (.tmp 39) (.tmp 41) 22 5 (.int .u8 0) 1 rfl Tryd.underlying22 info5 rfl (by decide) (by omega) u4 x4_1 (bt a0 x15_1) [.int .u8 (bt a0 x15_1)] (fun _ => True) (fun _ => False) rfl rfl ?aP (fun _ hk => hk.elim) ?aF ?aO ?aB ?aS ?aL ?_; (case aP => exact rfl); (case aB => exact (by repeat (first | (with_reducible first | exact HB.out | apply below_alloc | apply pw_below_drewN | apply below_drew1) | exact HB.out))); (case aF => exact (fun _ _ => trivial)); (case aO => exact (by (with_reducible repeat (first | apply Kd.R_alloc | apply Kd.R_drewN | apply Kd.R_drew)); exact HO_4.out)); (case aS => exact (below_size (by repeat (first | (with_reducible first | exact HB.out | apply below_alloc | apply pw_below_drewN | apply below_drew1) | exact HB.out)))); (case aL => have := LMc11.out; omega); intro v133 w12 ho hb hg hat; rw [← Ny132.out] at ho; have n0_ := Aside0.mk (hb); have n1_ := Aside0.mk (ho); clear HB; clear HO_4; have HB := n0_; have HO134 := n1_; clear n0_ n1_; clear ho hb hg hat))
                        go_roundg k1
                        case measure => have := HK1.out; omega
                        case rel => exact ⟨(y132), (wrap64 (x15_1 + 1)), (by first | rfl | (simp; done) | (simp [*]; done) | (simp [Go.Proofs.YtbobbbpjphkooaaDoor.G.isEmpty_ne]; done)), H', ⟨by have := HK1.out; omega⟩, ⟨by (with_reducible repeat (first | apply Kd.R_alloc | apply Kd.R_drewN | apply Kd.R_drew)); exact HO134.out⟩, ⟨by repeat (first | (with_reducible first | exact HB.out | apply below_alloc | apply pw_below_drewN | apply below_drew1) | exact HB.out)⟩⟩
                      · rw [if_neg c11] at H
                        exact absurd H (by simp)
          · rw [if_neg c4] at H
            exact absurd H (by simp)
        · rw [if_neg c3] at H
          exact absurd H (by simp)
      · rw [if_neg c2] at H
        have c2b0 : decide (x15_1 < (a0.size : Int)) = false := decide_eq_false c2
        clear c2
        have HC13 := Aside0.mk H
        clear H
        obtain ⟨Ao14, co14, eo14⟩ := Kd.R_slice HO_4.out
        subst eo14
        go_upto_region 10 with (fail)
        go_cut [60] (fun v60 wc => ∃ (kq : Nat) (x60_12 : Bool), v60 = .bool x60_12 ∧ Aside0 (carryallref03_Decode.j1 kq x4_1 (x4_1.length : Int) x60_12 = some (r1, r2)) ∧ Aside0 (kq ≤ k1) ∧ Aside0 (Kd.R (Kd.int .u8) 5 wc w.heap.size (fun _ => True) (.slice Ao14 x4_1.length co14) x4_1) ∧ Aside0 (Below w.heap.size w wc))
        case first =>
          have H := HC13.out
          clear HC13
          by_cases c15 : (x4_1.length : Int) > 0
          · rw [if_pos c15] at H
            have c15b0 : decide (0 < (x4_1.length : Int)) = true := decide_eq_true c15
            have c15b1 : decide (0 < x4_1.length) = true := decide_eq_true (by omega)
            clear c15
            (first | rw [c15b0] | (simp only [i64_w, i32_w]; rw [c15b0]) | skip)
            by_cases c16 : ((x4_1.length : Int) % 4) = 0
            · rw [if_pos c16] at H
              have c16b0 : (((x4_1.length : Int) % 4) == 0) = true := beq_iff_eq.mpr c16
              have c16b1 : (((x4_1.length : Int) % 4) != 0) = false := bne_eq_false_iff_eq.mpr c16
              clear c16
              obtain ⟨ji17, hji17⟩ : ∃ j_ : Int, (wrap64 ((x4_1.length : Int) - 1)) = j_ := ⟨_, rfl⟩
              replace H : (if 0 ≤ (ji17) then (if (ji17) < (x4_1.length : Int) then (carryallref03_Decode.j1 k1 x4_1 (x4_1.length : Int) ((rd x4_1 (ji17)) == 61)) else (none)) else (none)) = some (r1, r2) := by first | (rw [hji17] at H; exact H) | (simp only [hji17] at H ⊢; exact H)
              have hji17w : (IntKind.i64.wrap ((x4_1.length : Int) - 1)) = ji17 := (i64_w _).trans hji17
              by_cases c18 : 0 ≤ (ji17)
              · rw [if_pos c18] at H
                have c18b0 : decide (0 ≤ (ji17)) = true := decide_eq_true c18
                clear c18
                by_cases c19 : (ji17) < (x4_1.length : Int)
                · rw [if_pos c19] at H
                  have c19b0 : decide ((ji17) < (x4_1.length : Int)) = true := decide_eq_true c19
                  clear c19
                  have H' := Aside0.mk H
                  clear H
                  have p135 : 0 ≤ ((ji17) : Int) := of_decide_eq_true (by first | (with_reducible assumption) | assumption)
                  have q135 : (ji17) < (x4_1.length : Int) := of_decide_eq_true (by first | (with_reducible assumption) | assumption)
                  obtain ⟨ad135, e135, hx135_0⟩ := Kd.at_int (Kd.R_reads' HO_4.out).2.2 (ji17) p135 q135
                  cases e135
                  replace p135 := eq_true p135
                  replace q135 := eq_true q135
                  go_wp2
                  go_meet
                  case rel => exact ⟨_, (((rd x4_1 (ji17)) == 61)), (by first | rfl | (simp; done) | (simp only [← hji17] <;> (first | rfl | (simp; done))) | (simp only [← hji17]; simp [Go.Proofs.YtbobbbpjphkooaaDoor.G.isEmpty_ne]; done) | (simp [*]; done) | (simp [Go.Proofs.YtbobbbpjphkooaaDoor.G.isEmpty_ne]; done)), H', ⟨by have := HK1.out; first | omega | exact Nat.le_refl _⟩, ⟨by (with_reducible repeat (first | apply Kd.R_alloc | apply Kd.R_drewN | apply Kd.R_drew)); exact HO_4.out⟩, ⟨by repeat (first | (with_reducible first | exact HB.out | apply below_alloc | apply pw_below_drewN | apply below_drew1) | exact HB.out)⟩⟩
                · rw [if_neg c19] at H
                  exact absurd H (by simp)
              · rw [if_neg c18] at H
                exact absurd H (by simp)
            · rw [if_neg c16] at H
              have c16b0 : (((x4_1.length : Int) % 4) == 0) = false := beq_eq_false_iff_ne.mpr c16
              have c16b1 : (((x4_1.length : Int) % 4) != 0) = true := bne_iff_ne.mpr c16
              have H' := Aside0.mk H
              clear H
              go_wp2
              go_meet
              case rel => exact ⟨_, (false), (by first | rfl | (simp; done) | (simp [*]; done) | (simp [Go.Proofs.YtbobbbpjphkooaaDoor.G.isEmpty_ne]; done)), H', ⟨by have := HK1.out; first | omega | exact Nat.le_refl _⟩, ⟨by (with_reducible repeat (first | apply Kd.R_alloc | apply Kd.R_drewN | apply Kd.R_drew)); exact HO_4.out⟩, ⟨by repeat (first | (with_reducible first | exact HB.out | apply below_alloc | apply pw_below_drewN | apply below_drew1) | exact HB.out)⟩⟩
          · rw [if_neg c15] at H
            have c15b0 : decide (0 < (x4_1.length : Int)) = false := decide_eq_false c15
            have c15b1 : decide (0 < x4_1.length) = false := decide_eq_false (by omega)
            clear c15
            (first | rw [c15b0] | (simp only [i64_w, i32_w]; rw [c15b0]) | skip)
            have H' := Aside0.mk H
            clear H
            go_wp2
            go_meet
            case rel => exact ⟨_, (false), (by first | rfl | (simp; done) | (simp [*]; done) | (simp [Go.Proofs.YtbobbbpjphkooaaDoor.G.isEmpty_ne]; done)), H', ⟨by have := HK1.out; first | omega | exact Nat.le_refl _⟩, ⟨by (with_reducible repeat (first | apply Kd.R_alloc | apply Kd.R_drewN | apply Kd.R_drew)); exact HO_4.out⟩, ⟨by repeat (first | (with_reducible first | exact HB.out | apply below_alloc | apply pw_below_drewN | apply below_drew1) | exact HB.out)⟩⟩
        case rest =>
          clear HC13
          try clear c1
          try clear p1
          try clear q1
          try clear hx1
          try clear c2
          try clear c2b0
          try clear p2
          try clear c3
          try clear c3b0
          try clear c4
          try clear c4b0
          try clear p5
          try clear q5
          try clear hx5
          try clear c6
          try clear c6b0
          try clear c6b1
          try clear p6
          try clear c7
          try clear c7b0
          try clear c7b1
          try clear c8
          try clear c8b0
          try clear c8b1
          try clear c9
          try clear c9b0
          try clear c9b1
          try clear c10
          try clear c10b0
          try clear c10b1
          try clear c11
          try clear c12
          try clear p13
          try clear q13
          try clear hx13
          try clear c15
          try clear c15b0
          try clear c15b1
          try clear c16
          try clear c16b0
          try clear c16b1
          try clear c18
          try clear c18b0
          try clear c19
          try clear c19b0
          try clear hx135_0
          try clear p135
          try clear p5
          try clear q135
          try clear q5
          obtain ⟨kq, x60_12, rfl, HA, HJ12, HO_4, HB⟩ := hcut
          cases kq with
          | zero => exact absurd HA.out (by simp [carryallref03_Decode.j1])
          | succ kj12 =>
            have H := HA.out
            clear HA
            simp only [carryallref03_Decode.j1] at H
            have HC20 := Aside0.mk H
            clear H
            go_upto_if 60 with (fail)
            go_cut [4] (fun v4 wc => ∃ (kq : Nat) (x4_19 : List Int), Aside0 (carryallref03_Decode.j2 kq x4_19 = some (r1, r2)) ∧ Aside0 (kq ≤ kj12) ∧ Aside0 (Kd.R (Kd.int .u8) 5 wc w.heap.size (fun _ => True) v4 x4_19) ∧ Aside0 (Below w.heap.size w wc))
            case first =>
              have H := HC20.out
              clear HC20
              by_cases c21 : x60_12 = true
              · subst c21
                have H1 : (if 0 ≤ (wrap64 ((x4_1.length : Int) - 1)) then (if (wrap64 ((x4_1.length : Int) - 1)) ≤ (x4_1.length : Int) then ((some (x4_1.take ((wrap64 ((x4_1.length : Int) - 1)) : Int).toNat : List Int)).bind fun y136 => (if 0 ≤ (wrap64 ((x4_1.length : Int) - 2)) then (if (wrap64 ((x4_1.length : Int) - 2)) < (y136.length : Int) then (if (rd y136 (wrap64 ((x4_1.length : Int) - 2))) = 61 then (if (wrap64 ((x4_1.length : Int) - 2)) ≤ (y136.length : Int) then (carryallref03_Decode.j2 kj12 (y136.take ((wrap64 ((x4_1.length : Int) - 2)) : Int).toNat)) else (none)) else (carryallref03_Decode.j2 kj12 y136)) else (none)) else (none))) else (none)) else (none)) = some (r1, r2) := by rw [if_pos rfl] at H; exact H
                clear H
                have H := H1
                clear H1
                obtain ⟨ji22, hji22⟩ : ∃ j_ : Int, (wrap64 ((x4_1.length : Int) - 1)) = j_ := ⟨_, rfl⟩
                replace H : (if 0 ≤ (ji22) then (if (ji22) ≤ (x4_1.length : Int) then ((some (x4_1.take ((ji22) : Int).toNat : List Int)).bind fun y136 => (if 0 ≤ (wrap64 ((x4_1.length : Int) - 2)) then (if (wrap64 ((x4_1.length : Int) - 2)) < (y136.length : Int) then (if (rd y136 (wrap64 ((x4_1.length : Int) - 2))) = 61 then (if (wrap64 ((x4_1.length : Int) - 2)) ≤ (y136.length : Int) then (carryallref03_Decode.j2 kj12 (y136.take ((wrap64 ((x4_1.length : Int) - 2)) : Int).toNat)) else (none)) else (carryallref03_Decode.j2 kj12 y136)) else (none)) else (none))) else (none)) else (none)) = some (r1, r2) := by first | (rw [hji22] at H; exact H) | (simp only [hji22] at H ⊢; exact H)
                have hji22w : (IntKind.i64.wrap ((x4_1.length : Int) - 1)) = ji22 := (i64_w _).trans hji22
                by_cases c23 : 0 ≤ (ji22)
                · rw [if_pos c23] at H
                  have c23b0 := eq_true c23
                  have c23b1 : decide (0 ≤ (ji22)) = true := decide_eq_true c23
                  clear c23
                  by_cases c24 : (ji22) ≤ (x4_1.length : Int)
                  · rw [if_pos c24] at H
                    have c24b0 := eq_true c24
                    have c24b1 : decide ((ji22) ≤ (x4_1.length : Int)) = true := decide_eq_true c24
                    clear c24
                    obtain ⟨y136, hy136⟩ : ∃ y_ : List Int, y_ = (x4_1.take ((ji22) : Int).toNat) := ⟨_, rfl⟩
                    replace H : (if 0 ≤ (wrap64 ((x4_1.length : Int) - 2)) then (if (wrap64 ((x4_1.length : Int) - 2)) < (y136.length : Int) then (if (rd y136 (wrap64 ((x4_1.length : Int) - 2))) = 61 then (if (wrap64 ((x4_1.length : Int) - 2)) ≤ (y136.length : Int) then (carryallref03_Decode.j2 kj12 (y136.take ((wrap64 ((x4_1.length : Int) - 2)) : Int).toNat)) else (none)) else (carryallref03_Decode.j2 kj12 y136)) else (none)) else (none)) = some (r1, r2) := by first | (rw [hy136]; with_reducible exact H) | (have H2_ := (Option.bind_some _ _).symm.trans H; rw [hy136]; with_reducible exact H2_) | (have H2_ := (Option.bind_some _ _).symm.trans H; with_reducible exact H2_) | with_reducible exact H | (rw [hy136]; exact H) | exact H
                    have Ny136 := Aside0.mk hy136
                    clear hy136
                    obtain ⟨ji25, hji25⟩ : ∃ j_ : Int, (wrap64 ((x4_1.length : Int) - 2)) = j_ := ⟨_, rfl⟩
                    replace H : (if 0 ≤ (ji25) then (if (ji25) < (y136.length : Int) then (if (rd y136 (ji25)) = 61 then (if (ji25) ≤ (y136.length : Int) then (carryallref03_Decode.j2 kj12 (y136.take ((ji25) : Int).toNat)) else (none)) else (carryallref03_Decode.j2 kj12 y136)) else (none)) else (none)) = some (r1, r2) := by first | (rw [hji25] at H; exact H) | (simp only [hji25] at H ⊢; exact H)
                    have hji25w : (IntKind.i64.wrap ((x4_1.length : Int) - 2)) = ji25 := (i64_w _).trans hji25
                    by_cases c26 : 0 ≤ (ji25)
                    · rw [if_pos c26] at H
                      have c26b0 : decide (0 ≤ (ji25)) = true := decide_eq_true c26
                      clear c26
                      (first | rw [c26b0] | (simp only [i64_w, i32_w]; rw [c26b0]) | skip)
                      by_cases c27 : (ji25) < (y136.length : Int)
                      · rw [if_pos c27] at H
                        have c27b0 : decide ((ji25) < (y136.length : Int)) = true := decide_eq_true c27
                        clear c27
                        by_cases c28 : (rd y136 (ji25)) = 61
                        · rw [if_pos c28] at H
                          have c28b0 : ((rd y136 (ji25)) == 61) = true := beq_iff_eq.mpr c28
                          have c28b1 : ((rd y136 (ji25)) != 61) = false := bne_eq_false_iff_eq.mpr c28
                          clear c28
                          by_cases c29 : (ji25) ≤ (y136.length : Int)
                          · rw [if_pos c29] at H
                            have c29b0 := eq_true c29
                            have c29b1 : decide ((ji25) ≤ (y136.length : Int)) = true := decide_eq_true c29
                            clear c29
                            obtain ⟨y140, hy140⟩ : ∃ y_ : List Int, y_ = (y136.take ((ji25) : Int).toNat) := ⟨_, rfl⟩
                            replace H : (carryallref03_Decode.j2 kj12 y140) = some (r1, r2) := by first | (rw [hy140]; with_reducible exact H) | (have H2_ := (Option.bind_some _ _).symm.trans H; rw [hy140]; with_reducible exact H2_) | (have H2_ := (Option.bind_some _ _).symm.trans H; with_reducible exact H2_) | with_reducible exact H | (rw [hy140]; exact H) | exact H
                            have Ny140 := Aside0.mk hy140
                            clear hy140
                            have H' := Aside0.mk H
                            clear H
                            have q30 : ((ji22) : Int) ≤ ((x4_1.length : Int) : Int) := of_decide_eq_true (by first | (with_reducible assumption) | assumption)
                            obtain ⟨i030, hi030, _, hsz30, _⟩ := info_parts info5
                            have hcut30 := cut_to (P := Tryd.prog) 22 5 .i64 Tryd.underlying22 hi030 Ao14 x4_1.length co14 (ji22) (of_decide_eq_true (by first | (with_reducible assumption) | assumption)) q30 (Kd.R_reads' HO_4.out).2.1
                            have hr30 := Kd.R_take (m := ((ji22) : Int).toNat) HO_4.out (by omega)
                            have hy30 : y136.length = ((ji22) : Int).toNat := (by rw [Ny136.out, List.length_take]; omega)
                            rw [← Ny136.out] at hr30
                            rw [← hy30] at hr30 hcut30
                            clear hy30 hi030 hsz30 HO_4
                            have HO138 := Aside0.mk hr30
                            clear hr30
                            replace q30 := eq_true q30
                            have p139 : 0 ≤ ((ji25) : Int) := of_decide_eq_true (by first | (with_reducible assumption) | assumption)
                            have q139 : (ji25) < (y136.length : Int) := of_decide_eq_true (by first | (with_reducible assumption) | assumption)
                            obtain ⟨ad139, e139, hx139_0⟩ := Kd.at_int (Kd.R_reads' HO138.out).2.2 (ji25) p139 q139
                            cases e139
                            replace p139 := eq_true p139
                            replace q139 := eq_true q139
                            have q31 : ((ji25) : Int) ≤ ((y136.length : Int) : Int) := of_decide_eq_true (by first | (with_reducible assumption) | assumption)
                            obtain ⟨i031, hi031, _, hsz31, _⟩ := info_parts info5
                            have hcut31 := cut_to (P := Tryd.prog) 22 5 .i64 Tryd.underlying22 hi031 (some ad139) y136.length co14 (ji25) (of_decide_eq_true (by first | (with_reducible assumption) | assumption)) q31 (Kd.R_reads' HO138.out).2.1
                            have hr31 := Kd.R_take (m := ((ji25) : Int).toNat) HO138.out (by omega)
                            have hy31 : y140.length = ((ji25) : Int).toNat := (by rw [Ny140.out, List.length_take]; omega)
                            rw [← Ny140.out] at hr31
                            rw [← hy31] at hr31 hcut31
                            clear hy31 hi031 hsz31 HO138
                            have HO142 := Aside0.mk hr31
                            clear hr31
                            replace q31 := eq_true q31
                            go_wp2
                            go_meet
                            case rel => exact ⟨_, (y140), H', ⟨by have := HK1.out; have := HJ12.out; first | omega | exact Nat.le_refl _⟩, ⟨by (with_reducible repeat (first | apply Kd.R_alloc | apply Kd.R_drewN | apply Kd.R_drew)); exact HO142.out⟩, ⟨by repeat (first | (with_reducible first | exact HB.out | apply below_alloc | apply pw_below_drewN | apply below_drew1) | exact HB.out)⟩⟩
                          · rw [if_neg c29] at H
                            exact absurd H (by simp)
                        · rw [if_neg c28] at H
                          have c28b0 : ((rd y136 (ji25)) == 61) = false := beq_eq_false_iff_ne.mpr c28
                          have c28b1 : ((rd y136 (ji25)) != 61) = true := bne_iff_ne.mpr c28
                          have H' := Aside0.mk H
                          clear H
                          have q32 : ((ji22) : Int) ≤ ((x4_1.length : Int) : Int) := of_decide_eq_true (by first | (with_reducible assumption) | assumption)
                          obtain ⟨i032, hi032, _, hsz32, _⟩ := info_parts info5
                          have hcut32 := cut_to (P := Tryd.prog) 22 5 .i64 Tryd.underlying22 hi032 Ao14 x4_1.length co14 (ji22) (of_decide_eq_true (by first | (with_reducible assumption) | assumption)) q32 (Kd.R_reads' HO_4.out).2.1
                          have hr32 := Kd.R_take (m := ((ji22) : Int).toNat) HO_4.out (by omega)
                          have hy32 : y136.length = ((ji22) : Int).toNat := (by rw [Ny136.out, List.length_take]; omega)
                          rw [← Ny136.out] at hr32
                          rw [← hy32] at hr32 hcut32
                          clear hy32 hi032 hsz32 HO_4
                          have HO138 := Aside0.mk hr32
                          clear hr32
                          replace q32 := eq_true q32
                          have p139 : 0 ≤ ((ji25) : Int) := of_decide_eq_true (by first | (with_reducible assumption) | assumption)
                          have q139 : (ji25) < (y136.length : Int) := of_decide_eq_true (by first | (with_reducible assumption) | assumption)
                          obtain ⟨ad139, e139, hx139_0⟩ := Kd.at_int (Kd.R_reads' HO138.out).2.2 (ji25) p139 q139
                          cases e139
                          replace p139 := eq_true p139
                          replace q139 := eq_true q139
                          go_wp2
                          go_meet
                          case rel => exact ⟨_, (y136), H', ⟨by have := HK1.out; have := HJ12.out; first | omega | exact Nat.le_refl _⟩, ⟨by (with_reducible repeat (first | apply Kd.R_alloc | apply Kd.R_drewN | apply Kd.R_drew)); exact HO138.out⟩, ⟨by repeat (first | (with_reducible first | exact HB.out | apply below_alloc | apply pw_below_drewN | apply below_drew1) | exact HB.out)⟩⟩
                      · rw [if_neg c27] at H
                        exact absurd H (by simp)
                    · rw [if_neg c26] at H
                      exact absurd H (by simp)
                  · rw [if_neg c24] at H
                    exact absurd H (by simp)
                · rw [if_neg c23] at H
                  exact absurd H (by simp)
              · replace c21 := Bool.eq_false_iff.mpr c21
                subst c21
                have H1 : (carryallref03_Decode.j2 kj12 x4_1) = some (r1, r2) := by rw [if_neg (show ¬ (false = true) by decide)] at H; exact H
                clear H
                have H := H1
                clear H1
                have H' := Aside0.mk H
                clear H
                go_wp2
                go_meet
                case rel => exact ⟨_, (x4_1), H', ⟨by have := HK1.out; have := HJ12.out; first | omega | exact Nat.le_refl _⟩, ⟨by (with_reducible repeat (first | apply Kd.R_alloc | apply Kd.R_drewN | apply Kd.R_drew)); exact HO_4.out⟩, ⟨by repeat (first | (with_reducible first | exact HB.out | apply below_alloc | apply pw_below_drewN | apply below_drew1) | exact HB.out)⟩⟩
            case rest =>
              clear HC20
              try clear c1
              try clear p1
              try clear q1
              try clear hx1
              try clear c2
              try clear c2b0
              try clear p2
              try clear c3
              try clear c3b0
              try clear q3
              try clear c4
              try clear c4b0
              try clear p5
              try clear q5
              try clear hx5
              try clear c6
              try clear c6b0
              try clear c6b1
              try clear p6
              try clear c7
              try clear c7b0
              try clear c7b1
              try clear c8
              try clear c8b0
              try clear c8b1
              try clear c9
              try clear c9b0
              try clear c9b1
              try clear c10
              try clear c10b0
              try clear c10b1
              try clear c11
              try clear c12
              try clear p13
              try clear q13
              try clear hx13
              try clear c15
              try clear c15b0
              try clear c15b1
              try clear c16
              try clear c16b0
              try clear c16b1
              try clear c18
              try clear c18b0
              try clear c19
              try clear c19b0
              try clear c21
              try clear c23
              try clear c23b0
              try clear c23b1
              try clear c24
              try clear c24b0
              try clear c24b1
              try clear c26
              try clear c26b0
              try clear c27
              try clear c27b0
              try clear c28
              try clear c28b0
              try clear c28b1
              try clear c29
              try clear c29b0
              try clear c29b1
              try clear q30
              try clear q31
              try clear q32
              try clear hx135_0
              try clear hx139_0
              try clear p1
              try clear p13
              try clear p135
              try clear p139
              try clear p2
              try clear p5
              try clear p6
              try clear q1
              try clear q13
              try clear q135
              try clear q139
              try clear q30
              try clear q31
              try clear q32
              try clear q5
              obtain ⟨kq, x4_19, HA, HJ19, HO_4, HB⟩ := hcut
              cases kq with
              | zero => exact absurd HA.out (by simp [carryallref03_Decode.j2])
              | succ kj19 =>
                have H := HA.out
                clear HA
                simp only [carryallref03_Decode.j2] at H
                by_cases c33 : ((x4_19.length : Int) % 4) = 1
                · rw [if_pos c33] at H
                  have c33b0 : (((x4_19.length : Int) % 4) == 1) = true := beq_iff_eq.mpr c33
                  have c33b1 : (((x4_19.length : Int) % 4) != 1) = false := bne_eq_false_iff_eq.mpr c33
                  clear c33
                  simp only [Option.some.injEq, Prod.mk.injEq] at H
                  obtain ⟨rfl, rfl⟩ := H
                  obtain ⟨Ao34, co34, eo34⟩ := Kd.R_slice HO_4.out
                  subst eo34
                  go_wp2
                  go_ret2
                  exact ⟨_, by first | rfl | (simp [errW_none, errW_some] <;> rfl) | (simp [*, errW_none, errW_some] <;> rfl) | (simp [errW_none, errW_some, Go.Proofs.YtbobbbpjphkooaaDoor.G.isEmpty_ne]; done), by first | exact Kd.R_nil _ _ _ _ _ | exact Kd.N_nil _ _ _ _ _ | exact Kd.V_nil _ _ _ _ _ | exact Kd.Q_nil _ _ _ _ _ | exact Kd.S_nil _ _ _ _ _, by repeat (first | (with_reducible first | exact HB.out | apply below_alloc | apply pw_below_drewN | apply below_drew1) | exact HB.out)⟩
                · rw [if_neg c33] at H
                  have c33b0 : (((x4_19.length : Int) % 4) == 1) = false := beq_eq_false_iff_ne.mpr c33
                  have c33b1 : (((x4_19.length : Int) % 4) != 1) = true := bne_iff_ne.mpr c33
                  obtain ⟨ji35, hji35⟩ : ∃ j_ : Int, (wrap64 (Int.tdiv (wrap64 (6 * (x4_19.length : Int))) 8)) = j_ := ⟨_, rfl⟩
                  replace H : (if 0 ≤ (ji35) then (if (ji35 : Int).toNat ≤ 281474976710656 then (carryallref03_Decode.l1 kj19 x4_19 (List.replicate (ji35 : Int).toNat 0) (x4_19.length : Int) 0) else (none)) else (none)) = some (r1, r2) := by first | (rw [hji35] at H; exact H) | (simp only [hji35] at H ⊢; exact H)
                  have hji35w : (IntKind.i64.wrap (Int.tdiv (wrap64 (6 * (x4_19.length : Int))) 8)) = ji35 := (i64_w _).trans hji35
                  by_cases c36 : 0 ≤ (ji35)
                  · rw [if_pos c36] at H
                    have c36b0 := eq_true c36
                    have c36b1 : decide (0 ≤ (ji35)) = true := decide_eq_true c36
                    clear c36
                    by_cases c37 : (ji35 : Int).toNat ≤ 281474976710656
                    · rw [if_pos c37] at H
                      have c37b0 := eq_true c37
                      have c37b1 : decide ((ji35 : Int).toNat ≤ 281474976710656) = true := decide_eq_true c37
                      clear c37
                      obtain ⟨y143, hy143⟩ : ∃ y_ : List Int, y_ = (List.replicate (ji35 : Int).toNat 0) := ⟨_, rfl⟩
                      replace H : (carryallref03_Decode.l1 kj19 x4_19 y143 (x4_19.length : Int) 0) = some (r1, r2) := by first | (rw [hy143]; with_reducible exact H) | (have H2_ := (Option.bind_some _ _).symm.trans H; rw [hy143]; with_reducible exact H2_) | (have H2_ := (Option.bind_some _ _).symm.trans H; with_reducible exact H2_) | with_reducible exact H | (rw [hy143]; exact H) | exact H
                      have Ny143 := Aside0.mk hy143
                      clear hy143
                      have H' := Aside0.mk H
                      clear H
                      obtain ⟨Ao38, co38, eo38⟩ := Kd.R_slice HO_4.out
                      subst eo38
                      go_wp2_with (first | ((with_reducible refine gate_dst (N := 83) rfl ?_); refine Kd.R_make (Kd.int .u8) _ 5 rfl (N := 83) rfl 22 _ _ rfl ji35 rfl rfl Tryd.underlying22 (.int .u8 0) 1 info5 rfl (by decide) (by omega) 0 (ok := fun _ => True) (okp := fun _ => True) rfl (fun _ hk => hk) trivial (of_decide_eq_true (by first | (with_reducible assumption) | assumption)) (Nat.le_trans (Nat.mul_le_mul_right _ (of_decide_eq_true (by first | (with_reducible assumption) | assumption) : ji35.toNat ≤ 281474976710656)) (by omega)) (Below.refl _ _) (Nat.le_refl _) ?_; intro v144 w39 ho40 hb hg_ hnew_; clear hg_ hnew_; (first | rw [← Ny143.out] at ho40 | (simp only [Int.reduceToNat] at ho40; rw [← Ny143.out] at ho40)); have n0_ := Aside0.mk (Kd.R_elder' (by (with_reducible repeat (first | apply Kd.R_alloc | apply Kd.R_drewN | apply Kd.R_drew)); exact HO_4.out) (Kd.R_base ho40) hb); have n1_ := Aside0.mk (Kd.R_lower (Kd.R_new' ho40 (Kd.R_lt (by (with_reducible repeat (first | apply Kd.R_alloc | apply Kd.R_drewN | apply Kd.R_drew)); exact HO_4.out))) (below_size (by repeat (first | (with_reducible first | exact HB.out | apply below_alloc | apply pw_below_drewN | apply below_drew1) | exact HB.out)))); have n2_ := Aside0.mk (below_step (by repeat (first | (with_reducible first | exact HB.out | apply below_alloc | apply pw_below_drewN | apply below_drew1) | exact HB.out)) hb); clear HO_4; clear HB; have HO_4 := n0_; have HO145 := n1_; have HB := n2_; clear n0_ n1_ n2_; clear hb ho40))
                      go_loopg [86] kj19 (fun kq v86 w' => ∃ (x8_4 : List Int) (x86_4 : Int), v86 = .int .i64 x86_4 ∧ Aside0 (carryallref03_Decode.l1 kq x4_19 x8_4 (x4_19.length : Int) x86_4 = some (r1, r2)) ∧ Aside0 (kq ≤ kj19) ∧ Aside0 (Kd.R (Kd.int .u8) 5 w' w.heap.size (fun k_ => some k_ ≠ (v144 : Value).ownBlock) (.slice Ao38 x4_19.length co38) x4_19) ∧ Aside0 (Kd.R (Kd.int .u8) 5 w' w.heap.size (fun k_ => some k_ ≠ ((.slice Ao38 x4_19.length co38) : Value).ownBlock) v144 x8_4) ∧ Aside0 (Below w.heap.size w w'))
                      case atStart => exact ⟨(y143), (0), (by first | rfl | (simp; done) | (simp [*]; done) | (simp [Go.Proofs.YtbobbbpjphkooaaDoor.G.isEmpty_ne]; done)), H', ⟨Nat.le_refl _⟩, ⟨by (with_reducible repeat (first | apply Kd.R_alloc | apply Kd.R_drewN | apply Kd.R_drew)); exact Kd.R_mono HO_4.out (fun _ hk => hk.2)⟩, ⟨by (with_reducible repeat (first | apply Kd.R_alloc | apply Kd.R_drewN | apply Kd.R_drew)); exact Kd.R_mono HO145.out (fun _ hk => hk.2)⟩, ⟨by repeat (first | (with_reducible first | exact HB.out | apply below_alloc | apply pw_below_drewN | apply below_drew1) | exact HB.out)⟩⟩
                      case round =>
                        clear H'
                        try clear c1
                        try clear p1
                        try clear q1
                        try clear hx1
                        try clear c2
                        try clear c2b0
                        try clear p2
                        try clear c3
                        try clear c3b0
                        try clear q3
                        try clear c4
                        try clear c4b0
                        try clear p5
                        try clear q5
                        try clear hx5
                        try clear c6
                        try clear c6b0
                        try clear c6b1
                        try clear p6
                        try clear c7
                        try clear c7b0
                        try clear c7b1
                        try clear c8
                        try clear c8b0
                        try clear c8b1
                        try clear c9
                        try clear c9b0
                        try clear c9b1
                        try clear c10
                        try clear c10b0
                        try clear c10b1
                        try clear c11
                        try clear c12
                        try clear p13
                        try clear q13
                        try clear hx13
                        try clear c15
                        try clear c15b0
                        try clear c15b1
                        try clear c16
                        try clear c16b0
                        try clear c16b1
                        try clear c18
                        try clear c18b0
                        try clear c19
                        try clear c19b0
                        try clear c21
                        try clear c23
                        try clear c23b0
                        try clear c23b1
                        try clear c24
                        try clear c24b0
                        try clear c24b1
                        try clear c26
                        try clear c26b0
                        try clear c27
                        try clear c27b0
                        try clear c28
                        try clear c28b0
                        try clear c28b1
                        try clear c29
                        try clear c29b0
                        try clear c29b1
                        try clear q30
                        try clear q31
                        try clear q32
                        try clear c33
                        try clear c33b0
                        try clear c33b1
                        try clear c36
                        try clear c36b0
                        try clear c36b1
                        try clear c37
                        try clear c37b0
                        try clear c37b1
                        try clear hx135_0
                        try clear hx139_0
                        try clear p1
                        try clear p13
                        try clear p135
                        try clear p139
                        try clear p2
                        try clear p5
                        try clear p6
                        try clear q1
                        try clear q13
                        try clear q135
                        try clear q139
                        try clear q3
                        try clear q30
                        try clear q31
                        try clear q32
                        try clear q5
                        obtain ⟨x8_4, x86_4, rfl, HA, HK4, HO_4, HO_8, HB⟩ := hrel
                        cases gk with
                        | zero => exact absurd HA.out (by simp [carryallref03_Decode.l1])
                        | succ k4 =>
                          have H := HA.out
                          clear HA
                          simp only [carryallref03_Decode.l1] at H
                          by_cases c41 : x86_4 < (x4_19.length : Int)
                          · rw [if_pos c41] at H
                            have c41b0 : decide (x86_4 < (x4_19.length : Int)) = true := decide_eq_true c41
                            clear c41
                            by_cases c42 : 0 ≤ x86_4
                            · rw [if_pos c42] at H
                              have c42b0 : decide (0 ≤ x86_4) = true := decide_eq_true c42
                              clear c42
                              by_cases c43 : x86_4 < (x4_19.length : Int)
                              · rw [if_pos c43] at H
                                have c43b0 : decide (x86_4 < (x4_19.length : Int)) = true := decide_eq_true c43
                                clear c43
                                replace H := Option.bind_eq_some_iff.mp H
                                obtain ⟨t147, A440, H⟩ := H
                                replace H : (if t147 < 0 then (some (([] : List Int), false)) else (carryallref03_Decode.l2 k4 x4_19 x8_4 x86_4 t147 (x4_19.length : Int) x86_4 0)) = some (r1, r2) := H
                                have A44 := Aside0.mk A440
                                clear A440
                                by_cases c45 : t147 < 0
                                · rw [if_pos c45] at H
                                  have c45b0 : decide (t147 < 0) = true := decide_eq_true c45
                                  clear c45
                                  simp only [Option.some.injEq, Prod.mk.injEq] at H
                                  obtain ⟨rfl, rfl⟩ := H
                                  have p146 : 0 ≤ (x86_4 : Int) := of_decide_eq_true (by first | (with_reducible assumption) | assumption)
                                  have q146 : x86_4 < (x4_19.length : Int) := of_decide_eq_true (by first | (with_reducible assumption) | assumption)
                                  obtain ⟨ad146, e146, hx146_0⟩ := Kd.at_int (Kd.R_reads' HO_4.out).2.2 x86_4 p146 q146
                                  cases e146
                                  replace p146 := eq_true p146
                                  replace q146 := eq_true q146
                                  go_wp2_with (first | ((with_reducible refine gate_callee (f := 18) rfl ?_); refine goesL_ (some 93) rfl rfl Tryd.func18 (by kernel_rfl) rfl #[.int .u8 (rd x4_19 x86_4)] rfl (by (try simp only [List.map_toArray, List.map_cons, List.map_nil]); first | done | rfl | (simp only [List.length_drop, List.length_take]; rfl)) ?_; (with_reducible refine (carryallref03_number.calls k4 (rd x4_19 x86_4) t147 _ A44.out).mono ?_); rintro e w' ⟨rfl, ⟨nd, rfl⟩⟩; refine ⟨_, rfl, ?_⟩))
                                  go_ret2
                                  exact ⟨_, by first | rfl | (simp [errW_none, errW_some] <;> rfl) | (simp only [← hji35]; first | rfl | (simp [errW_none, errW_some] <;> rfl)) | (simp [*, errW_none, errW_some] <;> rfl) | (simp [errW_none, errW_some, Go.Proofs.YtbobbbpjphkooaaDoor.G.isEmpty_ne]; done), by first | exact Kd.R_nil _ _ _ _ _ | exact Kd.N_nil _ _ _ _ _ | exact Kd.V_nil _ _ _ _ _ | exact Kd.Q_nil _ _ _ _ _ | exact Kd.S_nil _ _ _ _ _, by repeat (first | (with_reducible first | exact HB.out | apply below_alloc | apply pw_below_drewN | apply below_drew1) | exact HB.out)⟩
                                · rw [if_neg c45] at H
                                  have c45b0 : decide (t147 < 0) = false := decide_eq_false c45
                                  clear c45
                                  have H' := Aside0.mk H
                                  clear H
                                  have p146 : 0 ≤ (x86_4 : Int) := of_decide_eq_true (by first | (with_reducible assumption) | assumption)
                                  have q146 : x86_4 < (x4_19.length : Int) := of_decide_eq_true (by first | (with_reducible assumption) | assumption)
                                  obtain ⟨ad146, e146, hx146_0⟩ := Kd.at_int (Kd.R_reads' HO_4.out).2.2 x86_4 p146 q146
                                  cases e146
                                  replace p146 := eq_true p146
                                  replace q146 := eq_true q146
                                  go_wp2_with (first | ((with_reducible refine gate_callee (f := 18) rfl ?_); refine goesL_ (some 93) rfl rfl Tryd.func18 (by kernel_rfl) rfl #[.int .u8 (rd x4_19 x86_4)] rfl (by (try simp only [List.map_toArray, List.map_cons, List.map_nil]); first | done | rfl | (simp only [List.length_drop, List.length_take]; rfl)) ?_; (with_reducible refine (carryallref03_number.calls k4 (rd x4_19 x86_4) t147 _ A44.out).mono ?_); rintro e w' ⟨rfl, ⟨nd, rfl⟩⟩; refine ⟨_, rfl, ?_⟩))
                                  go_loopg [96] k4 (fun kq v96 w' => ∃ (x8_5 : List Int) (x96_5 : Int), v96 = .int .i64 x96_5 ∧ Aside0 (carryallref03_Decode.l2 kq x4_19 x8_5 x86_4 t147 (x4_19.length : Int) x86_4 x96_5 = some (r1, r2)) ∧ Aside0 (kq ≤ k4) ∧ Aside0 (Kd.R (Kd.int .u8) 5 w' w.heap.size (fun k_ => some k_ ≠ (v144 : Value).ownBlock) (.slice (some ad146) x4_19.length co38) x4_19) ∧ Aside0 (Kd.R (Kd.int .u8) 5 w' w.heap.size (fun k_ => some k_ ≠ ((.slice (some ad146) x4_19.length co38) : Value).ownBlock) v144 x8_5) ∧ Aside0 (Below w.heap.size w w'))
                                  case atStart => exact ⟨(x8_4), (0), (by first | rfl | (simp; done) | (simp [*]; done) | (simp [Go.Proofs.YtbobbbpjphkooaaDoor.G.isEmpty_ne]; done)), H', ⟨Nat.le_refl _⟩, ⟨by (with_reducible repeat (first | apply Kd.R_alloc | apply Kd.R_drewN | apply Kd.R_drew)); exact HO_4.out⟩, ⟨by (with_reducible repeat (first | apply Kd.R_alloc | apply Kd.R_drewN | apply Kd.R_drew)); exact HO_8.out⟩, ⟨by repeat (first | (with_reducible first | exact HB.out | apply below_alloc | apply pw_below_drewN | apply below_drew1) | exact HB.out)⟩⟩
                                  case round =>
                                    clear H'
                                    try clear c1
                                    try clear p1
                                    try clear q1
                                    try clear hx1
                                    try clear c2
                                    try clear c2b0
                                    try clear p2
                                    try clear c3
                                    try clear c3b0
                                    try clear q3
                                    try clear c4
                                    try clear c4b0
                                    try clear p5
                                    try clear q5
                                    try clear hx5
                                    try clear c6
                                    try clear c6b0
                                    try clear c6b1
                                    try clear p6
                                    try clear c7
                                    try clear c7b0
                                    try clear c7b1
                                    try clear c8
                                    try clear c8b0
                                    try clear c8b1
                                    try clear c9
                                    try clear c9b0
                                    try clear c9b1
                                    try clear c10
                                    try clear c10b0
                                    try clear c10b1
                                    try clear c11
                                    try clear c12
                                    try clear p13
                                    try clear q13
                                    try clear hx13
                                    try clear p14
                                    try clear q14
                                    try clear hx14
                                    try clear c15
                                    try clear c15b0
                                    try clear c15b1
                                    try clear c16
                                    try clear c16b0
                                    try clear c16b1
                                    try clear c18
                                    try clear c18b0
                                    try clear c19
                                    try clear c19b0
                                    try clear c21
                                    try clear c23
                                    try clear c23b0
                                    try clear c23b1
                                    try clear c24
                                    try clear c24b0
                                    try clear c24b1
                                    try clear c26
                                    try clear c26b0
                                    try clear c27
                                    try clear c27b0
                                    try clear c28
                                    try clear c28b0
                                    try clear c28b1
                                    try clear c29
                                    try clear c29b0
                                    try clear c29b1
                                    try clear q30
                                    try clear q31
                                    try clear q32
                                    try clear c33
                                    try clear c33b0
                                    try clear c33b1
                                    try clear c36
                                    try clear c36b0
                                    try clear c36b1
                                    try clear c37
                                    try clear c37b0
                                    try clear c37b1
                                    try clear c41
                                    try clear c41b0
                                    try clear c42
                                    try clear c42b0
                                    try clear c43
                                    try clear c43b0
                                    try clear c45
                                    try clear c45b0
                                    try clear hx135_0
                                    try clear hx139_0
                                    try clear hx146_0
                                    try clear p1
                                    try clear p13
                                    try clear p135
                                    try clear p139
                                    try clear p146
                                    try clear p2
                                    try clear p5
                                    try clear p6
                                    try clear q1
                                    try clear q13
                                    try clear q135
                                    try clear q139
                                    try clear q146
                                    try clear q3
                                    try clear q30
                                    try clear q31
                                    try clear q32
                                    try clear q5
                                    obtain ⟨x8_5, x96_5, rfl, HA, HK5, HO_4, HO_8, HB⟩ := hrel
                                    cases gk with
                                    | zero => exact absurd HA.out (by simp [carryallref03_Decode.l2])
                                    | succ k5 =>
                                      have H := HA.out
                                      clear HA
                                      simp only [carryallref03_Decode.l2] at H
                                      by_cases c46 : x96_5 < 6
                                      · rw [if_pos c46] at H
                                        have c46b0 : decide (x96_5 < 6) = true := decide_eq_true c46
                                        clear c46
                                        by_cases c47 : (wrap64 ((wrap64 (6 * x86_4)) + x96_5)) < (wrap64 (8 * (x8_5.length : Int)))
                                        · rw [if_pos c47] at H
                                          have c47b0 : decide ((wrap64 ((wrap64 (6 * x86_4)) + x96_5)) < (wrap64 (8 * (x8_5.length : Int)))) = true := decide_eq_true c47
                                          clear c47
                                          obtain ⟨ji48, hji48⟩ : ∃ j_ : Int, (IntKind.u64.wrap (5 - (IntKind.u64.wrap (x96_5)))) = j_ := ⟨_, rfl⟩
                                          replace H : (if 0 ≤ (ji48) then (if (Go.bits .and .i64 (shr .i64 t147 (ji48)) 1) = 1 then (if 0 ≤ (wrap64 (Int.tdiv (wrap64 ((wrap64 (6 * x86_4)) + x96_5)) 8)) then (if (wrap64 (Int.tdiv (wrap64 ((wrap64 (6 * x86_4)) + x96_5)) 8)) < (x8_5.length : Int) then (if 0 ≤ (IntKind.u64.wrap (7 - (IntKind.u64.wrap (Int.tmod (wrap64 ((wrap64 (6 * x86_4)) + x96_5)) 8)))) then (carryallref03_Decode.l2 k5 x4_19 (x8_5.set ((wrap64 (Int.tdiv (wrap64 ((wrap64 (6 * x86_4)) + x96_5)) 8)) : Int).toNat (Go.bits .or .u8 (rd x8_5 (wrap64 (Int.tdiv (wrap64 ((wrap64 (6 * x86_4)) + x96_5)) 8))) (shl .u8 1 (IntKind.u64.wrap (7 - (IntKind.u64.wrap (Int.tmod (wrap64 ((wrap64 (6 * x86_4)) + x96_5)) 8))))))) x86_4 t147 (x4_19.length : Int) x86_4 (wrap64 (x96_5 + 1))) else (none)) else (none)) else (none)) else (carryallref03_Decode.l2 k5 x4_19 x8_5 x86_4 t147 (x4_19.length : Int) x86_4 (wrap64 (x96_5 + 1)))) else (none)) = some (r1, r2) := by first | (rw [hji48] at H; exact H) | (simp only [hji48] at H ⊢; exact H)
                                          by_cases c49 : 0 ≤ (ji48)
                                          · rw [if_pos c49] at H
                                            have c49b0 := eq_true c49
                                            have c49b1 : decide (0 ≤ (ji48)) = true := decide_eq_true c49
                                            clear c49
                                            obtain ⟨ji50, hji50⟩ : ∃ j_ : Int, (shr .i64 t147 (ji48)) = j_ := ⟨_, rfl⟩
                                            replace H : (if (Go.bits .and .i64 (ji50) 1) = 1 then (if 0 ≤ (wrap64 (Int.tdiv (wrap64 ((wrap64 (6 * x86_4)) + x96_5)) 8)) then (if (wrap64 (Int.tdiv (wrap64 ((wrap64 (6 * x86_4)) + x96_5)) 8)) < (x8_5.length : Int) then (if 0 ≤ (IntKind.u64.wrap (7 - (IntKind.u64.wrap (Int.tmod (wrap64 ((wrap64 (6 * x86_4)) + x96_5)) 8)))) then (carryallref03_Decode.l2 k5 x4_19 (x8_5.set ((wrap64 (Int.tdiv (wrap64 ((wrap64 (6 * x86_4)) + x96_5)) 8)) : Int).toNat (Go.bits .or .u8 (rd x8_5 (wrap64 (Int.tdiv (wrap64 ((wrap64 (6 * x86_4)) + x96_5)) 8))) (shl .u8 1 (IntKind.u64.wrap (7 - (IntKind.u64.wrap (Int.tmod (wrap64 ((wrap64 (6 * x86_4)) + x96_5)) 8))))))) x86_4 t147 (x4_19.length : Int) x86_4 (wrap64 (x96_5 + 1))) else (none)) else (none)) else (none)) else (carryallref03_Decode.l2 k5 x4_19 x8_5 x86_4 t147 (x4_19.length : Int) x86_4 (wrap64 (x96_5 + 1)))) = some (r1, r2) := by first | (rw [hji50] at H; exact H) | (simp only [hji50] at H ⊢; exact H)
                                            have hji50_ : (t147 / 2 ^ min (ji48).toNat 64) = ji50 := hji50
                                            have hji50z : (ji48) ≤ 64 → (t147 / 2 ^ (ji48).toNat) = ji50 := shr_small hji50
                                            by_cases c51 : (Go.bits .and .i64 (ji50) 1) = 1
                                            · rw [if_pos c51] at H
                                              have c51b0 : ((Go.bits .and .i64 (ji50) 1) == 1) = true := beq_iff_eq.mpr c51
                                              have c51b1 : ((Go.bits .and .i64 (ji50) 1) != 1) = false := bne_eq_false_iff_eq.mpr c51
                                              clear c51
                                              obtain ⟨ji52, hji52⟩ : ∃ j_ : Int, (wrap64 (Int.tdiv (wrap64 ((wrap64 (6 * x86_4)) + x96_5)) 8)) = j_ := ⟨_, rfl⟩
                                              replace H : (if 0 ≤ (ji52) then (if (ji52) < (x8_5.length : Int) then (if 0 ≤ (IntKind.u64.wrap (7 - (IntKind.u64.wrap (Int.tmod (wrap64 ((wrap64 (6 * x86_4)) + x96_5)) 8)))) then (carryallref03_Decode.l2 k5 x4_19 (x8_5.set ((ji52) : Int).toNat (Go.bits .or .u8 (rd x8_5 (ji52)) (shl .u8 1 (IntKind.u64.wrap (7 - (IntKind.u64.wrap (Int.tmod (wrap64 ((wrap64 (6 * x86_4)) + x96_5)) 8))))))) x86_4 t147 (x4_19.length : Int) x86_4 (wrap64 (x96_5 + 1))) else (none)) else (none)) else (none)) = some (r1, r2) := by first | (rw [hji52] at H; exact H) | (simp only [hji52] at H ⊢; exact H)
                                              have hji52w : (IntKind.i64.wrap (Int.tdiv (wrap64 ((wrap64 (6 * x86_4)) + x96_5)) 8)) = ji52 := (i64_w _).trans hji52
                                              by_cases c53 : 0 ≤ (ji52)
                                              · rw [if_pos c53] at H
                                                have c53b0 : decide (0 ≤ (ji52)) = true := decide_eq_true c53
                                                clear c53
                                                by_cases c54 : (ji52) < (x8_5.length : Int)
                                                · rw [if_pos c54] at H
                                                  have c54b0 : decide ((ji52) < (x8_5.length : Int)) = true := decide_eq_true c54
                                                  clear c54
                                                  obtain ⟨ji55, hji55⟩ : ∃ j_ : Int, (IntKind.u64.wrap (7 - (IntKind.u64.wrap (Int.tmod (wrap64 ((wrap64 (6 * x86_4)) + x96_5)) 8)))) = j_ := ⟨_, rfl⟩
                                                  replace H : (if 0 ≤ (ji55) then (carryallref03_Decode.l2 k5 x4_19 (x8_5.set ((ji52) : Int).toNat (Go.bits .or .u8 (rd x8_5 (ji52)) (shl .u8 1 (ji55)))) x86_4 t147 (x4_19.length : Int) x86_4 (wrap64 (x96_5 + 1))) else (none)) = some (r1, r2) := by first | (rw [hji55] at H; exact H) | (simp only [hji55] at H ⊢; exact H)
                                                  by_cases c56 : 0 ≤ (ji55)
                                                  · rw [if_pos c56] at H
                                                    have c56b0 := eq_true c56
                                                    have c56b1 : decide (0 ≤ (ji55)) = true := decide_eq_true c56
                                                    clear c56
                                                    obtain ⟨ji57, hji57⟩ : ∃ j_ : Int, (shl .u8 1 (ji55)) = j_ := ⟨_, rfl⟩
                                                    replace H : (carryallref03_Decode.l2 k5 x4_19 (x8_5.set ((ji52) : Int).toNat (Go.bits .or .u8 (rd x8_5 (ji52)) (ji57))) x86_4 t147 (x4_19.length : Int) x86_4 (wrap64 (x96_5 + 1))) = some (r1, r2) := by first | (rw [hji57] at H; exact H) | (simp only [hji57] at H ⊢; exact H)
                                                    have hji57_ : (IntKind.u8.wrap (1 * 2 ^ min (ji55).toNat 8)) = ji57 := hji57
                                                    have hji57z : (ji55) ≤ 8 → (IntKind.u8.wrap (1 * 2 ^ (ji55).toNat)) = ji57 := shl_small hji57
                                                    have hji57u : (IntKind.u8.wrap (2 ^ min (ji55).toNat 8)) = ji57 := by have h_ := hji57_; rw [Int.one_mul] at h_; exact h_
                                                    have hji57v : (ji55) ≤ 8 → (IntKind.u8.wrap (2 ^ (ji55).toNat)) = ji57 := fun hle_ => by have h_ := hji57z hle_; rw [Int.one_mul] at h_; exact h_
                                                    obtain ⟨y149, hy149⟩ : ∃ y_ : List Int, y_ = (x8_5.set ((ji52) : Int).toNat (Go.bits .or .u8 (rd x8_5 (ji52)) (ji57))) := ⟨_, rfl⟩
                                                    replace H : (carryallref03_Decode.l2 k5 x4_19 y149 x86_4 t147 (x4_19.length : Int) x86_4 (wrap64 (x96_5 + 1))) = some (r1, r2) := by first | (rw [hy149]; with_reducible exact H) | (have H2_ := (Option.bind_some _ _).symm.trans H; rw [hy149]; with_reducible exact H2_) | (have H2_ := (Option.bind_some _ _).symm.trans H; with_reducible exact H2_) | with_reducible exact H | (rw [hy149]; exact H) | exact H
                                                    have Ny149 := Aside0.mk hy149
                                                    clear hy149
                                                    have H' := Aside0.mk H
                                                    clear H
                                                    obtain ⟨Ao59, co59, eo59⟩ := Kd.R_slice HO_8.out
                                                    subst eo59
                                                    have p148 : 0 ≤ ((ji52) : Int) := of_decide_eq_true (by first | (with_reducible assumption) | assumption)
                                                    have q148 : (ji52) < (x8_5.length : Int) := of_decide_eq_true (by first | (with_reducible assumption) | assumption)
                                                    obtain ⟨ad148, e148, hx148_0⟩ := Kd.at_int (Kd.R_reads' HO_8.out).2.2 (ji52) p148 q148
                                                    cases e148
                                                    replace p148 := eq_true p148
                                                    replace q148 := eq_true q148
                                                    have p58 : 0 ≤ ((ji52) : Int) := of_decide_eq_true (by first | (with_reducible assumption) | assumption)
                                                    have q58 : ((ji52) : Int) < ((x8_5.length : Int) : Int) := of_decide_eq_true (by first | (with_reducible assumption) | assumption)
                                                    obtain ⟨go58, co58, eo58, gb58, gl58, cl58, HG58⟩ := Kd.R_form HO_8.out (by omega)
                                                    (first | cases eo58 | (injection eo58 with ea_ en_ ec_; (first | subst ea_ | (injection ea_ with ea_; subst ea_)); subst ec_; clear en_))
                                                    have GB58 := Aside0.mk gb58
                                                    have GG58 := Aside0.mk HG58
                                                    clear gb58 gl58 HG58
                                                    (first | simp only [add_plain] at hx148_0 | skip)
                                                    obtain ⟨hx58_0, hf58_0⟩ := Kd.R_celln 0 HO_8.out ((ji52) : Int) p58 q58
                                                    replace p58 := eq_true p58
                                                    replace q58 := eq_true q58
                                                    have HP60 := Kd.R_putg HO_8.out ((ji52) : Int) (Go.bits .or .u8 (rd x8_5 (ji52)) (ji57))
                                                    go_wp2_with (first | ((with_reducible refine gate_store (t := 5) (p := 131) rfl ?_); refine store_event (t := 5) (p := 131) (v := ?vo_w61) (w1 := (wr.setCell ⟨go58, ((ji52) : Int).toNat, none⟩ (.int .u8 (Go.bits .or .u8 (rd x8_5 (ji52)) (ji57))))) ?hg ?ho ?hn ?hr ?_; (case ho => rfl); (case hg => rfl); (case hn => rfl); (case hr => first | (go_simp; done) | (go_simp; rfl)); intro w61 hw; have hg : wr.grownBy w61 (some go58) := (by rw [hw]; exact HP60.2); have hp_ : Kd.R (Kd.int .u8) 5 w61 w.heap.size (fun k_ => some k_ ≠ (.slice (some ad146) x4_19.length co38 : Value).ownBlock) (.slice (some ⟨go58, 0, none⟩) x8_5.length co59) y149 := (by rw [hw, Ny149.out]; exact HP60.1); clear HP60; have n0_ := Aside0.mk (Kd.R_after (v := (.slice (some ⟨go58, 0, none⟩) x8_5.length co59)) (v1 := (.slice (some ⟨go58, 0, none⟩) x8_5.length co59)) (ok := (fun _ => True)) (by (with_reducible repeat (first | apply Kd.R_alloc | apply Kd.R_drewN | apply Kd.R_drew)); exact Kd.R_mono HO_4.out (fun _ hk => ⟨trivial, hk⟩)) hg (.inl rfl)); have n1_ := Aside0.mk (hp_); have n2_ := Aside0.mk ((by rw [hw]; exact below_set (HB.out) GB58.out : Below w.heap.size w w61)); clear HO_4; clear HO_8; clear HB; have HO_4 := n0_; have HO_8 := n1_; have HB := n2_; clear n0_ n1_ n2_; clear hg hw hp_))
                                                    go_roundg k5
                                                    case measure => have := HK1.out; have := HJ12.out; have := HJ19.out; have := HK4.out; have := HK5.out; omega
                                                    case rel => exact ⟨(y149), (wrap64 (x96_5 + 1)), (by first | rfl | (simp; done) | (simp [*]; done) | (simp [Go.Proofs.YtbobbbpjphkooaaDoor.G.isEmpty_ne]; done)), H', ⟨by have := HK1.out; have := HJ12.out; have := HJ19.out; have := HK4.out; have := HK5.out; omega⟩, ⟨by (with_reducible repeat (first | apply Kd.R_alloc | apply Kd.R_drewN | apply Kd.R_drew)); exact Kd.R_mono HO_4.out (fun _ hk => hk.2)⟩, ⟨by (with_reducible repeat (first | apply Kd.R_alloc | apply Kd.R_drewN | apply Kd.R_drew)); exact HO_8.out⟩, ⟨by repeat (first | (with_reducible first | exact HB.out | apply below_alloc | apply pw_below_drewN | apply below_drew1) | exact HB.out)⟩⟩
                                                  · rw [if_neg c56] at H
                                                    exact absurd H (by simp)
                                                · rw [if_neg c54] at H
                                                  exact absurd H (by simp)
                                              · rw [if_neg c53] at H
                                                exact absurd H (by simp)
                                            · rw [if_neg c51] at H
                                              have c51b0 : ((Go.bits .and .i64 (ji50) 1) == 1) = false := beq_eq_false_iff_ne.mpr c51
                                              have c51b1 : ((Go.bits .and .i64 (ji50) 1) != 1) = true := bne_iff_ne.mpr c51
                                              have H' := Aside0.mk H
                                              clear H
                                              obtain ⟨Ao62, co62, eo62⟩ := Kd.R_slice HO_8.out
                                              subst eo62
                                              go_wp2
                                              go_roundg k5
                                              case measure => have := HK1.out; have := HJ12.out; have := HJ19.out; have := HK4.out; have := HK5.out; omega
                                              case rel => exact ⟨(x8_5), (wrap64 (x96_5 + 1)), (by first | rfl | (simp; done) | (simp [*]; done) | (simp [Go.Proofs.YtbobbbpjphkooaaDoor.G.isEmpty_ne]; done)), H', ⟨by have := HK1.out; have := HJ12.out; have := HJ19.out; have := HK4.out; have := HK5.out; omega⟩, ⟨by (with_reducible repeat (first | apply Kd.R_alloc | apply Kd.R_drewN | apply Kd.R_drew)); exact HO_4.out⟩, ⟨by (with_reducible repeat (first | apply Kd.R_alloc | apply Kd.R_drewN | apply Kd.R_drew)); exact HO_8.out⟩, ⟨by repeat (first | (with_reducible first | exact HB.out | apply below_alloc | apply pw_below_drewN | apply below_drew1) | exact HB.out)⟩⟩
                                          · rw [if_neg c49] at H
                                            exact absurd H (by simp)
                                        · rw [if_neg c47] at H
                                          have c47b0 : decide ((wrap64 ((wrap64 (6 * x86_4)) + x96_5)) < (wrap64 (8 * (x8_5.length : Int)))) = false := decide_eq_false c47
                                          clear c47
                                          have H' := Aside0.mk H
                                          clear H
                                          obtain ⟨Ao63, co63, eo63⟩ := Kd.R_slice HO_8.out
                                          subst eo63
                                          go_wp2
                                          go_roundg k5
                                          case measure => have := HK1.out; have := HJ12.out; have := HJ19.out; have := HK4.out; have := HK5.out; omega
                                          case rel => exact ⟨(x8_5), (wrap64 (x96_5 + 1)), (by first | rfl | (simp; done) | (simp [*]; done) | (simp [Go.Proofs.YtbobbbpjphkooaaDoor.G.isEmpty_ne]; done)), H', ⟨by have := HK1.out; have := HJ12.out; have := HJ19.out; have := HK4.out; have := HK5.out; omega⟩, ⟨by (with_reducible repeat (first | apply Kd.R_alloc | apply Kd.R_drewN | apply Kd.R_drew)); exact HO_4.out⟩, ⟨by (with_reducible repeat (first | apply Kd.R_alloc | apply Kd.R_drewN | apply Kd.R_drew)); exact HO_8.out⟩, ⟨by repeat (first | (with_reducible first | exact HB.out | apply below_alloc | apply pw_below_drewN | apply below_drew1) | exact HB.out)⟩⟩
                                      · rw [if_neg c46] at H
                                        have c46b0 : decide (x96_5 < 6) = false := decide_eq_false c46
                                        clear c46
                                        have H' := Aside0.mk H
                                        clear H
                                        go_wp2
                                        go_roundg k5
                                        case measure => have := HK1.out; have := HJ12.out; have := HJ19.out; have := HK4.out; have := HK5.out; omega
                                        case rel => exact ⟨(x8_5), (wrap64 (x86_4 + 1)), (by first | rfl | (simp; done) | (simp [*]; done) | (simp [Go.Proofs.YtbobbbpjphkooaaDoor.G.isEmpty_ne]; done)), H', ⟨by have := HK1.out; have := HJ12.out; have := HJ19.out; have := HK4.out; have := HK5.out; omega⟩, ⟨by (with_reducible repeat (first | apply Kd.R_alloc | apply Kd.R_drewN | apply Kd.R_drew)); exact HO_4.out⟩, ⟨by (with_reducible repeat (first | apply Kd.R_alloc | apply Kd.R_drewN | apply Kd.R_drew)); exact HO_8.out⟩, ⟨by repeat (first | (with_reducible first | exact HB.out | apply below_alloc | apply pw_below_drewN | apply below_drew1) | exact HB.out)⟩⟩
                              · rw [if_neg c43] at H
                                exact absurd H (by simp)
                            · rw [if_neg c42] at H
                              exact absurd H (by simp)
                          · rw [if_neg c41] at H
                            have c41b0 : decide (x86_4 < (x4_19.length : Int)) = false := decide_eq_false c41
                            clear c41
                            simp only [Option.some.injEq, Prod.mk.injEq] at H
                            obtain ⟨rfl, rfl⟩ := H
                            go_wp2
                            go_ret2
                            exact ⟨_, by first | rfl | (simp [errW_none, errW_some] <;> rfl) | (simp only [← hji35]; first | rfl | (simp [errW_none, errW_some] <;> rfl)) | (simp [*, errW_none, errW_some] <;> rfl) | (simp [errW_none, errW_some, Go.Proofs.YtbobbbpjphkooaaDoor.G.isEmpty_ne]; done), by (with_reducible repeat (first | apply Kd.R_alloc | apply Kd.R_drewN | apply Kd.R_drew)); exact Kd.R_mono HO_8.out (fun _ hk => trivial), by repeat (first | (with_reducible first | exact HB.out | apply below_alloc | apply pw_below_drewN | apply below_drew1) | exact HB.out)⟩
                    · rw [if_neg c37] at H
                      exact absurd H (by simp)
                  · rw [if_neg c36] at H
                    exact absurd H (by simp)

end Go.Proofs.YtbobbbpjphkooaaDoor.P
