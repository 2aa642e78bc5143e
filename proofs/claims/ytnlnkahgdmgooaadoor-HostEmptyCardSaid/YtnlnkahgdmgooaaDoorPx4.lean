-- Written for this claim by a program of this session's (not a text of the kit's print).
import Derived.Test.YtnlnkahgdmgooaaDoorPx0
import Derived.Test.YtnlnkahgdmgooaaDoorPx1
import Derived.Test.YtnlnkahgdmgooaaDoorPx2
import Derived.Test.YtnlnkahgdmgooaaDoorPx3
namespace Go.Proofs.YtnlnkahgdmgooaaDoor.P
open Go.RowKit Go.Proofs.YtnlnkahgdmgooaaDoorW.PrintWords Go.Proofs.YtnlnkahgdmgooaaDoorW.PrintLast Go.Proofs.YtnlnkahgdmgooaaDoorW.PrintMore
attribute [local go_sem] max2_int min2_int max_two min_two max_three min_three max_four min_four   -- for this text's walks alone
set_option linter.unusedVariables false
set_option linter.unusedSimpArgs false

/-! ### quad_Parse: function 22 -/
mutual
def quad_Parse.l0 : Nat → List ByteArray → Int → List ByteArray → Int → Int → Option (Int × Bool)
  | 0, _, _, _, _, _ => none
  | k + 1, x4, x5, x16, x17, x18 => if x18 < x17 then (if 0 ≤ x18 then (if x18 < (x16.length : Int) then ((quad_number.f k (rdOf ByteArray.empty x16 x18)).bind fun bt135 => (if bt135.2 = true then (if (x18 = (wrap64 ((x4.length : Int) - 1))) then (if x18 = (wrap64 ((x4.length : Int) - 1)) then (if 0 ≤ (wrap64 (8 * (wrap64 (4 - x18)))) then (quad_Parse.j1 k x4 x5 x18 bt135.1 (x18 == (wrap64 ((x4.length : Int) - 1))) x16 x17 x18 (decide (bt135.1 ≥ (shl .u64 1 (wrap64 (8 * (wrap64 (4 - x18)))))))) else (none)) else (quad_Parse.j1 k x4 x5 x18 bt135.1 (x18 == (wrap64 ((x4.length : Int) - 1))) x16 x17 x18 false)) else (if bt135.1 > 255 then (quad_Parse.j1 k x4 x5 x18 bt135.1 (x18 == (wrap64 ((x4.length : Int) - 1))) x16 x17 x18 true) else (if x18 = (wrap64 ((x4.length : Int) - 1)) then (if 0 ≤ (wrap64 (8 * (wrap64 (4 - x18)))) then (quad_Parse.j1 k x4 x5 x18 bt135.1 (x18 == (wrap64 ((x4.length : Int) - 1))) x16 x17 x18 (decide (bt135.1 ≥ (shl .u64 1 (wrap64 (8 * (wrap64 (4 - x18)))))))) else (none)) else (quad_Parse.j1 k x4 x5 x18 bt135.1 (x18 == (wrap64 ((x4.length : Int) - 1))) x16 x17 x18 false)))) else (quad_Parse.j1 k x4 x5 x18 bt135.1 (x18 == (wrap64 ((x4.length : Int) - 1))) x16 x17 x18 true))) else (none)) else (none)) else (some ((x5) % 4294967296, true))
def quad_Parse.j1 : Nat → List ByteArray → Int → Int → Int → Bool → List ByteArray → Int → Int → Bool → Option (Int × Bool)
  | 0, _, _, _, _, _, _, _, _, _ => none
  | k + 1, x4, x5, x6, x8, x10, x16, x17, x18, x53 => if x53 = true then (some (0, false)) else (if x10 = true then (quad_Parse.l0 k x4 (IntKind.u64.wrap (x5 + x8)) x16 x17 (wrap64 (x18 + 1))) else (if 0 ≤ (wrap64 (8 * (wrap64 (3 - x6)))) then (quad_Parse.l0 k x4 (IntKind.u64.wrap (x5 + (shl .u64 x8 (wrap64 (8 * (wrap64 (3 - x6))))))) x16 x17 (wrap64 (x18 + 1))) else (none)))
end
def quad_Parse.f (k : Nat) (a0 : ByteArray) : Option (Int × Bool) := (quad_parts.f a0).bind fun t131 => (if (t131.length : Int) > 4 then (some (0, false)) else (quad_Parse.l0 k t131 0 t131 (t131.length : Int) 0))
theorem quad_Parse.mono_l : ∀ k, (∀ y0 y1 y2 y3 y4, LeO (quad_Parse.l0 k y0 y1 y2 y3 y4) (quad_Parse.l0 (k + 1) y0 y1 y2 y3 y4)) ∧ (∀ y0 y1 y2 y3 y4 y5 y6 y7 y8, LeO (quad_Parse.j1 k y0 y1 y2 y3 y4 y5 y6 y7 y8) (quad_Parse.j1 (k + 1) y0 y1 y2 y3 y4 y5 y6 y7 y8))
  | 0 => ⟨fun _ _ _ _ _ r h => by simp [quad_Parse.l0] at h, fun _ _ _ _ _ _ _ _ _ r h => by simp [quad_Parse.j1] at h⟩
  | k + 1 => by
    obtain ⟨ih0, ih1⟩ := quad_Parse.mono_l k
    refine ⟨?_, ?_⟩
    · intro y0 y1 y2 y3 y4
      unfold quad_Parse.l0
      repeat' first
      | (with_reducible exact ih0 _ _ _ _ _)
      | (with_reducible exact ih1 _ _ _ _ _ _ _ _ _)
      | (with_reducible exact quad_number.mono _ _)
      | (with_reducible exact LeO.refl _)
      | (with_reducible exact LeO.none _)
      | (with_reducible refine LeO.ite ?_ ?_)
      | (with_reducible refine LeO.bind ?_ (fun _ => ?_))
      | exact ih0 _ _ _ _ _
      | exact ih1 _ _ _ _ _ _ _ _ _
      | exact quad_number.mono _ _
      | exact LeO.none _
      | refine LeO.ite ?_ ?_
      | refine LeO.bind ?_ (fun _ => ?_)
    · intro y0 y1 y2 y3 y4 y5 y6 y7 y8
      unfold quad_Parse.j1
      repeat' first
      | (with_reducible exact ih0 _ _ _ _ _)
      | (with_reducible exact ih1 _ _ _ _ _ _ _ _ _)
      | (with_reducible exact quad_number.mono _ _)
      | (with_reducible exact LeO.refl _)
      | (with_reducible exact LeO.none _)
      | (with_reducible refine LeO.ite ?_ ?_)
      | (with_reducible refine LeO.bind ?_ (fun _ => ?_))
      | exact ih0 _ _ _ _ _
      | exact ih1 _ _ _ _ _ _ _ _ _
      | exact quad_number.mono _ _
      | exact LeO.none _
      | refine LeO.ite ?_ ?_
      | refine LeO.bind ?_ (fun _ => ?_)
theorem quad_Parse.mono : ∀ a0 k, LeO (quad_Parse.f k a0) (quad_Parse.f (k + 1) a0) := by
  intro a0 k
  obtain ⟨ih0, ih1⟩ := quad_Parse.mono_l k
  unfold quad_Parse.f
  repeat' first
      | (with_reducible exact ih0 _ _ _ _ _)
      | (with_reducible exact ih1 _ _ _ _ _ _ _ _ _)
      | (with_reducible exact quad_number.mono _ _)
      | (with_reducible exact LeO.refl _)
      | (with_reducible exact LeO.none _)
      | (with_reducible refine LeO.ite ?_ ?_)
      | (with_reducible refine LeO.bind ?_ (fun _ => ?_))
      | exact ih0 _ _ _ _ _
      | exact ih1 _ _ _ _ _ _ _ _ _
      | exact quad_number.mono _ _
      | exact LeO.none _
      | refine LeO.ite ?_ ?_
      | refine LeO.bind ?_ (fun _ => ?_)
set_option maxHeartbeats 8000000 in
set_option maxRecDepth 100000 in
theorem quad_Parse.calls (k : Nat) (a0 : ByteArray) (r1 : Int) (r2 : Bool) (w : World) (h : quad_Parse.f k a0 = some (r1, r2)) (hT : Go.Proofs.YtnlnkahgdmgooaaDoor.G.T w) :
    Calls Tryd.prog 22 #[.string a0] w fun e w' => e = .returned (.tuple #[.int .u32 r1, .bool r2]) ∧ Below w.heap.size w w' := by
  have HT := Aside0.mk hT
  clear hT
  have HB := Aside0.mk (Below.refl w.heap.size w)
  have H : ((quad_parts.f a0).bind fun t131 => (if (t131.length : Int) > 4 then (some (0, false)) else (quad_Parse.l0 k t131 0 t131 (t131.length : Int) 0))) = some (r1, r2) := h
  clear h
  replace H := Option.bind_eq_some_iff.mp H
  obtain ⟨t131, A20, H⟩ := H
  replace H : (if (t131.length : Int) > 4 then (some (0, false)) else (quad_Parse.l0 k t131 0 t131 (t131.length : Int) 0)) = some (r1, r2) := H
  have A2 := Aside0.mk A20
  clear A20
  by_cases c3 : (t131.length : Int) > 4
  · rw [if_pos c3] at H
    have c3b0 : decide (4 < (t131.length : Int)) = true := decide_eq_true c3
    have c3b1 : decide (4 < t131.length) = true := decide_eq_true (by omega)
    clear c3
    simp only [Option.some.injEq, Prod.mk.injEq] at H
    obtain ⟨rfl, rfl⟩ := H
    go_enter Tryd.func22, Tryd.ntmps22
    go_wp2_with (first | ((with_reducible refine gate_callee (f := 36) rfl ?_); refine goesL_ (some 12) rfl rfl Tryd.func36 (by kernel_rfl) rfl #[.string a0] rfl (by (try simp only [List.map_toArray, List.map_cons, List.map_nil]); first | done | rfl | (simp only [List.length_drop, List.length_take]; rfl)) ?_; (with_reducible refine (quad_parts.calls a0 t131 _ A2.out (Go.Proofs.YtnlnkahgdmgooaaDoor.G.T_below HT.out (by repeat (first | (with_reducible first | exact HB.out | apply below_alloc | apply pw_below_drewN | apply below_drew1) | exact HB.out)))).mono ?_); rintro e w4 ⟨v132, rfl, ho0, hb⟩; refine ⟨_, rfl, ?_⟩; have n0_ := Aside0.mk (Kd.R_lower ho0 (below_size (by repeat (first | (with_reducible first | exact HB.out | apply below_alloc | apply pw_below_drewN | apply below_drew1) | exact HB.out)))); have n1_ := Aside0.mk (below_step (by repeat (first | (with_reducible first | exact HB.out | apply below_alloc | apply pw_below_drewN | apply below_drew1) | exact HB.out)) hb); clear HB; have HO133 := n0_; have HB := n1_; clear n0_ n1_; (try clear hb); (try clear hb2); (try clear hk); (try clear hi); (try clear ho0); obtain ⟨Ao5, co5, eo5⟩ := Kd.R_slice HO133.out; subst eo5))
    go_ret2
    exact ⟨by first | rfl | (simp [errW_none, errW_some] <;> rfl) | (simp [*, errW_none, errW_some] <;> rfl) | (simp [errW_none, errW_some, Go.Proofs.YtnlnkahgdmgooaaDoor.G.isEmpty_ne]; done), by repeat (first | (with_reducible first | exact HB.out | apply below_alloc | apply pw_below_drewN | apply below_drew1) | exact HB.out)⟩
  · rw [if_neg c3] at H
    have c3b0 : decide (4 < (t131.length : Int)) = false := decide_eq_false c3
    have c3b1 : decide (4 < t131.length) = false := decide_eq_false (by omega)
    clear c3
    have H' := Aside0.mk H
    clear H
    go_enter Tryd.func22, Tryd.ntmps22
    go_wp2_with (first | ((with_reducible refine gate_callee (f := 36) rfl ?_); refine goesL_ (some 12) rfl rfl Tryd.func36 (by kernel_rfl) rfl #[.string a0] rfl (by (try simp only [List.map_toArray, List.map_cons, List.map_nil]); first | done | rfl | (simp only [List.length_drop, List.length_take]; rfl)) ?_; (with_reducible refine (quad_parts.calls a0 t131 _ A2.out (Go.Proofs.YtnlnkahgdmgooaaDoor.G.T_below HT.out (by repeat (first | (with_reducible first | exact HB.out | apply below_alloc | apply pw_below_drewN | apply below_drew1) | exact HB.out)))).mono ?_); rintro e w6 ⟨v132, rfl, ho0, hb⟩; refine ⟨_, rfl, ?_⟩; have n0_ := Aside0.mk (Kd.R_lower ho0 (below_size (by repeat (first | (with_reducible first | exact HB.out | apply below_alloc | apply pw_below_drewN | apply below_drew1) | exact HB.out)))); have n1_ := Aside0.mk (below_step (by repeat (first | (with_reducible first | exact HB.out | apply below_alloc | apply pw_below_drewN | apply below_drew1) | exact HB.out)) hb); clear HB; have HO133 := n0_; have HB := n1_; clear n0_ n1_; (try clear hb); (try clear hb2); (try clear hk); (try clear hi); (try clear ho0); obtain ⟨Ao7, co7, eo7⟩ := Kd.R_slice HO133.out; subst eo7))
    go_loopg [5, 18] k (fun kq v5 v18 w' => ∃ (x5_1 : Int) (x18_1 : Int), v5 = .int .u64 x5_1 ∧ v18 = .int .i64 x18_1 ∧ Aside0 (quad_Parse.l0 kq t131 x5_1 t131 (t131.length : Int) x18_1 = some (r1, r2)) ∧ Aside0 (kq ≤ k) ∧ Aside0 (Kd.R Kd.string 9 w' w.heap.size (fun _ => True) (.slice Ao7 t131.length co7) t131) ∧ Aside0 (Kd.R Kd.string 9 w' w.heap.size (fun _ => True) (.slice Ao7 t131.length co7) t131) ∧ Aside0 (Below w.heap.size w w'))
    case atStart => exact ⟨(0), (0), (by first | rfl | (simp; done) | (simp [*]; done) | (simp [Go.Proofs.YtnlnkahgdmgooaaDoor.G.isEmpty_ne]; done)), (by first | rfl | (simp; done) | (simp [*]; done) | (simp [Go.Proofs.YtnlnkahgdmgooaaDoor.G.isEmpty_ne]; done)), H', ⟨Nat.le_refl _⟩, ⟨by (with_reducible repeat (first | apply Kd.R_alloc | apply Kd.R_drewN | apply Kd.R_drew)); exact HO133.out⟩, ⟨by (with_reducible repeat (first | apply Kd.R_alloc | apply Kd.R_drewN | apply Kd.R_drew)); exact HO133.out⟩, ⟨by repeat (first | (with_reducible first | exact HB.out | apply below_alloc | apply pw_below_drewN | apply below_drew1) | exact HB.out)⟩⟩
    case round =>
      clear H'
      try clear c2
      try clear p2
      try clear c3
      try clear c3b0
      try clear c3b1
      obtain ⟨x5_1, x18_1, rfl, rfl, HA, HK1, HO_4, HO_16, HB⟩ := hrel
      cases gk with
      | zero => exact absurd HA.out (by simp [quad_Parse.l0])
      | succ k1 =>
        have H := HA.out
        clear HA
        simp only [quad_Parse.l0] at H
        by_cases c8 : x18_1 < (t131.length : Int)
        · rw [if_pos c8] at H
          have c8b0 : decide (x18_1 < (t131.length : Int)) = true := decide_eq_true c8
          clear c8
          by_cases c9 : 0 ≤ x18_1
          · rw [if_pos c9] at H
            have c9b0 : decide (0 ≤ x18_1) = true := decide_eq_true c9
            clear c9
            by_cases c10 : x18_1 < (t131.length : Int)
            · rw [if_pos c10] at H
              have c10b0 : decide (x18_1 < (t131.length : Int)) = true := decide_eq_true c10
              clear c10
              replace H := Option.bind_eq_some_iff.mp H
              obtain ⟨⟨t135, t136⟩, A110, H⟩ := H
              replace H : (if t136 = true then (if (x18_1 = (wrap64 ((t131.length : Int) - 1))) then (if x18_1 = (wrap64 ((t131.length : Int) - 1)) then (if 0 ≤ (wrap64 (8 * (wrap64 (4 - x18_1)))) then (quad_Parse.j1 k1 t131 x5_1 x18_1 t135 (x18_1 == (wrap64 ((t131.length : Int) - 1))) t131 (t131.length : Int) x18_1 (decide (t135 ≥ (shl .u64 1 (wrap64 (8 * (wrap64 (4 - x18_1)))))))) else (none)) else (quad_Parse.j1 k1 t131 x5_1 x18_1 t135 (x18_1 == (wrap64 ((t131.length : Int) - 1))) t131 (t131.length : Int) x18_1 false)) else (if t135 > 255 then (quad_Parse.j1 k1 t131 x5_1 x18_1 t135 (x18_1 == (wrap64 ((t131.length : Int) - 1))) t131 (t131.length : Int) x18_1 true) else (if x18_1 = (wrap64 ((t131.length : Int) - 1)) then (if 0 ≤ (wrap64 (8 * (wrap64 (4 - x18_1)))) then (quad_Parse.j1 k1 t131 x5_1 x18_1 t135 (x18_1 == (wrap64 ((t131.length : Int) - 1))) t131 (t131.length : Int) x18_1 (decide (t135 ≥ (shl .u64 1 (wrap64 (8 * (wrap64 (4 - x18_1)))))))) else (none)) else (quad_Parse.j1 k1 t131 x5_1 x18_1 t135 (x18_1 == (wrap64 ((t131.length : Int) - 1))) t131 (t131.length : Int) x18_1 false)))) else (quad_Parse.j1 k1 t131 x5_1 x18_1 t135 (x18_1 == (wrap64 ((t131.length : Int) - 1))) t131 (t131.length : Int) x18_1 true)) = some (r1, r2) := H
              have A11 := Aside0.mk A110
              clear A110
              have HC12 := Aside0.mk H
              clear H
              have p134 : 0 ≤ (x18_1 : Int) := of_decide_eq_true (by first | (with_reducible assumption) | assumption)
              have q134 : x18_1 < (t131.length : Int) := of_decide_eq_true (by first | (with_reducible assumption) | assumption)
              obtain ⟨ad134, e134, hx134_0⟩ := Kd.at_string (Kd.R_reads' HO_16.out).2.2 x18_1 p134 q134
              cases e134
              replace p134 := eq_true p134
              replace q134 := eq_true q134
              go_upto_region 10 with (first | ((with_reducible refine gate_callee (f := 38) rfl ?_); refine goesL_ (some 25) rfl rfl Tryd.func38 (by kernel_rfl) rfl #[.string (rdOf ByteArray.empty t131 x18_1)] rfl (by (try simp only [List.map_toArray, List.map_cons, List.map_nil]); first | done | rfl | (simp only [List.length_drop, List.length_take]; rfl)) ?_; (with_reducible refine (quad_number.calls k1 (rdOf ByteArray.empty t131 x18_1) t135 t136 _ A11.out).mono ?_); rintro e w13 ⟨rfl, hb⟩; refine ⟨_, rfl, ?_⟩; have n0_ := Aside0.mk (Kd.R_below (by (with_reducible repeat (first | apply Kd.R_alloc | apply Kd.R_drewN | apply Kd.R_drew)); exact HO_4.out) hb); have n1_ := Aside0.mk (Kd.R_below (by (with_reducible repeat (first | apply Kd.R_alloc | apply Kd.R_drewN | apply Kd.R_drew)); exact HO_16.out) hb); have n2_ := Aside0.mk (below_step (by repeat (first | (with_reducible first | exact HB.out | apply below_alloc | apply pw_below_drewN | apply below_drew1) | exact HB.out)) hb); clear HO_4; clear HO_16; clear HB; have HO_4 := n0_; have HO_16 := n1_; have HB := n2_; clear n0_ n1_ n2_; (try clear hb); (try clear hb2); (try clear hk); (try clear hi)))
              (try simp only [Act.put, List.setIfInBounds_toArray, List.set_cons_zero, List.set_cons_succ])
              go_cut [10, 53] (fun v10 v53 wc => ∃ (kq : Nat) (x53_11 : Bool), v10 = .bool (x18_1 == (wrap64 ((t131.length : Int) - 1))) ∧ v53 = .bool x53_11 ∧ Aside0 (quad_Parse.j1 kq t131 x5_1 x18_1 t135 (x18_1 == (wrap64 ((t131.length : Int) - 1))) t131 (t131.length : Int) x18_1 x53_11 = some (r1, r2)) ∧ Aside0 (kq ≤ k1) ∧ Aside0 (Kd.R Kd.string 9 wc w.heap.size (fun _ => True) (.slice (some ad134) t131.length co7) t131) ∧ Aside0 (Kd.R Kd.string 9 wc w.heap.size (fun _ => True) (.slice (some ad134) t131.length co7) t131) ∧ Aside0 (Below w.heap.size w wc))
              case first =>
                have H := HC12.out
                clear HC12
                by_cases c14 : t136 = true
                · subst c14
                  have H1 : (if (x18_1 = (wrap64 ((t131.length : Int) - 1))) then (if x18_1 = (wrap64 ((t131.length : Int) - 1)) then (if 0 ≤ (wrap64 (8 * (wrap64 (4 - x18_1)))) then (quad_Parse.j1 k1 t131 x5_1 x18_1 t135 (x18_1 == (wrap64 ((t131.length : Int) - 1))) t131 (t131.length : Int) x18_1 (decide (t135 ≥ (shl .u64 1 (wrap64 (8 * (wrap64 (4 - x18_1)))))))) else (none)) else (quad_Parse.j1 k1 t131 x5_1 x18_1 t135 (x18_1 == (wrap64 ((t131.length : Int) - 1))) t131 (t131.length : Int) x18_1 false)) else (if t135 > 255 then (quad_Parse.j1 k1 t131 x5_1 x18_1 t135 (x18_1 == (wrap64 ((t131.length : Int) - 1))) t131 (t131.length : Int) x18_1 true) else (if x18_1 = (wrap64 ((t131.length : Int) - 1)) then (if 0 ≤ (wrap64 (8 * (wrap64 (4 - x18_1)))) then (quad_Parse.j1 k1 t131 x5_1 x18_1 t135 (x18_1 == (wrap64 ((t131.length : Int) - 1))) t131 (t131.length : Int) x18_1 (decide (t135 ≥ (shl .u64 1 (wrap64 (8 * (wrap64 (4 - x18_1)))))))) else (none)) else (quad_Parse.j1 k1 t131 x5_1 x18_1 t135 (x18_1 == (wrap64 ((t131.length : Int) - 1))) t131 (t131.length : Int) x18_1 false)))) = some (r1, r2) := by rw [if_pos rfl] at H; exact H
                  clear H
                  have H := H1
                  clear H1
                  by_cases c15 : (x18_1 = (wrap64 ((t131.length : Int) - 1)))
                  · rw [if_pos c15] at H
                    have c15b0 : (x18_1 == (wrap64 ((t131.length : Int) - 1))) = true := beq_iff_eq.mpr c15
                    have c15b1 : (x18_1 != (wrap64 ((t131.length : Int) - 1))) = false := bne_eq_false_iff_eq.mpr c15
                    clear c15
                    (first | rw [c15b0] | (simp only [i64_w, i32_w]; rw [c15b0]) | skip)
                    by_cases c16 : x18_1 = (wrap64 ((t131.length : Int) - 1))
                    · rw [if_pos c16] at H
                      have c16b0 : (x18_1 == (wrap64 ((t131.length : Int) - 1))) = true := beq_iff_eq.mpr c16
                      have c16b1 : (x18_1 != (wrap64 ((t131.length : Int) - 1))) = false := bne_eq_false_iff_eq.mpr c16
                      clear c16
                      obtain ⟨ji17, hji17⟩ : ∃ j_ : Int, (wrap64 (8 * (wrap64 (4 - x18_1)))) = j_ := ⟨_, rfl⟩
                      replace H : (if 0 ≤ (ji17) then (quad_Parse.j1 k1 t131 x5_1 x18_1 t135 (x18_1 == (wrap64 ((t131.length : Int) - 1))) t131 (t131.length : Int) x18_1 (decide (t135 ≥ (shl .u64 1 (ji17))))) else (none)) = some (r1, r2) := by first | (rw [hji17] at H; exact H) | (simp only [hji17] at H ⊢; exact H)
                      have hji17w : (IntKind.i64.wrap (8 * (wrap64 (4 - x18_1)))) = ji17 := (i64_w _).trans hji17
                      by_cases c18 : 0 ≤ (ji17)
                      · rw [if_pos c18] at H
                        have c18b0 := eq_true c18
                        have c18b1 : decide (0 ≤ (ji17)) = true := decide_eq_true c18
                        clear c18
                        obtain ⟨ji19, hji19⟩ : ∃ j_ : Int, (shl .u64 1 (ji17)) = j_ := ⟨_, rfl⟩
                        replace H : (quad_Parse.j1 k1 t131 x5_1 x18_1 t135 (x18_1 == (wrap64 ((t131.length : Int) - 1))) t131 (t131.length : Int) x18_1 (decide (t135 ≥ (ji19)))) = some (r1, r2) := by first | (rw [hji19] at H; exact H) | (simp only [hji19] at H ⊢; exact H)
                        have hji19_ : (IntKind.u64.wrap (1 * 2 ^ min (ji17).toNat 64)) = ji19 := hji19
                        have hji19z : (ji17) ≤ 64 → (IntKind.u64.wrap (1 * 2 ^ (ji17).toNat)) = ji19 := shl_small hji19
                        have hji19u : (IntKind.u64.wrap (2 ^ min (ji17).toNat 64)) = ji19 := by have h_ := hji19_; rw [Int.one_mul] at h_; exact h_
                        have hji19v : (ji17) ≤ 64 → (IntKind.u64.wrap (2 ^ (ji17).toNat)) = ji19 := fun hle_ => by have h_ := hji19z hle_; rw [Int.one_mul] at h_; exact h_
                        have H' := Aside0.mk H
                        clear H
                        go_wp2
                        go_meet
                        case rel => exact ⟨_, (decide (t135 ≥ (ji19))), (by first | rfl | (simp; done) | (simp [*]; done) | (exact absurd (Eq.trans (Eq.symm (by assumption : (x18_1 == (wrap64 ((t131.length : Int) - 1))) = true)) (by assumption : (x18_1 == (wrap64 ((t131.length : Int) - 1))) = false)) (by decide))), (by first | rfl | (simp; done) | (simp only [← hji19] <;> (first | rfl | (simp; done))) | (simp only [← hji19]; simp [Go.Proofs.YtnlnkahgdmgooaaDoor.G.isEmpty_ne]; done) | (simp [*]; done) | (simp [Go.Proofs.YtnlnkahgdmgooaaDoor.G.isEmpty_ne]; done) | (exact absurd (Eq.trans (Eq.symm (by assumption : (x18_1 == (wrap64 ((t131.length : Int) - 1))) = true)) (by assumption : (x18_1 == (wrap64 ((t131.length : Int) - 1))) = false)) (by decide))), H', ⟨by have := HK1.out; first | omega | exact Nat.le_refl _⟩, ⟨by (with_reducible repeat (first | apply Kd.R_alloc | apply Kd.R_drewN | apply Kd.R_drew)); exact HO_4.out⟩, ⟨by (with_reducible repeat (first | apply Kd.R_alloc | apply Kd.R_drewN | apply Kd.R_drew)); exact HO_16.out⟩, ⟨by repeat (first | (with_reducible first | exact HB.out | apply below_alloc | apply pw_below_drewN | apply below_drew1) | exact HB.out)⟩⟩
                      · rw [if_neg c18] at H
                        exact absurd H (by simp)
                    · rw [if_neg c16] at H
                      have c16b0 : (x18_1 == (wrap64 ((t131.length : Int) - 1))) = false := beq_eq_false_iff_ne.mpr c16
                      have c16b1 : (x18_1 != (wrap64 ((t131.length : Int) - 1))) = true := bne_iff_ne.mpr c16
                      have H' := Aside0.mk H
                      clear H
                      go_wp2
                      go_meet
                      case rel => exact ⟨_, (false), (by first | rfl | (simp; done) | (simp [*]; done) | (exact absurd (Eq.trans (Eq.symm (by assumption : (x18_1 == (wrap64 ((t131.length : Int) - 1))) = true)) (by assumption : (x18_1 == (wrap64 ((t131.length : Int) - 1))) = false)) (by decide))), (by first | rfl | (simp; done) | (simp [*]; done) | (simp [Go.Proofs.YtnlnkahgdmgooaaDoor.G.isEmpty_ne]; done) | (exact absurd (Eq.trans (Eq.symm (by assumption : (x18_1 == (wrap64 ((t131.length : Int) - 1))) = true)) (by assumption : (x18_1 == (wrap64 ((t131.length : Int) - 1))) = false)) (by decide))), H', ⟨by have := HK1.out; first | omega | exact Nat.le_refl _⟩, ⟨by (with_reducible repeat (first | apply Kd.R_alloc | apply Kd.R_drewN | apply Kd.R_drew)); exact HO_4.out⟩, ⟨by (with_reducible repeat (first | apply Kd.R_alloc | apply Kd.R_drewN | apply Kd.R_drew)); exact HO_16.out⟩, ⟨by repeat (first | (with_reducible first | exact HB.out | apply below_alloc | apply pw_below_drewN | apply below_drew1) | exact HB.out)⟩⟩
                  · rw [if_neg c15] at H
                    have c15b0 : (x18_1 == (wrap64 ((t131.length : Int) - 1))) = false := beq_eq_false_iff_ne.mpr c15
                    have c15b1 : (x18_1 != (wrap64 ((t131.length : Int) - 1))) = true := bne_iff_ne.mpr c15
                    (first | rw [c15b0] | (simp only [i64_w, i32_w]; rw [c15b0]) | skip)
                    by_cases c20 : t135 > 255
                    · rw [if_pos c20] at H
                      have c20b0 : decide (255 < t135) = true := decide_eq_true c20
                      clear c20
                      have H' := Aside0.mk H
                      clear H
                      go_wp2
                      go_meet
                      case rel => exact ⟨_, (true), (by first | rfl | (simp; done) | (simp [*]; done) | (exact absurd (Eq.trans (Eq.symm (by assumption : (x18_1 == (wrap64 ((t131.length : Int) - 1))) = true)) (by assumption : (x18_1 == (wrap64 ((t131.length : Int) - 1))) = false)) (by decide))), (by first | rfl | (simp; done) | (simp [*]; done) | (simp [Go.Proofs.YtnlnkahgdmgooaaDoor.G.isEmpty_ne]; done) | (exact absurd (Eq.trans (Eq.symm (by assumption : (x18_1 == (wrap64 ((t131.length : Int) - 1))) = true)) (by assumption : (x18_1 == (wrap64 ((t131.length : Int) - 1))) = false)) (by decide))), H', ⟨by have := HK1.out; first | omega | exact Nat.le_refl _⟩, ⟨by (with_reducible repeat (first | apply Kd.R_alloc | apply Kd.R_drewN | apply Kd.R_drew)); exact HO_4.out⟩, ⟨by (with_reducible repeat (first | apply Kd.R_alloc | apply Kd.R_drewN | apply Kd.R_drew)); exact HO_16.out⟩, ⟨by repeat (first | (with_reducible first | exact HB.out | apply below_alloc | apply pw_below_drewN | apply below_drew1) | exact HB.out)⟩⟩
                    · rw [if_neg c20] at H
                      have c20b0 : decide (255 < t135) = false := decide_eq_false c20
                      clear c20
                      by_cases c21 : x18_1 = (wrap64 ((t131.length : Int) - 1))
                      · rw [if_pos c21] at H
                        have c21b0 : (x18_1 == (wrap64 ((t131.length : Int) - 1))) = true := beq_iff_eq.mpr c21
                        have c21b1 : (x18_1 != (wrap64 ((t131.length : Int) - 1))) = false := bne_eq_false_iff_eq.mpr c21
                        clear c21
                        obtain ⟨ji22, hji22⟩ : ∃ j_ : Int, (wrap64 (8 * (wrap64 (4 - x18_1)))) = j_ := ⟨_, rfl⟩
                        replace H : (if 0 ≤ (ji22) then (quad_Parse.j1 k1 t131 x5_1 x18_1 t135 (x18_1 == (wrap64 ((t131.length : Int) - 1))) t131 (t131.length : Int) x18_1 (decide (t135 ≥ (shl .u64 1 (ji22))))) else (none)) = some (r1, r2) := by first | (rw [hji22] at H; exact H) | (simp only [hji22] at H ⊢; exact H)
                        have hji22w : (IntKind.i64.wrap (8 * (wrap64 (4 - x18_1)))) = ji22 := (i64_w _).trans hji22
                        by_cases c23 : 0 ≤ (ji22)
                        · rw [if_pos c23] at H
                          have c23b0 := eq_true c23
                          have c23b1 : decide (0 ≤ (ji22)) = true := decide_eq_true c23
                          clear c23
                          obtain ⟨ji24, hji24⟩ : ∃ j_ : Int, (shl .u64 1 (ji22)) = j_ := ⟨_, rfl⟩
                          replace H : (quad_Parse.j1 k1 t131 x5_1 x18_1 t135 (x18_1 == (wrap64 ((t131.length : Int) - 1))) t131 (t131.length : Int) x18_1 (decide (t135 ≥ (ji24)))) = some (r1, r2) := by first | (rw [hji24] at H; exact H) | (simp only [hji24] at H ⊢; exact H)
                          have hji24_ : (IntKind.u64.wrap (1 * 2 ^ min (ji22).toNat 64)) = ji24 := hji24
                          have hji24z : (ji22) ≤ 64 → (IntKind.u64.wrap (1 * 2 ^ (ji22).toNat)) = ji24 := shl_small hji24
                          have hji24u : (IntKind.u64.wrap (2 ^ min (ji22).toNat 64)) = ji24 := by have h_ := hji24_; rw [Int.one_mul] at h_; exact h_
                          have hji24v : (ji22) ≤ 64 → (IntKind.u64.wrap (2 ^ (ji22).toNat)) = ji24 := fun hle_ => by have h_ := hji24z hle_; rw [Int.one_mul] at h_; exact h_
                          have H' := Aside0.mk H
                          clear H
                          go_wp2
                          go_meet
                          case rel => exact ⟨_, (decide (t135 ≥ (ji24))), (by first | rfl | (simp; done) | (simp [*]; done) | (exact absurd (Eq.trans (Eq.symm (by assumption : (x18_1 == (wrap64 ((t131.length : Int) - 1))) = true)) (by assumption : (x18_1 == (wrap64 ((t131.length : Int) - 1))) = false)) (by decide))), (by first | rfl | (simp; done) | (simp only [← hji24] <;> (first | rfl | (simp; done))) | (simp only [← hji24]; simp [Go.Proofs.YtnlnkahgdmgooaaDoor.G.isEmpty_ne]; done) | (simp [*]; done) | (simp [Go.Proofs.YtnlnkahgdmgooaaDoor.G.isEmpty_ne]; done) | (exact absurd (Eq.trans (Eq.symm (by assumption : (x18_1 == (wrap64 ((t131.length : Int) - 1))) = true)) (by assumption : (x18_1 == (wrap64 ((t131.length : Int) - 1))) = false)) (by decide))), H', ⟨by have := HK1.out; first | omega | exact Nat.le_refl _⟩, ⟨by (with_reducible repeat (first | apply Kd.R_alloc | apply Kd.R_drewN | apply Kd.R_drew)); exact HO_4.out⟩, ⟨by (with_reducible repeat (first | apply Kd.R_alloc | apply Kd.R_drewN | apply Kd.R_drew)); exact HO_16.out⟩, ⟨by repeat (first | (with_reducible first | exact HB.out | apply below_alloc | apply pw_below_drewN | apply below_drew1) | exact HB.out)⟩⟩
                        · rw [if_neg c23] at H
                          exact absurd H (by simp)
                      · rw [if_neg c21] at H
                        have c21b0 : (x18_1 == (wrap64 ((t131.length : Int) - 1))) = false := beq_eq_false_iff_ne.mpr c21
                        have c21b1 : (x18_1 != (wrap64 ((t131.length : Int) - 1))) = true := bne_iff_ne.mpr c21
                        have H' := Aside0.mk H
                        clear H
                        go_wp2
                        go_meet
                        case rel => exact ⟨_, (false), (by first | rfl | (simp; done) | (simp [*]; done) | (exact absurd (Eq.trans (Eq.symm (by assumption : (x18_1 == (wrap64 ((t131.length : Int) - 1))) = true)) (by assumption : (x18_1 == (wrap64 ((t131.length : Int) - 1))) = false)) (by decide))), (by first | rfl | (simp; done) | (simp [*]; done) | (simp [Go.Proofs.YtnlnkahgdmgooaaDoor.G.isEmpty_ne]; done) | (exact absurd (Eq.trans (Eq.symm (by assumption : (x18_1 == (wrap64 ((t131.length : Int) - 1))) = true)) (by assumption : (x18_1 == (wrap64 ((t131.length : Int) - 1))) = false)) (by decide))), H', ⟨by have := HK1.out; first | omega | exact Nat.le_refl _⟩, ⟨by (with_reducible repeat (first | apply Kd.R_alloc | apply Kd.R_drewN | apply Kd.R_drew)); exact HO_4.out⟩, ⟨by (with_reducible repeat (first | apply Kd.R_alloc | apply Kd.R_drewN | apply Kd.R_drew)); exact HO_16.out⟩, ⟨by repeat (first | (with_reducible first | exact HB.out | apply below_alloc | apply pw_below_drewN | apply below_drew1) | exact HB.out)⟩⟩
                · replace c14 := Bool.eq_false_iff.mpr c14
                  subst c14
                  have H1 : (quad_Parse.j1 k1 t131 x5_1 x18_1 t135 (x18_1 == (wrap64 ((t131.length : Int) - 1))) t131 (t131.length : Int) x18_1 true) = some (r1, r2) := by rw [if_neg (show ¬ (false = true) by decide)] at H; exact H
                  clear H
                  have H := H1
                  clear H1
                  have H' := Aside0.mk H
                  clear H
                  go_wp2
                  go_meet
                  case rel => exact ⟨_, (true), (by first | rfl | (simp; done) | (simp [*]; done) | (exact absurd (Eq.trans (Eq.symm (by assumption : (x18_1 == (wrap64 ((t131.length : Int) - 1))) = true)) (by assumption : (x18_1 == (wrap64 ((t131.length : Int) - 1))) = false)) (by decide))), (by first | rfl | (simp; done) | (simp [*]; done) | (simp [Go.Proofs.YtnlnkahgdmgooaaDoor.G.isEmpty_ne]; done) | (exact absurd (Eq.trans (Eq.symm (by assumption : (x18_1 == (wrap64 ((t131.length : Int) - 1))) = true)) (by assumption : (x18_1 == (wrap64 ((t131.length : Int) - 1))) = false)) (by decide))), H', ⟨by have := HK1.out; first | omega | exact Nat.le_refl _⟩, ⟨by (with_reducible repeat (first | apply Kd.R_alloc | apply Kd.R_drewN | apply Kd.R_drew)); exact HO_4.out⟩, ⟨by (with_reducible repeat (first | apply Kd.R_alloc | apply Kd.R_drewN | apply Kd.R_drew)); exact HO_16.out⟩, ⟨by repeat (first | (with_reducible first | exact HB.out | apply below_alloc | apply pw_below_drewN | apply below_drew1) | exact HB.out)⟩⟩
              case rest =>
                clear HC12
                try clear c1
                try clear p1
                try clear q1
                try clear hx1
                try clear c2
                try clear p2
                try clear c3
                try clear c3b0
                try clear c3b1
                try clear p6
                try clear c8
                try clear c8b0
                try clear c9
                try clear c9b0
                try clear c10
                try clear c10b0
                try clear p13
                try clear q13
                try clear hx13
                try clear c14
                try clear c15
                try clear c15b0
                try clear c15b1
                try clear c16
                try clear c16b0
                try clear c16b1
                try clear c18
                try clear c18b0
                try clear c18b1
                try clear c20
                try clear c20b0
                try clear c21
                try clear c21b0
                try clear c21b1
                try clear c22
                try clear c23
                try clear c23b0
                try clear c23b1
                try clear hx134_0
                try clear p134
                try clear p2
                try clear q134
                obtain ⟨kq, x53_11, rfl, rfl, HA, HJ11, HO_4, HO_16, HB⟩ := hcut
                cases kq with
                | zero => exact absurd HA.out (by simp [quad_Parse.j1])
                | succ kj11 =>
                  have H := HA.out
                  clear HA
                  simp only [quad_Parse.j1] at H
                  by_cases c25 : x53_11 = true
                  · subst c25
                    have H1 : (some (0, false)) = some (r1, r2) := by rw [if_pos rfl] at H; exact H
                    clear H
                    have H := H1
                    clear H1
                    simp only [Option.some.injEq, Prod.mk.injEq] at H
                    obtain ⟨rfl, rfl⟩ := H
                    go_wp2
                    go_ret2
                    exact ⟨by first | rfl | (simp [errW_none, errW_some] <;> rfl) | (simp [*, errW_none, errW_some] <;> rfl) | (simp [errW_none, errW_some, Go.Proofs.YtnlnkahgdmgooaaDoor.G.isEmpty_ne]; done), by repeat (first | (with_reducible first | exact HB.out | apply below_alloc | apply pw_below_drewN | apply below_drew1) | exact HB.out)⟩
                  · replace c25 := Bool.eq_false_iff.mpr c25
                    subst c25
                    have H1 : (if (x18_1 == (wrap64 ((t131.length : Int) - 1))) = true then (quad_Parse.l0 kj11 t131 (IntKind.u64.wrap (x5_1 + t135)) t131 (t131.length : Int) (wrap64 (x18_1 + 1))) else (if 0 ≤ (wrap64 (8 * (wrap64 (3 - x18_1)))) then (quad_Parse.l0 kj11 t131 (IntKind.u64.wrap (x5_1 + (shl .u64 t135 (wrap64 (8 * (wrap64 (3 - x18_1))))))) t131 (t131.length : Int) (wrap64 (x18_1 + 1))) else (none))) = some (r1, r2) := by rw [if_neg (show ¬ (false = true) by decide)] at H; exact H
                    clear H
                    have H := H1
                    clear H1
                    by_cases c26 : (x18_1 == (wrap64 ((t131.length : Int) - 1))) = true
                    · rw [if_pos c26] at H
                      have c26b0 : (x18_1 == (wrap64 ((t131.length : Int) - 1))) = true := c26
                      (try (have c26b1 : decide (x18_1 = (wrap64 ((t131.length : Int) - 1))) = true := by simpa using c26))
                      (try (have c26b2 : (x18_1 == (wrap64 ((t131.length : Int) - 1))) = true := by simpa using c26))
                      clear c26
                      have H' := Aside0.mk H
                      clear H
                      go_wp2
                      go_roundg kj11
                      case measure => have := HK1.out; have := HJ11.out; omega
                      case rel => exact ⟨(IntKind.u64.wrap (x5_1 + t135)), (wrap64 (x18_1 + 1)), (by first | rfl | (simp; done) | (simp [*]; done) | (simp [Go.Proofs.YtnlnkahgdmgooaaDoor.G.isEmpty_ne]; done)), (by first | rfl | (simp; done) | (simp [*]; done) | (simp [Go.Proofs.YtnlnkahgdmgooaaDoor.G.isEmpty_ne]; done)), H', ⟨by have := HK1.out; have := HJ11.out; omega⟩, ⟨by (with_reducible repeat (first | apply Kd.R_alloc | apply Kd.R_drewN | apply Kd.R_drew)); exact HO_4.out⟩, ⟨by (with_reducible repeat (first | apply Kd.R_alloc | apply Kd.R_drewN | apply Kd.R_drew)); exact HO_16.out⟩, ⟨by repeat (first | (with_reducible first | exact HB.out | apply below_alloc | apply pw_below_drewN | apply below_drew1) | exact HB.out)⟩⟩
                    · rw [if_neg c26] at H
                      have c26b0 : (x18_1 == (wrap64 ((t131.length : Int) - 1))) = false := by simpa using c26
                      (try (have c26b1 : decide (x18_1 = (wrap64 ((t131.length : Int) - 1))) = false := by simpa using c26))
                      (try (have c26b2 : (x18_1 == (wrap64 ((t131.length : Int) - 1))) = false := by simpa using c26))
                      (try (have c26b3 : ¬ (x18_1 = (wrap64 ((t131.length : Int) - 1))) := by simpa using c26))
                      clear c26
                      obtain ⟨ji27, hji27⟩ : ∃ j_ : Int, (wrap64 (8 * (wrap64 (3 - x18_1)))) = j_ := ⟨_, rfl⟩
                      replace H : (if 0 ≤ (ji27) then (quad_Parse.l0 kj11 t131 (IntKind.u64.wrap (x5_1 + (shl .u64 t135 (ji27)))) t131 (t131.length : Int) (wrap64 (x18_1 + 1))) else (none)) = some (r1, r2) := by first | (rw [hji27] at H; exact H) | (simp only [hji27] at H ⊢; exact H)
                      have hji27w : (IntKind.i64.wrap (8 * (wrap64 (3 - x18_1)))) = ji27 := (i64_w _).trans hji27
                      by_cases c28 : 0 ≤ (ji27)
                      · rw [if_pos c28] at H
                        have c28b0 := eq_true c28
                        have c28b1 : decide (0 ≤ (ji27)) = true := decide_eq_true c28
                        clear c28
                        obtain ⟨ji29, hji29⟩ : ∃ j_ : Int, (shl .u64 t135 (ji27)) = j_ := ⟨_, rfl⟩
                        replace H : (quad_Parse.l0 kj11 t131 (IntKind.u64.wrap (x5_1 + (ji29))) t131 (t131.length : Int) (wrap64 (x18_1 + 1))) = some (r1, r2) := by first | (rw [hji29] at H; exact H) | (simp only [hji29] at H ⊢; exact H)
                        have hji29_ : (IntKind.u64.wrap (t135 * 2 ^ min (ji27).toNat 64)) = ji29 := hji29
                        have hji29z : (ji27) ≤ 64 → (IntKind.u64.wrap (t135 * 2 ^ (ji27).toNat)) = ji29 := shl_small hji29
                        have H' := Aside0.mk H
                        clear H
                        go_wp2
                        go_roundg kj11
                        case measure => have := HK1.out; have := HJ11.out; omega
                        case rel => exact ⟨(IntKind.u64.wrap (x5_1 + (ji29))), (wrap64 (x18_1 + 1)), (by first | rfl | (simp; done) | (simp only [← hji29] <;> (first | rfl | (simp; done))) | (simp only [← hji29]; simp [Go.Proofs.YtnlnkahgdmgooaaDoor.G.isEmpty_ne]; done) | (simp [*]; done) | (simp [Go.Proofs.YtnlnkahgdmgooaaDoor.G.isEmpty_ne]; done)), (by first | rfl | (simp; done) | (simp [*]; done) | (simp [Go.Proofs.YtnlnkahgdmgooaaDoor.G.isEmpty_ne]; done)), H', ⟨by have := HK1.out; have := HJ11.out; omega⟩, ⟨by (with_reducible repeat (first | apply Kd.R_alloc | apply Kd.R_drewN | apply Kd.R_drew)); exact HO_4.out⟩, ⟨by (with_reducible repeat (first | apply Kd.R_alloc | apply Kd.R_drewN | apply Kd.R_drew)); exact HO_16.out⟩, ⟨by repeat (first | (with_reducible first | exact HB.out | apply below_alloc | apply pw_below_drewN | apply below_drew1) | exact HB.out)⟩⟩
                      · rw [if_neg c28] at H
                        exact absurd H (by simp)
            · rw [if_neg c10] at H
              exact absurd H (by simp)
          · rw [if_neg c9] at H
            exact absurd H (by simp)
        · rw [if_neg c8] at H
          have c8b0 : decide (x18_1 < (t131.length : Int)) = false := decide_eq_false c8
          clear c8
          simp only [Option.some.injEq, Prod.mk.injEq] at H
          obtain ⟨rfl, rfl⟩ := H
          go_wp2
          go_ret2
          exact ⟨by first | rfl | (simp [errW_none, errW_some] <;> rfl) | (simp [*, errW_none, errW_some] <;> rfl) | (simp [errW_none, errW_some, Go.Proofs.YtnlnkahgdmgooaaDoor.G.isEmpty_ne]; done), by repeat (first | (with_reducible first | exact HB.out | apply below_alloc | apply pw_below_drewN | apply below_drew1) | exact HB.out)⟩

/-! ### strconv_Itoa: function 39 -/
def strconv_Itoa.f (a0 : Int) : Option (ByteArray) := if -9223372036854775808 ≤ a0 ∧ a0 ≤ 9223372036854775807 then some ⟨(Lib.itoa a0).toArray⟩ else none
theorem strconv_Itoa.calls (a0 : Int) (r : ByteArray) (w : World) (h : strconv_Itoa.f a0 = some r) (hT : G.T w) :
    Calls Tryd.prog 39 #[.int .i64 a0] w fun e w' => e = .returned (.string r) ∧ Below w.heap.size w w' := by
  unfold strconv_Itoa.f at h
  split at h
  · rename_i hh
    obtain rfl := Option.some.inj h
    refine (Tryd.strconv_Itoa a0 hh.1 hh.2 w hT.1).mono (fun e w' hh => ⟨hh.1, ?_⟩)
    obtain ⟨k, os, rfl⟩ := hh.2
    exact G.below_grow w k os
  · cases h


/-! ### strings_Join: function 40 -/
def strings_Join.f (l0 : List ByteArray) (a1 : ByteArray) : Option (ByteArray) := if l0.length ≤ 140737488355328 ∧ (Lib.join (l0.map (·.data.toList)) a1.data.toList).length ≤ 140737488355328 then some ⟨(Lib.join (l0.map (·.data.toList)) a1.data.toList).toArray⟩ else none
theorem strings_Join.calls (A0 : Option Addr) (c0 : Nat) (l0 : List ByteArray) (a1 : ByteArray) (r : ByteArray) (w : World) (hr0 : Kd.C Kd.string w A0 l0.length l0) (hc0 : l0.length ≤ c0) (h : strings_Join.f l0 a1 = some r) :
    Calls Tryd.prog 40 #[.slice A0 l0.length c0, .string a1] w fun e w' => e = .returned (.string r) ∧ Below w.heap.size w w' := by
  unfold strings_Join.f at h
  split at h
  · rename_i hh
    obtain rfl := Option.some.inj h
    exact G.join_of A0 c0 l0 a1 w hr0 hc0 hh.1 hh.2
  · cases h


/-! ### quad_Print: function 23 -/
def quad_Print.l0 : Nat → Int → List ByteArray → Int → Option (ByteArray)
  | 0, _, _, _ => none
  | k + 1, x0, x3, x5 => if x5 < 4 then (if 0 ≤ (wrap64 (24 - (wrap64 (8 * x5)))) then ((strconv_Itoa.f (wrap64 (Go.bits .and .u32 (shr .u32 x0 (wrap64 (24 - (wrap64 (8 * x5))))) 255))).bind fun t137 => (if x3.length < 8796093022208 then (quad_Print.l0 k x0 (x3 ++ [t137]) (wrap64 (x5 + 1))) else (none))) else (none)) else ((strings_Join.f x3 (⟨#[46]⟩ : ByteArray)).bind fun t141 => (some t141))
def quad_Print.f (k : Nat) (a0 : Int) : Option (ByteArray) := quad_Print.l0 k a0 ([] : List ByteArray) 0
theorem quad_Print.mono_l : ∀ k, (∀ y0 y1 y2, LeO (quad_Print.l0 k y0 y1 y2) (quad_Print.l0 (k + 1) y0 y1 y2))
  | 0 => fun _ _ _ r h => by simp [quad_Print.l0] at h
  | k + 1 => by
    have ih0 := quad_Print.mono_l k
    · intro y0 y1 y2
      unfold quad_Print.l0
      repeat' first
      | (with_reducible exact ih0 _ _ _)
      | (with_reducible exact LeO.refl _)
      | (with_reducible exact LeO.none _)
      | (with_reducible refine LeO.ite ?_ ?_)
      | (with_reducible refine LeO.bind ?_ (fun _ => ?_))
      | exact ih0 _ _ _
      | exact LeO.none _
      | refine LeO.ite ?_ ?_
      | refine LeO.bind ?_ (fun _ => ?_)
theorem quad_Print.mono : ∀ a0 k, LeO (quad_Print.f k a0) (quad_Print.f (k + 1) a0) := by
  intro a0 k
  have ih0 := quad_Print.mono_l k
  unfold quad_Print.f
  repeat' first
      | (with_reducible exact ih0 _ _ _)
      | (with_reducible exact LeO.refl _)
      | (with_reducible exact LeO.none _)
      | (with_reducible refine LeO.ite ?_ ?_)
      | (with_reducible refine LeO.bind ?_ (fun _ => ?_))
      | exact ih0 _ _ _
      | exact LeO.none _
      | refine LeO.ite ?_ ?_
      | refine LeO.bind ?_ (fun _ => ?_)
set_option maxHeartbeats 8000000 in
set_option maxRecDepth 100000 in
theorem quad_Print.calls (k : Nat) (a0 : Int) (r : ByteArray) (w : World) (h : quad_Print.f k a0 = some r) (hT : Go.Proofs.YtnlnkahgdmgooaaDoor.G.T w) :
    Calls Tryd.prog 23 #[.int .u32 a0] w fun e w' => e = .returned (.string r) ∧ Below w.heap.size w w' := by
  have HT := Aside0.mk hT
  clear hT
  have HB := Aside0.mk (Below.refl w.heap.size w)
  have H : (quad_Print.l0 k a0 ([] : List ByteArray) 0) = some r := h
  clear h
  have H' := Aside0.mk H
  clear H
  go_enter Tryd.func23, Tryd.ntmps23
  go_wp2
  go_loopg [3, 5] k (fun kq v3 v5 w' => ∃ (x3_1 : List ByteArray) (x5_1 : Int), v5 = .int .i64 x5_1 ∧ Aside0 (quad_Print.l0 kq a0 x3_1 x5_1 = some r) ∧ Aside0 (kq ≤ k) ∧ Aside0 (Kd.R Kd.string 9 w' w.heap.size (fun _ => True) v3 x3_1) ∧ Aside0 (Below w.heap.size w w'))
  case atStart => exact ⟨(([] : List ByteArray)), (0), (by first | rfl | (simp; done) | (simp [*]; done) | (simp [Go.Proofs.YtnlnkahgdmgooaaDoor.G.isEmpty_ne]; done)), H', ⟨Nat.le_refl _⟩, ⟨by first | exact Kd.R_nil _ _ _ _ _ | exact Kd.N_nil _ _ _ _ _ | exact Kd.V_nil _ _ _ _ _ | exact Kd.Q_nil _ _ _ _ _ | exact Kd.S_nil _ _ _ _ _⟩, ⟨by repeat (first | (with_reducible first | exact HB.out | apply below_alloc | apply pw_below_drewN | apply below_drew1) | exact HB.out)⟩⟩
  case round =>
    clear H'
    obtain ⟨x3_1, x5_1, rfl, HA, HK1, HO_3, HB⟩ := hrel
    cases gk with
    | zero => exact absurd HA.out (by simp [quad_Print.l0])
    | succ k1 =>
      have H := HA.out
      clear HA
      simp only [quad_Print.l0] at H
      by_cases c2 : x5_1 < 4
      · rw [if_pos c2] at H
        have c2b0 : decide (x5_1 < 4) = true := decide_eq_true c2
        clear c2
        obtain ⟨ji3, hji3⟩ : ∃ j_ : Int, (wrap64 (24 - (wrap64 (8 * x5_1)))) = j_ := ⟨_, rfl⟩
        replace H : (if 0 ≤ (ji3) then ((strconv_Itoa.f (wrap64 (Go.bits .and .u32 (shr .u32 a0 (ji3)) 255))).bind fun t137 => (if x3_1.length < 8796093022208 then (quad_Print.l0 k1 a0 (x3_1 ++ [t137]) (wrap64 (x5_1 + 1))) else (none))) else (none)) = some r := by first | (rw [hji3] at H; exact H) | (simp only [hji3] at H ⊢; exact H)
        have hji3w : (IntKind.i64.wrap (24 - (wrap64 (8 * x5_1)))) = ji3 := (i64_w _).trans hji3
        by_cases c4 : 0 ≤ (ji3)
        · rw [if_pos c4] at H
          have c4b0 := eq_true c4
          have c4b1 : decide (0 ≤ (ji3)) = true := decide_eq_true c4
          clear c4
          obtain ⟨ji5, hji5⟩ : ∃ j_ : Int, (shr .u32 a0 (ji3)) = j_ := ⟨_, rfl⟩
          replace H : ((strconv_Itoa.f (wrap64 (Go.bits .and .u32 (ji5) 255))).bind fun t137 => (if x3_1.length < 8796093022208 then (quad_Print.l0 k1 a0 (x3_1 ++ [t137]) (wrap64 (x5_1 + 1))) else (none))) = some r := by first | (rw [hji5] at H; exact H) | (simp only [hji5] at H ⊢; exact H)
          have hji5_ : (a0 / 2 ^ min (ji3).toNat 32) = ji5 := hji5
          have hji5z : (ji3) ≤ 32 → (a0 / 2 ^ (ji3).toNat) = ji5 := shr_small hji5
          replace H := Option.bind_eq_some_iff.mp H
          obtain ⟨t137, A60, H⟩ := H
          replace H : (if x3_1.length < 8796093022208 then (quad_Print.l0 k1 a0 (x3_1 ++ [t137]) (wrap64 (x5_1 + 1))) else (none)) = some r := H
          have A6 := Aside0.mk A60
          clear A60
          by_cases c7 : x3_1.length < 8796093022208
          · rw [if_pos c7] at H
            have LMc7 := Aside0.mk c7
            clear c7
            obtain ⟨y138, hy138⟩ : ∃ y_ : List ByteArray, y_ = (x3_1 ++ [t137]) := ⟨_, rfl⟩
            replace H : (quad_Print.l0 k1 a0 y138 (wrap64 (x5_1 + 1))) = some r := by first | (rw [hy138]; with_reducible exact H) | (have H2_ := (Option.bind_some _ _).symm.trans H; rw [hy138]; with_reducible exact H2_) | (have H2_ := (Option.bind_some _ _).symm.trans H; with_reducible exact H2_) | with_reducible exact H | (rw [hy138]; exact H) | exact H
            have Ny138 := Aside0.mk hy138
            clear hy138
            have H' := Aside0.mk H
            clear H
            go_wp2_with (first | ((with_reducible refine gate_callee (f := 39) rfl ?_); refine goesL_ (some 16) rfl rfl Tryd.func39 (by kernel_rfl) rfl #[.int .i64 (wrap64 (Go.bits .and .u32 (ji5) 255))] rfl (by (try simp only [List.map_toArray, List.map_cons, List.map_nil]); first | done | (simp only [hji5]; rfl) | rfl | (simp only [List.length_drop, List.length_take]; rfl)) ?_; (with_reducible refine (strconv_Itoa.calls (wrap64 (Go.bits .and .u32 (ji5) 255)) t137 _ A6.out (Go.Proofs.YtnlnkahgdmgooaaDoor.G.T_below HT.out (by repeat (first | (with_reducible first | exact HB.out | apply below_alloc | apply pw_below_drewN | apply below_drew1) | exact HB.out)))).mono ?_); rintro e w8 ⟨rfl, hb⟩; refine ⟨_, rfl, ?_⟩; have n0_ := Aside0.mk (Kd.R_below (by (with_reducible repeat (first | apply Kd.R_alloc | apply Kd.R_drewN | apply Kd.R_drew)); exact HO_3.out) hb); have n1_ := Aside0.mk (below_step (by repeat (first | (with_reducible first | exact HB.out | apply below_alloc | apply pw_below_drewN | apply below_drew1) | exact HB.out)) hb); clear HO_3; clear HB; have HO_3 := n0_; have HB := n1_; clear n0_ n1_; (try clear hb); (try clear hb2); (try clear hk); (try clear hi)) | ((with_reducible refine gate_builtin (b := .append) (xs := #[.tmp 8, .tmp 17]) rfl ?_); at_builtin; refine Kd.R_append Kd.string (w0 := w) w.heap.size rfl (.tmp 8) (.tmp 17) 67 9 (.string ⟨#[]⟩) 16 rfl Tryd.underlying67 info9 rfl (by decide) (by omega) u3 x3_1 t137 [.string t137] (fun _ => True) (fun _ => False) rfl rfl ?aP (fun _ hk => hk.elim) ?aF ?aO ?aB ?aS ?aL ?_; (case aP => exact rfl); (case aB => exact (by repeat (first | (with_reducible first | exact HB.out | apply below_alloc | apply pw_below_drewN | apply below_drew1) | exact HB.out))); (case aF => exact (fun _ _ => trivial)); (case aO => exact (by (with_reducible repeat (first | apply Kd.R_alloc | apply Kd.R_drewN | apply Kd.R_drew)); exact HO_3.out)); (case aS => exact (below_size (by repeat (first | (with_reducible first | exact HB.out | apply below_alloc | apply pw_below_drewN | apply below_drew1) | exact HB.out)))); (case aL => have := LMc7.out; omega); intro v139 w9 ho hb hg hat; rw [← Ny138.out] at ho; have n0_ := Aside0.mk (hb); have n1_ := Aside0.mk (ho); clear HB; clear HO_3; have HB := n0_; have HO140 := n1_; clear n0_ n1_; clear ho hb hg hat))
            go_roundg k1
            case measure => have := HK1.out; omega
            case rel => exact ⟨(y138), (wrap64 (x5_1 + 1)), (by first | rfl | (simp; done) | (simp [*]; done) | (simp [Go.Proofs.YtnlnkahgdmgooaaDoor.G.isEmpty_ne]; done)), H', ⟨by have := HK1.out; omega⟩, ⟨by (with_reducible repeat (first | apply Kd.R_alloc | apply Kd.R_drewN | apply Kd.R_drew)); exact HO140.out⟩, ⟨by repeat (first | (with_reducible first | exact HB.out | apply below_alloc | apply pw_below_drewN | apply below_drew1) | exact HB.out)⟩⟩
          · rw [if_neg c7] at H
            exact absurd H (by simp)
        · rw [if_neg c4] at H
          exact absurd H (by simp)
      · rw [if_neg c2] at H
        have c2b0 : decide (x5_1 < 4) = false := decide_eq_false c2
        clear c2
        replace H := Option.bind_eq_some_iff.mp H
        obtain ⟨t141, A100, H⟩ := H
        replace H : (some t141) = some r := H
        have A10 := Aside0.mk A100
        clear A100
        obtain rfl := Option.some.inj H
        obtain ⟨Ao11, co11, eo11⟩ := Kd.R_slice HO_3.out
        subst eo11
        go_wp2_with (first | ((with_reducible refine gate_callee (f := 40) rfl ?_); refine goesL_ (some 21) rfl rfl Tryd.func40 (by kernel_rfl) rfl #[.slice Ao11 x3_1.length co11, .string (⟨#[46]⟩ : ByteArray)] rfl (by (try simp only [List.map_toArray, List.map_cons, List.map_nil]); first | done | rfl | (simp only [List.length_drop, List.length_take]; rfl)) ?_; (with_reducible refine (strings_Join.calls _ _ x3_1 (⟨#[46]⟩ : ByteArray) t141 _ ?side1 ?side2 A10.out).mono ?_); (case side1 => repeat (first | exact (Kd.R_reads' HO_3.out).2.2 | (with_reducible refine Kd.C_alloc ?_ _) | (with_reducible refine Kd.C_drewN ?_ _) | (with_reducible refine Kd.C_drew ?_))); (case side2 => exact (Kd.R_reads' HO_3.out).2.1); rintro e w12 ⟨rfl, hb⟩; refine ⟨_, rfl, ?_⟩; have n0_ := Aside0.mk (Kd.R_below (by (with_reducible repeat (first | apply Kd.R_alloc | apply Kd.R_drewN | apply Kd.R_drew)); exact HO_3.out) hb); have n1_ := Aside0.mk (below_step (by repeat (first | (with_reducible first | exact HB.out | apply below_alloc | apply pw_below_drewN | apply below_drew1) | exact HB.out)) hb); clear HO_3; clear HB; have HO_3 := n0_; have HB := n1_; clear n0_ n1_; (try clear hb); (try clear hb2); (try clear hk); (try clear hi)))
        go_ret
        exact ⟨by first | rfl | (simp [errW_none, errW_some] <;> rfl) | (simp [*, errW_none, errW_some] <;> rfl) | (simp [errW_none, errW_some, Go.Proofs.YtnlnkahgdmgooaaDoor.G.isEmpty_ne]; done), by repeat (first | (with_reducible first | exact HB.out | apply below_alloc | apply pw_below_drewN | apply below_drew1) | exact HB.out)⟩

/-! ### host_domain: function 11 -/
def host_domain.j0 : Nat → ByteArray → Bool → Option (ByteArray × Bool)
  | 0, _, _ => none
  | k + 1, x0, x15 => if x15 = true then (some ((⟨#[]⟩ : ByteArray), false)) else ((quad_Ends.f k x0).bind fun t147 => (if t147 = true then ((quad_Parse.f k x0).bind fun bt148 => (if bt148.2 = true then ((quad_Print.f k bt148.1).bind fun t150 => (some (t150, true))) else (some ((⟨#[]⟩ : ByteArray), false)))) else (some (x0, true))))
def host_domain.f (k : Nat) (a0 : ByteArray) : Option (ByteArray × Bool) := (escape_Decode.f k a0).bind fun t142 => ((utf_Lower.f (strOfNums t142)).bind fun t145 => (if t145.toList = ([] : List UInt8) then (host_domain.j0 k t145 true) else ((host_has.f k t145 true).bind fun t146 => (host_domain.j0 k t145 t146))))
theorem host_domain.mono_l : ∀ k, (∀ y0 y1, LeO (host_domain.j0 k y0 y1) (host_domain.j0 (k + 1) y0 y1))
  | 0 => fun _ _ r h => by simp [host_domain.j0] at h
  | k + 1 => by
    have ih0 := host_domain.mono_l k
    · intro y0 y1
      unfold host_domain.j0
      repeat' first
      | (with_reducible exact ih0 _ _)
      | (with_reducible exact escape_Decode.mono _ _)
      | (with_reducible exact host_has.mono _ _ _)
      | (with_reducible exact quad_Ends.mono _ _)
      | (with_reducible exact quad_Parse.mono _ _)
      | (with_reducible exact quad_Print.mono _ _)
      | (with_reducible exact LeO.refl _)
      | (with_reducible exact LeO.none _)
      | (with_reducible refine LeO.ite ?_ ?_)
      | (with_reducible refine LeO.bind ?_ (fun _ => ?_))
      | exact ih0 _ _
      | exact escape_Decode.mono _ _
      | exact host_has.mono _ _ _
      | exact quad_Ends.mono _ _
      | exact quad_Parse.mono _ _
      | exact quad_Print.mono _ _
      | exact LeO.none _
      | refine LeO.ite ?_ ?_
      | refine LeO.bind ?_ (fun _ => ?_)
theorem host_domain.mono : ∀ a0 k, LeO (host_domain.f k a0) (host_domain.f (k + 1) a0) := by
  intro a0 k
  have ih0 := host_domain.mono_l k
  unfold host_domain.f
  repeat' first
      | (with_reducible exact ih0 _ _)
      | (with_reducible exact escape_Decode.mono _ _)
      | (with_reducible exact host_has.mono _ _ _)
      | (with_reducible exact quad_Ends.mono _ _)
      | (with_reducible exact quad_Parse.mono _ _)
      | (with_reducible exact quad_Print.mono _ _)
      | (with_reducible exact LeO.refl _)
      | (with_reducible exact LeO.none _)
      | (with_reducible refine LeO.ite ?_ ?_)
      | (with_reducible refine LeO.bind ?_ (fun _ => ?_))
      | exact ih0 _ _
      | exact escape_Decode.mono _ _
      | exact host_has.mono _ _ _
      | exact quad_Ends.mono _ _
      | exact quad_Parse.mono _ _
      | exact quad_Print.mono _ _
      | exact LeO.none _
      | refine LeO.ite ?_ ?_
      | refine LeO.bind ?_ (fun _ => ?_)
set_option maxHeartbeats 8000000 in
set_option maxRecDepth 100000 in
theorem host_domain.calls (k : Nat) (a0 : ByteArray) (r1 : ByteArray) (r2 : Bool) (w : World) (h : host_domain.f k a0 = some (r1, r2)) (hT : Go.Proofs.YtnlnkahgdmgooaaDoor.G.T w) :
    Calls Tryd.prog 11 #[.string a0] w fun e w' => e = .returned (.tuple #[.string r1, .bool r2]) ∧ Below w.heap.size w w' := by
  have HT := Aside0.mk hT
  clear hT
  have HB := Aside0.mk (Below.refl w.heap.size w)
  have H : ((escape_Decode.f k a0).bind fun t142 => ((utf_Lower.f (strOfNums t142)).bind fun t145 => (if t145.toList = ([] : List UInt8) then (host_domain.j0 k t145 true) else ((host_has.f k t145 true).bind fun t146 => (host_domain.j0 k t145 t146))))) = some (r1, r2) := h
  clear h
  replace H := Option.bind_eq_some_iff.mp H
  obtain ⟨t142, A20, H⟩ := H
  replace H : ((utf_Lower.f (strOfNums t142)).bind fun t145 => (if t145.toList = ([] : List UInt8) then (host_domain.j0 k t145 true) else ((host_has.f k t145 true).bind fun t146 => (host_domain.j0 k t145 t146)))) = some (r1, r2) := H
  have A2 := Aside0.mk A20
  clear A20
  replace H := Option.bind_eq_some_iff.mp H
  obtain ⟨t145, A30, H⟩ := H
  replace H : (if t145.toList = ([] : List UInt8) then (host_domain.j0 k t145 true) else ((host_has.f k t145 true).bind fun t146 => (host_domain.j0 k t145 t146))) = some (r1, r2) := H
  have A3 := Aside0.mk A30
  clear A30
  have HC4 := Aside0.mk H
  clear H
  go_enter Tryd.func11, Tryd.ntmps11
  go_upto_region 2 with (first | ((with_reducible refine gate_callee (f := 20) rfl ?_); refine goesL_ (some 7) rfl rfl Tryd.func20 (by kernel_rfl) rfl #[.string a0] rfl (by (try simp only [List.map_toArray, List.map_cons, List.map_nil]); first | done | rfl | (simp only [List.length_drop, List.length_take]; rfl)) ?_; (with_reducible refine (escape_Decode.calls k a0 t142 _ A2.out).mono ?_); rintro e w5 ⟨v143, rfl, ho0, hb⟩; refine ⟨_, rfl, ?_⟩; have n0_ := Aside0.mk (Kd.R_lower ho0 (below_size (by repeat (first | (with_reducible first | exact HB.out | apply below_alloc | apply pw_below_drewN | apply below_drew1) | exact HB.out)))); have n1_ := Aside0.mk (below_step (by repeat (first | (with_reducible first | exact HB.out | apply below_alloc | apply pw_below_drewN | apply below_drew1) | exact HB.out)) hb); clear HB; have HO144 := n0_; have HB := n1_; clear n0_ n1_; (try clear hb); (try clear hb2); (try clear hk); (try clear hi); (try clear ho0); have hcv6 := own_string (P := Tryd.prog) Tryd.underlying27 Tryd.underlying5 Tryd.underlying9 (Kd.own_of_R HO144.out)) | ((with_reducible refine gate_callee (f := 19) rfl ?_); refine goesL_ (some 9) rfl rfl Tryd.func19 (by kernel_rfl) rfl #[.string (strOfNums t142)] rfl (by (try simp only [List.map_toArray, List.map_cons, List.map_nil]); first | done | rfl | (simp only [List.length_drop, List.length_take]; rfl)) ?_; (with_reducible refine (utf_Lower.calls (strOfNums t142) t145 _ A3.out).mono ?_); rintro e w7 ⟨rfl, hb⟩; refine ⟨_, rfl, ?_⟩; have n0_ := Aside0.mk (Kd.R_below (by (with_reducible repeat (first | apply Kd.R_alloc | apply Kd.R_drewN | apply Kd.R_drew)); exact HO144.out) hb); have n1_ := Aside0.mk (below_step (by repeat (first | (with_reducible first | exact HB.out | apply below_alloc | apply pw_below_drewN | apply below_drew1) | exact HB.out)) hb); clear HO144; clear HB; have HO144 := n0_; have HB := n1_; clear n0_ n1_; (try clear hb); (try clear hb2); (try clear hk); (try clear hi)))
  (try simp only [Act.put, List.setIfInBounds_toArray, List.set_cons_zero, List.set_cons_succ])
  go_cut [15] (fun v15 wc => ∃ (kq : Nat) (x15_3 : Bool), v15 = .bool x15_3 ∧ Aside0 (host_domain.j0 kq t145 x15_3 = some (r1, r2)) ∧ Aside0 (kq ≤ k) ∧ Aside0 (Below w.heap.size w wc))
  case first =>
    have H := HC4.out
    clear HC4
    by_cases c8 : t145.toList = ([] : List UInt8)
    · rw [if_pos c8] at H
      have c8b0 : (t145.toList == ([] : List UInt8)) = true := beq_iff_eq.mpr c8
      have c8b1 : (t145.toList != ([] : List UInt8)) = false := bne_eq_false_iff_eq.mpr c8
      clear c8
      (first | rw [c8b0] | (simp only [i64_w, i32_w]; rw [c8b0]) | skip)
      have H' := Aside0.mk H
      clear H
      go_wp2
      go_meet
      case rel => exact ⟨_, (true), (by first | rfl | (simp; done) | (simp [*]; done) | (simp [Go.Proofs.YtnlnkahgdmgooaaDoor.G.isEmpty_ne]; done)), H', ⟨by first | omega | exact Nat.le_refl _⟩, ⟨by repeat (first | (with_reducible first | exact HB.out | apply below_alloc | apply pw_below_drewN | apply below_drew1) | exact HB.out)⟩⟩
    · rw [if_neg c8] at H
      have c8b0 : (t145.toList == ([] : List UInt8)) = false := beq_eq_false_iff_ne.mpr c8
      have c8b1 : (t145.toList != ([] : List UInt8)) = true := bne_iff_ne.mpr c8
      (first | rw [c8b0] | (simp only [i64_w, i32_w]; rw [c8b0]) | skip)
      replace H := Option.bind_eq_some_iff.mp H
      obtain ⟨t146, A90, H⟩ := H
      replace H : (host_domain.j0 k t145 t146) = some (r1, r2) := H
      have A9 := Aside0.mk A90
      clear A90
      have H' := Aside0.mk H
      clear H
      go_wp2_with (first | (go_at_call 12; (with_reducible refine (host_has.calls k t145 true t146 _ A9.out).mono ?_); rintro e w' ⟨rfl, ⟨nd, rfl⟩⟩))
      go_meet
      case rel => exact ⟨_, (t146), (by first | rfl | (simp; done) | (simp [*]; done) | (simp [Go.Proofs.YtnlnkahgdmgooaaDoor.G.isEmpty_ne]; done)), H', ⟨by first | omega | exact Nat.le_refl _⟩, ⟨by repeat (first | (with_reducible first | exact HB.out | apply below_alloc | apply pw_below_drewN | apply below_drew1) | exact HB.out)⟩⟩
  case rest =>
    clear HC4
    try clear c1
    try clear c2
    try clear p2
    try clear hcv6
    try clear c8
    try clear c8b0
    try clear c8b1
    obtain ⟨kq, x15_3, rfl, HA, HJ3, HB⟩ := hcut
    cases kq with
    | zero => exact absurd HA.out (by simp [host_domain.j0])
    | succ kj3 =>
      have H := HA.out
      clear HA
      simp only [host_domain.j0] at H
      by_cases c10 : x15_3 = true
      · subst c10
        have H1 : (some ((⟨#[]⟩ : ByteArray), false)) = some (r1, r2) := by rw [if_pos rfl] at H; exact H
        clear H
        have H := H1
        clear H1
        simp only [Option.some.injEq, Prod.mk.injEq] at H
        obtain ⟨rfl, rfl⟩ := H
        go_wp2
        go_ret2
        exact ⟨by first | rfl | (simp [errW_none, errW_some] <;> rfl) | (simp [*, errW_none, errW_some] <;> rfl) | (simp [errW_none, errW_some, Go.Proofs.YtnlnkahgdmgooaaDoor.G.isEmpty_ne]; done), by repeat (first | (with_reducible first | exact HB.out | apply below_alloc | apply pw_below_drewN | apply below_drew1) | exact HB.out)⟩
      · replace c10 := Bool.eq_false_iff.mpr c10
        subst c10
        have H1 : ((quad_Ends.f kj3 t145).bind fun t147 => (if t147 = true then ((quad_Parse.f kj3 t145).bind fun bt148 => (if bt148.2 = true then ((quad_Print.f kj3 bt148.1).bind fun t150 => (some (t150, true))) else (some ((⟨#[]⟩ : ByteArray), false)))) else (some (t145, true)))) = some (r1, r2) := by rw [if_neg (show ¬ (false = true) by decide)] at H; exact H
        clear H
        have H := H1
        clear H1
        replace H := Option.bind_eq_some_iff.mp H
        obtain ⟨t147, A110, H⟩ := H
        replace H : (if t147 = true then ((quad_Parse.f kj3 t145).bind fun bt148 => (if bt148.2 = true then ((quad_Print.f kj3 bt148.1).bind fun t150 => (some (t150, true))) else (some ((⟨#[]⟩ : ByteArray), false)))) else (some (t145, true))) = some (r1, r2) := H
        have A11 := Aside0.mk A110
        clear A110
        by_cases c12 : t147 = true
        · subst c12
          have H1 : ((quad_Parse.f kj3 t145).bind fun bt148 => (if bt148.2 = true then ((quad_Print.f kj3 bt148.1).bind fun t150 => (some (t150, true))) else (some ((⟨#[]⟩ : ByteArray), false)))) = some (r1, r2) := by rw [if_pos rfl] at H; exact H
          clear H
          have H := H1
          clear H1
          replace H := Option.bind_eq_some_iff.mp H
          obtain ⟨⟨t148, t149⟩, A130, H⟩ := H
          replace H : (if t149 = true then ((quad_Print.f kj3 t148).bind fun t150 => (some (t150, true))) else (some ((⟨#[]⟩ : ByteArray), false))) = some (r1, r2) := H
          have A13 := Aside0.mk A130
          clear A130
          by_cases c14 : t149 = true
          · subst c14
            have H1 : ((quad_Print.f kj3 t148).bind fun t150 => (some (t150, true))) = some (r1, r2) := by rw [if_pos rfl] at H; exact H
            clear H
            have H := H1
            clear H1
            replace H := Option.bind_eq_some_iff.mp H
            obtain ⟨t150, A150, H⟩ := H
            replace H : (some (t150, true)) = some (r1, r2) := H
            have A15 := Aside0.mk A150
            clear A150
            simp only [Option.some.injEq, Prod.mk.injEq] at H
            obtain ⟨rfl, rfl⟩ := H
            go_wp2_with (first | ((with_reducible refine gate_callee (f := 21) rfl ?_); refine goesL_ (some 17) rfl rfl Tryd.func21 (by kernel_rfl) rfl #[.string t145] rfl (by (try simp only [List.map_toArray, List.map_cons, List.map_nil]); first | done | rfl | (simp only [List.length_drop, List.length_take]; rfl)) ?_; (with_reducible refine (quad_Ends.calls kj3 t145 true _ A11.out (Go.Proofs.YtnlnkahgdmgooaaDoor.G.T_below HT.out (by repeat (first | (with_reducible first | exact HB.out | apply below_alloc | apply pw_below_drewN | apply below_drew1) | exact HB.out)))).mono ?_); rintro e w16 ⟨rfl, hb⟩; refine ⟨_, rfl, ?_⟩; have n0_ := Aside0.mk (below_step (by repeat (first | (with_reducible first | exact HB.out | apply below_alloc | apply pw_below_drewN | apply below_drew1) | exact HB.out)) hb); clear HB; have HB := n0_; clear n0_; (try clear hb); (try clear hb2); (try clear hk); (try clear hi)) | ((with_reducible refine gate_callee (f := 22) rfl ?_); refine goesL_ (some 22) rfl rfl Tryd.func22 (by kernel_rfl) rfl #[.string t145] rfl (by (try simp only [List.map_toArray, List.map_cons, List.map_nil]); first | done | rfl | (simp only [List.length_drop, List.length_take]; rfl)) ?_; (with_reducible refine (quad_Parse.calls kj3 t145 t148 true _ A13.out (Go.Proofs.YtnlnkahgdmgooaaDoor.G.T_below HT.out (by repeat (first | (with_reducible first | exact HB.out | apply below_alloc | apply pw_below_drewN | apply below_drew1) | exact HB.out)))).mono ?_); rintro e w17 ⟨rfl, hb⟩; refine ⟨_, rfl, ?_⟩; have n0_ := Aside0.mk (below_step (by repeat (first | (with_reducible first | exact HB.out | apply below_alloc | apply pw_below_drewN | apply below_drew1) | exact HB.out)) hb); clear HB; have HB := n0_; clear n0_; (try clear hb); (try clear hb2); (try clear hk); (try clear hi)) | ((with_reducible refine gate_callee (f := 23) rfl ?_); refine goesL_ (some 28) rfl rfl Tryd.func23 (by kernel_rfl) rfl #[.int .u32 t148] rfl (by (try simp only [List.map_toArray, List.map_cons, List.map_nil]); first | done | rfl | (simp only [List.length_drop, List.length_take]; rfl)) ?_; (with_reducible refine (quad_Print.calls kj3 t148 t150 _ A15.out (Go.Proofs.YtnlnkahgdmgooaaDoor.G.T_below HT.out (by repeat (first | (with_reducible first | exact HB.out | apply below_alloc | apply pw_below_drewN | apply below_drew1) | exact HB.out)))).mono ?_); rintro e w18 ⟨rfl, hb⟩; refine ⟨_, rfl, ?_⟩; have n0_ := Aside0.mk (below_step (by repeat (first | (with_reducible first | exact HB.out | apply below_alloc | apply pw_below_drewN | apply below_drew1) | exact HB.out)) hb); clear HB; have HB := n0_; clear n0_; (try clear hb); (try clear hb2); (try clear hk); (try clear hi)))
            go_ret2
            exact ⟨by first | rfl | (simp [errW_none, errW_some] <;> rfl) | (simp [*, errW_none, errW_some] <;> rfl) | (simp [errW_none, errW_some, Go.Proofs.YtnlnkahgdmgooaaDoor.G.isEmpty_ne]; done), by repeat (first | (with_reducible first | exact HB.out | apply below_alloc | apply pw_below_drewN | apply below_drew1) | exact HB.out)⟩
          · replace c14 := Bool.eq_false_iff.mpr c14
            subst c14
            have H1 : (some ((⟨#[]⟩ : ByteArray), false)) = some (r1, r2) := by rw [if_neg (show ¬ (false = true) by decide)] at H; exact H
            clear H
            have H := H1
            clear H1
            simp only [Option.some.injEq, Prod.mk.injEq] at H
            obtain ⟨rfl, rfl⟩ := H
            go_wp2_with (first | ((with_reducible refine gate_callee (f := 21) rfl ?_); refine goesL_ (some 17) rfl rfl Tryd.func21 (by kernel_rfl) rfl #[.string t145] rfl (by (try simp only [List.map_toArray, List.map_cons, List.map_nil]); first | done | rfl | (simp only [List.length_drop, List.length_take]; rfl)) ?_; (with_reducible refine (quad_Ends.calls kj3 t145 true _ A11.out (Go.Proofs.YtnlnkahgdmgooaaDoor.G.T_below HT.out (by repeat (first | (with_reducible first | exact HB.out | apply below_alloc | apply pw_below_drewN | apply below_drew1) | exact HB.out)))).mono ?_); rintro e w19 ⟨rfl, hb⟩; refine ⟨_, rfl, ?_⟩; have n0_ := Aside0.mk (below_step (by repeat (first | (with_reducible first | exact HB.out | apply below_alloc | apply pw_below_drewN | apply below_drew1) | exact HB.out)) hb); clear HB; have HB := n0_; clear n0_; (try clear hb); (try clear hb2); (try clear hk); (try clear hi)) | ((with_reducible refine gate_callee (f := 22) rfl ?_); refine goesL_ (some 22) rfl rfl Tryd.func22 (by kernel_rfl) rfl #[.string t145] rfl (by (try simp only [List.map_toArray, List.map_cons, List.map_nil]); first | done | rfl | (simp only [List.length_drop, List.length_take]; rfl)) ?_; (with_reducible refine (quad_Parse.calls kj3 t145 t148 false _ A13.out (Go.Proofs.YtnlnkahgdmgooaaDoor.G.T_below HT.out (by repeat (first | (with_reducible first | exact HB.out | apply below_alloc | apply pw_below_drewN | apply below_drew1) | exact HB.out)))).mono ?_); rintro e w20 ⟨rfl, hb⟩; refine ⟨_, rfl, ?_⟩; have n0_ := Aside0.mk (below_step (by repeat (first | (with_reducible first | exact HB.out | apply below_alloc | apply pw_below_drewN | apply below_drew1) | exact HB.out)) hb); clear HB; have HB := n0_; clear n0_; (try clear hb); (try clear hb2); (try clear hk); (try clear hi)))
            go_ret2
            exact ⟨by first | rfl | (simp [errW_none, errW_some] <;> rfl) | (simp [*, errW_none, errW_some] <;> rfl) | (simp [errW_none, errW_some, Go.Proofs.YtnlnkahgdmgooaaDoor.G.isEmpty_ne]; done), by repeat (first | (with_reducible first | exact HB.out | apply below_alloc | apply pw_below_drewN | apply below_drew1) | exact HB.out)⟩
        · replace c12 := Bool.eq_false_iff.mpr c12
          subst c12
          have H1 : (some (t145, true)) = some (r1, r2) := by rw [if_neg (show ¬ (false = true) by decide)] at H; exact H
          clear H
          have H := H1
          clear H1
          simp only [Option.some.injEq, Prod.mk.injEq] at H
          obtain ⟨rfl, rfl⟩ := H
          go_wp2_with (first | ((with_reducible refine gate_callee (f := 21) rfl ?_); refine goesL_ (some 17) rfl rfl Tryd.func21 (by kernel_rfl) rfl #[.string t145] rfl (by (try simp only [List.map_toArray, List.map_cons, List.map_nil]); first | done | rfl | (simp only [List.length_drop, List.length_take]; rfl)) ?_; (with_reducible refine (quad_Ends.calls kj3 t145 false _ A11.out (Go.Proofs.YtnlnkahgdmgooaaDoor.G.T_below HT.out (by repeat (first | (with_reducible first | exact HB.out | apply below_alloc | apply pw_below_drewN | apply below_drew1) | exact HB.out)))).mono ?_); rintro e w21 ⟨rfl, hb⟩; refine ⟨_, rfl, ?_⟩; have n0_ := Aside0.mk (below_step (by repeat (first | (with_reducible first | exact HB.out | apply below_alloc | apply pw_below_drewN | apply below_drew1) | exact HB.out)) hb); clear HB; have HB := n0_; clear n0_; (try clear hb); (try clear hb2); (try clear hk); (try clear hi)))
          go_ret2
          exact ⟨by first | rfl | (simp [errW_none, errW_some] <;> rfl) | (simp [*, errW_none, errW_some] <;> rfl) | (simp [errW_none, errW_some, Go.Proofs.YtnlnkahgdmgooaaDoor.G.isEmpty_ne]; done), by repeat (first | (with_reducible first | exact HB.out | apply below_alloc | apply pw_below_drewN | apply below_drew1) | exact HB.out)⟩

/-! ### escape_signs: function 41 -/
def escape_signs.f (a0 : Int) : Option (ByteArray) := if a0 = 1 then (some (⟨#[32, 34, 60, 62, 96]⟩ : ByteArray)) else (if a0 = 2 then (some (⟨#[32, 34, 35, 60, 62]⟩ : ByteArray)) else (if a0 = 3 then (some (⟨#[32, 34, 35, 60, 62, 39]⟩ : ByteArray)) else (if a0 = 4 then (some (⟨#[32, 34, 35, 60, 62, 63, 94, 96, 123, 125]⟩ : ByteArray)) else (if a0 = 5 then (some (⟨#[32, 34, 35, 60, 62, 63, 94, 96, 123, 125, 47, 58, 59, 61, 64, 91, 92, 93, 124]⟩ : ByteArray)) else (if a0 = 6 then (some (⟨#[32, 34, 35, 60, 62, 63, 94, 96, 123, 125, 47, 58, 59, 61, 64, 91, 92, 93, 124, 36, 37, 38, 43, 44]⟩ : ByteArray)) else (some (⟨#[]⟩ : ByteArray)))))))
set_option maxHeartbeats 8000000 in
set_option maxRecDepth 100000 in
theorem escape_signs.calls (a0 : Int) (r : ByteArray) (w : World) (h : escape_signs.f a0 = some r) :
    Calls Tryd.prog 41 #[.int .i64 a0] w fun e w' => e = .returned (.string r) ∧ Drawn0 w w' := by
  have H : (if a0 = 1 then (some (⟨#[32, 34, 60, 62, 96]⟩ : ByteArray)) else (if a0 = 2 then (some (⟨#[32, 34, 35, 60, 62]⟩ : ByteArray)) else (if a0 = 3 then (some (⟨#[32, 34, 35, 60, 62, 39]⟩ : ByteArray)) else (if a0 = 4 then (some (⟨#[32, 34, 35, 60, 62, 63, 94, 96, 123, 125]⟩ : ByteArray)) else (if a0 = 5 then (some (⟨#[32, 34, 35, 60, 62, 63, 94, 96, 123, 125, 47, 58, 59, 61, 64, 91, 92, 93, 124]⟩ : ByteArray)) else (if a0 = 6 then (some (⟨#[32, 34, 35, 60, 62, 63, 94, 96, 123, 125, 47, 58, 59, 61, 64, 91, 92, 93, 124, 36, 37, 38, 43, 44]⟩ : ByteArray)) else (some (⟨#[]⟩ : ByteArray)))))))) = some r := h
  clear h
  by_cases c2 : a0 = 1
  · rw [if_pos c2] at H
    have c2b0 : (a0 == 1) = true := beq_iff_eq.mpr c2
    have c2b1 : (a0 != 1) = false := bne_eq_false_iff_eq.mpr c2
    clear c2
    obtain rfl := Option.some.inj H
    go_enter Tryd.func41, Tryd.ntmps41
    go_wp2
    go_ret
    exact ⟨by first | rfl | (simp; done) | (simp [*]; done) | (simp [Go.Proofs.YtnlnkahgdmgooaaDoor.G.isEmpty_ne]; done), by repeat (first | exact Drawn0.refl _ | apply Drawn0.step)⟩
  · rw [if_neg c2] at H
    have c2b0 : (a0 == 1) = false := beq_eq_false_iff_ne.mpr c2
    have c2b1 : (a0 != 1) = true := bne_iff_ne.mpr c2
    by_cases c3 : a0 = 2
    · rw [if_pos c3] at H
      have c3b0 : (a0 == 2) = true := beq_iff_eq.mpr c3
      have c3b1 : (a0 != 2) = false := bne_eq_false_iff_eq.mpr c3
      clear c3
      obtain rfl := Option.some.inj H
      go_enter Tryd.func41, Tryd.ntmps41
      go_wp2
      go_ret
      exact ⟨by first | rfl | (simp; done) | (simp [*]; done) | (simp [Go.Proofs.YtnlnkahgdmgooaaDoor.G.isEmpty_ne]; done), by repeat (first | exact Drawn0.refl _ | apply Drawn0.step)⟩
    · rw [if_neg c3] at H
      have c3b0 : (a0 == 2) = false := beq_eq_false_iff_ne.mpr c3
      have c3b1 : (a0 != 2) = true := bne_iff_ne.mpr c3
      by_cases c4 : a0 = 3
      · rw [if_pos c4] at H
        have c4b0 : (a0 == 3) = true := beq_iff_eq.mpr c4
        have c4b1 : (a0 != 3) = false := bne_eq_false_iff_eq.mpr c4
        clear c4
        obtain rfl := Option.some.inj H
        go_enter Tryd.func41, Tryd.ntmps41
        go_wp2
        go_ret
        exact ⟨by first | rfl | (simp; done) | (simp [*]; done) | (simp [Go.Proofs.YtnlnkahgdmgooaaDoor.G.isEmpty_ne]; done), by repeat (first | exact Drawn0.refl _ | apply Drawn0.step)⟩
      · rw [if_neg c4] at H
        have c4b0 : (a0 == 3) = false := beq_eq_false_iff_ne.mpr c4
        have c4b1 : (a0 != 3) = true := bne_iff_ne.mpr c4
        by_cases c5 : a0 = 4
        · rw [if_pos c5] at H
          have c5b0 : (a0 == 4) = true := beq_iff_eq.mpr c5
          have c5b1 : (a0 != 4) = false := bne_eq_false_iff_eq.mpr c5
          clear c5
          obtain rfl := Option.some.inj H
          go_enter Tryd.func41, Tryd.ntmps41
          go_wp2
          go_ret
          exact ⟨by first | rfl | (simp; done) | (simp [*]; done) | (simp [Go.Proofs.YtnlnkahgdmgooaaDoor.G.isEmpty_ne]; done), by repeat (first | exact Drawn0.refl _ | apply Drawn0.step)⟩
        · rw [if_neg c5] at H
          have c5b0 : (a0 == 4) = false := beq_eq_false_iff_ne.mpr c5
          have c5b1 : (a0 != 4) = true := bne_iff_ne.mpr c5
          by_cases c6 : a0 = 5
          · rw [if_pos c6] at H
            have c6b0 : (a0 == 5) = true := beq_iff_eq.mpr c6
            have c6b1 : (a0 != 5) = false := bne_eq_false_iff_eq.mpr c6
            clear c6
            obtain rfl := Option.some.inj H
            go_enter Tryd.func41, Tryd.ntmps41
            go_wp2
            go_ret
            exact ⟨by first | rfl | (simp; done) | (simp [*]; done) | (simp [Go.Proofs.YtnlnkahgdmgooaaDoor.G.isEmpty_ne]; done), by repeat (first | exact Drawn0.refl _ | apply Drawn0.step)⟩
          · rw [if_neg c6] at H
            have c6b0 : (a0 == 5) = false := beq_eq_false_iff_ne.mpr c6
            have c6b1 : (a0 != 5) = true := bne_iff_ne.mpr c6
            by_cases c7 : a0 = 6
            · rw [if_pos c7] at H
              have c7b0 : (a0 == 6) = true := beq_iff_eq.mpr c7
              have c7b1 : (a0 != 6) = false := bne_eq_false_iff_eq.mpr c7
              clear c7
              obtain rfl := Option.some.inj H
              go_enter Tryd.func41, Tryd.ntmps41
              go_wp2
              go_ret
              exact ⟨by first | rfl | (simp; done) | (simp [*]; done) | (simp [Go.Proofs.YtnlnkahgdmgooaaDoor.G.isEmpty_ne]; done), by repeat (first | exact Drawn0.refl _ | apply Drawn0.step)⟩
            · rw [if_neg c7] at H
              have c7b0 : (a0 == 6) = false := beq_eq_false_iff_ne.mpr c7
              have c7b1 : (a0 != 6) = true := bne_iff_ne.mpr c7
              obtain rfl := Option.some.inj H
              go_enter Tryd.func41, Tryd.ntmps41
              go_wp2
              go_ret
              exact ⟨by first | rfl | (simp; done) | (simp [*]; done) | (simp [Go.Proofs.YtnlnkahgdmgooaaDoor.G.isEmpty_ne]; done), by repeat (first | exact Drawn0.refl _ | apply Drawn0.step)⟩

end Go.Proofs.YtnlnkahgdmgooaaDoor.P
