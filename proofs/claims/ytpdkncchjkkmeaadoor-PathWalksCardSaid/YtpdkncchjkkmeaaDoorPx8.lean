-- Written for this claim by a program of this session's (not a text of the kit's print).
import Derived.Test.YtpdkncchjkkmeaaDoorPx0
import Derived.Test.YtpdkncchjkkmeaaDoorPx2
import Derived.Test.YtpdkncchjkkmeaaDoorPx3
import Derived.Test.YtpdkncchjkkmeaaDoorPx4
namespace Go.Proofs.YtpdkncchjkkmeaaDoor.P
open Go.RowKit Go.Proofs.YtpdkncchjkkmeaaDoorW.PrintWords Go.Proofs.YtpdkncchjkkmeaaDoorW.PrintLast Go.Proofs.YtpdkncchjkkmeaaDoorW.PrintMore
attribute [local go_sem] max2_int min2_int max_two min_two max_three min_three max_four min_four   -- for this text's walks alone
set_option linter.unusedVariables false
set_option linter.unusedSimpArgs false

/-! ### carryalllaw10_PathStill: function 4 -/
mutual
def carryalllaw10_PathStill.j0 : Nat → Bool → Bool → ByteArray → Bool → Option (Bool)
  | 0, _, _, _, _ => none
  | k + 1, x0, x1, x2, x16 => if x16 = true then ((carryalllaw10_awake.f k).bind fun t312 => (some t312)) else ((path_Walk.f k x0 x1 ([] : List ByteArray) x2).bind fun t313 => (carryalllaw10_PathStill.l0 k x0 x1 t313 (⟨#[]⟩ : ByteArray) (t313.length : Int) 0))
def carryalllaw10_PathStill.l0 : Nat → Bool → Bool → List ByteArray → ByteArray → Int → Int → Option (Bool)
  | 0, _, _, _, _, _, _ => none
  | k + 1, x0, x1, x7, x8, x23, x24 => if x24 < x23 then (if x24 > 0 then (if x8.size + 1 ≤ 9223372036854775807 then (if 0 ≤ x24 then (if x24 < (x7.length : Int) then (if (x8 ++ (⟨#[47]⟩ : ByteArray)).size + (rdOf ByteArray.empty x7 x24).size ≤ 9223372036854775807 then (carryalllaw10_PathStill.l0 k x0 x1 x7 ((x8 ++ (⟨#[47]⟩ : ByteArray)) ++ (rdOf ByteArray.empty x7 x24)) x23 (wrap64 (x24 + 1))) else (none)) else (none)) else (none)) else (none)) else (if 0 ≤ x24 then (if x24 < (x7.length : Int) then (if x8.size + (rdOf ByteArray.empty x7 x24).size ≤ 9223372036854775807 then (carryalllaw10_PathStill.l0 k x0 x1 x7 (x8 ++ (rdOf ByteArray.empty x7 x24)) x23 (wrap64 (x24 + 1))) else (none)) else (none)) else (none))) else (if (x7.length : Int) = 0 then (some true) else ((path_Walk.f k x0 x1 ([] : List ByteArray) x8).bind fun t318 => ((carryallref10_Same.f k t318 x7).bind fun t321 => (some t321))))
end
def carryalllaw10_PathStill.f (k : Nat) (a0 : Bool) (a1 : Bool) (a2 : ByteArray) : Option (Bool) := (carryalllaw10_awake.f k).bind fun t311 => (if t311 = true then (carryalllaw10_PathStill.j0 k a0 a1 a2 (decide ((a2.size : Int) > 400))) else (carryalllaw10_PathStill.j0 k a0 a1 a2 true))
theorem carryalllaw10_PathStill.mono_l : ∀ k, (∀ y0 y1 y2 y3, LeO (carryalllaw10_PathStill.j0 k y0 y1 y2 y3) (carryalllaw10_PathStill.j0 (k + 1) y0 y1 y2 y3)) ∧ (∀ y0 y1 y2 y3 y4 y5, LeO (carryalllaw10_PathStill.l0 k y0 y1 y2 y3 y4 y5) (carryalllaw10_PathStill.l0 (k + 1) y0 y1 y2 y3 y4 y5))
  | 0 => ⟨fun _ _ _ _ r h => by simp [carryalllaw10_PathStill.j0] at h, fun _ _ _ _ _ _ r h => by simp [carryalllaw10_PathStill.l0] at h⟩
  | k + 1 => by
    obtain ⟨ih0, ih1⟩ := carryalllaw10_PathStill.mono_l k
    refine ⟨?_, ?_⟩
    · intro y0 y1 y2 y3
      unfold carryalllaw10_PathStill.j0
      repeat' first
      | (with_reducible exact ih0 _ _ _ _)
      | (with_reducible exact ih1 _ _ _ _ _ _)
      | (with_reducible exact carryalllaw10_awake.mono _)
      | (with_reducible exact carryallref10_Same.mono _ _ _)
      | (with_reducible exact path_Walk.mono _ _ _ _ _)
      | (with_reducible exact LeO.refl _)
      | (with_reducible exact LeO.none _)
      | (with_reducible refine LeO.ite ?_ ?_)
      | (with_reducible refine LeO.bind ?_ (fun _ => ?_))
      | exact ih0 _ _ _ _
      | exact ih1 _ _ _ _ _ _
      | exact carryalllaw10_awake.mono _
      | exact carryallref10_Same.mono _ _ _
      | exact path_Walk.mono _ _ _ _ _
      | exact LeO.none _
      | refine LeO.ite ?_ ?_
      | refine LeO.bind ?_ (fun _ => ?_)
    · intro y0 y1 y2 y3 y4 y5
      unfold carryalllaw10_PathStill.l0
      repeat' first
      | (with_reducible exact ih0 _ _ _ _)
      | (with_reducible exact ih1 _ _ _ _ _ _)
      | (with_reducible exact carryalllaw10_awake.mono _)
      | (with_reducible exact carryallref10_Same.mono _ _ _)
      | (with_reducible exact path_Walk.mono _ _ _ _ _)
      | (with_reducible exact LeO.refl _)
      | (with_reducible exact LeO.none _)
      | (with_reducible refine LeO.ite ?_ ?_)
      | (with_reducible refine LeO.bind ?_ (fun _ => ?_))
      | exact ih0 _ _ _ _
      | exact ih1 _ _ _ _ _ _
      | exact carryalllaw10_awake.mono _
      | exact carryallref10_Same.mono _ _ _
      | exact path_Walk.mono _ _ _ _ _
      | exact LeO.none _
      | refine LeO.ite ?_ ?_
      | refine LeO.bind ?_ (fun _ => ?_)
theorem carryalllaw10_PathStill.mono : ∀ a0 a1 a2 k, LeO (carryalllaw10_PathStill.f k a0 a1 a2) (carryalllaw10_PathStill.f (k + 1) a0 a1 a2) := by
  intro a0 a1 a2 k
  obtain ⟨ih0, ih1⟩ := carryalllaw10_PathStill.mono_l k
  unfold carryalllaw10_PathStill.f
  repeat' first
      | (with_reducible exact ih0 _ _ _ _)
      | (with_reducible exact ih1 _ _ _ _ _ _)
      | (with_reducible exact carryalllaw10_awake.mono _)
      | (with_reducible exact carryallref10_Same.mono _ _ _)
      | (with_reducible exact path_Walk.mono _ _ _ _ _)
      | (with_reducible exact LeO.refl _)
      | (with_reducible exact LeO.none _)
      | (with_reducible refine LeO.ite ?_ ?_)
      | (with_reducible refine LeO.bind ?_ (fun _ => ?_))
      | exact ih0 _ _ _ _
      | exact ih1 _ _ _ _ _ _
      | exact carryalllaw10_awake.mono _
      | exact carryallref10_Same.mono _ _ _
      | exact path_Walk.mono _ _ _ _ _
      | exact LeO.none _
      | refine LeO.ite ?_ ?_
      | refine LeO.bind ?_ (fun _ => ?_)
set_option maxHeartbeats 8000000 in
set_option maxRecDepth 100000 in
theorem carryalllaw10_PathStill.calls (k : Nat) (a0 : Bool) (a1 : Bool) (a2 : ByteArray) (r : Bool) (w : World) (h : carryalllaw10_PathStill.f k a0 a1 a2 = some r) (hT : Go.Proofs.YtpdkncchjkkmeaaDoor.G.T w) :
    Calls Tryd.prog 4 #[.bool a0, .bool a1, .string a2] w fun e w' => e = .returned (.bool r) ∧ Below w.heap.size w w' := by
  have HT := Aside0.mk hT
  clear hT
  have HB := Aside0.mk (Below.refl w.heap.size w)
  have H : ((carryalllaw10_awake.f k).bind fun t311 => (if t311 = true then (carryalllaw10_PathStill.j0 k a0 a1 a2 (decide ((a2.size : Int) > 400))) else (carryalllaw10_PathStill.j0 k a0 a1 a2 true))) = some r := h
  clear h
  have HC4 := Aside0.mk H
  clear H
  go_enter Tryd.func4, Tryd.ntmps4
  go_upto_region 1 with (fail)
  go_cut [16] (fun v16 wc => ∃ (kq : Nat) (x16_3 : Bool), v16 = .bool x16_3 ∧ Aside0 (carryalllaw10_PathStill.j0 kq a0 a1 a2 x16_3 = some r) ∧ Aside0 (kq ≤ k) ∧ Aside0 (Below w.heap.size w wc))
  case first =>
    have H := HC4.out
    clear HC4
    replace H := Option.bind_eq_some_iff.mp H
    obtain ⟨t311, A50, H⟩ := H
    replace H : (if t311 = true then (carryalllaw10_PathStill.j0 k a0 a1 a2 (decide ((a2.size : Int) > 400))) else (carryalllaw10_PathStill.j0 k a0 a1 a2 true)) = some r := H
    have A5 := Aside0.mk A50
    clear A50
    by_cases c6 : t311 = true
    · subst c6
      have H1 : (carryalllaw10_PathStill.j0 k a0 a1 a2 (decide ((a2.size : Int) > 400))) = some r := by rw [if_pos rfl] at H; exact H
      clear H
      have H := H1
      clear H1
      have H' := Aside0.mk H
      clear H
      go_wp2_with (first | ((with_reducible refine gate_callee (f := 7) rfl ?_); refine goesL_ (some 10) rfl rfl Tryd.func7 (by kernel_rfl) rfl #[] rfl (by (try simp only [List.map_toArray, List.map_cons, List.map_nil]); first | done | rfl | (simp only [List.length_drop, List.length_take]; rfl)) ?_; (with_reducible refine (carryalllaw10_awake.calls k  true _ A5.out (Go.Proofs.YtpdkncchjkkmeaaDoor.G.T_below HT.out (by repeat (first | (with_reducible first | exact HB.out | apply below_alloc | apply pw_below_drewN | apply below_drew1) | exact HB.out)))).mono ?_); rintro e w7 ⟨rfl, hb⟩; refine ⟨_, rfl, ?_⟩; have n0_ := Aside0.mk (below_step (by repeat (first | (with_reducible first | exact HB.out | apply below_alloc | apply pw_below_drewN | apply below_drew1) | exact HB.out)) hb); clear HB; have HB := n0_; clear n0_; (try clear hb); (try clear hb2); (try clear hk); (try clear hi)))
      go_meet
      case rel => exact ⟨_, (decide ((a2.size : Int) > 400)), (by first | rfl | (simp; done) | (simp [*]; done) | (simp [Go.Proofs.YtpdkncchjkkmeaaDoor.G.isEmpty_ne]; done)), H', ⟨by first | omega | exact Nat.le_refl _⟩, ⟨by repeat (first | (with_reducible first | exact HB.out | apply below_alloc | apply pw_below_drewN | apply below_drew1) | exact HB.out)⟩⟩
    · replace c6 := Bool.eq_false_iff.mpr c6
      subst c6
      have H1 : (carryalllaw10_PathStill.j0 k a0 a1 a2 true) = some r := by rw [if_neg (show ¬ (false = true) by decide)] at H; exact H
      clear H
      have H := H1
      clear H1
      have H' := Aside0.mk H
      clear H
      go_wp2_with (first | ((with_reducible refine gate_callee (f := 7) rfl ?_); refine goesL_ (some 10) rfl rfl Tryd.func7 (by kernel_rfl) rfl #[] rfl (by (try simp only [List.map_toArray, List.map_cons, List.map_nil]); first | done | rfl | (simp only [List.length_drop, List.length_take]; rfl)) ?_; (with_reducible refine (carryalllaw10_awake.calls k  false _ A5.out (Go.Proofs.YtpdkncchjkkmeaaDoor.G.T_below HT.out (by repeat (first | (with_reducible first | exact HB.out | apply below_alloc | apply pw_below_drewN | apply below_drew1) | exact HB.out)))).mono ?_); rintro e w8 ⟨rfl, hb⟩; refine ⟨_, rfl, ?_⟩; have n0_ := Aside0.mk (below_step (by repeat (first | (with_reducible first | exact HB.out | apply below_alloc | apply pw_below_drewN | apply below_drew1) | exact HB.out)) hb); clear HB; have HB := n0_; clear n0_; (try clear hb); (try clear hb2); (try clear hk); (try clear hi)))
      go_meet
      case rel => exact ⟨_, (true), (by first | rfl | (simp; done) | (simp [*]; done) | (simp [Go.Proofs.YtpdkncchjkkmeaaDoor.G.isEmpty_ne]; done)), H', ⟨by first | omega | exact Nat.le_refl _⟩, ⟨by repeat (first | (with_reducible first | exact HB.out | apply below_alloc | apply pw_below_drewN | apply below_drew1) | exact HB.out)⟩⟩
  case rest =>
    clear HC4
    try clear p2
    try clear c4
    try clear c6
    try clear c7
    obtain ⟨kq, x16_3, rfl, HA, HJ3, HB⟩ := hcut
    cases kq with
    | zero => exact absurd HA.out (by simp [carryalllaw10_PathStill.j0])
    | succ kj3 =>
      have H := HA.out
      clear HA
      simp only [carryalllaw10_PathStill.j0] at H
      by_cases c9 : x16_3 = true
      · subst c9
        have H1 : ((carryalllaw10_awake.f kj3).bind fun t312 => (some t312)) = some r := by rw [if_pos rfl] at H; exact H
        clear H
        have H := H1
        clear H1
        replace H := Option.bind_eq_some_iff.mp H
        obtain ⟨t312, A100, H⟩ := H
        replace H : (some t312) = some r := H
        have A10 := Aside0.mk A100
        clear A100
        obtain rfl := Option.some.inj H
        go_wp2_with (first | ((with_reducible refine gate_callee (f := 7) rfl ?_); refine goesL_ (some 17) rfl rfl Tryd.func7 (by kernel_rfl) rfl #[] rfl (by (try simp only [List.map_toArray, List.map_cons, List.map_nil]); first | done | rfl | (simp only [List.length_drop, List.length_take]; rfl)) ?_; (with_reducible refine (carryalllaw10_awake.calls kj3  t312 _ A10.out (Go.Proofs.YtpdkncchjkkmeaaDoor.G.T_below HT.out (by repeat (first | (with_reducible first | exact HB.out | apply below_alloc | apply pw_below_drewN | apply below_drew1) | exact HB.out)))).mono ?_); rintro e w11 ⟨rfl, hb⟩; refine ⟨_, rfl, ?_⟩; have n0_ := Aside0.mk (below_step (by repeat (first | (with_reducible first | exact HB.out | apply below_alloc | apply pw_below_drewN | apply below_drew1) | exact HB.out)) hb); clear HB; have HB := n0_; clear n0_; (try clear hb); (try clear hb2); (try clear hk); (try clear hi)))
        go_ret
        exact ⟨by first | rfl | (simp [errW_none, errW_some] <;> rfl) | (simp [*, errW_none, errW_some] <;> rfl) | (simp [errW_none, errW_some, Go.Proofs.YtpdkncchjkkmeaaDoor.G.isEmpty_ne]; done), by repeat (first | (with_reducible first | exact HB.out | apply below_alloc | apply pw_below_drewN | apply below_drew1) | exact HB.out)⟩
      · replace c9 := Bool.eq_false_iff.mpr c9
        subst c9
        have H1 : ((path_Walk.f kj3 a0 a1 ([] : List ByteArray) a2).bind fun t313 => (carryalllaw10_PathStill.l0 kj3 a0 a1 t313 (⟨#[]⟩ : ByteArray) (t313.length : Int) 0)) = some r := by rw [if_neg (show ¬ (false = true) by decide)] at H; exact H
        clear H
        have H := H1
        clear H1
        replace H := Option.bind_eq_some_iff.mp H
        obtain ⟨t313, A120, H⟩ := H
        replace H : (carryalllaw10_PathStill.l0 kj3 a0 a1 t313 (⟨#[]⟩ : ByteArray) (t313.length : Int) 0) = some r := H
        have A12 := Aside0.mk A120
        clear A120
        have H' := Aside0.mk H
        clear H
        go_wp2_with (first | ((with_reducible refine gate_callee (f := 9) rfl ?_); refine goesL_ (some 21) rfl rfl Tryd.func9 (by kernel_rfl) rfl #[.bool a0, .bool a1, .slice none 0 0, .string a2] rfl (by (try simp only [List.map_toArray, List.map_cons, List.map_nil]); first | done | rfl | (simp only [List.length_drop, List.length_take]; rfl)) ?_; (refine (path_Walk.calls kj3 a0 a1 _ _ ([] : List ByteArray) a2 t313 _ ?side1 ?side2 A12.out (Go.Proofs.YtpdkncchjkkmeaaDoor.G.T_below HT.out (by repeat (first | (with_reducible first | exact HB.out | apply below_alloc | apply pw_below_drewN | apply below_drew1) | exact HB.out)))).mono ?_); (case side1 => exact Kd.C_nil _ _); (case side2 => exact Nat.le_refl _); rintro e w13 ⟨v314, rfl, ho0, hb⟩; refine ⟨_, rfl, ?_⟩; have n0_ := Aside0.mk (Kd.R_lower ho0 (below_size (by repeat (first | (with_reducible first | exact HB.out | apply below_alloc | apply pw_below_drewN | apply below_drew1) | exact HB.out)))); have n1_ := Aside0.mk (below_step (by repeat (first | (with_reducible first | exact HB.out | apply below_alloc | apply pw_below_drewN | apply below_drew1) | exact HB.out)) hb); clear HB; have HO315 := n0_; have HB := n1_; clear n0_ n1_; (try clear hb); (try clear hb2); (try clear hk); (try clear hi); (try clear ho0); obtain ⟨Ao14, co14, eo14⟩ := Kd.R_slice HO315.out; subst eo14))
        go_loopg [8, 24] kj3 (fun kq v8 v24 w' => ∃ (x8_2 : ByteArray) (x24_2 : Int), v8 = .string x8_2 ∧ v24 = .int .i64 x24_2 ∧ Aside0 (carryalllaw10_PathStill.l0 kq a0 a1 t313 x8_2 (t313.length : Int) x24_2 = some r) ∧ Aside0 (kq ≤ kj3) ∧ Aside0 (Kd.R Kd.string 9 w' w.heap.size (fun _ => True) (.slice Ao14 t313.length co14) t313) ∧ Aside0 (Below w.heap.size w w'))
        case atStart => exact ⟨((⟨#[]⟩ : ByteArray)), (0), (by first | rfl | (simp; done) | (simp [*]; done) | (simp [Go.Proofs.YtpdkncchjkkmeaaDoor.G.isEmpty_ne]; done)), (by first | rfl | (simp; done) | (simp [*]; done) | (simp [Go.Proofs.YtpdkncchjkkmeaaDoor.G.isEmpty_ne]; done)), H', ⟨Nat.le_refl _⟩, ⟨by (with_reducible repeat (first | apply Kd.R_alloc | apply Kd.R_drewN | apply Kd.R_drew)); exact HO315.out⟩, ⟨by repeat (first | (with_reducible first | exact HB.out | apply below_alloc | apply pw_below_drewN | apply below_drew1) | exact HB.out)⟩⟩
        case round =>
          clear H'
          try clear p2
          try clear c4
          try clear c6
          try clear c7
          try clear c9
          try clear p2
          obtain ⟨x8_2, x24_2, rfl, rfl, HA, HK2, HO_7, HB⟩ := hrel
          cases gk with
          | zero => exact absurd HA.out (by simp [carryalllaw10_PathStill.l0])
          | succ k2 =>
            have H := HA.out
            clear HA
            simp only [carryalllaw10_PathStill.l0] at H
            by_cases c15 : x24_2 < (t313.length : Int)
            · rw [if_pos c15] at H
              have c15b0 : decide (x24_2 < (t313.length : Int)) = true := decide_eq_true c15
              clear c15
              by_cases c16 : x24_2 > 0
              · rw [if_pos c16] at H
                have c16b0 : decide (0 < x24_2) = true := decide_eq_true c16
                clear c16
                by_cases c17 : x8_2.size + 1 ≤ 9223372036854775807
                · rw [if_pos c17] at H
                  have c17b0 := eq_true c17
                  have c17b1 : decide (x8_2.size + 1 ≤ 9223372036854775807) = true := decide_eq_true c17
                  try have c17b2 : (9223372036854775807 < x8_2.size + 1) = False := eq_false (Nat.not_lt.2 c17)
                  by_cases c18 : 0 ≤ x24_2
                  · rw [if_pos c18] at H
                    have c18b0 : decide (0 ≤ x24_2) = true := decide_eq_true c18
                    clear c18
                    by_cases c19 : x24_2 < (t313.length : Int)
                    · rw [if_pos c19] at H
                      have c19b0 : decide (x24_2 < (t313.length : Int)) = true := decide_eq_true c19
                      clear c19
                      by_cases c20 : (x8_2 ++ (⟨#[47]⟩ : ByteArray)).size + (rdOf ByteArray.empty t313 x24_2).size ≤ 9223372036854775807
                      · rw [if_pos c20] at H
                        have c20b0 := eq_true c20
                        have c20b1 : decide ((x8_2 ++ (⟨#[47]⟩ : ByteArray)).size + (rdOf ByteArray.empty t313 x24_2).size ≤ 9223372036854775807) = true := decide_eq_true c20
                        try have c20b2 : (9223372036854775807 < (x8_2 ++ (⟨#[47]⟩ : ByteArray)).size + (rdOf ByteArray.empty t313 x24_2).size) = False := eq_false (Nat.not_lt.2 c20)
                        try (have c20b3 := c20b2; simp only [ByteArray.size_append, Go.Proofs.YtpdkncchjkkmeaaDoor.G.ba_size, List.size_toArray, List.length_cons, List.length_nil, Nat.zero_add, Nat.reduceAdd] at c20b3)
                        have H' := Aside0.mk H
                        clear H
                        have p316 : 0 ≤ (x24_2 : Int) := of_decide_eq_true (by first | (with_reducible assumption) | assumption)
                        have q316 : x24_2 < (t313.length : Int) := of_decide_eq_true (by first | (with_reducible assumption) | assumption)
                        obtain ⟨ad316, e316, hx316_0⟩ := Kd.at_string (Kd.R_reads' HO_7.out).2.2 x24_2 p316 q316
                        cases e316
                        replace p316 := eq_true p316
                        replace q316 := eq_true q316
                        go_wp2
                        go_roundg k2
                        case measure => have := HJ3.out; have := HK2.out; omega
                        case rel => exact ⟨((x8_2 ++ (⟨#[47]⟩ : ByteArray)) ++ (rdOf ByteArray.empty t313 x24_2)), (wrap64 (x24_2 + 1)), (by first | rfl | (simp; done) | (simp [*]; done) | (simp [Go.Proofs.YtpdkncchjkkmeaaDoor.G.isEmpty_ne]; done)), (by first | rfl | (simp; done) | (simp [*]; done) | (simp [Go.Proofs.YtpdkncchjkkmeaaDoor.G.isEmpty_ne]; done)), H', ⟨by have := HJ3.out; have := HK2.out; omega⟩, ⟨by (with_reducible repeat (first | apply Kd.R_alloc | apply Kd.R_drewN | apply Kd.R_drew)); exact HO_7.out⟩, ⟨by repeat (first | (with_reducible first | exact HB.out | apply below_alloc | apply pw_below_drewN | apply below_drew1) | exact HB.out)⟩⟩
                      · rw [if_neg c20] at H
                        exact absurd H (by simp)
                    · rw [if_neg c19] at H
                      exact absurd H (by simp)
                  · rw [if_neg c18] at H
                    exact absurd H (by simp)
                · rw [if_neg c17] at H
                  exact absurd H (by simp)
              · rw [if_neg c16] at H
                have c16b0 : decide (0 < x24_2) = false := decide_eq_false c16
                clear c16
                by_cases c21 : 0 ≤ x24_2
                · rw [if_pos c21] at H
                  have c21b0 : decide (0 ≤ x24_2) = true := decide_eq_true c21
                  clear c21
                  by_cases c22 : x24_2 < (t313.length : Int)
                  · rw [if_pos c22] at H
                    have c22b0 : decide (x24_2 < (t313.length : Int)) = true := decide_eq_true c22
                    clear c22
                    by_cases c23 : x8_2.size + (rdOf ByteArray.empty t313 x24_2).size ≤ 9223372036854775807
                    · rw [if_pos c23] at H
                      have c23b0 := eq_true c23
                      have c23b1 : decide (x8_2.size + (rdOf ByteArray.empty t313 x24_2).size ≤ 9223372036854775807) = true := decide_eq_true c23
                      try have c23b2 : (9223372036854775807 < x8_2.size + (rdOf ByteArray.empty t313 x24_2).size) = False := eq_false (Nat.not_lt.2 c23)
                      have H' := Aside0.mk H
                      clear H
                      have p317 : 0 ≤ (x24_2 : Int) := of_decide_eq_true (by first | (with_reducible assumption) | assumption)
                      have q317 : x24_2 < (t313.length : Int) := of_decide_eq_true (by first | (with_reducible assumption) | assumption)
                      obtain ⟨ad317, e317, hx317_0⟩ := Kd.at_string (Kd.R_reads' HO_7.out).2.2 x24_2 p317 q317
                      cases e317
                      replace p317 := eq_true p317
                      replace q317 := eq_true q317
                      go_wp2
                      go_roundg k2
                      case measure => have := HJ3.out; have := HK2.out; omega
                      case rel => exact ⟨(x8_2 ++ (rdOf ByteArray.empty t313 x24_2)), (wrap64 (x24_2 + 1)), (by first | rfl | (simp; done) | (simp [*]; done) | (simp [Go.Proofs.YtpdkncchjkkmeaaDoor.G.isEmpty_ne]; done)), (by first | rfl | (simp; done) | (simp [*]; done) | (simp [Go.Proofs.YtpdkncchjkkmeaaDoor.G.isEmpty_ne]; done)), H', ⟨by have := HJ3.out; have := HK2.out; omega⟩, ⟨by (with_reducible repeat (first | apply Kd.R_alloc | apply Kd.R_drewN | apply Kd.R_drew)); exact HO_7.out⟩, ⟨by repeat (first | (with_reducible first | exact HB.out | apply below_alloc | apply pw_below_drewN | apply below_drew1) | exact HB.out)⟩⟩
                    · rw [if_neg c23] at H
                      exact absurd H (by simp)
                  · rw [if_neg c22] at H
                    exact absurd H (by simp)
                · rw [if_neg c21] at H
                  exact absurd H (by simp)
            · rw [if_neg c15] at H
              have c15b0 : decide (x24_2 < (t313.length : Int)) = false := decide_eq_false c15
              clear c15
              by_cases c24 : (t313.length : Int) = 0
              · rw [if_pos c24] at H
                have c24b0 : ((t313.length : Int) == 0) = true := beq_iff_eq.mpr c24
                have c24b1 : ((t313.length : Int) != 0) = false := bne_eq_false_iff_eq.mpr c24
                clear c24
                obtain rfl := Option.some.inj H
                go_wp2
                go_ret
                exact ⟨by first | rfl | (simp [errW_none, errW_some] <;> rfl) | (simp [*, errW_none, errW_some] <;> rfl) | (simp [errW_none, errW_some, Go.Proofs.YtpdkncchjkkmeaaDoor.G.isEmpty_ne]; done), by repeat (first | (with_reducible first | exact HB.out | apply below_alloc | apply pw_below_drewN | apply below_drew1) | exact HB.out)⟩
              · rw [if_neg c24] at H
                have c24b0 : ((t313.length : Int) == 0) = false := beq_eq_false_iff_ne.mpr c24
                have c24b1 : ((t313.length : Int) != 0) = true := bne_iff_ne.mpr c24
                have c24b2 : ¬ (t313 = []) := fun h_ => c24 (by rw [h_]; rfl)
                replace H := Option.bind_eq_some_iff.mp H
                obtain ⟨t318, A250, H⟩ := H
                replace H : ((carryallref10_Same.f k2 t318 t313).bind fun t321 => (some t321)) = some r := H
                have A25 := Aside0.mk A250
                clear A250
                replace H := Option.bind_eq_some_iff.mp H
                obtain ⟨t321, A260, H⟩ := H
                replace H : (some t321) = some r := H
                have A26 := Aside0.mk A260
                clear A260
                obtain rfl := Option.some.inj H
                go_wp2_with (first | (go_at_call 9; (refine (path_Walk.calls k2 a0 a1 _ _ ([] : List ByteArray) x8_2 t318 _ ?side1 ?side2 A25.out (Go.Proofs.YtpdkncchjkkmeaaDoor.G.T_below HT.out (by repeat (first | (with_reducible first | exact HB.out | apply below_alloc | apply pw_below_drewN | apply below_drew1) | exact HB.out)))).mono ?_); (case side1 => exact Kd.C_nil _ _); (case side2 => exact Nat.le_refl _); rintro e w27 ⟨v319, rfl, ho0, hb⟩; have n0_ := Aside0.mk (Kd.R_elder' (by (with_reducible repeat (first | apply Kd.R_alloc | apply Kd.R_drewN | apply Kd.R_drew)); exact HO_7.out) (Kd.R_base ho0) hb); have n1_ := Aside0.mk (Kd.R_lower (Kd.R_new' ho0 (Kd.R_lt (by (with_reducible repeat (first | apply Kd.R_alloc | apply Kd.R_drewN | apply Kd.R_drew)); exact HO_7.out))) (below_size (by repeat (first | (with_reducible first | exact HB.out | apply below_alloc | apply pw_below_drewN | apply below_drew1) | exact HB.out)))); have n2_ := Aside0.mk (below_step (by repeat (first | (with_reducible first | exact HB.out | apply below_alloc | apply pw_below_drewN | apply below_drew1) | exact HB.out)) hb); clear HO_7; clear HB; have HO_7 := n0_; have HO320 := n1_; have HB := n2_; clear n0_ n1_ n2_; (try clear hb); (try clear hb2); (try clear hk); (try clear hi); (try clear ho0); obtain ⟨Ao28, co28, eo28⟩ := Kd.R_slice HO320.out; subst eo28) | (go_at_call 11; (with_reducible refine (carryallref10_Same.calls k2 _ _ t318 _ _ t313 t321 _ ?side1 ?side2 ?side3 ?side4 A26.out).mono ?_); (case side1 => repeat (first | exact (Kd.R_reads' HO320.out).2.2 | (with_reducible refine Kd.C_alloc ?_ _) | (with_reducible refine Kd.C_drewN ?_ _) | (with_reducible refine Kd.C_drew ?_))); (case side2 => exact (Kd.R_reads' HO320.out).2.1); (case side3 => repeat (first | exact (Kd.R_reads' HO_7.out).2.2 | (with_reducible refine Kd.C_alloc ?_ _) | (with_reducible refine Kd.C_drewN ?_ _) | (with_reducible refine Kd.C_drew ?_))); (case side4 => exact (Kd.R_reads' HO_7.out).2.1); rintro e w' ⟨rfl, ⟨nd, rfl⟩⟩))
                go_ret
                exact ⟨by first | rfl | (simp [errW_none, errW_some] <;> rfl) | (simp [*, errW_none, errW_some] <;> rfl) | (simp [errW_none, errW_some, Go.Proofs.YtpdkncchjkkmeaaDoor.G.isEmpty_ne]; done), by repeat (first | (with_reducible first | exact HB.out | apply below_alloc | apply pw_below_drewN | apply below_drew1) | exact HB.out)⟩

/-- THE ONE PURE STATEMENT of carryalllaw10_PathStill: yours. -/
def carryalllaw10_PathStill.Pure : Prop := ∀ (a0 : Bool) (a1 : Bool) (a2 : ByteArray), a2.size ≤ 140737488351232 → ∃ k, carryalllaw10_PathStill.f k a0 a1 a2 = some true
theorem carryalllaw10_PathStill.walk (P : carryalllaw10_PathStill.Pure) (a0 : Bool) (a1 : Bool) (a2 : ByteArray) (w : World) (w2 : a2.size ≤ 140737488351232) (hT : Go.Proofs.YtpdkncchjkkmeaaDoor.G.T w) :
    Calls Tryd.prog 4 #[.bool a0, .bool a1, .string a2] w fun e w' => e = .returned (.bool true) ∧ Below w.heap.size w w' := by
  obtain ⟨k, h⟩ := P a0 a1 a2 w2
  refine (carryalllaw10_PathStill.calls k a0 a1 a2 true w h hT).mono ?_
  rintro e w' ⟨rfl, hd⟩
  exact ⟨rfl, hd⟩

/-! ### carryalllaw10_PathPlain: function 5 -/
mutual
def carryalllaw10_PathPlain.j0 : Nat → Bool → Bool → List ByteArray → Int → Bool → Option (Bool)
  | 0, _, _, _, _, _ => none
  | k + 1, x0, x1, x2, x3, x19 => if x19 = true then ((carryalllaw10_awake.f k).bind fun t324 => (some t324)) else ((some (([] : List ByteArray) : List ByteArray)).bind fun y325 => (if y325.length + x2.length < 8796093022208 then ((some (y325 ++ x2 : List ByteArray)).bind fun y328 => (if y328.length < 8796093022208 then (carryalllaw10_PathPlain.l0 k x0 x1 x2 (⟨#[120, 48]⟩ : ByteArray) (y328 ++ [(⟨#[120, 48]⟩ : ByteArray)]) (wrap64 (Int.tmod x3 20)) 0) else (none))) else (none)))
def carryalllaw10_PathPlain.l0 : Nat → Bool → Bool → List ByteArray → ByteArray → List ByteArray → Int → Int → Option (Bool)
  | 0, _, _, _, _, _, _, _ => none
  | k + 1, x0, x1, x2, x9, x10, x28, x29 => if x29 < x28 then ((some (([(97 + ((x29) % 256)) % 256] : List Int) : List Int)).bind fun y334 => (if 1 + (strOfNums y334).size ≤ 9223372036854775807 then (if x9.size + 1 ≤ 9223372036854775807 then (if (x9 ++ (⟨#[47]⟩ : ByteArray)).size + ((⟨#[121]⟩ : ByteArray) ++ (strOfNums y334)).size ≤ 9223372036854775807 then (if x10.length < 8796093022208 then (carryalllaw10_PathPlain.l0 k x0 x1 x2 ((x9 ++ (⟨#[47]⟩ : ByteArray)) ++ ((⟨#[121]⟩ : ByteArray) ++ (strOfNums y334))) (x10 ++ [(⟨#[121]⟩ : ByteArray) ++ (strOfNums y334)]) x28 (wrap64 (x29 + 1))) else (none)) else (none)) else (none)) else (none))) else ((path_Walk.f k x0 x1 x2 x9).bind fun t340 => ((carryallref10_Same.f k t340 x10).bind fun t343 => (some t343)))
end
def carryalllaw10_PathPlain.f (k : Nat) (a0 : Bool) (a1 : Bool) (l2 : List ByteArray) (a3 : Int) : Option (Bool) := (carryalllaw10_awake.f k).bind fun t322 => (if t322 = true then ((carryalllaw10_few.f k l2).bind fun t323 => (carryalllaw10_PathPlain.j0 k a0 a1 l2 a3 (!t323))) else (carryalllaw10_PathPlain.j0 k a0 a1 l2 a3 true))
theorem carryalllaw10_PathPlain.mono_l : ∀ k, (∀ y0 y1 y2 y3 y4, LeO (carryalllaw10_PathPlain.j0 k y0 y1 y2 y3 y4) (carryalllaw10_PathPlain.j0 (k + 1) y0 y1 y2 y3 y4)) ∧ (∀ y0 y1 y2 y3 y4 y5 y6, LeO (carryalllaw10_PathPlain.l0 k y0 y1 y2 y3 y4 y5 y6) (carryalllaw10_PathPlain.l0 (k + 1) y0 y1 y2 y3 y4 y5 y6))
  | 0 => ⟨fun _ _ _ _ _ r h => by simp [carryalllaw10_PathPlain.j0] at h, fun _ _ _ _ _ _ _ r h => by simp [carryalllaw10_PathPlain.l0] at h⟩
  | k + 1 => by
    obtain ⟨ih0, ih1⟩ := carryalllaw10_PathPlain.mono_l k
    refine ⟨?_, ?_⟩
    · intro y0 y1 y2 y3 y4
      unfold carryalllaw10_PathPlain.j0
      repeat' first
      | (with_reducible exact ih0 _ _ _ _ _)
      | (with_reducible exact ih1 _ _ _ _ _ _ _)
      | (with_reducible exact carryalllaw10_awake.mono _)
      | (with_reducible exact carryalllaw10_few.mono _ _)
      | (with_reducible exact carryallref10_Same.mono _ _ _)
      | (with_reducible exact path_Walk.mono _ _ _ _ _)
      | (with_reducible exact LeO.refl _)
      | (with_reducible exact LeO.none _)
      | (with_reducible refine LeO.ite ?_ ?_)
      | (with_reducible refine LeO.bind ?_ (fun _ => ?_))
      | exact ih0 _ _ _ _ _
      | exact ih1 _ _ _ _ _ _ _
      | exact carryalllaw10_awake.mono _
      | exact carryalllaw10_few.mono _ _
      | exact carryallref10_Same.mono _ _ _
      | exact path_Walk.mono _ _ _ _ _
      | exact LeO.none _
      | refine LeO.ite ?_ ?_
      | refine LeO.bind ?_ (fun _ => ?_)
    · intro y0 y1 y2 y3 y4 y5 y6
      unfold carryalllaw10_PathPlain.l0
      repeat' first
      | (with_reducible exact ih0 _ _ _ _ _)
      | (with_reducible exact ih1 _ _ _ _ _ _ _)
      | (with_reducible exact carryalllaw10_awake.mono _)
      | (with_reducible exact carryalllaw10_few.mono _ _)
      | (with_reducible exact carryallref10_Same.mono _ _ _)
      | (with_reducible exact path_Walk.mono _ _ _ _ _)
      | (with_reducible exact LeO.refl _)
      | (with_reducible exact LeO.none _)
      | (with_reducible refine LeO.ite ?_ ?_)
      | (with_reducible refine LeO.bind ?_ (fun _ => ?_))
      | exact ih0 _ _ _ _ _
      | exact ih1 _ _ _ _ _ _ _
      | exact carryalllaw10_awake.mono _
      | exact carryalllaw10_few.mono _ _
      | exact carryallref10_Same.mono _ _ _
      | exact path_Walk.mono _ _ _ _ _
      | exact LeO.none _
      | refine LeO.ite ?_ ?_
      | refine LeO.bind ?_ (fun _ => ?_)
theorem carryalllaw10_PathPlain.mono : ∀ a0 a1 a2 a3 k, LeO (carryalllaw10_PathPlain.f k a0 a1 a2 a3) (carryalllaw10_PathPlain.f (k + 1) a0 a1 a2 a3) := by
  intro a0 a1 a2 a3 k
  obtain ⟨ih0, ih1⟩ := carryalllaw10_PathPlain.mono_l k
  unfold carryalllaw10_PathPlain.f
  repeat' first
      | (with_reducible exact ih0 _ _ _ _ _)
      | (with_reducible exact ih1 _ _ _ _ _ _ _)
      | (with_reducible exact carryalllaw10_awake.mono _)
      | (with_reducible exact carryalllaw10_few.mono _ _)
      | (with_reducible exact carryallref10_Same.mono _ _ _)
      | (with_reducible exact path_Walk.mono _ _ _ _ _)
      | (with_reducible exact LeO.refl _)
      | (with_reducible exact LeO.none _)
      | (with_reducible refine LeO.ite ?_ ?_)
      | (with_reducible refine LeO.bind ?_ (fun _ => ?_))
      | exact ih0 _ _ _ _ _
      | exact ih1 _ _ _ _ _ _ _
      | exact carryalllaw10_awake.mono _
      | exact carryalllaw10_few.mono _ _
      | exact carryallref10_Same.mono _ _ _
      | exact path_Walk.mono _ _ _ _ _
      | exact LeO.none _
      | refine LeO.ite ?_ ?_
      | refine LeO.bind ?_ (fun _ => ?_)
set_option maxHeartbeats 8000000 in
set_option maxRecDepth 100000 in
theorem carryalllaw10_PathPlain.calls (k : Nat) (a0 : Bool) (a1 : Bool) (A2 : Option Addr) (c2 : Nat) (l2 : List ByteArray) (a3 : Int) (r : Bool) (w : World) (hr2 : Kd.C Kd.string w A2 l2.length l2) (hc2 : l2.length ≤ c2) (h : carryalllaw10_PathPlain.f k a0 a1 l2 a3 = some r) (hT : Go.Proofs.YtpdkncchjkkmeaaDoor.G.T w) :
    Calls Tryd.prog 5 #[.bool a0, .bool a1, .slice A2 l2.length c2, .int .u8 a3] w fun e w' => e = .returned (.bool r) ∧ Below w.heap.size w w' := by
  have HT := Aside0.mk hT
  clear hT
  have HR2 := Aside0.mk hr2
  have HC2 := Aside0.mk hc2
  clear hr2 hc2
  have HB := Aside0.mk (Below.refl w.heap.size w)
  have H : ((carryalllaw10_awake.f k).bind fun t322 => (if t322 = true then ((carryalllaw10_few.f k l2).bind fun t323 => (carryalllaw10_PathPlain.j0 k a0 a1 l2 a3 (!t323))) else (carryalllaw10_PathPlain.j0 k a0 a1 l2 a3 true))) = some r := h
  clear h
  have HC5 := Aside0.mk H
  clear H
  go_enter Tryd.func5, Tryd.ntmps5
  go_upto_region 1 with (fail)
  go_cut [19] (fun v19 wc => ∃ (kq : Nat) (x19_4 : Bool), v19 = .bool x19_4 ∧ Aside0 (carryalllaw10_PathPlain.j0 kq a0 a1 l2 a3 x19_4 = some r) ∧ Aside0 (kq ≤ k) ∧ Aside0 (Below w.heap.size w wc))
  case first =>
    have H := HC5.out
    clear HC5
    replace H := Option.bind_eq_some_iff.mp H
    obtain ⟨t322, A60, H⟩ := H
    replace H : (if t322 = true then ((carryalllaw10_few.f k l2).bind fun t323 => (carryalllaw10_PathPlain.j0 k a0 a1 l2 a3 (!t323))) else (carryalllaw10_PathPlain.j0 k a0 a1 l2 a3 true)) = some r := H
    have A6 := Aside0.mk A60
    clear A60
    by_cases c7 : t322 = true
    · subst c7
      have H1 : ((carryalllaw10_few.f k l2).bind fun t323 => (carryalllaw10_PathPlain.j0 k a0 a1 l2 a3 (!t323))) = some r := by rw [if_pos rfl] at H; exact H
      clear H
      have H := H1
      clear H1
      replace H := Option.bind_eq_some_iff.mp H
      obtain ⟨t323, A80, H⟩ := H
      replace H : (carryalllaw10_PathPlain.j0 k a0 a1 l2 a3 (!t323)) = some r := H
      have A8 := Aside0.mk A80
      clear A80
      have H' := Aside0.mk H
      clear H
      go_wp2_with (first | ((with_reducible refine gate_callee (f := 7) rfl ?_); refine goesL_ (some 13) rfl rfl Tryd.func7 (by kernel_rfl) rfl #[] rfl (by (try simp only [List.map_toArray, List.map_cons, List.map_nil]); first | done | rfl | (simp only [List.length_drop, List.length_take]; rfl)) ?_; (with_reducible refine (carryalllaw10_awake.calls k  true _ A6.out (Go.Proofs.YtpdkncchjkkmeaaDoor.G.T_below HT.out (by repeat (first | (with_reducible first | exact HB.out | apply below_alloc | apply pw_below_drewN | apply below_drew1) | exact HB.out)))).mono ?_); rintro e w9 ⟨rfl, hb⟩; refine ⟨_, rfl, ?_⟩; have n0_ := Aside0.mk (below_step (by repeat (first | (with_reducible first | exact HB.out | apply below_alloc | apply pw_below_drewN | apply below_drew1) | exact HB.out)) hb); clear HB; have HB := n0_; clear n0_; (try clear hb); (try clear hb2); (try clear hk); (try clear hi)) | (go_at_call 8; (with_reducible refine (carryalllaw10_few.calls k _ _ l2 t323 _ ?side1 ?side2 A8.out).mono ?_); (case side1 => repeat (first | exact (Kd.C_below HR2.out HB.out) | (with_reducible refine Kd.C_alloc ?_ _) | (with_reducible refine Kd.C_drewN ?_ _) | (with_reducible refine Kd.C_drew ?_))); (case side2 => exact HC2.out); rintro e w' ⟨rfl, ⟨nd, rfl⟩⟩))
      go_meet
      case rel => exact ⟨_, (!t323), (by first | rfl | (simp; done) | (simp [*]; done) | (simp [Go.Proofs.YtpdkncchjkkmeaaDoor.G.isEmpty_ne]; done)), H', ⟨by first | omega | exact Nat.le_refl _⟩, ⟨by repeat (first | (with_reducible first | exact HB.out | apply below_alloc | apply pw_below_drewN | apply below_drew1) | exact HB.out)⟩⟩
    · replace c7 := Bool.eq_false_iff.mpr c7
      subst c7
      have H1 : (carryalllaw10_PathPlain.j0 k a0 a1 l2 a3 true) = some r := by rw [if_neg (show ¬ (false = true) by decide)] at H; exact H
      clear H
      have H := H1
      clear H1
      have H' := Aside0.mk H
      clear H
      go_wp2_with (first | ((with_reducible refine gate_callee (f := 7) rfl ?_); refine goesL_ (some 13) rfl rfl Tryd.func7 (by kernel_rfl) rfl #[] rfl (by (try simp only [List.map_toArray, List.map_cons, List.map_nil]); first | done | rfl | (simp only [List.length_drop, List.length_take]; rfl)) ?_; (with_reducible refine (carryalllaw10_awake.calls k  false _ A6.out (Go.Proofs.YtpdkncchjkkmeaaDoor.G.T_below HT.out (by repeat (first | (with_reducible first | exact HB.out | apply below_alloc | apply pw_below_drewN | apply below_drew1) | exact HB.out)))).mono ?_); rintro e w10 ⟨rfl, hb⟩; refine ⟨_, rfl, ?_⟩; have n0_ := Aside0.mk (below_step (by repeat (first | (with_reducible first | exact HB.out | apply below_alloc | apply pw_below_drewN | apply below_drew1) | exact HB.out)) hb); clear HB; have HB := n0_; clear n0_; (try clear hb); (try clear hb2); (try clear hk); (try clear hi)))
      go_meet
      case rel => exact ⟨_, (true), (by first | rfl | (simp; done) | (simp [*]; done) | (simp [Go.Proofs.YtpdkncchjkkmeaaDoor.G.isEmpty_ne]; done)), H', ⟨by first | omega | exact Nat.le_refl _⟩, ⟨by repeat (first | (with_reducible first | exact HB.out | apply below_alloc | apply pw_below_drewN | apply below_drew1) | exact HB.out)⟩⟩
  case rest =>
    clear HC5
    try clear c2
    try clear p2
    try clear c5
    try clear c7
    obtain ⟨kq, x19_4, rfl, HA, HJ4, HB⟩ := hcut
    cases kq with
    | zero => exact absurd HA.out (by simp [carryalllaw10_PathPlain.j0])
    | succ kj4 =>
      have H := HA.out
      clear HA
      simp only [carryalllaw10_PathPlain.j0] at H
      by_cases c11 : x19_4 = true
      · subst c11
        have H1 : ((carryalllaw10_awake.f kj4).bind fun t324 => (some t324)) = some r := by rw [if_pos rfl] at H; exact H
        clear H
        have H := H1
        clear H1
        replace H := Option.bind_eq_some_iff.mp H
        obtain ⟨t324, A120, H⟩ := H
        replace H : (some t324) = some r := H
        have A12 := Aside0.mk A120
        clear A120
        obtain rfl := Option.some.inj H
        go_wp2_with (first | ((with_reducible refine gate_callee (f := 7) rfl ?_); refine goesL_ (some 20) rfl rfl Tryd.func7 (by kernel_rfl) rfl #[] rfl (by (try simp only [List.map_toArray, List.map_cons, List.map_nil]); first | done | rfl | (simp only [List.length_drop, List.length_take]; rfl)) ?_; (with_reducible refine (carryalllaw10_awake.calls kj4  t324 _ A12.out (Go.Proofs.YtpdkncchjkkmeaaDoor.G.T_below HT.out (by repeat (first | (with_reducible first | exact HB.out | apply below_alloc | apply pw_below_drewN | apply below_drew1) | exact HB.out)))).mono ?_); rintro e w13 ⟨rfl, hb⟩; refine ⟨_, rfl, ?_⟩; have n0_ := Aside0.mk (below_step (by repeat (first | (with_reducible first | exact HB.out | apply below_alloc | apply pw_below_drewN | apply below_drew1) | exact HB.out)) hb); clear HB; have HB := n0_; clear n0_; (try clear hb); (try clear hb2); (try clear hk); (try clear hi)))
        go_ret
        exact ⟨by first | rfl | (simp [errW_none, errW_some] <;> rfl) | (simp [*, errW_none, errW_some] <;> rfl) | (simp [errW_none, errW_some, Go.Proofs.YtpdkncchjkkmeaaDoor.G.isEmpty_ne]; done), by repeat (first | (with_reducible first | exact HB.out | apply below_alloc | apply pw_below_drewN | apply below_drew1) | exact HB.out)⟩
      · replace c11 := Bool.eq_false_iff.mpr c11
        subst c11
        have H1 : ((some (([] : List ByteArray) : List ByteArray)).bind fun y325 => (if y325.length + l2.length < 8796093022208 then ((some (y325 ++ l2 : List ByteArray)).bind fun y328 => (if y328.length < 8796093022208 then (carryalllaw10_PathPlain.l0 kj4 a0 a1 l2 (⟨#[120, 48]⟩ : ByteArray) (y328 ++ [(⟨#[120, 48]⟩ : ByteArray)]) (wrap64 (Int.tmod a3 20)) 0) else (none))) else (none))) = some r := by rw [if_neg (show ¬ (false = true) by decide)] at H; exact H
        clear H
        have H := H1
        clear H1
        obtain ⟨y325, hy325⟩ : ∃ y_ : List ByteArray, y_ = (([] : List ByteArray)) := ⟨_, rfl⟩
        replace H : (if y325.length + l2.length < 8796093022208 then ((some (y325 ++ l2 : List ByteArray)).bind fun y328 => (if y328.length < 8796093022208 then (carryalllaw10_PathPlain.l0 kj4 a0 a1 l2 (⟨#[120, 48]⟩ : ByteArray) (y328 ++ [(⟨#[120, 48]⟩ : ByteArray)]) (wrap64 (Int.tmod a3 20)) 0) else (none))) else (none)) = some r := by first | (rw [hy325]; with_reducible exact H) | (have H2_ := (Option.bind_some _ _).symm.trans H; rw [hy325]; with_reducible exact H2_) | (have H2_ := (Option.bind_some _ _).symm.trans H; with_reducible exact H2_) | with_reducible exact H | (rw [hy325]; exact H) | exact H
        have Ny325 := Aside0.mk hy325
        clear hy325
        by_cases c14 : y325.length + l2.length < 8796093022208
        · rw [if_pos c14] at H
          have LMc14 := Aside0.mk c14
          clear c14
          obtain ⟨y328, hy328⟩ : ∃ y_ : List ByteArray, y_ = (y325 ++ l2) := ⟨_, rfl⟩
          replace H : (if y328.length < 8796093022208 then (carryalllaw10_PathPlain.l0 kj4 a0 a1 l2 (⟨#[120, 48]⟩ : ByteArray) (y328 ++ [(⟨#[120, 48]⟩ : ByteArray)]) (wrap64 (Int.tmod a3 20)) 0) else (none)) = some r := by first | (rw [hy328]; with_reducible exact H) | (have H2_ := (Option.bind_some _ _).symm.trans H; rw [hy328]; with_reducible exact H2_) | (have H2_ := (Option.bind_some _ _).symm.trans H; with_reducible exact H2_) | with_reducible exact H | (rw [hy328]; exact H) | exact H
          have Ny328 := Aside0.mk hy328
          clear hy328
          by_cases c15 : y328.length < 8796093022208
          · rw [if_pos c15] at H
            have LMc15 := Aside0.mk c15
            clear c15
            obtain ⟨y331, hy331⟩ : ∃ y_ : List ByteArray, y_ = (y328 ++ [(⟨#[120, 48]⟩ : ByteArray)]) := ⟨_, rfl⟩
            replace H : (carryalllaw10_PathPlain.l0 kj4 a0 a1 l2 (⟨#[120, 48]⟩ : ByteArray) y331 (wrap64 (Int.tmod a3 20)) 0) = some r := by first | (rw [hy331]; with_reducible exact H) | (have H2_ := (Option.bind_some _ _).symm.trans H; rw [hy331]; with_reducible exact H2_) | (have H2_ := (Option.bind_some _ _).symm.trans H; with_reducible exact H2_) | with_reducible exact H | (rw [hy331]; exact H) | exact H
            have Ny331 := Aside0.mk hy331
            clear hy331
            have H' := Aside0.mk H
            clear H
            go_wp2_with (first | ((with_reducible refine gate_dst (N := 21) rfl ?_); refine Kd.R_lit Kd.string _ 9 ?hg (N := 21) ?hd (xs := ([] : List ByteArray)) (inner := []) (ok := fun _ => True) (okp := fun _ => True) ?hr ?hp (fun _ hk => hk) trivial (Below.refl _ _) (Nat.le_refl _) (by simp) ?_; (case hd => rfl); (case hg => rfl); (case hr => first | (go_simp; done) | (go_simp; rfl)); (case hp => exact (Reps.none _ _)); intro v326 w16 ho17 hb hg_ hnew_; clear hg_ hnew_; (first | rw [← Ny325.out] at ho17 | (simp only [Int.reduceToNat] at ho17; rw [← Ny325.out] at ho17)); have n0_ := Aside0.mk (Kd.R_lower ho17 (below_size (by repeat (first | (with_reducible first | exact HB.out | apply below_alloc | apply pw_below_drewN | apply below_drew1) | exact HB.out)))); have n1_ := Aside0.mk (below_step (by repeat (first | (with_reducible first | exact HB.out | apply below_alloc | apply pw_below_drewN | apply below_drew1) | exact HB.out)) hb); clear HB; have HO327 := n0_; have HB := n1_; clear n0_ n1_; clear hb ho17) | ((with_reducible refine gate_builtin (b := .append) (xs := #[.tmp 21, .tmp 22]) rfl ?_); at_builtin; refine Kd.R_append_rows Kd.string (w0 := w) w.heap.size rfl (.tmp 21) (.tmp 22) 22 9 (.string ⟨#[]⟩) 16 rfl Tryd.underlying22 info9 rfl (by decide) (by omega) v326 y325 l2 _ _ _ (fun _ => True) (fun _ => False) rfl rfl ?aO ?aR (fun _ _ h => h) (fun _ h => h.elim) ?aF ?aB ?aS ?aL ?_; (case aR => repeat (first | exact (Kd.C_below HR2.out HB.out) | (with_reducible refine Kd.C_alloc ?_ _) | (with_reducible refine Kd.C_drewN ?_ _) | (with_reducible refine Kd.C_drew ?_))); (case aB => exact (by repeat (first | (with_reducible first | exact HB.out | apply below_alloc | apply pw_below_drewN | apply below_drew1) | exact HB.out))); (case aF => exact (fun _ _ => trivial)); (case aO => exact (by (with_reducible repeat (first | apply Kd.R_alloc | apply Kd.R_drewN | apply Kd.R_drew)); exact HO327.out)); (case aS => exact (below_size (by repeat (first | (with_reducible first | exact HB.out | apply below_alloc | apply pw_below_drewN | apply below_drew1) | exact HB.out)))); (case aL => have := LMc14.out; omega); intro v329 w18 ho hb hg hat; rw [← Ny328.out] at ho; have n0_ := Aside0.mk (hb); have n1_ := Aside0.mk (ho); clear HB; clear HO327; have HB := n0_; have HO330 := n1_; clear n0_ n1_; clear ho hb hg hat) | ((with_reducible refine gate_builtin (b := .append) (xs := #[.tmp 23, .tmp 24]) rfl ?_); at_builtin; refine Kd.R_append Kd.string (w0 := w) w.heap.size rfl (.tmp 23) (.tmp 24) 22 9 (.string ⟨#[]⟩) 16 rfl Tryd.underlying22 info9 rfl (by decide) (by omega) v329 y328 (⟨#[120, 48]⟩ : ByteArray) [.string (⟨#[120, 48]⟩ : ByteArray)] (fun _ => True) (fun _ => False) rfl rfl ?aP (fun _ hk => hk.elim) ?aF ?aO ?aB ?aS ?aL ?_; (case aP => exact rfl); (case aB => exact (by repeat (first | (with_reducible first | exact HB.out | apply below_alloc | apply pw_below_drewN | apply below_drew1) | exact HB.out))); (case aF => exact (fun _ _ => trivial)); (case aO => exact (by (with_reducible repeat (first | apply Kd.R_alloc | apply Kd.R_drewN | apply Kd.R_drew)); exact HO330.out)); (case aS => exact (below_size (by repeat (first | (with_reducible first | exact HB.out | apply below_alloc | apply pw_below_drewN | apply below_drew1) | exact HB.out)))); (case aL => have := LMc15.out; omega); intro v332 w19 ho hb hg hat; rw [← Ny331.out] at ho; have n0_ := Aside0.mk (hb); have n1_ := Aside0.mk (ho); clear HB; clear HO330; have HB := n0_; have HO333 := n1_; clear n0_ n1_; clear ho hb hg hat))
            go_loopg [9, 10, 29] kj4 (fun kq v9 v10 v29 w' => ∃ (x9_2 : ByteArray) (x10_2 : List ByteArray) (x29_2 : Int), v9 = .string x9_2 ∧ v29 = .int .i64 x29_2 ∧ Aside0 (carryalllaw10_PathPlain.l0 kq a0 a1 l2 x9_2 x10_2 (wrap64 (Int.tmod a3 20)) x29_2 = some r) ∧ Aside0 (kq ≤ kj4) ∧ Aside0 (Kd.R Kd.string 9 w' w.heap.size (fun _ => True) v10 x10_2) ∧ Aside0 (Below w.heap.size w w'))
            case atStart => exact ⟨((⟨#[120, 48]⟩ : ByteArray)), (y331), (0), (by first | rfl | (simp; done) | (simp [*]; done) | (simp [Go.Proofs.YtpdkncchjkkmeaaDoor.G.isEmpty_ne]; done)), (by first | rfl | (simp; done) | (simp [*]; done) | (simp [Go.Proofs.YtpdkncchjkkmeaaDoor.G.isEmpty_ne]; done)), H', ⟨Nat.le_refl _⟩, ⟨by (with_reducible repeat (first | apply Kd.R_alloc | apply Kd.R_drewN | apply Kd.R_drew)); exact HO333.out⟩, ⟨by repeat (first | (with_reducible first | exact HB.out | apply below_alloc | apply pw_below_drewN | apply below_drew1) | exact HB.out)⟩⟩
            case round =>
              clear H'
              try clear c1
              try clear c2
              try clear p2
              try clear c5
              try clear p6
              try clear c7
              try clear c11
              try clear c14
              try clear c15
              try clear p2
              obtain ⟨x9_2, x10_2, x29_2, rfl, rfl, HA, HK2, HO_10, HB⟩ := hrel
              cases gk with
              | zero => exact absurd HA.out (by simp [carryalllaw10_PathPlain.l0])
              | succ k2 =>
                have H := HA.out
                clear HA
                simp only [carryalllaw10_PathPlain.l0] at H
                by_cases c20 : x29_2 < (wrap64 (Int.tmod a3 20))
                · rw [if_pos c20] at H
                  have c20b0 : decide (x29_2 < (wrap64 (Int.tmod a3 20))) = true := decide_eq_true c20
                  clear c20
                  obtain ⟨y334, hy334⟩ : ∃ y_ : List Int, y_ = (([(97 + ((x29_2) % 256)) % 256] : List Int)) := ⟨_, rfl⟩
                  replace H : (if 1 + (strOfNums y334).size ≤ 9223372036854775807 then (if x9_2.size + 1 ≤ 9223372036854775807 then (if (x9_2 ++ (⟨#[47]⟩ : ByteArray)).size + ((⟨#[121]⟩ : ByteArray) ++ (strOfNums y334)).size ≤ 9223372036854775807 then (if x10_2.length < 8796093022208 then (carryalllaw10_PathPlain.l0 k2 a0 a1 l2 ((x9_2 ++ (⟨#[47]⟩ : ByteArray)) ++ ((⟨#[121]⟩ : ByteArray) ++ (strOfNums y334))) (x10_2 ++ [(⟨#[121]⟩ : ByteArray) ++ (strOfNums y334)]) (wrap64 (Int.tmod a3 20)) (wrap64 (x29_2 + 1))) else (none)) else (none)) else (none)) else (none)) = some r := by first | (rw [hy334]; with_reducible exact H) | (have H2_ := (Option.bind_some _ _).symm.trans H; rw [hy334]; with_reducible exact H2_) | (have H2_ := (Option.bind_some _ _).symm.trans H; with_reducible exact H2_) | with_reducible exact H | (rw [hy334]; exact H) | exact H
                  have Ny334 := Aside0.mk hy334
                  clear hy334
                  by_cases c21 : 1 + (strOfNums y334).size ≤ 9223372036854775807
                  · rw [if_pos c21] at H
                    have c21b0 := eq_true c21
                    have c21b1 : decide (1 + (strOfNums y334).size ≤ 9223372036854775807) = true := decide_eq_true c21
                    try have c21b2 : (9223372036854775807 < 1 + (strOfNums y334).size) = False := eq_false (Nat.not_lt.2 c21)
                    by_cases c22 : x9_2.size + 1 ≤ 9223372036854775807
                    · rw [if_pos c22] at H
                      have c22b0 := eq_true c22
                      have c22b1 : decide (x9_2.size + 1 ≤ 9223372036854775807) = true := decide_eq_true c22
                      try have c22b2 : (9223372036854775807 < x9_2.size + 1) = False := eq_false (Nat.not_lt.2 c22)
                      by_cases c23 : (x9_2 ++ (⟨#[47]⟩ : ByteArray)).size + ((⟨#[121]⟩ : ByteArray) ++ (strOfNums y334)).size ≤ 9223372036854775807
                      · rw [if_pos c23] at H
                        have c23b0 := eq_true c23
                        have c23b1 : decide ((x9_2 ++ (⟨#[47]⟩ : ByteArray)).size + ((⟨#[121]⟩ : ByteArray) ++ (strOfNums y334)).size ≤ 9223372036854775807) = true := decide_eq_true c23
                        try have c23b2 : (9223372036854775807 < (x9_2 ++ (⟨#[47]⟩ : ByteArray)).size + ((⟨#[121]⟩ : ByteArray) ++ (strOfNums y334)).size) = False := eq_false (Nat.not_lt.2 c23)
                        try (have c23b3 := c23b2; simp only [ByteArray.size_append, Go.Proofs.YtpdkncchjkkmeaaDoor.G.ba_size, List.size_toArray, List.length_cons, List.length_nil, Nat.zero_add, Nat.reduceAdd] at c23b3)
                        by_cases c24 : x10_2.length < 8796093022208
                        · rw [if_pos c24] at H
                          have LMc24 := Aside0.mk c24
                          clear c24
                          obtain ⟨y337, hy337⟩ : ∃ y_ : List ByteArray, y_ = (x10_2 ++ [(⟨#[121]⟩ : ByteArray) ++ (strOfNums y334)]) := ⟨_, rfl⟩
                          replace H : (carryalllaw10_PathPlain.l0 k2 a0 a1 l2 ((x9_2 ++ (⟨#[47]⟩ : ByteArray)) ++ ((⟨#[121]⟩ : ByteArray) ++ (strOfNums y334))) y337 (wrap64 (Int.tmod a3 20)) (wrap64 (x29_2 + 1))) = some r := by first | (rw [hy337]; with_reducible exact H) | (have H2_ := (Option.bind_some _ _).symm.trans H; rw [hy337]; with_reducible exact H2_) | (have H2_ := (Option.bind_some _ _).symm.trans H; with_reducible exact H2_) | with_reducible exact H | (rw [hy337]; exact H) | exact H
                          have Ny337 := Aside0.mk hy337
                          clear hy337
                          have H' := Aside0.mk H
                          clear H
                          go_wp2_with (first | ((with_reducible refine gate_dst (N := 35) rfl ?_); refine Kd.R_lit (Kd.int .u8) _ 5 ?hg (N := 35) ?hd (xs := ([(97 + ((x29_2) % 256)) % 256] : List Int)) (inner := [.int .u8 ((97 + ((x29_2) % 256)) % 256)]) (ok := fun _ => True) (okp := fun _ => True) ?hr ?hp (fun _ hk => hk) trivial (Below.refl _ _) (Nat.le_refl _) (by simp) ?_; (case hd => rfl); (case hg => rfl); (case hr => first | (go_simp; done) | (go_simp; rfl)); (case hp => exact (Reps.one (show Kd.M (Kd.int .u8) _ _ _ ((97 + ((x29_2) % 256)) % 256) [.int .u8 ((97 + ((x29_2) % 256)) % 256)] from rfl) (Reps.none _ _))); intro v335 w25 ho26 hb hg_ hnew_; clear hg_ hnew_; (first | rw [← Ny334.out] at ho26 | (simp only [Int.reduceToNat] at ho26; rw [← Ny334.out] at ho26)); have n0_ := Aside0.mk (Kd.R_below (by (with_reducible repeat (first | apply Kd.R_alloc | apply Kd.R_drewN | apply Kd.R_drew)); exact HO_10.out) hb); have n1_ := Aside0.mk (Kd.R_lower ho26 (below_size (by repeat (first | (with_reducible first | exact HB.out | apply below_alloc | apply pw_below_drewN | apply below_drew1) | exact HB.out)))); have n2_ := Aside0.mk (below_step (by repeat (first | (with_reducible first | exact HB.out | apply below_alloc | apply pw_below_drewN | apply below_drew1) | exact HB.out)) hb); clear HO_10; clear HB; have HO_10 := n0_; have HO336 := n1_; have HB := n2_; clear n0_ n1_ n2_; clear hb ho26; have hcv27 := own_string (P := Tryd.prog) Tryd.underlying31 Tryd.underlying5 Tryd.underlying9 (Kd.own_of_R HO336.out)) | ((with_reducible refine gate_builtin (b := .append) (xs := #[.tmp 42, .tmp 44]) rfl ?_); at_builtin; refine Kd.R_append Kd.string (w0 := w) w.heap.size rfl (.tmp 42) (.tmp 44) 22 9 (.string ⟨#[]⟩) 16 rfl Tryd.underlying22 info9 rfl (by decide) (by omega) u10 x10_2 ((⟨#[121]⟩ : ByteArray) ++ (strOfNums y334)) [.string ((⟨#[121]⟩ : ByteArray) ++ (strOfNums y334))] (fun _ => True) (fun _ => False) rfl rfl ?aP (fun _ hk => hk.elim) ?aF ?aO ?aB ?aS ?aL ?_; (case aP => exact rfl); (case aB => exact (by repeat (first | (with_reducible first | exact HB.out | apply below_alloc | apply pw_below_drewN | apply below_drew1) | exact HB.out))); (case aF => exact (fun _ _ => trivial)); (case aO => exact (by (with_reducible repeat (first | apply Kd.R_alloc | apply Kd.R_drewN | apply Kd.R_drew)); exact HO_10.out)); (case aS => exact (below_size (by repeat (first | (with_reducible first | exact HB.out | apply below_alloc | apply pw_below_drewN | apply below_drew1) | exact HB.out)))); (case aL => have := LMc24.out; omega); intro v338 w28 ho hb hg hat; rw [← Ny337.out] at ho; have n0_ := Aside0.mk (Kd.R_over' (by (with_reducible repeat (first | apply Kd.R_alloc | apply Kd.R_drewN | apply Kd.R_drew)); exact HO336.out) (Kd.R_typed (by (with_reducible repeat (first | apply Kd.R_alloc | apply Kd.R_drewN | apply Kd.R_drew)); exact HO_10.out)) (by decide) hg); have n1_ := Aside0.mk (hb); have n2_ := Aside0.mk (ho); clear HO336; clear HB; clear HO_10; have HO336 := n0_; have HB := n1_; have HO339 := n2_; clear n0_ n1_ n2_; clear ho hb hg hat))
                          go_roundg k2
                          case measure => have := HJ4.out; have := HK2.out; omega
                          case rel => exact ⟨((x9_2 ++ (⟨#[47]⟩ : ByteArray)) ++ ((⟨#[121]⟩ : ByteArray) ++ (strOfNums y334))), (y337), (wrap64 (x29_2 + 1)), (by first | rfl | (simp; done) | (simp [*]; done) | (simp [Go.Proofs.YtpdkncchjkkmeaaDoor.G.isEmpty_ne]; done)), (by first | rfl | (simp; done) | (simp [*]; done) | (simp [Go.Proofs.YtpdkncchjkkmeaaDoor.G.isEmpty_ne]; done)), H', ⟨by have := HJ4.out; have := HK2.out; omega⟩, ⟨by (with_reducible repeat (first | apply Kd.R_alloc | apply Kd.R_drewN | apply Kd.R_drew)); exact HO339.out⟩, ⟨by repeat (first | (with_reducible first | exact HB.out | apply below_alloc | apply pw_below_drewN | apply below_drew1) | exact HB.out)⟩⟩
                        · rw [if_neg c24] at H
                          exact absurd H (by simp)
                      · rw [if_neg c23] at H
                        exact absurd H (by simp)
                    · rw [if_neg c22] at H
                      exact absurd H (by simp)
                  · rw [if_neg c21] at H
                    exact absurd H (by simp)
                · rw [if_neg c20] at H
                  have c20b0 : decide (x29_2 < (wrap64 (Int.tmod a3 20))) = false := decide_eq_false c20
                  clear c20
                  replace H := Option.bind_eq_some_iff.mp H
                  obtain ⟨t340, A290, H⟩ := H
                  replace H : ((carryallref10_Same.f k2 t340 x10_2).bind fun t343 => (some t343)) = some r := H
                  have A29 := Aside0.mk A290
                  clear A290
                  replace H := Option.bind_eq_some_iff.mp H
                  obtain ⟨t343, A300, H⟩ := H
                  replace H : (some t343) = some r := H
                  have A30 := Aside0.mk A300
                  clear A300
                  obtain rfl := Option.some.inj H
                  go_wp2_with (first | ((with_reducible refine gate_callee (f := 9) rfl ?_); refine goesL_ (some 51) rfl rfl Tryd.func9 (by kernel_rfl) rfl #[.bool a0, .bool a1, .slice A2 l2.length c2, .string x9_2] rfl (by (try simp only [List.map_toArray, List.map_cons, List.map_nil]); first | done | rfl | (simp only [List.length_drop, List.length_take]; rfl)) ?_; (with_reducible refine (path_Walk.calls k2 a0 a1 _ _ l2 x9_2 t340 _ ?side1 ?side2 A29.out (Go.Proofs.YtpdkncchjkkmeaaDoor.G.T_below HT.out (by repeat (first | (with_reducible first | exact HB.out | apply below_alloc | apply pw_below_drewN | apply below_drew1) | exact HB.out)))).mono ?_); (case side1 => repeat (first | exact (Kd.C_below HR2.out HB.out) | (with_reducible refine Kd.C_alloc ?_ _) | (with_reducible refine Kd.C_drewN ?_ _) | (with_reducible refine Kd.C_drew ?_))); (case side2 => exact HC2.out); rintro e w31 ⟨v341, rfl, ho0, hb⟩; refine ⟨_, rfl, ?_⟩; have n0_ := Aside0.mk (Kd.R_elder' (by (with_reducible repeat (first | apply Kd.R_alloc | apply Kd.R_drewN | apply Kd.R_drew)); exact HO_10.out) (Kd.R_base ho0) hb); have n1_ := Aside0.mk (Kd.R_lower (Kd.R_new' ho0 (Kd.R_lt (by (with_reducible repeat (first | apply Kd.R_alloc | apply Kd.R_drewN | apply Kd.R_drew)); exact HO_10.out))) (below_size (by repeat (first | (with_reducible first | exact HB.out | apply below_alloc | apply pw_below_drewN | apply below_drew1) | exact HB.out)))); have n2_ := Aside0.mk (below_step (by repeat (first | (with_reducible first | exact HB.out | apply below_alloc | apply pw_below_drewN | apply below_drew1) | exact HB.out)) hb); clear HO_10; clear HB; have HO_10 := n0_; have HO342 := n1_; have HB := n2_; clear n0_ n1_ n2_; (try clear hb); (try clear hb2); (try clear hk); (try clear hi); (try clear ho0); obtain ⟨Ao32, co32, eo32⟩ := Kd.R_slice HO342.out; subst eo32; obtain ⟨Ao33, co33, eo33⟩ := Kd.R_slice HO_10.out; subst eo33) | ((with_reducible refine gate_callee (f := 11) rfl ?_); refine goesL_ (some 53) rfl rfl Tryd.func11 (by kernel_rfl) rfl #[.slice Ao32 t340.length co32, .slice Ao33 x10_2.length co33] rfl (by (try simp only [List.map_toArray, List.map_cons, List.map_nil]); first | done | rfl | (simp only [List.length_drop, List.length_take]; rfl)) ?_; (with_reducible refine (carryallref10_Same.calls k2 _ _ t340 _ _ x10_2 t343 _ ?side1 ?side2 ?side3 ?side4 A30.out).mono ?_); (case side1 => repeat (first | exact (Kd.R_reads' HO342.out).2.2 | (with_reducible refine Kd.C_alloc ?_ _) | (with_reducible refine Kd.C_drewN ?_ _) | (with_reducible refine Kd.C_drew ?_))); (case side2 => exact (Kd.R_reads' HO342.out).2.1); (case side3 => repeat (first | exact (Kd.R_reads' HO_10.out).2.2 | (with_reducible refine Kd.C_alloc ?_ _) | (with_reducible refine Kd.C_drewN ?_ _) | (with_reducible refine Kd.C_drew ?_))); (case side4 => exact (Kd.R_reads' HO_10.out).2.1); rintro e w' ⟨rfl, ⟨nd, rfl⟩⟩; refine ⟨_, rfl, ?_⟩))
                  go_ret
                  exact ⟨by first | rfl | (simp [errW_none, errW_some] <;> rfl) | (simp [*, errW_none, errW_some] <;> rfl) | (simp [errW_none, errW_some, Go.Proofs.YtpdkncchjkkmeaaDoor.G.isEmpty_ne]; done), by repeat (first | (with_reducible first | exact HB.out | apply below_alloc | apply pw_below_drewN | apply below_drew1) | exact HB.out)⟩
          · rw [if_neg c15] at H
            exact absurd H (by simp)
        · rw [if_neg c14] at H
          exact absurd H (by simp)

end Go.Proofs.YtpdkncchjkkmeaaDoor.P
