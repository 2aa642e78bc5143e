-- Written for this claim by a program of this session's (not a text of the kit's print).
import Derived.Test.YtflhnhjbbddgmaaDoorPx0
import Derived.Test.YtflhnhjbbddgmaaDoorPx1
namespace Go.Proofs.YtflhnhjbbddgmaaDoor.P
open Go.RowKit Go.Proofs.YtflhnhjbbddgmaaDoorW.PrintWords Go.Proofs.YtflhnhjbbddgmaaDoorW.PrintLast Go.Proofs.YtflhnhjbbddgmaaDoorW.PrintMore
attribute [local go_sem] max2_int min2_int max_two min_two max_three min_three max_four min_four   -- for this text's walks alone
set_option linter.unusedVariables false
set_option linter.unusedSimpArgs false

/-! ### carryalllaw04_TokenParts: function 3 -/
def carryalllaw04_TokenParts.j0 : Nat → ByteArray → ByteArray → Bool → Option (Bool)
  | 0, _, _, _ => none
  | k + 1, x0, x1, x16 => if x16 = true then ((carryalllaw04_awake.f k).bind fun t120 => (some t120)) else ((token_Is.f k x0).bind fun t121 => (if t121 = true then ((token_Is.f k x1).bind fun t122 => (if t122 = true then (if x0.size + x1.size ≤ 9223372036854775807 then ((token_Is.f k (x0 ++ x1)).bind fun t123 => (some (t123 == ((x0 ++ x1).toList != ([] : List UInt8))))) else (none)) else (if x0.size + x1.size ≤ 9223372036854775807 then ((token_Is.f k (x0 ++ x1)).bind fun t124 => (if x1.toList = ([] : List UInt8) then (some (t124 == ((x0 ++ x1).toList != ([] : List UInt8)))) else (some (t124 == false)))) else (none)))) else ((token_Is.f k x1).bind fun t125 => (if t125 = true then (if x0.size + x1.size ≤ 9223372036854775807 then ((token_Is.f k (x0 ++ x1)).bind fun t126 => (if x0.toList = ([] : List UInt8) then (some (t126 == ((x0 ++ x1).toList != ([] : List UInt8)))) else (some (t126 == false)))) else (none)) else (if x0.size + x1.size ≤ 9223372036854775807 then ((token_Is.f k (x0 ++ x1)).bind fun t127 => (if x0.toList = ([] : List UInt8) then (if x1.toList = ([] : List UInt8) then (some (t127 == ((x0 ++ x1).toList != ([] : List UInt8)))) else (some (t127 == false))) else (some (t127 == false)))) else (none))))))
def carryalllaw04_TokenParts.f (k : Nat) (a0 : ByteArray) (a1 : ByteArray) : Option (Bool) := (carryalllaw04_awake.f k).bind fun t119 => (if t119 = true then (carryalllaw04_TokenParts.j0 k a0 a1 (decide ((wrap64 ((a0.size : Int) + (a1.size : Int))) > 500))) else (carryalllaw04_TokenParts.j0 k a0 a1 true))
theorem carryalllaw04_TokenParts.mono_l : ∀ k, (∀ y0 y1 y2, LeO (carryalllaw04_TokenParts.j0 k y0 y1 y2) (carryalllaw04_TokenParts.j0 (k + 1) y0 y1 y2))
  | 0 => fun _ _ _ r h => by simp [carryalllaw04_TokenParts.j0] at h
  | k + 1 => by
    have ih0 := carryalllaw04_TokenParts.mono_l k
    · intro y0 y1 y2
      unfold carryalllaw04_TokenParts.j0
      repeat' first
      | (with_reducible exact ih0 _ _ _)
      | (with_reducible exact carryalllaw04_awake.mono _)
      | (with_reducible exact token_Is.mono _ _)
      | (with_reducible exact LeO.refl _)
      | (with_reducible exact LeO.none _)
      | (with_reducible refine LeO.ite ?_ ?_)
      | (with_reducible refine LeO.bind ?_ (fun _ => ?_))
      | exact ih0 _ _ _
      | exact carryalllaw04_awake.mono _
      | exact token_Is.mono _ _
      | exact LeO.none _
      | refine LeO.ite ?_ ?_
      | refine LeO.bind ?_ (fun _ => ?_)
theorem carryalllaw04_TokenParts.mono : ∀ a0 a1 k, LeO (carryalllaw04_TokenParts.f k a0 a1) (carryalllaw04_TokenParts.f (k + 1) a0 a1) := by
  intro a0 a1 k
  have ih0 := carryalllaw04_TokenParts.mono_l k
  unfold carryalllaw04_TokenParts.f
  repeat' first
      | (with_reducible exact ih0 _ _ _)
      | (with_reducible exact carryalllaw04_awake.mono _)
      | (with_reducible exact token_Is.mono _ _)
      | (with_reducible exact LeO.refl _)
      | (with_reducible exact LeO.none _)
      | (with_reducible refine LeO.ite ?_ ?_)
      | (with_reducible refine LeO.bind ?_ (fun _ => ?_))
      | exact ih0 _ _ _
      | exact carryalllaw04_awake.mono _
      | exact token_Is.mono _ _
      | exact LeO.none _
      | refine LeO.ite ?_ ?_
      | refine LeO.bind ?_ (fun _ => ?_)
set_option maxHeartbeats 8000000 in
set_option maxRecDepth 100000 in
theorem carryalllaw04_TokenParts.calls (k : Nat) (a0 : ByteArray) (a1 : ByteArray) (r : Bool) (w : World) (h : carryalllaw04_TokenParts.f k a0 a1 = some r) :
    Calls Tryd.prog 3 #[.string a0, .string a1] w fun e w' => e = .returned (.bool r) ∧ Below w.heap.size w w' := by
  have HB := Aside0.mk (Below.refl w.heap.size w)
  have H : ((carryalllaw04_awake.f k).bind fun t119 => (if t119 = true then (carryalllaw04_TokenParts.j0 k a0 a1 (decide ((wrap64 ((a0.size : Int) + (a1.size : Int))) > 500))) else (carryalllaw04_TokenParts.j0 k a0 a1 true))) = some r := h
  clear h
  have HC3 := Aside0.mk H
  clear H
  go_enter Tryd.func3, Tryd.ntmps3
  go_upto_region 1 with (fail)
  go_cut [16] (fun v16 wc => ∃ (kq : Nat) (x16_2 : Bool), v16 = .bool x16_2 ∧ Aside0 (carryalllaw04_TokenParts.j0 kq a0 a1 x16_2 = some r) ∧ Aside0 (kq ≤ k) ∧ Aside0 (Below w.heap.size w wc))
  case first =>
    have H := HC3.out
    clear HC3
    replace H := Option.bind_eq_some_iff.mp H
    obtain ⟨t119, A40, H⟩ := H
    replace H : (if t119 = true then (carryalllaw04_TokenParts.j0 k a0 a1 (decide ((wrap64 ((a0.size : Int) + (a1.size : Int))) > 500))) else (carryalllaw04_TokenParts.j0 k a0 a1 true)) = some r := H
    have A4 := Aside0.mk A40
    clear A40
    by_cases c5 : t119 = true
    · subst c5
      have H1 : (carryalllaw04_TokenParts.j0 k a0 a1 (decide ((wrap64 ((a0.size : Int) + (a1.size : Int))) > 500))) = some r := by rw [if_pos rfl] at H; exact H
      clear H
      have H := H1
      clear H1
      have H' := Aside0.mk H
      clear H
      go_wp2_with (first | ((with_reducible refine gate_callee (f := 8) rfl ?_); refine goesL_ (some 7) rfl rfl Tryd.func8 (by kernel_rfl) rfl #[] rfl (by (try simp only [List.map_toArray, List.map_cons, List.map_nil]); first | done | rfl | (simp only [List.length_drop, List.length_take]; rfl)) ?_; (with_reducible refine (carryalllaw04_awake.calls k  true _ A4.out).mono ?_); rintro e w6 ⟨rfl, hb⟩; refine ⟨_, rfl, ?_⟩; have n0_ := Aside0.mk (below_step (by repeat (first | (with_reducible first | exact HB.out | apply below_alloc | apply pw_below_drewN | apply below_drew1) | exact HB.out)) hb); clear HB; have HB := n0_; clear n0_; (try clear hb); (try clear hb2); (try clear hk); (try clear hi)))
      go_meet
      case rel => exact ⟨_, (decide ((wrap64 ((a0.size : Int) + (a1.size : Int))) > 500)), (by first | rfl | (simp; done) | (simp [*]; done) | (simp [Go.Proofs.YtflhnhjbbddgmaaDoor.G.isEmpty_ne]; done)), H', ⟨by first | omega | exact Nat.le_refl _⟩, ⟨by repeat (first | (with_reducible first | exact HB.out | apply below_alloc | apply pw_below_drewN | apply below_drew1) | exact HB.out)⟩⟩
    · replace c5 := Bool.eq_false_iff.mpr c5
      subst c5
      have H1 : (carryalllaw04_TokenParts.j0 k a0 a1 true) = some r := by rw [if_neg (show ¬ (false = true) by decide)] at H; exact H
      clear H
      have H := H1
      clear H1
      have H' := Aside0.mk H
      clear H
      go_wp2_with (first | ((with_reducible refine gate_callee (f := 8) rfl ?_); refine goesL_ (some 7) rfl rfl Tryd.func8 (by kernel_rfl) rfl #[] rfl (by (try simp only [List.map_toArray, List.map_cons, List.map_nil]); first | done | rfl | (simp only [List.length_drop, List.length_take]; rfl)) ?_; (with_reducible refine (carryalllaw04_awake.calls k  false _ A4.out).mono ?_); rintro e w7 ⟨rfl, hb⟩; refine ⟨_, rfl, ?_⟩; have n0_ := Aside0.mk (below_step (by repeat (first | (with_reducible first | exact HB.out | apply below_alloc | apply pw_below_drewN | apply below_drew1) | exact HB.out)) hb); clear HB; have HB := n0_; clear n0_; (try clear hb); (try clear hb2); (try clear hk); (try clear hi)))
      go_meet
      case rel => exact ⟨_, (true), (by first | rfl | (simp; done) | (simp [*]; done) | (simp [Go.Proofs.YtflhnhjbbddgmaaDoor.G.isEmpty_ne]; done)), H', ⟨by first | omega | exact Nat.le_refl _⟩, ⟨by repeat (first | (with_reducible first | exact HB.out | apply below_alloc | apply pw_below_drewN | apply below_drew1) | exact HB.out)⟩⟩
  case rest =>
    clear HC3
    try clear p2
    try clear c3
    try clear c5
    try clear p6
    obtain ⟨kq, x16_2, rfl, HA, HJ2, HB⟩ := hcut
    cases kq with
    | zero => exact absurd HA.out (by simp [carryalllaw04_TokenParts.j0])
    | succ kj2 =>
      have H := HA.out
      clear HA
      simp only [carryalllaw04_TokenParts.j0] at H
      by_cases c8 : x16_2 = true
      · subst c8
        have H1 : ((carryalllaw04_awake.f kj2).bind fun t120 => (some t120)) = some r := by rw [if_pos rfl] at H; exact H
        clear H
        have H := H1
        clear H1
        replace H := Option.bind_eq_some_iff.mp H
        obtain ⟨t120, A90, H⟩ := H
        replace H : (some t120) = some r := H
        have A9 := Aside0.mk A90
        clear A90
        obtain rfl := Option.some.inj H
        go_wp2_with (first | ((with_reducible refine gate_callee (f := 8) rfl ?_); refine goesL_ (some 17) rfl rfl Tryd.func8 (by kernel_rfl) rfl #[] rfl (by (try simp only [List.map_toArray, List.map_cons, List.map_nil]); first | done | rfl | (simp only [List.length_drop, List.length_take]; rfl)) ?_; (with_reducible refine (carryalllaw04_awake.calls kj2  t120 _ A9.out).mono ?_); rintro e w10 ⟨rfl, hb⟩; refine ⟨_, rfl, ?_⟩; have n0_ := Aside0.mk (below_step (by repeat (first | (with_reducible first | exact HB.out | apply below_alloc | apply pw_below_drewN | apply below_drew1) | exact HB.out)) hb); clear HB; have HB := n0_; clear n0_; (try clear hb); (try clear hb2); (try clear hk); (try clear hi)))
        go_ret
        exact ⟨by first | rfl | (simp [errW_none, errW_some] <;> rfl) | (simp [*, errW_none, errW_some] <;> rfl) | (simp [errW_none, errW_some, Go.Proofs.YtflhnhjbbddgmaaDoor.G.isEmpty_ne]; done), by repeat (first | (with_reducible first | exact HB.out | apply below_alloc | apply pw_below_drewN | apply below_drew1) | exact HB.out)⟩
      · replace c8 := Bool.eq_false_iff.mpr c8
        subst c8
        have H1 : ((token_Is.f kj2 a0).bind fun t121 => (if t121 = true then ((token_Is.f kj2 a1).bind fun t122 => (if t122 = true then (if a0.size + a1.size ≤ 9223372036854775807 then ((token_Is.f kj2 (a0 ++ a1)).bind fun t123 => (some (t123 == ((a0 ++ a1).toList != ([] : List UInt8))))) else (none)) else (if a0.size + a1.size ≤ 9223372036854775807 then ((token_Is.f kj2 (a0 ++ a1)).bind fun t124 => (if a1.toList = ([] : List UInt8) then (some (t124 == ((a0 ++ a1).toList != ([] : List UInt8)))) else (some (t124 == false)))) else (none)))) else ((token_Is.f kj2 a1).bind fun t125 => (if t125 = true then (if a0.size + a1.size ≤ 9223372036854775807 then ((token_Is.f kj2 (a0 ++ a1)).bind fun t126 => (if a0.toList = ([] : List UInt8) then (some (t126 == ((a0 ++ a1).toList != ([] : List UInt8)))) else (some (t126 == false)))) else (none)) else (if a0.size + a1.size ≤ 9223372036854775807 then ((token_Is.f kj2 (a0 ++ a1)).bind fun t127 => (if a0.toList = ([] : List UInt8) then (if a1.toList = ([] : List UInt8) then (some (t127 == ((a0 ++ a1).toList != ([] : List UInt8)))) else (some (t127 == false))) else (some (t127 == false)))) else (none)))))) = some r := by rw [if_neg (show ¬ (false = true) by decide)] at H; exact H
        clear H
        have H := H1
        clear H1
        replace H := Option.bind_eq_some_iff.mp H
        obtain ⟨t121, A110, H⟩ := H
        replace H : (if t121 = true then ((token_Is.f kj2 a1).bind fun t122 => (if t122 = true then (if a0.size + a1.size ≤ 9223372036854775807 then ((token_Is.f kj2 (a0 ++ a1)).bind fun t123 => (some (t123 == ((a0 ++ a1).toList != ([] : List UInt8))))) else (none)) else (if a0.size + a1.size ≤ 9223372036854775807 then ((token_Is.f kj2 (a0 ++ a1)).bind fun t124 => (if a1.toList = ([] : List UInt8) then (some (t124 == ((a0 ++ a1).toList != ([] : List UInt8)))) else (some (t124 == false)))) else (none)))) else ((token_Is.f kj2 a1).bind fun t125 => (if t125 = true then (if a0.size + a1.size ≤ 9223372036854775807 then ((token_Is.f kj2 (a0 ++ a1)).bind fun t126 => (if a0.toList = ([] : List UInt8) then (some (t126 == ((a0 ++ a1).toList != ([] : List UInt8)))) else (some (t126 == false)))) else (none)) else (if a0.size + a1.size ≤ 9223372036854775807 then ((token_Is.f kj2 (a0 ++ a1)).bind fun t127 => (if a0.toList = ([] : List UInt8) then (if a1.toList = ([] : List UInt8) then (some (t127 == ((a0 ++ a1).toList != ([] : List UInt8)))) else (some (t127 == false))) else (some (t127 == false)))) else (none))))) = some r := H
        have A11 := Aside0.mk A110
        clear A110
        by_cases c12 : t121 = true
        · subst c12
          have H1 : ((token_Is.f kj2 a1).bind fun t122 => (if t122 = true then (if a0.size + a1.size ≤ 9223372036854775807 then ((token_Is.f kj2 (a0 ++ a1)).bind fun t123 => (some (t123 == ((a0 ++ a1).toList != ([] : List UInt8))))) else (none)) else (if a0.size + a1.size ≤ 9223372036854775807 then ((token_Is.f kj2 (a0 ++ a1)).bind fun t124 => (if a1.toList = ([] : List UInt8) then (some (t124 == ((a0 ++ a1).toList != ([] : List UInt8)))) else (some (t124 == false)))) else (none)))) = some r := by rw [if_pos rfl] at H; exact H
          clear H
          have H := H1
          clear H1
          replace H := Option.bind_eq_some_iff.mp H
          obtain ⟨t122, A130, H⟩ := H
          replace H : (if t122 = true then (if a0.size + a1.size ≤ 9223372036854775807 then ((token_Is.f kj2 (a0 ++ a1)).bind fun t123 => (some (t123 == ((a0 ++ a1).toList != ([] : List UInt8))))) else (none)) else (if a0.size + a1.size ≤ 9223372036854775807 then ((token_Is.f kj2 (a0 ++ a1)).bind fun t124 => (if a1.toList = ([] : List UInt8) then (some (t124 == ((a0 ++ a1).toList != ([] : List UInt8)))) else (some (t124 == false)))) else (none))) = some r := H
          have A13 := Aside0.mk A130
          clear A130
          by_cases c14 : t122 = true
          · subst c14
            have H1 : (if a0.size + a1.size ≤ 9223372036854775807 then ((token_Is.f kj2 (a0 ++ a1)).bind fun t123 => (some (t123 == ((a0 ++ a1).toList != ([] : List UInt8))))) else (none)) = some r := by rw [if_pos rfl] at H; exact H
            clear H
            have H := H1
            clear H1
            by_cases c15 : a0.size + a1.size ≤ 9223372036854775807
            · rw [if_pos c15] at H
              have c15b0 := eq_true c15
              have c15b1 : decide (a0.size + a1.size ≤ 9223372036854775807) = true := decide_eq_true c15
              try have c15b2 : (9223372036854775807 < a0.size + a1.size) = False := eq_false (Nat.not_lt.2 c15)
              replace H := Option.bind_eq_some_iff.mp H
              obtain ⟨t123, A160, H⟩ := H
              replace H : (some (t123 == ((a0 ++ a1).toList != ([] : List UInt8)))) = some r := H
              have A16 := Aside0.mk A160
              clear A160
              obtain rfl := Option.some.inj H
              go_wp2_with (first | ((with_reducible refine gate_callee (f := 9) rfl ?_); refine goesL_ (some 19) rfl rfl Tryd.func9 (by kernel_rfl) rfl #[.string a0] rfl (by (try simp only [List.map_toArray, List.map_cons, List.map_nil]); first | done | rfl | (simp only [List.length_drop, List.length_take]; rfl)) ?_; (with_reducible refine (token_Is.calls kj2 a0 true _ A11.out).mono ?_); rintro e w' ⟨rfl, ⟨nd, rfl⟩⟩; refine ⟨_, rfl, ?_⟩) | ((with_reducible refine gate_callee (f := 9) rfl ?_); refine goesL_ (some 25) rfl rfl Tryd.func9 (by kernel_rfl) rfl #[.string a1] rfl (by (try simp only [List.map_toArray, List.map_cons, List.map_nil]); first | done | rfl | (simp only [List.length_drop, List.length_take]; rfl)) ?_; (with_reducible refine (token_Is.calls kj2 a1 true _ A13.out).mono ?_); rintro e w' ⟨rfl, ⟨nd, rfl⟩⟩; refine ⟨_, rfl, ?_⟩) | ((with_reducible refine gate_callee (f := 9) rfl ?_); refine goesL_ (some 33) rfl rfl Tryd.func9 (by kernel_rfl) rfl #[.string (a0 ++ a1)] rfl (by (try simp only [List.map_toArray, List.map_cons, List.map_nil]); first | done | rfl | (simp only [List.length_drop, List.length_take]; rfl)) ?_; (with_reducible refine (token_Is.calls kj2 (a0 ++ a1) t123 _ A16.out).mono ?_); rintro e w' ⟨rfl, ⟨nd, rfl⟩⟩; refine ⟨_, rfl, ?_⟩))
              go_ret
              exact ⟨by first | rfl | (simp [errW_none, errW_some] <;> rfl) | (simp [*, errW_none, errW_some] <;> rfl) | (simp [errW_none, errW_some, Go.Proofs.YtflhnhjbbddgmaaDoor.G.isEmpty_ne]; done), by repeat (first | (with_reducible first | exact HB.out | apply below_alloc | apply pw_below_drewN | apply below_drew1) | exact HB.out)⟩
            · rw [if_neg c15] at H
              exact absurd H (by simp)
          · replace c14 := Bool.eq_false_iff.mpr c14
            subst c14
            have H1 : (if a0.size + a1.size ≤ 9223372036854775807 then ((token_Is.f kj2 (a0 ++ a1)).bind fun t124 => (if a1.toList = ([] : List UInt8) then (some (t124 == ((a0 ++ a1).toList != ([] : List UInt8)))) else (some (t124 == false)))) else (none)) = some r := by rw [if_neg (show ¬ (false = true) by decide)] at H; exact H
            clear H
            have H := H1
            clear H1
            by_cases c17 : a0.size + a1.size ≤ 9223372036854775807
            · rw [if_pos c17] at H
              have c17b0 := eq_true c17
              have c17b1 : decide (a0.size + a1.size ≤ 9223372036854775807) = true := decide_eq_true c17
              try have c17b2 : (9223372036854775807 < a0.size + a1.size) = False := eq_false (Nat.not_lt.2 c17)
              replace H := Option.bind_eq_some_iff.mp H
              obtain ⟨t124, A180, H⟩ := H
              replace H : (if a1.toList = ([] : List UInt8) then (some (t124 == ((a0 ++ a1).toList != ([] : List UInt8)))) else (some (t124 == false))) = some r := H
              have A18 := Aside0.mk A180
              clear A180
              by_cases c19 : a1.toList = ([] : List UInt8)
              · rw [if_pos c19] at H
                have c19b0 : (a1.toList == ([] : List UInt8)) = true := beq_iff_eq.mpr c19
                have c19b1 : (a1.toList != ([] : List UInt8)) = false := bne_eq_false_iff_eq.mpr c19
                clear c19
                obtain rfl := Option.some.inj H
                go_wp2_with (first | ((with_reducible refine gate_callee (f := 9) rfl ?_); refine goesL_ (some 19) rfl rfl Tryd.func9 (by kernel_rfl) rfl #[.string a0] rfl (by (try simp only [List.map_toArray, List.map_cons, List.map_nil]); first | done | rfl | (simp only [List.length_drop, List.length_take]; rfl)) ?_; (with_reducible refine (token_Is.calls kj2 a0 true _ A11.out).mono ?_); rintro e w' ⟨rfl, ⟨nd, rfl⟩⟩; refine ⟨_, rfl, ?_⟩) | ((with_reducible refine gate_callee (f := 9) rfl ?_); refine goesL_ (some 25) rfl rfl Tryd.func9 (by kernel_rfl) rfl #[.string a1] rfl (by (try simp only [List.map_toArray, List.map_cons, List.map_nil]); first | done | rfl | (simp only [List.length_drop, List.length_take]; rfl)) ?_; (with_reducible refine (token_Is.calls kj2 a1 false _ A13.out).mono ?_); rintro e w' ⟨rfl, ⟨nd, rfl⟩⟩; refine ⟨_, rfl, ?_⟩) | ((with_reducible refine gate_callee (f := 9) rfl ?_); refine goesL_ (some 33) rfl rfl Tryd.func9 (by kernel_rfl) rfl #[.string (a0 ++ a1)] rfl (by (try simp only [List.map_toArray, List.map_cons, List.map_nil]); first | done | rfl | (simp only [List.length_drop, List.length_take]; rfl)) ?_; (with_reducible refine (token_Is.calls kj2 (a0 ++ a1) t124 _ A18.out).mono ?_); rintro e w' ⟨rfl, ⟨nd, rfl⟩⟩; refine ⟨_, rfl, ?_⟩))
                go_ret
                exact ⟨by first | rfl | (simp [errW_none, errW_some] <;> rfl) | (simp [*, errW_none, errW_some] <;> rfl) | (simp [errW_none, errW_some, Go.Proofs.YtflhnhjbbddgmaaDoor.G.isEmpty_ne]; done), by repeat (first | (with_reducible first | exact HB.out | apply below_alloc | apply pw_below_drewN | apply below_drew1) | exact HB.out)⟩
              · rw [if_neg c19] at H
                have c19b0 : (a1.toList == ([] : List UInt8)) = false := beq_eq_false_iff_ne.mpr c19
                have c19b1 : (a1.toList != ([] : List UInt8)) = true := bne_iff_ne.mpr c19
                obtain rfl := Option.some.inj H
                go_wp2_with (first | ((with_reducible refine gate_callee (f := 9) rfl ?_); refine goesL_ (some 19) rfl rfl Tryd.func9 (by kernel_rfl) rfl #[.string a0] rfl (by (try simp only [List.map_toArray, List.map_cons, List.map_nil]); first | done | rfl | (simp only [List.length_drop, List.length_take]; rfl)) ?_; (with_reducible refine (token_Is.calls kj2 a0 true _ A11.out).mono ?_); rintro e w' ⟨rfl, ⟨nd, rfl⟩⟩; refine ⟨_, rfl, ?_⟩) | ((with_reducible refine gate_callee (f := 9) rfl ?_); refine goesL_ (some 25) rfl rfl Tryd.func9 (by kernel_rfl) rfl #[.string a1] rfl (by (try simp only [List.map_toArray, List.map_cons, List.map_nil]); first | done | rfl | (simp only [List.length_drop, List.length_take]; rfl)) ?_; (with_reducible refine (token_Is.calls kj2 a1 false _ A13.out).mono ?_); rintro e w' ⟨rfl, ⟨nd, rfl⟩⟩; refine ⟨_, rfl, ?_⟩) | ((with_reducible refine gate_callee (f := 9) rfl ?_); refine goesL_ (some 33) rfl rfl Tryd.func9 (by kernel_rfl) rfl #[.string (a0 ++ a1)] rfl (by (try simp only [List.map_toArray, List.map_cons, List.map_nil]); first | done | rfl | (simp only [List.length_drop, List.length_take]; rfl)) ?_; (with_reducible refine (token_Is.calls kj2 (a0 ++ a1) t124 _ A18.out).mono ?_); rintro e w' ⟨rfl, ⟨nd, rfl⟩⟩; refine ⟨_, rfl, ?_⟩))
                go_ret
                exact ⟨by first | rfl | (simp [errW_none, errW_some] <;> rfl) | (simp [*, errW_none, errW_some] <;> rfl) | (simp [errW_none, errW_some, Go.Proofs.YtflhnhjbbddgmaaDoor.G.isEmpty_ne]; done), by repeat (first | (with_reducible first | exact HB.out | apply below_alloc | apply pw_below_drewN | apply below_drew1) | exact HB.out)⟩
            · rw [if_neg c17] at H
              exact absurd H (by simp)
        · replace c12 := Bool.eq_false_iff.mpr c12
          subst c12
          have H1 : ((token_Is.f kj2 a1).bind fun t125 => (if t125 = true then (if a0.size + a1.size ≤ 9223372036854775807 then ((token_Is.f kj2 (a0 ++ a1)).bind fun t126 => (if a0.toList = ([] : List UInt8) then (some (t126 == ((a0 ++ a1).toList != ([] : List UInt8)))) else (some (t126 == false)))) else (none)) else (if a0.size + a1.size ≤ 9223372036854775807 then ((token_Is.f kj2 (a0 ++ a1)).bind fun t127 => (if a0.toList = ([] : List UInt8) then (if a1.toList = ([] : List UInt8) then (some (t127 == ((a0 ++ a1).toList != ([] : List UInt8)))) else (some (t127 == false))) else (some (t127 == false)))) else (none)))) = some r := by rw [if_neg (show ¬ (false = true) by decide)] at H; exact H
          clear H
          have H := H1
          clear H1
          replace H := Option.bind_eq_some_iff.mp H
          obtain ⟨t125, A200, H⟩ := H
          replace H : (if t125 = true then (if a0.size + a1.size ≤ 9223372036854775807 then ((token_Is.f kj2 (a0 ++ a1)).bind fun t126 => (if a0.toList = ([] : List UInt8) then (some (t126 == ((a0 ++ a1).toList != ([] : List UInt8)))) else (some (t126 == false)))) else (none)) else (if a0.size + a1.size ≤ 9223372036854775807 then ((token_Is.f kj2 (a0 ++ a1)).bind fun t127 => (if a0.toList = ([] : List UInt8) then (if a1.toList = ([] : List UInt8) then (some (t127 == ((a0 ++ a1).toList != ([] : List UInt8)))) else (some (t127 == false))) else (some (t127 == false)))) else (none))) = some r := H
          have A20 := Aside0.mk A200
          clear A200
          by_cases c21 : t125 = true
          · subst c21
            have H1 : (if a0.size + a1.size ≤ 9223372036854775807 then ((token_Is.f kj2 (a0 ++ a1)).bind fun t126 => (if a0.toList = ([] : List UInt8) then (some (t126 == ((a0 ++ a1).toList != ([] : List UInt8)))) else (some (t126 == false)))) else (none)) = some r := by rw [if_pos rfl] at H; exact H
            clear H
            have H := H1
            clear H1
            by_cases c22 : a0.size + a1.size ≤ 9223372036854775807
            · rw [if_pos c22] at H
              have c22b0 := eq_true c22
              have c22b1 : decide (a0.size + a1.size ≤ 9223372036854775807) = true := decide_eq_true c22
              try have c22b2 : (9223372036854775807 < a0.size + a1.size) = False := eq_false (Nat.not_lt.2 c22)
              replace H := Option.bind_eq_some_iff.mp H
              obtain ⟨t126, A230, H⟩ := H
              replace H : (if a0.toList = ([] : List UInt8) then (some (t126 == ((a0 ++ a1).toList != ([] : List UInt8)))) else (some (t126 == false))) = some r := H
              have A23 := Aside0.mk A230
              clear A230
              by_cases c24 : a0.toList = ([] : List UInt8)
              · rw [if_pos c24] at H
                have c24b0 : (a0.toList == ([] : List UInt8)) = true := beq_iff_eq.mpr c24
                have c24b1 : (a0.toList != ([] : List UInt8)) = false := bne_eq_false_iff_eq.mpr c24
                clear c24
                obtain rfl := Option.some.inj H
                go_wp2_with (first | ((with_reducible refine gate_callee (f := 9) rfl ?_); refine goesL_ (some 19) rfl rfl Tryd.func9 (by kernel_rfl) rfl #[.string a0] rfl (by (try simp only [List.map_toArray, List.map_cons, List.map_nil]); first | done | rfl | (simp only [List.length_drop, List.length_take]; rfl)) ?_; (with_reducible refine (token_Is.calls kj2 a0 false _ A11.out).mono ?_); rintro e w' ⟨rfl, ⟨nd, rfl⟩⟩; refine ⟨_, rfl, ?_⟩) | ((with_reducible refine gate_callee (f := 9) rfl ?_); refine goesL_ (some 25) rfl rfl Tryd.func9 (by kernel_rfl) rfl #[.string a1] rfl (by (try simp only [List.map_toArray, List.map_cons, List.map_nil]); first | done | rfl | (simp only [List.length_drop, List.length_take]; rfl)) ?_; (with_reducible refine (token_Is.calls kj2 a1 true _ A20.out).mono ?_); rintro e w' ⟨rfl, ⟨nd, rfl⟩⟩; refine ⟨_, rfl, ?_⟩) | ((with_reducible refine gate_callee (f := 9) rfl ?_); refine goesL_ (some 33) rfl rfl Tryd.func9 (by kernel_rfl) rfl #[.string (a0 ++ a1)] rfl (by (try simp only [List.map_toArray, List.map_cons, List.map_nil]); first | done | rfl | (simp only [List.length_drop, List.length_take]; rfl)) ?_; (with_reducible refine (token_Is.calls kj2 (a0 ++ a1) t126 _ A23.out).mono ?_); rintro e w' ⟨rfl, ⟨nd, rfl⟩⟩; refine ⟨_, rfl, ?_⟩))
                go_ret
                exact ⟨by first | rfl | (simp [errW_none, errW_some] <;> rfl) | (simp [*, errW_none, errW_some] <;> rfl) | (simp [errW_none, errW_some, Go.Proofs.YtflhnhjbbddgmaaDoor.G.isEmpty_ne]; done), by repeat (first | (with_reducible first | exact HB.out | apply below_alloc | apply pw_below_drewN | apply below_drew1) | exact HB.out)⟩
              · rw [if_neg c24] at H
                have c24b0 : (a0.toList == ([] : List UInt8)) = false := beq_eq_false_iff_ne.mpr c24
                have c24b1 : (a0.toList != ([] : List UInt8)) = true := bne_iff_ne.mpr c24
                obtain rfl := Option.some.inj H
                go_wp2_with (first | ((with_reducible refine gate_callee (f := 9) rfl ?_); refine goesL_ (some 19) rfl rfl Tryd.func9 (by kernel_rfl) rfl #[.string a0] rfl (by (try simp only [List.map_toArray, List.map_cons, List.map_nil]); first | done | rfl | (simp only [List.length_drop, List.length_take]; rfl)) ?_; (with_reducible refine (token_Is.calls kj2 a0 false _ A11.out).mono ?_); rintro e w' ⟨rfl, ⟨nd, rfl⟩⟩; refine ⟨_, rfl, ?_⟩) | ((with_reducible refine gate_callee (f := 9) rfl ?_); refine goesL_ (some 25) rfl rfl Tryd.func9 (by kernel_rfl) rfl #[.string a1] rfl (by (try simp only [List.map_toArray, List.map_cons, List.map_nil]); first | done | rfl | (simp only [List.length_drop, List.length_take]; rfl)) ?_; (with_reducible refine (token_Is.calls kj2 a1 true _ A20.out).mono ?_); rintro e w' ⟨rfl, ⟨nd, rfl⟩⟩; refine ⟨_, rfl, ?_⟩) | ((with_reducible refine gate_callee (f := 9) rfl ?_); refine goesL_ (some 33) rfl rfl Tryd.func9 (by kernel_rfl) rfl #[.string (a0 ++ a1)] rfl (by (try simp only [List.map_toArray, List.map_cons, List.map_nil]); first | done | rfl | (simp only [List.length_drop, List.length_take]; rfl)) ?_; (with_reducible refine (token_Is.calls kj2 (a0 ++ a1) t126 _ A23.out).mono ?_); rintro e w' ⟨rfl, ⟨nd, rfl⟩⟩; refine ⟨_, rfl, ?_⟩))
                go_ret
                exact ⟨by first | rfl | (simp [errW_none, errW_some] <;> rfl) | (simp [*, errW_none, errW_some] <;> rfl) | (simp [errW_none, errW_some, Go.Proofs.YtflhnhjbbddgmaaDoor.G.isEmpty_ne]; done), by repeat (first | (with_reducible first | exact HB.out | apply below_alloc | apply pw_below_drewN | apply below_drew1) | exact HB.out)⟩
            · rw [if_neg c22] at H
              exact absurd H (by simp)
          · replace c21 := Bool.eq_false_iff.mpr c21
            subst c21
            have H1 : (if a0.size + a1.size ≤ 9223372036854775807 then ((token_Is.f kj2 (a0 ++ a1)).bind fun t127 => (if a0.toList = ([] : List UInt8) then (if a1.toList = ([] : List UInt8) then (some (t127 == ((a0 ++ a1).toList != ([] : List UInt8)))) else (some (t127 == false))) else (some (t127 == false)))) else (none)) = some r := by rw [if_neg (show ¬ (false = true) by decide)] at H; exact H
            clear H
            have H := H1
            clear H1
            by_cases c25 : a0.size + a1.size ≤ 9223372036854775807
            · rw [if_pos c25] at H
              have c25b0 := eq_true c25
              have c25b1 : decide (a0.size + a1.size ≤ 9223372036854775807) = true := decide_eq_true c25
              try have c25b2 : (9223372036854775807 < a0.size + a1.size) = False := eq_false (Nat.not_lt.2 c25)
              replace H := Option.bind_eq_some_iff.mp H
              obtain ⟨t127, A260, H⟩ := H
              replace H : (if a0.toList = ([] : List UInt8) then (if a1.toList = ([] : List UInt8) then (some (t127 == ((a0 ++ a1).toList != ([] : List UInt8)))) else (some (t127 == false))) else (some (t127 == false))) = some r := H
              have A26 := Aside0.mk A260
              clear A260
              by_cases c27 : a0.toList = ([] : List UInt8)
              · rw [if_pos c27] at H
                have c27b0 : (a0.toList == ([] : List UInt8)) = true := beq_iff_eq.mpr c27
                have c27b1 : (a0.toList != ([] : List UInt8)) = false := bne_eq_false_iff_eq.mpr c27
                clear c27
                by_cases c28 : a1.toList = ([] : List UInt8)
                · rw [if_pos c28] at H
                  have c28b0 : (a1.toList == ([] : List UInt8)) = true := beq_iff_eq.mpr c28
                  have c28b1 : (a1.toList != ([] : List UInt8)) = false := bne_eq_false_iff_eq.mpr c28
                  clear c28
                  obtain rfl := Option.some.inj H
                  go_wp2_with (first | ((with_reducible refine gate_callee (f := 9) rfl ?_); refine goesL_ (some 19) rfl rfl Tryd.func9 (by kernel_rfl) rfl #[.string a0] rfl (by (try simp only [List.map_toArray, List.map_cons, List.map_nil]); first | done | rfl | (simp only [List.length_drop, List.length_take]; rfl)) ?_; (with_reducible refine (token_Is.calls kj2 a0 false _ A11.out).mono ?_); rintro e w' ⟨rfl, ⟨nd, rfl⟩⟩; refine ⟨_, rfl, ?_⟩) | ((with_reducible refine gate_callee (f := 9) rfl ?_); refine goesL_ (some 25) rfl rfl Tryd.func9 (by kernel_rfl) rfl #[.string a1] rfl (by (try simp only [List.map_toArray, List.map_cons, List.map_nil]); first | done | rfl | (simp only [List.length_drop, List.length_take]; rfl)) ?_; (with_reducible refine (token_Is.calls kj2 a1 false _ A20.out).mono ?_); rintro e w' ⟨rfl, ⟨nd, rfl⟩⟩; refine ⟨_, rfl, ?_⟩) | ((with_reducible refine gate_callee (f := 9) rfl ?_); refine goesL_ (some 33) rfl rfl Tryd.func9 (by kernel_rfl) rfl #[.string (a0 ++ a1)] rfl (by (try simp only [List.map_toArray, List.map_cons, List.map_nil]); first | done | rfl | (simp only [List.length_drop, List.length_take]; rfl)) ?_; (with_reducible refine (token_Is.calls kj2 (a0 ++ a1) t127 _ A26.out).mono ?_); rintro e w' ⟨rfl, ⟨nd, rfl⟩⟩; refine ⟨_, rfl, ?_⟩))
                  go_ret
                  exact ⟨by first | rfl | (simp [errW_none, errW_some] <;> rfl) | (simp [*, errW_none, errW_some] <;> rfl) | (simp [errW_none, errW_some, Go.Proofs.YtflhnhjbbddgmaaDoor.G.isEmpty_ne]; done), by repeat (first | (with_reducible first | exact HB.out | apply below_alloc | apply pw_below_drewN | apply below_drew1) | exact HB.out)⟩
                · rw [if_neg c28] at H
                  have c28b0 : (a1.toList == ([] : List UInt8)) = false := beq_eq_false_iff_ne.mpr c28
                  have c28b1 : (a1.toList != ([] : List UInt8)) = true := bne_iff_ne.mpr c28
                  obtain rfl := Option.some.inj H
                  go_wp2_with (first | ((with_reducible refine gate_callee (f := 9) rfl ?_); refine goesL_ (some 19) rfl rfl Tryd.func9 (by kernel_rfl) rfl #[.string a0] rfl (by (try simp only [List.map_toArray, List.map_cons, List.map_nil]); first | done | rfl | (simp only [List.length_drop, List.length_take]; rfl)) ?_; (with_reducible refine (token_Is.calls kj2 a0 false _ A11.out).mono ?_); rintro e w' ⟨rfl, ⟨nd, rfl⟩⟩; refine ⟨_, rfl, ?_⟩) | ((with_reducible refine gate_callee (f := 9) rfl ?_); refine goesL_ (some 25) rfl rfl Tryd.func9 (by kernel_rfl) rfl #[.string a1] rfl (by (try simp only [List.map_toArray, List.map_cons, List.map_nil]); first | done | rfl | (simp only [List.length_drop, List.length_take]; rfl)) ?_; (with_reducible refine (token_Is.calls kj2 a1 false _ A20.out).mono ?_); rintro e w' ⟨rfl, ⟨nd, rfl⟩⟩; refine ⟨_, rfl, ?_⟩) | ((with_reducible refine gate_callee (f := 9) rfl ?_); refine goesL_ (some 33) rfl rfl Tryd.func9 (by kernel_rfl) rfl #[.string (a0 ++ a1)] rfl (by (try simp only [List.map_toArray, List.map_cons, List.map_nil]); first | done | rfl | (simp only [List.length_drop, List.length_take]; rfl)) ?_; (with_reducible refine (token_Is.calls kj2 (a0 ++ a1) t127 _ A26.out).mono ?_); rintro e w' ⟨rfl, ⟨nd, rfl⟩⟩; refine ⟨_, rfl, ?_⟩))
                  go_ret
                  exact ⟨by first | rfl | (simp [errW_none, errW_some] <;> rfl) | (simp [*, errW_none, errW_some] <;> rfl) | (simp [errW_none, errW_some, Go.Proofs.YtflhnhjbbddgmaaDoor.G.isEmpty_ne]; done), by repeat (first | (with_reducible first | exact HB.out | apply below_alloc | apply pw_below_drewN | apply below_drew1) | exact HB.out)⟩
              · rw [if_neg c27] at H
                have c27b0 : (a0.toList == ([] : List UInt8)) = false := beq_eq_false_iff_ne.mpr c27
                have c27b1 : (a0.toList != ([] : List UInt8)) = true := bne_iff_ne.mpr c27
                obtain rfl := Option.some.inj H
                go_wp2_with (first | ((with_reducible refine gate_callee (f := 9) rfl ?_); refine goesL_ (some 19) rfl rfl Tryd.func9 (by kernel_rfl) rfl #[.string a0] rfl (by (try simp only [List.map_toArray, List.map_cons, List.map_nil]); first | done | rfl | (simp only [List.length_drop, List.length_take]; rfl)) ?_; (with_reducible refine (token_Is.calls kj2 a0 false _ A11.out).mono ?_); rintro e w' ⟨rfl, ⟨nd, rfl⟩⟩; refine ⟨_, rfl, ?_⟩) | ((with_reducible refine gate_callee (f := 9) rfl ?_); refine goesL_ (some 25) rfl rfl Tryd.func9 (by kernel_rfl) rfl #[.string a1] rfl (by (try simp only [List.map_toArray, List.map_cons, List.map_nil]); first | done | rfl | (simp only [List.length_drop, List.length_take]; rfl)) ?_; (with_reducible refine (token_Is.calls kj2 a1 false _ A20.out).mono ?_); rintro e w' ⟨rfl, ⟨nd, rfl⟩⟩; refine ⟨_, rfl, ?_⟩) | ((with_reducible refine gate_callee (f := 9) rfl ?_); refine goesL_ (some 33) rfl rfl Tryd.func9 (by kernel_rfl) rfl #[.string (a0 ++ a1)] rfl (by (try simp only [List.map_toArray, List.map_cons, List.map_nil]); first | done | rfl | (simp only [List.length_drop, List.length_take]; rfl)) ?_; (with_reducible refine (token_Is.calls kj2 (a0 ++ a1) t127 _ A26.out).mono ?_); rintro e w' ⟨rfl, ⟨nd, rfl⟩⟩; refine ⟨_, rfl, ?_⟩))
                go_ret
                exact ⟨by first | rfl | (simp [errW_none, errW_some] <;> rfl) | (simp [*, errW_none, errW_some] <;> rfl) | (simp [errW_none, errW_some, Go.Proofs.YtflhnhjbbddgmaaDoor.G.isEmpty_ne]; done), by repeat (first | (with_reducible first | exact HB.out | apply below_alloc | apply pw_below_drewN | apply below_drew1) | exact HB.out)⟩
            · rw [if_neg c25] at H
              exact absurd H (by simp)

/-- THE ONE PURE STATEMENT of carryalllaw04_TokenParts: yours. -/
def carryalllaw04_TokenParts.Pure : Prop := ∀ (a0 : ByteArray) (a1 : ByteArray), a0.size ≤ 140737488351232 → a1.size ≤ 140737488351232 → ∃ k, carryalllaw04_TokenParts.f k a0 a1 = some true
theorem carryalllaw04_TokenParts.walk (P : carryalllaw04_TokenParts.Pure) (a0 : ByteArray) (a1 : ByteArray) (w : World) (w0 : a0.size ≤ 140737488351232) (w1 : a1.size ≤ 140737488351232) :
    Calls Tryd.prog 3 #[.string a0, .string a1] w fun e w' => e = .returned (.bool true) ∧ Below w.heap.size w w' := by
  obtain ⟨k, h⟩ := P a0 a1 w0 w1
  refine (carryalllaw04_TokenParts.calls k a0 a1 true w h).mono ?_
  rintro e w' ⟨rfl, hd⟩
  exact ⟨rfl, hd⟩

/-! ### strings_TrimRight: function 25 -/
def strings_TrimRight.f (a0 a1 : ByteArray) : Option (ByteArray) := if a0.size ≤ 9223372036854775807 ∧ a1.size < 4294967281 ∧ (a1.data.toList.all fun b => b.toNat < 128) = true then some ⟨(Lib.trimRightS a0.data.toList a1.data.toList).toArray⟩ else none
set_option maxRecDepth 100000 in
theorem strings_TrimRight.calls (a0 a1 : ByteArray) (r : ByteArray) (w : World) (h : strings_TrimRight.f a0 a1 = some r) :
    Calls Tryd.prog 25 #[.string a0, .string a1] w fun e w' => e = .returned (.string r) ∧ Below w.heap.size w w' := by
  unfold strings_TrimRight.f at h
  split at h
  · rename_i hh
    obtain rfl := Option.some.inj h
    exact Any.strings_TrimRight_ascii Tryd.lays162 (fun w => by kernel_rfl) (by kernel_rfl) a0 a1 w hh.1 hh.2.1 (fun j b hb => of_decide_eq_true (List.all_eq_true.1 hh.2.2 b (List.mem_of_getElem? hb)))
  · cases h


/-! ### token_Right: function 11 -/
def token_Right.f (a0 : ByteArray) : Option (ByteArray) := (strings_TrimRight.f a0 (⟨#[9, 10, 13, 32]⟩ : ByteArray)).bind fun t128 => (some t128)
set_option maxHeartbeats 8000000 in
set_option maxRecDepth 100000 in
theorem token_Right.calls (a0 : ByteArray) (r : ByteArray) (w : World) (h : token_Right.f a0 = some r) :
    Calls Tryd.prog 11 #[.string a0] w fun e w' => e = .returned (.string r) ∧ Below w.heap.size w w' := by
  have HB := Aside0.mk (Below.refl w.heap.size w)
  have H : ((strings_TrimRight.f a0 (⟨#[9, 10, 13, 32]⟩ : ByteArray)).bind fun t128 => (some t128)) = some r := h
  clear h
  replace H := Option.bind_eq_some_iff.mp H
  obtain ⟨t128, A20, H⟩ := H
  replace H : (some t128) = some r := H
  have A2 := Aside0.mk A20
  clear A20
  obtain rfl := Option.some.inj H
  go_enter Tryd.func11, Tryd.ntmps11
  go_wp2_with (first | ((with_reducible refine gate_callee (f := 25) rfl ?_); refine goesL_ (some 4) rfl rfl Tryd.func25 (by kernel_rfl) rfl #[.string a0, .string (⟨#[9, 10, 13, 32]⟩ : ByteArray)] rfl (by (try simp only [List.map_toArray, List.map_cons, List.map_nil]); first | done | rfl | (simp only [List.length_drop, List.length_take]; rfl)) ?_; (with_reducible refine (strings_TrimRight.calls a0 (⟨#[9, 10, 13, 32]⟩ : ByteArray) t128 _ A2.out).mono ?_); rintro e w3 ⟨rfl, hb⟩; refine ⟨_, rfl, ?_⟩; have n0_ := Aside0.mk (below_step (by repeat (first | (with_reducible first | exact HB.out | apply below_alloc | apply pw_below_drewN | apply below_drew1) | exact HB.out)) hb); clear HB; have HB := n0_; clear n0_; (try clear hb); (try clear hb2); (try clear hk); (try clear hi)))
  go_ret
  exact ⟨by first | rfl | (simp [errW_none, errW_some] <;> rfl) | (simp [*, errW_none, errW_some] <;> rfl) | (simp [errW_none, errW_some, Go.Proofs.YtflhnhjbbddgmaaDoor.G.isEmpty_ne]; done), by repeat (first | (with_reducible first | exact HB.out | apply below_alloc | apply pw_below_drewN | apply below_drew1) | exact HB.out)⟩

end Go.Proofs.YtflhnhjbbddgmaaDoor.P
