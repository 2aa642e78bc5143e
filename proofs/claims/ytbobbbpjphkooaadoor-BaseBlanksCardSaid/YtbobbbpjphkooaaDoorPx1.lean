-- Written for this claim by a program of this session's (not a text of the kit's print).
import Derived.Test.YtbobbbpjphkooaaDoorPx0
namespace Go.Proofs.YtbobbbpjphkooaaDoor.P
open Go.RowKit Go.Proofs.YtbobbbpjphkooaaDoorW.PrintWords Go.Proofs.YtbobbbpjphkooaaDoorW.PrintLast Go.Proofs.YtbobbbpjphkooaaDoorW.PrintMore
attribute [local go_sem] max2_int min2_int max_two min_two max_three min_three max_four min_four   -- for this text's walks alone
set_option linter.unusedVariables false
set_option linter.unusedSimpArgs false

/-! ### carryalllaw03_awake: function 8 -/
def carryalllaw03_awake.f : Option (Bool) := some true
theorem carryalllaw03_awake.calls (r : Bool) (w : World) (h : carryalllaw03_awake.f = some r) (hT : G.T w) :
    Calls Tryd.prog 8 #[] w fun e w' => e = .returned (.bool r) ∧ Below w.heap.size w w' := by
  obtain rfl := Option.some.inj h
  exact Aw.awake_any w hT


/-! ### base_squeeze: function 15 -/
def base_squeeze.f (a0 : ByteArray) : Option ByteArray := if a0.size ≤ 100000 ∧ (Mp.blankless a0).size ≤ 400000 then some (Mp.sqz a0) else none
theorem base_squeeze.calls (a0 : ByteArray) (r : ByteArray) (w : World) (h : base_squeeze.f a0 = some r) (hT : G.T w) :
    Calls Tryd.prog 15 #[.string a0] w fun e w' => e = .returned (.string r) ∧ Below w.heap.size w w' := by
  unfold base_squeeze.f at h
  split at h
  · rename_i hh
    obtain rfl := Option.some.inj h
    exact Mp.sqz_any a0 w hh.1 hh.2 hT
  · cases h


/-! ### strings_IndexByte: function 16 -/
def strings_IndexByte.f (a0 : ByteArray) (a1 : Int) : Option (Int) := some (Lib.indexByte a0.data.toList a1.toNat.toUInt8)
theorem strings_IndexByte.calls (a0 : ByteArray) (a1 : Int) (r : Int) (w : World) (h : strings_IndexByte.f a0 a1 = some r) :
    Calls Tryd.prog 16 #[.string a0, .int .u8 a1] w fun e w' => e = .returned (.int .i64 r) ∧ Drawn0 w w' := by
  obtain rfl := Option.some.inj h
  exact (Tryd.strings_IndexByte a0 a1 w).mono (fun e w' hh => ⟨hh.1, hh.2 ▸ Drawn0.refl _⟩)


/-! ### base_Decode: function 10 -/
def base_Decode.l0 : Nat → ByteArray → List Int → Int → Int → Int → Int → Option (List Int × Bool)
  | 0, _, _, _, _, _, _ => none
  | k + 1, x0, x4, x5, x6, x16, x17 => if x17 < x16 then (if 0 ≤ x17 then (if x17 < (x0.size : Int) then ((strings_IndexByte.f (⟨#[65, 66, 67, 68, 69, 70, 71, 72, 73, 74, 75, 76, 77, 78, 79, 80, 81, 82, 83, 84, 85, 86, 87, 88, 89, 90, 97, 98, 99, 100, 101, 102, 103, 104, 105, 106, 107, 108, 109, 110, 111, 112, 113, 114, 115, 116, 117, 118, 119, 120, 121, 122, 48, 49, 50, 51, 52, 53, 54, 55, 56, 57, 43, 47]⟩ : ByteArray) (bt x0 x17)).bind fun t102 => (if t102 < 0 then (some (([] : List Int), false)) else (if (wrap64 (x6 + 6)) ≥ 8 then (if 0 ≤ (wrap64 ((wrap64 (x6 + 6)) - 8)) then (if x4.length < 140737488355328 then (base_Decode.l0 k x0 (x4 ++ [(shr .u64 (Go.bits .or .u64 (Go.bits .and .u64 (IntKind.u64.wrap (x5 * 64)) 65535) (IntKind.u64.wrap (t102))) (wrap64 ((wrap64 (x6 + 6)) - 8))) % 256]) (Go.bits .or .u64 (Go.bits .and .u64 (IntKind.u64.wrap (x5 * 64)) 65535) (IntKind.u64.wrap (t102))) (wrap64 ((wrap64 (x6 + 6)) - 8)) x16 (wrap64 (x17 + 1))) else (none)) else (none)) else (base_Decode.l0 k x0 x4 (Go.bits .or .u64 (Go.bits .and .u64 (IntKind.u64.wrap (x5 * 64)) 65535) (IntKind.u64.wrap (t102))) (wrap64 (x6 + 6)) x16 (wrap64 (x17 + 1)))))) else (none)) else (none)) else (some (x4, true))
def base_Decode.f (k : Nat) (a0 : ByteArray) : Option (List Int × Bool) := (base_squeeze.f a0).bind fun t101 => (if ((t101.size : Int) % 4) = 1 then (some (([] : List Int), false)) else (base_Decode.l0 k t101 ([] : List Int) 0 0 (t101.size : Int) 0))
theorem base_Decode.mono_l : ∀ k, (∀ y0 y1 y2 y3 y4 y5, LeO (base_Decode.l0 k y0 y1 y2 y3 y4 y5) (base_Decode.l0 (k + 1) y0 y1 y2 y3 y4 y5))
  | 0 => fun _ _ _ _ _ _ r h => by simp [base_Decode.l0] at h
  | k + 1 => by
    have ih0 := base_Decode.mono_l k
    · intro y0 y1 y2 y3 y4 y5
      unfold base_Decode.l0
      repeat' first
      | (with_reducible exact ih0 _ _ _ _ _ _)
      | (with_reducible exact LeO.refl _)
      | (with_reducible exact LeO.none _)
      | (with_reducible refine LeO.ite ?_ ?_)
      | (with_reducible refine LeO.bind ?_ (fun _ => ?_))
      | exact ih0 _ _ _ _ _ _
      | exact LeO.none _
      | refine LeO.ite ?_ ?_
      | refine LeO.bind ?_ (fun _ => ?_)
theorem base_Decode.mono : ∀ a0 k, LeO (base_Decode.f k a0) (base_Decode.f (k + 1) a0) := by
  intro a0 k
  have ih0 := base_Decode.mono_l k
  unfold base_Decode.f
  repeat' first
      | (with_reducible exact ih0 _ _ _ _ _ _)
      | (with_reducible exact LeO.refl _)
      | (with_reducible exact LeO.none _)
      | (with_reducible refine LeO.ite ?_ ?_)
      | (with_reducible refine LeO.bind ?_ (fun _ => ?_))
      | exact ih0 _ _ _ _ _ _
      | exact LeO.none _
      | refine LeO.ite ?_ ?_
      | refine LeO.bind ?_ (fun _ => ?_)
set_option maxHeartbeats 8000000 in
set_option maxRecDepth 100000 in
theorem base_Decode.calls (k : Nat) (a0 : ByteArray) (r1 : List Int) (r2 : Bool) (w : World) (h : base_Decode.f k a0 = some (r1, r2)) (hT : Go.Proofs.YtbobbbpjphkooaaDoor.G.T w) :
    Calls Tryd.prog 10 #[.string a0] w fun e w' => ∃ v0_ : Value, e = .returned (.tuple #[v0_, .bool r2]) ∧ Kd.R (Kd.int .u8) 5 w' w.heap.size (fun _ => True) v0_ r1 ∧ Below w.heap.size w w' := by
  have HT := Aside0.mk hT
  clear hT
  have HB := Aside0.mk (Below.refl w.heap.size w)
  have H : ((base_squeeze.f a0).bind fun t101 => (if ((t101.size : Int) % 4) = 1 then (some (([] : List Int), false)) else (base_Decode.l0 k t101 ([] : List Int) 0 0 (t101.size : Int) 0))) = some (r1, r2) := h
  clear h
  replace H := Option.bind_eq_some_iff.mp H
  obtain ⟨t101, A20, H⟩ := H
  replace H : (if ((t101.size : Int) % 4) = 1 then (some (([] : List Int), false)) else (base_Decode.l0 k t101 ([] : List Int) 0 0 (t101.size : Int) 0)) = some (r1, r2) := H
  have A2 := Aside0.mk A20
  clear A20
  by_cases c3 : ((t101.size : Int) % 4) = 1
  · rw [if_pos c3] at H
    have c3b0 : (((t101.size : Int) % 4) == 1) = true := beq_iff_eq.mpr c3
    have c3b1 : (((t101.size : Int) % 4) != 1) = false := bne_eq_false_iff_eq.mpr c3
    clear c3
    simp only [Option.some.injEq, Prod.mk.injEq] at H
    obtain ⟨rfl, rfl⟩ := H
    go_enter Tryd.func10, Tryd.ntmps10
    go_wp2_with (first | ((with_reducible refine gate_callee (f := 15) rfl ?_); refine goesL_ (some 10) rfl rfl Tryd.func15 (by kernel_rfl) rfl #[.string a0] rfl (by (try simp only [List.map_toArray, List.map_cons, List.map_nil]); first | done | rfl | (simp only [List.length_drop, List.length_take]; rfl)) ?_; (with_reducible refine (base_squeeze.calls a0 t101 _ A2.out (Go.Proofs.YtbobbbpjphkooaaDoor.G.T_below HT.out (by repeat (first | (with_reducible first | exact HB.out | apply below_alloc | apply pw_below_drewN | apply below_drew1) | exact HB.out)))).mono ?_); rintro e w4 ⟨rfl, hb⟩; refine ⟨_, rfl, ?_⟩; have n0_ := Aside0.mk (below_step (by repeat (first | (with_reducible first | exact HB.out | apply below_alloc | apply pw_below_drewN | apply below_drew1) | exact HB.out)) hb); clear HB; have HB := n0_; clear n0_; (try clear hb); (try clear hb2); (try clear hk); (try clear hi)))
    go_ret2
    exact ⟨_, by first | rfl | (simp [errW_none, errW_some] <;> rfl) | (simp [*, errW_none, errW_some] <;> rfl) | (simp [errW_none, errW_some, Go.Proofs.YtbobbbpjphkooaaDoor.G.isEmpty_ne]; done), by first | exact Kd.R_nil _ _ _ _ _ | exact Kd.N_nil _ _ _ _ _ | exact Kd.V_nil _ _ _ _ _ | exact Kd.Q_nil _ _ _ _ _ | exact Kd.S_nil _ _ _ _ _, by repeat (first | (with_reducible first | exact HB.out | apply below_alloc | apply pw_below_drewN | apply below_drew1) | exact HB.out)⟩
  · rw [if_neg c3] at H
    have c3b0 : (((t101.size : Int) % 4) == 1) = false := beq_eq_false_iff_ne.mpr c3
    have c3b1 : (((t101.size : Int) % 4) != 1) = true := bne_iff_ne.mpr c3
    have H' := Aside0.mk H
    clear H
    go_enter Tryd.func10, Tryd.ntmps10
    go_wp2_with (first | ((with_reducible refine gate_callee (f := 15) rfl ?_); refine goesL_ (some 10) rfl rfl Tryd.func15 (by kernel_rfl) rfl #[.string a0] rfl (by (try simp only [List.map_toArray, List.map_cons, List.map_nil]); first | done | rfl | (simp only [List.length_drop, List.length_take]; rfl)) ?_; (with_reducible refine (base_squeeze.calls a0 t101 _ A2.out (Go.Proofs.YtbobbbpjphkooaaDoor.G.T_below HT.out (by repeat (first | (with_reducible first | exact HB.out | apply below_alloc | apply pw_below_drewN | apply below_drew1) | exact HB.out)))).mono ?_); rintro e w5 ⟨rfl, hb⟩; refine ⟨_, rfl, ?_⟩; have n0_ := Aside0.mk (below_step (by repeat (first | (with_reducible first | exact HB.out | apply below_alloc | apply pw_below_drewN | apply below_drew1) | exact HB.out)) hb); clear HB; have HB := n0_; clear n0_; (try clear hb); (try clear hb2); (try clear hk); (try clear hi)))
    go_loopg [4, 5, 6, 17] k (fun kq v4 v5 v6 v17 w' => ∃ (x4_1 : List Int) (x5_1 : Int) (x6_1 : Int) (x17_1 : Int), v5 = .int .u64 x5_1 ∧ v6 = .int .i64 x6_1 ∧ v17 = .int .i64 x17_1 ∧ Aside0 (base_Decode.l0 kq t101 x4_1 x5_1 x6_1 (t101.size : Int) x17_1 = some (r1, r2)) ∧ Aside0 (kq ≤ k) ∧ Aside0 (Kd.R (Kd.int .u8) 5 w' w.heap.size (fun _ => True) v4 x4_1) ∧ Aside0 (Below w.heap.size w w'))
    case atStart => exact ⟨(([] : List Int)), (0), (0), (0), (by first | rfl | (simp; done) | (simp [*]; done) | (simp [Go.Proofs.YtbobbbpjphkooaaDoor.G.isEmpty_ne]; done)), (by first | rfl | (simp; done) | (simp [*]; done) | (simp [Go.Proofs.YtbobbbpjphkooaaDoor.G.isEmpty_ne]; done)), (by first | rfl | (simp; done) | (simp [*]; done) | (simp [Go.Proofs.YtbobbbpjphkooaaDoor.G.isEmpty_ne]; done)), H', ⟨Nat.le_refl _⟩, ⟨by first | exact Kd.R_nil _ _ _ _ _ | exact Kd.N_nil _ _ _ _ _ | exact Kd.V_nil _ _ _ _ _ | exact Kd.Q_nil _ _ _ _ _ | exact Kd.S_nil _ _ _ _ _⟩, ⟨by repeat (first | (with_reducible first | exact HB.out | apply below_alloc | apply pw_below_drewN | apply below_drew1) | exact HB.out)⟩⟩
    case round =>
      clear H'
      try clear c1
      try clear p2
      try clear c3
      try clear c3b0
      try clear c3b1
      obtain ⟨x4_1, x5_1, x6_1, x17_1, rfl, rfl, rfl, HA, HK1, HO_4, HB⟩ := hrel
      cases gk with
      | zero => exact absurd HA.out (by simp [base_Decode.l0])
      | succ k1 =>
        have H := HA.out
        clear HA
        simp only [base_Decode.l0] at H
        by_cases c6 : x17_1 < (t101.size : Int)
        · rw [if_pos c6] at H
          have c6b0 : decide (x17_1 < (t101.size : Int)) = true := decide_eq_true c6
          clear c6
          by_cases c7 : 0 ≤ x17_1
          · rw [if_pos c7] at H
            have c7b0 : decide (0 ≤ x17_1) = true := decide_eq_true c7
            clear c7
            by_cases c8 : x17_1 < (t101.size : Int)
            · rw [if_pos c8] at H
              have c8b0 : decide (x17_1 < (t101.size : Int)) = true := decide_eq_true c8
              clear c8
              replace H := Option.bind_eq_some_iff.mp H
              obtain ⟨t102, A100, H⟩ := H
              replace H : (if t102 < 0 then (some (([] : List Int), false)) else (if (wrap64 (x6_1 + 6)) ≥ 8 then (if 0 ≤ (wrap64 ((wrap64 (x6_1 + 6)) - 8)) then (if x4_1.length < 140737488355328 then (base_Decode.l0 k1 t101 (x4_1 ++ [(shr .u64 (Go.bits .or .u64 (Go.bits .and .u64 (IntKind.u64.wrap (x5_1 * 64)) 65535) (IntKind.u64.wrap (t102))) (wrap64 ((wrap64 (x6_1 + 6)) - 8))) % 256]) (Go.bits .or .u64 (Go.bits .and .u64 (IntKind.u64.wrap (x5_1 * 64)) 65535) (IntKind.u64.wrap (t102))) (wrap64 ((wrap64 (x6_1 + 6)) - 8)) (t101.size : Int) (wrap64 (x17_1 + 1))) else (none)) else (none)) else (base_Decode.l0 k1 t101 x4_1 (Go.bits .or .u64 (Go.bits .and .u64 (IntKind.u64.wrap (x5_1 * 64)) 65535) (IntKind.u64.wrap (t102))) (wrap64 (x6_1 + 6)) (t101.size : Int) (wrap64 (x17_1 + 1))))) = some (r1, r2) := H
              have A10 := Aside0.mk A100
              clear A100
              by_cases c11 : t102 < 0
              · rw [if_pos c11] at H
                have c11b0 : decide (t102 < 0) = true := decide_eq_true c11
                clear c11
                simp only [Option.some.injEq, Prod.mk.injEq] at H
                obtain ⟨rfl, rfl⟩ := H
                have p9 : 0 ≤ (x17_1 : Int) := of_decide_eq_true (by first | (with_reducible assumption) | assumption)
                have q9 : x17_1 < (t101.size : Int) := of_decide_eq_true (by first | (with_reducible assumption) | assumption)
                have hx9 := bt_at t101 x17_1
                replace p9 := eq_true p9
                replace q9 := eq_true q9
                go_wp2_with (first | ((with_reducible refine gate_callee (f := 16) rfl ?_); refine goesL_ (some 23) rfl rfl Tryd.func16 (by kernel_rfl) rfl #[.string (⟨#[65, 66, 67, 68, 69, 70, 71, 72, 73, 74, 75, 76, 77, 78, 79, 80, 81, 82, 83, 84, 85, 86, 87, 88, 89, 90, 97, 98, 99, 100, 101, 102, 103, 104, 105, 106, 107, 108, 109, 110, 111, 112, 113, 114, 115, 116, 117, 118, 119, 120, 121, 122, 48, 49, 50, 51, 52, 53, 54, 55, 56, 57, 43, 47]⟩ : ByteArray), .int .u8 (bt t101 x17_1)] rfl (by (try simp only [List.map_toArray, List.map_cons, List.map_nil]); first | done | rfl | (simp only [List.length_drop, List.length_take]; rfl)) ?_; (with_reducible refine (strings_IndexByte.calls (⟨#[65, 66, 67, 68, 69, 70, 71, 72, 73, 74, 75, 76, 77, 78, 79, 80, 81, 82, 83, 84, 85, 86, 87, 88, 89, 90, 97, 98, 99, 100, 101, 102, 103, 104, 105, 106, 107, 108, 109, 110, 111, 112, 113, 114, 115, 116, 117, 118, 119, 120, 121, 122, 48, 49, 50, 51, 52, 53, 54, 55, 56, 57, 43, 47]⟩ : ByteArray) (bt t101 x17_1) t102 _ A10.out).mono ?_); rintro e w' ⟨rfl, ⟨nd, rfl⟩⟩; refine ⟨_, rfl, ?_⟩))
                go_ret2
                exact ⟨_, by first | rfl | (simp [errW_none, errW_some] <;> rfl) | (simp [*, errW_none, errW_some] <;> rfl) | (simp [errW_none, errW_some, Go.Proofs.YtbobbbpjphkooaaDoor.G.isEmpty_ne]; done), by first | exact Kd.R_nil _ _ _ _ _ | exact Kd.N_nil _ _ _ _ _ | exact Kd.V_nil _ _ _ _ _ | exact Kd.Q_nil _ _ _ _ _ | exact Kd.S_nil _ _ _ _ _, by repeat (first | (with_reducible first | exact HB.out | apply below_alloc | apply pw_below_drewN | apply below_drew1) | exact HB.out)⟩
              · rw [if_neg c11] at H
                have c11b0 : decide (t102 < 0) = false := decide_eq_false c11
                clear c11
                by_cases c12 : (wrap64 (x6_1 + 6)) ≥ 8
                · rw [if_pos c12] at H
                  have c12b0 : decide (8 ≤ (wrap64 (x6_1 + 6))) = true := decide_eq_true c12
                  clear c12
                  obtain ⟨ji13, hji13⟩ : ∃ j_ : Int, (wrap64 ((wrap64 (x6_1 + 6)) - 8)) = j_ := ⟨_, rfl⟩
                  replace H : (if 0 ≤ (ji13) then (if x4_1.length < 140737488355328 then (base_Decode.l0 k1 t101 (x4_1 ++ [(shr .u64 (Go.bits .or .u64 (Go.bits .and .u64 (IntKind.u64.wrap (x5_1 * 64)) 65535) (IntKind.u64.wrap (t102))) (ji13)) % 256]) (Go.bits .or .u64 (Go.bits .and .u64 (IntKind.u64.wrap (x5_1 * 64)) 65535) (IntKind.u64.wrap (t102))) ji13 (t101.size : Int) (wrap64 (x17_1 + 1))) else (none)) else (none)) = some (r1, r2) := by first | (rw [hji13] at H; exact H) | (simp only [hji13] at H ⊢; exact H)
                  (try rw [hji13] at A10)
                  have hji13w : (IntKind.i64.wrap ((wrap64 (x6_1 + 6)) - 8)) = ji13 := (i64_w _).trans hji13
                  by_cases c14 : 0 ≤ (ji13)
                  · rw [if_pos c14] at H
                    have c14b0 := eq_true c14
                    have c14b1 : decide (0 ≤ (ji13)) = true := decide_eq_true c14
                    clear c14
                    obtain ⟨ji15, hji15⟩ : ∃ j_ : Int, (shr .u64 (Go.bits .or .u64 (Go.bits .and .u64 (IntKind.u64.wrap (x5_1 * 64)) 65535) (IntKind.u64.wrap (t102))) (ji13)) = j_ := ⟨_, rfl⟩
                    replace H : (if x4_1.length < 140737488355328 then (base_Decode.l0 k1 t101 (x4_1 ++ [(ji15) % 256]) (Go.bits .or .u64 (Go.bits .and .u64 (IntKind.u64.wrap (x5_1 * 64)) 65535) (IntKind.u64.wrap (t102))) ji13 (t101.size : Int) (wrap64 (x17_1 + 1))) else (none)) = some (r1, r2) := by first | (rw [hji15] at H; exact H) | (simp only [hji15] at H ⊢; exact H)
                    (try rw [hji15] at A10)
                    have hji15_ : ((Go.bits .or .u64 (Go.bits .and .u64 (IntKind.u64.wrap (x5_1 * 64)) 65535) (IntKind.u64.wrap (t102))) / 2 ^ min (ji13).toNat 64) = ji15 := hji15
                    have hji15z : (ji13) ≤ 64 → ((Go.bits .or .u64 (Go.bits .and .u64 (IntKind.u64.wrap (x5_1 * 64)) 65535) (IntKind.u64.wrap (t102))) / 2 ^ (ji13).toNat) = ji15 := shr_small hji15
                    by_cases c16 : x4_1.length < 140737488355328
                    · rw [if_pos c16] at H
                      have LMc16 := Aside0.mk c16
                      clear c16
                      obtain ⟨y103, hy103⟩ : ∃ y_ : List Int, y_ = (x4_1 ++ [(ji15) % 256]) := ⟨_, rfl⟩
                      replace H : (base_Decode.l0 k1 t101 y103 (Go.bits .or .u64 (Go.bits .and .u64 (IntKind.u64.wrap (x5_1 * 64)) 65535) (IntKind.u64.wrap (t102))) ji13 (t101.size : Int) (wrap64 (x17_1 + 1))) = some (r1, r2) := by first | (rw [hy103]; with_reducible exact H) | (have H2_ := (Option.bind_some _ _).symm.trans H; rw [hy103]; with_reducible exact H2_) | (have H2_ := (Option.bind_some _ _).symm.trans H; with_reducible exact H2_) | with_reducible exact H | (rw [hy103]; exact H) | exact H
                      have Ny103 := Aside0.mk hy103
                      clear hy103
                      have H' := Aside0.mk H
                      clear H
                      have p9 : 0 ≤ (x17_1 : Int) := of_decide_eq_true (by first | (with_reducible assumption) | assumption)
                      have q9 : x17_1 < (t101.size : Int) := of_decide_eq_true (by first | (with_reducible assumption) | assumption)
                      have hx9 := bt_at t101 x17_1
                      replace p9 := eq_true p9
                      replace q9 := eq_true q9
                      go_wp2_with (first | ((with_reducible refine gate_callee (f := 16) rfl ?_); refine goesL_ (some 23) rfl rfl Tryd.func16 (by kernel_rfl) rfl #[.string (⟨#[65, 66, 67, 68, 69, 70, 71, 72, 73, 74, 75, 76, 77, 78, 79, 80, 81, 82, 83, 84, 85, 86, 87, 88, 89, 90, 97, 98, 99, 100, 101, 102, 103, 104, 105, 106, 107, 108, 109, 110, 111, 112, 113, 114, 115, 116, 117, 118, 119, 120, 121, 122, 48, 49, 50, 51, 52, 53, 54, 55, 56, 57, 43, 47]⟩ : ByteArray), .int .u8 (bt t101 x17_1)] rfl (by (try simp only [List.map_toArray, List.map_cons, List.map_nil]); first | done | rfl | (simp only [List.length_drop, List.length_take]; rfl)) ?_; (with_reducible refine (strings_IndexByte.calls (⟨#[65, 66, 67, 68, 69, 70, 71, 72, 73, 74, 75, 76, 77, 78, 79, 80, 81, 82, 83, 84, 85, 86, 87, 88, 89, 90, 97, 98, 99, 100, 101, 102, 103, 104, 105, 106, 107, 108, 109, 110, 111, 112, 113, 114, 115, 116, 117, 118, 119, 120, 121, 122, 48, 49, 50, 51, 52, 53, 54, 55, 56, 57, 43, 47]⟩ : ByteArray) (bt t101 x17_1) t102 _ A10.out).mono ?_); rintro e w' ⟨rfl, ⟨nd, rfl⟩⟩; refine ⟨_, rfl, ?_⟩) | ((with_reducible refine gate_builtin (b := .append) (xs := #[.tmp 38, .tmp 43]) rfl ?_); at_builtin; refine Kd.R_append (Kd.int .u8) (w0 := w) w.heap.size rfl (.tmp 38) (.tmp 43) 22 5 (.int .u8 0) 1 rfl Tryd.underlying22 info5 rfl (by decide) (by omega) u4 x4_1 ((ji15) % 256) [.int .u8 ((ji15) % 256)] (fun _ => True) (fun _ => False) rfl rfl ?aP (fun _ hk => hk.elim) ?aF ?aO ?aB ?aS ?aL ?_; (case aP => exact rfl); (case aB => exact (by repeat (first | (with_reducible first | exact HB.out | apply below_alloc | apply pw_below_drewN | apply below_drew1) | exact HB.out))); (case aF => exact (fun _ _ => trivial)); (case aO => exact (by (with_reducible repeat (first | apply Kd.R_alloc | apply Kd.R_drewN | apply Kd.R_drew)); exact HO_4.out)); (case aS => exact (below_size (by repeat (first | (with_reducible first | exact HB.out | apply below_alloc | apply pw_below_drewN | apply below_drew1) | exact HB.out)))); (case aL => have := LMc16.out; omega); intro v104 w17 ho hb hg hat; rw [← Ny103.out] at ho; have n0_ := Aside0.mk (hb); have n1_ := Aside0.mk (ho); clear HB; clear HO_4; have HB := n0_; have HO105 := n1_; clear n0_ n1_; clear ho hb hg hat))
                      go_roundg k1
                      case measure => have := HK1.out; omega
                      case rel => exact ⟨(y103), (Go.bits .or .u64 (Go.bits .and .u64 (IntKind.u64.wrap (x5_1 * 64)) 65535) (IntKind.u64.wrap (t102))), (ji13), (wrap64 (x17_1 + 1)), (by first | rfl | (simp; done) | (simp [*]; done) | (simp [Go.Proofs.YtbobbbpjphkooaaDoor.G.isEmpty_ne]; done)), (by first | rfl | (simp; done) | (simp only [← hji13] <;> (first | rfl | (simp; done))) | (simp only [← hji13]; simp [Go.Proofs.YtbobbbpjphkooaaDoor.G.isEmpty_ne]; done) | (simp [*]; done) | (simp [Go.Proofs.YtbobbbpjphkooaaDoor.G.isEmpty_ne]; done)), (by first | rfl | (simp; done) | (simp [*]; done) | (simp [Go.Proofs.YtbobbbpjphkooaaDoor.G.isEmpty_ne]; done)), H', ⟨by have := HK1.out; omega⟩, ⟨by (with_reducible repeat (first | apply Kd.R_alloc | apply Kd.R_drewN | apply Kd.R_drew)); exact HO105.out⟩, ⟨by repeat (first | (with_reducible first | exact HB.out | apply below_alloc | apply pw_below_drewN | apply below_drew1) | exact HB.out)⟩⟩
                    · rw [if_neg c16] at H
                      exact absurd H (by simp)
                  · rw [if_neg c14] at H
                    exact absurd H (by simp)
                · rw [if_neg c12] at H
                  have c12b0 : decide (8 ≤ (wrap64 (x6_1 + 6))) = false := decide_eq_false c12
                  clear c12
                  have H' := Aside0.mk H
                  clear H
                  have p9 : 0 ≤ (x17_1 : Int) := of_decide_eq_true (by first | (with_reducible assumption) | assumption)
                  have q9 : x17_1 < (t101.size : Int) := of_decide_eq_true (by first | (with_reducible assumption) | assumption)
                  have hx9 := bt_at t101 x17_1
                  replace p9 := eq_true p9
                  replace q9 := eq_true q9
                  go_wp2_with (first | ((with_reducible refine gate_callee (f := 16) rfl ?_); refine goesL_ (some 23) rfl rfl Tryd.func16 (by kernel_rfl) rfl #[.string (⟨#[65, 66, 67, 68, 69, 70, 71, 72, 73, 74, 75, 76, 77, 78, 79, 80, 81, 82, 83, 84, 85, 86, 87, 88, 89, 90, 97, 98, 99, 100, 101, 102, 103, 104, 105, 106, 107, 108, 109, 110, 111, 112, 113, 114, 115, 116, 117, 118, 119, 120, 121, 122, 48, 49, 50, 51, 52, 53, 54, 55, 56, 57, 43, 47]⟩ : ByteArray), .int .u8 (bt t101 x17_1)] rfl (by (try simp only [List.map_toArray, List.map_cons, List.map_nil]); first | done | rfl | (simp only [List.length_drop, List.length_take]; rfl)) ?_; (with_reducible refine (strings_IndexByte.calls (⟨#[65, 66, 67, 68, 69, 70, 71, 72, 73, 74, 75, 76, 77, 78, 79, 80, 81, 82, 83, 84, 85, 86, 87, 88, 89, 90, 97, 98, 99, 100, 101, 102, 103, 104, 105, 106, 107, 108, 109, 110, 111, 112, 113, 114, 115, 116, 117, 118, 119, 120, 121, 122, 48, 49, 50, 51, 52, 53, 54, 55, 56, 57, 43, 47]⟩ : ByteArray) (bt t101 x17_1) t102 _ A10.out).mono ?_); rintro e w' ⟨rfl, ⟨nd, rfl⟩⟩; refine ⟨_, rfl, ?_⟩))
                  go_roundg k1
                  case measure => have := HK1.out; omega
                  case rel => exact ⟨(x4_1), (Go.bits .or .u64 (Go.bits .and .u64 (IntKind.u64.wrap (x5_1 * 64)) 65535) (IntKind.u64.wrap (t102))), (wrap64 (x6_1 + 6)), (wrap64 (x17_1 + 1)), (by first | rfl | (simp; done) | (simp [*]; done) | (simp [Go.Proofs.YtbobbbpjphkooaaDoor.G.isEmpty_ne]; done)), (by first | rfl | (simp; done) | (simp [*]; done) | (simp [Go.Proofs.YtbobbbpjphkooaaDoor.G.isEmpty_ne]; done)), (by first | rfl | (simp; done) | (simp [*]; done) | (simp [Go.Proofs.YtbobbbpjphkooaaDoor.G.isEmpty_ne]; done)), H', ⟨by have := HK1.out; omega⟩, ⟨by (with_reducible repeat (first | apply Kd.R_alloc | apply Kd.R_drewN | apply Kd.R_drew)); exact HO_4.out⟩, ⟨by repeat (first | (with_reducible first | exact HB.out | apply below_alloc | apply pw_below_drewN | apply below_drew1) | exact HB.out)⟩⟩
            · rw [if_neg c8] at H
              exact absurd H (by simp)
          · rw [if_neg c7] at H
            exact absurd H (by simp)
        · rw [if_neg c6] at H
          have c6b0 : decide (x17_1 < (t101.size : Int)) = false := decide_eq_false c6
          clear c6
          simp only [Option.some.injEq, Prod.mk.injEq] at H
          obtain ⟨rfl, rfl⟩ := H
          go_wp2
          go_ret2
          exact ⟨_, by first | rfl | (simp [errW_none, errW_some] <;> rfl) | (simp [*, errW_none, errW_some] <;> rfl) | (simp [errW_none, errW_some, Go.Proofs.YtbobbbpjphkooaaDoor.G.isEmpty_ne]; done), by (with_reducible repeat (first | apply Kd.R_alloc | apply Kd.R_drewN | apply Kd.R_drew)); exact HO_4.out, by repeat (first | (with_reducible first | exact HB.out | apply below_alloc | apply pw_below_drewN | apply below_drew1) | exact HB.out)⟩

/-! ### carryalllaw03_BaseBlanks: function 5 -/
def carryalllaw03_BaseBlanks.j0 : Nat → ByteArray → Int → Int → Bool → Option (Bool)
  | 0, _, _, _, _ => none
  | k + 1, x0, x1, x2, x18 => if x18 = true then ((carryalllaw03_awake.f).bind fun t107 => (some t107)) else (if (wrap64 ((x0.size : Int) + 1)) = 0 then (none) else ((base_Decode.f k x0).bind fun bt108 => (if 0 ≤ (Int.tmod (wrap64 (x1)) (wrap64 ((x0.size : Int) + 1))) then (if (Int.tmod (wrap64 (x1)) (wrap64 ((x0.size : Int) + 1))) ≤ (x0.size : Int) then ((some (([(⟨#[32]⟩ : ByteArray), (⟨#[9]⟩ : ByteArray), (⟨#[10]⟩ : ByteArray), (⟨#[12]⟩ : ByteArray), (⟨#[13]⟩ : ByteArray)] : List ByteArray) : List ByteArray)).bind fun y112 => (if 0 ≤ (Int.tmod x2 5) then (if (Int.tmod x2 5) < (y112.length : Int) then (if (x0.extract 0 ((Int.tmod (wrap64 (x1)) (wrap64 ((x0.size : Int) + 1))) : Int).toNat).size + (rdOf ByteArray.empty y112 (Int.tmod x2 5)).size ≤ 9223372036854775807 then (if ((x0.extract 0 ((Int.tmod (wrap64 (x1)) (wrap64 ((x0.size : Int) + 1))) : Int).toNat) ++ (rdOf ByteArray.empty y112 (Int.tmod x2 5))).size + (x0.extract ((Int.tmod (wrap64 (x1)) (wrap64 ((x0.size : Int) + 1))) : Int).toNat x0.size).size ≤ 9223372036854775807 then ((base_Decode.f k (((x0.extract 0 ((Int.tmod (wrap64 (x1)) (wrap64 ((x0.size : Int) + 1))) : Int).toNat) ++ (rdOf ByteArray.empty y112 (Int.tmod x2 5))) ++ (x0.extract ((Int.tmod (wrap64 (x1)) (wrap64 ((x0.size : Int) + 1))) : Int).toNat x0.size))).bind fun bt116 => (if (bt108.2 == bt116.2) = true then (some ((strOfNums bt108.1).toList == (strOfNums bt116.1).toList)) else (some false))) else (none)) else (none)) else (none)) else (none))) else (none)) else (none))))
def carryalllaw03_BaseBlanks.f (k : Nat) (a0 : ByteArray) (a1 : Int) (a2 : Int) : Option (Bool) := (carryalllaw03_awake.f).bind fun t106 => (if t106 = true then (carryalllaw03_BaseBlanks.j0 k a0 a1 a2 (decide ((a0.size : Int) > 400))) else (carryalllaw03_BaseBlanks.j0 k a0 a1 a2 true))
theorem carryalllaw03_BaseBlanks.mono_l : ∀ k, (∀ y0 y1 y2 y3, LeO (carryalllaw03_BaseBlanks.j0 k y0 y1 y2 y3) (carryalllaw03_BaseBlanks.j0 (k + 1) y0 y1 y2 y3))
  | 0 => fun _ _ _ _ r h => by simp [carryalllaw03_BaseBlanks.j0] at h
  | k + 1 => by
    have ih0 := carryalllaw03_BaseBlanks.mono_l k
    · intro y0 y1 y2 y3
      unfold carryalllaw03_BaseBlanks.j0
      repeat' first
      | (with_reducible exact ih0 _ _ _ _)
      | (with_reducible exact base_Decode.mono _ _)
      | (with_reducible exact LeO.refl _)
      | (with_reducible exact LeO.none _)
      | (with_reducible refine LeO.ite ?_ ?_)
      | (with_reducible refine LeO.bind ?_ (fun _ => ?_))
      | exact ih0 _ _ _ _
      | exact base_Decode.mono _ _
      | exact LeO.none _
      | refine LeO.ite ?_ ?_
      | refine LeO.bind ?_ (fun _ => ?_)
theorem carryalllaw03_BaseBlanks.mono : ∀ a0 a1 a2 k, LeO (carryalllaw03_BaseBlanks.f k a0 a1 a2) (carryalllaw03_BaseBlanks.f (k + 1) a0 a1 a2) := by
  intro a0 a1 a2 k
  have ih0 := carryalllaw03_BaseBlanks.mono_l k
  unfold carryalllaw03_BaseBlanks.f
  repeat' first
      | (with_reducible exact ih0 _ _ _ _)
      | (with_reducible exact base_Decode.mono _ _)
      | (with_reducible exact LeO.refl _)
      | (with_reducible exact LeO.none _)
      | (with_reducible refine LeO.ite ?_ ?_)
      | (with_reducible refine LeO.bind ?_ (fun _ => ?_))
      | exact ih0 _ _ _ _
      | exact base_Decode.mono _ _
      | exact LeO.none _
      | refine LeO.ite ?_ ?_
      | refine LeO.bind ?_ (fun _ => ?_)
def carryalllaw03_BaseBlanks.T5 : Bool × List (List Nat × List Nat) := (true, [([], []), ([], []), ([0, 1], [0, 1]), ([], []), ([], []), ([4], [4]), ([3, 5], [3, 5]), ([6], [6]), ([2, 7], [2, 7]), ([], []), ([], []), ([9, 10], [9, 10]), ([8, 11], [8, 11]), ([12], [12]), ([13], [13]), ([14], [14]), ([14], [14]), ([15, 13, 0, 1, 2, 3, 4, 5, 6, 7, 8, 9, 10, 11, 12, 13, 14, 15], [15]), ([16, 17, 0, 1, 2, 3, 4, 5, 6, 7, 8, 9, 10, 11, 12, 13, 14, 15, 16, 17], [16])])
def carryalllaw03_BaseBlanks.B5 : List Nat := [0, 0, 3, 0, 0, 16, 56, 120, 255, 0, 0, 1536, 4095, 8191, 16383, 32767, 32767, 65535, 262143]
theorem carryalllaw03_BaseBlanks.tab5 : rtab .any (opsOf Tryd.f5 5) = carryalllaw03_BaseBlanks.T5 := by kernel_rfl
theorem carryalllaw03_BaseBlanks.bits5 : waitsOk carryalllaw03_BaseBlanks.T5.2 carryalllaw03_BaseBlanks.B5 = true := by kernel_rfl
set_option maxHeartbeats 8000000 in
set_option maxRecDepth 100000 in
theorem carryalllaw03_BaseBlanks.calls (k : Nat) (a0 : ByteArray) (a1 : Int) (a2 : Int) (r : Bool) (w : World) (h : carryalllaw03_BaseBlanks.f k a0 a1 a2 = some r) (hT : Go.Proofs.YtbobbbpjphkooaaDoor.G.T w) :
    Calls Tryd.prog 5 #[.string a0, .int .u16 a1, .int .u8 a2] w fun e w' => e = .returned (.bool r) ∧ Below w.heap.size w w' := by
  have HT := Aside0.mk hT
  clear hT
  have HB := Aside0.mk (Below.refl w.heap.size w)
  have H : ((carryalllaw03_awake.f).bind fun t106 => (if t106 = true then (carryalllaw03_BaseBlanks.j0 k a0 a1 a2 (decide ((a0.size : Int) > 400))) else (carryalllaw03_BaseBlanks.j0 k a0 a1 a2 true))) = some r := h
  clear h
  have HC4 := Aside0.mk H
  clear H
  go_enter Tryd.func5, Tryd.ntmps5
  go_upto_region 1 with (fail)
  go_cut [18] (fun v18 wc => ∃ (kq : Nat) (x18_3 : Bool), v18 = .bool x18_3 ∧ Aside0 (carryalllaw03_BaseBlanks.j0 kq a0 a1 a2 x18_3 = some r) ∧ Aside0 (kq ≤ k) ∧ Aside0 (Below w.heap.size w wc))
  case first =>
    have H := HC4.out
    clear HC4
    replace H := Option.bind_eq_some_iff.mp H
    obtain ⟨t106, A50, H⟩ := H
    replace H : (if t106 = true then (carryalllaw03_BaseBlanks.j0 k a0 a1 a2 (decide ((a0.size : Int) > 400))) else (carryalllaw03_BaseBlanks.j0 k a0 a1 a2 true)) = some r := H
    have A5 := Aside0.mk A50
    clear A50
    by_cases c6 : t106 = true
    · subst c6
      have H1 : (carryalllaw03_BaseBlanks.j0 k a0 a1 a2 (decide ((a0.size : Int) > 400))) = some r := by rw [if_pos rfl] at H; exact H
      clear H
      have H := H1
      clear H1
      have H' := Aside0.mk H
      clear H
      go_wp2_with (first | ((with_reducible refine gate_callee (f := 8) rfl ?_); refine goesL_ (some 12) rfl rfl Tryd.func8 (by kernel_rfl) rfl #[] rfl (by (try simp only [List.map_toArray, List.map_cons, List.map_nil]); first | done | rfl | (simp only [List.length_drop, List.length_take]; rfl)) ?_; (with_reducible refine (carryalllaw03_awake.calls  true _ A5.out (Go.Proofs.YtbobbbpjphkooaaDoor.G.T_below HT.out (by repeat (first | (with_reducible first | exact HB.out | apply below_alloc | apply pw_below_drewN | apply below_drew1) | exact HB.out)))).mono ?_); rintro e w7 ⟨rfl, hb⟩; refine ⟨_, rfl, ?_⟩; have n0_ := Aside0.mk (below_step (by repeat (first | (with_reducible first | exact HB.out | apply below_alloc | apply pw_below_drewN | apply below_drew1) | exact HB.out)) hb); clear HB; have HB := n0_; clear n0_; (try clear hb); (try clear hb2); (try clear hk); (try clear hi)))
      go_meet
      case rel => exact ⟨_, (decide ((a0.size : Int) > 400)), (by first | rfl | (simp; done) | (simp [*]; done) | (simp [Go.Proofs.YtbobbbpjphkooaaDoor.G.isEmpty_ne]; done)), H', ⟨by first | omega | exact Nat.le_refl _⟩, ⟨by repeat (first | (with_reducible first | exact HB.out | apply below_alloc | apply pw_below_drewN | apply below_drew1) | exact HB.out)⟩⟩
    · replace c6 := Bool.eq_false_iff.mpr c6
      subst c6
      have H1 : (carryalllaw03_BaseBlanks.j0 k a0 a1 a2 true) = some r := by rw [if_neg (show ¬ (false = true) by decide)] at H; exact H
      clear H
      have H := H1
      clear H1
      have H' := Aside0.mk H
      clear H
      go_wp2_with (first | ((with_reducible refine gate_callee (f := 8) rfl ?_); refine goesL_ (some 12) rfl rfl Tryd.func8 (by kernel_rfl) rfl #[] rfl (by (try simp only [List.map_toArray, List.map_cons, List.map_nil]); first | done | rfl | (simp only [List.length_drop, List.length_take]; rfl)) ?_; (with_reducible refine (carryalllaw03_awake.calls  false _ A5.out (Go.Proofs.YtbobbbpjphkooaaDoor.G.T_below HT.out (by repeat (first | (with_reducible first | exact HB.out | apply below_alloc | apply pw_below_drewN | apply below_drew1) | exact HB.out)))).mono ?_); rintro e w8 ⟨rfl, hb⟩; refine ⟨_, rfl, ?_⟩; have n0_ := Aside0.mk (below_step (by repeat (first | (with_reducible first | exact HB.out | apply below_alloc | apply pw_below_drewN | apply below_drew1) | exact HB.out)) hb); clear HB; have HB := n0_; clear n0_; (try clear hb); (try clear hb2); (try clear hk); (try clear hi)))
      go_meet
      case rel => exact ⟨_, (true), (by first | rfl | (simp; done) | (simp [*]; done) | (simp [Go.Proofs.YtbobbbpjphkooaaDoor.G.isEmpty_ne]; done)), H', ⟨by first | omega | exact Nat.le_refl _⟩, ⟨by repeat (first | (with_reducible first | exact HB.out | apply below_alloc | apply pw_below_drewN | apply below_drew1) | exact HB.out)⟩⟩
  case rest =>
    clear HC4
    try clear p2
    try clear c5
    try clear c6
    try clear c8
    obtain ⟨kq, x18_3, rfl, HA, HJ3, HB⟩ := hcut
    cases kq with
    | zero => exact absurd HA.out (by simp [carryalllaw03_BaseBlanks.j0])
    | succ kj3 =>
      have H := HA.out
      clear HA
      simp only [carryalllaw03_BaseBlanks.j0] at H
      by_cases c9 : x18_3 = true
      · subst c9
        have H1 : ((carryalllaw03_awake.f).bind fun t107 => (some t107)) = some r := by rw [if_pos rfl] at H; exact H
        clear H
        have H := H1
        clear H1
        replace H := Option.bind_eq_some_iff.mp H
        obtain ⟨t107, A100, H⟩ := H
        replace H : (some t107) = some r := H
        have A10 := Aside0.mk A100
        clear A100
        obtain rfl := Option.some.inj H
        go_wp2_with (first | ((with_reducible refine gate_callee (f := 8) rfl ?_); refine goesL_ (some 19) rfl rfl Tryd.func8 (by kernel_rfl) rfl #[] rfl (by (try simp only [List.map_toArray, List.map_cons, List.map_nil]); first | done | rfl | (simp only [List.length_drop, List.length_take]; rfl)) ?_; (with_reducible refine (carryalllaw03_awake.calls  t107 _ A10.out (Go.Proofs.YtbobbbpjphkooaaDoor.G.T_below HT.out (by repeat (first | (with_reducible first | exact HB.out | apply below_alloc | apply pw_below_drewN | apply below_drew1) | exact HB.out)))).mono ?_); rintro e w11 ⟨rfl, hb⟩; refine ⟨_, rfl, ?_⟩; have n0_ := Aside0.mk (below_step (by repeat (first | (with_reducible first | exact HB.out | apply below_alloc | apply pw_below_drewN | apply below_drew1) | exact HB.out)) hb); clear HB; have HB := n0_; clear n0_; (try clear hb); (try clear hb2); (try clear hk); (try clear hi)))
        go_ret
        exact ⟨by first | rfl | (simp [errW_none, errW_some] <;> rfl) | (simp [*, errW_none, errW_some] <;> rfl) | (simp [errW_none, errW_some, Go.Proofs.YtbobbbpjphkooaaDoor.G.isEmpty_ne]; done), by repeat (first | (with_reducible first | exact HB.out | apply below_alloc | apply pw_below_drewN | apply below_drew1) | exact HB.out)⟩
      · replace c9 := Bool.eq_false_iff.mpr c9
        subst c9
        have H1 : (if (wrap64 ((a0.size : Int) + 1)) = 0 then (none) else ((base_Decode.f kj3 a0).bind fun bt108 => (if 0 ≤ (Int.tmod (wrap64 (a1)) (wrap64 ((a0.size : Int) + 1))) then (if (Int.tmod (wrap64 (a1)) (wrap64 ((a0.size : Int) + 1))) ≤ (a0.size : Int) then ((some (([(⟨#[32]⟩ : ByteArray), (⟨#[9]⟩ : ByteArray), (⟨#[10]⟩ : ByteArray), (⟨#[12]⟩ : ByteArray), (⟨#[13]⟩ : ByteArray)] : List ByteArray) : List ByteArray)).bind fun y112 => (if 0 ≤ (Int.tmod a2 5) then (if (Int.tmod a2 5) < (y112.length : Int) then (if (a0.extract 0 ((Int.tmod (wrap64 (a1)) (wrap64 ((a0.size : Int) + 1))) : Int).toNat).size + (rdOf ByteArray.empty y112 (Int.tmod a2 5)).size ≤ 9223372036854775807 then (if ((a0.extract 0 ((Int.tmod (wrap64 (a1)) (wrap64 ((a0.size : Int) + 1))) : Int).toNat) ++ (rdOf ByteArray.empty y112 (Int.tmod a2 5))).size + (a0.extract ((Int.tmod (wrap64 (a1)) (wrap64 ((a0.size : Int) + 1))) : Int).toNat a0.size).size ≤ 9223372036854775807 then ((base_Decode.f kj3 (((a0.extract 0 ((Int.tmod (wrap64 (a1)) (wrap64 ((a0.size : Int) + 1))) : Int).toNat) ++ (rdOf ByteArray.empty y112 (Int.tmod a2 5))) ++ (a0.extract ((Int.tmod (wrap64 (a1)) (wrap64 ((a0.size : Int) + 1))) : Int).toNat a0.size))).bind fun bt116 => (if (bt108.2 == bt116.2) = true then (some ((strOfNums bt108.1).toList == (strOfNums bt116.1).toList)) else (some false))) else (none)) else (none)) else (none)) else (none))) else (none)) else (none)))) = some r := by rw [if_neg (show ¬ (false = true) by decide)] at H; exact H
        clear H
        have H := H1
        clear H1
        by_cases c12 : (wrap64 ((a0.size : Int) + 1)) = 0
        · rw [if_pos c12] at H
          exact absurd H (by simp)
        · rw [if_neg c12] at H
          have c12b0 : ((wrap64 ((a0.size : Int) + 1)) == 0) = false := beq_eq_false_iff_ne.mpr c12
          have c12b1 : ((wrap64 ((a0.size : Int) + 1)) != 0) = true := bne_iff_ne.mpr c12
          replace H := Option.bind_eq_some_iff.mp H
          obtain ⟨⟨t108, t109⟩, A130, H⟩ := H
          replace H : (if 0 ≤ (Int.tmod (wrap64 (a1)) (wrap64 ((a0.size : Int) + 1))) then (if (Int.tmod (wrap64 (a1)) (wrap64 ((a0.size : Int) + 1))) ≤ (a0.size : Int) then ((some (([(⟨#[32]⟩ : ByteArray), (⟨#[9]⟩ : ByteArray), (⟨#[10]⟩ : ByteArray), (⟨#[12]⟩ : ByteArray), (⟨#[13]⟩ : ByteArray)] : List ByteArray) : List ByteArray)).bind fun y112 => (if 0 ≤ (Int.tmod a2 5) then (if (Int.tmod a2 5) < (y112.length : Int) then (if (a0.extract 0 ((Int.tmod (wrap64 (a1)) (wrap64 ((a0.size : Int) + 1))) : Int).toNat).size + (rdOf ByteArray.empty y112 (Int.tmod a2 5)).size ≤ 9223372036854775807 then (if ((a0.extract 0 ((Int.tmod (wrap64 (a1)) (wrap64 ((a0.size : Int) + 1))) : Int).toNat) ++ (rdOf ByteArray.empty y112 (Int.tmod a2 5))).size + (a0.extract ((Int.tmod (wrap64 (a1)) (wrap64 ((a0.size : Int) + 1))) : Int).toNat a0.size).size ≤ 9223372036854775807 then ((base_Decode.f kj3 (((a0.extract 0 ((Int.tmod (wrap64 (a1)) (wrap64 ((a0.size : Int) + 1))) : Int).toNat) ++ (rdOf ByteArray.empty y112 (Int.tmod a2 5))) ++ (a0.extract ((Int.tmod (wrap64 (a1)) (wrap64 ((a0.size : Int) + 1))) : Int).toNat a0.size))).bind fun bt116 => (if (t109 == bt116.2) = true then (some ((strOfNums t108).toList == (strOfNums bt116.1).toList)) else (some false))) else (none)) else (none)) else (none)) else (none))) else (none)) else (none)) = some r := H
          have A13 := Aside0.mk A130
          clear A130
          obtain ⟨ji14, hji14⟩ : ∃ j_ : Int, (Int.tmod (wrap64 (a1)) (wrap64 ((a0.size : Int) + 1))) = j_ := ⟨_, rfl⟩
          replace H : (if 0 ≤ (ji14) then (if (ji14) ≤ (a0.size : Int) then ((some (([(⟨#[32]⟩ : ByteArray), (⟨#[9]⟩ : ByteArray), (⟨#[10]⟩ : ByteArray), (⟨#[12]⟩ : ByteArray), (⟨#[13]⟩ : ByteArray)] : List ByteArray) : List ByteArray)).bind fun y112 => (if 0 ≤ (Int.tmod a2 5) then (if (Int.tmod a2 5) < (y112.length : Int) then (if (a0.extract 0 ((ji14) : Int).toNat).size + (rdOf ByteArray.empty y112 (Int.tmod a2 5)).size ≤ 9223372036854775807 then (if ((a0.extract 0 ((ji14) : Int).toNat) ++ (rdOf ByteArray.empty y112 (Int.tmod a2 5))).size + (a0.extract ((ji14) : Int).toNat a0.size).size ≤ 9223372036854775807 then ((base_Decode.f kj3 (((a0.extract 0 ((ji14) : Int).toNat) ++ (rdOf ByteArray.empty y112 (Int.tmod a2 5))) ++ (a0.extract ((ji14) : Int).toNat a0.size))).bind fun bt116 => (if (t109 == bt116.2) = true then (some ((strOfNums t108).toList == (strOfNums bt116.1).toList)) else (some false))) else (none)) else (none)) else (none)) else (none))) else (none)) else (none)) = some r := by first | (rw [hji14] at H; exact H) | (simp only [hji14] at H ⊢; exact H)
          (try rw [hji14] at A13)
          by_cases c15 : 0 ≤ (ji14)
          · rw [if_pos c15] at H
            have c15b0 := eq_true c15
            have c15b1 : decide (0 ≤ (ji14)) = true := decide_eq_true c15
            clear c15
            by_cases c16 : (ji14) ≤ (a0.size : Int)
            · rw [if_pos c16] at H
              have c16b0 := eq_true c16
              have c16b1 : decide ((ji14) ≤ (a0.size : Int)) = true := decide_eq_true c16
              clear c16
              obtain ⟨y112, hy112⟩ : ∃ y_ : List ByteArray, y_ = (([(⟨#[32]⟩ : ByteArray), (⟨#[9]⟩ : ByteArray), (⟨#[10]⟩ : ByteArray), (⟨#[12]⟩ : ByteArray), (⟨#[13]⟩ : ByteArray)] : List ByteArray)) := ⟨_, rfl⟩
              replace H : (if 0 ≤ (Int.tmod a2 5) then (if (Int.tmod a2 5) < (y112.length : Int) then (if (a0.extract 0 ((ji14) : Int).toNat).size + (rdOf ByteArray.empty y112 (Int.tmod a2 5)).size ≤ 9223372036854775807 then (if ((a0.extract 0 ((ji14) : Int).toNat) ++ (rdOf ByteArray.empty y112 (Int.tmod a2 5))).size + (a0.extract ((ji14) : Int).toNat a0.size).size ≤ 9223372036854775807 then ((base_Decode.f kj3 (((a0.extract 0 ((ji14) : Int).toNat) ++ (rdOf ByteArray.empty y112 (Int.tmod a2 5))) ++ (a0.extract ((ji14) : Int).toNat a0.size))).bind fun bt116 => (if (t109 == bt116.2) = true then (some ((strOfNums t108).toList == (strOfNums bt116.1).toList)) else (some false))) else (none)) else (none)) else (none)) else (none)) = some r := by first | (rw [hy112]; with_reducible exact H) | (have H2_ := (Option.bind_some _ _).symm.trans H; rw [hy112]; with_reducible exact H2_) | (have H2_ := (Option.bind_some _ _).symm.trans H; with_reducible exact H2_) | with_reducible exact H | (rw [hy112]; exact H) | exact H
              have Ny112 := Aside0.mk hy112
              clear hy112
              obtain ⟨ji17, hji17⟩ : ∃ j_ : Int, (Int.tmod a2 5) = j_ := ⟨_, rfl⟩
              replace H : (if 0 ≤ (ji17) then (if (ji17) < (y112.length : Int) then (if (a0.extract 0 ((ji14) : Int).toNat).size + (rdOf ByteArray.empty y112 (ji17)).size ≤ 9223372036854775807 then (if ((a0.extract 0 ((ji14) : Int).toNat) ++ (rdOf ByteArray.empty y112 (ji17))).size + (a0.extract ((ji14) : Int).toNat a0.size).size ≤ 9223372036854775807 then ((base_Decode.f kj3 (((a0.extract 0 ((ji14) : Int).toNat) ++ (rdOf ByteArray.empty y112 (ji17))) ++ (a0.extract ((ji14) : Int).toNat a0.size))).bind fun bt116 => (if (t109 == bt116.2) = true then (some ((strOfNums t108).toList == (strOfNums bt116.1).toList)) else (some false))) else (none)) else (none)) else (none)) else (none)) = some r := by first | (rw [hji17] at H; exact H) | (simp only [hji17] at H ⊢; exact H)
              (try rw [hji17] at A13)
              by_cases c18 : 0 ≤ (ji17)
              · rw [if_pos c18] at H
                have c18b0 : decide (0 ≤ (ji17)) = true := decide_eq_true c18
                clear c18
                by_cases c19 : (ji17) < (y112.length : Int)
                · rw [if_pos c19] at H
                  have c19b0 : decide ((ji17) < (y112.length : Int)) = true := decide_eq_true c19
                  clear c19
                  by_cases c20 : (a0.extract 0 ((ji14) : Int).toNat).size + (rdOf ByteArray.empty y112 (ji17)).size ≤ 9223372036854775807
                  · rw [if_pos c20] at H
                    have c20b0 := eq_true c20
                    have c20b1 : decide ((a0.extract 0 ((ji14) : Int).toNat).size + (rdOf ByteArray.empty y112 (ji17)).size ≤ 9223372036854775807) = true := decide_eq_true c20
                    try have c20b2 : (9223372036854775807 < (a0.extract 0 ((ji14) : Int).toNat).size + (rdOf ByteArray.empty y112 (ji17)).size) = False := eq_false (Nat.not_lt.2 c20)
                    have c21b0 := eq_true (of_decide_eq_true (by first | (with_reducible assumption) | assumption) : 0 ≤ (ji14))
                    have c22b0 := eq_true (of_decide_eq_true (by first | (with_reducible assumption) | assumption) : (ji14) ≤ (a0.size : Int))
                    by_cases c23 : ((a0.extract 0 ((ji14) : Int).toNat) ++ (rdOf ByteArray.empty y112 (ji17))).size + (a0.extract ((ji14) : Int).toNat a0.size).size ≤ 9223372036854775807
                    · rw [if_pos c23] at H
                      have c23b0 := eq_true c23
                      have c23b1 : decide (((a0.extract 0 ((ji14) : Int).toNat) ++ (rdOf ByteArray.empty y112 (ji17))).size + (a0.extract ((ji14) : Int).toNat a0.size).size ≤ 9223372036854775807) = true := decide_eq_true c23
                      try have c23b2 : (9223372036854775807 < ((a0.extract 0 ((ji14) : Int).toNat) ++ (rdOf ByteArray.empty y112 (ji17))).size + (a0.extract ((ji14) : Int).toNat a0.size).size) = False := eq_false (Nat.not_lt.2 c23)
                      try (have c23b3 := c23b2; simp only [ByteArray.size_append, Go.Proofs.YtbobbbpjphkooaaDoor.G.ba_size, List.size_toArray, List.length_cons, List.length_nil, Nat.zero_add, Nat.reduceAdd] at c23b3)
                      replace H := Option.bind_eq_some_iff.mp H
                      obtain ⟨⟨t116, t117⟩, A240, H⟩ := H
                      replace H : (if (t109 == t117) = true then (some ((strOfNums t108).toList == (strOfNums t116).toList)) else (some false)) = some r := H
                      have A24 := Aside0.mk A240
                      clear A240
                      by_cases c25 : (t109 == t117) = true
                      · rw [if_pos c25] at H
                        have c25b0 : (t109 == t117) = true := c25
                        (try (have c25b1 : decide (t109 = t117) = true := by simpa using c25))
                        (try (have c25b2 : (t109 == t117) = true := by simpa using c25))
                        clear c25
                        obtain rfl := Option.some.inj H
                        try go_wp2_with (first | ((with_reducible refine gate_callee (f := 10) rfl ?_); refine goesL_ (some 28) rfl rfl Tryd.func10 (by kernel_rfl) rfl #[.string a0] rfl (by (try simp only [List.map_toArray, List.map_cons, List.map_nil]); first | done | rfl | (simp only [List.length_drop, List.length_take]; rfl)) ?_; (with_reducible refine (base_Decode.calls kj3 a0 t108 t109 _ A13.out (Go.Proofs.YtbobbbpjphkooaaDoor.G.T_below HT.out (by repeat (first | (with_reducible first | exact HB.out | apply below_alloc | apply pw_below_drewN | apply below_drew1) | exact HB.out)))).mono ?_); rintro e w26 ⟨v110, rfl, ho0, hb⟩; refine ⟨_, rfl, ?_⟩; have n0_ := Aside0.mk (Kd.R_lower ho0 (below_size (by repeat (first | (with_reducible first | exact HB.out | apply below_alloc | apply pw_below_drewN | apply below_drew1) | exact HB.out)))); have n1_ := Aside0.mk (below_step (by repeat (first | (with_reducible first | exact HB.out | apply below_alloc | apply pw_below_drewN | apply below_drew1) | exact HB.out)) hb); clear HB; have HO111 := n0_; have HB := n1_; clear n0_ n1_; (try clear hb); (try clear hb2); (try clear hk); (try clear hi); (try clear ho0)))
                        have pi115 : (0 ≤ ((ji17) : Int)) = True := eq_true (of_decide_eq_true (by first | (with_reducible assumption) | assumption))
                        have qi115 : ((ji17) < (y112.length : Int)) = True := eq_true (of_decide_eq_true (by first | (with_reducible assumption) | assumption))
                        have n0_ := Aside0.mk (Kd.R_drew HO111.out)
                        have n1_ := Aside0.mk (below_drew1 HB.out)
                        clear HO111
                        clear HB
                        have HO111 := n0_
                        have HB := n1_
                        clear n0_ n1_
                        refine start_ (n := 19) (S := fun w' => True) (ds := []) #[false, false, false, false, false, false, false, false, false, false, false, false, false, false, false, false, false, false, false] (by kernel_rfl) rfl rfl trivial (fun hHeld => ?_); refine with_tabW carryalllaw03_BaseBlanks.tab5 carryalllaw03_BaseBlanks.bits5 (fun HT_ HW_ => ?_)
                        generalize w26.drew = w27 at HO111 HB hHeld ⊢
                        refine pure_ (i := 0) (N := some 32) (v := ?_) (a' := ?_) #[true, false, false, false, false, false, false, false, false, false, false, false, false, false, false, false, false, false, false] rfl rfl (any_of HT_.out (by kernel_rfl)) (fun _ _ _ h => h) (Or.inl ⟨by rfl, ?_⟩) ?_ ?_
                        rotate_left
                        · intro w'
                          go_simp
                          first | (with_reducible rfl) | (split; (exfalso; omega); with_reducible rfl) | (split; (exfalso; (have q1_ := of_eq_true c15b0); (have q2_ := of_eq_true c16b0); (have q3_ : (a0.extract 0 ((ji14) : Int).toNat).size = ji14.toNat := (by rw [ByteArray.size_extract]; omega)); (have q4_ : (a0.extract ((ji14) : Int).toNat a0.size).size = a0.size - ji14.toNat := (by rw [ByteArray.size_extract]; omega)); (have q5_ := c23); (rw [ByteArray.size_append] at q5_); omega); with_reducible rfl) | (split; (exfalso; (simp [ByteArray.size_append, Go.strOfNums_size, Go.Proofs.YtbobbbpjphkooaaDoor.G.ba_size] at *); omega); with_reducible rfl)
                        rotate_left
                        · simp only [Act.put, List.setIfInBounds_toArray, List.set_cons_zero, List.set_cons_succ, i64_w, i32_w, Go.Proofs.YtbobbbpjphkooaaDoor.G.u8_w, Go.Proofs.YtbobbbpjphkooaaDoor.G.u32_w]
                          rfl
                        refine pure_ (i := 1) (N := some 33) (v := ?_) (a' := ?_) #[true, true, false, false, false, false, false, false, false, false, false, false, false, false, false, false, false, false, false] rfl rfl (any_of HT_.out (by kernel_rfl)) (fun _ _ _ h => h) (Or.inl ⟨by rfl, ?_⟩) ?_ ?_
                        rotate_left
                        · intro w'
                          go_simp
                          first | (with_reducible rfl) | (split; (exfalso; omega); with_reducible rfl) | (split; (exfalso; (have q1_ := of_eq_true c15b0); (have q2_ := of_eq_true c16b0); (have q3_ : (a0.extract 0 ((ji14) : Int).toNat).size = ji14.toNat := (by rw [ByteArray.size_extract]; omega)); (have q4_ : (a0.extract ((ji14) : Int).toNat a0.size).size = a0.size - ji14.toNat := (by rw [ByteArray.size_extract]; omega)); (have q5_ := c23); (rw [ByteArray.size_append] at q5_); omega); with_reducible rfl) | (split; (exfalso; (simp [ByteArray.size_append, Go.strOfNums_size, Go.Proofs.YtbobbbpjphkooaaDoor.G.ba_size] at *); omega); with_reducible rfl)
                        rotate_left
                        · simp only [Act.put, List.setIfInBounds_toArray, List.set_cons_zero, List.set_cons_succ, i64_w, i32_w, Go.Proofs.YtbobbbpjphkooaaDoor.G.u8_w, Go.Proofs.YtbobbbpjphkooaaDoor.G.u32_w]
                          rfl
                        refine pure_ (i := 2) (N := some 34) (v := ?_) (a' := ?_) #[true, true, true, false, false, false, false, false, false, false, false, false, false, false, false, false, false, false, false] rfl rfl (any_of HT_.out (by kernel_rfl)) (fun _ _ _ h => h) (Or.inl ⟨by rfl, ?_⟩) ?_ ?_
                        rotate_left
                        · intro w'
                          go_simp
                          first | (with_reducible rfl) | (split; (exfalso; omega); with_reducible rfl) | (split; (exfalso; (have q1_ := of_eq_true c15b0); (have q2_ := of_eq_true c16b0); (have q3_ : (a0.extract 0 ((ji14) : Int).toNat).size = ji14.toNat := (by rw [ByteArray.size_extract]; omega)); (have q4_ : (a0.extract ((ji14) : Int).toNat a0.size).size = a0.size - ji14.toNat := (by rw [ByteArray.size_extract]; omega)); (have q5_ := c23); (rw [ByteArray.size_append] at q5_); omega); with_reducible rfl) | (split; (exfalso; (simp [ByteArray.size_append, Go.strOfNums_size, Go.Proofs.YtbobbbpjphkooaaDoor.G.ba_size] at *); omega); with_reducible rfl)
                        rotate_left
                        · simp only [Act.put, List.setIfInBounds_toArray, List.set_cons_zero, List.set_cons_succ, i64_w, i32_w, Go.Proofs.YtbobbbpjphkooaaDoor.G.u8_w, Go.Proofs.YtbobbbpjphkooaaDoor.G.u32_w]
                          rfl
                        refine pure_ (i := 4) (N := some 36) (v := ?_) (a' := ?_) #[true, true, true, false, true, false, false, false, false, false, false, false, false, false, false, false, false, false, false] rfl rfl (any_of HT_.out (by kernel_rfl)) (fun _ _ _ h => h) (Or.inl ⟨by rfl, ?_⟩) ?_ ?_
                        rotate_left
                        · intro w'
                          go_simp
                          first | (with_reducible rfl) | (split; (exfalso; omega); with_reducible rfl) | (split; (exfalso; (have q1_ := of_eq_true c15b0); (have q2_ := of_eq_true c16b0); (have q3_ : (a0.extract 0 ((ji14) : Int).toNat).size = ji14.toNat := (by rw [ByteArray.size_extract]; omega)); (have q4_ : (a0.extract ((ji14) : Int).toNat a0.size).size = a0.size - ji14.toNat := (by rw [ByteArray.size_extract]; omega)); (have q5_ := c23); (rw [ByteArray.size_append] at q5_); omega); with_reducible rfl) | (split; (exfalso; (simp [ByteArray.size_append, Go.strOfNums_size, Go.Proofs.YtbobbbpjphkooaaDoor.G.ba_size] at *); omega); with_reducible rfl)
                        rotate_left
                        · simp only [Act.put, List.setIfInBounds_toArray, List.set_cons_zero, List.set_cons_succ, i64_w, i32_w, Go.Proofs.YtbobbbpjphkooaaDoor.G.u8_w, Go.Proofs.YtbobbbpjphkooaaDoor.G.u32_w]
                          rfl
                        refine pure_ (i := 5) (N := some 37) (v := ?_) (a' := ?_) #[true, true, true, false, true, true, false, false, false, false, false, false, false, false, false, false, false, false, false] rfl rfl (any_of HT_.out (by kernel_rfl)) (fun _ _ _ h => h) (Or.inl ⟨by rfl, ?_⟩) ?_ ?_
                        rotate_left
                        · intro w'
                          go_simp
                          first | (with_reducible rfl) | (split; (exfalso; omega); with_reducible rfl) | (split; (exfalso; (have q1_ := of_eq_true c15b0); (have q2_ := of_eq_true c16b0); (have q3_ : (a0.extract 0 ((ji14) : Int).toNat).size = ji14.toNat := (by rw [ByteArray.size_extract]; omega)); (have q4_ : (a0.extract ((ji14) : Int).toNat a0.size).size = a0.size - ji14.toNat := (by rw [ByteArray.size_extract]; omega)); (have q5_ := c23); (rw [ByteArray.size_append] at q5_); omega); with_reducible rfl) | (split; (exfalso; (simp [ByteArray.size_append, Go.strOfNums_size, Go.Proofs.YtbobbbpjphkooaaDoor.G.ba_size] at *); omega); with_reducible rfl)
                        rotate_left
                        · simp only [Act.put, List.setIfInBounds_toArray, List.set_cons_zero, List.set_cons_succ, i64_w, i32_w, Go.Proofs.YtbobbbpjphkooaaDoor.G.u8_w, Go.Proofs.YtbobbbpjphkooaaDoor.G.u32_w]
                          rfl
                        refine pure_ (i := 9) (N := some 41) (v := ?_) (a' := ?_) #[true, true, true, false, true, true, false, false, false, true, false, false, false, false, false, false, false, false, false] rfl rfl (any_of HT_.out (by kernel_rfl)) (fun _ _ _ h => h) (Or.inl ⟨by rfl, ?_⟩) ?_ ?_
                        rotate_left
                        · intro w'
                          go_simp
                          first | (with_reducible rfl) | (split; (exfalso; omega); with_reducible rfl) | (split; (exfalso; (have q1_ := of_eq_true c15b0); (have q2_ := of_eq_true c16b0); (have q3_ : (a0.extract 0 ((ji14) : Int).toNat).size = ji14.toNat := (by rw [ByteArray.size_extract]; omega)); (have q4_ : (a0.extract ((ji14) : Int).toNat a0.size).size = a0.size - ji14.toNat := (by rw [ByteArray.size_extract]; omega)); (have q5_ := c23); (rw [ByteArray.size_append] at q5_); omega); with_reducible rfl) | (split; (exfalso; (simp [ByteArray.size_append, Go.strOfNums_size, Go.Proofs.YtbobbbpjphkooaaDoor.G.ba_size] at *); omega); with_reducible rfl)
                        rotate_left
                        · simp only [Act.put, List.setIfInBounds_toArray, List.set_cons_zero, List.set_cons_succ, i64_w, i32_w, Go.Proofs.YtbobbbpjphkooaaDoor.G.u8_w, Go.Proofs.YtbobbbpjphkooaaDoor.G.u32_w]
                          rfl
                        refine pure_ (i := 10) (N := some 42) (v := ?_) (a' := ?_) #[true, true, true, false, true, true, false, false, false, true, true, false, false, false, false, false, false, false, false] rfl rfl (any_of HT_.out (by kernel_rfl)) (fun _ _ _ h => h) (Or.inl ⟨by rfl, ?_⟩) ?_ ?_
                        rotate_left
                        · intro w'
                          go_simp
                          first | (with_reducible rfl) | (split; (exfalso; omega); with_reducible rfl) | (split; (exfalso; (have q1_ := of_eq_true c15b0); (have q2_ := of_eq_true c16b0); (have q3_ : (a0.extract 0 ((ji14) : Int).toNat).size = ji14.toNat := (by rw [ByteArray.size_extract]; omega)); (have q4_ : (a0.extract ((ji14) : Int).toNat a0.size).size = a0.size - ji14.toNat := (by rw [ByteArray.size_extract]; omega)); (have q5_ := c23); (rw [ByteArray.size_append] at q5_); omega); with_reducible rfl) | (split; (exfalso; (simp [ByteArray.size_append, Go.strOfNums_size, Go.Proofs.YtbobbbpjphkooaaDoor.G.ba_size] at *); omega); with_reducible rfl)
                        rotate_left
                        · simp only [Act.put, List.setIfInBounds_toArray, List.set_cons_zero, List.set_cons_succ, i64_w, i32_w, Go.Proofs.YtbobbbpjphkooaaDoor.G.u8_w, Go.Proofs.YtbobbbpjphkooaaDoor.G.u32_w]
                          rfl
                        refine pure_ (i := 11) (N := some 43) (v := ?_) (a' := ?_) #[true, true, true, false, true, true, false, false, false, true, true, true, false, false, false, false, false, false, false] rfl rfl (any_of HT_.out (by kernel_rfl)) (fun _ _ _ h => h) (Or.inl ⟨by rfl, ?_⟩) ?_ ?_
                        rotate_left
                        · intro w'
                          go_simp
                          first | (with_reducible rfl) | (split; (exfalso; omega); with_reducible rfl) | (split; (exfalso; (have q1_ := of_eq_true c15b0); (have q2_ := of_eq_true c16b0); (have q3_ : (a0.extract 0 ((ji14) : Int).toNat).size = ji14.toNat := (by rw [ByteArray.size_extract]; omega)); (have q4_ : (a0.extract ((ji14) : Int).toNat a0.size).size = a0.size - ji14.toNat := (by rw [ByteArray.size_extract]; omega)); (have q5_ := c23); (rw [ByteArray.size_append] at q5_); omega); with_reducible rfl) | (split; (exfalso; (simp [ByteArray.size_append, Go.strOfNums_size, Go.Proofs.YtbobbbpjphkooaaDoor.G.ba_size] at *); omega); with_reducible rfl)
                        rotate_left
                        · simp only [Act.put, List.setIfInBounds_toArray, List.set_cons_zero, List.set_cons_succ, i64_w, i32_w, Go.Proofs.YtbobbbpjphkooaaDoor.G.u8_w, Go.Proofs.YtbobbbpjphkooaaDoor.G.u32_w]
                          rfl
                        refine one_ (i := 3) (N := some 35) #[true, true, true, true, true, true, false, false, false, true, true, true, false, false, false, false, false, false, false] rfl rfl (one_of HT_.out (by kernel_rfl)) (by decide) (fun K hK => ?_)
                        refine Kd.R_lit_step Kd.string _ 9 ?hg (N := 35) ?hd (xs := ([(⟨#[32]⟩ : ByteArray), (⟨#[9]⟩ : ByteArray), (⟨#[10]⟩ : ByteArray), (⟨#[12]⟩ : ByteArray), (⟨#[13]⟩ : ByteArray)] : List ByteArray)) (inner := [.string (⟨#[32]⟩ : ByteArray), .string (⟨#[9]⟩ : ByteArray), .string (⟨#[10]⟩ : ByteArray), .string (⟨#[12]⟩ : ByteArray), .string (⟨#[13]⟩ : ByteArray)]) (ok := fun _ => True) (okp := fun _ => True) ?hr ?hp (fun _ hk => hk) trivial (Below.refl _ _) (Nat.le_refl _) (by simp) ?_; (case hd => rfl); (case hg => rfl); (case hr => first | (go_simp; done) | (go_simp; rfl)); (case hp => exact (Reps.one (show Kd.M Kd.string _ _ _ (⟨#[32]⟩ : ByteArray) [.string (⟨#[32]⟩ : ByteArray)] from rfl) (Reps.one (show Kd.M Kd.string _ _ _ (⟨#[9]⟩ : ByteArray) [.string (⟨#[9]⟩ : ByteArray)] from rfl) (Reps.one (show Kd.M Kd.string _ _ _ (⟨#[10]⟩ : ByteArray) [.string (⟨#[10]⟩ : ByteArray)] from rfl) (Reps.one (show Kd.M Kd.string _ _ _ (⟨#[12]⟩ : ByteArray) [.string (⟨#[12]⟩ : ByteArray)] from rfl) (Reps.one (show Kd.M Kd.string _ _ _ (⟨#[13]⟩ : ByteArray) [.string (⟨#[13]⟩ : ByteArray)] from rfl) (Reps.none _ _)))))))
                        intro v113 w28 ho29 hb hg_ hnew_
                        clear hg_ hnew_
                        (first | rw [← Ny112.out] at ho29 | (simp only [Int.reduceToNat] at ho29; rw [← Ny112.out] at ho29))
                        have n0_ := Aside0.mk (Kd.R_below (by (with_reducible repeat (first | apply Kd.R_alloc | apply Kd.R_drewN | apply Kd.R_drew)); exact HO111.out) hb)
                        have n1_ := Aside0.mk (Kd.R_lower ho29 (below_size (by repeat (first | (with_reducible first | exact HB.out | apply below_alloc | apply pw_below_drewN | apply below_drew1) | exact HB.out))))
                        have n2_ := Aside0.mk (below_step (by repeat (first | (with_reducible first | exact HB.out | apply below_alloc | apply pw_below_drewN | apply below_drew1) | exact HB.out)) hb)
                        clear HO111
                        clear HB
                        have HO111 := n0_
                        have HO114 := n1_
                        have HB := n2_
                        clear n0_ n1_ n2_
                        clear hb ho29
                        obtain ⟨Ao30, co30, eo30⟩ := Kd.R_slice HO114.out
                        subst eo30
                        obtain ⟨ado30, fo30, _⟩ := Kd.at_string (Kd.R_reads' HO114.out).2.2 0 (by decide) (by rw [Ny112.out]; simp)
                        cases fo30
                        refine hK.out _ _ trivial (fun hHeld => ?_)
                        clear hK K
                        refine norm_ (a' := ?_) ?_ ?_
                        rotate_left
                        · show Act.put _ (some 35) _ = _
                          simp only [Act.put, List.setIfInBounds_toArray, List.set_cons_zero, List.set_cons_succ, i64_w, i32_w, Go.Proofs.YtbobbbpjphkooaaDoor.G.u8_w, Go.Proofs.YtbobbbpjphkooaaDoor.G.u32_w]
                          rfl
                        refine pure_ (i := 6) (N := some 38) (v := ?_) (a' := ?_) #[true, true, true, true, true, true, true, false, false, true, true, true, false, false, false, false, false, false, false] rfl rfl (any_of HT_.out (by kernel_rfl)) (fun _ _ _ h => h) (Or.inl ⟨by rfl, ?_⟩) ?_ ?_
                        rotate_left
                        · intro w'
                          go_simp
                          first | (with_reducible rfl) | (split; (exfalso; omega); with_reducible rfl) | (split; (exfalso; (have q1_ := of_eq_true c15b0); (have q2_ := of_eq_true c16b0); (have q3_ : (a0.extract 0 ((ji14) : Int).toNat).size = ji14.toNat := (by rw [ByteArray.size_extract]; omega)); (have q4_ : (a0.extract ((ji14) : Int).toNat a0.size).size = a0.size - ji14.toNat := (by rw [ByteArray.size_extract]; omega)); (have q5_ := c23); (rw [ByteArray.size_append] at q5_); omega); with_reducible rfl) | (split; (exfalso; (simp [ByteArray.size_append, Go.strOfNums_size, Go.Proofs.YtbobbbpjphkooaaDoor.G.ba_size] at *); omega); with_reducible rfl)
                        rotate_left
                        · simp only [Act.put, List.setIfInBounds_toArray, List.set_cons_zero, List.set_cons_succ, i64_w, i32_w, Go.Proofs.YtbobbbpjphkooaaDoor.G.u8_w, Go.Proofs.YtbobbbpjphkooaaDoor.G.u32_w]
                          rfl
                        refine one_ (i := 7) (N := some 39) #[true, true, true, true, true, true, true, true, false, true, true, true, false, false, false, false, false, false, false] rfl rfl (one_of HT_.out (by kernel_rfl)) (by decide) (fun K hK => ?_)
                        (have p115 : 0 ≤ ((ji17) : Int) := of_decide_eq_true (by first | (with_reducible assumption) | assumption); have q115 : (ji17) < (y112.length : Int) := of_decide_eq_true (by first | (with_reducible assumption) | assumption); obtain ⟨ad115, e115, hx115_0⟩ := Kd.at_string (Kd.R_reads' HO114.out).2.2 (ji17) p115 q115; obtain rfl : ado30 = ad115 := (by injection e115))
                        refine value_ (w1 := ?_) (v := ?_) (by rfl) rfl ?_ ?_
                        rotate_left 2
                        · go_simp
                          constructor
                          · rfl
                          · rfl
                        clear hx115_0
                        refine hK.out _ _ trivial (fun hHeld => ?_)
                        clear hK K
                        refine norm_ (a' := ?_) ?_ ?_
                        rotate_left
                        · show Act.put _ (some 39) _ = _
                          simp only [Act.put, List.setIfInBounds_toArray, List.set_cons_zero, List.set_cons_succ, i64_w, i32_w, Go.Proofs.YtbobbbpjphkooaaDoor.G.u8_w, Go.Proofs.YtbobbbpjphkooaaDoor.G.u32_w]
                          rfl
                        refine pure_ (i := 8) (N := some 40) (v := ?_) (a' := ?_) #[true, true, true, true, true, true, true, true, true, true, true, true, false, false, false, false, false, false, false] rfl rfl (any_of HT_.out (by kernel_rfl)) (fun _ _ _ h => h) (Or.inl ⟨by rfl, ?_⟩) ?_ ?_
                        rotate_left
                        · intro w'
                          go_simp
                          first | (with_reducible rfl) | (split; (exfalso; omega); with_reducible rfl) | (split; (exfalso; (have q1_ := of_eq_true c15b0); (have q2_ := of_eq_true c16b0); (have q3_ : (a0.extract 0 ((ji14) : Int).toNat).size = ji14.toNat := (by rw [ByteArray.size_extract]; omega)); (have q4_ : (a0.extract ((ji14) : Int).toNat a0.size).size = a0.size - ji14.toNat := (by rw [ByteArray.size_extract]; omega)); (have q5_ := c23); (rw [ByteArray.size_append] at q5_); omega); with_reducible rfl) | (split; (exfalso; (simp [ByteArray.size_append, Go.strOfNums_size, Go.Proofs.YtbobbbpjphkooaaDoor.G.ba_size] at *); omega); with_reducible rfl)
                        rotate_left
                        · simp only [Act.put, List.setIfInBounds_toArray, List.set_cons_zero, List.set_cons_succ, i64_w, i32_w, Go.Proofs.YtbobbbpjphkooaaDoor.G.u8_w, Go.Proofs.YtbobbbpjphkooaaDoor.G.u32_w]
                          rfl
                        refine pure_ (i := 12) (N := some 44) (v := ?_) (a' := ?_) #[true, true, true, true, true, true, true, true, true, true, true, true, true, false, false, false, false, false, false] rfl rfl (any_of HT_.out (by kernel_rfl)) (fun _ _ _ h => h) (Or.inl ⟨by rfl, ?_⟩) ?_ ?_
                        rotate_left
                        · intro w'
                          go_simp
                          first | (with_reducible rfl) | (split; (exfalso; omega); with_reducible rfl) | (split; (exfalso; (have q1_ := of_eq_true c15b0); (have q2_ := of_eq_true c16b0); (have q3_ : (a0.extract 0 ((ji14) : Int).toNat).size = ji14.toNat := (by rw [ByteArray.size_extract]; omega)); (have q4_ : (a0.extract ((ji14) : Int).toNat a0.size).size = a0.size - ji14.toNat := (by rw [ByteArray.size_extract]; omega)); (have q5_ := c23); (rw [ByteArray.size_append] at q5_); omega); with_reducible rfl) | (split; (exfalso; (simp [ByteArray.size_append, Go.strOfNums_size, Go.Proofs.YtbobbbpjphkooaaDoor.G.ba_size] at *); omega); with_reducible rfl)
                        rotate_left
                        · simp only [Act.put, List.setIfInBounds_toArray, List.set_cons_zero, List.set_cons_succ, i64_w, i32_w, Go.Proofs.YtbobbbpjphkooaaDoor.G.u8_w, Go.Proofs.YtbobbbpjphkooaaDoor.G.u32_w]
                          rfl
                        refine one_ (i := 13) (N := some 45) #[true, true, true, true, true, true, true, true, true, true, true, true, true, true, false, false, false, false, false] rfl rfl (one_of HT_.out (by kernel_rfl)) (by decide) (fun K hK => ?_)
                        refine goes_ Tryd.func10 (by kernel_rfl) rfl #[.string (((a0.extract 0 ((ji14) : Int).toNat) ++ (rdOf ByteArray.empty y112 (ji17))) ++ (a0.extract ((ji14) : Int).toNat a0.size))] (by rfl) rfl rfl (by (try simp only [List.map_toArray, List.map_cons, List.map_nil]); first | done | (simp only [hji14, hji17]; rfl) | rfl | (simp only [List.length_drop, List.length_take]; rfl)) ?_
                        with_reducible refine (base_Decode.calls kj3 (((a0.extract 0 ((ji14) : Int).toNat) ++ (rdOf ByteArray.empty y112 (ji17))) ++ (a0.extract ((ji14) : Int).toNat a0.size)) t116 t117 _ A24.out (Go.Proofs.YtbobbbpjphkooaaDoor.G.T_below HT.out (by repeat (first | (with_reducible first | exact HB.out | apply below_alloc | apply pw_below_drewN | apply below_drew1) | exact HB.out)))).mono ?_
                        rintro e w31 ⟨v118, rfl, ho0, hb⟩
                        refine ⟨_, rfl, ?_⟩
                        have n0_ := Aside0.mk (Kd.R_elder' (by (with_reducible repeat (first | apply Kd.R_alloc | apply Kd.R_drewN | apply Kd.R_drew)); exact HO111.out) (Kd.R_base ho0) hb)
                        have n1_ := Aside0.mk (Kd.R_below (by (with_reducible repeat (first | apply Kd.R_alloc | apply Kd.R_drewN | apply Kd.R_drew)); exact HO114.out) hb)
                        have n2_ := Aside0.mk (Kd.R_lower (Kd.R_new' ho0 (Kd.R_lt (by (with_reducible repeat (first | apply Kd.R_alloc | apply Kd.R_drewN | apply Kd.R_drew)); exact HO111.out))) (below_size (by repeat (first | (with_reducible first | exact HB.out | apply below_alloc | apply pw_below_drewN | apply below_drew1) | exact HB.out))))
                        have n3_ := Aside0.mk (below_step (by repeat (first | (with_reducible first | exact HB.out | apply below_alloc | apply pw_below_drewN | apply below_drew1) | exact HB.out)) hb)
                        clear HO111
                        clear HO114
                        clear HB
                        have HO111 := n0_
                        have HO114 := n1_
                        have HO119 := n2_
                        have HB := n3_
                        clear n0_ n1_ n2_ n3_
                        (try clear hb)
                        (try clear hb2)
                        (try clear hk)
                        (try clear hi)
                        (try clear ho0)
                        refine hK.out _ _ trivial (fun hHeld => ?_)
                        clear hK K
                        refine norm_ (a' := ?_) ?_ ?_
                        rotate_left
                        · show Act.put _ (some 45) _ = _
                          simp only [Act.put, List.setIfInBounds_toArray, List.set_cons_zero, List.set_cons_succ, i64_w, i32_w, Go.Proofs.YtbobbbpjphkooaaDoor.G.u8_w, Go.Proofs.YtbobbbpjphkooaaDoor.G.u32_w]
                          rfl
                        refine pure_ (i := 14) (N := some 31) (v := ?_) (a' := ?_) #[true, true, true, true, true, true, true, true, true, true, true, true, true, true, true, false, false, false, false] rfl rfl (any_of HT_.out (by kernel_rfl)) (fun _ _ _ h => h) (Or.inl ⟨by rfl, ?_⟩) ?_ ?_
                        rotate_left
                        · intro w'
                          go_simp
                          first | (with_reducible rfl) | (split; (exfalso; omega); with_reducible rfl) | (split; (exfalso; (have q1_ := of_eq_true c15b0); (have q2_ := of_eq_true c16b0); (have q3_ : (a0.extract 0 ((ji14) : Int).toNat).size = ji14.toNat := (by rw [ByteArray.size_extract]; omega)); (have q4_ : (a0.extract ((ji14) : Int).toNat a0.size).size = a0.size - ji14.toNat := (by rw [ByteArray.size_extract]; omega)); (have q5_ := c23); (rw [ByteArray.size_append] at q5_); omega); with_reducible rfl) | (split; (exfalso; (simp [ByteArray.size_append, Go.strOfNums_size, Go.Proofs.YtbobbbpjphkooaaDoor.G.ba_size] at *); omega); with_reducible rfl)
                        rotate_left
                        · simp only [Act.put, List.setIfInBounds_toArray, List.set_cons_zero, List.set_cons_succ, i64_w, i32_w, Go.Proofs.YtbobbbpjphkooaaDoor.G.u8_w, Go.Proofs.YtbobbbpjphkooaaDoor.G.u32_w]
                          rfl
                        refine pure_ (i := 15) (N := some 46) (v := ?_) (a' := ?_) #[true, true, true, true, true, true, true, true, true, true, true, true, true, true, true, true, false, false, false] rfl rfl (any_of HT_.out (by kernel_rfl)) (fun _ _ _ h => h) (Or.inl ⟨by rfl, ?_⟩) ?_ ?_
                        rotate_left
                        · intro w'
                          go_simp
                          first | (with_reducible rfl) | (split; (exfalso; omega); with_reducible rfl) | (split; (exfalso; (have q1_ := of_eq_true c15b0); (have q2_ := of_eq_true c16b0); (have q3_ : (a0.extract 0 ((ji14) : Int).toNat).size = ji14.toNat := (by rw [ByteArray.size_extract]; omega)); (have q4_ : (a0.extract ((ji14) : Int).toNat a0.size).size = a0.size - ji14.toNat := (by rw [ByteArray.size_extract]; omega)); (have q5_ := c23); (rw [ByteArray.size_append] at q5_); omega); with_reducible rfl) | (split; (exfalso; (simp [ByteArray.size_append, Go.strOfNums_size, Go.Proofs.YtbobbbpjphkooaaDoor.G.ba_size] at *); omega); with_reducible rfl)
                        rotate_left
                        · simp only [Act.put, List.setIfInBounds_toArray, List.set_cons_zero, List.set_cons_succ, i64_w, i32_w, Go.Proofs.YtbobbbpjphkooaaDoor.G.u8_w, Go.Proofs.YtbobbbpjphkooaaDoor.G.u32_w]
                          rfl
                        refine pure_ (i := 16) (N := some 47) (v := ?_) (a' := ?_) #[true, true, true, true, true, true, true, true, true, true, true, true, true, true, true, true, true, false, false] rfl rfl (any_of HT_.out (by kernel_rfl)) (fun _ _ _ h => h) (Or.inl ⟨by rfl, ?_⟩) ?_ ?_
                        rotate_left
                        · intro w'
                          go_simp
                          first | (with_reducible rfl) | (split; (exfalso; omega); with_reducible rfl) | (split; (exfalso; (have q1_ := of_eq_true c15b0); (have q2_ := of_eq_true c16b0); (have q3_ : (a0.extract 0 ((ji14) : Int).toNat).size = ji14.toNat := (by rw [ByteArray.size_extract]; omega)); (have q4_ : (a0.extract ((ji14) : Int).toNat a0.size).size = a0.size - ji14.toNat := (by rw [ByteArray.size_extract]; omega)); (have q5_ := c23); (rw [ByteArray.size_append] at q5_); omega); with_reducible rfl) | (split; (exfalso; (simp [ByteArray.size_append, Go.strOfNums_size, Go.Proofs.YtbobbbpjphkooaaDoor.G.ba_size] at *); omega); with_reducible rfl)
                        rotate_left
                        · simp only [Act.put, List.setIfInBounds_toArray, List.set_cons_zero, List.set_cons_succ, i64_w, i32_w, Go.Proofs.YtbobbbpjphkooaaDoor.G.u8_w, Go.Proofs.YtbobbbpjphkooaaDoor.G.u32_w]
                          rfl
                        refine pure_ (i := 17) (N := some 10) (v := ?_) (a' := ?_) #[true, true, true, true, true, true, true, true, true, true, true, true, true, true, true, true, true, true, false] rfl rfl (any_of HT_.out (by kernel_rfl)) (fun _ _ _ h => h) (Or.inl ⟨by rfl, ?_⟩) ?_ ?_
                        rotate_left
                        · intro w'
                          go_simp
                          first | (with_reducible rfl) | (split; (exfalso; omega); with_reducible rfl) | (split; (exfalso; (have q1_ := of_eq_true c15b0); (have q2_ := of_eq_true c16b0); (have q3_ : (a0.extract 0 ((ji14) : Int).toNat).size = ji14.toNat := (by rw [ByteArray.size_extract]; omega)); (have q4_ : (a0.extract ((ji14) : Int).toNat a0.size).size = a0.size - ji14.toNat := (by rw [ByteArray.size_extract]; omega)); (have q5_ := c23); (rw [ByteArray.size_append] at q5_); omega); with_reducible rfl) | (split; (exfalso; (simp [ByteArray.size_append, Go.strOfNums_size, Go.Proofs.YtbobbbpjphkooaaDoor.G.ba_size] at *); omega); with_reducible rfl)
                        rotate_left
                        · simp only [Act.put, List.setIfInBounds_toArray, List.set_cons_zero, List.set_cons_succ, i64_w, i32_w, Go.Proofs.YtbobbbpjphkooaaDoor.G.u8_w, Go.Proofs.YtbobbbpjphkooaaDoor.G.u32_w]
                          rfl
                        refine pure_ (i := 18) (N := some 11) (v := ?_) (a' := ?_) #[true, true, true, true, true, true, true, true, true, true, true, true, true, true, true, true, true, true, true] rfl rfl (any_of HT_.out (by kernel_rfl)) (fun _ _ _ h => h) (Or.inl ⟨by rfl, ?_⟩) ?_ ?_
                        rotate_left
                        · intro w'
                          go_simp
                          first | (with_reducible rfl) | (split; (exfalso; omega); with_reducible rfl) | (split; (exfalso; (have q1_ := of_eq_true c15b0); (have q2_ := of_eq_true c16b0); (have q3_ : (a0.extract 0 ((ji14) : Int).toNat).size = ji14.toNat := (by rw [ByteArray.size_extract]; omega)); (have q4_ : (a0.extract ((ji14) : Int).toNat a0.size).size = a0.size - ji14.toNat := (by rw [ByteArray.size_extract]; omega)); (have q5_ := c23); (rw [ByteArray.size_append] at q5_); omega); with_reducible rfl) | (split; (exfalso; (simp [ByteArray.size_append, Go.strOfNums_size, Go.Proofs.YtbobbbpjphkooaaDoor.G.ba_size] at *); omega); with_reducible rfl)
                        rotate_left
                        · simp only [Act.put, List.setIfInBounds_toArray, List.set_cons_zero, List.set_cons_succ, i64_w, i32_w, Go.Proofs.YtbobbbpjphkooaaDoor.G.u8_w, Go.Proofs.YtbobbbpjphkooaaDoor.G.u32_w]
                          rfl
                        refine done_ (done_of HT_.out (by kernel_rfl)) ?_
                        have hcv32 := own_string (P := Tryd.prog) Tryd.underlying22 Tryd.underlying5 Tryd.underlying9 (Kd.own_of_R HO111.out)
                        have hcv33 := own_string (P := Tryd.prog) Tryd.underlying22 Tryd.underlying5 Tryd.underlying9 (Kd.own_of_R HO119.out)
                        try go_wp2
                        go_ret
                        exact ⟨by first | rfl | (simp [errW_none, errW_some] <;> rfl) | (simp only [← hji14, ← hji17]; first | rfl | (simp [errW_none, errW_some] <;> rfl)) | (simp [*, errW_none, errW_some] <;> rfl) | (simp [errW_none, errW_some, Go.Proofs.YtbobbbpjphkooaaDoor.G.isEmpty_ne]; done), by repeat (first | (with_reducible first | exact HB.out | apply below_alloc | apply pw_below_drewN | apply below_drew1) | exact HB.out)⟩
                      · rw [if_neg c25] at H
                        have c25b0 : (t109 == t117) = false := by simpa using c25
                        (try (have c25b1 : decide (t109 = t117) = false := by simpa using c25))
                        (try (have c25b2 : (t109 == t117) = false := by simpa using c25))
                        (try (have c25b3 : ¬ (t109 = t117) := by simpa using c25))
                        clear c25
                        obtain rfl := Option.some.inj H
                        try go_wp2_with (first | ((with_reducible refine gate_callee (f := 10) rfl ?_); refine goesL_ (some 28) rfl rfl Tryd.func10 (by kernel_rfl) rfl #[.string a0] rfl (by (try simp only [List.map_toArray, List.map_cons, List.map_nil]); first | done | rfl | (simp only [List.length_drop, List.length_take]; rfl)) ?_; (with_reducible refine (base_Decode.calls kj3 a0 t108 t109 _ A13.out (Go.Proofs.YtbobbbpjphkooaaDoor.G.T_below HT.out (by repeat (first | (with_reducible first | exact HB.out | apply below_alloc | apply pw_below_drewN | apply below_drew1) | exact HB.out)))).mono ?_); rintro e w34 ⟨v110, rfl, ho0, hb⟩; refine ⟨_, rfl, ?_⟩; have n0_ := Aside0.mk (Kd.R_lower ho0 (below_size (by repeat (first | (with_reducible first | exact HB.out | apply below_alloc | apply pw_below_drewN | apply below_drew1) | exact HB.out)))); have n1_ := Aside0.mk (below_step (by repeat (first | (with_reducible first | exact HB.out | apply below_alloc | apply pw_below_drewN | apply below_drew1) | exact HB.out)) hb); clear HB; have HO111 := n0_; have HB := n1_; clear n0_ n1_; (try clear hb); (try clear hb2); (try clear hk); (try clear hi); (try clear ho0)))
                        have pi115 : (0 ≤ ((ji17) : Int)) = True := eq_true (of_decide_eq_true (by first | (with_reducible assumption) | assumption))
                        have qi115 : ((ji17) < (y112.length : Int)) = True := eq_true (of_decide_eq_true (by first | (with_reducible assumption) | assumption))
                        have n0_ := Aside0.mk (Kd.R_drew HO111.out)
                        have n1_ := Aside0.mk (below_drew1 HB.out)
                        clear HO111
                        clear HB
                        have HO111 := n0_
                        have HB := n1_
                        clear n0_ n1_
                        refine start_ (n := 19) (S := fun w' => True) (ds := []) #[false, false, false, false, false, false, false, false, false, false, false, false, false, false, false, false, false, false, false] (by kernel_rfl) rfl rfl trivial (fun hHeld => ?_); refine with_tabW carryalllaw03_BaseBlanks.tab5 carryalllaw03_BaseBlanks.bits5 (fun HT_ HW_ => ?_)
                        generalize w34.drew = w35 at HO111 HB hHeld ⊢
                        refine pure_ (i := 0) (N := some 32) (v := ?_) (a' := ?_) #[true, false, false, false, false, false, false, false, false, false, false, false, false, false, false, false, false, false, false] rfl rfl (any_of HT_.out (by kernel_rfl)) (fun _ _ _ h => h) (Or.inl ⟨by rfl, ?_⟩) ?_ ?_
                        rotate_left
                        · intro w'
                          go_simp
                          first | (with_reducible rfl) | (split; (exfalso; omega); with_reducible rfl) | (split; (exfalso; (have q1_ := of_eq_true c15b0); (have q2_ := of_eq_true c16b0); (have q3_ : (a0.extract 0 ((ji14) : Int).toNat).size = ji14.toNat := (by rw [ByteArray.size_extract]; omega)); (have q4_ : (a0.extract ((ji14) : Int).toNat a0.size).size = a0.size - ji14.toNat := (by rw [ByteArray.size_extract]; omega)); (have q5_ := c23); (rw [ByteArray.size_append] at q5_); omega); with_reducible rfl) | (split; (exfalso; (simp [ByteArray.size_append, Go.strOfNums_size, Go.Proofs.YtbobbbpjphkooaaDoor.G.ba_size] at *); omega); with_reducible rfl)
                        rotate_left
                        · simp only [Act.put, List.setIfInBounds_toArray, List.set_cons_zero, List.set_cons_succ, i64_w, i32_w, Go.Proofs.YtbobbbpjphkooaaDoor.G.u8_w, Go.Proofs.YtbobbbpjphkooaaDoor.G.u32_w]
                          rfl
                        refine pure_ (i := 1) (N := some 33) (v := ?_) (a' := ?_) #[true, true, false, false, false, false, false, false, false, false, false, false, false, false, false, false, false, false, false] rfl rfl (any_of HT_.out (by kernel_rfl)) (fun _ _ _ h => h) (Or.inl ⟨by rfl, ?_⟩) ?_ ?_
                        rotate_left
                        · intro w'
                          go_simp
                          first | (with_reducible rfl) | (split; (exfalso; omega); with_reducible rfl) | (split; (exfalso; (have q1_ := of_eq_true c15b0); (have q2_ := of_eq_true c16b0); (have q3_ : (a0.extract 0 ((ji14) : Int).toNat).size = ji14.toNat := (by rw [ByteArray.size_extract]; omega)); (have q4_ : (a0.extract ((ji14) : Int).toNat a0.size).size = a0.size - ji14.toNat := (by rw [ByteArray.size_extract]; omega)); (have q5_ := c23); (rw [ByteArray.size_append] at q5_); omega); with_reducible rfl) | (split; (exfalso; (simp [ByteArray.size_append, Go.strOfNums_size, Go.Proofs.YtbobbbpjphkooaaDoor.G.ba_size] at *); omega); with_reducible rfl)
                        rotate_left
                        · simp only [Act.put, List.setIfInBounds_toArray, List.set_cons_zero, List.set_cons_succ, i64_w, i32_w, Go.Proofs.YtbobbbpjphkooaaDoor.G.u8_w, Go.Proofs.YtbobbbpjphkooaaDoor.G.u32_w]
                          rfl
                        refine pure_ (i := 2) (N := some 34) (v := ?_) (a' := ?_) #[true, true, true, false, false, false, false, false, false, false, false, false, false, false, false, false, false, false, false] rfl rfl (any_of HT_.out (by kernel_rfl)) (fun _ _ _ h => h) (Or.inl ⟨by rfl, ?_⟩) ?_ ?_
                        rotate_left
                        · intro w'
                          go_simp
                          first | (with_reducible rfl) | (split; (exfalso; omega); with_reducible rfl) | (split; (exfalso; (have q1_ := of_eq_true c15b0); (have q2_ := of_eq_true c16b0); (have q3_ : (a0.extract 0 ((ji14) : Int).toNat).size = ji14.toNat := (by rw [ByteArray.size_extract]; omega)); (have q4_ : (a0.extract ((ji14) : Int).toNat a0.size).size = a0.size - ji14.toNat := (by rw [ByteArray.size_extract]; omega)); (have q5_ := c23); (rw [ByteArray.size_append] at q5_); omega); with_reducible rfl) | (split; (exfalso; (simp [ByteArray.size_append, Go.strOfNums_size, Go.Proofs.YtbobbbpjphkooaaDoor.G.ba_size] at *); omega); with_reducible rfl)
                        rotate_left
                        · simp only [Act.put, List.setIfInBounds_toArray, List.set_cons_zero, List.set_cons_succ, i64_w, i32_w, Go.Proofs.YtbobbbpjphkooaaDoor.G.u8_w, Go.Proofs.YtbobbbpjphkooaaDoor.G.u32_w]
                          rfl
                        refine pure_ (i := 4) (N := some 36) (v := ?_) (a' := ?_) #[true, true, true, false, true, false, false, false, false, false, false, false, false, false, false, false, false, false, false] rfl rfl (any_of HT_.out (by kernel_rfl)) (fun _ _ _ h => h) (Or.inl ⟨by rfl, ?_⟩) ?_ ?_
                        rotate_left
                        · intro w'
                          go_simp
                          first | (with_reducible rfl) | (split; (exfalso; omega); with_reducible rfl) | (split; (exfalso; (have q1_ := of_eq_true c15b0); (have q2_ := of_eq_true c16b0); (have q3_ : (a0.extract 0 ((ji14) : Int).toNat).size = ji14.toNat := (by rw [ByteArray.size_extract]; omega)); (have q4_ : (a0.extract ((ji14) : Int).toNat a0.size).size = a0.size - ji14.toNat := (by rw [ByteArray.size_extract]; omega)); (have q5_ := c23); (rw [ByteArray.size_append] at q5_); omega); with_reducible rfl) | (split; (exfalso; (simp [ByteArray.size_append, Go.strOfNums_size, Go.Proofs.YtbobbbpjphkooaaDoor.G.ba_size] at *); omega); with_reducible rfl)
                        rotate_left
                        · simp only [Act.put, List.setIfInBounds_toArray, List.set_cons_zero, List.set_cons_succ, i64_w, i32_w, Go.Proofs.YtbobbbpjphkooaaDoor.G.u8_w, Go.Proofs.YtbobbbpjphkooaaDoor.G.u32_w]
                          rfl
                        refine pure_ (i := 5) (N := some 37) (v := ?_) (a' := ?_) #[true, true, true, false, true, true, false, false, false, false, false, false, false, false, false, false, false, false, false] rfl rfl (any_of HT_.out (by kernel_rfl)) (fun _ _ _ h => h) (Or.inl ⟨by rfl, ?_⟩) ?_ ?_
                        rotate_left
                        · intro w'
                          go_simp
                          first | (with_reducible rfl) | (split; (exfalso; omega); with_reducible rfl) | (split; (exfalso; (have q1_ := of_eq_true c15b0); (have q2_ := of_eq_true c16b0); (have q3_ : (a0.extract 0 ((ji14) : Int).toNat).size = ji14.toNat := (by rw [ByteArray.size_extract]; omega)); (have q4_ : (a0.extract ((ji14) : Int).toNat a0.size).size = a0.size - ji14.toNat := (by rw [ByteArray.size_extract]; omega)); (have q5_ := c23); (rw [ByteArray.size_append] at q5_); omega); with_reducible rfl) | (split; (exfalso; (simp [ByteArray.size_append, Go.strOfNums_size, Go.Proofs.YtbobbbpjphkooaaDoor.G.ba_size] at *); omega); with_reducible rfl)
                        rotate_left
                        · simp only [Act.put, List.setIfInBounds_toArray, List.set_cons_zero, List.set_cons_succ, i64_w, i32_w, Go.Proofs.YtbobbbpjphkooaaDoor.G.u8_w, Go.Proofs.YtbobbbpjphkooaaDoor.G.u32_w]
                          rfl
                        refine pure_ (i := 9) (N := some 41) (v := ?_) (a' := ?_) #[true, true, true, false, true, true, false, false, false, true, false, false, false, false, false, false, false, false, false] rfl rfl (any_of HT_.out (by kernel_rfl)) (fun _ _ _ h => h) (Or.inl ⟨by rfl, ?_⟩) ?_ ?_
                        rotate_left
                        · intro w'
                          go_simp
                          first | (with_reducible rfl) | (split; (exfalso; omega); with_reducible rfl) | (split; (exfalso; (have q1_ := of_eq_true c15b0); (have q2_ := of_eq_true c16b0); (have q3_ : (a0.extract 0 ((ji14) : Int).toNat).size = ji14.toNat := (by rw [ByteArray.size_extract]; omega)); (have q4_ : (a0.extract ((ji14) : Int).toNat a0.size).size = a0.size - ji14.toNat := (by rw [ByteArray.size_extract]; omega)); (have q5_ := c23); (rw [ByteArray.size_append] at q5_); omega); with_reducible rfl) | (split; (exfalso; (simp [ByteArray.size_append, Go.strOfNums_size, Go.Proofs.YtbobbbpjphkooaaDoor.G.ba_size] at *); omega); with_reducible rfl)
                        rotate_left
                        · simp only [Act.put, List.setIfInBounds_toArray, List.set_cons_zero, List.set_cons_succ, i64_w, i32_w, Go.Proofs.YtbobbbpjphkooaaDoor.G.u8_w, Go.Proofs.YtbobbbpjphkooaaDoor.G.u32_w]
                          rfl
                        refine pure_ (i := 10) (N := some 42) (v := ?_) (a' := ?_) #[true, true, true, false, true, true, false, false, false, true, true, false, false, false, false, false, false, false, false] rfl rfl (any_of HT_.out (by kernel_rfl)) (fun _ _ _ h => h) (Or.inl ⟨by rfl, ?_⟩) ?_ ?_
                        rotate_left
                        · intro w'
                          go_simp
                          first | (with_reducible rfl) | (split; (exfalso; omega); with_reducible rfl) | (split; (exfalso; (have q1_ := of_eq_true c15b0); (have q2_ := of_eq_true c16b0); (have q3_ : (a0.extract 0 ((ji14) : Int).toNat).size = ji14.toNat := (by rw [ByteArray.size_extract]; omega)); (have q4_ : (a0.extract ((ji14) : Int).toNat a0.size).size = a0.size - ji14.toNat := (by rw [ByteArray.size_extract]; omega)); (have q5_ := c23); (rw [ByteArray.size_append] at q5_); omega); with_reducible rfl) | (split; (exfalso; (simp [ByteArray.size_append, Go.strOfNums_size, Go.Proofs.YtbobbbpjphkooaaDoor.G.ba_size] at *); omega); with_reducible rfl)
                        rotate_left
                        · simp only [Act.put, List.setIfInBounds_toArray, List.set_cons_zero, List.set_cons_succ, i64_w, i32_w, Go.Proofs.YtbobbbpjphkooaaDoor.G.u8_w, Go.Proofs.YtbobbbpjphkooaaDoor.G.u32_w]
                          rfl
                        refine pure_ (i := 11) (N := some 43) (v := ?_) (a' := ?_) #[true, true, true, false, true, true, false, false, false, true, true, true, false, false, false, false, false, false, false] rfl rfl (any_of HT_.out (by kernel_rfl)) (fun _ _ _ h => h) (Or.inl ⟨by rfl, ?_⟩) ?_ ?_
                        rotate_left
                        · intro w'
                          go_simp
                          first | (with_reducible rfl) | (split; (exfalso; omega); with_reducible rfl) | (split; (exfalso; (have q1_ := of_eq_true c15b0); (have q2_ := of_eq_true c16b0); (have q3_ : (a0.extract 0 ((ji14) : Int).toNat).size = ji14.toNat := (by rw [ByteArray.size_extract]; omega)); (have q4_ : (a0.extract ((ji14) : Int).toNat a0.size).size = a0.size - ji14.toNat := (by rw [ByteArray.size_extract]; omega)); (have q5_ := c23); (rw [ByteArray.size_append] at q5_); omega); with_reducible rfl) | (split; (exfalso; (simp [ByteArray.size_append, Go.strOfNums_size, Go.Proofs.YtbobbbpjphkooaaDoor.G.ba_size] at *); omega); with_reducible rfl)
                        rotate_left
                        · simp only [Act.put, List.setIfInBounds_toArray, List.set_cons_zero, List.set_cons_succ, i64_w, i32_w, Go.Proofs.YtbobbbpjphkooaaDoor.G.u8_w, Go.Proofs.YtbobbbpjphkooaaDoor.G.u32_w]
                          rfl
                        refine one_ (i := 3) (N := some 35) #[true, true, true, true, true, true, false, false, false, true, true, true, false, false, false, false, false, false, false] rfl rfl (one_of HT_.out (by kernel_rfl)) (by decide) (fun K hK => ?_)
                        refine Kd.R_lit_step Kd.string _ 9 ?hg (N := 35) ?hd (xs := ([(⟨#[32]⟩ : ByteArray), (⟨#[9]⟩ : ByteArray), (⟨#[10]⟩ : ByteArray), (⟨#[12]⟩ : ByteArray), (⟨#[13]⟩ : ByteArray)] : List ByteArray)) (inner := [.string (⟨#[32]⟩ : ByteArray), .string (⟨#[9]⟩ : ByteArray), .string (⟨#[10]⟩ : ByteArray), .string (⟨#[12]⟩ : ByteArray), .string (⟨#[13]⟩ : ByteArray)]) (ok := fun _ => True) (okp := fun _ => True) ?hr ?hp (fun _ hk => hk) trivial (Below.refl _ _) (Nat.le_refl _) (by simp) ?_; (case hd => rfl); (case hg => rfl); (case hr => first | (go_simp; done) | (go_simp; rfl)); (case hp => exact (Reps.one (show Kd.M Kd.string _ _ _ (⟨#[32]⟩ : ByteArray) [.string (⟨#[32]⟩ : ByteArray)] from rfl) (Reps.one (show Kd.M Kd.string _ _ _ (⟨#[9]⟩ : ByteArray) [.string (⟨#[9]⟩ : ByteArray)] from rfl) (Reps.one (show Kd.M Kd.string _ _ _ (⟨#[10]⟩ : ByteArray) [.string (⟨#[10]⟩ : ByteArray)] from rfl) (Reps.one (show Kd.M Kd.string _ _ _ (⟨#[12]⟩ : ByteArray) [.string (⟨#[12]⟩ : ByteArray)] from rfl) (Reps.one (show Kd.M Kd.string _ _ _ (⟨#[13]⟩ : ByteArray) [.string (⟨#[13]⟩ : ByteArray)] from rfl) (Reps.none _ _)))))))
                        intro v113 w36 ho37 hb hg_ hnew_
                        clear hg_ hnew_
                        (first | rw [← Ny112.out] at ho37 | (simp only [Int.reduceToNat] at ho37; rw [← Ny112.out] at ho37))
                        have n0_ := Aside0.mk (Kd.R_below (by (with_reducible repeat (first | apply Kd.R_alloc | apply Kd.R_drewN | apply Kd.R_drew)); exact HO111.out) hb)
                        have n1_ := Aside0.mk (Kd.R_lower ho37 (below_size (by repeat (first | (with_reducible first | exact HB.out | apply below_alloc | apply pw_below_drewN | apply below_drew1) | exact HB.out))))
                        have n2_ := Aside0.mk (below_step (by repeat (first | (with_reducible first | exact HB.out | apply below_alloc | apply pw_below_drewN | apply below_drew1) | exact HB.out)) hb)
                        clear HO111
                        clear HB
                        have HO111 := n0_
                        have HO114 := n1_
                        have HB := n2_
                        clear n0_ n1_ n2_
                        clear hb ho37
                        obtain ⟨Ao38, co38, eo38⟩ := Kd.R_slice HO114.out
                        subst eo38
                        obtain ⟨ado38, fo38, _⟩ := Kd.at_string (Kd.R_reads' HO114.out).2.2 0 (by decide) (by rw [Ny112.out]; simp)
                        cases fo38
                        refine hK.out _ _ trivial (fun hHeld => ?_)
                        clear hK K
                        refine norm_ (a' := ?_) ?_ ?_
                        rotate_left
                        · show Act.put _ (some 35) _ = _
                          simp only [Act.put, List.setIfInBounds_toArray, List.set_cons_zero, List.set_cons_succ, i64_w, i32_w, Go.Proofs.YtbobbbpjphkooaaDoor.G.u8_w, Go.Proofs.YtbobbbpjphkooaaDoor.G.u32_w]
                          rfl
                        refine pure_ (i := 6) (N := some 38) (v := ?_) (a' := ?_) #[true, true, true, true, true, true, true, false, false, true, true, true, false, false, false, false, false, false, false] rfl rfl (any_of HT_.out (by kernel_rfl)) (fun _ _ _ h => h) (Or.inl ⟨by rfl, ?_⟩) ?_ ?_
                        rotate_left
                        · intro w'
                          go_simp
                          first | (with_reducible rfl) | (split; (exfalso; omega); with_reducible rfl) | (split; (exfalso; (have q1_ := of_eq_true c15b0); (have q2_ := of_eq_true c16b0); (have q3_ : (a0.extract 0 ((ji14) : Int).toNat).size = ji14.toNat := (by rw [ByteArray.size_extract]; omega)); (have q4_ : (a0.extract ((ji14) : Int).toNat a0.size).size = a0.size - ji14.toNat := (by rw [ByteArray.size_extract]; omega)); (have q5_ := c23); (rw [ByteArray.size_append] at q5_); omega); with_reducible rfl) | (split; (exfalso; (simp [ByteArray.size_append, Go.strOfNums_size, Go.Proofs.YtbobbbpjphkooaaDoor.G.ba_size] at *); omega); with_reducible rfl)
                        rotate_left
                        · simp only [Act.put, List.setIfInBounds_toArray, List.set_cons_zero, List.set_cons_succ, i64_w, i32_w, Go.Proofs.YtbobbbpjphkooaaDoor.G.u8_w, Go.Proofs.YtbobbbpjphkooaaDoor.G.u32_w]
                          rfl
                        refine one_ (i := 7) (N := some 39) #[true, true, true, true, true, true, true, true, false, true, true, true, false, false, false, false, false, false, false] rfl rfl (one_of HT_.out (by kernel_rfl)) (by decide) (fun K hK => ?_)
                        (have p115 : 0 ≤ ((ji17) : Int) := of_decide_eq_true (by first | (with_reducible assumption) | assumption); have q115 : (ji17) < (y112.length : Int) := of_decide_eq_true (by first | (with_reducible assumption) | assumption); obtain ⟨ad115, e115, hx115_0⟩ := Kd.at_string (Kd.R_reads' HO114.out).2.2 (ji17) p115 q115; obtain rfl : ado38 = ad115 := (by injection e115))
                        refine value_ (w1 := ?_) (v := ?_) (by rfl) rfl ?_ ?_
                        rotate_left 2
                        · go_simp
                          constructor
                          · rfl
                          · rfl
                        clear hx115_0
                        refine hK.out _ _ trivial (fun hHeld => ?_)
                        clear hK K
                        refine norm_ (a' := ?_) ?_ ?_
                        rotate_left
                        · show Act.put _ (some 39) _ = _
                          simp only [Act.put, List.setIfInBounds_toArray, List.set_cons_zero, List.set_cons_succ, i64_w, i32_w, Go.Proofs.YtbobbbpjphkooaaDoor.G.u8_w, Go.Proofs.YtbobbbpjphkooaaDoor.G.u32_w]
                          rfl
                        refine pure_ (i := 8) (N := some 40) (v := ?_) (a' := ?_) #[true, true, true, true, true, true, true, true, true, true, true, true, false, false, false, false, false, false, false] rfl rfl (any_of HT_.out (by kernel_rfl)) (fun _ _ _ h => h) (Or.inl ⟨by rfl, ?_⟩) ?_ ?_
                        rotate_left
                        · intro w'
                          go_simp
                          first | (with_reducible rfl) | (split; (exfalso; omega); with_reducible rfl) | (split; (exfalso; (have q1_ := of_eq_true c15b0); (have q2_ := of_eq_true c16b0); (have q3_ : (a0.extract 0 ((ji14) : Int).toNat).size = ji14.toNat := (by rw [ByteArray.size_extract]; omega)); (have q4_ : (a0.extract ((ji14) : Int).toNat a0.size).size = a0.size - ji14.toNat := (by rw [ByteArray.size_extract]; omega)); (have q5_ := c23); (rw [ByteArray.size_append] at q5_); omega); with_reducible rfl) | (split; (exfalso; (simp [ByteArray.size_append, Go.strOfNums_size, Go.Proofs.YtbobbbpjphkooaaDoor.G.ba_size] at *); omega); with_reducible rfl)
                        rotate_left
                        · simp only [Act.put, List.setIfInBounds_toArray, List.set_cons_zero, List.set_cons_succ, i64_w, i32_w, Go.Proofs.YtbobbbpjphkooaaDoor.G.u8_w, Go.Proofs.YtbobbbpjphkooaaDoor.G.u32_w]
                          rfl
                        refine pure_ (i := 12) (N := some 44) (v := ?_) (a' := ?_) #[true, true, true, true, true, true, true, true, true, true, true, true, true, false, false, false, false, false, false] rfl rfl (any_of HT_.out (by kernel_rfl)) (fun _ _ _ h => h) (Or.inl ⟨by rfl, ?_⟩) ?_ ?_
                        rotate_left
                        · intro w'
                          go_simp
                          first | (with_reducible rfl) | (split; (exfalso; omega); with_reducible rfl) | (split; (exfalso; (have q1_ := of_eq_true c15b0); (have q2_ := of_eq_true c16b0); (have q3_ : (a0.extract 0 ((ji14) : Int).toNat).size = ji14.toNat := (by rw [ByteArray.size_extract]; omega)); (have q4_ : (a0.extract ((ji14) : Int).toNat a0.size).size = a0.size - ji14.toNat := (by rw [ByteArray.size_extract]; omega)); (have q5_ := c23); (rw [ByteArray.size_append] at q5_); omega); with_reducible rfl) | (split; (exfalso; (simp [ByteArray.size_append, Go.strOfNums_size, Go.Proofs.YtbobbbpjphkooaaDoor.G.ba_size] at *); omega); with_reducible rfl)
                        rotate_left
                        · simp only [Act.put, List.setIfInBounds_toArray, List.set_cons_zero, List.set_cons_succ, i64_w, i32_w, Go.Proofs.YtbobbbpjphkooaaDoor.G.u8_w, Go.Proofs.YtbobbbpjphkooaaDoor.G.u32_w]
                          rfl
                        refine one_ (i := 13) (N := some 45) #[true, true, true, true, true, true, true, true, true, true, true, true, true, true, false, false, false, false, false] rfl rfl (one_of HT_.out (by kernel_rfl)) (by decide) (fun K hK => ?_)
                        refine goes_ Tryd.func10 (by kernel_rfl) rfl #[.string (((a0.extract 0 ((ji14) : Int).toNat) ++ (rdOf ByteArray.empty y112 (ji17))) ++ (a0.extract ((ji14) : Int).toNat a0.size))] (by rfl) rfl rfl (by (try simp only [List.map_toArray, List.map_cons, List.map_nil]); first | done | (simp only [hji14, hji17]; rfl) | rfl | (simp only [List.length_drop, List.length_take]; rfl)) ?_
                        with_reducible refine (base_Decode.calls kj3 (((a0.extract 0 ((ji14) : Int).toNat) ++ (rdOf ByteArray.empty y112 (ji17))) ++ (a0.extract ((ji14) : Int).toNat a0.size)) t116 t117 _ A24.out (Go.Proofs.YtbobbbpjphkooaaDoor.G.T_below HT.out (by repeat (first | (with_reducible first | exact HB.out | apply below_alloc | apply pw_below_drewN | apply below_drew1) | exact HB.out)))).mono ?_
                        rintro e w39 ⟨v118, rfl, ho0, hb⟩
                        refine ⟨_, rfl, ?_⟩
                        have n0_ := Aside0.mk (Kd.R_elder' (by (with_reducible repeat (first | apply Kd.R_alloc | apply Kd.R_drewN | apply Kd.R_drew)); exact HO111.out) (Kd.R_base ho0) hb)
                        have n1_ := Aside0.mk (Kd.R_below (by (with_reducible repeat (first | apply Kd.R_alloc | apply Kd.R_drewN | apply Kd.R_drew)); exact HO114.out) hb)
                        have n2_ := Aside0.mk (Kd.R_lower (Kd.R_new' ho0 (Kd.R_lt (by (with_reducible repeat (first | apply Kd.R_alloc | apply Kd.R_drewN | apply Kd.R_drew)); exact HO111.out))) (below_size (by repeat (first | (with_reducible first | exact HB.out | apply below_alloc | apply pw_below_drewN | apply below_drew1) | exact HB.out))))
                        have n3_ := Aside0.mk (below_step (by repeat (first | (with_reducible first | exact HB.out | apply below_alloc | apply pw_below_drewN | apply below_drew1) | exact HB.out)) hb)
                        clear HO111
                        clear HO114
                        clear HB
                        have HO111 := n0_
                        have HO114 := n1_
                        have HO119 := n2_
                        have HB := n3_
                        clear n0_ n1_ n2_ n3_
                        (try clear hb)
                        (try clear hb2)
                        (try clear hk)
                        (try clear hi)
                        (try clear ho0)
                        refine hK.out _ _ trivial (fun hHeld => ?_)
                        clear hK K
                        refine norm_ (a' := ?_) ?_ ?_
                        rotate_left
                        · show Act.put _ (some 45) _ = _
                          simp only [Act.put, List.setIfInBounds_toArray, List.set_cons_zero, List.set_cons_succ, i64_w, i32_w, Go.Proofs.YtbobbbpjphkooaaDoor.G.u8_w, Go.Proofs.YtbobbbpjphkooaaDoor.G.u32_w]
                          rfl
                        refine pure_ (i := 14) (N := some 31) (v := ?_) (a' := ?_) #[true, true, true, true, true, true, true, true, true, true, true, true, true, true, true, false, false, false, false] rfl rfl (any_of HT_.out (by kernel_rfl)) (fun _ _ _ h => h) (Or.inl ⟨by rfl, ?_⟩) ?_ ?_
                        rotate_left
                        · intro w'
                          go_simp
                          first | (with_reducible rfl) | (split; (exfalso; omega); with_reducible rfl) | (split; (exfalso; (have q1_ := of_eq_true c15b0); (have q2_ := of_eq_true c16b0); (have q3_ : (a0.extract 0 ((ji14) : Int).toNat).size = ji14.toNat := (by rw [ByteArray.size_extract]; omega)); (have q4_ : (a0.extract ((ji14) : Int).toNat a0.size).size = a0.size - ji14.toNat := (by rw [ByteArray.size_extract]; omega)); (have q5_ := c23); (rw [ByteArray.size_append] at q5_); omega); with_reducible rfl) | (split; (exfalso; (simp [ByteArray.size_append, Go.strOfNums_size, Go.Proofs.YtbobbbpjphkooaaDoor.G.ba_size] at *); omega); with_reducible rfl)
                        rotate_left
                        · simp only [Act.put, List.setIfInBounds_toArray, List.set_cons_zero, List.set_cons_succ, i64_w, i32_w, Go.Proofs.YtbobbbpjphkooaaDoor.G.u8_w, Go.Proofs.YtbobbbpjphkooaaDoor.G.u32_w]
                          rfl
                        refine pure_ (i := 15) (N := some 46) (v := ?_) (a' := ?_) #[true, true, true, true, true, true, true, true, true, true, true, true, true, true, true, true, false, false, false] rfl rfl (any_of HT_.out (by kernel_rfl)) (fun _ _ _ h => h) (Or.inl ⟨by rfl, ?_⟩) ?_ ?_
                        rotate_left
                        · intro w'
                          go_simp
                          first | (with_reducible rfl) | (split; (exfalso; omega); with_reducible rfl) | (split; (exfalso; (have q1_ := of_eq_true c15b0); (have q2_ := of_eq_true c16b0); (have q3_ : (a0.extract 0 ((ji14) : Int).toNat).size = ji14.toNat := (by rw [ByteArray.size_extract]; omega)); (have q4_ : (a0.extract ((ji14) : Int).toNat a0.size).size = a0.size - ji14.toNat := (by rw [ByteArray.size_extract]; omega)); (have q5_ := c23); (rw [ByteArray.size_append] at q5_); omega); with_reducible rfl) | (split; (exfalso; (simp [ByteArray.size_append, Go.strOfNums_size, Go.Proofs.YtbobbbpjphkooaaDoor.G.ba_size] at *); omega); with_reducible rfl)
                        rotate_left
                        · simp only [Act.put, List.setIfInBounds_toArray, List.set_cons_zero, List.set_cons_succ, i64_w, i32_w, Go.Proofs.YtbobbbpjphkooaaDoor.G.u8_w, Go.Proofs.YtbobbbpjphkooaaDoor.G.u32_w]
                          rfl
                        refine pure_ (i := 16) (N := some 47) (v := ?_) (a' := ?_) #[true, true, true, true, true, true, true, true, true, true, true, true, true, true, true, true, true, false, false] rfl rfl (any_of HT_.out (by kernel_rfl)) (fun _ _ _ h => h) (Or.inl ⟨by rfl, ?_⟩) ?_ ?_
                        rotate_left
                        · intro w'
                          go_simp
                          first | (with_reducible rfl) | (split; (exfalso; omega); with_reducible rfl) | (split; (exfalso; (have q1_ := of_eq_true c15b0); (have q2_ := of_eq_true c16b0); (have q3_ : (a0.extract 0 ((ji14) : Int).toNat).size = ji14.toNat := (by rw [ByteArray.size_extract]; omega)); (have q4_ : (a0.extract ((ji14) : Int).toNat a0.size).size = a0.size - ji14.toNat := (by rw [ByteArray.size_extract]; omega)); (have q5_ := c23); (rw [ByteArray.size_append] at q5_); omega); with_reducible rfl) | (split; (exfalso; (simp [ByteArray.size_append, Go.strOfNums_size, Go.Proofs.YtbobbbpjphkooaaDoor.G.ba_size] at *); omega); with_reducible rfl)
                        rotate_left
                        · simp only [Act.put, List.setIfInBounds_toArray, List.set_cons_zero, List.set_cons_succ, i64_w, i32_w, Go.Proofs.YtbobbbpjphkooaaDoor.G.u8_w, Go.Proofs.YtbobbbpjphkooaaDoor.G.u32_w]
                          rfl
                        refine pure_ (i := 17) (N := some 10) (v := ?_) (a' := ?_) #[true, true, true, true, true, true, true, true, true, true, true, true, true, true, true, true, true, true, false] rfl rfl (any_of HT_.out (by kernel_rfl)) (fun _ _ _ h => h) (Or.inl ⟨by rfl, ?_⟩) ?_ ?_
                        rotate_left
                        · intro w'
                          go_simp
                          first | (with_reducible rfl) | (split; (exfalso; omega); with_reducible rfl) | (split; (exfalso; (have q1_ := of_eq_true c15b0); (have q2_ := of_eq_true c16b0); (have q3_ : (a0.extract 0 ((ji14) : Int).toNat).size = ji14.toNat := (by rw [ByteArray.size_extract]; omega)); (have q4_ : (a0.extract ((ji14) : Int).toNat a0.size).size = a0.size - ji14.toNat := (by rw [ByteArray.size_extract]; omega)); (have q5_ := c23); (rw [ByteArray.size_append] at q5_); omega); with_reducible rfl) | (split; (exfalso; (simp [ByteArray.size_append, Go.strOfNums_size, Go.Proofs.YtbobbbpjphkooaaDoor.G.ba_size] at *); omega); with_reducible rfl)
                        rotate_left
                        · simp only [Act.put, List.setIfInBounds_toArray, List.set_cons_zero, List.set_cons_succ, i64_w, i32_w, Go.Proofs.YtbobbbpjphkooaaDoor.G.u8_w, Go.Proofs.YtbobbbpjphkooaaDoor.G.u32_w]
                          rfl
                        refine pure_ (i := 18) (N := some 11) (v := ?_) (a' := ?_) #[true, true, true, true, true, true, true, true, true, true, true, true, true, true, true, true, true, true, true] rfl rfl (any_of HT_.out (by kernel_rfl)) (fun _ _ _ h => h) (Or.inl ⟨by rfl, ?_⟩) ?_ ?_
                        rotate_left
                        · intro w'
                          go_simp
                          first | (with_reducible rfl) | (split; (exfalso; omega); with_reducible rfl) | (split; (exfalso; (have q1_ := of_eq_true c15b0); (have q2_ := of_eq_true c16b0); (have q3_ : (a0.extract 0 ((ji14) : Int).toNat).size = ji14.toNat := (by rw [ByteArray.size_extract]; omega)); (have q4_ : (a0.extract ((ji14) : Int).toNat a0.size).size = a0.size - ji14.toNat := (by rw [ByteArray.size_extract]; omega)); (have q5_ := c23); (rw [ByteArray.size_append] at q5_); omega); with_reducible rfl) | (split; (exfalso; (simp [ByteArray.size_append, Go.strOfNums_size, Go.Proofs.YtbobbbpjphkooaaDoor.G.ba_size] at *); omega); with_reducible rfl)
                        rotate_left
                        · simp only [Act.put, List.setIfInBounds_toArray, List.set_cons_zero, List.set_cons_succ, i64_w, i32_w, Go.Proofs.YtbobbbpjphkooaaDoor.G.u8_w, Go.Proofs.YtbobbbpjphkooaaDoor.G.u32_w]
                          rfl
                        refine done_ (done_of HT_.out (by kernel_rfl)) ?_
                        try go_wp2
                        go_ret
                        exact ⟨by first | rfl | (simp [errW_none, errW_some] <;> rfl) | (simp only [← hji14, ← hji17]; first | rfl | (simp [errW_none, errW_some] <;> rfl)) | (simp [*, errW_none, errW_some] <;> rfl) | (simp [errW_none, errW_some, Go.Proofs.YtbobbbpjphkooaaDoor.G.isEmpty_ne]; done), by repeat (first | (with_reducible first | exact HB.out | apply below_alloc | apply pw_below_drewN | apply below_drew1) | exact HB.out)⟩
                    · rw [if_neg c23] at H
                      exact absurd H (by simp)
                  · rw [if_neg c20] at H
                    exact absurd H (by simp)
                · rw [if_neg c19] at H
                  exact absurd H (by simp)
              · rw [if_neg c18] at H
                exact absurd H (by simp)
            · rw [if_neg c16] at H
              exact absurd H (by simp)
          · rw [if_neg c15] at H
            exact absurd H (by simp)

/-- THE ONE PURE STATEMENT of carryalllaw03_BaseBlanks: yours. -/
def carryalllaw03_BaseBlanks.Pure : Prop := ∀ (a0 : ByteArray) (a1 : Int) (a2 : Int), a0.size ≤ 140737488351232 → (Lit.int .u16 a1).wf = true → (Lit.int .u8 a2).wf = true → ∃ k, carryalllaw03_BaseBlanks.f k a0 a1 a2 = some true
theorem carryalllaw03_BaseBlanks.walk (P : carryalllaw03_BaseBlanks.Pure) (a0 : ByteArray) (a1 : Int) (a2 : Int) (w : World) (w0 : a0.size ≤ 140737488351232) (w1 : (Lit.int .u16 a1).wf = true) (w2 : (Lit.int .u8 a2).wf = true) (hT : Go.Proofs.YtbobbbpjphkooaaDoor.G.T w) :
    Calls Tryd.prog 5 #[.string a0, .int .u16 a1, .int .u8 a2] w fun e w' => e = .returned (.bool true) ∧ Below w.heap.size w w' := by
  obtain ⟨k, h⟩ := P a0 a1 a2 w0 w1 w2
  refine (carryalllaw03_BaseBlanks.calls k a0 a1 a2 true w h hT).mono ?_
  rintro e w' ⟨rfl, hd⟩
  exact ⟨rfl, hd⟩

end Go.Proofs.YtbobbbpjphkooaaDoor.P
