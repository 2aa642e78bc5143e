-- Written for this claim by a program of this session's (not a text of the kit's print).
import Derived.Test.YtbbdfamfmkcfhaaGreatDoorPx0
import Derived.Test.YtbbdfamfmkcfhaaGreatDoorPx2
import Derived.Test.YtbbdfamfmkcfhaaGreatDoorPx4
import Derived.Test.YtbbdfamfmkcfhaaGreatDoorPx7
namespace Go.Proofs.YtbbdfamfmkcfhaaGreatDoor.P
open Go.RowKit Go.Proofs.YtbbdfamfmkcfhaaGreatDoorW.PrintWords Go.Proofs.YtbbdfamfmkcfhaaGreatDoorW.PrintLast Go.Proofs.YtbbdfamfmkcfhaaGreatDoorW.PrintMore
attribute [local go_sem] max2_int min2_int max_two min_two max_three min_three max_four min_four   -- for this text's walks alone
set_option linter.unusedVariables false
set_option linter.unusedSimpArgs false

/-! ### carryalllaw15_PosixParts: function 4 -/
mutual
def carryalllaw15_PosixParts.j0 : Nat → ByteArray → Bool → Option (Bool)
  | 0, _, _ => none
  | k + 1, x0, x20 => if x20 = true then ((carryalllaw15_awake.f k).bind fun t290 => (some t290)) else ((posix_Url.f k x0).bind fun bt291 => (carryalllaw15_PosixParts.l0 k x0 bt291.2.2.2.2.2.2.2.2.2.2.2.2.2 0 (x0.size : Int) 0 bt291.1 bt291.2.1 bt291.2.2.1 bt291.2.2.2.1 bt291.2.2.2.2.1 bt291.2.2.2.2.2.1 bt291.2.2.2.2.2.2.1 bt291.2.2.2.2.2.2.2.1 bt291.2.2.2.2.2.2.2.2.1 bt291.2.2.2.2.2.2.2.2.2.1 bt291.2.2.2.2.2.2.2.2.2.2.1 bt291.2.2.2.2.2.2.2.2.2.2.2.1 bt291.2.2.2.2.2.2.2.2.2.2.2.2.1))
def carryalllaw15_PosixParts.l0 : Nat → ByteArray → Int → Int → Int → Int → ByteArray → ByteArray → ByteArray → ByteArray → Bool → Int → Bool → ByteArray → List ByteArray → Bool → Bool → ByteArray → ByteArray → Option (Bool)
  | 0, _, _, _, _, _, _, _, _, _, _, _, _, _, _, _, _, _, _ => none
  | k + 1, x0, x4, x5, x28, x29, x308000, x308001, x308002, x308003, x308004, x308005, x308006, x308007, x308008, x308009, x308010, x308011, x308012 => if x29 < x28 then (if 0 ≤ x29 then (if x29 < (x0.size : Int) then (if (bt x0 x29) = 47 then (carryalllaw15_PosixParts.l0 k x0 x4 (wrap64 (x5 + 1)) x28 (wrap64 (x29 + 1)) x308000 x308001 x308002 x308003 x308004 x308005 x308006 x308007 x308008 x308009 x308010 x308011 x308012) else (carryalllaw15_PosixParts.l0 k x0 x4 x5 x28 (wrap64 (x29 + 1)) x308000 x308001 x308002 x308003 x308004 x308005 x308006 x308007 x308008 x308009 x308010 x308011 x308012)) else (none)) else (none)) else (if x4 = 0 then (if (x308008.length : Int) = x5 then (if x308003.toList = ([] : List UInt8) then (if x308004 = true then (carryalllaw15_PosixParts.j2 k (x308000.toList != ([102, 105, 108, 101] : List UInt8)) x308000 x308001 x308002 x308003 x308004 x308005 x308006 x308007 x308008 x308009 x308010 x308011 x308012) else (carryalllaw15_PosixParts.j2 k true x308000 x308001 x308002 x308003 x308004 x308005 x308006 x308007 x308008 x308009 x308010 x308011 x308012)) else (carryalllaw15_PosixParts.j2 k true x308000 x308001 x308002 x308003 x308004 x308005 x308006 x308007 x308008 x308009 x308010 x308011 x308012)) else (carryalllaw15_PosixParts.j2 k true x308000 x308001 x308002 x308003 x308004 x308005 x308006 x308007 x308008 x308009 x308010 x308011 x308012)) else (carryalllaw15_PosixParts.j2 k true x308000 x308001 x308002 x308003 x308004 x308005 x308006 x308007 x308008 x308009 x308010 x308011 x308012))
def carryalllaw15_PosixParts.j2 : Nat → Bool → ByteArray → ByteArray → ByteArray → ByteArray → Bool → Int → Bool → ByteArray → List ByteArray → Bool → Bool → ByteArray → ByteArray → Option (Bool)
  | 0, _, _, _, _, _, _, _, _, _, _, _, _, _, _ => none
  | k + 1, x62, x308000, x308001, x308002, x308003, x308004, x308005, x308006, x308007, x308008, x308009, x308010, x308011, x308012 => if x62 = true then (some false) else (carryalllaw15_PosixParts.l1 k (x308008.length : Int) 0 x308000 x308001 x308002 x308003 x308004 x308005 x308006 x308007 x308008 x308009 x308010 x308011 x308012)
def carryalllaw15_PosixParts.l1 : Nat → Int → Int → ByteArray → ByteArray → ByteArray → ByteArray → Bool → Int → Bool → ByteArray → List ByteArray → Bool → Bool → ByteArray → ByteArray → Option (Bool)
  | 0, _, _, _, _, _, _, _, _, _, _, _, _, _, _, _ => none
  | k + 1, x65, x66, x308000, x308001, x308002, x308003, x308004, x308005, x308006, x308007, x308008, x308009, x308010, x308011, x308012 => if x66 < x65 then (if 0 ≤ x66 then (if x66 < (x308008.length : Int) then ((carryallref01_Has.f k (rdOf ByteArray.empty x308008 x66) 47).bind fun t309 => (if t309 = true then (some false) else ((carryallref01_Has.f k (rdOf ByteArray.empty x308008 x66) 92).bind fun t310 => (if t310 = true then (some false) else ((carryallref01_Has.f k (rdOf ByteArray.empty x308008 x66) 124).bind fun t311 => (if t311 = true then (some false) else ((carryallref01_Has.f k (rdOf ByteArray.empty x308008 x66) 63).bind fun t312 => (if t312 = true then (some false) else ((carryallref01_Has.f k (rdOf ByteArray.empty x308008 x66) 35).bind fun t313 => (if t313 = true then (some false) else (if (rdOf ByteArray.empty x308008 x66).toList = ([46] : List UInt8) then (some false) else (if (rdOf ByteArray.empty x308008 x66).toList = ([46, 46] : List UInt8) then (some false) else (carryalllaw15_PosixParts.l1 k x65 (wrap64 (x66 + 1)) x308000 x308001 x308002 x308003 x308004 x308005 x308006 x308007 x308008 x308009 x308010 x308011 x308012))))))))))))) else (none)) else (none)) else (some true)
end
def carryalllaw15_PosixParts.f (k : Nat) (a0 : ByteArray) : Option (Bool) := (carryalllaw15_awake.f k).bind fun t288 => (if t288 = true then (if (a0.size : Int) > 500 then (carryalllaw15_PosixParts.j0 k a0 true) else ((carryallref15_Fine.f k a0).bind fun t289 => (carryalllaw15_PosixParts.j0 k a0 (!t289)))) else (carryalllaw15_PosixParts.j0 k a0 true))
theorem carryalllaw15_PosixParts.mono_l : ∀ k, (∀ y0 y1, LeO (carryalllaw15_PosixParts.j0 k y0 y1) (carryalllaw15_PosixParts.j0 (k + 1) y0 y1)) ∧ (∀ y0 y1 y2 y3 y4 y5 y6 y7 y8 y9 y10 y11 y12 y13 y14 y15 y16 y17, LeO (carryalllaw15_PosixParts.l0 k y0 y1 y2 y3 y4 y5 y6 y7 y8 y9 y10 y11 y12 y13 y14 y15 y16 y17) (carryalllaw15_PosixParts.l0 (k + 1) y0 y1 y2 y3 y4 y5 y6 y7 y8 y9 y10 y11 y12 y13 y14 y15 y16 y17)) ∧ (∀ y0 y1 y2 y3 y4 y5 y6 y7 y8 y9 y10 y11 y12 y13, LeO (carryalllaw15_PosixParts.j2 k y0 y1 y2 y3 y4 y5 y6 y7 y8 y9 y10 y11 y12 y13) (carryalllaw15_PosixParts.j2 (k + 1) y0 y1 y2 y3 y4 y5 y6 y7 y8 y9 y10 y11 y12 y13)) ∧ (∀ y0 y1 y2 y3 y4 y5 y6 y7 y8 y9 y10 y11 y12 y13 y14, LeO (carryalllaw15_PosixParts.l1 k y0 y1 y2 y3 y4 y5 y6 y7 y8 y9 y10 y11 y12 y13 y14) (carryalllaw15_PosixParts.l1 (k + 1) y0 y1 y2 y3 y4 y5 y6 y7 y8 y9 y10 y11 y12 y13 y14))
  | 0 => ⟨fun _ _ r h => by simp [carryalllaw15_PosixParts.j0] at h, fun _ _ _ _ _ _ _ _ _ _ _ _ _ _ _ _ _ _ r h => by simp [carryalllaw15_PosixParts.l0] at h, fun _ _ _ _ _ _ _ _ _ _ _ _ _ _ r h => by simp [carryalllaw15_PosixParts.j2] at h, fun _ _ _ _ _ _ _ _ _ _ _ _ _ _ _ r h => by simp [carryalllaw15_PosixParts.l1] at h⟩
  | k + 1 => by
    obtain ⟨ih0, ih1, ih2, ih3⟩ := carryalllaw15_PosixParts.mono_l k
    refine ⟨?_, ?_, ?_, ?_⟩
    · intro y0 y1
      unfold carryalllaw15_PosixParts.j0
      repeat' first
      | (with_reducible exact ih0 _ _)
      | (with_reducible exact ih1 _ _ _ _ _ _ _ _ _ _ _ _ _ _ _ _ _ _)
      | (with_reducible exact ih2 _ _ _ _ _ _ _ _ _ _ _ _ _ _)
      | (with_reducible exact ih3 _ _ _ _ _ _ _ _ _ _ _ _ _ _ _)
      | (with_reducible exact carryalllaw15_awake.mono _)
      | (with_reducible exact carryallref01_Has.mono _ _ _)
      | (with_reducible exact carryallref15_Fine.mono _ _)
      | (with_reducible exact posix_Url.mono _ _)
      | (with_reducible exact LeO.refl _)
      | (with_reducible exact LeO.none _)
      | (with_reducible refine LeO.ite ?_ ?_)
      | (with_reducible refine LeO.bind ?_ (fun _ => ?_))
      | exact ih0 _ _
      | exact ih1 _ _ _ _ _ _ _ _ _ _ _ _ _ _ _ _ _ _
      | exact ih2 _ _ _ _ _ _ _ _ _ _ _ _ _ _
      | exact ih3 _ _ _ _ _ _ _ _ _ _ _ _ _ _ _
      | exact carryalllaw15_awake.mono _
      | exact carryallref01_Has.mono _ _ _
      | exact carryallref15_Fine.mono _ _
      | exact posix_Url.mono _ _
      | exact LeO.none _
      | refine LeO.ite ?_ ?_
      | refine LeO.bind ?_ (fun _ => ?_)
    · intro y0 y1 y2 y3 y4 y5 y6 y7 y8 y9 y10 y11 y12 y13 y14 y15 y16 y17
      unfold carryalllaw15_PosixParts.l0
      repeat' first
      | (with_reducible exact ih0 _ _)
      | (with_reducible exact ih1 _ _ _ _ _ _ _ _ _ _ _ _ _ _ _ _ _ _)
      | (with_reducible exact ih2 _ _ _ _ _ _ _ _ _ _ _ _ _ _)
      | (with_reducible exact ih3 _ _ _ _ _ _ _ _ _ _ _ _ _ _ _)
      | (with_reducible exact carryalllaw15_awake.mono _)
      | (with_reducible exact carryallref01_Has.mono _ _ _)
      | (with_reducible exact carryallref15_Fine.mono _ _)
      | (with_reducible exact posix_Url.mono _ _)
      | (with_reducible exact LeO.refl _)
      | (with_reducible exact LeO.none _)
      | (with_reducible refine LeO.ite ?_ ?_)
      | (with_reducible refine LeO.bind ?_ (fun _ => ?_))
      | exact ih0 _ _
      | exact ih1 _ _ _ _ _ _ _ _ _ _ _ _ _ _ _ _ _ _
      | exact ih2 _ _ _ _ _ _ _ _ _ _ _ _ _ _
      | exact ih3 _ _ _ _ _ _ _ _ _ _ _ _ _ _ _
      | exact carryalllaw15_awake.mono _
      | exact carryallref01_Has.mono _ _ _
      | exact carryallref15_Fine.mono _ _
      | exact posix_Url.mono _ _
      | exact LeO.none _
      | refine LeO.ite ?_ ?_
      | refine LeO.bind ?_ (fun _ => ?_)
    · intro y0 y1 y2 y3 y4 y5 y6 y7 y8 y9 y10 y11 y12 y13
      unfold carryalllaw15_PosixParts.j2
      repeat' first
      | (with_reducible exact ih0 _ _)
      | (with_reducible exact ih1 _ _ _ _ _ _ _ _ _ _ _ _ _ _ _ _ _ _)
      | (with_reducible exact ih2 _ _ _ _ _ _ _ _ _ _ _ _ _ _)
      | (with_reducible exact ih3 _ _ _ _ _ _ _ _ _ _ _ _ _ _ _)
      | (with_reducible exact carryalllaw15_awake.mono _)
      | (with_reducible exact carryallref01_Has.mono _ _ _)
      | (with_reducible exact carryallref15_Fine.mono _ _)
      | (with_reducible exact posix_Url.mono _ _)
      | (with_reducible exact LeO.refl _)
      | (with_reducible exact LeO.none _)
      | (with_reducible refine LeO.ite ?_ ?_)
      | (with_reducible refine LeO.bind ?_ (fun _ => ?_))
      | exact ih0 _ _
      | exact ih1 _ _ _ _ _ _ _ _ _ _ _ _ _ _ _ _ _ _
      | exact ih2 _ _ _ _ _ _ _ _ _ _ _ _ _ _
      | exact ih3 _ _ _ _ _ _ _ _ _ _ _ _ _ _ _
      | exact carryalllaw15_awake.mono _
      | exact carryallref01_Has.mono _ _ _
      | exact carryallref15_Fine.mono _ _
      | exact posix_Url.mono _ _
      | exact LeO.none _
      | refine LeO.ite ?_ ?_
      | refine LeO.bind ?_ (fun _ => ?_)
    · intro y0 y1 y2 y3 y4 y5 y6 y7 y8 y9 y10 y11 y12 y13 y14
      unfold carryalllaw15_PosixParts.l1
      repeat' first
      | (with_reducible exact ih0 _ _)
      | (with_reducible exact ih1 _ _ _ _ _ _ _ _ _ _ _ _ _ _ _ _ _ _)
      | (with_reducible exact ih2 _ _ _ _ _ _ _ _ _ _ _ _ _ _)
      | (with_reducible exact ih3 _ _ _ _ _ _ _ _ _ _ _ _ _ _ _)
      | (with_reducible exact carryalllaw15_awake.mono _)
      | (with_reducible exact carryallref01_Has.mono _ _ _)
      | (with_reducible exact carryallref15_Fine.mono _ _)
      | (with_reducible exact posix_Url.mono _ _)
      | (with_reducible exact LeO.refl _)
      | (with_reducible exact LeO.none _)
      | (with_reducible refine LeO.ite ?_ ?_)
      | (with_reducible refine LeO.bind ?_ (fun _ => ?_))
      | exact ih0 _ _
      | exact ih1 _ _ _ _ _ _ _ _ _ _ _ _ _ _ _ _ _ _
      | exact ih2 _ _ _ _ _ _ _ _ _ _ _ _ _ _
      | exact ih3 _ _ _ _ _ _ _ _ _ _ _ _ _ _ _
      | exact carryalllaw15_awake.mono _
      | exact carryallref01_Has.mono _ _ _
      | exact carryallref15_Fine.mono _ _
      | exact posix_Url.mono _ _
      | exact LeO.none _
      | refine LeO.ite ?_ ?_
      | refine LeO.bind ?_ (fun _ => ?_)
theorem carryalllaw15_PosixParts.mono : ∀ a0 k, LeO (carryalllaw15_PosixParts.f k a0) (carryalllaw15_PosixParts.f (k + 1) a0) := by
  intro a0 k
  obtain ⟨ih0, ih1, ih2, ih3⟩ := carryalllaw15_PosixParts.mono_l k
  unfold carryalllaw15_PosixParts.f
  repeat' first
      | (with_reducible exact ih0 _ _)
      | (with_reducible exact ih1 _ _ _ _ _ _ _ _ _ _ _ _ _ _ _ _ _ _)
      | (with_reducible exact ih2 _ _ _ _ _ _ _ _ _ _ _ _ _ _)
      | (with_reducible exact ih3 _ _ _ _ _ _ _ _ _ _ _ _ _ _ _)
      | (with_reducible exact carryalllaw15_awake.mono _)
      | (with_reducible exact carryallref01_Has.mono _ _ _)
      | (with_reducible exact carryallref15_Fine.mono _ _)
      | (with_reducible exact posix_Url.mono _ _)
      | (with_reducible exact LeO.refl _)
      | (with_reducible exact LeO.none _)
      | (with_reducible refine LeO.ite ?_ ?_)
      | (with_reducible refine LeO.bind ?_ (fun _ => ?_))
      | exact ih0 _ _
      | exact ih1 _ _ _ _ _ _ _ _ _ _ _ _ _ _ _ _ _ _
      | exact ih2 _ _ _ _ _ _ _ _ _ _ _ _ _ _
      | exact ih3 _ _ _ _ _ _ _ _ _ _ _ _ _ _ _
      | exact carryalllaw15_awake.mono _
      | exact carryallref01_Has.mono _ _ _
      | exact carryallref15_Fine.mono _ _
      | exact posix_Url.mono _ _
      | exact LeO.none _
      | refine LeO.ite ?_ ?_
      | refine LeO.bind ?_ (fun _ => ?_)
set_option maxHeartbeats 8000000 in
set_option maxRecDepth 100000 in
theorem carryalllaw15_PosixParts.calls (k : Nat) (a0 : ByteArray) (r : Bool) (w : World) (h : carryalllaw15_PosixParts.f k a0 = some r) (hT : Go.Proofs.YtbbdfamfmkcfhaaGreatDoor.G.T w) :
    Calls Tryz.prog 4 #[.string a0] w fun e w' => e = .returned (.bool r) ∧ Below w.heap.size w w' := by
  have HT := Aside0.mk hT
  clear hT
  have hu25 := Tryz.underlying25
  have HB := Aside0.mk (Below.refl w.heap.size w)
  have H : ((carryalllaw15_awake.f k).bind fun t288 => (if t288 = true then (if (a0.size : Int) > 500 then (carryalllaw15_PosixParts.j0 k a0 true) else ((carryallref15_Fine.f k a0).bind fun t289 => (carryalllaw15_PosixParts.j0 k a0 (!t289)))) else (carryalllaw15_PosixParts.j0 k a0 true))) = some r := h
  clear h
  have HC2 := Aside0.mk H
  clear H
  go_enter Tryz.func4, Tryz.ntmps4
  go_upto_region 1 with (fail)
  go_cut [20] (fun v20 wc => ∃ (kq : Nat) (x20_1 : Bool), v20 = .bool x20_1 ∧ Aside0 (carryalllaw15_PosixParts.j0 kq a0 x20_1 = some r) ∧ Aside0 (kq ≤ k) ∧ Aside0 (Below w.heap.size w wc))
  case first =>
    have H := HC2.out
    clear HC2
    replace H := Option.bind_eq_some_iff.mp H
    obtain ⟨t288, A30, H⟩ := H
    replace H : (if t288 = true then (if (a0.size : Int) > 500 then (carryalllaw15_PosixParts.j0 k a0 true) else ((carryallref15_Fine.f k a0).bind fun t289 => (carryalllaw15_PosixParts.j0 k a0 (!t289)))) else (carryalllaw15_PosixParts.j0 k a0 true)) = some r := H
    have A3 := Aside0.mk A30
    clear A30
    by_cases c4 : t288 = true
    · subst c4
      have H1 : (if (a0.size : Int) > 500 then (carryalllaw15_PosixParts.j0 k a0 true) else ((carryallref15_Fine.f k a0).bind fun t289 => (carryalllaw15_PosixParts.j0 k a0 (!t289)))) = some r := by rw [if_pos rfl] at H; exact H
      clear H
      have H := H1
      clear H1
      by_cases c5 : (a0.size : Int) > 500
      · rw [if_pos c5] at H
        have c5b0 : decide (500 < (a0.size : Int)) = true := decide_eq_true c5
        have c5b1 : decide (500 < a0.size) = true := decide_eq_true (by omega)
        clear c5
        (first | rw [c5b0] | (simp only [i64_w, i32_w]; rw [c5b0]) | skip)
        have H' := Aside0.mk H
        clear H
        go_wp2_with (first | ((with_reducible refine gate_callee (f := 6) rfl ?_); refine goesL_ (some 9) rfl rfl Tryz.func6 (by kernel_rfl) rfl #[] rfl (by (try simp only [List.map_toArray, List.map_cons, List.map_nil]); first | done | rfl | (simp only [List.length_drop, List.length_take]; rfl)) ?_; (with_reducible refine (carryalllaw15_awake.calls k  true _ A3.out (Go.Proofs.YtbbdfamfmkcfhaaGreatDoor.G.T_below HT.out (by repeat (first | (with_reducible first | exact HB.out | apply below_alloc | apply pw_below_drewN | apply below_drew1 | refine below_set ?_ GE307.out) | exact HB.out)))).mono ?_); rintro e w6 ⟨rfl, hb⟩; refine ⟨_, rfl, ?_⟩; have n0_ := Aside0.mk (below_step (by repeat (first | (with_reducible first | exact HB.out | apply below_alloc | apply pw_below_drewN | apply below_drew1) | exact HB.out)) hb); clear HB; have HB := n0_; clear n0_; (try clear hb); (try clear hb2); (try clear hk); (try clear hi)))
        go_meet
        case rel => exact ⟨_, (true), (by first | rfl | (simp; done) | (simp [*]; done) | (simp [Go.Proofs.YtbbdfamfmkcfhaaGreatDoor.G.isEmpty_ne]; done)), H', ⟨by first | omega | exact Nat.le_refl _⟩, ⟨by repeat (first | (with_reducible first | exact HB.out | apply below_alloc | apply pw_below_drewN | apply below_drew1) | exact HB.out)⟩⟩
      · rw [if_neg c5] at H
        have c5b0 : decide (500 < (a0.size : Int)) = false := decide_eq_false c5
        have c5b1 : decide (500 < a0.size) = false := decide_eq_false (by omega)
        clear c5
        (first | rw [c5b0] | (simp only [i64_w, i32_w]; rw [c5b0]) | skip)
        replace H := Option.bind_eq_some_iff.mp H
        obtain ⟨t289, A70, H⟩ := H
        replace H : (carryalllaw15_PosixParts.j0 k a0 (!t289)) = some r := H
        have A7 := Aside0.mk A70
        clear A70
        have H' := Aside0.mk H
        clear H
        go_wp2_with (first | ((with_reducible refine gate_callee (f := 6) rfl ?_); refine goesL_ (some 9) rfl rfl Tryz.func6 (by kernel_rfl) rfl #[] rfl (by (try simp only [List.map_toArray, List.map_cons, List.map_nil]); first | done | rfl | (simp only [List.length_drop, List.length_take]; rfl)) ?_; (with_reducible refine (carryalllaw15_awake.calls k  true _ A3.out (Go.Proofs.YtbbdfamfmkcfhaaGreatDoor.G.T_below HT.out (by repeat (first | (with_reducible first | exact HB.out | apply below_alloc | apply pw_below_drewN | apply below_drew1 | refine below_set ?_ GE307.out) | exact HB.out)))).mono ?_); rintro e w8 ⟨rfl, hb⟩; refine ⟨_, rfl, ?_⟩; have n0_ := Aside0.mk (below_step (by repeat (first | (with_reducible first | exact HB.out | apply below_alloc | apply pw_below_drewN | apply below_drew1) | exact HB.out)) hb); clear HB; have HB := n0_; clear n0_; (try clear hb); (try clear hb2); (try clear hk); (try clear hi)) | (go_at_call 10; (with_reducible refine (carryallref15_Fine.calls k a0 t289 _ A7.out).mono ?_); rintro e w9 ⟨rfl, hb⟩; have n0_ := Aside0.mk (below_step (by repeat (first | (with_reducible first | exact HB.out | apply below_alloc | apply pw_below_drewN | apply below_drew1) | exact HB.out)) hb); clear HB; have HB := n0_; clear n0_; (try clear hb); (try clear hb2); (try clear hk); (try clear hi)))
        go_meet
        case rel => exact ⟨_, (!t289), (by first | rfl | (simp; done) | (simp [*]; done) | (simp [Go.Proofs.YtbbdfamfmkcfhaaGreatDoor.G.isEmpty_ne]; done)), H', ⟨by first | omega | exact Nat.le_refl _⟩, ⟨by repeat (first | (with_reducible first | exact HB.out | apply below_alloc | apply pw_below_drewN | apply below_drew1) | exact HB.out)⟩⟩
    · replace c4 := Bool.eq_false_iff.mpr c4
      subst c4
      have H1 : (carryalllaw15_PosixParts.j0 k a0 true) = some r := by rw [if_neg (show ¬ (false = true) by decide)] at H; exact H
      clear H
      have H := H1
      clear H1
      have H' := Aside0.mk H
      clear H
      go_wp2_with (first | ((with_reducible refine gate_callee (f := 6) rfl ?_); refine goesL_ (some 9) rfl rfl Tryz.func6 (by kernel_rfl) rfl #[] rfl (by (try simp only [List.map_toArray, List.map_cons, List.map_nil]); first | done | rfl | (simp only [List.length_drop, List.length_take]; rfl)) ?_; (with_reducible refine (carryalllaw15_awake.calls k  false _ A3.out (Go.Proofs.YtbbdfamfmkcfhaaGreatDoor.G.T_below HT.out (by repeat (first | (with_reducible first | exact HB.out | apply below_alloc | apply pw_below_drewN | apply below_drew1 | refine below_set ?_ GE307.out) | exact HB.out)))).mono ?_); rintro e w10 ⟨rfl, hb⟩; refine ⟨_, rfl, ?_⟩; have n0_ := Aside0.mk (below_step (by repeat (first | (with_reducible first | exact HB.out | apply below_alloc | apply pw_below_drewN | apply below_drew1) | exact HB.out)) hb); clear HB; have HB := n0_; clear n0_; (try clear hb); (try clear hb2); (try clear hk); (try clear hi)))
      go_meet
      case rel => exact ⟨_, (true), (by first | rfl | (simp; done) | (simp [*]; done) | (simp [Go.Proofs.YtbbdfamfmkcfhaaGreatDoor.G.isEmpty_ne]; done)), H', ⟨by first | omega | exact Nat.le_refl _⟩, ⟨by repeat (first | (with_reducible first | exact HB.out | apply below_alloc | apply pw_below_drewN | apply below_drew1) | exact HB.out)⟩⟩
  case rest =>
    clear HC2
    try clear p2
    try clear c4
    try clear c5
    try clear c5b0
    try clear c5b1
    try clear c6
    obtain ⟨kq, x20_1, rfl, HA, HJ1, HB⟩ := hcut
    cases kq with
    | zero => exact absurd HA.out (by simp [carryalllaw15_PosixParts.j0])
    | succ kj1 =>
      have H := HA.out
      clear HA
      simp only [carryalllaw15_PosixParts.j0] at H
      by_cases c11 : x20_1 = true
      · subst c11
        have H1 : ((carryalllaw15_awake.f kj1).bind fun t290 => (some t290)) = some r := by rw [if_pos rfl] at H; exact H
        clear H
        have H := H1
        clear H1
        replace H := Option.bind_eq_some_iff.mp H
        obtain ⟨t290, A120, H⟩ := H
        replace H : (some t290) = some r := H
        have A12 := Aside0.mk A120
        clear A120
        obtain rfl := Option.some.inj H
        go_wp2_with (first | ((with_reducible refine gate_callee (f := 6) rfl ?_); refine goesL_ (some 21) rfl rfl Tryz.func6 (by kernel_rfl) rfl #[] rfl (by (try simp only [List.map_toArray, List.map_cons, List.map_nil]); first | done | rfl | (simp only [List.length_drop, List.length_take]; rfl)) ?_; (with_reducible refine (carryalllaw15_awake.calls kj1  t290 _ A12.out (Go.Proofs.YtbbdfamfmkcfhaaGreatDoor.G.T_below HT.out (by repeat (first | (with_reducible first | exact HB.out | apply below_alloc | apply pw_below_drewN | apply below_drew1 | refine below_set ?_ GE307.out) | exact HB.out)))).mono ?_); rintro e w13 ⟨rfl, hb⟩; refine ⟨_, rfl, ?_⟩; have n0_ := Aside0.mk (below_step (by repeat (first | (with_reducible first | exact HB.out | apply below_alloc | apply pw_below_drewN | apply below_drew1) | exact HB.out)) hb); clear HB; have HB := n0_; clear n0_; (try clear hb); (try clear hb2); (try clear hk); (try clear hi)))
        go_ret
        exact ⟨by first | rfl | (simp [errW_none, errW_some] <;> rfl) | (simp [*, errW_none, errW_some] <;> rfl) | (simp [errW_none, errW_some, Go.Proofs.YtbbdfamfmkcfhaaGreatDoor.G.isEmpty_ne]; done), by repeat (first | (with_reducible first | exact HB.out | apply below_alloc | apply pw_below_drewN | apply below_drew1) | exact HB.out)⟩
      · replace c11 := Bool.eq_false_iff.mpr c11
        subst c11
        have H1 : ((posix_Url.f kj1 a0).bind fun bt291 => (carryalllaw15_PosixParts.l0 kj1 a0 bt291.2.2.2.2.2.2.2.2.2.2.2.2.2 0 (a0.size : Int) 0 bt291.1 bt291.2.1 bt291.2.2.1 bt291.2.2.2.1 bt291.2.2.2.2.1 bt291.2.2.2.2.2.1 bt291.2.2.2.2.2.2.1 bt291.2.2.2.2.2.2.2.1 bt291.2.2.2.2.2.2.2.2.1 bt291.2.2.2.2.2.2.2.2.2.1 bt291.2.2.2.2.2.2.2.2.2.2.1 bt291.2.2.2.2.2.2.2.2.2.2.2.1 bt291.2.2.2.2.2.2.2.2.2.2.2.2.1)) = some r := by rw [if_neg (show ¬ (false = true) by decide)] at H; exact H
        clear H
        have H := H1
        clear H1
        replace H := Option.bind_eq_some_iff.mp H
        obtain ⟨⟨t291, t292, t293, t294, t295, t296, t297, t298, t299, t302, t303, t304, t305, t306⟩, A140, H⟩ := H
        replace H : (carryalllaw15_PosixParts.l0 kj1 a0 t306 0 (a0.size : Int) 0 t291 t292 t293 t294 t295 t296 t297 t298 t299 t302 t303 t304 t305) = some r := H
        have A14 := Aside0.mk A140
        clear A140
        have H' := Aside0.mk H
        clear H
        go_wp2_with (first | ((with_reducible refine gate_callee (f := 7) rfl ?_); refine goesL_ (some 24) rfl rfl Tryz.func7 (by kernel_rfl) rfl #[.string a0] rfl (by (try simp only [List.map_toArray, List.map_cons, List.map_nil]); first | done | rfl | (simp only [List.length_drop, List.length_take]; rfl)) ?_; (with_reducible refine (posix_Url.calls kj1 a0 t291 t292 t293 t294 t295 t296 t297 t298 t299 t302 t303 t304 t305 t306 _ A14.out (Go.Proofs.YtbbdfamfmkcfhaaGreatDoor.G.T_below HT.out (by repeat (first | (with_reducible first | exact HB.out | apply below_alloc | apply pw_below_drewN | apply below_drew1 | refine below_set ?_ GE307.out) | exact HB.out)))).mono ?_); rintro e w15 ⟨v300, rfl, ho0, hb⟩; refine ⟨_, rfl, ?_⟩; have n0_ := Aside0.mk (Kd.R_lower ho0 (below_size (by repeat (first | (with_reducible first | exact HB.out | apply below_alloc | apply pw_below_drewN | apply below_drew1) | exact HB.out)))); have n1_ := Aside0.mk (below_step (by repeat (first | (with_reducible first | exact HB.out | apply below_alloc | apply pw_below_drewN | apply below_drew1) | exact HB.out)) hb); clear HB; have HO301 := n0_; have HB := n1_; clear n0_ n1_; (try clear hb); (try clear hb2); (try clear hk); (try clear hi); (try clear ho0)) | ((with_reducible refine gate_dst (N := 3) rfl ?_); (try (refine gate_guard (by rfl) ?_; dsimp only)); refine box_event ?hg (N := 3) ?hd (cs := #[.string (⟨#[]⟩ : ByteArray), .string (⟨#[]⟩ : ByteArray), .string (⟨#[]⟩ : ByteArray), .string (⟨#[]⟩ : ByteArray), .bool false, .int .i64 0, .bool false, .string (⟨#[]⟩ : ByteArray), .slice none 0 0, .bool false, .bool false, .string (⟨#[]⟩ : ByteArray), .string (⟨#[]⟩ : ByteArray)]) (t := 25) ?hr ?_; (case hd => rfl); (case hg => rfl); (case hr => first | (go_simp; done) | (go_simp; rfl)); intro gb307 hg w16 hbox hb; have n0_ := Aside0.mk (Kd.R_below (by (with_reducible repeat (first | apply Kd.R_alloc | apply Kd.R_drewN | apply Kd.R_drew)); exact HO301.out) hb); have n1_ := Aside0.mk (below_step (by repeat (first | (with_reducible first | exact HB.out | apply below_alloc | apply pw_below_drewN | apply below_drew1) | exact HB.out)) hb); have n2_ := Aside0.mk (hbox); have n3_ := Aside0.mk ((by rw [hg]; exact (below_size (by repeat (first | (with_reducible first | exact HB.out | apply below_alloc | apply pw_below_drewN | apply below_drew1) | exact HB.out))) : w.heap.size ≤ gb307)); have n4_ := Aside0.mk ((by rw [hg]; exact (below_size (by repeat (first | (with_reducible first | exact HB.out | apply below_alloc | apply pw_below_drewN | apply below_drew1) | exact HB.out))) : w.heap.size ≤ gb307)); clear HO301; clear HB; have HO301 := n0_; have HB := n1_; have BK307 := n2_; have GW307 := n3_; have GE307 := n4_; clear n0_ n1_ n2_ n3_ n4_; clear hb hbox hg; have hcz17_0 : w16.cell? ⟨gb307, 0, none⟩ = some (.string (⟨#[]⟩ : ByteArray)) := (blk_cell BK307.out 0).trans rfl; have hcz17_1 : w16.cell? ⟨gb307, 1, none⟩ = some (.string (⟨#[]⟩ : ByteArray)) := (blk_cell BK307.out 1).trans rfl; have hcz17_2 : w16.cell? ⟨gb307, 2, none⟩ = some (.string (⟨#[]⟩ : ByteArray)) := (blk_cell BK307.out 2).trans rfl; have hcz17_3 : w16.cell? ⟨gb307, 3, none⟩ = some (.string (⟨#[]⟩ : ByteArray)) := (blk_cell BK307.out 3).trans rfl; have hcz17_4 : w16.cell? ⟨gb307, 4, none⟩ = some (.bool false) := (blk_cell BK307.out 4).trans rfl; have hcz17_5 : w16.cell? ⟨gb307, 5, none⟩ = some (.int .i64 0) := (blk_cell BK307.out 5).trans rfl; have hcz17_6 : w16.cell? ⟨gb307, 6, none⟩ = some (.bool false) := (blk_cell BK307.out 6).trans rfl; have hcz17_7 : w16.cell? ⟨gb307, 7, none⟩ = some (.string (⟨#[]⟩ : ByteArray)) := (blk_cell BK307.out 7).trans rfl; have hcz17_8 : w16.cell? ⟨gb307, 8, none⟩ = some (.slice none 0 0) := (blk_cell BK307.out 8).trans rfl; have hcz17_9 : w16.cell? ⟨gb307, 9, none⟩ = some (.bool false) := (blk_cell BK307.out 9).trans rfl; have hcz17_10 : w16.cell? ⟨gb307, 10, none⟩ = some (.bool false) := (blk_cell BK307.out 10).trans rfl; have hcz17_11 : w16.cell? ⟨gb307, 11, none⟩ = some (.string (⟨#[]⟩ : ByteArray)) := (blk_cell BK307.out 11).trans rfl; have hcz17_12 : w16.cell? ⟨gb307, 12, none⟩ = some (.string (⟨#[]⟩ : ByteArray)) := (blk_cell BK307.out 12).trans rfl; have hfz17_0 := blk_frozen BK307.out 0; have hfz17_1 := blk_frozen BK307.out 1; have hfz17_2 := blk_frozen BK307.out 2; have hfz17_3 := blk_frozen BK307.out 3; have hfz17_4 := blk_frozen BK307.out 4; have hfz17_5 := blk_frozen BK307.out 5; have hfz17_6 := blk_frozen BK307.out 6; have hfz17_7 := blk_frozen BK307.out 7; have hfz17_8 := blk_frozen BK307.out 8; have hfz17_9 := blk_frozen BK307.out 9; have hfz17_10 := blk_frozen BK307.out 10; have hfz17_11 := blk_frozen BK307.out 11; have hfz17_12 := blk_frozen BK307.out 12; obtain ⟨Ao18, co18, eo18⟩ := Kd.R_slice HO301.out; subst eo18))
        go_loopg [5, 29] kj1 (fun kq v5 v29 w' => ∃ (x5_2 : Int) (x29_2 : Int), v5 = .int .i64 x5_2 ∧ v29 = .int .i64 x29_2 ∧ Aside0 (carryalllaw15_PosixParts.l0 kq a0 t306 x5_2 (a0.size : Int) x29_2 t291 t292 t293 t294 t295 t296 t297 t298 t299 t302 t303 t304 t305 = some r) ∧ Aside0 (kq ≤ kj1) ∧ Aside0 (Kd.R Kd.string 9 w' w.heap.size (fun _ => True) (.slice Ao18 t299.length co18) t299) ∧ Aside0 (w'.heap[gb307]? = some (.cells #[.string t291, .string t292, .string t293, .string t294, .bool t295, .int .i64 t296, .bool t297, .string t298, (.slice Ao18 t299.length co18), .bool t302, .bool t303, .string t304, .string t305] 25 (0, 0))) ∧ Aside0 (Below w.heap.size w w'))
        case atStart => exact ⟨(0), (0), (by first | rfl | (simp; done) | (simp [*]; done) | (simp [Go.Proofs.YtbbdfamfmkcfhaaGreatDoor.G.isEmpty_ne]; done)), (by first | rfl | (simp; done) | (simp [*]; done) | (simp [Go.Proofs.YtbbdfamfmkcfhaaGreatDoor.G.isEmpty_ne]; done)), H', ⟨Nat.le_refl _⟩, ⟨by (with_reducible repeat (first | apply Kd.R_alloc | apply Kd.R_drewN | apply Kd.R_drew)); exact Kd.R_mono (Kd.R_far (p := ⟨gb307, 12, none⟩) (Kd.R_far (p := ⟨gb307, 11, none⟩) (Kd.R_far (p := ⟨gb307, 10, none⟩) (Kd.R_far (p := ⟨gb307, 9, none⟩) (Kd.R_far (p := ⟨gb307, 8, none⟩) (Kd.R_far (p := ⟨gb307, 7, none⟩) (Kd.R_far (p := ⟨gb307, 6, none⟩) (Kd.R_far (p := ⟨gb307, 5, none⟩) (Kd.R_far (p := ⟨gb307, 4, none⟩) (Kd.R_far (p := ⟨gb307, 3, none⟩) (Kd.R_far (p := ⟨gb307, 2, none⟩) (Kd.R_far (p := ⟨gb307, 1, none⟩) (Kd.R_far (p := ⟨gb307, 0, none⟩) (Kd.R_types HO301.out BK307.out (by decide)) (fun _ hk => hk.2) (.string t291)) (fun _ hk => hk.2) (.string t292)) (fun _ hk => hk.2) (.string t293)) (fun _ hk => hk.2) (.string t294)) (fun _ hk => hk.2) (.bool t295)) (fun _ hk => hk.2) (.int .i64 t296)) (fun _ hk => hk.2) (.bool t297)) (fun _ hk => hk.2) (.string t298)) (fun _ hk => hk.2) (.slice Ao18 t299.length co18)) (fun _ hk => hk.2) (.bool t302)) (fun _ hk => hk.2) (.bool t303)) (fun _ hk => hk.2) (.string t304)) (fun _ hk => hk.2) (.string t305)) (fun _ hk => trivial)⟩, ⟨by (with_reducible repeat (first | refine blk_drewN ?_ _ | refine blk_drew ?_ | refine blk_alloc ?_ _)); refine blk_put (cs := #[.string t291, .string t292, .string t293, .string t294, .bool t295, .int .i64 t296, .bool t297, .string t298, .slice Ao18 t299.length co18, .bool t302, .bool t303, .string t304, .string (⟨#[]⟩ : ByteArray)]) ?_ 12 _ rfl; (with_reducible repeat (first | refine blk_drewN ?_ _ | refine blk_drew ?_ | refine blk_alloc ?_ _)); refine blk_put (cs := #[.string t291, .string t292, .string t293, .string t294, .bool t295, .int .i64 t296, .bool t297, .string t298, .slice Ao18 t299.length co18, .bool t302, .bool t303, .string (⟨#[]⟩ : ByteArray), .string (⟨#[]⟩ : ByteArray)]) ?_ 11 _ rfl; (with_reducible repeat (first | refine blk_drewN ?_ _ | refine blk_drew ?_ | refine blk_alloc ?_ _)); refine blk_put (cs := #[.string t291, .string t292, .string t293, .string t294, .bool t295, .int .i64 t296, .bool t297, .string t298, .slice Ao18 t299.length co18, .bool t302, .bool false, .string (⟨#[]⟩ : ByteArray), .string (⟨#[]⟩ : ByteArray)]) ?_ 10 _ rfl; (with_reducible repeat (first | refine blk_drewN ?_ _ | refine blk_drew ?_ | refine blk_alloc ?_ _)); refine blk_put (cs := #[.string t291, .string t292, .string t293, .string t294, .bool t295, .int .i64 t296, .bool t297, .string t298, .slice Ao18 t299.length co18, .bool false, .bool false, .string (⟨#[]⟩ : ByteArray), .string (⟨#[]⟩ : ByteArray)]) ?_ 9 _ rfl; (with_reducible repeat (first | refine blk_drewN ?_ _ | refine blk_drew ?_ | refine blk_alloc ?_ _)); refine blk_put (cs := #[.string t291, .string t292, .string t293, .string t294, .bool t295, .int .i64 t296, .bool t297, .string t298, .slice none 0 0, .bool false, .bool false, .string (⟨#[]⟩ : ByteArray), .string (⟨#[]⟩ : ByteArray)]) ?_ 8 _ rfl; (with_reducible repeat (first | refine blk_drewN ?_ _ | refine blk_drew ?_ | refine blk_alloc ?_ _)); refine blk_put (cs := #[.string t291, .string t292, .string t293, .string t294, .bool t295, .int .i64 t296, .bool t297, .string (⟨#[]⟩ : ByteArray), .slice none 0 0, .bool false, .bool false, .string (⟨#[]⟩ : ByteArray), .string (⟨#[]⟩ : ByteArray)]) ?_ 7 _ rfl; (with_reducible repeat (first | refine blk_drewN ?_ _ | refine blk_drew ?_ | refine blk_alloc ?_ _)); refine blk_put (cs := #[.string t291, .string t292, .string t293, .string t294, .bool t295, .int .i64 t296, .bool false, .string (⟨#[]⟩ : ByteArray), .slice none 0 0, .bool false, .bool false, .string (⟨#[]⟩ : ByteArray), .string (⟨#[]⟩ : ByteArray)]) ?_ 6 _ rfl; (with_reducible repeat (first | refine blk_drewN ?_ _ | refine blk_drew ?_ | refine blk_alloc ?_ _)); refine blk_put (cs := #[.string t291, .string t292, .string t293, .string t294, .bool t295, .int .i64 0, .bool false, .string (⟨#[]⟩ : ByteArray), .slice none 0 0, .bool false, .bool false, .string (⟨#[]⟩ : ByteArray), .string (⟨#[]⟩ : ByteArray)]) ?_ 5 _ rfl; (with_reducible repeat (first | refine blk_drewN ?_ _ | refine blk_drew ?_ | refine blk_alloc ?_ _)); refine blk_put (cs := #[.string t291, .string t292, .string t293, .string t294, .bool false, .int .i64 0, .bool false, .string (⟨#[]⟩ : ByteArray), .slice none 0 0, .bool false, .bool false, .string (⟨#[]⟩ : ByteArray), .string (⟨#[]⟩ : ByteArray)]) ?_ 4 _ rfl; (with_reducible repeat (first | refine blk_drewN ?_ _ | refine blk_drew ?_ | refine blk_alloc ?_ _)); refine blk_put (cs := #[.string t291, .string t292, .string t293, .string (⟨#[]⟩ : ByteArray), .bool false, .int .i64 0, .bool false, .string (⟨#[]⟩ : ByteArray), .slice none 0 0, .bool false, .bool false, .string (⟨#[]⟩ : ByteArray), .string (⟨#[]⟩ : ByteArray)]) ?_ 3 _ rfl; (with_reducible repeat (first | refine blk_drewN ?_ _ | refine blk_drew ?_ | refine blk_alloc ?_ _)); refine blk_put (cs := #[.string t291, .string t292, .string (⟨#[]⟩ : ByteArray), .string (⟨#[]⟩ : ByteArray), .bool false, .int .i64 0, .bool false, .string (⟨#[]⟩ : ByteArray), .slice none 0 0, .bool false, .bool false, .string (⟨#[]⟩ : ByteArray), .string (⟨#[]⟩ : ByteArray)]) ?_ 2 _ rfl; (with_reducible repeat (first | refine blk_drewN ?_ _ | refine blk_drew ?_ | refine blk_alloc ?_ _)); refine blk_put (cs := #[.string t291, .string (⟨#[]⟩ : ByteArray), .string (⟨#[]⟩ : ByteArray), .string (⟨#[]⟩ : ByteArray), .bool false, .int .i64 0, .bool false, .string (⟨#[]⟩ : ByteArray), .slice none 0 0, .bool false, .bool false, .string (⟨#[]⟩ : ByteArray), .string (⟨#[]⟩ : ByteArray)]) ?_ 1 _ rfl; (with_reducible repeat (first | refine blk_drewN ?_ _ | refine blk_drew ?_ | refine blk_alloc ?_ _)); refine blk_put (cs := #[.string (⟨#[]⟩ : ByteArray), .string (⟨#[]⟩ : ByteArray), .string (⟨#[]⟩ : ByteArray), .string (⟨#[]⟩ : ByteArray), .bool false, .int .i64 0, .bool false, .string (⟨#[]⟩ : ByteArray), .slice none 0 0, .bool false, .bool false, .string (⟨#[]⟩ : ByteArray), .string (⟨#[]⟩ : ByteArray)]) ?_ 0 _ rfl; (with_reducible repeat (first | refine blk_drewN ?_ _ | refine blk_drew ?_ | refine blk_alloc ?_ _)); exact BK307.out⟩, ⟨by repeat (first | (with_reducible first | exact HB.out | apply below_alloc | apply pw_below_drewN | apply below_drew1 | refine below_set ?_ GE307.out) | exact HB.out)⟩⟩
        case round =>
          clear H'
          try clear c1
          try clear p2
          try clear c4
          try clear c5
          try clear c5b0
          try clear c5b1
          try clear c6
          try clear c7
          try clear c11
          try clear hcz17_0
          try clear hcz17_1
          try clear hcz17_10
          try clear hcz17_11
          try clear hcz17_12
          try clear hcz17_2
          try clear hcz17_3
          try clear hcz17_4
          try clear hcz17_5
          try clear hcz17_6
          try clear hcz17_7
          try clear hcz17_8
          try clear hcz17_9
          try clear hfz17_0
          try clear hfz17_1
          try clear hfz17_10
          try clear hfz17_11
          try clear hfz17_12
          try clear hfz17_2
          try clear hfz17_3
          try clear hfz17_4
          try clear hfz17_5
          try clear hfz17_6
          try clear hfz17_7
          try clear hfz17_8
          try clear hfz17_9
          try clear p2
          obtain ⟨x5_2, x29_2, rfl, rfl, HA, HK2, HO_308008, BK307, HB⟩ := hrel
          cases gk with
          | zero => exact absurd HA.out (by simp [carryalllaw15_PosixParts.l0])
          | succ k2 =>
            have H := HA.out
            clear HA
            simp only [carryalllaw15_PosixParts.l0] at H
            by_cases c19 : x29_2 < (a0.size : Int)
            · rw [if_pos c19] at H
              have c19b0 : decide (x29_2 < (a0.size : Int)) = true := decide_eq_true c19
              clear c19
              by_cases c20 : 0 ≤ x29_2
              · rw [if_pos c20] at H
                have c20b0 : decide (0 ≤ x29_2) = true := decide_eq_true c20
                clear c20
                by_cases c21 : x29_2 < (a0.size : Int)
                · rw [if_pos c21] at H
                  have c21b0 : decide (x29_2 < (a0.size : Int)) = true := decide_eq_true c21
                  clear c21
                  by_cases c23 : (bt a0 x29_2) = 47
                  · rw [if_pos c23] at H
                    have c23b0 : ((bt a0 x29_2) == 47) = true := beq_iff_eq.mpr c23
                    have c23b1 : ((bt a0 x29_2) != 47) = false := bne_eq_false_iff_eq.mpr c23
                    clear c23
                    have H' := Aside0.mk H
                    clear H
                    have p22 : 0 ≤ (x29_2 : Int) := of_decide_eq_true (by first | (with_reducible assumption) | assumption)
                    have q22 : x29_2 < (a0.size : Int) := of_decide_eq_true (by first | (with_reducible assumption) | assumption)
                    have hx22 := bt_at a0 x29_2
                    replace p22 := eq_true p22
                    replace q22 := eq_true q22
                    go_wp2
                    go_roundg k2
                    case measure => have := HJ1.out; have := HK2.out; omega
                    case rel => exact ⟨(wrap64 (x5_2 + 1)), (wrap64 (x29_2 + 1)), (by first | rfl | (simp; done) | (simp [*]; done) | (simp [Go.Proofs.YtbbdfamfmkcfhaaGreatDoor.G.isEmpty_ne]; done)), (by first | rfl | (simp; done) | (simp [*]; done) | (simp [Go.Proofs.YtbbdfamfmkcfhaaGreatDoor.G.isEmpty_ne]; done)), H', ⟨by have := HJ1.out; have := HK2.out; omega⟩, ⟨by (with_reducible repeat (first | apply Kd.R_alloc | apply Kd.R_drewN | apply Kd.R_drew)); exact HO_308008.out⟩, ⟨by (with_reducible repeat (first | refine blk_drewN ?_ _ | refine blk_drew ?_ | refine blk_alloc ?_ _)); exact BK307.out⟩, ⟨by repeat (first | (with_reducible first | exact HB.out | apply below_alloc | apply pw_below_drewN | apply below_drew1 | refine below_set ?_ GE307.out) | exact HB.out)⟩⟩
                  · rw [if_neg c23] at H
                    have c23b0 : ((bt a0 x29_2) == 47) = false := beq_eq_false_iff_ne.mpr c23
                    have c23b1 : ((bt a0 x29_2) != 47) = true := bne_iff_ne.mpr c23
                    have H' := Aside0.mk H
                    clear H
                    have p22 : 0 ≤ (x29_2 : Int) := of_decide_eq_true (by first | (with_reducible assumption) | assumption)
                    have q22 : x29_2 < (a0.size : Int) := of_decide_eq_true (by first | (with_reducible assumption) | assumption)
                    have hx22 := bt_at a0 x29_2
                    replace p22 := eq_true p22
                    replace q22 := eq_true q22
                    go_wp2
                    go_roundg k2
                    case measure => have := HJ1.out; have := HK2.out; omega
                    case rel => exact ⟨(x5_2), (wrap64 (x29_2 + 1)), (by first | rfl | (simp; done) | (simp [*]; done) | (simp [Go.Proofs.YtbbdfamfmkcfhaaGreatDoor.G.isEmpty_ne]; done)), (by first | rfl | (simp; done) | (simp [*]; done) | (simp [Go.Proofs.YtbbdfamfmkcfhaaGreatDoor.G.isEmpty_ne]; done)), H', ⟨by have := HJ1.out; have := HK2.out; omega⟩, ⟨by (with_reducible repeat (first | apply Kd.R_alloc | apply Kd.R_drewN | apply Kd.R_drew)); exact HO_308008.out⟩, ⟨by (with_reducible repeat (first | refine blk_drewN ?_ _ | refine blk_drew ?_ | refine blk_alloc ?_ _)); exact BK307.out⟩, ⟨by repeat (first | (with_reducible first | exact HB.out | apply below_alloc | apply pw_below_drewN | apply below_drew1 | refine below_set ?_ GE307.out) | exact HB.out)⟩⟩
                · rw [if_neg c21] at H
                  exact absurd H (by simp)
              · rw [if_neg c20] at H
                exact absurd H (by simp)
            · rw [if_neg c19] at H
              have c19b0 : decide (x29_2 < (a0.size : Int)) = false := decide_eq_false c19
              clear c19
              have HC24 := Aside0.mk H
              clear H
              go_upto_region 11 with (fail)
              go_cut [62] (fun v62 wc => ∃ (kq : Nat) (x62_23 : Bool), v62 = .bool x62_23 ∧ Aside0 (carryalllaw15_PosixParts.j2 kq x62_23 t291 t292 t293 t294 t295 t296 t297 t298 t299 t302 t303 t304 t305 = some r) ∧ Aside0 (kq ≤ k2) ∧ Aside0 (Kd.R Kd.string 9 wc w.heap.size (fun _ => True) (.slice Ao18 t299.length co18) t299) ∧ Aside0 (wc.heap[gb307]? = some (.cells #[.string t291, .string t292, .string t293, .string t294, .bool t295, .int .i64 t296, .bool t297, .string t298, (.slice Ao18 t299.length co18), .bool t302, .bool t303, .string t304, .string t305] 25 (0, 0))) ∧ Aside0 (Below w.heap.size w wc))
              case first =>
                have H := HC24.out
                clear HC24
                by_cases c25 : t306 = 0
                · rw [if_pos c25] at H
                  have c25b0 : (t306 == 0) = true := beq_iff_eq.mpr c25
                  have c25b1 : (t306 != 0) = false := bne_eq_false_iff_eq.mpr c25
                  clear c25
                  (first | rw [c25b0] | (simp only [i64_w, i32_w]; rw [c25b0]) | skip)
                  by_cases c26 : (t299.length : Int) = x5_2
                  · rw [if_pos c26] at H
                    have c26b0 : ((t299.length : Int) == x5_2) = true := beq_iff_eq.mpr c26
                    have c26b1 : ((t299.length : Int) != x5_2) = false := bne_eq_false_iff_eq.mpr c26
                    clear c26
                    by_cases c27 : t294.toList = ([] : List UInt8)
                    · rw [if_pos c27] at H
                      have c27b0 : (t294.toList == ([] : List UInt8)) = true := beq_iff_eq.mpr c27
                      have c27b1 : (t294.toList != ([] : List UInt8)) = false := bne_eq_false_iff_eq.mpr c27
                      clear c27
                      by_cases c28 : t295 = true
                      · subst c28
                        have H1 : (carryalllaw15_PosixParts.j2 k2 (t291.toList != ([102, 105, 108, 101] : List UInt8)) t291 t292 t293 t294 true t296 t297 t298 t299 t302 t303 t304 t305) = some r := by rw [if_pos rfl] at H; exact H
                        clear H
                        have H := H1
                        clear H1
                        have H' := Aside0.mk H
                        clear H
                        have hcz29_0 : wr.cell? ⟨gb307, 0, none⟩ = some (.string t291) := (blk_cell BK307.out 0).trans rfl
                        have hcz29_1 : wr.cell? ⟨gb307, 1, none⟩ = some (.string t292) := (blk_cell BK307.out 1).trans rfl
                        have hcz29_2 : wr.cell? ⟨gb307, 2, none⟩ = some (.string t293) := (blk_cell BK307.out 2).trans rfl
                        have hcz29_3 : wr.cell? ⟨gb307, 3, none⟩ = some (.string t294) := (blk_cell BK307.out 3).trans rfl
                        have hcz29_4 : wr.cell? ⟨gb307, 4, none⟩ = some (.bool true) := (blk_cell BK307.out 4).trans rfl
                        have hcz29_5 : wr.cell? ⟨gb307, 5, none⟩ = some (.int .i64 t296) := (blk_cell BK307.out 5).trans rfl
                        have hcz29_6 : wr.cell? ⟨gb307, 6, none⟩ = some (.bool t297) := (blk_cell BK307.out 6).trans rfl
                        have hcz29_7 : wr.cell? ⟨gb307, 7, none⟩ = some (.string t298) := (blk_cell BK307.out 7).trans rfl
                        have hcz29_8 : wr.cell? ⟨gb307, 8, none⟩ = some (.slice Ao18 t299.length co18) := (blk_cell BK307.out 8).trans rfl
                        have hcz29_9 : wr.cell? ⟨gb307, 9, none⟩ = some (.bool t302) := (blk_cell BK307.out 9).trans rfl
                        have hcz29_10 : wr.cell? ⟨gb307, 10, none⟩ = some (.bool t303) := (blk_cell BK307.out 10).trans rfl
                        have hcz29_11 : wr.cell? ⟨gb307, 11, none⟩ = some (.string t304) := (blk_cell BK307.out 11).trans rfl
                        have hcz29_12 : wr.cell? ⟨gb307, 12, none⟩ = some (.string t305) := (blk_cell BK307.out 12).trans rfl
                        have hfz29_0 := blk_frozen BK307.out 0
                        have hfz29_1 := blk_frozen BK307.out 1
                        have hfz29_2 := blk_frozen BK307.out 2
                        have hfz29_3 := blk_frozen BK307.out 3
                        have hfz29_4 := blk_frozen BK307.out 4
                        have hfz29_5 := blk_frozen BK307.out 5
                        have hfz29_6 := blk_frozen BK307.out 6
                        have hfz29_7 := blk_frozen BK307.out 7
                        have hfz29_8 := blk_frozen BK307.out 8
                        have hfz29_9 := blk_frozen BK307.out 9
                        have hfz29_10 := blk_frozen BK307.out 10
                        have hfz29_11 := blk_frozen BK307.out 11
                        have hfz29_12 := blk_frozen BK307.out 12
                        go_wp2
                        go_meet
                        case rel => exact ⟨_, ((t291.toList != ([102, 105, 108, 101] : List UInt8))), (by first | rfl | (simp; done) | (simp [*]; done) | (simp [Go.Proofs.YtbbdfamfmkcfhaaGreatDoor.G.isEmpty_ne]; done)), H', ⟨by have := HJ1.out; have := HK2.out; first | omega | exact Nat.le_refl _⟩, ⟨by (with_reducible repeat (first | apply Kd.R_alloc | apply Kd.R_drewN | apply Kd.R_drew)); exact HO_308008.out⟩, ⟨by (with_reducible repeat (first | refine blk_drewN ?_ _ | refine blk_drew ?_ | refine blk_alloc ?_ _)); exact BK307.out⟩, ⟨by repeat (first | (with_reducible first | exact HB.out | apply below_alloc | apply pw_below_drewN | apply below_drew1 | refine below_set ?_ GE307.out) | exact HB.out)⟩⟩
                      · replace c28 := Bool.eq_false_iff.mpr c28
                        subst c28
                        have H1 : (carryalllaw15_PosixParts.j2 k2 true t291 t292 t293 t294 false t296 t297 t298 t299 t302 t303 t304 t305) = some r := by rw [if_neg (show ¬ (false = true) by decide)] at H; exact H
                        clear H
                        have H := H1
                        clear H1
                        have H' := Aside0.mk H
                        clear H
                        have hcz30_0 : wr.cell? ⟨gb307, 0, none⟩ = some (.string t291) := (blk_cell BK307.out 0).trans rfl
                        have hcz30_1 : wr.cell? ⟨gb307, 1, none⟩ = some (.string t292) := (blk_cell BK307.out 1).trans rfl
                        have hcz30_2 : wr.cell? ⟨gb307, 2, none⟩ = some (.string t293) := (blk_cell BK307.out 2).trans rfl
                        have hcz30_3 : wr.cell? ⟨gb307, 3, none⟩ = some (.string t294) := (blk_cell BK307.out 3).trans rfl
                        have hcz30_4 : wr.cell? ⟨gb307, 4, none⟩ = some (.bool false) := (blk_cell BK307.out 4).trans rfl
                        have hcz30_5 : wr.cell? ⟨gb307, 5, none⟩ = some (.int .i64 t296) := (blk_cell BK307.out 5).trans rfl
                        have hcz30_6 : wr.cell? ⟨gb307, 6, none⟩ = some (.bool t297) := (blk_cell BK307.out 6).trans rfl
                        have hcz30_7 : wr.cell? ⟨gb307, 7, none⟩ = some (.string t298) := (blk_cell BK307.out 7).trans rfl
                        have hcz30_8 : wr.cell? ⟨gb307, 8, none⟩ = some (.slice Ao18 t299.length co18) := (blk_cell BK307.out 8).trans rfl
                        have hcz30_9 : wr.cell? ⟨gb307, 9, none⟩ = some (.bool t302) := (blk_cell BK307.out 9).trans rfl
                        have hcz30_10 : wr.cell? ⟨gb307, 10, none⟩ = some (.bool t303) := (blk_cell BK307.out 10).trans rfl
                        have hcz30_11 : wr.cell? ⟨gb307, 11, none⟩ = some (.string t304) := (blk_cell BK307.out 11).trans rfl
                        have hcz30_12 : wr.cell? ⟨gb307, 12, none⟩ = some (.string t305) := (blk_cell BK307.out 12).trans rfl
                        have hfz30_0 := blk_frozen BK307.out 0
                        have hfz30_1 := blk_frozen BK307.out 1
                        have hfz30_2 := blk_frozen BK307.out 2
                        have hfz30_3 := blk_frozen BK307.out 3
                        have hfz30_4 := blk_frozen BK307.out 4
                        have hfz30_5 := blk_frozen BK307.out 5
                        have hfz30_6 := blk_frozen BK307.out 6
                        have hfz30_7 := blk_frozen BK307.out 7
                        have hfz30_8 := blk_frozen BK307.out 8
                        have hfz30_9 := blk_frozen BK307.out 9
                        have hfz30_10 := blk_frozen BK307.out 10
                        have hfz30_11 := blk_frozen BK307.out 11
                        have hfz30_12 := blk_frozen BK307.out 12
                        go_wp2
                        go_meet
                        case rel => exact ⟨_, (true), (by first | rfl | (simp; done) | (simp [*]; done) | (simp [Go.Proofs.YtbbdfamfmkcfhaaGreatDoor.G.isEmpty_ne]; done)), H', ⟨by have := HJ1.out; have := HK2.out; first | omega | exact Nat.le_refl _⟩, ⟨by (with_reducible repeat (first | apply Kd.R_alloc | apply Kd.R_drewN | apply Kd.R_drew)); exact HO_308008.out⟩, ⟨by (with_reducible repeat (first | refine blk_drewN ?_ _ | refine blk_drew ?_ | refine blk_alloc ?_ _)); exact BK307.out⟩, ⟨by repeat (first | (with_reducible first | exact HB.out | apply below_alloc | apply pw_below_drewN | apply below_drew1 | refine below_set ?_ GE307.out) | exact HB.out)⟩⟩
                    · rw [if_neg c27] at H
                      have c27b0 : (t294.toList == ([] : List UInt8)) = false := beq_eq_false_iff_ne.mpr c27
                      have c27b1 : (t294.toList != ([] : List UInt8)) = true := bne_iff_ne.mpr c27
                      have H' := Aside0.mk H
                      clear H
                      have hcz31_0 : wr.cell? ⟨gb307, 0, none⟩ = some (.string t291) := (blk_cell BK307.out 0).trans rfl
                      have hcz31_1 : wr.cell? ⟨gb307, 1, none⟩ = some (.string t292) := (blk_cell BK307.out 1).trans rfl
                      have hcz31_2 : wr.cell? ⟨gb307, 2, none⟩ = some (.string t293) := (blk_cell BK307.out 2).trans rfl
                      have hcz31_3 : wr.cell? ⟨gb307, 3, none⟩ = some (.string t294) := (blk_cell BK307.out 3).trans rfl
                      have hcz31_4 : wr.cell? ⟨gb307, 4, none⟩ = some (.bool t295) := (blk_cell BK307.out 4).trans rfl
                      have hcz31_5 : wr.cell? ⟨gb307, 5, none⟩ = some (.int .i64 t296) := (blk_cell BK307.out 5).trans rfl
                      have hcz31_6 : wr.cell? ⟨gb307, 6, none⟩ = some (.bool t297) := (blk_cell BK307.out 6).trans rfl
                      have hcz31_7 : wr.cell? ⟨gb307, 7, none⟩ = some (.string t298) := (blk_cell BK307.out 7).trans rfl
                      have hcz31_8 : wr.cell? ⟨gb307, 8, none⟩ = some (.slice Ao18 t299.length co18) := (blk_cell BK307.out 8).trans rfl
                      have hcz31_9 : wr.cell? ⟨gb307, 9, none⟩ = some (.bool t302) := (blk_cell BK307.out 9).trans rfl
                      have hcz31_10 : wr.cell? ⟨gb307, 10, none⟩ = some (.bool t303) := (blk_cell BK307.out 10).trans rfl
                      have hcz31_11 : wr.cell? ⟨gb307, 11, none⟩ = some (.string t304) := (blk_cell BK307.out 11).trans rfl
                      have hcz31_12 : wr.cell? ⟨gb307, 12, none⟩ = some (.string t305) := (blk_cell BK307.out 12).trans rfl
                      have hfz31_0 := blk_frozen BK307.out 0
                      have hfz31_1 := blk_frozen BK307.out 1
                      have hfz31_2 := blk_frozen BK307.out 2
                      have hfz31_3 := blk_frozen BK307.out 3
                      have hfz31_4 := blk_frozen BK307.out 4
                      have hfz31_5 := blk_frozen BK307.out 5
                      have hfz31_6 := blk_frozen BK307.out 6
                      have hfz31_7 := blk_frozen BK307.out 7
                      have hfz31_8 := blk_frozen BK307.out 8
                      have hfz31_9 := blk_frozen BK307.out 9
                      have hfz31_10 := blk_frozen BK307.out 10
                      have hfz31_11 := blk_frozen BK307.out 11
                      have hfz31_12 := blk_frozen BK307.out 12
                      go_wp2
                      go_meet
                      case rel => exact ⟨_, (true), (by first | rfl | (simp; done) | (simp [*]; done) | (simp [Go.Proofs.YtbbdfamfmkcfhaaGreatDoor.G.isEmpty_ne]; done)), H', ⟨by have := HJ1.out; have := HK2.out; first | omega | exact Nat.le_refl _⟩, ⟨by (with_reducible repeat (first | apply Kd.R_alloc | apply Kd.R_drewN | apply Kd.R_drew)); exact HO_308008.out⟩, ⟨by (with_reducible repeat (first | refine blk_drewN ?_ _ | refine blk_drew ?_ | refine blk_alloc ?_ _)); exact BK307.out⟩, ⟨by repeat (first | (with_reducible first | exact HB.out | apply below_alloc | apply pw_below_drewN | apply below_drew1 | refine below_set ?_ GE307.out) | exact HB.out)⟩⟩
                  · rw [if_neg c26] at H
                    have c26b0 : ((t299.length : Int) == x5_2) = false := beq_eq_false_iff_ne.mpr c26
                    have c26b1 : ((t299.length : Int) != x5_2) = true := bne_iff_ne.mpr c26
                    have H' := Aside0.mk H
                    clear H
                    have hcz32_0 : wr.cell? ⟨gb307, 0, none⟩ = some (.string t291) := (blk_cell BK307.out 0).trans rfl
                    have hcz32_1 : wr.cell? ⟨gb307, 1, none⟩ = some (.string t292) := (blk_cell BK307.out 1).trans rfl
                    have hcz32_2 : wr.cell? ⟨gb307, 2, none⟩ = some (.string t293) := (blk_cell BK307.out 2).trans rfl
                    have hcz32_3 : wr.cell? ⟨gb307, 3, none⟩ = some (.string t294) := (blk_cell BK307.out 3).trans rfl
                    have hcz32_4 : wr.cell? ⟨gb307, 4, none⟩ = some (.bool t295) := (blk_cell BK307.out 4).trans rfl
                    have hcz32_5 : wr.cell? ⟨gb307, 5, none⟩ = some (.int .i64 t296) := (blk_cell BK307.out 5).trans rfl
                    have hcz32_6 : wr.cell? ⟨gb307, 6, none⟩ = some (.bool t297) := (blk_cell BK307.out 6).trans rfl
                    have hcz32_7 : wr.cell? ⟨gb307, 7, none⟩ = some (.string t298) := (blk_cell BK307.out 7).trans rfl
                    have hcz32_8 : wr.cell? ⟨gb307, 8, none⟩ = some (.slice Ao18 t299.length co18) := (blk_cell BK307.out 8).trans rfl
                    have hcz32_9 : wr.cell? ⟨gb307, 9, none⟩ = some (.bool t302) := (blk_cell BK307.out 9).trans rfl
                    have hcz32_10 : wr.cell? ⟨gb307, 10, none⟩ = some (.bool t303) := (blk_cell BK307.out 10).trans rfl
                    have hcz32_11 : wr.cell? ⟨gb307, 11, none⟩ = some (.string t304) := (blk_cell BK307.out 11).trans rfl
                    have hcz32_12 : wr.cell? ⟨gb307, 12, none⟩ = some (.string t305) := (blk_cell BK307.out 12).trans rfl
                    have hfz32_0 := blk_frozen BK307.out 0
                    have hfz32_1 := blk_frozen BK307.out 1
                    have hfz32_2 := blk_frozen BK307.out 2
                    have hfz32_3 := blk_frozen BK307.out 3
                    have hfz32_4 := blk_frozen BK307.out 4
                    have hfz32_5 := blk_frozen BK307.out 5
                    have hfz32_6 := blk_frozen BK307.out 6
                    have hfz32_7 := blk_frozen BK307.out 7
                    have hfz32_8 := blk_frozen BK307.out 8
                    have hfz32_9 := blk_frozen BK307.out 9
                    have hfz32_10 := blk_frozen BK307.out 10
                    have hfz32_11 := blk_frozen BK307.out 11
                    have hfz32_12 := blk_frozen BK307.out 12
                    go_wp2
                    go_meet
                    case rel => exact ⟨_, (true), (by first | rfl | (simp; done) | (simp [*]; done) | (simp [Go.Proofs.YtbbdfamfmkcfhaaGreatDoor.G.isEmpty_ne]; done)), H', ⟨by have := HJ1.out; have := HK2.out; first | omega | exact Nat.le_refl _⟩, ⟨by (with_reducible repeat (first | apply Kd.R_alloc | apply Kd.R_drewN | apply Kd.R_drew)); exact HO_308008.out⟩, ⟨by (with_reducible repeat (first | refine blk_drewN ?_ _ | refine blk_drew ?_ | refine blk_alloc ?_ _)); exact BK307.out⟩, ⟨by repeat (first | (with_reducible first | exact HB.out | apply below_alloc | apply pw_below_drewN | apply below_drew1 | refine below_set ?_ GE307.out) | exact HB.out)⟩⟩
                · rw [if_neg c25] at H
                  have c25b0 : (t306 == 0) = false := beq_eq_false_iff_ne.mpr c25
                  have c25b1 : (t306 != 0) = true := bne_iff_ne.mpr c25
                  (first | rw [c25b0] | (simp only [i64_w, i32_w]; rw [c25b0]) | skip)
                  have H' := Aside0.mk H
                  clear H
                  go_wp2
                  go_meet
                  case rel => exact ⟨_, (true), (by first | rfl | (simp; done) | (simp [*]; done) | (simp [Go.Proofs.YtbbdfamfmkcfhaaGreatDoor.G.isEmpty_ne]; done)), H', ⟨by have := HJ1.out; have := HK2.out; first | omega | exact Nat.le_refl _⟩, ⟨by (with_reducible repeat (first | apply Kd.R_alloc | apply Kd.R_drewN | apply Kd.R_drew)); exact HO_308008.out⟩, ⟨by (with_reducible repeat (first | refine blk_drewN ?_ _ | refine blk_drew ?_ | refine blk_alloc ?_ _)); exact BK307.out⟩, ⟨by repeat (first | (with_reducible first | exact HB.out | apply below_alloc | apply pw_below_drewN | apply below_drew1 | refine below_set ?_ GE307.out) | exact HB.out)⟩⟩
              case rest =>
                clear HC24
                try clear c1
                try clear c2
                try clear p2
                try clear q2
                try clear hx2
                try clear c4
                try clear c5
                try clear c5b0
                try clear c5b1
                try clear c6
                try clear p6
                try clear c7
                try clear c11
                try clear c19
                try clear c19b0
                try clear c20
                try clear c20b0
                try clear c21
                try clear c21b0
                try clear p22
                try clear q22
                try clear hx22
                try clear c23
                try clear c23b0
                try clear c23b1
                try clear c25
                try clear c25b0
                try clear c25b1
                try clear c26
                try clear c26b0
                try clear c26b1
                try clear c27
                try clear c27b0
                try clear c27b1
                try clear c28
                try clear hcz17_0
                try clear hcz17_1
                try clear hcz17_10
                try clear hcz17_11
                try clear hcz17_12
                try clear hcz17_2
                try clear hcz17_3
                try clear hcz17_4
                try clear hcz17_5
                try clear hcz17_6
                try clear hcz17_7
                try clear hcz17_8
                try clear hcz17_9
                try clear hcz29_0
                try clear hcz29_1
                try clear hcz29_10
                try clear hcz29_11
                try clear hcz29_12
                try clear hcz29_2
                try clear hcz29_3
                try clear hcz29_4
                try clear hcz29_5
                try clear hcz29_6
                try clear hcz29_7
                try clear hcz29_8
                try clear hcz29_9
                try clear hcz30_0
                try clear hcz30_1
                try clear hcz30_10
                try clear hcz30_11
                try clear hcz30_12
                try clear hcz30_2
                try clear hcz30_3
                try clear hcz30_4
                try clear hcz30_5
                try clear hcz30_6
                try clear hcz30_7
                try clear hcz30_8
                try clear hcz30_9
                try clear hcz31_0
                try clear hcz31_1
                try clear hcz31_10
                try clear hcz31_11
                try clear hcz31_12
                try clear hcz31_2
                try clear hcz31_3
                try clear hcz31_4
                try clear hcz31_5
                try clear hcz31_6
                try clear hcz31_7
                try clear hcz31_8
                try clear hcz31_9
                try clear hcz32_0
                try clear hcz32_1
                try clear hcz32_10
                try clear hcz32_11
                try clear hcz32_12
                try clear hcz32_2
                try clear hcz32_3
                try clear hcz32_4
                try clear hcz32_5
                try clear hcz32_6
                try clear hcz32_7
                try clear hcz32_8
                try clear hcz32_9
                try clear hfz17_0
                try clear hfz17_1
                try clear hfz17_10
                try clear hfz17_11
                try clear hfz17_12
                try clear hfz17_2
                try clear hfz17_3
                try clear hfz17_4
                try clear hfz17_5
                try clear hfz17_6
                try clear hfz17_7
                try clear hfz17_8
                try clear hfz17_9
                try clear hfz29_0
                try clear hfz29_1
                try clear hfz29_10
                try clear hfz29_11
                try clear hfz29_12
                try clear hfz29_2
                try clear hfz29_3
                try clear hfz29_4
                try clear hfz29_5
                try clear hfz29_6
                try clear hfz29_7
                try clear hfz29_8
                try clear hfz29_9
                try clear hfz30_0
                try clear hfz30_1
                try clear hfz30_10
                try clear hfz30_11
                try clear hfz30_12
                try clear hfz30_2
                try clear hfz30_3
                try clear hfz30_4
                try clear hfz30_5
                try clear hfz30_6
                try clear hfz30_7
                try clear hfz30_8
                try clear hfz30_9
                try clear hfz31_0
                try clear hfz31_1
                try clear hfz31_10
                try clear hfz31_11
                try clear hfz31_12
                try clear hfz31_2
                try clear hfz31_3
                try clear hfz31_4
                try clear hfz31_5
                try clear hfz31_6
                try clear hfz31_7
                try clear hfz31_8
                try clear hfz31_9
                try clear hfz32_0
                try clear hfz32_1
                try clear hfz32_10
                try clear hfz32_11
                try clear hfz32_12
                try clear hfz32_2
                try clear hfz32_3
                try clear hfz32_4
                try clear hfz32_5
                try clear hfz32_6
                try clear hfz32_7
                try clear hfz32_8
                try clear hfz32_9
                try clear p2
                try clear p22
                try clear q22
                obtain ⟨kq, x62_23, rfl, HA, HJ23, HO_308008, BK307, HB⟩ := hcut
                cases kq with
                | zero => exact absurd HA.out (by simp [carryalllaw15_PosixParts.j2])
                | succ kj23 =>
                  have H := HA.out
                  clear HA
                  simp only [carryalllaw15_PosixParts.j2] at H
                  by_cases c33 : x62_23 = true
                  · subst c33
                    have H1 : (some false) = some r := by rw [if_pos rfl] at H; exact H
                    clear H
                    have H := H1
                    clear H1
                    obtain rfl := Option.some.inj H
                    go_wp2
                    go_ret
                    exact ⟨by first | rfl | (simp [errW_none, errW_some] <;> rfl) | (simp [*, errW_none, errW_some] <;> rfl) | (simp [errW_none, errW_some, Go.Proofs.YtbbdfamfmkcfhaaGreatDoor.G.isEmpty_ne]; done), by repeat (first | (with_reducible first | exact HB.out | apply below_alloc | apply pw_below_drewN | apply below_drew1 | refine below_set ?_ GE307.out) | exact HB.out)⟩
                  · replace c33 := Bool.eq_false_iff.mpr c33
                    subst c33
                    have H1 : (carryalllaw15_PosixParts.l1 kj23 (t299.length : Int) 0 t291 t292 t293 t294 t295 t296 t297 t298 t299 t302 t303 t304 t305) = some r := by rw [if_neg (show ¬ (false = true) by decide)] at H; exact H
                    clear H
                    have H := H1
                    clear H1
                    have H' := Aside0.mk H
                    clear H
                    have hcz34_0 : wc.cell? ⟨gb307, 0, none⟩ = some (.string t291) := (blk_cell BK307.out 0).trans rfl
                    have hcz34_1 : wc.cell? ⟨gb307, 1, none⟩ = some (.string t292) := (blk_cell BK307.out 1).trans rfl
                    have hcz34_2 : wc.cell? ⟨gb307, 2, none⟩ = some (.string t293) := (blk_cell BK307.out 2).trans rfl
                    have hcz34_3 : wc.cell? ⟨gb307, 3, none⟩ = some (.string t294) := (blk_cell BK307.out 3).trans rfl
                    have hcz34_4 : wc.cell? ⟨gb307, 4, none⟩ = some (.bool t295) := (blk_cell BK307.out 4).trans rfl
                    have hcz34_5 : wc.cell? ⟨gb307, 5, none⟩ = some (.int .i64 t296) := (blk_cell BK307.out 5).trans rfl
                    have hcz34_6 : wc.cell? ⟨gb307, 6, none⟩ = some (.bool t297) := (blk_cell BK307.out 6).trans rfl
                    have hcz34_7 : wc.cell? ⟨gb307, 7, none⟩ = some (.string t298) := (blk_cell BK307.out 7).trans rfl
                    have hcz34_8 : wc.cell? ⟨gb307, 8, none⟩ = some (.slice Ao18 t299.length co18) := (blk_cell BK307.out 8).trans rfl
                    have hcz34_9 : wc.cell? ⟨gb307, 9, none⟩ = some (.bool t302) := (blk_cell BK307.out 9).trans rfl
                    have hcz34_10 : wc.cell? ⟨gb307, 10, none⟩ = some (.bool t303) := (blk_cell BK307.out 10).trans rfl
                    have hcz34_11 : wc.cell? ⟨gb307, 11, none⟩ = some (.string t304) := (blk_cell BK307.out 11).trans rfl
                    have hcz34_12 : wc.cell? ⟨gb307, 12, none⟩ = some (.string t305) := (blk_cell BK307.out 12).trans rfl
                    have hfz34_0 := blk_frozen BK307.out 0
                    have hfz34_1 := blk_frozen BK307.out 1
                    have hfz34_2 := blk_frozen BK307.out 2
                    have hfz34_3 := blk_frozen BK307.out 3
                    have hfz34_4 := blk_frozen BK307.out 4
                    have hfz34_5 := blk_frozen BK307.out 5
                    have hfz34_6 := blk_frozen BK307.out 6
                    have hfz34_7 := blk_frozen BK307.out 7
                    have hfz34_8 := blk_frozen BK307.out 8
                    have hfz34_9 := blk_frozen BK307.out 9
                    have hfz34_10 := blk_frozen BK307.out 10
                    have hfz34_11 := blk_frozen BK307.out 11
                    have hfz34_12 := blk_frozen BK307.out 12
                    go_wp2
                    go_loopg [66] kj23 (fun kq v66 w' => ∃ (x66_4 : Int), v66 = .int .i64 x66_4 ∧ Aside0 (carryalllaw15_PosixParts.l1 kq (t299.length : Int) x66_4 t291 t292 t293 t294 t295 t296 t297 t298 t299 t302 t303 t304 t305 = some r) ∧ Aside0 (kq ≤ kj23) ∧ Aside0 (Kd.R Kd.string 9 w' w.heap.size (fun _ => True) (.slice Ao18 t299.length co18) t299) ∧ Aside0 (w'.heap[gb307]? = some (.cells #[.string t291, .string t292, .string t293, .string t294, .bool t295, .int .i64 t296, .bool t297, .string t298, (.slice Ao18 t299.length co18), .bool t302, .bool t303, .string t304, .string t305] 25 (0, 0))) ∧ Aside0 (Below w.heap.size w w'))
                    case atStart => exact ⟨(0), (by first | rfl | (simp; done) | (simp [*]; done) | (simp [Go.Proofs.YtbbdfamfmkcfhaaGreatDoor.G.isEmpty_ne]; done)), H', ⟨Nat.le_refl _⟩, ⟨by (with_reducible repeat (first | apply Kd.R_alloc | apply Kd.R_drewN | apply Kd.R_drew)); exact HO_308008.out⟩, ⟨by (with_reducible repeat (first | refine blk_drewN ?_ _ | refine blk_drew ?_ | refine blk_alloc ?_ _)); exact BK307.out⟩, ⟨by repeat (first | (with_reducible first | exact HB.out | apply below_alloc | apply pw_below_drewN | apply below_drew1 | refine below_set ?_ GE307.out) | exact HB.out)⟩⟩
                    case round =>
                      clear H'
                      try clear c1
                      try clear c2
                      try clear p2
                      try clear q2
                      try clear hx2
                      try clear c3
                      try clear c4
                      try clear c5
                      try clear c5b0
                      try clear c5b1
                      try clear c6
                      try clear p6
                      try clear c7
                      try clear c11
                      try clear c19
                      try clear c19b0
                      try clear c20
                      try clear c20b0
                      try clear c21
                      try clear c21b0
                      try clear p22
                      try clear q22
                      try clear hx22
                      try clear c23
                      try clear c23b0
                      try clear c23b1
                      try clear c25
                      try clear c25b0
                      try clear c25b1
                      try clear c26
                      try clear c26b0
                      try clear c26b1
                      try clear c27
                      try clear c27b0
                      try clear c27b1
                      try clear c28
                      try clear c33
                      try clear hcz17_0
                      try clear hcz17_1
                      try clear hcz17_10
                      try clear hcz17_11
                      try clear hcz17_12
                      try clear hcz17_2
                      try clear hcz17_3
                      try clear hcz17_4
                      try clear hcz17_5
                      try clear hcz17_6
                      try clear hcz17_7
                      try clear hcz17_8
                      try clear hcz17_9
                      try clear hcz29_0
                      try clear hcz29_1
                      try clear hcz29_10
                      try clear hcz29_11
                      try clear hcz29_12
                      try clear hcz29_2
                      try clear hcz29_3
                      try clear hcz29_4
                      try clear hcz29_5
                      try clear hcz29_6
                      try clear hcz29_7
                      try clear hcz29_8
                      try clear hcz29_9
                      try clear hcz30_0
                      try clear hcz30_1
                      try clear hcz30_10
                      try clear hcz30_11
                      try clear hcz30_12
                      try clear hcz30_2
                      try clear hcz30_3
                      try clear hcz30_4
                      try clear hcz30_5
                      try clear hcz30_6
                      try clear hcz30_7
                      try clear hcz30_8
                      try clear hcz30_9
                      try clear hcz31_0
                      try clear hcz31_1
                      try clear hcz31_10
                      try clear hcz31_11
                      try clear hcz31_12
                      try clear hcz31_2
                      try clear hcz31_3
                      try clear hcz31_4
                      try clear hcz31_5
                      try clear hcz31_6
                      try clear hcz31_7
                      try clear hcz31_8
                      try clear hcz31_9
                      try clear hcz32_0
                      try clear hcz32_1
                      try clear hcz32_10
                      try clear hcz32_11
                      try clear hcz32_12
                      try clear hcz32_2
                      try clear hcz32_3
                      try clear hcz32_4
                      try clear hcz32_5
                      try clear hcz32_6
                      try clear hcz32_7
                      try clear hcz32_8
                      try clear hcz32_9
                      try clear hcz34_0
                      try clear hcz34_1
                      try clear hcz34_10
                      try clear hcz34_11
                      try clear hcz34_12
                      try clear hcz34_2
                      try clear hcz34_3
                      try clear hcz34_4
                      try clear hcz34_5
                      try clear hcz34_6
                      try clear hcz34_7
                      try clear hcz34_8
                      try clear hcz34_9
                      try clear hfz17_0
                      try clear hfz17_1
                      try clear hfz17_10
                      try clear hfz17_11
                      try clear hfz17_12
                      try clear hfz17_2
                      try clear hfz17_3
                      try clear hfz17_4
                      try clear hfz17_5
                      try clear hfz17_6
                      try clear hfz17_7
                      try clear hfz17_8
                      try clear hfz17_9
                      try clear hfz29_0
                      try clear hfz29_1
                      try clear hfz29_10
                      try clear hfz29_11
                      try clear hfz29_12
                      try clear hfz29_2
                      try clear hfz29_3
                      try clear hfz29_4
                      try clear hfz29_5
                      try clear hfz29_6
                      try clear hfz29_7
                      try clear hfz29_8
                      try clear hfz29_9
                      try clear hfz30_0
                      try clear hfz30_1
                      try clear hfz30_10
                      try clear hfz30_11
                      try clear hfz30_12
                      try clear hfz30_2
                      try clear hfz30_3
                      try clear hfz30_4
                      try clear hfz30_5
                      try clear hfz30_6
                      try clear hfz30_7
                      try clear hfz30_8
                      try clear hfz30_9
                      try clear hfz31_0
                      try clear hfz31_1
                      try clear hfz31_10
                      try clear hfz31_11
                      try clear hfz31_12
                      try clear hfz31_2
                      try clear hfz31_3
                      try clear hfz31_4
                      try clear hfz31_5
                      try clear hfz31_6
                      try clear hfz31_7
                      try clear hfz31_8
                      try clear hfz31_9
                      try clear hfz32_0
                      try clear hfz32_1
                      try clear hfz32_10
                      try clear hfz32_11
                      try clear hfz32_12
                      try clear hfz32_2
                      try clear hfz32_3
                      try clear hfz32_4
                      try clear hfz32_5
                      try clear hfz32_6
                      try clear hfz32_7
                      try clear hfz32_8
                      try clear hfz32_9
                      try clear hfz34_0
                      try clear hfz34_1
                      try clear hfz34_10
                      try clear hfz34_11
                      try clear hfz34_12
                      try clear hfz34_2
                      try clear hfz34_3
                      try clear hfz34_4
                      try clear hfz34_5
                      try clear hfz34_6
                      try clear hfz34_7
                      try clear hfz34_8
                      try clear hfz34_9
                      try clear p2
                      try clear p22
                      try clear p6
                      try clear q2
                      try clear q22
                      obtain ⟨x66_4, rfl, HA, HK4, HO_308008, BK307, HB⟩ := hrel
                      cases gk with
                      | zero => exact absurd HA.out (by simp [carryalllaw15_PosixParts.l1])
                      | succ k4 =>
                        have H := HA.out
                        clear HA
                        simp only [carryalllaw15_PosixParts.l1] at H
                        by_cases c35 : x66_4 < (t299.length : Int)
                        · rw [if_pos c35] at H
                          have c35b0 : decide (x66_4 < (t299.length : Int)) = true := decide_eq_true c35
                          clear c35
                          by_cases c36 : 0 ≤ x66_4
                          · rw [if_pos c36] at H
                            have c36b0 : decide (0 ≤ x66_4) = true := decide_eq_true c36
                            clear c36
                            by_cases c37 : x66_4 < (t299.length : Int)
                            · rw [if_pos c37] at H
                              have c37b0 : decide (x66_4 < (t299.length : Int)) = true := decide_eq_true c37
                              clear c37
                              replace H := Option.bind_eq_some_iff.mp H
                              obtain ⟨t309, A380, H⟩ := H
                              replace H : (if t309 = true then (some false) else ((carryallref01_Has.f k4 (rdOf ByteArray.empty t299 x66_4) 92).bind fun t310 => (if t310 = true then (some false) else ((carryallref01_Has.f k4 (rdOf ByteArray.empty t299 x66_4) 124).bind fun t311 => (if t311 = true then (some false) else ((carryallref01_Has.f k4 (rdOf ByteArray.empty t299 x66_4) 63).bind fun t312 => (if t312 = true then (some false) else ((carryallref01_Has.f k4 (rdOf ByteArray.empty t299 x66_4) 35).bind fun t313 => (if t313 = true then (some false) else (if (rdOf ByteArray.empty t299 x66_4).toList = ([46] : List UInt8) then (some false) else (if (rdOf ByteArray.empty t299 x66_4).toList = ([46, 46] : List UInt8) then (some false) else (carryalllaw15_PosixParts.l1 k4 (t299.length : Int) (wrap64 (x66_4 + 1)) t291 t292 t293 t294 t295 t296 t297 t298 t299 t302 t303 t304 t305)))))))))))) = some r := H
                              have A38 := Aside0.mk A380
                              clear A380
                              by_cases c39 : t309 = true
                              · subst c39
                                have H1 : (some false) = some r := by rw [if_pos rfl] at H; exact H
                                clear H
                                have H := H1
                                clear H1
                                obtain rfl := Option.some.inj H
                                have hcz40_0 : wr.cell? ⟨gb307, 0, none⟩ = some (.string t291) := (blk_cell BK307.out 0).trans rfl
                                have hcz40_1 : wr.cell? ⟨gb307, 1, none⟩ = some (.string t292) := (blk_cell BK307.out 1).trans rfl
                                have hcz40_2 : wr.cell? ⟨gb307, 2, none⟩ = some (.string t293) := (blk_cell BK307.out 2).trans rfl
                                have hcz40_3 : wr.cell? ⟨gb307, 3, none⟩ = some (.string t294) := (blk_cell BK307.out 3).trans rfl
                                have hcz40_4 : wr.cell? ⟨gb307, 4, none⟩ = some (.bool t295) := (blk_cell BK307.out 4).trans rfl
                                have hcz40_5 : wr.cell? ⟨gb307, 5, none⟩ = some (.int .i64 t296) := (blk_cell BK307.out 5).trans rfl
                                have hcz40_6 : wr.cell? ⟨gb307, 6, none⟩ = some (.bool t297) := (blk_cell BK307.out 6).trans rfl
                                have hcz40_7 : wr.cell? ⟨gb307, 7, none⟩ = some (.string t298) := (blk_cell BK307.out 7).trans rfl
                                have hcz40_8 : wr.cell? ⟨gb307, 8, none⟩ = some (.slice Ao18 t299.length co18) := (blk_cell BK307.out 8).trans rfl
                                have hcz40_9 : wr.cell? ⟨gb307, 9, none⟩ = some (.bool t302) := (blk_cell BK307.out 9).trans rfl
                                have hcz40_10 : wr.cell? ⟨gb307, 10, none⟩ = some (.bool t303) := (blk_cell BK307.out 10).trans rfl
                                have hcz40_11 : wr.cell? ⟨gb307, 11, none⟩ = some (.string t304) := (blk_cell BK307.out 11).trans rfl
                                have hcz40_12 : wr.cell? ⟨gb307, 12, none⟩ = some (.string t305) := (blk_cell BK307.out 12).trans rfl
                                have hfz40_0 := blk_frozen BK307.out 0
                                have hfz40_1 := blk_frozen BK307.out 1
                                have hfz40_2 := blk_frozen BK307.out 2
                                have hfz40_3 := blk_frozen BK307.out 3
                                have hfz40_4 := blk_frozen BK307.out 4
                                have hfz40_5 := blk_frozen BK307.out 5
                                have hfz40_6 := blk_frozen BK307.out 6
                                have hfz40_7 := blk_frozen BK307.out 7
                                have hfz40_8 := blk_frozen BK307.out 8
                                have hfz40_9 := blk_frozen BK307.out 9
                                have hfz40_10 := blk_frozen BK307.out 10
                                have hfz40_11 := blk_frozen BK307.out 11
                                have hfz40_12 := blk_frozen BK307.out 12
                                have p308 : 0 ≤ (x66_4 : Int) := of_decide_eq_true (by first | (with_reducible assumption) | assumption)
                                have q308 : x66_4 < (t299.length : Int) := of_decide_eq_true (by first | (with_reducible assumption) | assumption)
                                obtain ⟨ad308, e308, hx308_0⟩ := Kd.at_string (Kd.R_reads' HO_308008.out).2.2 x66_4 p308 q308
                                cases e308
                                replace p308 := eq_true p308
                                replace q308 := eq_true q308
                                go_wp2_with (first | ((with_reducible refine gate_callee (f := 14) rfl ?_); refine goesL_ (some 75) rfl rfl Tryz.func14 (by kernel_rfl) rfl #[.string (rdOf ByteArray.empty t299 x66_4), .int .u8 47] rfl (by (try simp only [List.map_toArray, List.map_cons, List.map_nil]); first | done | rfl | (simp only [List.length_drop, List.length_take]; rfl)) ?_; (with_reducible refine (carryallref01_Has.calls k4 (rdOf ByteArray.empty t299 x66_4) 47 true _ A38.out).mono ?_); rintro e w' ⟨rfl, ⟨nd, rfl⟩⟩; refine ⟨_, rfl, ?_⟩))
                                go_ret
                                exact ⟨by first | rfl | (simp [errW_none, errW_some] <;> rfl) | (simp [*, errW_none, errW_some] <;> rfl) | (simp [errW_none, errW_some, Go.Proofs.YtbbdfamfmkcfhaaGreatDoor.G.isEmpty_ne]; done), by repeat (first | (with_reducible first | exact HB.out | apply below_alloc | apply pw_below_drewN | apply below_drew1 | refine below_set ?_ GE307.out) | exact HB.out)⟩
                              · replace c39 := Bool.eq_false_iff.mpr c39
                                subst c39
                                have H1 : ((carryallref01_Has.f k4 (rdOf ByteArray.empty t299 x66_4) 92).bind fun t310 => (if t310 = true then (some false) else ((carryallref01_Has.f k4 (rdOf ByteArray.empty t299 x66_4) 124).bind fun t311 => (if t311 = true then (some false) else ((carryallref01_Has.f k4 (rdOf ByteArray.empty t299 x66_4) 63).bind fun t312 => (if t312 = true then (some false) else ((carryallref01_Has.f k4 (rdOf ByteArray.empty t299 x66_4) 35).bind fun t313 => (if t313 = true then (some false) else (if (rdOf ByteArray.empty t299 x66_4).toList = ([46] : List UInt8) then (some false) else (if (rdOf ByteArray.empty t299 x66_4).toList = ([46, 46] : List UInt8) then (some false) else (carryalllaw15_PosixParts.l1 k4 (t299.length : Int) (wrap64 (x66_4 + 1)) t291 t292 t293 t294 t295 t296 t297 t298 t299 t302 t303 t304 t305))))))))))) = some r := by rw [if_neg (show ¬ (false = true) by decide)] at H; exact H
                                clear H
                                have H := H1
                                clear H1
                                replace H := Option.bind_eq_some_iff.mp H
                                obtain ⟨t310, A410, H⟩ := H
                                replace H : (if t310 = true then (some false) else ((carryallref01_Has.f k4 (rdOf ByteArray.empty t299 x66_4) 124).bind fun t311 => (if t311 = true then (some false) else ((carryallref01_Has.f k4 (rdOf ByteArray.empty t299 x66_4) 63).bind fun t312 => (if t312 = true then (some false) else ((carryallref01_Has.f k4 (rdOf ByteArray.empty t299 x66_4) 35).bind fun t313 => (if t313 = true then (some false) else (if (rdOf ByteArray.empty t299 x66_4).toList = ([46] : List UInt8) then (some false) else (if (rdOf ByteArray.empty t299 x66_4).toList = ([46, 46] : List UInt8) then (some false) else (carryalllaw15_PosixParts.l1 k4 (t299.length : Int) (wrap64 (x66_4 + 1)) t291 t292 t293 t294 t295 t296 t297 t298 t299 t302 t303 t304 t305)))))))))) = some r := H
                                have A41 := Aside0.mk A410
                                clear A410
                                by_cases c42 : t310 = true
                                · subst c42
                                  have H1 : (some false) = some r := by rw [if_pos rfl] at H; exact H
                                  clear H
                                  have H := H1
                                  clear H1
                                  obtain rfl := Option.some.inj H
                                  have hcz43_0 : wr.cell? ⟨gb307, 0, none⟩ = some (.string t291) := (blk_cell BK307.out 0).trans rfl
                                  have hcz43_1 : wr.cell? ⟨gb307, 1, none⟩ = some (.string t292) := (blk_cell BK307.out 1).trans rfl
                                  have hcz43_2 : wr.cell? ⟨gb307, 2, none⟩ = some (.string t293) := (blk_cell BK307.out 2).trans rfl
                                  have hcz43_3 : wr.cell? ⟨gb307, 3, none⟩ = some (.string t294) := (blk_cell BK307.out 3).trans rfl
                                  have hcz43_4 : wr.cell? ⟨gb307, 4, none⟩ = some (.bool t295) := (blk_cell BK307.out 4).trans rfl
                                  have hcz43_5 : wr.cell? ⟨gb307, 5, none⟩ = some (.int .i64 t296) := (blk_cell BK307.out 5).trans rfl
                                  have hcz43_6 : wr.cell? ⟨gb307, 6, none⟩ = some (.bool t297) := (blk_cell BK307.out 6).trans rfl
                                  have hcz43_7 : wr.cell? ⟨gb307, 7, none⟩ = some (.string t298) := (blk_cell BK307.out 7).trans rfl
                                  have hcz43_8 : wr.cell? ⟨gb307, 8, none⟩ = some (.slice Ao18 t299.length co18) := (blk_cell BK307.out 8).trans rfl
                                  have hcz43_9 : wr.cell? ⟨gb307, 9, none⟩ = some (.bool t302) := (blk_cell BK307.out 9).trans rfl
                                  have hcz43_10 : wr.cell? ⟨gb307, 10, none⟩ = some (.bool t303) := (blk_cell BK307.out 10).trans rfl
                                  have hcz43_11 : wr.cell? ⟨gb307, 11, none⟩ = some (.string t304) := (blk_cell BK307.out 11).trans rfl
                                  have hcz43_12 : wr.cell? ⟨gb307, 12, none⟩ = some (.string t305) := (blk_cell BK307.out 12).trans rfl
                                  have hfz43_0 := blk_frozen BK307.out 0
                                  have hfz43_1 := blk_frozen BK307.out 1
                                  have hfz43_2 := blk_frozen BK307.out 2
                                  have hfz43_3 := blk_frozen BK307.out 3
                                  have hfz43_4 := blk_frozen BK307.out 4
                                  have hfz43_5 := blk_frozen BK307.out 5
                                  have hfz43_6 := blk_frozen BK307.out 6
                                  have hfz43_7 := blk_frozen BK307.out 7
                                  have hfz43_8 := blk_frozen BK307.out 8
                                  have hfz43_9 := blk_frozen BK307.out 9
                                  have hfz43_10 := blk_frozen BK307.out 10
                                  have hfz43_11 := blk_frozen BK307.out 11
                                  have hfz43_12 := blk_frozen BK307.out 12
                                  have p308 : 0 ≤ (x66_4 : Int) := of_decide_eq_true (by first | (with_reducible assumption) | assumption)
                                  have q308 : x66_4 < (t299.length : Int) := of_decide_eq_true (by first | (with_reducible assumption) | assumption)
                                  obtain ⟨ad308, e308, hx308_0⟩ := Kd.at_string (Kd.R_reads' HO_308008.out).2.2 x66_4 p308 q308
                                  cases e308
                                  replace p308 := eq_true p308
                                  replace q308 := eq_true q308
                                  go_wp2_with (first | ((with_reducible refine gate_callee (f := 14) rfl ?_); refine goesL_ (some 75) rfl rfl Tryz.func14 (by kernel_rfl) rfl #[.string (rdOf ByteArray.empty t299 x66_4), .int .u8 47] rfl (by (try simp only [List.map_toArray, List.map_cons, List.map_nil]); first | done | rfl | (simp only [List.length_drop, List.length_take]; rfl)) ?_; (with_reducible refine (carryallref01_Has.calls k4 (rdOf ByteArray.empty t299 x66_4) 47 false _ A38.out).mono ?_); rintro e w' ⟨rfl, ⟨nd, rfl⟩⟩; refine ⟨_, rfl, ?_⟩) | (go_at_call 14; (with_reducible refine (carryallref01_Has.calls k4 (rdOf ByteArray.empty t299 x66_4) 92 true _ A41.out).mono ?_); rintro e w' ⟨rfl, ⟨nd, rfl⟩⟩))
                                  go_ret
                                  exact ⟨by first | rfl | (simp [errW_none, errW_some] <;> rfl) | (simp [*, errW_none, errW_some] <;> rfl) | (simp [errW_none, errW_some, Go.Proofs.YtbbdfamfmkcfhaaGreatDoor.G.isEmpty_ne]; done), by repeat (first | (with_reducible first | exact HB.out | apply below_alloc | apply pw_below_drewN | apply below_drew1 | refine below_set ?_ GE307.out) | exact HB.out)⟩
                                · replace c42 := Bool.eq_false_iff.mpr c42
                                  subst c42
                                  have H1 : ((carryallref01_Has.f k4 (rdOf ByteArray.empty t299 x66_4) 124).bind fun t311 => (if t311 = true then (some false) else ((carryallref01_Has.f k4 (rdOf ByteArray.empty t299 x66_4) 63).bind fun t312 => (if t312 = true then (some false) else ((carryallref01_Has.f k4 (rdOf ByteArray.empty t299 x66_4) 35).bind fun t313 => (if t313 = true then (some false) else (if (rdOf ByteArray.empty t299 x66_4).toList = ([46] : List UInt8) then (some false) else (if (rdOf ByteArray.empty t299 x66_4).toList = ([46, 46] : List UInt8) then (some false) else (carryalllaw15_PosixParts.l1 k4 (t299.length : Int) (wrap64 (x66_4 + 1)) t291 t292 t293 t294 t295 t296 t297 t298 t299 t302 t303 t304 t305))))))))) = some r := by rw [if_neg (show ¬ (false = true) by decide)] at H; exact H
                                  clear H
                                  have H := H1
                                  clear H1
                                  replace H := Option.bind_eq_some_iff.mp H
                                  obtain ⟨t311, A440, H⟩ := H
                                  replace H : (if t311 = true then (some false) else ((carryallref01_Has.f k4 (rdOf ByteArray.empty t299 x66_4) 63).bind fun t312 => (if t312 = true then (some false) else ((carryallref01_Has.f k4 (rdOf ByteArray.empty t299 x66_4) 35).bind fun t313 => (if t313 = true then (some false) else (if (rdOf ByteArray.empty t299 x66_4).toList = ([46] : List UInt8) then (some false) else (if (rdOf ByteArray.empty t299 x66_4).toList = ([46, 46] : List UInt8) then (some false) else (carryalllaw15_PosixParts.l1 k4 (t299.length : Int) (wrap64 (x66_4 + 1)) t291 t292 t293 t294 t295 t296 t297 t298 t299 t302 t303 t304 t305)))))))) = some r := H
                                  have A44 := Aside0.mk A440
                                  clear A440
                                  by_cases c45 : t311 = true
                                  · subst c45
                                    have H1 : (some false) = some r := by rw [if_pos rfl] at H; exact H
                                    clear H
                                    have H := H1
                                    clear H1
                                    obtain rfl := Option.some.inj H
                                    have hcz46_0 : wr.cell? ⟨gb307, 0, none⟩ = some (.string t291) := (blk_cell BK307.out 0).trans rfl
                                    have hcz46_1 : wr.cell? ⟨gb307, 1, none⟩ = some (.string t292) := (blk_cell BK307.out 1).trans rfl
                                    have hcz46_2 : wr.cell? ⟨gb307, 2, none⟩ = some (.string t293) := (blk_cell BK307.out 2).trans rfl
                                    have hcz46_3 : wr.cell? ⟨gb307, 3, none⟩ = some (.string t294) := (blk_cell BK307.out 3).trans rfl
                                    have hcz46_4 : wr.cell? ⟨gb307, 4, none⟩ = some (.bool t295) := (blk_cell BK307.out 4).trans rfl
                                    have hcz46_5 : wr.cell? ⟨gb307, 5, none⟩ = some (.int .i64 t296) := (blk_cell BK307.out 5).trans rfl
                                    have hcz46_6 : wr.cell? ⟨gb307, 6, none⟩ = some (.bool t297) := (blk_cell BK307.out 6).trans rfl
                                    have hcz46_7 : wr.cell? ⟨gb307, 7, none⟩ = some (.string t298) := (blk_cell BK307.out 7).trans rfl
                                    have hcz46_8 : wr.cell? ⟨gb307, 8, none⟩ = some (.slice Ao18 t299.length co18) := (blk_cell BK307.out 8).trans rfl
                                    have hcz46_9 : wr.cell? ⟨gb307, 9, none⟩ = some (.bool t302) := (blk_cell BK307.out 9).trans rfl
                                    have hcz46_10 : wr.cell? ⟨gb307, 10, none⟩ = some (.bool t303) := (blk_cell BK307.out 10).trans rfl
                                    have hcz46_11 : wr.cell? ⟨gb307, 11, none⟩ = some (.string t304) := (blk_cell BK307.out 11).trans rfl
                                    have hcz46_12 : wr.cell? ⟨gb307, 12, none⟩ = some (.string t305) := (blk_cell BK307.out 12).trans rfl
                                    have hfz46_0 := blk_frozen BK307.out 0
                                    have hfz46_1 := blk_frozen BK307.out 1
                                    have hfz46_2 := blk_frozen BK307.out 2
                                    have hfz46_3 := blk_frozen BK307.out 3
                                    have hfz46_4 := blk_frozen BK307.out 4
                                    have hfz46_5 := blk_frozen BK307.out 5
                                    have hfz46_6 := blk_frozen BK307.out 6
                                    have hfz46_7 := blk_frozen BK307.out 7
                                    have hfz46_8 := blk_frozen BK307.out 8
                                    have hfz46_9 := blk_frozen BK307.out 9
                                    have hfz46_10 := blk_frozen BK307.out 10
                                    have hfz46_11 := blk_frozen BK307.out 11
                                    have hfz46_12 := blk_frozen BK307.out 12
                                    have p308 : 0 ≤ (x66_4 : Int) := of_decide_eq_true (by first | (with_reducible assumption) | assumption)
                                    have q308 : x66_4 < (t299.length : Int) := of_decide_eq_true (by first | (with_reducible assumption) | assumption)
                                    obtain ⟨ad308, e308, hx308_0⟩ := Kd.at_string (Kd.R_reads' HO_308008.out).2.2 x66_4 p308 q308
                                    cases e308
                                    replace p308 := eq_true p308
                                    replace q308 := eq_true q308
                                    go_wp2_with (first | ((with_reducible refine gate_callee (f := 14) rfl ?_); refine goesL_ (some 75) rfl rfl Tryz.func14 (by kernel_rfl) rfl #[.string (rdOf ByteArray.empty t299 x66_4), .int .u8 47] rfl (by (try simp only [List.map_toArray, List.map_cons, List.map_nil]); first | done | rfl | (simp only [List.length_drop, List.length_take]; rfl)) ?_; (with_reducible refine (carryallref01_Has.calls k4 (rdOf ByteArray.empty t299 x66_4) 47 false _ A38.out).mono ?_); rintro e w' ⟨rfl, ⟨nd, rfl⟩⟩; refine ⟨_, rfl, ?_⟩) | (go_at_call 14; (with_reducible refine (carryallref01_Has.calls k4 (rdOf ByteArray.empty t299 x66_4) 92 false _ A41.out).mono ?_); rintro e w' ⟨rfl, ⟨nd, rfl⟩⟩) | (go_at_call 14; (with_reducible refine (carryallref01_Has.calls k4 (rdOf ByteArray.empty t299 x66_4) 124 true _ A44.out).mono ?_); rintro e w' ⟨rfl, ⟨nd, rfl⟩⟩))
                                    go_ret
                                    exact ⟨by first | rfl | (simp [errW_none, errW_some] <;> rfl) | (simp [*, errW_none, errW_some] <;> rfl) | (simp [errW_none, errW_some, Go.Proofs.YtbbdfamfmkcfhaaGreatDoor.G.isEmpty_ne]; done), by repeat (first | (with_reducible first | exact HB.out | apply below_alloc | apply pw_below_drewN | apply below_drew1 | refine below_set ?_ GE307.out) | exact HB.out)⟩
                                  · replace c45 := Bool.eq_false_iff.mpr c45
                                    subst c45
                                    have H1 : ((carryallref01_Has.f k4 (rdOf ByteArray.empty t299 x66_4) 63).bind fun t312 => (if t312 = true then (some false) else ((carryallref01_Has.f k4 (rdOf ByteArray.empty t299 x66_4) 35).bind fun t313 => (if t313 = true then (some false) else (if (rdOf ByteArray.empty t299 x66_4).toList = ([46] : List UInt8) then (some false) else (if (rdOf ByteArray.empty t299 x66_4).toList = ([46, 46] : List UInt8) then (some false) else (carryalllaw15_PosixParts.l1 k4 (t299.length : Int) (wrap64 (x66_4 + 1)) t291 t292 t293 t294 t295 t296 t297 t298 t299 t302 t303 t304 t305))))))) = some r := by rw [if_neg (show ¬ (false = true) by decide)] at H; exact H
                                    clear H
                                    have H := H1
                                    clear H1
                                    replace H := Option.bind_eq_some_iff.mp H
                                    obtain ⟨t312, A470, H⟩ := H
                                    replace H : (if t312 = true then (some false) else ((carryallref01_Has.f k4 (rdOf ByteArray.empty t299 x66_4) 35).bind fun t313 => (if t313 = true then (some false) else (if (rdOf ByteArray.empty t299 x66_4).toList = ([46] : List UInt8) then (some false) else (if (rdOf ByteArray.empty t299 x66_4).toList = ([46, 46] : List UInt8) then (some false) else (carryalllaw15_PosixParts.l1 k4 (t299.length : Int) (wrap64 (x66_4 + 1)) t291 t292 t293 t294 t295 t296 t297 t298 t299 t302 t303 t304 t305)))))) = some r := H
                                    have A47 := Aside0.mk A470
                                    clear A470
                                    by_cases c48 : t312 = true
                                    · subst c48
                                      have H1 : (some false) = some r := by rw [if_pos rfl] at H; exact H
                                      clear H
                                      have H := H1
                                      clear H1
                                      obtain rfl := Option.some.inj H
                                      have hcz49_0 : wr.cell? ⟨gb307, 0, none⟩ = some (.string t291) := (blk_cell BK307.out 0).trans rfl
                                      have hcz49_1 : wr.cell? ⟨gb307, 1, none⟩ = some (.string t292) := (blk_cell BK307.out 1).trans rfl
                                      have hcz49_2 : wr.cell? ⟨gb307, 2, none⟩ = some (.string t293) := (blk_cell BK307.out 2).trans rfl
                                      have hcz49_3 : wr.cell? ⟨gb307, 3, none⟩ = some (.string t294) := (blk_cell BK307.out 3).trans rfl
                                      have hcz49_4 : wr.cell? ⟨gb307, 4, none⟩ = some (.bool t295) := (blk_cell BK307.out 4).trans rfl
                                      have hcz49_5 : wr.cell? ⟨gb307, 5, none⟩ = some (.int .i64 t296) := (blk_cell BK307.out 5).trans rfl
                                      have hcz49_6 : wr.cell? ⟨gb307, 6, none⟩ = some (.bool t297) := (blk_cell BK307.out 6).trans rfl
                                      have hcz49_7 : wr.cell? ⟨gb307, 7, none⟩ = some (.string t298) := (blk_cell BK307.out 7).trans rfl
                                      have hcz49_8 : wr.cell? ⟨gb307, 8, none⟩ = some (.slice Ao18 t299.length co18) := (blk_cell BK307.out 8).trans rfl
                                      have hcz49_9 : wr.cell? ⟨gb307, 9, none⟩ = some (.bool t302) := (blk_cell BK307.out 9).trans rfl
                                      have hcz49_10 : wr.cell? ⟨gb307, 10, none⟩ = some (.bool t303) := (blk_cell BK307.out 10).trans rfl
                                      have hcz49_11 : wr.cell? ⟨gb307, 11, none⟩ = some (.string t304) := (blk_cell BK307.out 11).trans rfl
                                      have hcz49_12 : wr.cell? ⟨gb307, 12, none⟩ = some (.string t305) := (blk_cell BK307.out 12).trans rfl
                                      have hfz49_0 := blk_frozen BK307.out 0
                                      have hfz49_1 := blk_frozen BK307.out 1
                                      have hfz49_2 := blk_frozen BK307.out 2
                                      have hfz49_3 := blk_frozen BK307.out 3
                                      have hfz49_4 := blk_frozen BK307.out 4
                                      have hfz49_5 := blk_frozen BK307.out 5
                                      have hfz49_6 := blk_frozen BK307.out 6
                                      have hfz49_7 := blk_frozen BK307.out 7
                                      have hfz49_8 := blk_frozen BK307.out 8
                                      have hfz49_9 := blk_frozen BK307.out 9
                                      have hfz49_10 := blk_frozen BK307.out 10
                                      have hfz49_11 := blk_frozen BK307.out 11
                                      have hfz49_12 := blk_frozen BK307.out 12
                                      have p308 : 0 ≤ (x66_4 : Int) := of_decide_eq_true (by first | (with_reducible assumption) | assumption)
                                      have q308 : x66_4 < (t299.length : Int) := of_decide_eq_true (by first | (with_reducible assumption) | assumption)
                                      obtain ⟨ad308, e308, hx308_0⟩ := Kd.at_string (Kd.R_reads' HO_308008.out).2.2 x66_4 p308 q308
                                      cases e308
                                      replace p308 := eq_true p308
                                      replace q308 := eq_true q308
                                      go_wp2_with (first | ((with_reducible refine gate_callee (f := 14) rfl ?_); refine goesL_ (some 75) rfl rfl Tryz.func14 (by kernel_rfl) rfl #[.string (rdOf ByteArray.empty t299 x66_4), .int .u8 47] rfl (by (try simp only [List.map_toArray, List.map_cons, List.map_nil]); first | done | rfl | (simp only [List.length_drop, List.length_take]; rfl)) ?_; (with_reducible refine (carryallref01_Has.calls k4 (rdOf ByteArray.empty t299 x66_4) 47 false _ A38.out).mono ?_); rintro e w' ⟨rfl, ⟨nd, rfl⟩⟩; refine ⟨_, rfl, ?_⟩) | (go_at_call 14; (with_reducible refine (carryallref01_Has.calls k4 (rdOf ByteArray.empty t299 x66_4) 92 false _ A41.out).mono ?_); rintro e w' ⟨rfl, ⟨nd, rfl⟩⟩) | (go_at_call 14; (with_reducible refine (carryallref01_Has.calls k4 (rdOf ByteArray.empty t299 x66_4) 124 false _ A44.out).mono ?_); rintro e w' ⟨rfl, ⟨nd, rfl⟩⟩) | (go_at_call 14; (with_reducible refine (carryallref01_Has.calls k4 (rdOf ByteArray.empty t299 x66_4) 63 true _ A47.out).mono ?_); rintro e w' ⟨rfl, ⟨nd, rfl⟩⟩))
                                      go_ret
                                      exact ⟨by first | rfl | (simp [errW_none, errW_some] <;> rfl) | (simp [*, errW_none, errW_some] <;> rfl) | (simp [errW_none, errW_some, Go.Proofs.YtbbdfamfmkcfhaaGreatDoor.G.isEmpty_ne]; done), by repeat (first | (with_reducible first | exact HB.out | apply below_alloc | apply pw_below_drewN | apply below_drew1 | refine below_set ?_ GE307.out) | exact HB.out)⟩
                                    · replace c48 := Bool.eq_false_iff.mpr c48
                                      subst c48
                                      have H1 : ((carryallref01_Has.f k4 (rdOf ByteArray.empty t299 x66_4) 35).bind fun t313 => (if t313 = true then (some false) else (if (rdOf ByteArray.empty t299 x66_4).toList = ([46] : List UInt8) then (some false) else (if (rdOf ByteArray.empty t299 x66_4).toList = ([46, 46] : List UInt8) then (some false) else (carryalllaw15_PosixParts.l1 k4 (t299.length : Int) (wrap64 (x66_4 + 1)) t291 t292 t293 t294 t295 t296 t297 t298 t299 t302 t303 t304 t305))))) = some r := by rw [if_neg (show ¬ (false = true) by decide)] at H; exact H
                                      clear H
                                      have H := H1
                                      clear H1
                                      replace H := Option.bind_eq_some_iff.mp H
                                      obtain ⟨t313, A500, H⟩ := H
                                      replace H : (if t313 = true then (some false) else (if (rdOf ByteArray.empty t299 x66_4).toList = ([46] : List UInt8) then (some false) else (if (rdOf ByteArray.empty t299 x66_4).toList = ([46, 46] : List UInt8) then (some false) else (carryalllaw15_PosixParts.l1 k4 (t299.length : Int) (wrap64 (x66_4 + 1)) t291 t292 t293 t294 t295 t296 t297 t298 t299 t302 t303 t304 t305)))) = some r := H
                                      have A50 := Aside0.mk A500
                                      clear A500
                                      by_cases c51 : t313 = true
                                      · subst c51
                                        have H1 : (some false) = some r := by rw [if_pos rfl] at H; exact H
                                        clear H
                                        have H := H1
                                        clear H1
                                        obtain rfl := Option.some.inj H
                                        have hcz52_0 : wr.cell? ⟨gb307, 0, none⟩ = some (.string t291) := (blk_cell BK307.out 0).trans rfl
                                        have hcz52_1 : wr.cell? ⟨gb307, 1, none⟩ = some (.string t292) := (blk_cell BK307.out 1).trans rfl
                                        have hcz52_2 : wr.cell? ⟨gb307, 2, none⟩ = some (.string t293) := (blk_cell BK307.out 2).trans rfl
                                        have hcz52_3 : wr.cell? ⟨gb307, 3, none⟩ = some (.string t294) := (blk_cell BK307.out 3).trans rfl
                                        have hcz52_4 : wr.cell? ⟨gb307, 4, none⟩ = some (.bool t295) := (blk_cell BK307.out 4).trans rfl
                                        have hcz52_5 : wr.cell? ⟨gb307, 5, none⟩ = some (.int .i64 t296) := (blk_cell BK307.out 5).trans rfl
                                        have hcz52_6 : wr.cell? ⟨gb307, 6, none⟩ = some (.bool t297) := (blk_cell BK307.out 6).trans rfl
                                        have hcz52_7 : wr.cell? ⟨gb307, 7, none⟩ = some (.string t298) := (blk_cell BK307.out 7).trans rfl
                                        have hcz52_8 : wr.cell? ⟨gb307, 8, none⟩ = some (.slice Ao18 t299.length co18) := (blk_cell BK307.out 8).trans rfl
                                        have hcz52_9 : wr.cell? ⟨gb307, 9, none⟩ = some (.bool t302) := (blk_cell BK307.out 9).trans rfl
                                        have hcz52_10 : wr.cell? ⟨gb307, 10, none⟩ = some (.bool t303) := (blk_cell BK307.out 10).trans rfl
                                        have hcz52_11 : wr.cell? ⟨gb307, 11, none⟩ = some (.string t304) := (blk_cell BK307.out 11).trans rfl
                                        have hcz52_12 : wr.cell? ⟨gb307, 12, none⟩ = some (.string t305) := (blk_cell BK307.out 12).trans rfl
                                        have hfz52_0 := blk_frozen BK307.out 0
                                        have hfz52_1 := blk_frozen BK307.out 1
                                        have hfz52_2 := blk_frozen BK307.out 2
                                        have hfz52_3 := blk_frozen BK307.out 3
                                        have hfz52_4 := blk_frozen BK307.out 4
                                        have hfz52_5 := blk_frozen BK307.out 5
                                        have hfz52_6 := blk_frozen BK307.out 6
                                        have hfz52_7 := blk_frozen BK307.out 7
                                        have hfz52_8 := blk_frozen BK307.out 8
                                        have hfz52_9 := blk_frozen BK307.out 9
                                        have hfz52_10 := blk_frozen BK307.out 10
                                        have hfz52_11 := blk_frozen BK307.out 11
                                        have hfz52_12 := blk_frozen BK307.out 12
                                        have p308 : 0 ≤ (x66_4 : Int) := of_decide_eq_true (by first | (with_reducible assumption) | assumption)
                                        have q308 : x66_4 < (t299.length : Int) := of_decide_eq_true (by first | (with_reducible assumption) | assumption)
                                        obtain ⟨ad308, e308, hx308_0⟩ := Kd.at_string (Kd.R_reads' HO_308008.out).2.2 x66_4 p308 q308
                                        cases e308
                                        replace p308 := eq_true p308
                                        replace q308 := eq_true q308
                                        go_wp2_with (first | ((with_reducible refine gate_callee (f := 14) rfl ?_); refine goesL_ (some 75) rfl rfl Tryz.func14 (by kernel_rfl) rfl #[.string (rdOf ByteArray.empty t299 x66_4), .int .u8 47] rfl (by (try simp only [List.map_toArray, List.map_cons, List.map_nil]); first | done | rfl | (simp only [List.length_drop, List.length_take]; rfl)) ?_; (with_reducible refine (carryallref01_Has.calls k4 (rdOf ByteArray.empty t299 x66_4) 47 false _ A38.out).mono ?_); rintro e w' ⟨rfl, ⟨nd, rfl⟩⟩; refine ⟨_, rfl, ?_⟩) | (go_at_call 14; (with_reducible refine (carryallref01_Has.calls k4 (rdOf ByteArray.empty t299 x66_4) 92 false _ A41.out).mono ?_); rintro e w' ⟨rfl, ⟨nd, rfl⟩⟩) | (go_at_call 14; (with_reducible refine (carryallref01_Has.calls k4 (rdOf ByteArray.empty t299 x66_4) 124 false _ A44.out).mono ?_); rintro e w' ⟨rfl, ⟨nd, rfl⟩⟩) | (go_at_call 14; (with_reducible refine (carryallref01_Has.calls k4 (rdOf ByteArray.empty t299 x66_4) 63 false _ A47.out).mono ?_); rintro e w' ⟨rfl, ⟨nd, rfl⟩⟩) | (go_at_call 14; (with_reducible refine (carryallref01_Has.calls k4 (rdOf ByteArray.empty t299 x66_4) 35 true _ A50.out).mono ?_); rintro e w' ⟨rfl, ⟨nd, rfl⟩⟩))
                                        go_ret
                                        exact ⟨by first | rfl | (simp [errW_none, errW_some] <;> rfl) | (simp [*, errW_none, errW_some] <;> rfl) | (simp [errW_none, errW_some, Go.Proofs.YtbbdfamfmkcfhaaGreatDoor.G.isEmpty_ne]; done), by repeat (first | (with_reducible first | exact HB.out | apply below_alloc | apply pw_below_drewN | apply below_drew1 | refine below_set ?_ GE307.out) | exact HB.out)⟩
                                      · replace c51 := Bool.eq_false_iff.mpr c51
                                        subst c51
                                        have H1 : (if (rdOf ByteArray.empty t299 x66_4).toList = ([46] : List UInt8) then (some false) else (if (rdOf ByteArray.empty t299 x66_4).toList = ([46, 46] : List UInt8) then (some false) else (carryalllaw15_PosixParts.l1 k4 (t299.length : Int) (wrap64 (x66_4 + 1)) t291 t292 t293 t294 t295 t296 t297 t298 t299 t302 t303 t304 t305))) = some r := by rw [if_neg (show ¬ (false = true) by decide)] at H; exact H
                                        clear H
                                        have H := H1
                                        clear H1
                                        by_cases c53 : (rdOf ByteArray.empty t299 x66_4).toList = ([46] : List UInt8)
                                        · rw [if_pos c53] at H
                                          have c53b0 : ((rdOf ByteArray.empty t299 x66_4).toList == ([46] : List UInt8)) = true := beq_iff_eq.mpr c53
                                          have c53b1 : ((rdOf ByteArray.empty t299 x66_4).toList != ([46] : List UInt8)) = false := bne_eq_false_iff_eq.mpr c53
                                          clear c53
                                          obtain rfl := Option.some.inj H
                                          have hcz54_0 : wr.cell? ⟨gb307, 0, none⟩ = some (.string t291) := (blk_cell BK307.out 0).trans rfl
                                          have hcz54_1 : wr.cell? ⟨gb307, 1, none⟩ = some (.string t292) := (blk_cell BK307.out 1).trans rfl
                                          have hcz54_2 : wr.cell? ⟨gb307, 2, none⟩ = some (.string t293) := (blk_cell BK307.out 2).trans rfl
                                          have hcz54_3 : wr.cell? ⟨gb307, 3, none⟩ = some (.string t294) := (blk_cell BK307.out 3).trans rfl
                                          have hcz54_4 : wr.cell? ⟨gb307, 4, none⟩ = some (.bool t295) := (blk_cell BK307.out 4).trans rfl
                                          have hcz54_5 : wr.cell? ⟨gb307, 5, none⟩ = some (.int .i64 t296) := (blk_cell BK307.out 5).trans rfl
                                          have hcz54_6 : wr.cell? ⟨gb307, 6, none⟩ = some (.bool t297) := (blk_cell BK307.out 6).trans rfl
                                          have hcz54_7 : wr.cell? ⟨gb307, 7, none⟩ = some (.string t298) := (blk_cell BK307.out 7).trans rfl
                                          have hcz54_8 : wr.cell? ⟨gb307, 8, none⟩ = some (.slice Ao18 t299.length co18) := (blk_cell BK307.out 8).trans rfl
                                          have hcz54_9 : wr.cell? ⟨gb307, 9, none⟩ = some (.bool t302) := (blk_cell BK307.out 9).trans rfl
                                          have hcz54_10 : wr.cell? ⟨gb307, 10, none⟩ = some (.bool t303) := (blk_cell BK307.out 10).trans rfl
                                          have hcz54_11 : wr.cell? ⟨gb307, 11, none⟩ = some (.string t304) := (blk_cell BK307.out 11).trans rfl
                                          have hcz54_12 : wr.cell? ⟨gb307, 12, none⟩ = some (.string t305) := (blk_cell BK307.out 12).trans rfl
                                          have hfz54_0 := blk_frozen BK307.out 0
                                          have hfz54_1 := blk_frozen BK307.out 1
                                          have hfz54_2 := blk_frozen BK307.out 2
                                          have hfz54_3 := blk_frozen BK307.out 3
                                          have hfz54_4 := blk_frozen BK307.out 4
                                          have hfz54_5 := blk_frozen BK307.out 5
                                          have hfz54_6 := blk_frozen BK307.out 6
                                          have hfz54_7 := blk_frozen BK307.out 7
                                          have hfz54_8 := blk_frozen BK307.out 8
                                          have hfz54_9 := blk_frozen BK307.out 9
                                          have hfz54_10 := blk_frozen BK307.out 10
                                          have hfz54_11 := blk_frozen BK307.out 11
                                          have hfz54_12 := blk_frozen BK307.out 12
                                          have p308 : 0 ≤ (x66_4 : Int) := of_decide_eq_true (by first | (with_reducible assumption) | assumption)
                                          have q308 : x66_4 < (t299.length : Int) := of_decide_eq_true (by first | (with_reducible assumption) | assumption)
                                          obtain ⟨ad308, e308, hx308_0⟩ := Kd.at_string (Kd.R_reads' HO_308008.out).2.2 x66_4 p308 q308
                                          cases e308
                                          replace p308 := eq_true p308
                                          replace q308 := eq_true q308
                                          go_wp2_with (first | ((with_reducible refine gate_callee (f := 14) rfl ?_); refine goesL_ (some 75) rfl rfl Tryz.func14 (by kernel_rfl) rfl #[.string (rdOf ByteArray.empty t299 x66_4), .int .u8 47] rfl (by (try simp only [List.map_toArray, List.map_cons, List.map_nil]); first | done | rfl | (simp only [List.length_drop, List.length_take]; rfl)) ?_; (with_reducible refine (carryallref01_Has.calls k4 (rdOf ByteArray.empty t299 x66_4) 47 false _ A38.out).mono ?_); rintro e w' ⟨rfl, ⟨nd, rfl⟩⟩; refine ⟨_, rfl, ?_⟩) | (go_at_call 14; (with_reducible refine (carryallref01_Has.calls k4 (rdOf ByteArray.empty t299 x66_4) 92 false _ A41.out).mono ?_); rintro e w' ⟨rfl, ⟨nd, rfl⟩⟩) | (go_at_call 14; (with_reducible refine (carryallref01_Has.calls k4 (rdOf ByteArray.empty t299 x66_4) 124 false _ A44.out).mono ?_); rintro e w' ⟨rfl, ⟨nd, rfl⟩⟩) | (go_at_call 14; (with_reducible refine (carryallref01_Has.calls k4 (rdOf ByteArray.empty t299 x66_4) 63 false _ A47.out).mono ?_); rintro e w' ⟨rfl, ⟨nd, rfl⟩⟩) | (go_at_call 14; (with_reducible refine (carryallref01_Has.calls k4 (rdOf ByteArray.empty t299 x66_4) 35 false _ A50.out).mono ?_); rintro e w' ⟨rfl, ⟨nd, rfl⟩⟩))
                                          go_ret
                                          exact ⟨by first | rfl | (simp [errW_none, errW_some] <;> rfl) | (simp [*, errW_none, errW_some] <;> rfl) | (simp [errW_none, errW_some, Go.Proofs.YtbbdfamfmkcfhaaGreatDoor.G.isEmpty_ne]; done), by repeat (first | (with_reducible first | exact HB.out | apply below_alloc | apply pw_below_drewN | apply below_drew1 | refine below_set ?_ GE307.out) | exact HB.out)⟩
                                        · rw [if_neg c53] at H
                                          have c53b0 : ((rdOf ByteArray.empty t299 x66_4).toList == ([46] : List UInt8)) = false := beq_eq_false_iff_ne.mpr c53
                                          have c53b1 : ((rdOf ByteArray.empty t299 x66_4).toList != ([46] : List UInt8)) = true := bne_iff_ne.mpr c53
                                          by_cases c55 : (rdOf ByteArray.empty t299 x66_4).toList = ([46, 46] : List UInt8)
                                          · rw [if_pos c55] at H
                                            have c55b0 : ((rdOf ByteArray.empty t299 x66_4).toList == ([46, 46] : List UInt8)) = true := beq_iff_eq.mpr c55
                                            have c55b1 : ((rdOf ByteArray.empty t299 x66_4).toList != ([46, 46] : List UInt8)) = false := bne_eq_false_iff_eq.mpr c55
                                            clear c55
                                            obtain rfl := Option.some.inj H
                                            have hcz56_0 : wr.cell? ⟨gb307, 0, none⟩ = some (.string t291) := (blk_cell BK307.out 0).trans rfl
                                            have hcz56_1 : wr.cell? ⟨gb307, 1, none⟩ = some (.string t292) := (blk_cell BK307.out 1).trans rfl
                                            have hcz56_2 : wr.cell? ⟨gb307, 2, none⟩ = some (.string t293) := (blk_cell BK307.out 2).trans rfl
                                            have hcz56_3 : wr.cell? ⟨gb307, 3, none⟩ = some (.string t294) := (blk_cell BK307.out 3).trans rfl
                                            have hcz56_4 : wr.cell? ⟨gb307, 4, none⟩ = some (.bool t295) := (blk_cell BK307.out 4).trans rfl
                                            have hcz56_5 : wr.cell? ⟨gb307, 5, none⟩ = some (.int .i64 t296) := (blk_cell BK307.out 5).trans rfl
                                            have hcz56_6 : wr.cell? ⟨gb307, 6, none⟩ = some (.bool t297) := (blk_cell BK307.out 6).trans rfl
                                            have hcz56_7 : wr.cell? ⟨gb307, 7, none⟩ = some (.string t298) := (blk_cell BK307.out 7).trans rfl
                                            have hcz56_8 : wr.cell? ⟨gb307, 8, none⟩ = some (.slice Ao18 t299.length co18) := (blk_cell BK307.out 8).trans rfl
                                            have hcz56_9 : wr.cell? ⟨gb307, 9, none⟩ = some (.bool t302) := (blk_cell BK307.out 9).trans rfl
                                            have hcz56_10 : wr.cell? ⟨gb307, 10, none⟩ = some (.bool t303) := (blk_cell BK307.out 10).trans rfl
                                            have hcz56_11 : wr.cell? ⟨gb307, 11, none⟩ = some (.string t304) := (blk_cell BK307.out 11).trans rfl
                                            have hcz56_12 : wr.cell? ⟨gb307, 12, none⟩ = some (.string t305) := (blk_cell BK307.out 12).trans rfl
                                            have hfz56_0 := blk_frozen BK307.out 0
                                            have hfz56_1 := blk_frozen BK307.out 1
                                            have hfz56_2 := blk_frozen BK307.out 2
                                            have hfz56_3 := blk_frozen BK307.out 3
                                            have hfz56_4 := blk_frozen BK307.out 4
                                            have hfz56_5 := blk_frozen BK307.out 5
                                            have hfz56_6 := blk_frozen BK307.out 6
                                            have hfz56_7 := blk_frozen BK307.out 7
                                            have hfz56_8 := blk_frozen BK307.out 8
                                            have hfz56_9 := blk_frozen BK307.out 9
                                            have hfz56_10 := blk_frozen BK307.out 10
                                            have hfz56_11 := blk_frozen BK307.out 11
                                            have hfz56_12 := blk_frozen BK307.out 12
                                            have p308 : 0 ≤ (x66_4 : Int) := of_decide_eq_true (by first | (with_reducible assumption) | assumption)
                                            have q308 : x66_4 < (t299.length : Int) := of_decide_eq_true (by first | (with_reducible assumption) | assumption)
                                            obtain ⟨ad308, e308, hx308_0⟩ := Kd.at_string (Kd.R_reads' HO_308008.out).2.2 x66_4 p308 q308
                                            cases e308
                                            replace p308 := eq_true p308
                                            replace q308 := eq_true q308
                                            go_wp2_with (first | ((with_reducible refine gate_callee (f := 14) rfl ?_); refine goesL_ (some 75) rfl rfl Tryz.func14 (by kernel_rfl) rfl #[.string (rdOf ByteArray.empty t299 x66_4), .int .u8 47] rfl (by (try simp only [List.map_toArray, List.map_cons, List.map_nil]); first | done | rfl | (simp only [List.length_drop, List.length_take]; rfl)) ?_; (with_reducible refine (carryallref01_Has.calls k4 (rdOf ByteArray.empty t299 x66_4) 47 false _ A38.out).mono ?_); rintro e w' ⟨rfl, ⟨nd, rfl⟩⟩; refine ⟨_, rfl, ?_⟩) | (go_at_call 14; (with_reducible refine (carryallref01_Has.calls k4 (rdOf ByteArray.empty t299 x66_4) 92 false _ A41.out).mono ?_); rintro e w' ⟨rfl, ⟨nd, rfl⟩⟩) | (go_at_call 14; (with_reducible refine (carryallref01_Has.calls k4 (rdOf ByteArray.empty t299 x66_4) 124 false _ A44.out).mono ?_); rintro e w' ⟨rfl, ⟨nd, rfl⟩⟩) | (go_at_call 14; (with_reducible refine (carryallref01_Has.calls k4 (rdOf ByteArray.empty t299 x66_4) 63 false _ A47.out).mono ?_); rintro e w' ⟨rfl, ⟨nd, rfl⟩⟩) | (go_at_call 14; (with_reducible refine (carryallref01_Has.calls k4 (rdOf ByteArray.empty t299 x66_4) 35 false _ A50.out).mono ?_); rintro e w' ⟨rfl, ⟨nd, rfl⟩⟩))
                                            go_ret
                                            exact ⟨by first | rfl | (simp [errW_none, errW_some] <;> rfl) | (simp [*, errW_none, errW_some] <;> rfl) | (simp [errW_none, errW_some, Go.Proofs.YtbbdfamfmkcfhaaGreatDoor.G.isEmpty_ne]; done), by repeat (first | (with_reducible first | exact HB.out | apply below_alloc | apply pw_below_drewN | apply below_drew1 | refine below_set ?_ GE307.out) | exact HB.out)⟩
                                          · rw [if_neg c55] at H
                                            have c55b0 : ((rdOf ByteArray.empty t299 x66_4).toList == ([46, 46] : List UInt8)) = false := beq_eq_false_iff_ne.mpr c55
                                            have c55b1 : ((rdOf ByteArray.empty t299 x66_4).toList != ([46, 46] : List UInt8)) = true := bne_iff_ne.mpr c55
                                            have H' := Aside0.mk H
                                            clear H
                                            have hcz57_0 : wr.cell? ⟨gb307, 0, none⟩ = some (.string t291) := (blk_cell BK307.out 0).trans rfl
                                            have hcz57_1 : wr.cell? ⟨gb307, 1, none⟩ = some (.string t292) := (blk_cell BK307.out 1).trans rfl
                                            have hcz57_2 : wr.cell? ⟨gb307, 2, none⟩ = some (.string t293) := (blk_cell BK307.out 2).trans rfl
                                            have hcz57_3 : wr.cell? ⟨gb307, 3, none⟩ = some (.string t294) := (blk_cell BK307.out 3).trans rfl
                                            have hcz57_4 : wr.cell? ⟨gb307, 4, none⟩ = some (.bool t295) := (blk_cell BK307.out 4).trans rfl
                                            have hcz57_5 : wr.cell? ⟨gb307, 5, none⟩ = some (.int .i64 t296) := (blk_cell BK307.out 5).trans rfl
                                            have hcz57_6 : wr.cell? ⟨gb307, 6, none⟩ = some (.bool t297) := (blk_cell BK307.out 6).trans rfl
                                            have hcz57_7 : wr.cell? ⟨gb307, 7, none⟩ = some (.string t298) := (blk_cell BK307.out 7).trans rfl
                                            have hcz57_8 : wr.cell? ⟨gb307, 8, none⟩ = some (.slice Ao18 t299.length co18) := (blk_cell BK307.out 8).trans rfl
                                            have hcz57_9 : wr.cell? ⟨gb307, 9, none⟩ = some (.bool t302) := (blk_cell BK307.out 9).trans rfl
                                            have hcz57_10 : wr.cell? ⟨gb307, 10, none⟩ = some (.bool t303) := (blk_cell BK307.out 10).trans rfl
                                            have hcz57_11 : wr.cell? ⟨gb307, 11, none⟩ = some (.string t304) := (blk_cell BK307.out 11).trans rfl
                                            have hcz57_12 : wr.cell? ⟨gb307, 12, none⟩ = some (.string t305) := (blk_cell BK307.out 12).trans rfl
                                            have hfz57_0 := blk_frozen BK307.out 0
                                            have hfz57_1 := blk_frozen BK307.out 1
                                            have hfz57_2 := blk_frozen BK307.out 2
                                            have hfz57_3 := blk_frozen BK307.out 3
                                            have hfz57_4 := blk_frozen BK307.out 4
                                            have hfz57_5 := blk_frozen BK307.out 5
                                            have hfz57_6 := blk_frozen BK307.out 6
                                            have hfz57_7 := blk_frozen BK307.out 7
                                            have hfz57_8 := blk_frozen BK307.out 8
                                            have hfz57_9 := blk_frozen BK307.out 9
                                            have hfz57_10 := blk_frozen BK307.out 10
                                            have hfz57_11 := blk_frozen BK307.out 11
                                            have hfz57_12 := blk_frozen BK307.out 12
                                            have p308 : 0 ≤ (x66_4 : Int) := of_decide_eq_true (by first | (with_reducible assumption) | assumption)
                                            have q308 : x66_4 < (t299.length : Int) := of_decide_eq_true (by first | (with_reducible assumption) | assumption)
                                            obtain ⟨ad308, e308, hx308_0⟩ := Kd.at_string (Kd.R_reads' HO_308008.out).2.2 x66_4 p308 q308
                                            cases e308
                                            replace p308 := eq_true p308
                                            replace q308 := eq_true q308
                                            go_wp2_with (first | ((with_reducible refine gate_callee (f := 14) rfl ?_); refine goesL_ (some 75) rfl rfl Tryz.func14 (by kernel_rfl) rfl #[.string (rdOf ByteArray.empty t299 x66_4), .int .u8 47] rfl (by (try simp only [List.map_toArray, List.map_cons, List.map_nil]); first | done | rfl | (simp only [List.length_drop, List.length_take]; rfl)) ?_; (with_reducible refine (carryallref01_Has.calls k4 (rdOf ByteArray.empty t299 x66_4) 47 false _ A38.out).mono ?_); rintro e w' ⟨rfl, ⟨nd, rfl⟩⟩; refine ⟨_, rfl, ?_⟩) | (go_at_call 14; (with_reducible refine (carryallref01_Has.calls k4 (rdOf ByteArray.empty t299 x66_4) 92 false _ A41.out).mono ?_); rintro e w' ⟨rfl, ⟨nd, rfl⟩⟩) | (go_at_call 14; (with_reducible refine (carryallref01_Has.calls k4 (rdOf ByteArray.empty t299 x66_4) 124 false _ A44.out).mono ?_); rintro e w' ⟨rfl, ⟨nd, rfl⟩⟩) | (go_at_call 14; (with_reducible refine (carryallref01_Has.calls k4 (rdOf ByteArray.empty t299 x66_4) 63 false _ A47.out).mono ?_); rintro e w' ⟨rfl, ⟨nd, rfl⟩⟩) | (go_at_call 14; (with_reducible refine (carryallref01_Has.calls k4 (rdOf ByteArray.empty t299 x66_4) 35 false _ A50.out).mono ?_); rintro e w' ⟨rfl, ⟨nd, rfl⟩⟩))
                                            go_roundg k4
                                            case measure => have := HJ1.out; have := HK2.out; have := HJ23.out; have := HK4.out; omega
                                            case rel => exact ⟨(wrap64 (x66_4 + 1)), (by first | rfl | (simp; done) | (simp [*]; done) | (simp [Go.Proofs.YtbbdfamfmkcfhaaGreatDoor.G.isEmpty_ne]; done)), H', ⟨by have := HJ1.out; have := HK2.out; have := HJ23.out; have := HK4.out; omega⟩, ⟨by (with_reducible repeat (first | apply Kd.R_alloc | apply Kd.R_drewN | apply Kd.R_drew)); exact HO_308008.out⟩, ⟨by (with_reducible repeat (first | refine blk_drewN ?_ _ | refine blk_drew ?_ | refine blk_alloc ?_ _)); exact BK307.out⟩, ⟨by repeat (first | (with_reducible first | exact HB.out | apply below_alloc | apply pw_below_drewN | apply below_drew1 | refine below_set ?_ GE307.out) | exact HB.out)⟩⟩
                            · rw [if_neg c37] at H
                              exact absurd H (by simp)
                          · rw [if_neg c36] at H
                            exact absurd H (by simp)
                        · rw [if_neg c35] at H
                          have c35b0 : decide (x66_4 < (t299.length : Int)) = false := decide_eq_false c35
                          clear c35
                          obtain rfl := Option.some.inj H
                          go_wp2
                          go_ret
                          exact ⟨by first | rfl | (simp [errW_none, errW_some] <;> rfl) | (simp [*, errW_none, errW_some] <;> rfl) | (simp [errW_none, errW_some, Go.Proofs.YtbbdfamfmkcfhaaGreatDoor.G.isEmpty_ne]; done), by repeat (first | (with_reducible first | exact HB.out | apply below_alloc | apply pw_below_drewN | apply below_drew1 | refine below_set ?_ GE307.out) | exact HB.out)⟩

/-- THE ONE PURE STATEMENT of carryalllaw15_PosixParts: yours. -/
def carryalllaw15_PosixParts.Pure : Prop := ∀ (a0 : ByteArray), a0.size ≤ 140737488351232 → ∃ k, carryalllaw15_PosixParts.f k a0 = some true
theorem carryalllaw15_PosixParts.walk (P : carryalllaw15_PosixParts.Pure) (a0 : ByteArray) (w : World) (w0 : a0.size ≤ 140737488351232) (hT : Go.Proofs.YtbbdfamfmkcfhaaGreatDoor.G.T w) :
    Calls Tryz.prog 4 #[.string a0] w fun e w' => e = .returned (.bool true) ∧ Below w.heap.size w w' := by
  obtain ⟨k, h⟩ := P a0 w0
  refine (carryalllaw15_PosixParts.calls k a0 true w h hT).mono ?_
  rintro e w' ⟨rfl, hd⟩
  exact ⟨rfl, hd⟩

end Go.Proofs.YtbbdfamfmkcfhaaGreatDoor.P
