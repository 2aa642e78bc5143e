-- Written for this claim by a program of this session's (not a text of the kit's print).
import Derived.Test.YtpdkncchjkkmeaaDoorPx0
import Derived.Test.YtpdkncchjkkmeaaDoorPx3
import Derived.Test.YtpdkncchjkkmeaaDoorPx4
import Derived.Test.YtpdkncchjkkmeaaDoorPx6
namespace Go.Proofs.YtpdkncchjkkmeaaDoor.P
open Go.RowKit Go.Proofs.YtpdkncchjkkmeaaDoorW.PrintWords Go.Proofs.YtpdkncchjkkmeaaDoorW.PrintLast Go.Proofs.YtpdkncchjkkmeaaDoorW.PrintMore
attribute [local go_sem] max2_int min2_int max_two min_two max_three min_three max_four min_four   -- for this text's walks alone
set_option linter.unusedVariables false
set_option linter.unusedSimpArgs false

/-! ### carryallref10_Walk: function 12 -/
mutual
def carryallref10_Walk.l0 : Nat → Bool → Bool → ByteArray → List ByteArray → ByteArray → Int → Int → Option (List ByteArray)
  | 0, _, _, _, _, _, _, _ => none
  | k + 1, x0, x1, x3, x9, x10, x19, x20 => if x20 < x19 then (if (x20 = (x3.size : Int)) then (carryallref10_Walk.j1 k x0 x1 x3 x9 x10 x20 (x20 == (x3.size : Int)) false x19 x20) else (if 0 ≤ x20 then (if x20 < (x3.size : Int) then (if (bt x3 x20) = 47 then (carryallref10_Walk.j1 k x0 x1 x3 x9 x10 x20 (x20 == (x3.size : Int)) true x19 x20) else (if x1 = true then (carryallref10_Walk.j1 k x0 x1 x3 x9 x10 x20 (x20 == (x3.size : Int)) ((bt x3 x20) == 92) x19 x20) else (carryallref10_Walk.j1 k x0 x1 x3 x9 x10 x20 (x20 == (x3.size : Int)) false x19 x20))) else (none)) else (none))) else (some x9)
def carryallref10_Walk.j1 : Nat → Bool → Bool → ByteArray → List ByteArray → ByteArray → Int → Bool → Bool → Int → Int → Option (List ByteArray)
  | 0, _, _, _, _, _, _, _, _, _, _ => none
  | k + 1, x0, x1, x3, x9, x10, x11, x12, x13, x19, x20 => if x12 = true then (carryallref10_Walk.j2 k x0 x1 x3 x9 x10 x11 x12 x19 x20 false) else (carryallref10_Walk.j2 k x0 x1 x3 x9 x10 x11 x12 x19 x20 (!x13))
def carryallref10_Walk.j2 : Nat → Bool → Bool → ByteArray → List ByteArray → ByteArray → Int → Bool → Int → Int → Bool → Option (List ByteArray)
  | 0, _, _, _, _, _, _, _, _, _, _ => none
  | k + 1, x0, x1, x3, x9, x10, x11, x12, x19, x20, x49 => if x49 = true then (if 0 ≤ x11 then (if x11 ≤ (wrap64 (x11 + 1)) then (if (wrap64 (x11 + 1)) ≤ (x3.size : Int) then (if x10.size + (x3.extract (x11 : Int).toNat ((wrap64 (x11 + 1)) : Int).toNat).size ≤ 9223372036854775807 then (carryallref10_Walk.l0 k x0 x1 x3 x9 (x10 ++ (x3.extract (x11 : Int).toNat ((wrap64 (x11 + 1)) : Int).toNat)) x19 (wrap64 (x20 + 1))) else (none)) else (none)) else (none)) else (none)) else ((carryallref10_Double.f k x10).bind fun t254 => (if t254 = true then ((some (([] : List ByteArray) : List ByteArray)).bind fun y255 => ((carryallref10_Shorten.f x0 x9).bind fun t258 => (if y255.length + t258.length < 8796093022208 then ((some (y255 ++ t258 : List ByteArray)).bind fun y261 => (if x12 = true then (if y261.length < 8796093022208 then (carryallref10_Walk.l0 k x0 x1 x3 (y261 ++ [(⟨#[]⟩ : ByteArray)]) (⟨#[]⟩ : ByteArray) x19 (wrap64 (x20 + 1))) else (none)) else (carryallref10_Walk.l0 k x0 x1 x3 y261 (⟨#[]⟩ : ByteArray) x19 (wrap64 (x20 + 1))))) else (none)))) else ((carryallref10_Single.f k x10).bind fun t267 => (if t267 = true then (if x12 = true then (if x9.length < 8796093022208 then (carryallref10_Walk.l0 k x0 x1 x3 (x9 ++ [(⟨#[]⟩ : ByteArray)]) (⟨#[]⟩ : ByteArray) x19 (wrap64 (x20 + 1))) else (none)) else (carryallref10_Walk.l0 k x0 x1 x3 x9 (⟨#[]⟩ : ByteArray) x19 (wrap64 (x20 + 1)))) else (if x0 = true then (if (x9.length : Int) = 0 then ((carryallref10_Drive.f x10).bind fun t271 => (if t271 = true then (if 0 ≤ 1 then (if 1 ≤ (x10.size : Int) then (if (x10.extract 0 1).size + 1 ≤ 9223372036854775807 then ((carryallref02_Encode.f k 4 ((x10.extract 0 1) ++ (⟨#[58]⟩ : ByteArray))).bind fun t272 => (if x9.length < 8796093022208 then (carryallref10_Walk.l0 k x0 x1 x3 (x9 ++ [t272]) (⟨#[]⟩ : ByteArray) x19 (wrap64 (x20 + 1))) else (none))) else (none)) else (none)) else (none)) else ((carryallref02_Encode.f k 4 x10).bind fun t276 => (if x9.length < 8796093022208 then (carryallref10_Walk.l0 k x0 x1 x3 (x9 ++ [t276]) (⟨#[]⟩ : ByteArray) x19 (wrap64 (x20 + 1))) else (none))))) else ((carryallref02_Encode.f k 4 x10).bind fun t280 => (if x9.length < 8796093022208 then (carryallref10_Walk.l0 k x0 x1 x3 (x9 ++ [t280]) (⟨#[]⟩ : ByteArray) x19 (wrap64 (x20 + 1))) else (none)))) else ((carryallref02_Encode.f k 4 x10).bind fun t284 => (if x9.length < 8796093022208 then (carryallref10_Walk.l0 k x0 x1 x3 (x9 ++ [t284]) (⟨#[]⟩ : ByteArray) x19 (wrap64 (x20 + 1))) else (none))))))))
end
def carryallref10_Walk.f (k : Nat) (a0 : Bool) (a1 : Bool) (l2 : List ByteArray) (a3 : ByteArray) : Option (List ByteArray) := (some (([] : List ByteArray) : List ByteArray)).bind fun y248 => (if y248.length + l2.length < 8796093022208 then (carryallref10_Walk.l0 k a0 a1 a3 (y248 ++ l2) (⟨#[]⟩ : ByteArray) (wrap64 ((a3.size : Int) + 1)) 0) else (none))
theorem carryallref10_Walk.mono_l : ∀ k, (∀ y0 y1 y2 y3 y4 y5 y6, LeO (carryallref10_Walk.l0 k y0 y1 y2 y3 y4 y5 y6) (carryallref10_Walk.l0 (k + 1) y0 y1 y2 y3 y4 y5 y6)) ∧ (∀ y0 y1 y2 y3 y4 y5 y6 y7 y8 y9, LeO (carryallref10_Walk.j1 k y0 y1 y2 y3 y4 y5 y6 y7 y8 y9) (carryallref10_Walk.j1 (k + 1) y0 y1 y2 y3 y4 y5 y6 y7 y8 y9)) ∧ (∀ y0 y1 y2 y3 y4 y5 y6 y7 y8 y9, LeO (carryallref10_Walk.j2 k y0 y1 y2 y3 y4 y5 y6 y7 y8 y9) (carryallref10_Walk.j2 (k + 1) y0 y1 y2 y3 y4 y5 y6 y7 y8 y9))
  | 0 => ⟨fun _ _ _ _ _ _ _ r h => by simp [carryallref10_Walk.l0] at h, fun _ _ _ _ _ _ _ _ _ _ r h => by simp [carryallref10_Walk.j1] at h, fun _ _ _ _ _ _ _ _ _ _ r h => by simp [carryallref10_Walk.j2] at h⟩
  | k + 1 => by
    obtain ⟨ih0, ih1, ih2⟩ := carryallref10_Walk.mono_l k
    refine ⟨?_, ?_, ?_⟩
    · intro y0 y1 y2 y3 y4 y5 y6
      unfold carryallref10_Walk.l0
      repeat' first
      | (with_reducible exact ih0 _ _ _ _ _ _ _)
      | (with_reducible exact ih1 _ _ _ _ _ _ _ _ _ _)
      | (with_reducible exact ih2 _ _ _ _ _ _ _ _ _ _)
      | (with_reducible exact carryallref02_Encode.mono _ _ _)
      | (with_reducible exact carryallref10_Double.mono _ _)
      | (with_reducible exact carryallref10_Single.mono _ _)
      | (with_reducible exact LeO.refl _)
      | (with_reducible exact LeO.none _)
      | (with_reducible refine LeO.ite ?_ ?_)
      | (with_reducible refine LeO.bind ?_ (fun _ => ?_))
      | exact ih0 _ _ _ _ _ _ _
      | exact ih1 _ _ _ _ _ _ _ _ _ _
      | exact ih2 _ _ _ _ _ _ _ _ _ _
      | exact carryallref02_Encode.mono _ _ _
      | exact carryallref10_Double.mono _ _
      | exact carryallref10_Single.mono _ _
      | exact LeO.none _
      | refine LeO.ite ?_ ?_
      | refine LeO.bind ?_ (fun _ => ?_)
    · intro y0 y1 y2 y3 y4 y5 y6 y7 y8 y9
      unfold carryallref10_Walk.j1
      repeat' first
      | (with_reducible exact ih0 _ _ _ _ _ _ _)
      | (with_reducible exact ih1 _ _ _ _ _ _ _ _ _ _)
      | (with_reducible exact ih2 _ _ _ _ _ _ _ _ _ _)
      | (with_reducible exact carryallref02_Encode.mono _ _ _)
      | (with_reducible exact carryallref10_Double.mono _ _)
      | (with_reducible exact carryallref10_Single.mono _ _)
      | (with_reducible exact LeO.refl _)
      | (with_reducible exact LeO.none _)
      | (with_reducible refine LeO.ite ?_ ?_)
      | (with_reducible refine LeO.bind ?_ (fun _ => ?_))
      | exact ih0 _ _ _ _ _ _ _
      | exact ih1 _ _ _ _ _ _ _ _ _ _
      | exact ih2 _ _ _ _ _ _ _ _ _ _
      | exact carryallref02_Encode.mono _ _ _
      | exact carryallref10_Double.mono _ _
      | exact carryallref10_Single.mono _ _
      | exact LeO.none _
      | refine LeO.ite ?_ ?_
      | refine LeO.bind ?_ (fun _ => ?_)
    · intro y0 y1 y2 y3 y4 y5 y6 y7 y8 y9
      unfold carryallref10_Walk.j2
      repeat' first
      | (with_reducible exact ih0 _ _ _ _ _ _ _)
      | (with_reducible exact ih1 _ _ _ _ _ _ _ _ _ _)
      | (with_reducible exact ih2 _ _ _ _ _ _ _ _ _ _)
      | (with_reducible exact carryallref02_Encode.mono _ _ _)
      | (with_reducible exact carryallref10_Double.mono _ _)
      | (with_reducible exact carryallref10_Single.mono _ _)
      | (with_reducible exact LeO.refl _)
      | (with_reducible exact LeO.none _)
      | (with_reducible refine LeO.ite ?_ ?_)
      | (with_reducible refine LeO.bind ?_ (fun _ => ?_))
      | exact ih0 _ _ _ _ _ _ _
      | exact ih1 _ _ _ _ _ _ _ _ _ _
      | exact ih2 _ _ _ _ _ _ _ _ _ _
      | exact carryallref02_Encode.mono _ _ _
      | exact carryallref10_Double.mono _ _
      | exact carryallref10_Single.mono _ _
      | exact LeO.none _
      | refine LeO.ite ?_ ?_
      | refine LeO.bind ?_ (fun _ => ?_)
theorem carryallref10_Walk.mono : ∀ a0 a1 a2 a3 k, LeO (carryallref10_Walk.f k a0 a1 a2 a3) (carryallref10_Walk.f (k + 1) a0 a1 a2 a3) := by
  intro a0 a1 a2 a3 k
  obtain ⟨ih0, ih1, ih2⟩ := carryallref10_Walk.mono_l k
  unfold carryallref10_Walk.f
  repeat' first
      | (with_reducible exact ih0 _ _ _ _ _ _ _)
      | (with_reducible exact ih1 _ _ _ _ _ _ _ _ _ _)
      | (with_reducible exact ih2 _ _ _ _ _ _ _ _ _ _)
      | (with_reducible exact carryallref02_Encode.mono _ _ _)
      | (with_reducible exact carryallref10_Double.mono _ _)
      | (with_reducible exact carryallref10_Single.mono _ _)
      | (with_reducible exact LeO.refl _)
      | (with_reducible exact LeO.none _)
      | (with_reducible refine LeO.ite ?_ ?_)
      | (with_reducible refine LeO.bind ?_ (fun _ => ?_))
      | exact ih0 _ _ _ _ _ _ _
      | exact ih1 _ _ _ _ _ _ _ _ _ _
      | exact ih2 _ _ _ _ _ _ _ _ _ _
      | exact carryallref02_Encode.mono _ _ _
      | exact carryallref10_Double.mono _ _
      | exact carryallref10_Single.mono _ _
      | exact LeO.none _
      | refine LeO.ite ?_ ?_
      | refine LeO.bind ?_ (fun _ => ?_)
set_option maxHeartbeats 8000000 in
set_option maxRecDepth 100000 in
theorem carryallref10_Walk.calls (k : Nat) (a0 : Bool) (a1 : Bool) (A2 : Option Addr) (c2 : Nat) (l2 : List ByteArray) (a3 : ByteArray) (r : List ByteArray) (w : World) (hr2 : Kd.C Kd.string w A2 l2.length l2) (hc2 : l2.length ≤ c2) (h : carryallref10_Walk.f k a0 a1 l2 a3 = some r) :
    Calls Tryd.prog 12 #[.bool a0, .bool a1, .slice A2 l2.length c2, .string a3] w fun e w' => ∃ v0_ : Value, e = .returned (v0_) ∧ Kd.R Kd.string 9 w' w.heap.size (fun _ => True) v0_ r ∧ Below w.heap.size w w' := by
  have HR2 := Aside0.mk hr2
  have HC2 := Aside0.mk hc2
  clear hr2 hc2
  have HB := Aside0.mk (Below.refl w.heap.size w)
  have H : ((some (([] : List ByteArray) : List ByteArray)).bind fun y248 => (if y248.length + l2.length < 8796093022208 then (carryallref10_Walk.l0 k a0 a1 a3 (y248 ++ l2) (⟨#[]⟩ : ByteArray) (wrap64 ((a3.size : Int) + 1)) 0) else (none))) = some r := h
  clear h
  obtain ⟨y248, hy248⟩ : ∃ y_ : List ByteArray, y_ = (([] : List ByteArray)) := ⟨_, rfl⟩
  replace H : (if y248.length + l2.length < 8796093022208 then (carryallref10_Walk.l0 k a0 a1 a3 (y248 ++ l2) (⟨#[]⟩ : ByteArray) (wrap64 ((a3.size : Int) + 1)) 0) else (none)) = some r := by first | (rw [hy248]; with_reducible exact H) | (have H2_ := (Option.bind_some _ _).symm.trans H; rw [hy248]; with_reducible exact H2_) | (have H2_ := (Option.bind_some _ _).symm.trans H; with_reducible exact H2_) | with_reducible exact H | (rw [hy248]; exact H) | exact H
  have Ny248 := Aside0.mk hy248
  clear hy248
  by_cases c5 : y248.length + l2.length < 8796093022208
  · rw [if_pos c5] at H
    have LMc5 := Aside0.mk c5
    clear c5
    obtain ⟨y251, hy251⟩ : ∃ y_ : List ByteArray, y_ = (y248 ++ l2) := ⟨_, rfl⟩
    replace H : (carryallref10_Walk.l0 k a0 a1 a3 y251 (⟨#[]⟩ : ByteArray) (wrap64 ((a3.size : Int) + 1)) 0) = some r := by first | (rw [hy251]; with_reducible exact H) | (have H2_ := (Option.bind_some _ _).symm.trans H; rw [hy251]; with_reducible exact H2_) | (have H2_ := (Option.bind_some _ _).symm.trans H; with_reducible exact H2_) | with_reducible exact H | (rw [hy251]; exact H) | exact H
    have Ny251 := Aside0.mk hy251
    clear hy251
    have H' := Aside0.mk H
    clear H
    go_enter Tryd.func12, Tryd.ntmps12
    go_wp2_with (first | ((with_reducible refine gate_dst (N := 14) rfl ?_); (try (refine gate_guard (by rfl) ?_; dsimp only)); refine Kd.R_lit Kd.string _ 9 ?hg (N := 14) ?hd (xs := ([] : List ByteArray)) (inner := []) (ok := fun _ => True) (okp := fun _ => True) ?hr ?hp (fun _ hk => hk) trivial (Below.refl _ _) (Nat.le_refl _) (by simp) ?_; (case hd => rfl); (case hg => rfl); (case hr => first | (go_simp; done) | (go_simp; rfl)); (case hp => exact (Reps.none _ _)); intro v249 w6 ho7 hb hg_ hnew_; clear hg_ hnew_; (first | rw [← Ny248.out] at ho7 | (simp only [Int.reduceToNat] at ho7; rw [← Ny248.out] at ho7)); have n0_ := Aside0.mk (Kd.R_lower ho7 (below_size (by repeat (first | (with_reducible first | exact HB.out | apply below_alloc | apply pw_below_drewN | apply below_drew1) | exact HB.out)))); have n1_ := Aside0.mk (below_step (by repeat (first | (with_reducible first | exact HB.out | apply below_alloc | apply pw_below_drewN | apply below_drew1) | exact HB.out)) hb); clear HB; have HO250 := n0_; have HB := n1_; clear n0_ n1_; clear hb ho7) | ((with_reducible refine gate_builtin (b := .append) (xs := #[.tmp 14, .tmp 15]) rfl ?_); (try (refine gate_guard (by rfl) ?_; dsimp only)); at_builtin; refine Kd.R_append_rows Kd.string (w0 := w) w.heap.size rfl (.tmp 14) (.tmp 15) 22 9 (.string ⟨#[]⟩) 16 rfl Tryd.underlying22 info9 rfl (by decide) (by omega) v249 y248 l2 _ _ _ (fun _ => True) (fun _ => False) rfl rfl ?aO ?aR (fun _ _ h => h) (fun _ h => h.elim) ?aF ?aB ?aS ?aL ?_; (case aR => repeat (first | exact (Kd.C_below HR2.out HB.out) | (with_reducible refine Kd.C_alloc ?_ _) | (with_reducible refine Kd.C_drewN ?_ _) | (with_reducible refine Kd.C_drew ?_))); (case aB => exact (by repeat (first | (with_reducible first | exact HB.out | apply below_alloc | apply pw_below_drewN | apply below_drew1) | exact HB.out))); (case aF => exact (fun _ _ => trivial)); (case aO => exact (by (with_reducible repeat (first | apply Kd.R_alloc | apply Kd.R_drewN | apply Kd.R_drew)); exact HO250.out)); (case aS => exact (below_size (by repeat (first | (with_reducible first | exact HB.out | apply below_alloc | apply pw_below_drewN | apply below_drew1) | exact HB.out)))); (case aL => have := LMc5.out; omega); intro v252 w8 ho hb hg hat; rw [← Ny251.out] at ho; have n0_ := Aside0.mk (hb); have n1_ := Aside0.mk (ho); clear HB; clear HO250; have HB := n0_; have HO253 := n1_; clear n0_ n1_; clear ho hb hg hat))
    go_loopg [9, 10, 20] k (fun kq v9 v10 v20 w' => ∃ (x9_1 : List ByteArray) (x10_1 : ByteArray) (x20_1 : Int), v10 = .string x10_1 ∧ v20 = .int .i64 x20_1 ∧ Aside0 (carryallref10_Walk.l0 kq a0 a1 a3 x9_1 x10_1 (wrap64 ((a3.size : Int) + 1)) x20_1 = some r) ∧ Aside0 (kq ≤ k) ∧ Aside0 (Kd.R Kd.string 9 w' w.heap.size (fun _ => True) v9 x9_1) ∧ Aside0 (Below w.heap.size w w'))
    case atStart => exact ⟨(y251), ((⟨#[]⟩ : ByteArray)), (0), (by first | rfl | (simp; done) | (simp [*]; done) | (simp [Go.Proofs.YtpdkncchjkkmeaaDoor.G.isEmpty_ne]; done)), (by first | rfl | (simp; done) | (simp [*]; done) | (simp [Go.Proofs.YtpdkncchjkkmeaaDoor.G.isEmpty_ne]; done)), H', ⟨Nat.le_refl _⟩, ⟨by (with_reducible repeat (first | apply Kd.R_alloc | apply Kd.R_drewN | apply Kd.R_drew)); exact HO253.out⟩, ⟨by repeat (first | (with_reducible first | exact HB.out | apply below_alloc | apply pw_below_drewN | apply below_drew1) | exact HB.out)⟩⟩
    case round =>
      clear H'
      try clear c1
      try clear c2
      try clear p2
      try clear c5
      try clear p6
      obtain ⟨x9_1, x10_1, x20_1, rfl, rfl, HA, HK1, HO_9, HB⟩ := hrel
      cases gk with
      | zero => exact absurd HA.out (by simp [carryallref10_Walk.l0])
      | succ k1 =>
        have H := HA.out
        clear HA
        simp only [carryallref10_Walk.l0] at H
        by_cases c9 : x20_1 < (wrap64 ((a3.size : Int) + 1))
        · rw [if_pos c9] at H
          have c9b0 : decide (x20_1 < (wrap64 ((a3.size : Int) + 1))) = true := decide_eq_true c9
          clear c9
          have HC10 := Aside0.mk H
          clear H
          go_upto_region 7 with (fail)
          go_cut [12, 13] (fun v12 v13 wc => ∃ (kq : Nat) (x13_9 : Bool), v12 = .bool (x20_1 == (a3.size : Int)) ∧ v13 = .bool x13_9 ∧ Aside0 (carryallref10_Walk.j1 kq a0 a1 a3 x9_1 x10_1 x20_1 (x20_1 == (a3.size : Int)) x13_9 (wrap64 ((a3.size : Int) + 1)) x20_1 = some r) ∧ Aside0 (kq ≤ k1) ∧ Aside0 (Kd.R Kd.string 9 wc w.heap.size (fun _ => True) u9 x9_1) ∧ Aside0 (Below w.heap.size w wc))
          case first =>
            have H := HC10.out
            clear HC10
            by_cases c11 : (x20_1 = (a3.size : Int))
            · rw [if_pos c11] at H
              have c11b0 : (x20_1 == (a3.size : Int)) = true := beq_iff_eq.mpr c11
              have c11b1 : (x20_1 != (a3.size : Int)) = false := bne_eq_false_iff_eq.mpr c11
              clear c11
              (first | rw [c11b0] | (simp only [i64_w, i32_w]; rw [c11b0]) | skip)
              have H' := Aside0.mk H
              clear H
              go_wp2
              go_meet
              case rel => exact ⟨_, (false), (by first | rfl | (simp; done) | (simp [*]; done) | (exact absurd (Eq.trans (Eq.symm (by assumption : (x20_1 == (a3.size : Int)) = true)) (by assumption : (x20_1 == (a3.size : Int)) = false)) (by decide))), (by first | rfl | (simp; done) | (simp [*]; done) | (simp [Go.Proofs.YtpdkncchjkkmeaaDoor.G.isEmpty_ne]; done) | (exact absurd (Eq.trans (Eq.symm (by assumption : (x20_1 == (a3.size : Int)) = true)) (by assumption : (x20_1 == (a3.size : Int)) = false)) (by decide))), H', ⟨by have := HK1.out; first | omega | exact Nat.le_refl _⟩, ⟨by (with_reducible repeat (first | apply Kd.R_alloc | apply Kd.R_drewN | apply Kd.R_drew)); exact HO_9.out⟩, ⟨by repeat (first | (with_reducible first | exact HB.out | apply below_alloc | apply pw_below_drewN | apply below_drew1) | exact HB.out)⟩⟩
            · rw [if_neg c11] at H
              have c11b0 : (x20_1 == (a3.size : Int)) = false := beq_eq_false_iff_ne.mpr c11
              have c11b1 : (x20_1 != (a3.size : Int)) = true := bne_iff_ne.mpr c11
              (first | rw [c11b0] | (simp only [i64_w, i32_w]; rw [c11b0]) | skip)
              by_cases c12 : 0 ≤ x20_1
              · rw [if_pos c12] at H
                have c12b0 : decide (0 ≤ x20_1) = true := decide_eq_true c12
                clear c12
                by_cases c13 : x20_1 < (a3.size : Int)
                · rw [if_pos c13] at H
                  have c13b0 : decide (x20_1 < (a3.size : Int)) = true := decide_eq_true c13
                  clear c13
                  by_cases c15 : (bt a3 x20_1) = 47
                  · rw [if_pos c15] at H
                    have c15b0 : ((bt a3 x20_1) == 47) = true := beq_iff_eq.mpr c15
                    have c15b1 : ((bt a3 x20_1) != 47) = false := bne_eq_false_iff_eq.mpr c15
                    clear c15
                    have H' := Aside0.mk H
                    clear H
                    have p14 : 0 ≤ (x20_1 : Int) := of_decide_eq_true (by first | (with_reducible assumption) | assumption)
                    have q14 : x20_1 < (a3.size : Int) := of_decide_eq_true (by first | (with_reducible assumption) | assumption)
                    have hx14 := bt_at a3 x20_1
                    replace p14 := eq_true p14
                    replace q14 := eq_true q14
                    go_wp2
                    go_meet
                    case rel => exact ⟨_, (true), (by first | rfl | (simp; done) | (simp [*]; done) | (exact absurd (Eq.trans (Eq.symm (by assumption : (x20_1 == (a3.size : Int)) = true)) (by assumption : (x20_1 == (a3.size : Int)) = false)) (by decide))), (by first | rfl | (simp; done) | (simp [*]; done) | (simp [Go.Proofs.YtpdkncchjkkmeaaDoor.G.isEmpty_ne]; done) | (exact absurd (Eq.trans (Eq.symm (by assumption : (x20_1 == (a3.size : Int)) = true)) (by assumption : (x20_1 == (a3.size : Int)) = false)) (by decide))), H', ⟨by have := HK1.out; first | omega | exact Nat.le_refl _⟩, ⟨by (with_reducible repeat (first | apply Kd.R_alloc | apply Kd.R_drewN | apply Kd.R_drew)); exact HO_9.out⟩, ⟨by repeat (first | (with_reducible first | exact HB.out | apply below_alloc | apply pw_below_drewN | apply below_drew1) | exact HB.out)⟩⟩
                  · rw [if_neg c15] at H
                    have c15b0 : ((bt a3 x20_1) == 47) = false := beq_eq_false_iff_ne.mpr c15
                    have c15b1 : ((bt a3 x20_1) != 47) = true := bne_iff_ne.mpr c15
                    by_cases c16 : a1 = true
                    · subst c16
                      have H1 : (carryallref10_Walk.j1 k1 a0 true a3 x9_1 x10_1 x20_1 (x20_1 == (a3.size : Int)) ((bt a3 x20_1) == 92) (wrap64 ((a3.size : Int) + 1)) x20_1) = some r := by rw [if_pos rfl] at H; exact H
                      clear H
                      have H := H1
                      clear H1
                      have H' := Aside0.mk H
                      clear H
                      have p14 : 0 ≤ (x20_1 : Int) := of_decide_eq_true (by first | (with_reducible assumption) | assumption)
                      have q14 : x20_1 < (a3.size : Int) := of_decide_eq_true (by first | (with_reducible assumption) | assumption)
                      have hx14 := bt_at a3 x20_1
                      replace p14 := eq_true p14
                      replace q14 := eq_true q14
                      have p17 : 0 ≤ (x20_1 : Int) := of_decide_eq_true (by first | (with_reducible assumption) | assumption)
                      have q17 : x20_1 < (a3.size : Int) := of_decide_eq_true (by first | (with_reducible assumption) | assumption)
                      have hx17 := bt_at a3 x20_1
                      replace p17 := eq_true p17
                      replace q17 := eq_true q17
                      go_wp2
                      go_meet
                      case rel => exact ⟨_, (((bt a3 x20_1) == 92)), (by first | rfl | (simp; done) | (simp [*]; done) | (exact absurd (Eq.trans (Eq.symm (by assumption : (x20_1 == (a3.size : Int)) = true)) (by assumption : (x20_1 == (a3.size : Int)) = false)) (by decide))), (by first | rfl | (simp; done) | (simp [*]; done) | (simp [Go.Proofs.YtpdkncchjkkmeaaDoor.G.isEmpty_ne]; done) | (exact absurd (Eq.trans (Eq.symm (by assumption : (x20_1 == (a3.size : Int)) = true)) (by assumption : (x20_1 == (a3.size : Int)) = false)) (by decide))), H', ⟨by have := HK1.out; first | omega | exact Nat.le_refl _⟩, ⟨by (with_reducible repeat (first | apply Kd.R_alloc | apply Kd.R_drewN | apply Kd.R_drew)); exact HO_9.out⟩, ⟨by repeat (first | (with_reducible first | exact HB.out | apply below_alloc | apply pw_below_drewN | apply below_drew1) | exact HB.out)⟩⟩
                    · replace c16 := Bool.eq_false_iff.mpr c16
                      subst c16
                      have H1 : (carryallref10_Walk.j1 k1 a0 false a3 x9_1 x10_1 x20_1 (x20_1 == (a3.size : Int)) false (wrap64 ((a3.size : Int) + 1)) x20_1) = some r := by rw [if_neg (show ¬ (false = true) by decide)] at H; exact H
                      clear H
                      have H := H1
                      clear H1
                      have H' := Aside0.mk H
                      clear H
                      have p14 : 0 ≤ (x20_1 : Int) := of_decide_eq_true (by first | (with_reducible assumption) | assumption)
                      have q14 : x20_1 < (a3.size : Int) := of_decide_eq_true (by first | (with_reducible assumption) | assumption)
                      have hx14 := bt_at a3 x20_1
                      replace p14 := eq_true p14
                      replace q14 := eq_true q14
                      go_wp2
                      go_meet
                      case rel => exact ⟨_, (false), (by first | rfl | (simp; done) | (simp [*]; done) | (exact absurd (Eq.trans (Eq.symm (by assumption : (x20_1 == (a3.size : Int)) = true)) (by assumption : (x20_1 == (a3.size : Int)) = false)) (by decide))), (by first | rfl | (simp; done) | (simp [*]; done) | (simp [Go.Proofs.YtpdkncchjkkmeaaDoor.G.isEmpty_ne]; done) | (exact absurd (Eq.trans (Eq.symm (by assumption : (x20_1 == (a3.size : Int)) = true)) (by assumption : (x20_1 == (a3.size : Int)) = false)) (by decide))), H', ⟨by have := HK1.out; first | omega | exact Nat.le_refl _⟩, ⟨by (with_reducible repeat (first | apply Kd.R_alloc | apply Kd.R_drewN | apply Kd.R_drew)); exact HO_9.out⟩, ⟨by repeat (first | (with_reducible first | exact HB.out | apply below_alloc | apply pw_below_drewN | apply below_drew1) | exact HB.out)⟩⟩
                · rw [if_neg c13] at H
                  exact absurd H (by simp)
              · rw [if_neg c12] at H
                exact absurd H (by simp)
          case rest =>
            clear HC10
            try clear c1
            try clear p1
            try clear q1
            try clear hx1
            try clear c2
            try clear p2
            try clear c5
            try clear p6
            try clear c9
            try clear c9b0
            try clear c11
            try clear c11b0
            try clear c11b1
            try clear c12
            try clear c12b0
            try clear c13
            try clear c13b0
            try clear p14
            try clear q14
            try clear hx14
            try clear c15
            try clear c15b0
            try clear c15b1
            try clear c16
            try clear p17
            try clear q17
            try clear hx17
            try clear p14
            try clear p17
            try clear p2
            try clear p6
            try clear q14
            try clear q17
            obtain ⟨kq, x13_9, rfl, rfl, HA, HJ9, HO_9, HB⟩ := hcut
            cases kq with
            | zero => exact absurd HA.out (by simp [carryallref10_Walk.j1])
            | succ kj9 =>
              have H := HA.out
              clear HA
              simp only [carryallref10_Walk.j1] at H
              have HC18 := Aside0.mk H
              clear H
              go_upto_region 8 with (fail)
              go_cut [12, 49] (fun v12 v49 wc => ∃ (kq : Nat) (x49_17 : Bool), v12 = .bool (x20_1 == (a3.size : Int)) ∧ v49 = .bool x49_17 ∧ Aside0 (carryallref10_Walk.j2 kq a0 a1 a3 x9_1 x10_1 x20_1 (x20_1 == (a3.size : Int)) (wrap64 ((a3.size : Int) + 1)) x20_1 x49_17 = some r) ∧ Aside0 (kq ≤ kj9) ∧ Aside0 (Kd.R Kd.string 9 wc w.heap.size (fun _ => True) u9 x9_1) ∧ Aside0 (Below w.heap.size w wc))
              case first =>
                have H := HC18.out
                clear HC18
                by_cases c19 : (x20_1 == (a3.size : Int)) = true
                · rw [if_pos c19] at H
                  have c19b0 : (x20_1 == (a3.size : Int)) = true := c19
                  (try (have c19b1 : decide (x20_1 = (a3.size : Int)) = true := by simpa using c19))
                  (try (have c19b2 : (x20_1 == (a3.size : Int)) = true := by simpa using c19))
                  clear c19
                  (first | rw [c19b0] | (simp only [i64_w, i32_w]; rw [c19b0]) | skip)
                  have H' := Aside0.mk H
                  clear H
                  go_wp2
                  go_meet
                  case rel => exact ⟨_, (false), (by first | rfl | (simp; done) | (simp [*]; done) | (exact absurd (Eq.trans (Eq.symm (by assumption : (x20_1 == (a3.size : Int)) = true)) (by assumption : (x20_1 == (a3.size : Int)) = false)) (by decide))), (by first | rfl | (simp; done) | (simp [*]; done) | (simp [Go.Proofs.YtpdkncchjkkmeaaDoor.G.isEmpty_ne]; done) | (exact absurd (Eq.trans (Eq.symm (by assumption : (x20_1 == (a3.size : Int)) = true)) (by assumption : (x20_1 == (a3.size : Int)) = false)) (by decide))), H', ⟨by have := HK1.out; have := HJ9.out; first | omega | exact Nat.le_refl _⟩, ⟨by (with_reducible repeat (first | apply Kd.R_alloc | apply Kd.R_drewN | apply Kd.R_drew)); exact HO_9.out⟩, ⟨by repeat (first | (with_reducible first | exact HB.out | apply below_alloc | apply pw_below_drewN | apply below_drew1) | exact HB.out)⟩⟩
                · rw [if_neg c19] at H
                  have c19b0 : (x20_1 == (a3.size : Int)) = false := by simpa using c19
                  (try (have c19b1 : decide (x20_1 = (a3.size : Int)) = false := by simpa using c19))
                  (try (have c19b2 : (x20_1 == (a3.size : Int)) = false := by simpa using c19))
                  (try (have c19b3 : ¬ (x20_1 = (a3.size : Int)) := by simpa using c19))
                  clear c19
                  (first | rw [c19b0] | (simp only [i64_w, i32_w]; rw [c19b0]) | skip)
                  have H' := Aside0.mk H
                  clear H
                  go_wp2
                  go_meet
                  case rel => exact ⟨_, (!x13_9), (by first | rfl | (simp; done) | (simp [*]; done) | (exact absurd (Eq.trans (Eq.symm (by assumption : (x20_1 == (a3.size : Int)) = true)) (by assumption : (x20_1 == (a3.size : Int)) = false)) (by decide))), (by first | rfl | (simp; done) | (simp [*]; done) | (simp [Go.Proofs.YtpdkncchjkkmeaaDoor.G.isEmpty_ne]; done) | (exact absurd (Eq.trans (Eq.symm (by assumption : (x20_1 == (a3.size : Int)) = true)) (by assumption : (x20_1 == (a3.size : Int)) = false)) (by decide))), H', ⟨by have := HK1.out; have := HJ9.out; first | omega | exact Nat.le_refl _⟩, ⟨by (with_reducible repeat (first | apply Kd.R_alloc | apply Kd.R_drewN | apply Kd.R_drew)); exact HO_9.out⟩, ⟨by repeat (first | (with_reducible first | exact HB.out | apply below_alloc | apply pw_below_drewN | apply below_drew1) | exact HB.out)⟩⟩
              case rest =>
                clear HC18
                try clear c1
                try clear p1
                try clear q1
                try clear hx1
                try clear c2
                try clear p2
                try clear c5
                try clear p6
                try clear c9
                try clear c9b0
                try clear c11
                try clear c11b0
                try clear c11b1
                try clear c12
                try clear c12b0
                try clear c13
                try clear c13b0
                try clear p14
                try clear q14
                try clear hx14
                try clear c15
                try clear c15b0
                try clear c15b1
                try clear c16
                try clear p17
                try clear q17
                try clear hx17
                try clear c19
                try clear c19b0
                try clear c19b1
                try clear c19b2
                try clear p1
                try clear p14
                try clear p17
                try clear p2
                try clear p6
                try clear q1
                try clear q14
                try clear q17
                obtain ⟨kq, x49_17, rfl, rfl, HA, HJ17, HO_9, HB⟩ := hcut
                cases kq with
                | zero => exact absurd HA.out (by simp [carryallref10_Walk.j2])
                | succ kj17 =>
                  have H := HA.out
                  clear HA
                  simp only [carryallref10_Walk.j2] at H
                  by_cases c20 : x49_17 = true
                  · subst c20
                    have H1 : (if 0 ≤ x20_1 then (if x20_1 ≤ (wrap64 (x20_1 + 1)) then (if (wrap64 (x20_1 + 1)) ≤ (a3.size : Int) then (if x10_1.size + (a3.extract (x20_1 : Int).toNat ((wrap64 (x20_1 + 1)) : Int).toNat).size ≤ 9223372036854775807 then (carryallref10_Walk.l0 kj17 a0 a1 a3 x9_1 (x10_1 ++ (a3.extract (x20_1 : Int).toNat ((wrap64 (x20_1 + 1)) : Int).toNat)) (wrap64 ((a3.size : Int) + 1)) (wrap64 (x20_1 + 1))) else (none)) else (none)) else (none)) else (none)) = some r := by rw [if_pos rfl] at H; exact H
                    clear H
                    have H := H1
                    clear H1
                    by_cases c21 : 0 ≤ x20_1
                    · rw [if_pos c21] at H
                      have c21b0 := eq_true c21
                      have c21b1 : decide (0 ≤ x20_1) = true := decide_eq_true c21
                      clear c21
                      by_cases c22 : x20_1 ≤ (wrap64 (x20_1 + 1))
                      · rw [if_pos c22] at H
                        have c22b0 := eq_true c22
                        have c22b1 : decide (x20_1 ≤ (wrap64 (x20_1 + 1))) = true := decide_eq_true c22
                        by_cases c23 : (wrap64 (x20_1 + 1)) ≤ (a3.size : Int)
                        · rw [if_pos c23] at H
                          have c23b0 := eq_true c23
                          have c23b1 : decide ((wrap64 (x20_1 + 1)) ≤ (a3.size : Int)) = true := decide_eq_true c23
                          by_cases c24 : x10_1.size + (a3.extract (x20_1 : Int).toNat ((wrap64 (x20_1 + 1)) : Int).toNat).size ≤ 9223372036854775807
                          · rw [if_pos c24] at H
                            have c24b0 := eq_true c24
                            have c24b1 : decide (x10_1.size + (a3.extract (x20_1 : Int).toNat ((wrap64 (x20_1 + 1)) : Int).toNat).size ≤ 9223372036854775807) = true := decide_eq_true c24
                            try have c24b2 : (9223372036854775807 < x10_1.size + (a3.extract (x20_1 : Int).toNat ((wrap64 (x20_1 + 1)) : Int).toNat).size) = False := eq_false (Nat.not_lt.2 c24)
                            have H' := Aside0.mk H
                            clear H
                            go_wp2
                            go_roundg kj17
                            case measure => have := HK1.out; have := HJ9.out; have := HJ17.out; omega
                            case rel => exact ⟨(x9_1), (x10_1 ++ (a3.extract (x20_1 : Int).toNat ((wrap64 (x20_1 + 1)) : Int).toNat)), (wrap64 (x20_1 + 1)), (by first | rfl | (simp; done) | (simp [*]; done) | (simp [Go.Proofs.YtpdkncchjkkmeaaDoor.G.isEmpty_ne]; done)), (by first | rfl | (simp; done) | (simp [*]; done) | (simp [Go.Proofs.YtpdkncchjkkmeaaDoor.G.isEmpty_ne]; done)), H', ⟨by have := HK1.out; have := HJ9.out; have := HJ17.out; omega⟩, ⟨by (with_reducible repeat (first | apply Kd.R_alloc | apply Kd.R_drewN | apply Kd.R_drew)); exact HO_9.out⟩, ⟨by repeat (first | (with_reducible first | exact HB.out | apply below_alloc | apply pw_below_drewN | apply below_drew1) | exact HB.out)⟩⟩
                          · rw [if_neg c24] at H
                            exact absurd H (by simp)
                        · rw [if_neg c23] at H
                          exact absurd H (by simp)
                      · rw [if_neg c22] at H
                        exact absurd H (by simp)
                    · rw [if_neg c21] at H
                      exact absurd H (by simp)
                  · replace c20 := Bool.eq_false_iff.mpr c20
                    subst c20
                    have H1 : ((carryallref10_Double.f kj17 x10_1).bind fun t254 => (if t254 = true then ((some (([] : List ByteArray) : List ByteArray)).bind fun y255 => ((carryallref10_Shorten.f a0 x9_1).bind fun t258 => (if y255.length + t258.length < 8796093022208 then ((some (y255 ++ t258 : List ByteArray)).bind fun y261 => (if (x20_1 == (a3.size : Int)) = true then (if y261.length < 8796093022208 then (carryallref10_Walk.l0 kj17 a0 a1 a3 (y261 ++ [(⟨#[]⟩ : ByteArray)]) (⟨#[]⟩ : ByteArray) (wrap64 ((a3.size : Int) + 1)) (wrap64 (x20_1 + 1))) else (none)) else (carryallref10_Walk.l0 kj17 a0 a1 a3 y261 (⟨#[]⟩ : ByteArray) (wrap64 ((a3.size : Int) + 1)) (wrap64 (x20_1 + 1))))) else (none)))) else ((carryallref10_Single.f kj17 x10_1).bind fun t267 => (if t267 = true then (if (x20_1 == (a3.size : Int)) = true then (if x9_1.length < 8796093022208 then (carryallref10_Walk.l0 kj17 a0 a1 a3 (x9_1 ++ [(⟨#[]⟩ : ByteArray)]) (⟨#[]⟩ : ByteArray) (wrap64 ((a3.size : Int) + 1)) (wrap64 (x20_1 + 1))) else (none)) else (carryallref10_Walk.l0 kj17 a0 a1 a3 x9_1 (⟨#[]⟩ : ByteArray) (wrap64 ((a3.size : Int) + 1)) (wrap64 (x20_1 + 1)))) else (if a0 = true then (if (x9_1.length : Int) = 0 then ((carryallref10_Drive.f x10_1).bind fun t271 => (if t271 = true then (if 0 ≤ 1 then (if 1 ≤ (x10_1.size : Int) then (if (x10_1.extract 0 1).size + 1 ≤ 9223372036854775807 then ((carryallref02_Encode.f kj17 4 ((x10_1.extract 0 1) ++ (⟨#[58]⟩ : ByteArray))).bind fun t272 => (if x9_1.length < 8796093022208 then (carryallref10_Walk.l0 kj17 a0 a1 a3 (x9_1 ++ [t272]) (⟨#[]⟩ : ByteArray) (wrap64 ((a3.size : Int) + 1)) (wrap64 (x20_1 + 1))) else (none))) else (none)) else (none)) else (none)) else ((carryallref02_Encode.f kj17 4 x10_1).bind fun t276 => (if x9_1.length < 8796093022208 then (carryallref10_Walk.l0 kj17 a0 a1 a3 (x9_1 ++ [t276]) (⟨#[]⟩ : ByteArray) (wrap64 ((a3.size : Int) + 1)) (wrap64 (x20_1 + 1))) else (none))))) else ((carryallref02_Encode.f kj17 4 x10_1).bind fun t280 => (if x9_1.length < 8796093022208 then (carryallref10_Walk.l0 kj17 a0 a1 a3 (x9_1 ++ [t280]) (⟨#[]⟩ : ByteArray) (wrap64 ((a3.size : Int) + 1)) (wrap64 (x20_1 + 1))) else (none)))) else ((carryallref02_Encode.f kj17 4 x10_1).bind fun t284 => (if x9_1.length < 8796093022208 then (carryallref10_Walk.l0 kj17 a0 a1 a3 (x9_1 ++ [t284]) (⟨#[]⟩ : ByteArray) (wrap64 ((a3.size : Int) + 1)) (wrap64 (x20_1 + 1))) else (none)))))))) = some r := by rw [if_neg (show ¬ (false = true) by decide)] at H; exact H
                    clear H
                    have H := H1
                    clear H1
                    replace H := Option.bind_eq_some_iff.mp H
                    obtain ⟨t254, A250, H⟩ := H
                    replace H : (if t254 = true then ((some (([] : List ByteArray) : List ByteArray)).bind fun y255 => ((carryallref10_Shorten.f a0 x9_1).bind fun t258 => (if y255.length + t258.length < 8796093022208 then ((some (y255 ++ t258 : List ByteArray)).bind fun y261 => (if (x20_1 == (a3.size : Int)) = true then (if y261.length < 8796093022208 then (carryallref10_Walk.l0 kj17 a0 a1 a3 (y261 ++ [(⟨#[]⟩ : ByteArray)]) (⟨#[]⟩ : ByteArray) (wrap64 ((a3.size : Int) + 1)) (wrap64 (x20_1 + 1))) else (none)) else (carryallref10_Walk.l0 kj17 a0 a1 a3 y261 (⟨#[]⟩ : ByteArray) (wrap64 ((a3.size : Int) + 1)) (wrap64 (x20_1 + 1))))) else (none)))) else ((carryallref10_Single.f kj17 x10_1).bind fun t267 => (if t267 = true then (if (x20_1 == (a3.size : Int)) = true then (if x9_1.length < 8796093022208 then (carryallref10_Walk.l0 kj17 a0 a1 a3 (x9_1 ++ [(⟨#[]⟩ : ByteArray)]) (⟨#[]⟩ : ByteArray) (wrap64 ((a3.size : Int) + 1)) (wrap64 (x20_1 + 1))) else (none)) else (carryallref10_Walk.l0 kj17 a0 a1 a3 x9_1 (⟨#[]⟩ : ByteArray) (wrap64 ((a3.size : Int) + 1)) (wrap64 (x20_1 + 1)))) else (if a0 = true then (if (x9_1.length : Int) = 0 then ((carryallref10_Drive.f x10_1).bind fun t271 => (if t271 = true then (if 0 ≤ 1 then (if 1 ≤ (x10_1.size : Int) then (if (x10_1.extract 0 1).size + 1 ≤ 9223372036854775807 then ((carryallref02_Encode.f kj17 4 ((x10_1.extract 0 1) ++ (⟨#[58]⟩ : ByteArray))).bind fun t272 => (if x9_1.length < 8796093022208 then (carryallref10_Walk.l0 kj17 a0 a1 a3 (x9_1 ++ [t272]) (⟨#[]⟩ : ByteArray) (wrap64 ((a3.size : Int) + 1)) (wrap64 (x20_1 + 1))) else (none))) else (none)) else (none)) else (none)) else ((carryallref02_Encode.f kj17 4 x10_1).bind fun t276 => (if x9_1.length < 8796093022208 then (carryallref10_Walk.l0 kj17 a0 a1 a3 (x9_1 ++ [t276]) (⟨#[]⟩ : ByteArray) (wrap64 ((a3.size : Int) + 1)) (wrap64 (x20_1 + 1))) else (none))))) else ((carryallref02_Encode.f kj17 4 x10_1).bind fun t280 => (if x9_1.length < 8796093022208 then (carryallref10_Walk.l0 kj17 a0 a1 a3 (x9_1 ++ [t280]) (⟨#[]⟩ : ByteArray) (wrap64 ((a3.size : Int) + 1)) (wrap64 (x20_1 + 1))) else (none)))) else ((carryallref02_Encode.f kj17 4 x10_1).bind fun t284 => (if x9_1.length < 8796093022208 then (carryallref10_Walk.l0 kj17 a0 a1 a3 (x9_1 ++ [t284]) (⟨#[]⟩ : ByteArray) (wrap64 ((a3.size : Int) + 1)) (wrap64 (x20_1 + 1))) else (none))))))) = some r := H
                    have A25 := Aside0.mk A250
                    clear A250
                    by_cases c26 : t254 = true
                    · subst c26
                      have H1 : ((some (([] : List ByteArray) : List ByteArray)).bind fun y255 => ((carryallref10_Shorten.f a0 x9_1).bind fun t258 => (if y255.length + t258.length < 8796093022208 then ((some (y255 ++ t258 : List ByteArray)).bind fun y261 => (if (x20_1 == (a3.size : Int)) = true then (if y261.length < 8796093022208 then (carryallref10_Walk.l0 kj17 a0 a1 a3 (y261 ++ [(⟨#[]⟩ : ByteArray)]) (⟨#[]⟩ : ByteArray) (wrap64 ((a3.size : Int) + 1)) (wrap64 (x20_1 + 1))) else (none)) else (carryallref10_Walk.l0 kj17 a0 a1 a3 y261 (⟨#[]⟩ : ByteArray) (wrap64 ((a3.size : Int) + 1)) (wrap64 (x20_1 + 1))))) else (none)))) = some r := by rw [if_pos rfl] at H; exact H
                      clear H
                      have H := H1
                      clear H1
                      obtain ⟨y255, hy255⟩ : ∃ y_ : List ByteArray, y_ = (([] : List ByteArray)) := ⟨_, rfl⟩
                      replace H : ((carryallref10_Shorten.f a0 x9_1).bind fun t258 => (if y255.length + t258.length < 8796093022208 then ((some (y255 ++ t258 : List ByteArray)).bind fun y261 => (if (x20_1 == (a3.size : Int)) = true then (if y261.length < 8796093022208 then (carryallref10_Walk.l0 kj17 a0 a1 a3 (y261 ++ [(⟨#[]⟩ : ByteArray)]) (⟨#[]⟩ : ByteArray) (wrap64 ((a3.size : Int) + 1)) (wrap64 (x20_1 + 1))) else (none)) else (carryallref10_Walk.l0 kj17 a0 a1 a3 y261 (⟨#[]⟩ : ByteArray) (wrap64 ((a3.size : Int) + 1)) (wrap64 (x20_1 + 1))))) else (none))) = some r := by first | (rw [hy255]; with_reducible exact H) | (have H2_ := (Option.bind_some _ _).symm.trans H; rw [hy255]; with_reducible exact H2_) | (have H2_ := (Option.bind_some _ _).symm.trans H; with_reducible exact H2_) | with_reducible exact H | (rw [hy255]; exact H) | exact H
                      have Ny255 := Aside0.mk hy255
                      clear hy255
                      replace H := Option.bind_eq_some_iff.mp H
                      obtain ⟨t258, A270, H⟩ := H
                      replace H : (if y255.length + t258.length < 8796093022208 then ((some (y255 ++ t258 : List ByteArray)).bind fun y261 => (if (x20_1 == (a3.size : Int)) = true then (if y261.length < 8796093022208 then (carryallref10_Walk.l0 kj17 a0 a1 a3 (y261 ++ [(⟨#[]⟩ : ByteArray)]) (⟨#[]⟩ : ByteArray) (wrap64 ((a3.size : Int) + 1)) (wrap64 (x20_1 + 1))) else (none)) else (carryallref10_Walk.l0 kj17 a0 a1 a3 y261 (⟨#[]⟩ : ByteArray) (wrap64 ((a3.size : Int) + 1)) (wrap64 (x20_1 + 1))))) else (none)) = some r := H
                      have A27 := Aside0.mk A270
                      clear A270
                      by_cases c28 : y255.length + t258.length < 8796093022208
                      · rw [if_pos c28] at H
                        have LMc28 := Aside0.mk c28
                        clear c28
                        obtain ⟨y261, hy261⟩ : ∃ y_ : List ByteArray, y_ = (y255 ++ t258) := ⟨_, rfl⟩
                        replace H : (if (x20_1 == (a3.size : Int)) = true then (if y261.length < 8796093022208 then (carryallref10_Walk.l0 kj17 a0 a1 a3 (y261 ++ [(⟨#[]⟩ : ByteArray)]) (⟨#[]⟩ : ByteArray) (wrap64 ((a3.size : Int) + 1)) (wrap64 (x20_1 + 1))) else (none)) else (carryallref10_Walk.l0 kj17 a0 a1 a3 y261 (⟨#[]⟩ : ByteArray) (wrap64 ((a3.size : Int) + 1)) (wrap64 (x20_1 + 1)))) = some r := by first | (rw [hy261]; with_reducible exact H) | (have H2_ := (Option.bind_some _ _).symm.trans H; rw [hy261]; with_reducible exact H2_) | (have H2_ := (Option.bind_some _ _).symm.trans H; with_reducible exact H2_) | with_reducible exact H | (rw [hy261]; exact H) | exact H
                        have Ny261 := Aside0.mk hy261
                        clear hy261
                        by_cases c29 : (x20_1 == (a3.size : Int)) = true
                        · rw [if_pos c29] at H
                          have c29b0 : (x20_1 == (a3.size : Int)) = true := c29
                          (try (have c29b1 : decide (x20_1 = (a3.size : Int)) = true := by simpa using c29))
                          (try (have c29b2 : (x20_1 == (a3.size : Int)) = true := by simpa using c29))
                          clear c29
                          by_cases c30 : y261.length < 8796093022208
                          · rw [if_pos c30] at H
                            have LMc30 := Aside0.mk c30
                            clear c30
                            obtain ⟨y264, hy264⟩ : ∃ y_ : List ByteArray, y_ = (y261 ++ [(⟨#[]⟩ : ByteArray)]) := ⟨_, rfl⟩
                            replace H : (carryallref10_Walk.l0 kj17 a0 a1 a3 y264 (⟨#[]⟩ : ByteArray) (wrap64 ((a3.size : Int) + 1)) (wrap64 (x20_1 + 1))) = some r := by first | (rw [hy264]; with_reducible exact H) | (have H2_ := (Option.bind_some _ _).symm.trans H; rw [hy264]; with_reducible exact H2_) | (have H2_ := (Option.bind_some _ _).symm.trans H; with_reducible exact H2_) | with_reducible exact H | (rw [hy264]; exact H) | exact H
                            have Ny264 := Aside0.mk hy264
                            clear hy264
                            have H' := Aside0.mk H
                            clear H
                            go_wp2_with (first | ((with_reducible refine gate_callee (f := 17) rfl ?_); refine goesL_ (some 58) rfl rfl Tryd.func17 (by kernel_rfl) rfl #[.string x10_1] rfl (by (try simp only [List.map_toArray, List.map_cons, List.map_nil]); first | done | rfl | (simp only [List.length_drop, List.length_take]; rfl)) ?_; (with_reducible refine (carryallref10_Double.calls kj17 x10_1 true _ A25.out).mono ?_); rintro e w31 ⟨rfl, hb⟩; refine ⟨_, rfl, ?_⟩; have n0_ := Aside0.mk (Kd.R_below (by (with_reducible repeat (first | apply Kd.R_alloc | apply Kd.R_drewN | apply Kd.R_drew)); exact HO_9.out) hb); have n1_ := Aside0.mk (below_step (by repeat (first | (with_reducible first | exact HB.out | apply below_alloc | apply pw_below_drewN | apply below_drew1) | exact HB.out)) hb); clear HO_9; clear HB; have HO_9 := n0_; have HB := n1_; clear n0_ n1_; (try clear hb); (try clear hb2); (try clear hk); (try clear hi)) | ((with_reducible refine gate_dst (N := 59) rfl ?_); (try (refine gate_guard (by rfl) ?_; dsimp only)); refine Kd.R_lit Kd.string _ 9 ?hg (N := 59) ?hd (xs := ([] : List ByteArray)) (inner := []) (ok := fun _ => True) (okp := fun _ => True) ?hr ?hp (fun _ hk => hk) trivial (Below.refl _ _) (Nat.le_refl _) (by simp) ?_; (case hd => rfl); (case hg => rfl); (case hr => first | (go_simp; done) | (go_simp; rfl)); (case hp => exact (Reps.none _ _)); intro v256 w32 ho33 hb hg_ hnew_; clear hg_ hnew_; (first | rw [← Ny255.out] at ho33 | (simp only [Int.reduceToNat] at ho33; rw [← Ny255.out] at ho33)); have n0_ := Aside0.mk (Kd.R_elder' (by (with_reducible repeat (first | apply Kd.R_alloc | apply Kd.R_drewN | apply Kd.R_drew)); exact HO_9.out) (Kd.R_base ho33) hb); have n1_ := Aside0.mk (Kd.R_lower (Kd.R_new' ho33 (Kd.R_lt (by (with_reducible repeat (first | apply Kd.R_alloc | apply Kd.R_drewN | apply Kd.R_drew)); exact HO_9.out))) (below_size (by repeat (first | (with_reducible first | exact HB.out | apply below_alloc | apply pw_below_drewN | apply below_drew1) | exact HB.out)))); have n2_ := Aside0.mk (below_step (by repeat (first | (with_reducible first | exact HB.out | apply below_alloc | apply pw_below_drewN | apply below_drew1) | exact HB.out)) hb); clear HO_9; clear HB; have HO_9 := n0_; have HO257 := n1_; have HB := n2_; clear n0_ n1_ n2_; clear hb ho33; obtain ⟨Ao34, co34, eo34⟩ := Kd.R_slice HO_9.out; subst eo34) | ((with_reducible refine gate_callee (f := 13) rfl ?_); refine goesL_ (some 62) rfl rfl Tryd.func13 (by kernel_rfl) rfl #[.bool a0, .slice Ao34 x9_1.length co34] rfl (by (try simp only [List.map_toArray, List.map_cons, List.map_nil]); first | done | rfl | (simp only [List.length_drop, List.length_take]; rfl)) ?_; (with_reducible refine (carryallref10_Shorten.calls a0 (fun k_ => some k_ = (.slice Ao34 x9_1.length co34 : Value).ownBlock) (.slice Ao34 x9_1.length co34) x9_1 t258 w _ ?side1 ?side2 A27.out).mono ?_); (case side1 => repeat (first | (with_reducible first | exact HB.out | apply below_alloc | apply pw_below_drewN | apply below_drew1) | exact HB.out)); (case side2 => exact Kd.R_tight rfl HO_9.out); rintro e w35 ⟨v259, rfl, ho0, hb, hkp⟩; refine ⟨_, rfl, ?_⟩; have n0_ := Aside0.mk (Kd.R_mono (ok' := fun k_ => some k_ ≠ (v259 : Value).ownBlock) (Kd.R_keptB (HO257.out) hkp (fun k_ hk_ hs_ => (hk_.2) hs_)) (fun k_ hk_ => fun e_ => Or.elim (ho0.1 k_ e_.symm) (fun hs_ => hk_.2.1 hs_) (fun hn_ => Nat.not_le.2 hk_.2.2 hn_))); have n1_ := Aside0.mk (Kd.R_mono (ok' := fun k_ => some k_ ≠ (v256 : Value).ownBlock) ho0 (fun k_ hk_ => Or.elim hk_ (fun hs_ => fun e_ => (((HO257.out).1 k_ e_.symm).2) hs_) (fun hn_ => (Kd.fresh' (Kd.R_lt (by (with_reducible repeat (first | apply Kd.R_alloc | apply Kd.R_drewN | apply Kd.R_drew)); exact HO257.out)) k_ hn_)))); have n2_ := Aside0.mk (hb); clear HO257; clear HB; clear HO_9; have HO257 := n0_; have HO260 := n1_; have HB := n2_; clear n0_ n1_ n2_; (try clear hb); (try clear hkp); (try clear ho0); obtain ⟨Ao37, co37, eo37⟩ := Kd.R_slice HO260.out; subst eo37) | ((with_reducible refine gate_builtin (b := .append) (xs := #[.tmp 59, .tmp 62]) rfl ?_); (try (refine gate_guard (by rfl) ?_; dsimp only)); at_builtin; refine Kd.R_append_rows Kd.string (w0 := w) w.heap.size rfl (.tmp 59) (.tmp 62) 22 9 (.string ⟨#[]⟩) 16 rfl Tryd.underlying22 info9 rfl (by decide) (by omega) v256 y255 t258 _ _ _ (fun k_ => some k_ ≠ (.slice Ao37 t258.length co37 : Value).ownBlock) (fun _ => False) rfl rfl ?aO ?aR (fun _ _ h => h) (fun _ h => h.elim) ?aF ?aB ?aS ?aL ?_; (case aR => repeat (first | exact (Kd.R_reads' HO260.out).2.2 | (with_reducible refine Kd.C_alloc ?_ _) | (with_reducible refine Kd.C_drewN ?_ _) | (with_reducible refine Kd.C_drew ?_))); (case aB => exact (by repeat (first | (with_reducible first | exact HB.out | apply below_alloc | apply pw_below_drewN | apply below_drew1) | exact HB.out))); (case aF => exact (fun k_ hk => Kd.fresh' (Kd.R_lt (by (with_reducible repeat (first | apply Kd.R_alloc | apply Kd.R_drewN | apply Kd.R_drew)); exact HO260.out)) k_ hk)); (case aO => exact (by (with_reducible repeat (first | apply Kd.R_alloc | apply Kd.R_drewN | apply Kd.R_drew)); exact HO257.out)); (case aS => exact (below_size (by repeat (first | (with_reducible first | exact HB.out | apply below_alloc | apply pw_below_drewN | apply below_drew1) | exact HB.out)))); (case aL => have := LMc28.out; omega); intro v262 w36 ho hb hg hat; rw [← Ny261.out] at ho; have n0_ := Aside0.mk (Kd.R_after (ok := (fun _ => True)) (by (with_reducible repeat (first | apply Kd.R_alloc | apply Kd.R_drewN | apply Kd.R_drew)); exact Kd.R_mono HO260.out (fun _ hk => ⟨trivial, hk⟩)) hg hat); have n1_ := Aside0.mk (hb); have n2_ := Aside0.mk (ho); clear HO260; clear HB; clear HO257; have HO260 := n0_; have HB := n1_; have HO263 := n2_; clear n0_ n1_ n2_; clear ho hb hg hat) | ((with_reducible refine gate_builtin (b := .append) (xs := #[.tmp 65, .tmp 66]) rfl ?_); (try (refine gate_guard (by rfl) ?_; dsimp only)); at_builtin; refine Kd.R_append Kd.string (w0 := w) w.heap.size rfl (.tmp 65) (.tmp 66) 22 9 (.string ⟨#[]⟩) 16 rfl Tryd.underlying22 info9 rfl (by decide) (by omega) v262 y261 (⟨#[]⟩ : ByteArray) [.string (⟨#[]⟩ : ByteArray)] (fun k_ => some k_ ≠ (.slice Ao37 t258.length co37 : Value).ownBlock) (fun _ => False) rfl rfl ?aP (fun _ hk => hk.elim) ?aF ?aO ?aB ?aS ?aL ?_; (case aP => exact rfl); (case aB => exact (by repeat (first | (with_reducible first | exact HB.out | apply below_alloc | apply pw_below_drewN | apply below_drew1) | exact HB.out))); (case aF => exact (fun k_ hk => Kd.fresh' (Kd.R_lt (by (with_reducible repeat (first | apply Kd.R_alloc | apply Kd.R_drewN | apply Kd.R_drew)); exact HO260.out)) k_ hk)); (case aO => exact (by (with_reducible repeat (first | apply Kd.R_alloc | apply Kd.R_drewN | apply Kd.R_drew)); exact HO263.out)); (case aS => exact (below_size (by repeat (first | (with_reducible first | exact HB.out | apply below_alloc | apply pw_below_drewN | apply below_drew1) | exact HB.out)))); (case aL => have := LMc30.out; omega); intro v265 w38 ho hb hg hat; rw [← Ny264.out] at ho; have n0_ := Aside0.mk (Kd.R_after (ok := (fun _ => True)) (by (with_reducible repeat (first | apply Kd.R_alloc | apply Kd.R_drewN | apply Kd.R_drew)); exact HO260.out) hg hat); have n1_ := Aside0.mk (hb); have n2_ := Aside0.mk (ho); clear HO260; clear HB; clear HO263; have HO260 := n0_; have HB := n1_; have HO266 := n2_; clear n0_ n1_ n2_; clear ho hb hg hat))
                            go_roundg kj17
                            case measure => have := HK1.out; have := HJ9.out; have := HJ17.out; omega
                            case rel => exact ⟨(y264), ((⟨#[]⟩ : ByteArray)), (wrap64 (x20_1 + 1)), (by first | rfl | (simp; done) | (simp [*]; done) | (simp [Go.Proofs.YtpdkncchjkkmeaaDoor.G.isEmpty_ne]; done)), (by first | rfl | (simp; done) | (simp [*]; done) | (simp [Go.Proofs.YtpdkncchjkkmeaaDoor.G.isEmpty_ne]; done)), H', ⟨by have := HK1.out; have := HJ9.out; have := HJ17.out; omega⟩, ⟨by (with_reducible repeat (first | apply Kd.R_alloc | apply Kd.R_drewN | apply Kd.R_drew)); exact Kd.R_mono HO266.out (fun _ hk => trivial)⟩, ⟨by repeat (first | (with_reducible first | exact HB.out | apply below_alloc | apply pw_below_drewN | apply below_drew1) | exact HB.out)⟩⟩
                          · rw [if_neg c30] at H
                            exact absurd H (by simp)
                        · rw [if_neg c29] at H
                          have c29b0 : (x20_1 == (a3.size : Int)) = false := by simpa using c29
                          (try (have c29b1 : decide (x20_1 = (a3.size : Int)) = false := by simpa using c29))
                          (try (have c29b2 : (x20_1 == (a3.size : Int)) = false := by simpa using c29))
                          (try (have c29b3 : ¬ (x20_1 = (a3.size : Int)) := by simpa using c29))
                          clear c29
                          have H' := Aside0.mk H
                          clear H
                          go_wp2_with (first | ((with_reducible refine gate_callee (f := 17) rfl ?_); refine goesL_ (some 58) rfl rfl Tryd.func17 (by kernel_rfl) rfl #[.string x10_1] rfl (by (try simp only [List.map_toArray, List.map_cons, List.map_nil]); first | done | rfl | (simp only [List.length_drop, List.length_take]; rfl)) ?_; (with_reducible refine (carryallref10_Double.calls kj17 x10_1 true _ A25.out).mono ?_); rintro e w39 ⟨rfl, hb⟩; refine ⟨_, rfl, ?_⟩; have n0_ := Aside0.mk (Kd.R_below (by (with_reducible repeat (first | apply Kd.R_alloc | apply Kd.R_drewN | apply Kd.R_drew)); exact HO_9.out) hb); have n1_ := Aside0.mk (below_step (by repeat (first | (with_reducible first | exact HB.out | apply below_alloc | apply pw_below_drewN | apply below_drew1) | exact HB.out)) hb); clear HO_9; clear HB; have HO_9 := n0_; have HB := n1_; clear n0_ n1_; (try clear hb); (try clear hb2); (try clear hk); (try clear hi)) | ((with_reducible refine gate_dst (N := 59) rfl ?_); (try (refine gate_guard (by rfl) ?_; dsimp only)); refine Kd.R_lit Kd.string _ 9 ?hg (N := 59) ?hd (xs := ([] : List ByteArray)) (inner := []) (ok := fun _ => True) (okp := fun _ => True) ?hr ?hp (fun _ hk => hk) trivial (Below.refl _ _) (Nat.le_refl _) (by simp) ?_; (case hd => rfl); (case hg => rfl); (case hr => first | (go_simp; done) | (go_simp; rfl)); (case hp => exact (Reps.none _ _)); intro v256 w40 ho41 hb hg_ hnew_; clear hg_ hnew_; (first | rw [← Ny255.out] at ho41 | (simp only [Int.reduceToNat] at ho41; rw [← Ny255.out] at ho41)); have n0_ := Aside0.mk (Kd.R_elder' (by (with_reducible repeat (first | apply Kd.R_alloc | apply Kd.R_drewN | apply Kd.R_drew)); exact HO_9.out) (Kd.R_base ho41) hb); have n1_ := Aside0.mk (Kd.R_lower (Kd.R_new' ho41 (Kd.R_lt (by (with_reducible repeat (first | apply Kd.R_alloc | apply Kd.R_drewN | apply Kd.R_drew)); exact HO_9.out))) (below_size (by repeat (first | (with_reducible first | exact HB.out | apply below_alloc | apply pw_below_drewN | apply below_drew1) | exact HB.out)))); have n2_ := Aside0.mk (below_step (by repeat (first | (with_reducible first | exact HB.out | apply below_alloc | apply pw_below_drewN | apply below_drew1) | exact HB.out)) hb); clear HO_9; clear HB; have HO_9 := n0_; have HO257 := n1_; have HB := n2_; clear n0_ n1_ n2_; clear hb ho41; obtain ⟨Ao42, co42, eo42⟩ := Kd.R_slice HO_9.out; subst eo42) | ((with_reducible refine gate_callee (f := 13) rfl ?_); refine goesL_ (some 62) rfl rfl Tryd.func13 (by kernel_rfl) rfl #[.bool a0, .slice Ao42 x9_1.length co42] rfl (by (try simp only [List.map_toArray, List.map_cons, List.map_nil]); first | done | rfl | (simp only [List.length_drop, List.length_take]; rfl)) ?_; (with_reducible refine (carryallref10_Shorten.calls a0 (fun k_ => some k_ = (.slice Ao42 x9_1.length co42 : Value).ownBlock) (.slice Ao42 x9_1.length co42) x9_1 t258 w _ ?side1 ?side2 A27.out).mono ?_); (case side1 => repeat (first | (with_reducible first | exact HB.out | apply below_alloc | apply pw_below_drewN | apply below_drew1) | exact HB.out)); (case side2 => exact Kd.R_tight rfl HO_9.out); rintro e w43 ⟨v259, rfl, ho0, hb, hkp⟩; refine ⟨_, rfl, ?_⟩; have n0_ := Aside0.mk (Kd.R_mono (ok' := fun k_ => some k_ ≠ (v259 : Value).ownBlock) (Kd.R_keptB (HO257.out) hkp (fun k_ hk_ hs_ => (hk_.2) hs_)) (fun k_ hk_ => fun e_ => Or.elim (ho0.1 k_ e_.symm) (fun hs_ => hk_.2.1 hs_) (fun hn_ => Nat.not_le.2 hk_.2.2 hn_))); have n1_ := Aside0.mk (Kd.R_mono (ok' := fun k_ => some k_ ≠ (v256 : Value).ownBlock) ho0 (fun k_ hk_ => Or.elim hk_ (fun hs_ => fun e_ => (((HO257.out).1 k_ e_.symm).2) hs_) (fun hn_ => (Kd.fresh' (Kd.R_lt (by (with_reducible repeat (first | apply Kd.R_alloc | apply Kd.R_drewN | apply Kd.R_drew)); exact HO257.out)) k_ hn_)))); have n2_ := Aside0.mk (hb); clear HO257; clear HB; clear HO_9; have HO257 := n0_; have HO260 := n1_; have HB := n2_; clear n0_ n1_ n2_; (try clear hb); (try clear hkp); (try clear ho0); obtain ⟨Ao45, co45, eo45⟩ := Kd.R_slice HO260.out; subst eo45) | ((with_reducible refine gate_builtin (b := .append) (xs := #[.tmp 59, .tmp 62]) rfl ?_); (try (refine gate_guard (by rfl) ?_; dsimp only)); at_builtin; refine Kd.R_append_rows Kd.string (w0 := w) w.heap.size rfl (.tmp 59) (.tmp 62) 22 9 (.string ⟨#[]⟩) 16 rfl Tryd.underlying22 info9 rfl (by decide) (by omega) v256 y255 t258 _ _ _ (fun k_ => some k_ ≠ (.slice Ao45 t258.length co45 : Value).ownBlock) (fun _ => False) rfl rfl ?aO ?aR (fun _ _ h => h) (fun _ h => h.elim) ?aF ?aB ?aS ?aL ?_; (case aR => repeat (first | exact (Kd.R_reads' HO260.out).2.2 | (with_reducible refine Kd.C_alloc ?_ _) | (with_reducible refine Kd.C_drewN ?_ _) | (with_reducible refine Kd.C_drew ?_))); (case aB => exact (by repeat (first | (with_reducible first | exact HB.out | apply below_alloc | apply pw_below_drewN | apply below_drew1) | exact HB.out))); (case aF => exact (fun k_ hk => Kd.fresh' (Kd.R_lt (by (with_reducible repeat (first | apply Kd.R_alloc | apply Kd.R_drewN | apply Kd.R_drew)); exact HO260.out)) k_ hk)); (case aO => exact (by (with_reducible repeat (first | apply Kd.R_alloc | apply Kd.R_drewN | apply Kd.R_drew)); exact HO257.out)); (case aS => exact (below_size (by repeat (first | (with_reducible first | exact HB.out | apply below_alloc | apply pw_below_drewN | apply below_drew1) | exact HB.out)))); (case aL => have := LMc28.out; omega); intro v262 w44 ho hb hg hat; rw [← Ny261.out] at ho; have n0_ := Aside0.mk (Kd.R_after (ok := (fun _ => True)) (by (with_reducible repeat (first | apply Kd.R_alloc | apply Kd.R_drewN | apply Kd.R_drew)); exact Kd.R_mono HO260.out (fun _ hk => ⟨trivial, hk⟩)) hg hat); have n1_ := Aside0.mk (hb); have n2_ := Aside0.mk (ho); clear HO260; clear HB; clear HO257; have HO260 := n0_; have HB := n1_; have HO263 := n2_; clear n0_ n1_ n2_; clear ho hb hg hat))
                          go_roundg kj17
                          case measure => have := HK1.out; have := HJ9.out; have := HJ17.out; omega
                          case rel => exact ⟨(y261), ((⟨#[]⟩ : ByteArray)), (wrap64 (x20_1 + 1)), (by first | rfl | (simp; done) | (simp [*]; done) | (simp [Go.Proofs.YtpdkncchjkkmeaaDoor.G.isEmpty_ne]; done)), (by first | rfl | (simp; done) | (simp [*]; done) | (simp [Go.Proofs.YtpdkncchjkkmeaaDoor.G.isEmpty_ne]; done)), H', ⟨by have := HK1.out; have := HJ9.out; have := HJ17.out; omega⟩, ⟨by (with_reducible repeat (first | apply Kd.R_alloc | apply Kd.R_drewN | apply Kd.R_drew)); exact Kd.R_mono HO263.out (fun _ hk => trivial)⟩, ⟨by repeat (first | (with_reducible first | exact HB.out | apply below_alloc | apply pw_below_drewN | apply below_drew1) | exact HB.out)⟩⟩
                      · rw [if_neg c28] at H
                        exact absurd H (by simp)
                    · replace c26 := Bool.eq_false_iff.mpr c26
                      subst c26
                      have H1 : ((carryallref10_Single.f kj17 x10_1).bind fun t267 => (if t267 = true then (if (x20_1 == (a3.size : Int)) = true then (if x9_1.length < 8796093022208 then (carryallref10_Walk.l0 kj17 a0 a1 a3 (x9_1 ++ [(⟨#[]⟩ : ByteArray)]) (⟨#[]⟩ : ByteArray) (wrap64 ((a3.size : Int) + 1)) (wrap64 (x20_1 + 1))) else (none)) else (carryallref10_Walk.l0 kj17 a0 a1 a3 x9_1 (⟨#[]⟩ : ByteArray) (wrap64 ((a3.size : Int) + 1)) (wrap64 (x20_1 + 1)))) else (if a0 = true then (if (x9_1.length : Int) = 0 then ((carryallref10_Drive.f x10_1).bind fun t271 => (if t271 = true then (if 0 ≤ 1 then (if 1 ≤ (x10_1.size : Int) then (if (x10_1.extract 0 1).size + 1 ≤ 9223372036854775807 then ((carryallref02_Encode.f kj17 4 ((x10_1.extract 0 1) ++ (⟨#[58]⟩ : ByteArray))).bind fun t272 => (if x9_1.length < 8796093022208 then (carryallref10_Walk.l0 kj17 a0 a1 a3 (x9_1 ++ [t272]) (⟨#[]⟩ : ByteArray) (wrap64 ((a3.size : Int) + 1)) (wrap64 (x20_1 + 1))) else (none))) else (none)) else (none)) else (none)) else ((carryallref02_Encode.f kj17 4 x10_1).bind fun t276 => (if x9_1.length < 8796093022208 then (carryallref10_Walk.l0 kj17 a0 a1 a3 (x9_1 ++ [t276]) (⟨#[]⟩ : ByteArray) (wrap64 ((a3.size : Int) + 1)) (wrap64 (x20_1 + 1))) else (none))))) else ((carryallref02_Encode.f kj17 4 x10_1).bind fun t280 => (if x9_1.length < 8796093022208 then (carryallref10_Walk.l0 kj17 a0 a1 a3 (x9_1 ++ [t280]) (⟨#[]⟩ : ByteArray) (wrap64 ((a3.size : Int) + 1)) (wrap64 (x20_1 + 1))) else (none)))) else ((carryallref02_Encode.f kj17 4 x10_1).bind fun t284 => (if x9_1.length < 8796093022208 then (carryallref10_Walk.l0 kj17 a0 a1 a3 (x9_1 ++ [t284]) (⟨#[]⟩ : ByteArray) (wrap64 ((a3.size : Int) + 1)) (wrap64 (x20_1 + 1))) else (none)))))) = some r := by rw [if_neg (show ¬ (false = true) by decide)] at H; exact H
                      clear H
                      have H := H1
                      clear H1
                      replace H := Option.bind_eq_some_iff.mp H
                      obtain ⟨t267, A460, H⟩ := H
                      replace H : (if t267 = true then (if (x20_1 == (a3.size : Int)) = true then (if x9_1.length < 8796093022208 then (carryallref10_Walk.l0 kj17 a0 a1 a3 (x9_1 ++ [(⟨#[]⟩ : ByteArray)]) (⟨#[]⟩ : ByteArray) (wrap64 ((a3.size : Int) + 1)) (wrap64 (x20_1 + 1))) else (none)) else (carryallref10_Walk.l0 kj17 a0 a1 a3 x9_1 (⟨#[]⟩ : ByteArray) (wrap64 ((a3.size : Int) + 1)) (wrap64 (x20_1 + 1)))) else (if a0 = true then (if (x9_1.length : Int) = 0 then ((carryallref10_Drive.f x10_1).bind fun t271 => (if t271 = true then (if 0 ≤ 1 then (if 1 ≤ (x10_1.size : Int) then (if (x10_1.extract 0 1).size + 1 ≤ 9223372036854775807 then ((carryallref02_Encode.f kj17 4 ((x10_1.extract 0 1) ++ (⟨#[58]⟩ : ByteArray))).bind fun t272 => (if x9_1.length < 8796093022208 then (carryallref10_Walk.l0 kj17 a0 a1 a3 (x9_1 ++ [t272]) (⟨#[]⟩ : ByteArray) (wrap64 ((a3.size : Int) + 1)) (wrap64 (x20_1 + 1))) else (none))) else (none)) else (none)) else (none)) else ((carryallref02_Encode.f kj17 4 x10_1).bind fun t276 => (if x9_1.length < 8796093022208 then (carryallref10_Walk.l0 kj17 a0 a1 a3 (x9_1 ++ [t276]) (⟨#[]⟩ : ByteArray) (wrap64 ((a3.size : Int) + 1)) (wrap64 (x20_1 + 1))) else (none))))) else ((carryallref02_Encode.f kj17 4 x10_1).bind fun t280 => (if x9_1.length < 8796093022208 then (carryallref10_Walk.l0 kj17 a0 a1 a3 (x9_1 ++ [t280]) (⟨#[]⟩ : ByteArray) (wrap64 ((a3.size : Int) + 1)) (wrap64 (x20_1 + 1))) else (none)))) else ((carryallref02_Encode.f kj17 4 x10_1).bind fun t284 => (if x9_1.length < 8796093022208 then (carryallref10_Walk.l0 kj17 a0 a1 a3 (x9_1 ++ [t284]) (⟨#[]⟩ : ByteArray) (wrap64 ((a3.size : Int) + 1)) (wrap64 (x20_1 + 1))) else (none))))) = some r := H
                      have A46 := Aside0.mk A460
                      clear A460
                      by_cases c47 : t267 = true
                      · subst c47
                        have H1 : (if (x20_1 == (a3.size : Int)) = true then (if x9_1.length < 8796093022208 then (carryallref10_Walk.l0 kj17 a0 a1 a3 (x9_1 ++ [(⟨#[]⟩ : ByteArray)]) (⟨#[]⟩ : ByteArray) (wrap64 ((a3.size : Int) + 1)) (wrap64 (x20_1 + 1))) else (none)) else (carryallref10_Walk.l0 kj17 a0 a1 a3 x9_1 (⟨#[]⟩ : ByteArray) (wrap64 ((a3.size : Int) + 1)) (wrap64 (x20_1 + 1)))) = some r := by rw [if_pos rfl] at H; exact H
                        clear H
                        have H := H1
                        clear H1
                        by_cases c48 : (x20_1 == (a3.size : Int)) = true
                        · rw [if_pos c48] at H
                          have c48b0 : (x20_1 == (a3.size : Int)) = true := c48
                          (try (have c48b1 : decide (x20_1 = (a3.size : Int)) = true := by simpa using c48))
                          (try (have c48b2 : (x20_1 == (a3.size : Int)) = true := by simpa using c48))
                          clear c48
                          by_cases c49 : x9_1.length < 8796093022208
                          · rw [if_pos c49] at H
                            have LMc49 := Aside0.mk c49
                            clear c49
                            obtain ⟨y268, hy268⟩ : ∃ y_ : List ByteArray, y_ = (x9_1 ++ [(⟨#[]⟩ : ByteArray)]) := ⟨_, rfl⟩
                            replace H : (carryallref10_Walk.l0 kj17 a0 a1 a3 y268 (⟨#[]⟩ : ByteArray) (wrap64 ((a3.size : Int) + 1)) (wrap64 (x20_1 + 1))) = some r := by first | (rw [hy268]; with_reducible exact H) | (have H2_ := (Option.bind_some _ _).symm.trans H; rw [hy268]; with_reducible exact H2_) | (have H2_ := (Option.bind_some _ _).symm.trans H; with_reducible exact H2_) | with_reducible exact H | (rw [hy268]; exact H) | exact H
                            have Ny268 := Aside0.mk hy268
                            clear hy268
                            have H' := Aside0.mk H
                            clear H
                            go_wp2_with (first | ((with_reducible refine gate_callee (f := 17) rfl ?_); refine goesL_ (some 58) rfl rfl Tryd.func17 (by kernel_rfl) rfl #[.string x10_1] rfl (by (try simp only [List.map_toArray, List.map_cons, List.map_nil]); first | done | rfl | (simp only [List.length_drop, List.length_take]; rfl)) ?_; (with_reducible refine (carryallref10_Double.calls kj17 x10_1 false _ A25.out).mono ?_); rintro e w50 ⟨rfl, hb⟩; refine ⟨_, rfl, ?_⟩; have n0_ := Aside0.mk (Kd.R_below (by (with_reducible repeat (first | apply Kd.R_alloc | apply Kd.R_drewN | apply Kd.R_drew)); exact HO_9.out) hb); have n1_ := Aside0.mk (below_step (by repeat (first | (with_reducible first | exact HB.out | apply below_alloc | apply pw_below_drewN | apply below_drew1) | exact HB.out)) hb); clear HO_9; clear HB; have HO_9 := n0_; have HB := n1_; clear n0_ n1_; (try clear hb); (try clear hb2); (try clear hk); (try clear hi)) | ((with_reducible refine gate_callee (f := 15) rfl ?_); refine goesL_ (some 69) rfl rfl Tryd.func15 (by kernel_rfl) rfl #[.string x10_1] rfl (by (try simp only [List.map_toArray, List.map_cons, List.map_nil]); first | done | rfl | (simp only [List.length_drop, List.length_take]; rfl)) ?_; (with_reducible refine (carryallref10_Single.calls kj17 x10_1 true _ A46.out).mono ?_); rintro e w51 ⟨rfl, hb⟩; refine ⟨_, rfl, ?_⟩; have n0_ := Aside0.mk (Kd.R_below (by (with_reducible repeat (first | apply Kd.R_alloc | apply Kd.R_drewN | apply Kd.R_drew)); exact HO_9.out) hb); have n1_ := Aside0.mk (below_step (by repeat (first | (with_reducible first | exact HB.out | apply below_alloc | apply pw_below_drewN | apply below_drew1) | exact HB.out)) hb); clear HO_9; clear HB; have HO_9 := n0_; have HB := n1_; clear n0_ n1_; (try clear hb); (try clear hb2); (try clear hk); (try clear hi)) | ((with_reducible refine gate_builtin (b := .append) (xs := #[.tmp 71, .tmp 72]) rfl ?_); (try (refine gate_guard (by rfl) ?_; dsimp only)); at_builtin; refine Kd.R_append Kd.string (w0 := w) w.heap.size rfl (.tmp 71) (.tmp 72) 22 9 (.string ⟨#[]⟩) 16 rfl Tryd.underlying22 info9 rfl (by decide) (by omega) u9 x9_1 (⟨#[]⟩ : ByteArray) [.string (⟨#[]⟩ : ByteArray)] (fun _ => True) (fun _ => False) rfl rfl ?aP (fun _ hk => hk.elim) ?aF ?aO ?aB ?aS ?aL ?_; (case aP => exact rfl); (case aB => exact (by repeat (first | (with_reducible first | exact HB.out | apply below_alloc | apply pw_below_drewN | apply below_drew1) | exact HB.out))); (case aF => exact (fun _ _ => trivial)); (case aO => exact (by (with_reducible repeat (first | apply Kd.R_alloc | apply Kd.R_drewN | apply Kd.R_drew)); exact HO_9.out)); (case aS => exact (below_size (by repeat (first | (with_reducible first | exact HB.out | apply below_alloc | apply pw_below_drewN | apply below_drew1) | exact HB.out)))); (case aL => have := LMc49.out; omega); intro v269 w52 ho hb hg hat; rw [← Ny268.out] at ho; have n0_ := Aside0.mk (hb); have n1_ := Aside0.mk (ho); clear HB; clear HO_9; have HB := n0_; have HO270 := n1_; clear n0_ n1_; clear ho hb hg hat))
                            go_roundg kj17
                            case measure => have := HK1.out; have := HJ9.out; have := HJ17.out; omega
                            case rel => exact ⟨(y268), ((⟨#[]⟩ : ByteArray)), (wrap64 (x20_1 + 1)), (by first | rfl | (simp; done) | (simp [*]; done) | (simp [Go.Proofs.YtpdkncchjkkmeaaDoor.G.isEmpty_ne]; done)), (by first | rfl | (simp; done) | (simp [*]; done) | (simp [Go.Proofs.YtpdkncchjkkmeaaDoor.G.isEmpty_ne]; done)), H', ⟨by have := HK1.out; have := HJ9.out; have := HJ17.out; omega⟩, ⟨by (with_reducible repeat (first | apply Kd.R_alloc | apply Kd.R_drewN | apply Kd.R_drew)); exact HO270.out⟩, ⟨by repeat (first | (with_reducible first | exact HB.out | apply below_alloc | apply pw_below_drewN | apply below_drew1) | exact HB.out)⟩⟩
                          · rw [if_neg c49] at H
                            exact absurd H (by simp)
                        · rw [if_neg c48] at H
                          have c48b0 : (x20_1 == (a3.size : Int)) = false := by simpa using c48
                          (try (have c48b1 : decide (x20_1 = (a3.size : Int)) = false := by simpa using c48))
                          (try (have c48b2 : (x20_1 == (a3.size : Int)) = false := by simpa using c48))
                          (try (have c48b3 : ¬ (x20_1 = (a3.size : Int)) := by simpa using c48))
                          clear c48
                          have H' := Aside0.mk H
                          clear H
                          go_wp2_with (first | ((with_reducible refine gate_callee (f := 17) rfl ?_); refine goesL_ (some 58) rfl rfl Tryd.func17 (by kernel_rfl) rfl #[.string x10_1] rfl (by (try simp only [List.map_toArray, List.map_cons, List.map_nil]); first | done | rfl | (simp only [List.length_drop, List.length_take]; rfl)) ?_; (with_reducible refine (carryallref10_Double.calls kj17 x10_1 false _ A25.out).mono ?_); rintro e w53 ⟨rfl, hb⟩; refine ⟨_, rfl, ?_⟩; have n0_ := Aside0.mk (Kd.R_below (by (with_reducible repeat (first | apply Kd.R_alloc | apply Kd.R_drewN | apply Kd.R_drew)); exact HO_9.out) hb); have n1_ := Aside0.mk (below_step (by repeat (first | (with_reducible first | exact HB.out | apply below_alloc | apply pw_below_drewN | apply below_drew1) | exact HB.out)) hb); clear HO_9; clear HB; have HO_9 := n0_; have HB := n1_; clear n0_ n1_; (try clear hb); (try clear hb2); (try clear hk); (try clear hi)) | ((with_reducible refine gate_callee (f := 15) rfl ?_); refine goesL_ (some 69) rfl rfl Tryd.func15 (by kernel_rfl) rfl #[.string x10_1] rfl (by (try simp only [List.map_toArray, List.map_cons, List.map_nil]); first | done | rfl | (simp only [List.length_drop, List.length_take]; rfl)) ?_; (with_reducible refine (carryallref10_Single.calls kj17 x10_1 true _ A46.out).mono ?_); rintro e w54 ⟨rfl, hb⟩; refine ⟨_, rfl, ?_⟩; have n0_ := Aside0.mk (Kd.R_below (by (with_reducible repeat (first | apply Kd.R_alloc | apply Kd.R_drewN | apply Kd.R_drew)); exact HO_9.out) hb); have n1_ := Aside0.mk (below_step (by repeat (first | (with_reducible first | exact HB.out | apply below_alloc | apply pw_below_drewN | apply below_drew1) | exact HB.out)) hb); clear HO_9; clear HB; have HO_9 := n0_; have HB := n1_; clear n0_ n1_; (try clear hb); (try clear hb2); (try clear hk); (try clear hi)))
                          go_roundg kj17
                          case measure => have := HK1.out; have := HJ9.out; have := HJ17.out; omega
                          case rel => exact ⟨(x9_1), ((⟨#[]⟩ : ByteArray)), (wrap64 (x20_1 + 1)), (by first | rfl | (simp; done) | (simp [*]; done) | (simp [Go.Proofs.YtpdkncchjkkmeaaDoor.G.isEmpty_ne]; done)), (by first | rfl | (simp; done) | (simp [*]; done) | (simp [Go.Proofs.YtpdkncchjkkmeaaDoor.G.isEmpty_ne]; done)), H', ⟨by have := HK1.out; have := HJ9.out; have := HJ17.out; omega⟩, ⟨by (with_reducible repeat (first | apply Kd.R_alloc | apply Kd.R_drewN | apply Kd.R_drew)); exact HO_9.out⟩, ⟨by repeat (first | (with_reducible first | exact HB.out | apply below_alloc | apply pw_below_drewN | apply below_drew1) | exact HB.out)⟩⟩
                      · replace c47 := Bool.eq_false_iff.mpr c47
                        subst c47
                        have H1 : (if a0 = true then (if (x9_1.length : Int) = 0 then ((carryallref10_Drive.f x10_1).bind fun t271 => (if t271 = true then (if 0 ≤ 1 then (if 1 ≤ (x10_1.size : Int) then (if (x10_1.extract 0 1).size + 1 ≤ 9223372036854775807 then ((carryallref02_Encode.f kj17 4 ((x10_1.extract 0 1) ++ (⟨#[58]⟩ : ByteArray))).bind fun t272 => (if x9_1.length < 8796093022208 then (carryallref10_Walk.l0 kj17 a0 a1 a3 (x9_1 ++ [t272]) (⟨#[]⟩ : ByteArray) (wrap64 ((a3.size : Int) + 1)) (wrap64 (x20_1 + 1))) else (none))) else (none)) else (none)) else (none)) else ((carryallref02_Encode.f kj17 4 x10_1).bind fun t276 => (if x9_1.length < 8796093022208 then (carryallref10_Walk.l0 kj17 a0 a1 a3 (x9_1 ++ [t276]) (⟨#[]⟩ : ByteArray) (wrap64 ((a3.size : Int) + 1)) (wrap64 (x20_1 + 1))) else (none))))) else ((carryallref02_Encode.f kj17 4 x10_1).bind fun t280 => (if x9_1.length < 8796093022208 then (carryallref10_Walk.l0 kj17 a0 a1 a3 (x9_1 ++ [t280]) (⟨#[]⟩ : ByteArray) (wrap64 ((a3.size : Int) + 1)) (wrap64 (x20_1 + 1))) else (none)))) else ((carryallref02_Encode.f kj17 4 x10_1).bind fun t284 => (if x9_1.length < 8796093022208 then (carryallref10_Walk.l0 kj17 a0 a1 a3 (x9_1 ++ [t284]) (⟨#[]⟩ : ByteArray) (wrap64 ((a3.size : Int) + 1)) (wrap64 (x20_1 + 1))) else (none)))) = some r := by rw [if_neg (show ¬ (false = true) by decide)] at H; exact H
                        clear H
                        have H := H1
                        clear H1
                        by_cases c55 : a0 = true
                        · subst c55
                          have H1 : (if (x9_1.length : Int) = 0 then ((carryallref10_Drive.f x10_1).bind fun t271 => (if t271 = true then (if 0 ≤ 1 then (if 1 ≤ (x10_1.size : Int) then (if (x10_1.extract 0 1).size + 1 ≤ 9223372036854775807 then ((carryallref02_Encode.f kj17 4 ((x10_1.extract 0 1) ++ (⟨#[58]⟩ : ByteArray))).bind fun t272 => (if x9_1.length < 8796093022208 then (carryallref10_Walk.l0 kj17 true a1 a3 (x9_1 ++ [t272]) (⟨#[]⟩ : ByteArray) (wrap64 ((a3.size : Int) + 1)) (wrap64 (x20_1 + 1))) else (none))) else (none)) else (none)) else (none)) else ((carryallref02_Encode.f kj17 4 x10_1).bind fun t276 => (if x9_1.length < 8796093022208 then (carryallref10_Walk.l0 kj17 true a1 a3 (x9_1 ++ [t276]) (⟨#[]⟩ : ByteArray) (wrap64 ((a3.size : Int) + 1)) (wrap64 (x20_1 + 1))) else (none))))) else ((carryallref02_Encode.f kj17 4 x10_1).bind fun t280 => (if x9_1.length < 8796093022208 then (carryallref10_Walk.l0 kj17 true a1 a3 (x9_1 ++ [t280]) (⟨#[]⟩ : ByteArray) (wrap64 ((a3.size : Int) + 1)) (wrap64 (x20_1 + 1))) else (none)))) = some r := by rw [if_pos rfl] at H; exact H
                          clear H
                          have H := H1
                          clear H1
                          by_cases c56 : (x9_1.length : Int) = 0
                          · rw [if_pos c56] at H
                            have c56b0 : ((x9_1.length : Int) == 0) = true := beq_iff_eq.mpr c56
                            have c56b1 : ((x9_1.length : Int) != 0) = false := bne_eq_false_iff_eq.mpr c56
                            clear c56
                            replace H := Option.bind_eq_some_iff.mp H
                            obtain ⟨t271, A570, H⟩ := H
                            replace H : (if t271 = true then (if 0 ≤ 1 then (if 1 ≤ (x10_1.size : Int) then (if (x10_1.extract 0 1).size + 1 ≤ 9223372036854775807 then ((carryallref02_Encode.f kj17 4 ((x10_1.extract 0 1) ++ (⟨#[58]⟩ : ByteArray))).bind fun t272 => (if x9_1.length < 8796093022208 then (carryallref10_Walk.l0 kj17 true a1 a3 (x9_1 ++ [t272]) (⟨#[]⟩ : ByteArray) (wrap64 ((a3.size : Int) + 1)) (wrap64 (x20_1 + 1))) else (none))) else (none)) else (none)) else (none)) else ((carryallref02_Encode.f kj17 4 x10_1).bind fun t276 => (if x9_1.length < 8796093022208 then (carryallref10_Walk.l0 kj17 true a1 a3 (x9_1 ++ [t276]) (⟨#[]⟩ : ByteArray) (wrap64 ((a3.size : Int) + 1)) (wrap64 (x20_1 + 1))) else (none)))) = some r := H
                            have A57 := Aside0.mk A570
                            clear A570
                            by_cases c58 : t271 = true
                            · subst c58
                              have H1 : (if 0 ≤ 1 then (if 1 ≤ (x10_1.size : Int) then (if (x10_1.extract 0 1).size + 1 ≤ 9223372036854775807 then ((carryallref02_Encode.f kj17 4 ((x10_1.extract 0 1) ++ (⟨#[58]⟩ : ByteArray))).bind fun t272 => (if x9_1.length < 8796093022208 then (carryallref10_Walk.l0 kj17 true a1 a3 (x9_1 ++ [t272]) (⟨#[]⟩ : ByteArray) (wrap64 ((a3.size : Int) + 1)) (wrap64 (x20_1 + 1))) else (none))) else (none)) else (none)) else (none)) = some r := by rw [if_pos rfl] at H; exact H
                              clear H
                              have H := H1
                              clear H1
                              by_cases c59 : 0 ≤ 1
                              · rw [if_pos c59] at H
                                have c59b0 := eq_true c59
                                have c59b1 : decide (0 ≤ 1) = true := decide_eq_true c59
                                clear c59
                                by_cases c60 : 1 ≤ (x10_1.size : Int)
                                · rw [if_pos c60] at H
                                  have c60b0 := eq_true c60
                                  have c60b1 : decide (1 ≤ (x10_1.size : Int)) = true := decide_eq_true c60
                                  clear c60
                                  by_cases c61 : (x10_1.extract 0 1).size + 1 ≤ 9223372036854775807
                                  · rw [if_pos c61] at H
                                    have c61b0 := eq_true c61
                                    have c61b1 : decide ((x10_1.extract 0 1).size + 1 ≤ 9223372036854775807) = true := decide_eq_true c61
                                    try have c61b2 : (9223372036854775807 < (x10_1.extract 0 1).size + 1) = False := eq_false (Nat.not_lt.2 c61)
                                    replace H := Option.bind_eq_some_iff.mp H
                                    obtain ⟨t272, A620, H⟩ := H
                                    replace H : (if x9_1.length < 8796093022208 then (carryallref10_Walk.l0 kj17 true a1 a3 (x9_1 ++ [t272]) (⟨#[]⟩ : ByteArray) (wrap64 ((a3.size : Int) + 1)) (wrap64 (x20_1 + 1))) else (none)) = some r := H
                                    have A62 := Aside0.mk A620
                                    clear A620
                                    by_cases c63 : x9_1.length < 8796093022208
                                    · rw [if_pos c63] at H
                                      have LMc63 := Aside0.mk c63
                                      clear c63
                                      obtain ⟨y273, hy273⟩ : ∃ y_ : List ByteArray, y_ = (x9_1 ++ [t272]) := ⟨_, rfl⟩
                                      replace H : (carryallref10_Walk.l0 kj17 true a1 a3 y273 (⟨#[]⟩ : ByteArray) (wrap64 ((a3.size : Int) + 1)) (wrap64 (x20_1 + 1))) = some r := by first | (rw [hy273]; with_reducible exact H) | (have H2_ := (Option.bind_some _ _).symm.trans H; rw [hy273]; with_reducible exact H2_) | (have H2_ := (Option.bind_some _ _).symm.trans H; with_reducible exact H2_) | with_reducible exact H | (rw [hy273]; exact H) | exact H
                                      have Ny273 := Aside0.mk hy273
                                      clear hy273
                                      have H' := Aside0.mk H
                                      clear H
                                      go_wp2_with (first | ((with_reducible refine gate_callee (f := 17) rfl ?_); refine goesL_ (some 58) rfl rfl Tryd.func17 (by kernel_rfl) rfl #[.string x10_1] rfl (by (try simp only [List.map_toArray, List.map_cons, List.map_nil]); first | done | rfl | (simp only [List.length_drop, List.length_take]; rfl)) ?_; (with_reducible refine (carryallref10_Double.calls kj17 x10_1 false _ A25.out).mono ?_); rintro e w64 ⟨rfl, hb⟩; refine ⟨_, rfl, ?_⟩; have n0_ := Aside0.mk (Kd.R_below (by (with_reducible repeat (first | apply Kd.R_alloc | apply Kd.R_drewN | apply Kd.R_drew)); exact HO_9.out) hb); have n1_ := Aside0.mk (below_step (by repeat (first | (with_reducible first | exact HB.out | apply below_alloc | apply pw_below_drewN | apply below_drew1) | exact HB.out)) hb); clear HO_9; clear HB; have HO_9 := n0_; have HB := n1_; clear n0_ n1_; (try clear hb); (try clear hb2); (try clear hk); (try clear hi)) | ((with_reducible refine gate_callee (f := 15) rfl ?_); refine goesL_ (some 69) rfl rfl Tryd.func15 (by kernel_rfl) rfl #[.string x10_1] rfl (by (try simp only [List.map_toArray, List.map_cons, List.map_nil]); first | done | rfl | (simp only [List.length_drop, List.length_take]; rfl)) ?_; (with_reducible refine (carryallref10_Single.calls kj17 x10_1 false _ A46.out).mono ?_); rintro e w65 ⟨rfl, hb⟩; refine ⟨_, rfl, ?_⟩; have n0_ := Aside0.mk (Kd.R_below (by (with_reducible repeat (first | apply Kd.R_alloc | apply Kd.R_drewN | apply Kd.R_drew)); exact HO_9.out) hb); have n1_ := Aside0.mk (below_step (by repeat (first | (with_reducible first | exact HB.out | apply below_alloc | apply pw_below_drewN | apply below_drew1) | exact HB.out)) hb); clear HO_9; clear HB; have HO_9 := n0_; have HB := n1_; clear n0_ n1_; (try clear hb); (try clear hb2); (try clear hk); (try clear hi); obtain ⟨Ao66, co66, eo66⟩ := Kd.R_slice HO_9.out; subst eo66) | (go_at_call 19; (with_reducible refine (carryallref10_Drive.calls x10_1 true _ A57.out).mono ?_); rintro e w' ⟨rfl, ⟨nd, rfl⟩⟩) | ((with_reducible refine gate_callee (f := 28) rfl ?_); refine goesL_ (some 89) rfl rfl Tryd.func28 (by kernel_rfl) rfl #[.int .i64 4, .string ((x10_1.extract 0 1) ++ (⟨#[58]⟩ : ByteArray))] rfl (by (try simp only [List.map_toArray, List.map_cons, List.map_nil]); first | done | rfl | (simp only [List.length_drop, List.length_take]; rfl)) ?_; (with_reducible refine (carryallref02_Encode.calls kj17 4 ((x10_1.extract 0 1) ++ (⟨#[58]⟩ : ByteArray)) t272 _ A62.out).mono ?_); rintro e w67 ⟨rfl, hb⟩; refine ⟨_, rfl, ?_⟩; have n0_ := Aside0.mk (Kd.R_below (by (with_reducible repeat (first | apply Kd.R_alloc | apply Kd.R_drewN | apply Kd.R_drew)); exact HO_9.out) hb); have n1_ := Aside0.mk (below_step (by repeat (first | (with_reducible first | exact HB.out | apply below_alloc | apply pw_below_drewN | apply below_drew1) | exact HB.out)) hb); clear HO_9; clear HB; have HO_9 := n0_; have HB := n1_; clear n0_ n1_; (try clear hb); (try clear hb2); (try clear hk); (try clear hi)) | ((with_reducible refine gate_builtin (b := .append) (xs := #[.tmp 87, .tmp 90]) rfl ?_); (try (refine gate_guard (by rfl) ?_; dsimp only)); at_builtin; refine Kd.R_append Kd.string (w0 := w) w.heap.size rfl (.tmp 87) (.tmp 90) 22 9 (.string ⟨#[]⟩) 16 rfl Tryd.underlying22 info9 rfl (by decide) (by omega) (.slice Ao66 x9_1.length co66) x9_1 t272 [.string t272] (fun _ => True) (fun _ => False) rfl rfl ?aP (fun _ hk => hk.elim) ?aF ?aO ?aB ?aS ?aL ?_; (case aP => exact rfl); (case aB => exact (by repeat (first | (with_reducible first | exact HB.out | apply below_alloc | apply pw_below_drewN | apply below_drew1) | exact HB.out))); (case aF => exact (fun _ _ => trivial)); (case aO => exact (by (with_reducible repeat (first | apply Kd.R_alloc | apply Kd.R_drewN | apply Kd.R_drew)); exact HO_9.out)); (case aS => exact (below_size (by repeat (first | (with_reducible first | exact HB.out | apply below_alloc | apply pw_below_drewN | apply below_drew1) | exact HB.out)))); (case aL => have := LMc63.out; omega); intro v274 w68 ho hb hg hat; rw [← Ny273.out] at ho; have n0_ := Aside0.mk (hb); have n1_ := Aside0.mk (ho); clear HB; clear HO_9; have HB := n0_; have HO275 := n1_; clear n0_ n1_; clear ho hb hg hat))
                                      go_roundg kj17
                                      case measure => have := HK1.out; have := HJ9.out; have := HJ17.out; omega
                                      case rel => exact ⟨(y273), ((⟨#[]⟩ : ByteArray)), (wrap64 (x20_1 + 1)), (by first | rfl | (simp; done) | (simp [*]; done) | (simp [Go.Proofs.YtpdkncchjkkmeaaDoor.G.isEmpty_ne]; done)), (by first | rfl | (simp; done) | (simp [*]; done) | (simp [Go.Proofs.YtpdkncchjkkmeaaDoor.G.isEmpty_ne]; done)), H', ⟨by have := HK1.out; have := HJ9.out; have := HJ17.out; omega⟩, ⟨by (with_reducible repeat (first | apply Kd.R_alloc | apply Kd.R_drewN | apply Kd.R_drew)); exact HO275.out⟩, ⟨by repeat (first | (with_reducible first | exact HB.out | apply below_alloc | apply pw_below_drewN | apply below_drew1) | exact HB.out)⟩⟩
                                    · rw [if_neg c63] at H
                                      exact absurd H (by simp)
                                  · rw [if_neg c61] at H
                                    exact absurd H (by simp)
                                · rw [if_neg c60] at H
                                  exact absurd H (by simp)
                              · rw [if_neg c59] at H
                                exact absurd H (by simp)
                            · replace c58 := Bool.eq_false_iff.mpr c58
                              subst c58
                              have H1 : ((carryallref02_Encode.f kj17 4 x10_1).bind fun t276 => (if x9_1.length < 8796093022208 then (carryallref10_Walk.l0 kj17 true a1 a3 (x9_1 ++ [t276]) (⟨#[]⟩ : ByteArray) (wrap64 ((a3.size : Int) + 1)) (wrap64 (x20_1 + 1))) else (none))) = some r := by rw [if_neg (show ¬ (false = true) by decide)] at H; exact H
                              clear H
                              have H := H1
                              clear H1
                              replace H := Option.bind_eq_some_iff.mp H
                              obtain ⟨t276, A690, H⟩ := H
                              replace H : (if x9_1.length < 8796093022208 then (carryallref10_Walk.l0 kj17 true a1 a3 (x9_1 ++ [t276]) (⟨#[]⟩ : ByteArray) (wrap64 ((a3.size : Int) + 1)) (wrap64 (x20_1 + 1))) else (none)) = some r := H
                              have A69 := Aside0.mk A690
                              clear A690
                              by_cases c70 : x9_1.length < 8796093022208
                              · rw [if_pos c70] at H
                                have LMc70 := Aside0.mk c70
                                clear c70
                                obtain ⟨y277, hy277⟩ : ∃ y_ : List ByteArray, y_ = (x9_1 ++ [t276]) := ⟨_, rfl⟩
                                replace H : (carryallref10_Walk.l0 kj17 true a1 a3 y277 (⟨#[]⟩ : ByteArray) (wrap64 ((a3.size : Int) + 1)) (wrap64 (x20_1 + 1))) = some r := by first | (rw [hy277]; with_reducible exact H) | (have H2_ := (Option.bind_some _ _).symm.trans H; rw [hy277]; with_reducible exact H2_) | (have H2_ := (Option.bind_some _ _).symm.trans H; with_reducible exact H2_) | with_reducible exact H | (rw [hy277]; exact H) | exact H
                                have Ny277 := Aside0.mk hy277
                                clear hy277
                                have H' := Aside0.mk H
                                clear H
                                go_wp2_with (first | ((with_reducible refine gate_callee (f := 17) rfl ?_); refine goesL_ (some 58) rfl rfl Tryd.func17 (by kernel_rfl) rfl #[.string x10_1] rfl (by (try simp only [List.map_toArray, List.map_cons, List.map_nil]); first | done | rfl | (simp only [List.length_drop, List.length_take]; rfl)) ?_; (with_reducible refine (carryallref10_Double.calls kj17 x10_1 false _ A25.out).mono ?_); rintro e w71 ⟨rfl, hb⟩; refine ⟨_, rfl, ?_⟩; have n0_ := Aside0.mk (Kd.R_below (by (with_reducible repeat (first | apply Kd.R_alloc | apply Kd.R_drewN | apply Kd.R_drew)); exact HO_9.out) hb); have n1_ := Aside0.mk (below_step (by repeat (first | (with_reducible first | exact HB.out | apply below_alloc | apply pw_below_drewN | apply below_drew1) | exact HB.out)) hb); clear HO_9; clear HB; have HO_9 := n0_; have HB := n1_; clear n0_ n1_; (try clear hb); (try clear hb2); (try clear hk); (try clear hi)) | ((with_reducible refine gate_callee (f := 15) rfl ?_); refine goesL_ (some 69) rfl rfl Tryd.func15 (by kernel_rfl) rfl #[.string x10_1] rfl (by (try simp only [List.map_toArray, List.map_cons, List.map_nil]); first | done | rfl | (simp only [List.length_drop, List.length_take]; rfl)) ?_; (with_reducible refine (carryallref10_Single.calls kj17 x10_1 false _ A46.out).mono ?_); rintro e w72 ⟨rfl, hb⟩; refine ⟨_, rfl, ?_⟩; have n0_ := Aside0.mk (Kd.R_below (by (with_reducible repeat (first | apply Kd.R_alloc | apply Kd.R_drewN | apply Kd.R_drew)); exact HO_9.out) hb); have n1_ := Aside0.mk (below_step (by repeat (first | (with_reducible first | exact HB.out | apply below_alloc | apply pw_below_drewN | apply below_drew1) | exact HB.out)) hb); clear HO_9; clear HB; have HO_9 := n0_; have HB := n1_; clear n0_ n1_; (try clear hb); (try clear hb2); (try clear hk); (try clear hi); obtain ⟨Ao73, co73, eo73⟩ := Kd.R_slice HO_9.out; subst eo73) | (go_at_call 19; (with_reducible refine (carryallref10_Drive.calls x10_1 false _ A57.out).mono ?_); rintro e w' ⟨rfl, ⟨nd, rfl⟩⟩) | ((with_reducible refine gate_callee (f := 28) rfl ?_); refine goesL_ (some 89) rfl rfl Tryd.func28 (by kernel_rfl) rfl #[.int .i64 4, .string x10_1] rfl (by (try simp only [List.map_toArray, List.map_cons, List.map_nil]); first | done | rfl | (simp only [List.length_drop, List.length_take]; rfl)) ?_; (with_reducible refine (carryallref02_Encode.calls kj17 4 x10_1 t276 _ A69.out).mono ?_); rintro e w74 ⟨rfl, hb⟩; refine ⟨_, rfl, ?_⟩; have n0_ := Aside0.mk (Kd.R_below (by (with_reducible repeat (first | apply Kd.R_alloc | apply Kd.R_drewN | apply Kd.R_drew)); exact HO_9.out) hb); have n1_ := Aside0.mk (below_step (by repeat (first | (with_reducible first | exact HB.out | apply below_alloc | apply pw_below_drewN | apply below_drew1) | exact HB.out)) hb); clear HO_9; clear HB; have HO_9 := n0_; have HB := n1_; clear n0_ n1_; (try clear hb); (try clear hb2); (try clear hk); (try clear hi)) | ((with_reducible refine gate_builtin (b := .append) (xs := #[.tmp 87, .tmp 90]) rfl ?_); (try (refine gate_guard (by rfl) ?_; dsimp only)); at_builtin; refine Kd.R_append Kd.string (w0 := w) w.heap.size rfl (.tmp 87) (.tmp 90) 22 9 (.string ⟨#[]⟩) 16 rfl Tryd.underlying22 info9 rfl (by decide) (by omega) (.slice Ao73 x9_1.length co73) x9_1 t276 [.string t276] (fun _ => True) (fun _ => False) rfl rfl ?aP (fun _ hk => hk.elim) ?aF ?aO ?aB ?aS ?aL ?_; (case aP => exact rfl); (case aB => exact (by repeat (first | (with_reducible first | exact HB.out | apply below_alloc | apply pw_below_drewN | apply below_drew1) | exact HB.out))); (case aF => exact (fun _ _ => trivial)); (case aO => exact (by (with_reducible repeat (first | apply Kd.R_alloc | apply Kd.R_drewN | apply Kd.R_drew)); exact HO_9.out)); (case aS => exact (below_size (by repeat (first | (with_reducible first | exact HB.out | apply below_alloc | apply pw_below_drewN | apply below_drew1) | exact HB.out)))); (case aL => have := LMc70.out; omega); intro v278 w75 ho hb hg hat; rw [← Ny277.out] at ho; have n0_ := Aside0.mk (hb); have n1_ := Aside0.mk (ho); clear HB; clear HO_9; have HB := n0_; have HO279 := n1_; clear n0_ n1_; clear ho hb hg hat))
                                go_roundg kj17
                                case measure => have := HK1.out; have := HJ9.out; have := HJ17.out; omega
                                case rel => exact ⟨(y277), ((⟨#[]⟩ : ByteArray)), (wrap64 (x20_1 + 1)), (by first | rfl | (simp; done) | (simp [*]; done) | (simp [Go.Proofs.YtpdkncchjkkmeaaDoor.G.isEmpty_ne]; done)), (by first | rfl | (simp; done) | (simp [*]; done) | (simp [Go.Proofs.YtpdkncchjkkmeaaDoor.G.isEmpty_ne]; done)), H', ⟨by have := HK1.out; have := HJ9.out; have := HJ17.out; omega⟩, ⟨by (with_reducible repeat (first | apply Kd.R_alloc | apply Kd.R_drewN | apply Kd.R_drew)); exact HO279.out⟩, ⟨by repeat (first | (with_reducible first | exact HB.out | apply below_alloc | apply pw_below_drewN | apply below_drew1) | exact HB.out)⟩⟩
                              · rw [if_neg c70] at H
                                exact absurd H (by simp)
                          · rw [if_neg c56] at H
                            have c56b0 : ((x9_1.length : Int) == 0) = false := beq_eq_false_iff_ne.mpr c56
                            have c56b1 : ((x9_1.length : Int) != 0) = true := bne_iff_ne.mpr c56
                            have c56b2 : ¬ (x9_1 = []) := fun h_ => c56 (by rw [h_]; rfl)
                            replace H := Option.bind_eq_some_iff.mp H
                            obtain ⟨t280, A760, H⟩ := H
                            replace H : (if x9_1.length < 8796093022208 then (carryallref10_Walk.l0 kj17 true a1 a3 (x9_1 ++ [t280]) (⟨#[]⟩ : ByteArray) (wrap64 ((a3.size : Int) + 1)) (wrap64 (x20_1 + 1))) else (none)) = some r := H
                            have A76 := Aside0.mk A760
                            clear A760
                            by_cases c77 : x9_1.length < 8796093022208
                            · rw [if_pos c77] at H
                              have LMc77 := Aside0.mk c77
                              clear c77
                              obtain ⟨y281, hy281⟩ : ∃ y_ : List ByteArray, y_ = (x9_1 ++ [t280]) := ⟨_, rfl⟩
                              replace H : (carryallref10_Walk.l0 kj17 true a1 a3 y281 (⟨#[]⟩ : ByteArray) (wrap64 ((a3.size : Int) + 1)) (wrap64 (x20_1 + 1))) = some r := by first | (rw [hy281]; with_reducible exact H) | (have H2_ := (Option.bind_some _ _).symm.trans H; rw [hy281]; with_reducible exact H2_) | (have H2_ := (Option.bind_some _ _).symm.trans H; with_reducible exact H2_) | with_reducible exact H | (rw [hy281]; exact H) | exact H
                              have Ny281 := Aside0.mk hy281
                              clear hy281
                              have H' := Aside0.mk H
                              clear H
                              go_wp2_with (first | ((with_reducible refine gate_callee (f := 17) rfl ?_); refine goesL_ (some 58) rfl rfl Tryd.func17 (by kernel_rfl) rfl #[.string x10_1] rfl (by (try simp only [List.map_toArray, List.map_cons, List.map_nil]); first | done | rfl | (simp only [List.length_drop, List.length_take]; rfl)) ?_; (with_reducible refine (carryallref10_Double.calls kj17 x10_1 false _ A25.out).mono ?_); rintro e w78 ⟨rfl, hb⟩; refine ⟨_, rfl, ?_⟩; have n0_ := Aside0.mk (Kd.R_below (by (with_reducible repeat (first | apply Kd.R_alloc | apply Kd.R_drewN | apply Kd.R_drew)); exact HO_9.out) hb); have n1_ := Aside0.mk (below_step (by repeat (first | (with_reducible first | exact HB.out | apply below_alloc | apply pw_below_drewN | apply below_drew1) | exact HB.out)) hb); clear HO_9; clear HB; have HO_9 := n0_; have HB := n1_; clear n0_ n1_; (try clear hb); (try clear hb2); (try clear hk); (try clear hi)) | ((with_reducible refine gate_callee (f := 15) rfl ?_); refine goesL_ (some 69) rfl rfl Tryd.func15 (by kernel_rfl) rfl #[.string x10_1] rfl (by (try simp only [List.map_toArray, List.map_cons, List.map_nil]); first | done | rfl | (simp only [List.length_drop, List.length_take]; rfl)) ?_; (with_reducible refine (carryallref10_Single.calls kj17 x10_1 false _ A46.out).mono ?_); rintro e w79 ⟨rfl, hb⟩; refine ⟨_, rfl, ?_⟩; have n0_ := Aside0.mk (Kd.R_below (by (with_reducible repeat (first | apply Kd.R_alloc | apply Kd.R_drewN | apply Kd.R_drew)); exact HO_9.out) hb); have n1_ := Aside0.mk (below_step (by repeat (first | (with_reducible first | exact HB.out | apply below_alloc | apply pw_below_drewN | apply below_drew1) | exact HB.out)) hb); clear HO_9; clear HB; have HO_9 := n0_; have HB := n1_; clear n0_ n1_; (try clear hb); (try clear hb2); (try clear hk); (try clear hi); obtain ⟨Ao80, co80, eo80⟩ := Kd.R_slice HO_9.out; subst eo80) | ((with_reducible refine gate_callee (f := 28) rfl ?_); refine goesL_ (some 89) rfl rfl Tryd.func28 (by kernel_rfl) rfl #[.int .i64 4, .string x10_1] rfl (by (try simp only [List.map_toArray, List.map_cons, List.map_nil]); first | done | rfl | (simp only [List.length_drop, List.length_take]; rfl)) ?_; (with_reducible refine (carryallref02_Encode.calls kj17 4 x10_1 t280 _ A76.out).mono ?_); rintro e w81 ⟨rfl, hb⟩; refine ⟨_, rfl, ?_⟩; have n0_ := Aside0.mk (Kd.R_below (by (with_reducible repeat (first | apply Kd.R_alloc | apply Kd.R_drewN | apply Kd.R_drew)); exact HO_9.out) hb); have n1_ := Aside0.mk (below_step (by repeat (first | (with_reducible first | exact HB.out | apply below_alloc | apply pw_below_drewN | apply below_drew1) | exact HB.out)) hb); clear HO_9; clear HB; have HO_9 := n0_; have HB := n1_; clear n0_ n1_; (try clear hb); (try clear hb2); (try clear hk); (try clear hi)) | ((with_reducible refine gate_builtin (b := .append) (xs := #[.tmp 87, .tmp 90]) rfl ?_); (try (refine gate_guard (by rfl) ?_; dsimp only)); at_builtin; refine Kd.R_append Kd.string (w0 := w) w.heap.size rfl (.tmp 87) (.tmp 90) 22 9 (.string ⟨#[]⟩) 16 rfl Tryd.underlying22 info9 rfl (by decide) (by omega) (.slice Ao80 x9_1.length co80) x9_1 t280 [.string t280] (fun _ => True) (fun _ => False) rfl rfl ?aP (fun _ hk => hk.elim) ?aF ?aO ?aB ?aS ?aL ?_; (case aP => exact rfl); (case aB => exact (by repeat (first | (with_reducible first | exact HB.out | apply below_alloc | apply pw_below_drewN | apply below_drew1) | exact HB.out))); (case aF => exact (fun _ _ => trivial)); (case aO => exact (by (with_reducible repeat (first | apply Kd.R_alloc | apply Kd.R_drewN | apply Kd.R_drew)); exact HO_9.out)); (case aS => exact (below_size (by repeat (first | (with_reducible first | exact HB.out | apply below_alloc | apply pw_below_drewN | apply below_drew1) | exact HB.out)))); (case aL => have := LMc77.out; omega); intro v282 w82 ho hb hg hat; rw [← Ny281.out] at ho; have n0_ := Aside0.mk (hb); have n1_ := Aside0.mk (ho); clear HB; clear HO_9; have HB := n0_; have HO283 := n1_; clear n0_ n1_; clear ho hb hg hat))
                              go_roundg kj17
                              case measure => have := HK1.out; have := HJ9.out; have := HJ17.out; omega
                              case rel => exact ⟨(y281), ((⟨#[]⟩ : ByteArray)), (wrap64 (x20_1 + 1)), (by first | rfl | (simp; done) | (simp [*]; done) | (simp [Go.Proofs.YtpdkncchjkkmeaaDoor.G.isEmpty_ne]; done)), (by first | rfl | (simp; done) | (simp [*]; done) | (simp [Go.Proofs.YtpdkncchjkkmeaaDoor.G.isEmpty_ne]; done)), H', ⟨by have := HK1.out; have := HJ9.out; have := HJ17.out; omega⟩, ⟨by (with_reducible repeat (first | apply Kd.R_alloc | apply Kd.R_drewN | apply Kd.R_drew)); exact HO283.out⟩, ⟨by repeat (first | (with_reducible first | exact HB.out | apply below_alloc | apply pw_below_drewN | apply below_drew1) | exact HB.out)⟩⟩
                            · rw [if_neg c77] at H
                              exact absurd H (by simp)
                        · replace c55 := Bool.eq_false_iff.mpr c55
                          subst c55
                          have H1 : ((carryallref02_Encode.f kj17 4 x10_1).bind fun t284 => (if x9_1.length < 8796093022208 then (carryallref10_Walk.l0 kj17 false a1 a3 (x9_1 ++ [t284]) (⟨#[]⟩ : ByteArray) (wrap64 ((a3.size : Int) + 1)) (wrap64 (x20_1 + 1))) else (none))) = some r := by rw [if_neg (show ¬ (false = true) by decide)] at H; exact H
                          clear H
                          have H := H1
                          clear H1
                          replace H := Option.bind_eq_some_iff.mp H
                          obtain ⟨t284, A830, H⟩ := H
                          replace H : (if x9_1.length < 8796093022208 then (carryallref10_Walk.l0 kj17 false a1 a3 (x9_1 ++ [t284]) (⟨#[]⟩ : ByteArray) (wrap64 ((a3.size : Int) + 1)) (wrap64 (x20_1 + 1))) else (none)) = some r := H
                          have A83 := Aside0.mk A830
                          clear A830
                          by_cases c84 : x9_1.length < 8796093022208
                          · rw [if_pos c84] at H
                            have LMc84 := Aside0.mk c84
                            clear c84
                            obtain ⟨y285, hy285⟩ : ∃ y_ : List ByteArray, y_ = (x9_1 ++ [t284]) := ⟨_, rfl⟩
                            replace H : (carryallref10_Walk.l0 kj17 false a1 a3 y285 (⟨#[]⟩ : ByteArray) (wrap64 ((a3.size : Int) + 1)) (wrap64 (x20_1 + 1))) = some r := by first | (rw [hy285]; with_reducible exact H) | (have H2_ := (Option.bind_some _ _).symm.trans H; rw [hy285]; with_reducible exact H2_) | (have H2_ := (Option.bind_some _ _).symm.trans H; with_reducible exact H2_) | with_reducible exact H | (rw [hy285]; exact H) | exact H
                            have Ny285 := Aside0.mk hy285
                            clear hy285
                            have H' := Aside0.mk H
                            clear H
                            go_wp2_with (first | ((with_reducible refine gate_callee (f := 17) rfl ?_); refine goesL_ (some 58) rfl rfl Tryd.func17 (by kernel_rfl) rfl #[.string x10_1] rfl (by (try simp only [List.map_toArray, List.map_cons, List.map_nil]); first | done | rfl | (simp only [List.length_drop, List.length_take]; rfl)) ?_; (with_reducible refine (carryallref10_Double.calls kj17 x10_1 false _ A25.out).mono ?_); rintro e w85 ⟨rfl, hb⟩; refine ⟨_, rfl, ?_⟩; have n0_ := Aside0.mk (Kd.R_below (by (with_reducible repeat (first | apply Kd.R_alloc | apply Kd.R_drewN | apply Kd.R_drew)); exact HO_9.out) hb); have n1_ := Aside0.mk (below_step (by repeat (first | (with_reducible first | exact HB.out | apply below_alloc | apply pw_below_drewN | apply below_drew1) | exact HB.out)) hb); clear HO_9; clear HB; have HO_9 := n0_; have HB := n1_; clear n0_ n1_; (try clear hb); (try clear hb2); (try clear hk); (try clear hi)) | ((with_reducible refine gate_callee (f := 15) rfl ?_); refine goesL_ (some 69) rfl rfl Tryd.func15 (by kernel_rfl) rfl #[.string x10_1] rfl (by (try simp only [List.map_toArray, List.map_cons, List.map_nil]); first | done | rfl | (simp only [List.length_drop, List.length_take]; rfl)) ?_; (with_reducible refine (carryallref10_Single.calls kj17 x10_1 false _ A46.out).mono ?_); rintro e w86 ⟨rfl, hb⟩; refine ⟨_, rfl, ?_⟩; have n0_ := Aside0.mk (Kd.R_below (by (with_reducible repeat (first | apply Kd.R_alloc | apply Kd.R_drewN | apply Kd.R_drew)); exact HO_9.out) hb); have n1_ := Aside0.mk (below_step (by repeat (first | (with_reducible first | exact HB.out | apply below_alloc | apply pw_below_drewN | apply below_drew1) | exact HB.out)) hb); clear HO_9; clear HB; have HO_9 := n0_; have HB := n1_; clear n0_ n1_; (try clear hb); (try clear hb2); (try clear hk); (try clear hi)) | ((with_reducible refine gate_callee (f := 28) rfl ?_); refine goesL_ (some 89) rfl rfl Tryd.func28 (by kernel_rfl) rfl #[.int .i64 4, .string x10_1] rfl (by (try simp only [List.map_toArray, List.map_cons, List.map_nil]); first | done | rfl | (simp only [List.length_drop, List.length_take]; rfl)) ?_; (with_reducible refine (carryallref02_Encode.calls kj17 4 x10_1 t284 _ A83.out).mono ?_); rintro e w87 ⟨rfl, hb⟩; refine ⟨_, rfl, ?_⟩; have n0_ := Aside0.mk (Kd.R_below (by (with_reducible repeat (first | apply Kd.R_alloc | apply Kd.R_drewN | apply Kd.R_drew)); exact HO_9.out) hb); have n1_ := Aside0.mk (below_step (by repeat (first | (with_reducible first | exact HB.out | apply below_alloc | apply pw_below_drewN | apply below_drew1) | exact HB.out)) hb); clear HO_9; clear HB; have HO_9 := n0_; have HB := n1_; clear n0_ n1_; (try clear hb); (try clear hb2); (try clear hk); (try clear hi)) | ((with_reducible refine gate_builtin (b := .append) (xs := #[.tmp 87, .tmp 90]) rfl ?_); (try (refine gate_guard (by rfl) ?_; dsimp only)); at_builtin; refine Kd.R_append Kd.string (w0 := w) w.heap.size rfl (.tmp 87) (.tmp 90) 22 9 (.string ⟨#[]⟩) 16 rfl Tryd.underlying22 info9 rfl (by decide) (by omega) u9 x9_1 t284 [.string t284] (fun _ => True) (fun _ => False) rfl rfl ?aP (fun _ hk => hk.elim) ?aF ?aO ?aB ?aS ?aL ?_; (case aP => exact rfl); (case aB => exact (by repeat (first | (with_reducible first | exact HB.out | apply below_alloc | apply pw_below_drewN | apply below_drew1) | exact HB.out))); (case aF => exact (fun _ _ => trivial)); (case aO => exact (by (with_reducible repeat (first | apply Kd.R_alloc | apply Kd.R_drewN | apply Kd.R_drew)); exact HO_9.out)); (case aS => exact (below_size (by repeat (first | (with_reducible first | exact HB.out | apply below_alloc | apply pw_below_drewN | apply below_drew1) | exact HB.out)))); (case aL => have := LMc84.out; omega); intro v286 w88 ho hb hg hat; rw [← Ny285.out] at ho; have n0_ := Aside0.mk (hb); have n1_ := Aside0.mk (ho); clear HB; clear HO_9; have HB := n0_; have HO287 := n1_; clear n0_ n1_; clear ho hb hg hat))
                            go_roundg kj17
                            case measure => have := HK1.out; have := HJ9.out; have := HJ17.out; omega
                            case rel => exact ⟨(y285), ((⟨#[]⟩ : ByteArray)), (wrap64 (x20_1 + 1)), (by first | rfl | (simp; done) | (simp [*]; done) | (simp [Go.Proofs.YtpdkncchjkkmeaaDoor.G.isEmpty_ne]; done)), (by first | rfl | (simp; done) | (simp [*]; done) | (simp [Go.Proofs.YtpdkncchjkkmeaaDoor.G.isEmpty_ne]; done)), H', ⟨by have := HK1.out; have := HJ9.out; have := HJ17.out; omega⟩, ⟨by (with_reducible repeat (first | apply Kd.R_alloc | apply Kd.R_drewN | apply Kd.R_drew)); exact HO287.out⟩, ⟨by repeat (first | (with_reducible first | exact HB.out | apply below_alloc | apply pw_below_drewN | apply below_drew1) | exact HB.out)⟩⟩
                          · rw [if_neg c84] at H
                            exact absurd H (by simp)
        · rw [if_neg c9] at H
          have c9b0 : decide (x20_1 < (wrap64 ((a3.size : Int) + 1))) = false := decide_eq_false c9
          clear c9
          obtain rfl := Option.some.inj H
          go_wp2
          go_ret
          exact ⟨_, by first | rfl | (simp [errW_none, errW_some] <;> rfl) | (simp [*, errW_none, errW_some] <;> rfl) | (simp [errW_none, errW_some, Go.Proofs.YtpdkncchjkkmeaaDoor.G.isEmpty_ne]; done), by (with_reducible repeat (first | apply Kd.R_alloc | apply Kd.R_drewN | apply Kd.R_drew)); exact HO_9.out, by repeat (first | (with_reducible first | exact HB.out | apply below_alloc | apply pw_below_drewN | apply below_drew1) | exact HB.out)⟩
  · rw [if_neg c5] at H
    exact absurd H (by simp)

-- NOT PRINTED: function 3 (carryalllaw10_PathWalks)

end Go.Proofs.YtpdkncchjkkmeaaDoor.P
