/- Chapter 11: the reference's Print, walked by cuts. -/
import Derived.Test.YtamoggikjaoanaaDoorUrlR
import Derived.Test.YtamoggikjaoanaaDoorUrlA
namespace Go.Proofs.YtamoggikjaoanaaDoor.P
open Go.RowKit Go.Proofs.YtamoggikjaoanaaDoorW.PrintWords Go.Proofs.YtamoggikjaoanaaDoorW.PrintLast Go.Proofs.YtamoggikjaoanaaDoorW.PrintMore
attribute [local go_sem] max2_int min2_int max_two min_two max_three min_three max_four min_four
set_option linter.unusedVariables false
set_option linter.unusedSimpArgs false
theorem neq_t (s : ByteArray) (h : ¬ s.toList = []) : s.toList.isEmpty = false := by cases e : s.toList with | nil => exact absurd e h | cons _ _ => rfl
set_option maxHeartbeats 8000000 in
set_option maxRecDepth 100000 in
theorem rprint_any (k : Nat) (a0 a1 a2 a3 : ByteArray) (a4 : Bool) (a5 : Int) (a6 : Bool) (a7 : ByteArray) (A8 : Option Addr) (c8 : Nat) (l8 : List ByteArray) (a9 a10 : Bool) (a11 a12 : ByteArray) (frag : Bool) (pt pa : ByteArray) (w : World) (hra : Kd.C Kd.string w A8 l8.length l8) (hca : l8.length ≤ c8) (hpt : carryallref11_port.f k a5 = some pt) (hpa : carryallref11_Path.f k a0 a1 a2 a3 a4 a5 a6 a7 l8 a9 a10 a11 a12 = some pa) (hs : a0.size + a1.size + a2.size + a3.size + a11.size + a12.size ≤ 2000) (hps : pt.size ≤ 100) (hpas : pa.size ≤ 4000) (hl8 : l8.length ≤ 1000) :
    Calls Tryd.prog 10 #[.agg #[.string a0, .string a1, .string a2, .string a3, .bool a4, .int .i64 a5, .bool a6, .string a7, .slice A8 l8.length c8, .bool a9, .bool a10, .string a11, .string a12], .bool frag] w fun e w' => e = .returned (.string (rS4 (rS4 ((rS2 a0 a1 a2 a3 a4 a5 a6 l8 pt) ++ pa) a9 a11 63) (a10 && frag) a12 35)) ∧ Below w.heap.size w w' := by
  have HR := Aside0.mk hra
  have HCA := Aside0.mk hca
  have HPT := Aside0.mk hpt
  have HPA := Aside0.mk hpa
  clear hra hca hpt hpa
  have HB0 := Aside0.mk (show Below w.heap.size w (w.alloc (.cells #[.string a0, .string a1, .string a2, .string a3, .bool a4, .int .i64 a5, .bool a6, .string a7, .slice A8 l8.length c8, .bool a9, .bool a10, .string a11, .string a12] 24)) from (Below.refl _ _).alloc (Nat.le_refl _) _)
  have HC := Aside0.mk (show ∀ w', Below (w.heap.size + 1) (w.alloc (.cells #[.string a0, .string a1, .string a2, .string a3, .bool a4, .int .i64 a5, .bool a6, .string a7, .slice A8 l8.length c8, .bool a9, .bool a10, .string a11, .string a12] 24)) w' → w'.cell? ⟨w.heap.size, 0, none⟩ = some (.string a0) ∧ w'.cell? ⟨w.heap.size, 1, none⟩ = some (.string a1) ∧ w'.cell? ⟨w.heap.size, 2, none⟩ = some (.string a2) ∧ w'.cell? ⟨w.heap.size, 3, none⟩ = some (.string a3) ∧ w'.cell? ⟨w.heap.size, 4, none⟩ = some (.bool a4) ∧ w'.cell? ⟨w.heap.size, 5, none⟩ = some (.int .i64 a5) ∧ w'.cell? ⟨w.heap.size, 6, none⟩ = some (.bool a6) ∧ w'.cell? ⟨w.heap.size, 7, none⟩ = some (.string a7) ∧ w'.cell? ⟨w.heap.size, 8, none⟩ = some (.slice A8 l8.length c8) ∧ w'.cell? ⟨w.heap.size, 9, none⟩ = some (.bool a9) ∧ w'.cell? ⟨w.heap.size, 10, none⟩ = some (.bool a10) ∧ w'.cell? ⟨w.heap.size, 11, none⟩ = some (.string a11) ∧ w'.cell? ⟨w.heap.size, 12, none⟩ = some (.string a12) from fun w' hb => ⟨(hb.cell (p := ⟨w.heap.size, 0, none⟩) (by simp)).trans (by simp),
    (hb.cell (p := ⟨w.heap.size, 1, none⟩) (by simp)).trans (by simp),
    (hb.cell (p := ⟨w.heap.size, 2, none⟩) (by simp)).trans (by simp),
    (hb.cell (p := ⟨w.heap.size, 3, none⟩) (by simp)).trans (by simp),
    (hb.cell (p := ⟨w.heap.size, 4, none⟩) (by simp)).trans (by simp),
    (hb.cell (p := ⟨w.heap.size, 5, none⟩) (by simp)).trans (by simp),
    (hb.cell (p := ⟨w.heap.size, 6, none⟩) (by simp)).trans (by simp),
    (hb.cell (p := ⟨w.heap.size, 7, none⟩) (by simp)).trans (by simp),
    (hb.cell (p := ⟨w.heap.size, 8, none⟩) (by simp)).trans (by simp),
    (hb.cell (p := ⟨w.heap.size, 9, none⟩) (by simp)).trans (by simp),
    (hb.cell (p := ⟨w.heap.size, 10, none⟩) (by simp)).trans (by simp),
    (hb.cell (p := ⟨w.heap.size, 11, none⟩) (by simp)).trans (by simp),
    (hb.cell (p := ⟨w.heap.size, 12, none⟩) (by simp)).trans (by simp)⟩)
  have HZ0 := Aside0.mk (show w.heap.size + 1 ≤ (w.alloc (.cells #[.string a0, .string a1, .string a2, .string a3, .bool a4, .int .i64 a5, .bool a6, .string a7, .slice A8 l8.length c8, .bool a9, .bool a10, .string a11, .string a12] 24)).heap.size by simp)
  obtain ⟨W0, hW0⟩ : ∃ W0, (w.alloc (.cells #[.string a0, .string a1, .string a2, .string a3, .bool a4, .int .i64 a5, .bool a6, .string a7, .slice A8 l8.length c8, .bool a9, .bool a10, .string a11, .string a12] 24)) = W0 := ⟨_, rfl⟩
  rw [hW0] at HB0 HC HZ0
  have hS2 := rS2_le a0 a1 a2 a3 a4 a5 a6 l8 pt
  go_enter Tryd.func10, Tryd.ntmps10
  go_upto_region 0 with fail
  go_cut [0, 2, 4] from 2 to 4 (fun s0 s2 s4 wx => s2 = .pointer (some ⟨w.heap.size, 0, none⟩) ∧ s4 = .string ⟨#[]⟩ ∧ W0 = wx)
  case first =>
    clear HR HCA HPT HPA HB0 HC HZ0 hS2
    go_wp2_with fail
    all_goals (go_meet; exact ⟨rfl, rfl, by first | rfl | exact hW0.symm⟩)
  case rest =>
  obtain ⟨rfl, rfl, rfl⟩ := hcut
  clear hW0
  obtain ⟨h0, h1, h2, h3, h4, h5, h6, h7, h8, h9, h10, h11, h12⟩ := HC.out _ (Below.refl _ _)
  have g0 : ¬ (9223372036854775807 < a0.size + 1) := by omega
  go_upto_if 10 with fail
  go_cut [5] from 11 to 62 (fun s5 wx => s5 = .string (rS2 a0 a1 a2 a3 a4 a5 a6 l8 pt) ∧ Below (w.heap.size + 1) W0 wx)
  case first =>
    clear HPA HC
    have g1 : ¬ (9223372036854775807 < a0.size + 1 + 2) := by omega
    cases a4 with
    | true =>
      have g2 : ¬ (9223372036854775807 < a0.size + 1 + 2 + a1.size) := by omega
      have g5 : ¬ (9223372036854775807 < a1.size + a2.size) := by omega
      rcases Decidable.em (a2.toList = []) with hp | hp
      · have hp1 := hp
        rcases Decidable.em ((a1 ++ a2).toList = []) with hu | hu
        · have hu1 := hu
          have g7 : ¬ (9223372036854775807 < a0.size + 1 + 2 + a1.size + a3.size) := by omega
          have g8 : ¬ (9223372036854775807 < a0.size + 1 + 2 + a1.size + a3.size + 1) := by omega
          have g9 : ¬ (9223372036854775807 < a0.size + 1 + 2 + a1.size + a3.size + 1 + pt.size) := by omega
          rcases Decidable.em (a5 = -1) with e5 | e5
          · have HF := Aside0.mk (show rS2 a0 a1 a2 a3 true a5 a6 l8 pt = a0 ++ ⟨#[58]⟩ ++ ⟨#[47, 47]⟩ ++ a1 ++ a3 from by simp only [rS2, rW6, rW5, rW4, rW3, rW2, rS1, if_true, if_pos hp, if_pos hu, if_pos e5])
            have h5b : (a5 != -1) = false := by simp [e5]
            clear hp hu e5 hS2 HB0
            go_wp2_with fail
            go_meet
            exact ⟨by rw [HF.out], Below.refl _ _⟩
          · have HF := Aside0.mk (show rS2 a0 a1 a2 a3 true a5 a6 l8 pt = a0 ++ ⟨#[58]⟩ ++ ⟨#[47, 47]⟩ ++ a1 ++ a3 ++ ⟨#[58]⟩ ++ pt from by simp only [rS2, rW6, rW5, rW4, rW3, rW2, rS1, if_true, if_pos hp, if_pos hu, if_neg e5])
            have h5b : (a5 != -1) = true := by simp [e5]
            clear hp hu e5 hS2 HB0
            go_wp2_with (go_at_call 19; (with_reducible refine (carryallref11_port.calls k a5 pt _ HPT.out).mono ?_); rintro e w1 ⟨rfl, hb⟩; have B1 := Aside0.mk hb; clear hb)
            go_meet
            exact ⟨by rw [HF.out], B1.out.mono HZ0.out⟩
        · have hu1 := neq_t _ hu
          have g6 : ¬ (9223372036854775807 < a0.size + 1 + 2 + a1.size + 1) := by omega
          have g7 : ¬ (9223372036854775807 < a0.size + 1 + 2 + a1.size + 1 + a3.size) := by omega
          have g8 : ¬ (9223372036854775807 < a0.size + 1 + 2 + a1.size + 1 + a3.size + 1) := by omega
          have g9 : ¬ (9223372036854775807 < a0.size + 1 + 2 + a1.size + 1 + a3.size + 1 + pt.size) := by omega
          rcases Decidable.em (a5 = -1) with e5 | e5
          · have HF := Aside0.mk (show rS2 a0 a1 a2 a3 true a5 a6 l8 pt = a0 ++ ⟨#[58]⟩ ++ ⟨#[47, 47]⟩ ++ a1 ++ ⟨#[64]⟩ ++ a3 from by simp only [rS2, rW6, rW5, rW4, rW3, rW2, rS1, if_true, if_pos hp, if_neg hu, if_pos e5])
            have h5b : (a5 != -1) = false := by simp [e5]
            clear hp hu e5 hS2 HB0
            go_wp2_with fail
            go_meet
            exact ⟨by rw [HF.out], Below.refl _ _⟩
          · have HF := Aside0.mk (show rS2 a0 a1 a2 a3 true a5 a6 l8 pt = a0 ++ ⟨#[58]⟩ ++ ⟨#[47, 47]⟩ ++ a1 ++ ⟨#[64]⟩ ++ a3 ++ ⟨#[58]⟩ ++ pt from by simp only [rS2, rW6, rW5, rW4, rW3, rW2, rS1, if_true, if_pos hp, if_neg hu, if_neg e5])
            have h5b : (a5 != -1) = true := by simp [e5]
            clear hp hu e5 hS2 HB0
            go_wp2_with (go_at_call 19; (with_reducible refine (carryallref11_port.calls k a5 pt _ HPT.out).mono ?_); rintro e w1 ⟨rfl, hb⟩; have B1 := Aside0.mk hb; clear hb)
            go_meet
            exact ⟨by rw [HF.out], B1.out.mono HZ0.out⟩
      · have hp1 := neq_t a2 hp
        have g3 : ¬ (9223372036854775807 < a0.size + 1 + 2 + a1.size + 1) := by omega
        have g4 : ¬ (9223372036854775807 < a0.size + 1 + 2 + a1.size + 1 + a2.size) := by omega
        rcases Decidable.em ((a1 ++ a2).toList = []) with hu | hu
        · have hu1 := hu
          have g7 : ¬ (9223372036854775807 < a0.size + 1 + 2 + a1.size + 1 + a2.size + a3.size) := by omega
          have g8 : ¬ (9223372036854775807 < a0.size + 1 + 2 + a1.size + 1 + a2.size + a3.size + 1) := by omega
          have g9 : ¬ (9223372036854775807 < a0.size + 1 + 2 + a1.size + 1 + a2.size + a3.size + 1 + pt.size) := by omega
          rcases Decidable.em (a5 = -1) with e5 | e5
          · have HF := Aside0.mk (show rS2 a0 a1 a2 a3 true a5 a6 l8 pt = a0 ++ ⟨#[58]⟩ ++ ⟨#[47, 47]⟩ ++ a1 ++ ⟨#[58]⟩ ++ a2 ++ a3 from by simp only [rS2, rW6, rW5, rW4, rW3, rW2, rS1, if_true, if_neg hp, if_pos hu, if_pos e5])
            have h5b : (a5 != -1) = false := by simp [e5]
            clear hp hu e5 hS2 HB0
            go_wp2_with fail
            go_meet
            exact ⟨by rw [HF.out], Below.refl _ _⟩
          · have HF := Aside0.mk (show rS2 a0 a1 a2 a3 true a5 a6 l8 pt = a0 ++ ⟨#[58]⟩ ++ ⟨#[47, 47]⟩ ++ a1 ++ ⟨#[58]⟩ ++ a2 ++ a3 ++ ⟨#[58]⟩ ++ pt from by simp only [rS2, rW6, rW5, rW4, rW3, rW2, rS1, if_true, if_neg hp, if_pos hu, if_neg e5])
            have h5b : (a5 != -1) = true := by simp [e5]
            clear hp hu e5 hS2 HB0
            go_wp2_with (go_at_call 19; (with_reducible refine (carryallref11_port.calls k a5 pt _ HPT.out).mono ?_); rintro e w1 ⟨rfl, hb⟩; have B1 := Aside0.mk hb; clear hb)
            go_meet
            exact ⟨by rw [HF.out], B1.out.mono HZ0.out⟩
        · have hu1 := neq_t _ hu
          have g6 : ¬ (9223372036854775807 < a0.size + 1 + 2 + a1.size + 1 + a2.size + 1) := by omega
          have g7 : ¬ (9223372036854775807 < a0.size + 1 + 2 + a1.size + 1 + a2.size + 1 + a3.size) := by omega
          have g8 : ¬ (9223372036854775807 < a0.size + 1 + 2 + a1.size + 1 + a2.size + 1 + a3.size + 1) := by omega
          have g9 : ¬ (9223372036854775807 < a0.size + 1 + 2 + a1.size + 1 + a2.size + 1 + a3.size + 1 + pt.size) := by omega
          rcases Decidable.em (a5 = -1) with e5 | e5
          · have HF := Aside0.mk (show rS2 a0 a1 a2 a3 true a5 a6 l8 pt = a0 ++ ⟨#[58]⟩ ++ ⟨#[47, 47]⟩ ++ a1 ++ ⟨#[58]⟩ ++ a2 ++ ⟨#[64]⟩ ++ a3 from by simp only [rS2, rW6, rW5, rW4, rW3, rW2, rS1, if_true, if_neg hp, if_neg hu, if_pos e5])
            have h5b : (a5 != -1) = false := by simp [e5]
            clear hp hu e5 hS2 HB0
            go_wp2_with fail
            go_meet
            exact ⟨by rw [HF.out], Below.refl _ _⟩
          · have HF := Aside0.mk (show rS2 a0 a1 a2 a3 true a5 a6 l8 pt = a0 ++ ⟨#[58]⟩ ++ ⟨#[47, 47]⟩ ++ a1 ++ ⟨#[58]⟩ ++ a2 ++ ⟨#[64]⟩ ++ a3 ++ ⟨#[58]⟩ ++ pt from by simp only [rS2, rW6, rW5, rW4, rW3, rW2, rS1, if_true, if_neg hp, if_neg hu, if_neg e5])
            have h5b : (a5 != -1) = true := by simp [e5]
            clear hp hu e5 hS2 HB0
            go_wp2_with (go_at_call 19; (with_reducible refine (carryallref11_port.calls k a5 pt _ HPT.out).mono ?_); rintro e w1 ⟨rfl, hb⟩; have B1 := Aside0.mk hb; clear hb)
            go_meet
            exact ⟨by rw [HF.out], B1.out.mono HZ0.out⟩

    | false =>
      have hR0 := Kd.C_below HR.out HB0.out
      cases a6 with
      | true =>
        have HF := Aside0.mk (show rS2 a0 a1 a2 a3 false a5 true l8 pt = a0 ++ ⟨#[58]⟩ from by
          have hd : ¬ rDot true l8 = true := by unfold rDot; simp
          simp only [rS2, if_neg Bool.false_ne_true, if_neg hd, rS1])
        clear hS2 hR0 HB0
        go_wp2_with fail
        go_meet
        exact ⟨by rw [HF.out], Below.refl _ _⟩
      | false =>
        rcases Decidable.em (1 < l8.length) with hl | hl
        · obtain ⟨ad, hA, hc0⟩ := Kd.at_string hR0 (0 : Int) (by omega) (by omega)
          subst hA
          have hl0 : 0 < l8.length := by omega
          have hld : decide (1 < (l8.length : Int)) = true := by simp; omega
          have hld2 : decide (1 < l8.length) = true := by simp; omega
          obtain ⟨x, hx⟩ : ∃ x, rdOf ByteArray.empty l8 0 = x := ⟨_, rfl⟩
          rw [hx] at hc0
          have hc1 : W0.cell? (ad.add 0) = some (.string x) := hc0
          have hc2 : W0.cell? ad = some (.string x) := by rw [← hc1]; congr 1
          rcases Decidable.em (x.toList = []) with he | he
          · have HF := Aside0.mk (show rS2 a0 a1 a2 a3 false a5 false l8 pt = a0 ++ ⟨#[58]⟩ ++ ⟨#[47, 46]⟩ from by
              have hd : rDot false l8 = true := by unfold rDot; rw [hx, he, decide_eq_true (show (l8.length : Int) > 1 by omega)]; rfl
              simp only [rS2, if_neg Bool.false_ne_true, if_pos hd, rS1])
            clear hS2 hR0 HB0 hx
            go_wp2_with fail
            go_meet
            exact ⟨by rw [HF.out], Below.refl _ _⟩
          · have HF := Aside0.mk (show rS2 a0 a1 a2 a3 false a5 false l8 pt = a0 ++ ⟨#[58]⟩ from by
              have hd : ¬ rDot false l8 = true := by unfold rDot; rw [hx, beq_eq_false_iff_ne.2 he]; simp
              simp only [rS2, if_neg Bool.false_ne_true, if_neg hd, rS1])
            have he1 := neq_t x he
            clear hS2 hR0 HB0 hx he
            go_wp2_with fail
            go_meet
            exact ⟨by rw [HF.out], Below.refl _ _⟩
        · have hld : decide (1 < (l8.length : Int)) = false := by simp; omega
          have hld2 : decide (1 < l8.length) = false := by simp; omega
          have HF := Aside0.mk (show rS2 a0 a1 a2 a3 false a5 false l8 pt = a0 ++ ⟨#[58]⟩ from by
            have hd : ¬ rDot false l8 = true := by unfold rDot; rw [decide_eq_false (show ¬ (l8.length : Int) > 1 by omega)]; simp
            simp only [rS2, if_neg Bool.false_ne_true, if_neg hd, rS1])
          clear hS2 hR0 HB0
          go_wp2_with fail
          go_meet
          exact ⟨by rw [HF.out], Below.refl _ _⟩
  case rest =>
  obtain ⟨rfl, hw1⟩ := hcut
  obtain ⟨S, hS⟩ : ∃ S, (rS2 a0 a1 a2 a3 a4 a5 a6 l8 pt) = S := ⟨_, rfl⟩
  rw [hS] at hS2 ⊢
  have HSS := Aside0.mk hS
  clear hS h0 h1 h2 h3 h4 h5 h6 h7 h8 h9 h10 h11 h12 g0
  obtain ⟨h0, h1, h2, h3, h4, h5, h6, h7, h8, h9, h10, h11, h12⟩ := HC.out _ hw1
  have hSz : S.size ≤ 2200 := by omega
  have q1 : ¬ (9223372036854775807 < S.size + pa.size) := by omega
  have HW1 := Aside0.mk hw1
  clear hw1 hS2
  have HP := Aside0.mk (show ∀ wy, Below (w.heap.size + 1) W0 wy → _ from fun wy hb => carryallref11_Path.calls k a0 a1 a2 a3 a4 a5 a6 a7 A8 c8 l8 a9 a10 a11 a12 pa wy (Kd.C_below HR.out (HB0.out.trans (hb.mono (by omega)))) HCA.out HPA.out)
  clear HR HCA HPT HPA
  go_upto_if 68 with (go_at_call 13; (with_reducible refine (HP.out _ HW1.out).mono ?_); rintro e w2 ⟨rfl, hb⟩; have HW2 := Aside0.mk (HW1.out.trans (hb.mono (Nat.le_trans HZ0.out HW1.out.size))); clear hb h0 h1 h2 h3 h4 h5 h6 h7 h8 h9 h10 h11 h12; obtain ⟨h0, h1, h2, h3, h4, h5, h6, h7, h8, h9, h10, h11, h12⟩ := HC.out _ HW2.out)
  obtain ⟨T, hT⟩ : ∃ T, S ++ pa = T := ⟨_, rfl⟩
  have hTz : T.size ≤ 6200 := by rw [← hT, rs]; omega
  have hT1 : S.append pa = T := hT
  rw [hT]
  have q2 : ¬ (9223372036854775807 < T.size + 1) := by omega
  have q3 : ¬ (9223372036854775807 < T.size + 1 + a11.size) := by omega
  have q4 : ¬ (9223372036854775807 < T.size + 1 + a11.size + 1) := by omega
  have q5 : ¬ (9223372036854775807 < T.size + 1 + a11.size + 1 + a12.size) := by omega
  have q6 : ¬ (9223372036854775807 < T.size + 1 + a12.size) := by omega
  have HB := Aside0.mk (HB0.out.trans (HW2.out.mono (Nat.le_succ _)))
  have HT := Aside0.mk hT
  clear hT hT1 hs hSz hTz q1
  cases a9 <;> cases a10 <;> cases frag
  all_goals (go_wp2_with fail; go_ret; exact ⟨by rw [HSS.out, HT.out]; simp [rS4], HB.out⟩)
end Go.Proofs.YtamoggikjaoanaaDoor.P
