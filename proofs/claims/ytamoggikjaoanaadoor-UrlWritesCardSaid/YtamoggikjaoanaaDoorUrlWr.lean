/- Chapter 11: what is written of a URL is what the document says: the law, walked. -/
import Derived.Test.YtamoggikjaoanaaDoorUrlRW
import Derived.Test.YtamoggikjaoanaaDoorUrlPr
import Derived.Deep.RegionHeld3
import Derived.Test.YtamoggikjaoanaaDoorPx1
import Derived.Test.YtamoggikjaoanaaDoorPx2
namespace Go.Proofs.YtamoggikjaoanaaDoor.UrlP
open Go.RowKit Go.Proofs.YtamoggikjaoanaaDoor.P Go.Proofs.YtamoggikjaoanaaDoor.Pl Go.Proofs.YtamoggikjaoanaaDoor.Url Go.Proofs.YtamoggikjaoanaaDoorW.PrintWords Go.Proofs.YtamoggikjaoanaaDoorW.PrintLast Go.Proofs.YtamoggikjaoanaaDoorW.PrintMore
set_option linter.unusedVariables false
set_option linter.unusedSimpArgs false
attribute [local go_sem] max2_int min2_int max_two min_two max_three min_three max_four min_four
theorem i64_rng {a : Int} (h : (Lit.int .i64 a).wf = true) : -9223372036854775808 ≤ a ∧ a ≤ 9223372036854775807 := by
  simpa [Lit.wf, IntKind.min, IntKind.max, IntKind.bits, IntKind.signed] using h
theorem last14 {p0 p1 p2 p3 p4 p5 p6 p7 p8 p9 p10 p11 p12 p13 : Prop} (h : p0 ∧ p1 ∧ p2 ∧ p3 ∧ p4 ∧ p5 ∧ p6 ∧ p7 ∧ p8 ∧ p9 ∧ p10 ∧ p11 ∧ p12 ∧ p13) : p13 := h.2.2.2.2.2.2.2.2.2.2.2.2.2
theorem rs4_no (s q : ByteArray) (c : UInt8) (b : Bool) : rS4 s (b && false) q c = s := by rw [Bool.and_false]; rfl
set_option maxHeartbeats 8000000 in
set_option maxRecDepth 100000 in
theorem writes_row (a0 a1 a2 a3 : ByteArray) (a4 : Bool) (a5 : Int) (a6 : Bool) (a7 : ByteArray) (A8 : Option Addr) (c8 : Nat) (l8 : List ByteArray) (a9 a10 : Bool) (a11 a12 : ByteArray) (w : World) (rda : Kd.C Kd.string w A8 l8.length l8) (lca : l8.length ≤ c8) (wfa : (Lit.int .i64 a5).wf = true) (za0 : a0.size ≤ reachBytes) (za1 : a1.size ≤ reachBytes) (za2 : a2.size ≤ reachBytes) (za3 : a3.size ≤ reachBytes) (za7 : a7.size ≤ reachBytes) (za11 : a11.size ≤ reachBytes) (za12 : a12.size ≤ reachBytes) (sla : ∀ s ∈ l8, s.size ≤ reachBytes) (sna : l8.length * 16 ≤ reachBytes) (hT : G.T w) :
    Calls Tryd.prog 3 #[.agg #[.string a0, .string a1, .string a2, .string a3, .bool a4, .int .i64 a5, .bool a6, .string a7, .slice A8 l8.length c8, .bool a9, .bool a10, .string a11, .string a12]] w fun e w' => e = .returned (.bool true) ∧ Below w.heap.size w w' := by
  obtain ⟨h50, h51⟩ := i64_rng wfa
  obtain ⟨X, hX⟩ : ∃ X, (decide (sumw l8 (few0 a0 a1 a2 a3 a4 a5 a6 a7 l8 a9 a10 a11 a12) ≤ 1000) && decide ((l8.length : Int) ≤ 50)) = X := ⟨_, rfl⟩
  have hlen : l8.length ≤ 1000000000000000 := by have hr : reachBytes < 2 ^ 47 := reachBytes_lt; omega
  have hfew := few_f a0 a1 a2 a3 a4 a5 a6 a7 l8 a9 a10 a11 a12 hlen (l8.length + 40) (by omega)
  rw [hX] at hfew
  have HR := Aside0.mk rda
  have HCA := Aside0.mk lca
  have HT := Aside0.mk hT
  have HB0 := Aside0.mk (show Below w.heap.size w (w.alloc (.cells #[.string a0, .string a1, .string a2, .string a3, .bool a4, .int .i64 a5, .bool a6, .string a7, .slice A8 l8.length c8, .bool a9, .bool a10, .string a11, .string a12] 24)) from (Below.refl _ _).alloc (Nat.le_refl _) _)
  have HC := Aside0.mk (show ∀ w', Below (w.heap.size + 1) (w.alloc (.cells #[.string a0, .string a1, .string a2, .string a3, .bool a4, .int .i64 a5, .bool a6, .string a7, .slice A8 l8.length c8, .bool a9, .bool a10, .string a11, .string a12] 24)) w' → w'.cell? ⟨w.heap.size, 0, none⟩ = some (.string a0) ∧ w'.cell? ⟨w.heap.size, 1, none⟩ = some (.string a1) ∧ w'.cell? ⟨w.heap.size, 2, none⟩ = some (.string a2) ∧ w'.cell? ⟨w.heap.size, 3, none⟩ = some (.string a3) ∧ w'.cell? ⟨w.heap.size, 4, none⟩ = some (.bool a4) ∧ w'.cell? ⟨w.heap.size, 5, none⟩ = some (.int .i64 a5) ∧ w'.cell? ⟨w.heap.size, 6, none⟩ = some (.bool a6) ∧ w'.cell? ⟨w.heap.size, 7, none⟩ = some (.string a7) ∧ w'.cell? ⟨w.heap.size, 8, none⟩ = some (.slice A8 l8.length c8) ∧ w'.cell? ⟨w.heap.size, 9, none⟩ = some (.bool a9) ∧ w'.cell? ⟨w.heap.size, 10, none⟩ = some (.bool a10) ∧ w'.cell? ⟨w.heap.size, 11, none⟩ = some (.string a11) ∧ w'.cell? ⟨w.heap.size, 12, none⟩ = some (.string a12) from fun w' hb => ⟨(hb.cell (p := ⟨w.heap.size, 0, none⟩) (by simp)).trans (by simp),
    (hb.cell (p := ⟨w.heap.size, 1, none⟩) (by simp)).trans (by simp),
    (hb.cell (p := ⟨w.heap.size, 2, none⟩) (by simp)).trans (by simp),
    (hb.cell (p := ⟨w.heap.size, 3, none⟩) (by simp)).trans (by simp),
    (hb.cell (p := ⟨w.heap.size, 4, none⟩) (by simp)).trans (by simp),
    (hb.cell (p := ⟨w.heap.size, 5, none⟩) (by simp)).trans (by simp),
    (hb.cell (p := ⟨w.heap.size, 6, none⟩) (by simp)).trans (by simp),
    (hb.cell (p := ⟨w.heap.size, 7, none⟩) (by simp)).trans (by simp),
    (hb.cell (p := ⟨w.heap.size, 8, none⟩) (by simp)).trans (by simp),
    (hb.cell (p := ⟨w.heap.size, 9, none⟩) (by simp)).trans (by simp),
    (hb.cell (p := ⟨w.heap.size, 10, none⟩) (by simp)).trans (by simp),
    (hb.cell (p := ⟨w.heap.size, 11, none⟩) (by simp)).trans (by simp),
    (hb.cell (p := ⟨w.heap.size, 12, none⟩) (by simp)).trans (by simp)⟩)
  have HZ0 := Aside0.mk (show w.heap.size + 1 ≤ (w.alloc (.cells #[.string a0, .string a1, .string a2, .string a3, .bool a4, .int .i64 a5, .bool a6, .string a7, .slice A8 l8.length c8, .bool a9, .bool a10, .string a11, .string a12] 24)).heap.size by simp)
  obtain ⟨W0, hW0⟩ : ∃ W0, (w.alloc (.cells #[.string a0, .string a1, .string a2, .string a3, .bool a4, .int .i64 a5, .bool a6, .string a7, .slice A8 l8.length c8, .bool a9, .bool a10, .string a11, .string a12] 24)) = W0 := ⟨_, rfl⟩
  rw [hW0] at HB0 HC HZ0
  have HFEW := Aside0.mk (show ∀ wy, Below (w.heap.size + 1) W0 wy → Calls Tryd.prog 8 #[.agg #[.string a0, .string a1, .string a2, .string a3, .bool a4, .int .i64 a5, .bool a6, .string a7, .slice A8 l8.length c8, .bool a9, .bool a10, .string a11, .string a12]] wy fun e w' => e = .returned (.bool X) ∧ Below (w.heap.size + 1) W0 w' from fun wy hy => by
    refine (carryallref11_Few.calls (l8.length + 40) a0 a1 a2 a3 a4 a5 a6 a7 A8 c8 l8 a9 a10 a11 a12 X wy (Kd.C_below HR.out (HB0.out.trans (hy.mono (by omega)))) HCA.out hfew).mono ?_
    rintro e w' ⟨rfl, hb⟩
    exact ⟨rfl, hy.trans (hb.mono (Nat.le_trans HZ0.out hy.size))⟩)
  have HAW := Aside0.mk (show ∀ wy, Below (w.heap.size + 1) W0 wy → Calls Tryd.prog 7 #[] wy fun e w' => e = .returned (.bool true) ∧ Below (w.heap.size + 1) W0 w' from fun wy hy => by
    refine (carryalllaw11_awake.calls 20 true wy (awake_at 20 (by omega)) (G.T_below HT.out (HB0.out.trans (hy.mono (by omega))))).mono ?_
    rintro e w' ⟨rfl, hb⟩
    exact ⟨rfl, hy.trans (hb.mono (Nat.le_trans HZ0.out hy.size))⟩)
  cases X with
  | false =>
    clear hX hfew hlen HR HCA HT za0 za1 za2 za3 za7 za11 za12 sla sna rda lca wfa hT h50 h51
    go_enter Tryd.func3, Tryd.ntmps3
    go_upto_region 0 with fail
    go_cut [0, 1, 2] from 1 to 2 (fun s0 s1 s2 wx => s1 = .pointer (some ⟨w.heap.size, 0, none⟩) ∧ s2 = .bool false ∧ W0 = wx)
    case first =>
      clear HB0 HC HZ0 HFEW HAW
      go_wp2_with fail
      all_goals (go_meet; exact ⟨rfl, rfl, by first | rfl | exact hW0.symm⟩)
    case rest =>
    obtain ⟨rfl, rfl, rfl⟩ := hcut
    clear hW0
    obtain ⟨h0, h1, h2, h3, h4, h5, h6, h7, h8, h9, h10, h11, h12⟩ := HC.out _ (Below.refl _ _)
    go_wp2_with (first | (go_at_call 7; (with_reducible refine (HAW.out _ (by first | exact Y.out | exact Below.refl _ _)).mono ?_); rintro e wz ⟨rfl, hb⟩; have Y := Aside0.mk hb; clear hb; (try clear h0 h1 h2 h3 h4 h5 h6 h7 h8 h9 h10 h11 h12); obtain ⟨h0, h1, h2, h3, h4, h5, h6, h7, h8, h9, h10, h11, h12⟩ := HC.out _ Y.out) | (go_at_call 8; (with_reducible refine (HFEW.out _ (by first | exact Y.out | exact Below.refl _ _)).mono ?_); rintro e wz ⟨rfl, hb⟩; have Y := Aside0.mk hb; clear hb; (try clear h0 h1 h2 h3 h4 h5 h6 h7 h8 h9 h10 h11 h12); obtain ⟨h0, h1, h2, h3, h4, h5, h6, h7, h8, h9, h10, h11, h12⟩ := HC.out _ Y.out))
    go_ret
    exact ⟨rfl, HB0.out.trans (Y.out.mono (Nat.le_succ _))⟩
  | true =>
    obtain ⟨hl, hs⟩ := few_sizes hX za0 za1 za2 za3 za7 za11 za12 sla
    have hp : (pathL l8).length ≤ 1100 := by rw [path_len]; omega
    have hpz : (pathS a6 a7 l8).size ≤ 4000 := by unfold pathS; split <;> first | omega | (rw [mk_size]; omega)
    have hpt := port_f a5 (l8.length + 40) (by omega) h50 h51
    have hpa := rpath_f a0 a1 a2 a3 a4 a5 a6 a7 l8 a9 a10 a11 a12 (by omega) (l8.length + 40) (by omega)
    have hpr := print_f a0 a1 a2 a3 a4 a5 a6 a7 l8 a9 a10 a11 a12 h50 h51 hl hs 40 (by omega)
    have hba := bare_f a0 a1 a2 a3 a4 a5 a6 a7 l8 a9 a10 a11 a12 h50 h51 hl hs 40 (by omega)
    have hup := upath_f a0 a1 a2 a3 a4 a5 a6 a7 l8 a9 a10 a11 a12 (by omega)
    have hil := itoa_le a5 h50 h51
    obtain ⟨R0, hR0⟩ : ∃ R, bareS a0 a1 a2 a3 a4 a5 a6 a7 l8 a9 a10 a11 a12 = R := ⟨_, rfl⟩
    obtain ⟨R1, hR1⟩ : ∃ R, rS4 R0 a10 a12 35 = R := ⟨_, rfl⟩
    obtain ⟨R2, hR2⟩ : ∃ R, pathS a6 a7 l8 = R := ⟨_, rfl⟩
    rw [hR0, hR1] at hpr
    rw [hR0] at hba
    rw [hR2] at hup
    have hrt : ∀ wy, Kd.C Kd.string wy A8 l8.length l8 → ∀ fr : Bool, Calls Tryd.prog 10 #[.agg #[.string a0, .string a1, .string a2, .string a3, .bool a4, .int .i64 a5, .bool a6, .string a7, .slice A8 l8.length c8, .bool a9, .bool a10, .string a11, .string a12], .bool fr] wy fun e w' => e = .returned (.string (rS4 R0 (a10 && fr) a12 35)) ∧ Below wy.heap.size wy w' := fun wy hC fr => by
      have h := rprint_any (l8.length + 40) a0 a1 a2 a3 a4 a5 a6 a7 A8 c8 l8 a9 a10 a11 a12 fr (mk (Lib.itoa a5)) (pathS a6 a7 l8) wy hC lca hpt hpa (by omega) hil hpz (by omega)
      rw [← hR0]
      exact h
    have h10t : ∀ wy, Kd.C Kd.string wy A8 l8.length l8 → Calls Tryd.prog 10 #[.agg #[.string a0, .string a1, .string a2, .string a3, .bool a4, .int .i64 a5, .bool a6, .string a7, .slice A8 l8.length c8, .bool a9, .bool a10, .string a11, .string a12], .bool true] wy fun e w' => e = .returned (.string R1) ∧ Below wy.heap.size wy w' := fun wy hC => by
      have h := hrt wy hC true
      rw [Bool.and_true, hR1] at h
      exact h
    have h10f : ∀ wy, Kd.C Kd.string wy A8 l8.length l8 → Calls Tryd.prog 10 #[.agg #[.string a0, .string a1, .string a2, .string a3, .bool a4, .int .i64 a5, .bool a6, .string a7, .slice A8 l8.length c8, .bool a9, .bool a10, .string a11, .string a12], .bool false] wy fun e w' => e = .returned (.string R0) ∧ Below wy.heap.size wy w' := fun wy hC => by
      have h := hrt wy hC false
      rw [rs4_no] at h
      exact h
    have H9 := Aside0.mk (show ∀ wy, wy.cell? ⟨w.heap.size, 0, none⟩ = some (.string a0) ∧ wy.cell? ⟨w.heap.size, 1, none⟩ = some (.string a1) ∧ wy.cell? ⟨w.heap.size, 2, none⟩ = some (.string a2) ∧ wy.cell? ⟨w.heap.size, 3, none⟩ = some (.string a3) ∧ wy.cell? ⟨w.heap.size, 4, none⟩ = some (.bool a4) ∧ wy.cell? ⟨w.heap.size, 5, none⟩ = some (.int .i64 a5) ∧ wy.cell? ⟨w.heap.size, 6, none⟩ = some (.bool a6) ∧ wy.cell? ⟨w.heap.size, 7, none⟩ = some (.string a7) ∧ wy.cell? ⟨w.heap.size, 8, none⟩ = some (.slice A8 l8.length c8) ∧ wy.cell? ⟨w.heap.size, 9, none⟩ = some (.bool a9) ∧ wy.cell? ⟨w.heap.size, 10, none⟩ = some (.bool a10) ∧ wy.cell? ⟨w.heap.size, 11, none⟩ = some (.string a11) ∧ wy.cell? ⟨w.heap.size, 12, none⟩ = some (.string a12) ∧ Below (w.heap.size + 1) W0 wy → Calls Tryd.prog 9 #[.agg #[.string a0, .string a1, .string a2, .string a3, .bool a4, .int .i64 a5, .bool a6, .string a7, .slice A8 l8.length c8, .bool a9, .bool a10, .string a11, .string a12]] wy fun e w' => e = .returned (.string R1) ∧ w'.cell? ⟨w.heap.size, 0, none⟩ = some (.string a0) ∧ w'.cell? ⟨w.heap.size, 1, none⟩ = some (.string a1) ∧ w'.cell? ⟨w.heap.size, 2, none⟩ = some (.string a2) ∧ w'.cell? ⟨w.heap.size, 3, none⟩ = some (.string a3) ∧ w'.cell? ⟨w.heap.size, 4, none⟩ = some (.bool a4) ∧ w'.cell? ⟨w.heap.size, 5, none⟩ = some (.int .i64 a5) ∧ w'.cell? ⟨w.heap.size, 6, none⟩ = some (.bool a6) ∧ w'.cell? ⟨w.heap.size, 7, none⟩ = some (.string a7) ∧ w'.cell? ⟨w.heap.size, 8, none⟩ = some (.slice A8 l8.length c8) ∧ w'.cell? ⟨w.heap.size, 9, none⟩ = some (.bool a9) ∧ w'.cell? ⟨w.heap.size, 10, none⟩ = some (.bool a10) ∧ w'.cell? ⟨w.heap.size, 11, none⟩ = some (.string a11) ∧ w'.cell? ⟨w.heap.size, 12, none⟩ = some (.string a12) ∧ Below (w.heap.size + 1) W0 w' from fun wy hS => by
      have hy := hS.2.2.2.2.2.2.2.2.2.2.2.2.2
      refine (url_Print.calls 40 a0 a1 a2 a3 a4 a5 a6 a7 A8 c8 l8 a9 a10 a11 a12 R1 wy (Kd.C_below HR.out (HB0.out.trans (hy.mono (by omega)))) HCA.out hpr (G.T_below HT.out (HB0.out.trans (hy.mono (by omega))))).mono ?_
      rintro e w' ⟨rfl, hb⟩
      have hw := hy.trans (hb.mono (Nat.le_trans HZ0.out hy.size))
      obtain ⟨h0, h1, h2, h3, h4, h5, h6, h7, h8, h9, h10, h11, h12⟩ := HC.out _ hw
      exact ⟨rfl, h0, h1, h2, h3, h4, h5, h6, h7, h8, h9, h10, h11, h12, hw⟩)
    have H11 := Aside0.mk (show ∀ wy, wy.cell? ⟨w.heap.size, 0, none⟩ = some (.string a0) ∧ wy.cell? ⟨w.heap.size, 1, none⟩ = some (.string a1) ∧ wy.cell? ⟨w.heap.size, 2, none⟩ = some (.string a2) ∧ wy.cell? ⟨w.heap.size, 3, none⟩ = some (.string a3) ∧ wy.cell? ⟨w.heap.size, 4, none⟩ = some (.bool a4) ∧ wy.cell? ⟨w.heap.size, 5, none⟩ = some (.int .i64 a5) ∧ wy.cell? ⟨w.heap.size, 6, none⟩ = some (.bool a6) ∧ wy.cell? ⟨w.heap.size, 7, none⟩ = some (.string a7) ∧ wy.cell? ⟨w.heap.size, 8, none⟩ = some (.slice A8 l8.length c8) ∧ wy.cell? ⟨w.heap.size, 9, none⟩ = some (.bool a9) ∧ wy.cell? ⟨w.heap.size, 10, none⟩ = some (.bool a10) ∧ wy.cell? ⟨w.heap.size, 11, none⟩ = some (.string a11) ∧ wy.cell? ⟨w.heap.size, 12, none⟩ = some (.string a12) ∧ Below (w.heap.size + 1) W0 wy → Calls Tryd.prog 11 #[.agg #[.string a0, .string a1, .string a2, .string a3, .bool a4, .int .i64 a5, .bool a6, .string a7, .slice A8 l8.length c8, .bool a9, .bool a10, .string a11, .string a12]] wy fun e w' => e = .returned (.string R0) ∧ w'.cell? ⟨w.heap.size, 0, none⟩ = some (.string a0) ∧ w'.cell? ⟨w.heap.size, 1, none⟩ = some (.string a1) ∧ w'.cell? ⟨w.heap.size, 2, none⟩ = some (.string a2) ∧ w'.cell? ⟨w.heap.size, 3, none⟩ = some (.string a3) ∧ w'.cell? ⟨w.heap.size, 4, none⟩ = some (.bool a4) ∧ w'.cell? ⟨w.heap.size, 5, none⟩ = some (.int .i64 a5) ∧ w'.cell? ⟨w.heap.size, 6, none⟩ = some (.bool a6) ∧ w'.cell? ⟨w.heap.size, 7, none⟩ = some (.string a7) ∧ w'.cell? ⟨w.heap.size, 8, none⟩ = some (.slice A8 l8.length c8) ∧ w'.cell? ⟨w.heap.size, 9, none⟩ = some (.bool a9) ∧ w'.cell? ⟨w.heap.size, 10, none⟩ = some (.bool a10) ∧ w'.cell? ⟨w.heap.size, 11, none⟩ = some (.string a11) ∧ w'.cell? ⟨w.heap.size, 12, none⟩ = some (.string a12) ∧ Below (w.heap.size + 1) W0 w' from fun wy hS => by
      have hy := hS.2.2.2.2.2.2.2.2.2.2.2.2.2
      refine (url_Bare.calls 40 a0 a1 a2 a3 a4 a5 a6 a7 A8 c8 l8 a9 a10 a11 a12 R0 wy (Kd.C_below HR.out (HB0.out.trans (hy.mono (by omega)))) HCA.out hba (G.T_below HT.out (HB0.out.trans (hy.mono (by omega))))).mono ?_
      rintro e w' ⟨rfl, hb⟩
      have hw := hy.trans (hb.mono (Nat.le_trans HZ0.out hy.size))
      obtain ⟨h0, h1, h2, h3, h4, h5, h6, h7, h8, h9, h10, h11, h12⟩ := HC.out _ hw
      exact ⟨rfl, h0, h1, h2, h3, h4, h5, h6, h7, h8, h9, h10, h11, h12, hw⟩)
    have H12 := Aside0.mk (show ∀ wy, wy.cell? ⟨w.heap.size, 0, none⟩ = some (.string a0) ∧ wy.cell? ⟨w.heap.size, 1, none⟩ = some (.string a1) ∧ wy.cell? ⟨w.heap.size, 2, none⟩ = some (.string a2) ∧ wy.cell? ⟨w.heap.size, 3, none⟩ = some (.string a3) ∧ wy.cell? ⟨w.heap.size, 4, none⟩ = some (.bool a4) ∧ wy.cell? ⟨w.heap.size, 5, none⟩ = some (.int .i64 a5) ∧ wy.cell? ⟨w.heap.size, 6, none⟩ = some (.bool a6) ∧ wy.cell? ⟨w.heap.size, 7, none⟩ = some (.string a7) ∧ wy.cell? ⟨w.heap.size, 8, none⟩ = some (.slice A8 l8.length c8) ∧ wy.cell? ⟨w.heap.size, 9, none⟩ = some (.bool a9) ∧ wy.cell? ⟨w.heap.size, 10, none⟩ = some (.bool a10) ∧ wy.cell? ⟨w.heap.size, 11, none⟩ = some (.string a11) ∧ wy.cell? ⟨w.heap.size, 12, none⟩ = some (.string a12) ∧ Below (w.heap.size + 1) W0 wy → Calls Tryd.prog 12 #[.agg #[.string a0, .string a1, .string a2, .string a3, .bool a4, .int .i64 a5, .bool a6, .string a7, .slice A8 l8.length c8, .bool a9, .bool a10, .string a11, .string a12]] wy fun e w' => e = .returned (.string R2) ∧ w'.cell? ⟨w.heap.size, 0, none⟩ = some (.string a0) ∧ w'.cell? ⟨w.heap.size, 1, none⟩ = some (.string a1) ∧ w'.cell? ⟨w.heap.size, 2, none⟩ = some (.string a2) ∧ w'.cell? ⟨w.heap.size, 3, none⟩ = some (.string a3) ∧ w'.cell? ⟨w.heap.size, 4, none⟩ = some (.bool a4) ∧ w'.cell? ⟨w.heap.size, 5, none⟩ = some (.int .i64 a5) ∧ w'.cell? ⟨w.heap.size, 6, none⟩ = some (.bool a6) ∧ w'.cell? ⟨w.heap.size, 7, none⟩ = some (.string a7) ∧ w'.cell? ⟨w.heap.size, 8, none⟩ = some (.slice A8 l8.length c8) ∧ w'.cell? ⟨w.heap.size, 9, none⟩ = some (.bool a9) ∧ w'.cell? ⟨w.heap.size, 10, none⟩ = some (.bool a10) ∧ w'.cell? ⟨w.heap.size, 11, none⟩ = some (.string a11) ∧ w'.cell? ⟨w.heap.size, 12, none⟩ = some (.string a12) ∧ Below (w.heap.size + 1) W0 w' from fun wy hS => by
      have hy := hS.2.2.2.2.2.2.2.2.2.2.2.2.2
      refine (url_Path.calls a0 a1 a2 a3 a4 a5 a6 a7 A8 c8 l8 a9 a10 a11 a12 R2 wy (Kd.C_below HR.out (HB0.out.trans (hy.mono (by omega)))) HCA.out hup).mono ?_
      rintro e w' ⟨rfl, hb⟩
      have hw := hy.trans (hb.mono (Nat.le_trans HZ0.out hy.size))
      obtain ⟨h0, h1, h2, h3, h4, h5, h6, h7, h8, h9, h10, h11, h12⟩ := HC.out _ hw
      exact ⟨rfl, h0, h1, h2, h3, h4, h5, h6, h7, h8, h9, h10, h11, h12, hw⟩)
    have H13 := Aside0.mk (show ∀ wy, wy.cell? ⟨w.heap.size, 0, none⟩ = some (.string a0) ∧ wy.cell? ⟨w.heap.size, 1, none⟩ = some (.string a1) ∧ wy.cell? ⟨w.heap.size, 2, none⟩ = some (.string a2) ∧ wy.cell? ⟨w.heap.size, 3, none⟩ = some (.string a3) ∧ wy.cell? ⟨w.heap.size, 4, none⟩ = some (.bool a4) ∧ wy.cell? ⟨w.heap.size, 5, none⟩ = some (.int .i64 a5) ∧ wy.cell? ⟨w.heap.size, 6, none⟩ = some (.bool a6) ∧ wy.cell? ⟨w.heap.size, 7, none⟩ = some (.string a7) ∧ wy.cell? ⟨w.heap.size, 8, none⟩ = some (.slice A8 l8.length c8) ∧ wy.cell? ⟨w.heap.size, 9, none⟩ = some (.bool a9) ∧ wy.cell? ⟨w.heap.size, 10, none⟩ = some (.bool a10) ∧ wy.cell? ⟨w.heap.size, 11, none⟩ = some (.string a11) ∧ wy.cell? ⟨w.heap.size, 12, none⟩ = some (.string a12) ∧ Below (w.heap.size + 1) W0 wy → Calls Tryd.prog 13 #[.agg #[.string a0, .string a1, .string a2, .string a3, .bool a4, .int .i64 a5, .bool a6, .string a7, .slice A8 l8.length c8, .bool a9, .bool a10, .string a11, .string a12]] wy fun e w' => e = .returned (.string R2) ∧ w'.cell? ⟨w.heap.size, 0, none⟩ = some (.string a0) ∧ w'.cell? ⟨w.heap.size, 1, none⟩ = some (.string a1) ∧ w'.cell? ⟨w.heap.size, 2, none⟩ = some (.string a2) ∧ w'.cell? ⟨w.heap.size, 3, none⟩ = some (.string a3) ∧ w'.cell? ⟨w.heap.size, 4, none⟩ = some (.bool a4) ∧ w'.cell? ⟨w.heap.size, 5, none⟩ = some (.int .i64 a5) ∧ w'.cell? ⟨w.heap.size, 6, none⟩ = some (.bool a6) ∧ w'.cell? ⟨w.heap.size, 7, none⟩ = some (.string a7) ∧ w'.cell? ⟨w.heap.size, 8, none⟩ = some (.slice A8 l8.length c8) ∧ w'.cell? ⟨w.heap.size, 9, none⟩ = some (.bool a9) ∧ w'.cell? ⟨w.heap.size, 10, none⟩ = some (.bool a10) ∧ w'.cell? ⟨w.heap.size, 11, none⟩ = some (.string a11) ∧ w'.cell? ⟨w.heap.size, 12, none⟩ = some (.string a12) ∧ Below (w.heap.size + 1) W0 w' from fun wy hS => by
      have hy := hS.2.2.2.2.2.2.2.2.2.2.2.2.2
      refine (carryallref11_Path.calls (l8.length + 40) a0 a1 a2 a3 a4 a5 a6 a7 A8 c8 l8 a9 a10 a11 a12 R2 wy (Kd.C_below HR.out (HB0.out.trans (hy.mono (by omega)))) HCA.out (hR2 ▸ hpa)).mono ?_
      rintro e w' ⟨rfl, hb⟩
      have hw := hy.trans (hb.mono (Nat.le_trans HZ0.out hy.size))
      obtain ⟨h0, h1, h2, h3, h4, h5, h6, h7, h8, h9, h10, h11, h12⟩ := HC.out _ hw
      exact ⟨rfl, h0, h1, h2, h3, h4, h5, h6, h7, h8, h9, h10, h11, h12, hw⟩)
    have H10t := Aside0.mk (show ∀ wy, wy.cell? ⟨w.heap.size, 0, none⟩ = some (.string a0) ∧ wy.cell? ⟨w.heap.size, 1, none⟩ = some (.string a1) ∧ wy.cell? ⟨w.heap.size, 2, none⟩ = some (.string a2) ∧ wy.cell? ⟨w.heap.size, 3, none⟩ = some (.string a3) ∧ wy.cell? ⟨w.heap.size, 4, none⟩ = some (.bool a4) ∧ wy.cell? ⟨w.heap.size, 5, none⟩ = some (.int .i64 a5) ∧ wy.cell? ⟨w.heap.size, 6, none⟩ = some (.bool a6) ∧ wy.cell? ⟨w.heap.size, 7, none⟩ = some (.string a7) ∧ wy.cell? ⟨w.heap.size, 8, none⟩ = some (.slice A8 l8.length c8) ∧ wy.cell? ⟨w.heap.size, 9, none⟩ = some (.bool a9) ∧ wy.cell? ⟨w.heap.size, 10, none⟩ = some (.bool a10) ∧ wy.cell? ⟨w.heap.size, 11, none⟩ = some (.string a11) ∧ wy.cell? ⟨w.heap.size, 12, none⟩ = some (.string a12) ∧ Below (w.heap.size + 1) W0 wy → Calls Tryd.prog 10 #[.agg #[.string a0, .string a1, .string a2, .string a3, .bool a4, .int .i64 a5, .bool a6, .string a7, .slice A8 l8.length c8, .bool a9, .bool a10, .string a11, .string a12], .bool true] wy fun e w' => e = .returned (.string R1) ∧ w'.cell? ⟨w.heap.size, 0, none⟩ = some (.string a0) ∧ w'.cell? ⟨w.heap.size, 1, none⟩ = some (.string a1) ∧ w'.cell? ⟨w.heap.size, 2, none⟩ = some (.string a2) ∧ w'.cell? ⟨w.heap.size, 3, none⟩ = some (.string a3) ∧ w'.cell? ⟨w.heap.size, 4, none⟩ = some (.bool a4) ∧ w'.cell? ⟨w.heap.size, 5, none⟩ = some (.int .i64 a5) ∧ w'.cell? ⟨w.heap.size, 6, none⟩ = some (.bool a6) ∧ w'.cell? ⟨w.heap.size, 7, none⟩ = some (.string a7) ∧ w'.cell? ⟨w.heap.size, 8, none⟩ = some (.slice A8 l8.length c8) ∧ w'.cell? ⟨w.heap.size, 9, none⟩ = some (.bool a9) ∧ w'.cell? ⟨w.heap.size, 10, none⟩ = some (.bool a10) ∧ w'.cell? ⟨w.heap.size, 11, none⟩ = some (.string a11) ∧ w'.cell? ⟨w.heap.size, 12, none⟩ = some (.string a12) ∧ Below (w.heap.size + 1) W0 w' from fun wy hS => by
      have hy := hS.2.2.2.2.2.2.2.2.2.2.2.2.2
      refine (h10t wy (Kd.C_below HR.out (HB0.out.trans (hy.mono (by omega))))).mono ?_
      rintro e w' ⟨rfl, hb⟩
      have hw := hy.trans (hb.mono (Nat.le_trans HZ0.out hy.size))
      obtain ⟨h0, h1, h2, h3, h4, h5, h6, h7, h8, h9, h10, h11, h12⟩ := HC.out _ hw
      exact ⟨rfl, h0, h1, h2, h3, h4, h5, h6, h7, h8, h9, h10, h11, h12, hw⟩)
    have H10f := Aside0.mk (show ∀ wy, wy.cell? ⟨w.heap.size, 0, none⟩ = some (.string a0) ∧ wy.cell? ⟨w.heap.size, 1, none⟩ = some (.string a1) ∧ wy.cell? ⟨w.heap.size, 2, none⟩ = some (.string a2) ∧ wy.cell? ⟨w.heap.size, 3, none⟩ = some (.string a3) ∧ wy.cell? ⟨w.heap.size, 4, none⟩ = some (.bool a4) ∧ wy.cell? ⟨w.heap.size, 5, none⟩ = some (.int .i64 a5) ∧ wy.cell? ⟨w.heap.size, 6, none⟩ = some (.bool a6) ∧ wy.cell? ⟨w.heap.size, 7, none⟩ = some (.string a7) ∧ wy.cell? ⟨w.heap.size, 8, none⟩ = some (.slice A8 l8.length c8) ∧ wy.cell? ⟨w.heap.size, 9, none⟩ = some (.bool a9) ∧ wy.cell? ⟨w.heap.size, 10, none⟩ = some (.bool a10) ∧ wy.cell? ⟨w.heap.size, 11, none⟩ = some (.string a11) ∧ wy.cell? ⟨w.heap.size, 12, none⟩ = some (.string a12) ∧ Below (w.heap.size + 1) W0 wy → Calls Tryd.prog 10 #[.agg #[.string a0, .string a1, .string a2, .string a3, .bool a4, .int .i64 a5, .bool a6, .string a7, .slice A8 l8.length c8, .bool a9, .bool a10, .string a11, .string a12], .bool false] wy fun e w' => e = .returned (.string R0) ∧ w'.cell? ⟨w.heap.size, 0, none⟩ = some (.string a0) ∧ w'.cell? ⟨w.heap.size, 1, none⟩ = some (.string a1) ∧ w'.cell? ⟨w.heap.size, 2, none⟩ = some (.string a2) ∧ w'.cell? ⟨w.heap.size, 3, none⟩ = some (.string a3) ∧ w'.cell? ⟨w.heap.size, 4, none⟩ = some (.bool a4) ∧ w'.cell? ⟨w.heap.size, 5, none⟩ = some (.int .i64 a5) ∧ w'.cell? ⟨w.heap.size, 6, none⟩ = some (.bool a6) ∧ w'.cell? ⟨w.heap.size, 7, none⟩ = some (.string a7) ∧ w'.cell? ⟨w.heap.size, 8, none⟩ = some (.slice A8 l8.length c8) ∧ w'.cell? ⟨w.heap.size, 9, none⟩ = some (.bool a9) ∧ w'.cell? ⟨w.heap.size, 10, none⟩ = some (.bool a10) ∧ w'.cell? ⟨w.heap.size, 11, none⟩ = some (.string a11) ∧ w'.cell? ⟨w.heap.size, 12, none⟩ = some (.string a12) ∧ Below (w.heap.size + 1) W0 w' from fun wy hS => by
      have hy := hS.2.2.2.2.2.2.2.2.2.2.2.2.2
      refine (h10f wy (Kd.C_below HR.out (HB0.out.trans (hy.mono (by omega))))).mono ?_
      rintro e w' ⟨rfl, hb⟩
      have hw := hy.trans (hb.mono (Nat.le_trans HZ0.out hy.size))
      obtain ⟨h0, h1, h2, h3, h4, h5, h6, h7, h8, h9, h10, h11, h12⟩ := HC.out _ hw
      exact ⟨rfl, h0, h1, h2, h3, h4, h5, h6, h7, h8, h9, h10, h11, h12, hw⟩)
    clear hX hfew hlen HR HCA HT za0 za1 za2 za3 za7 za11 za12 sla sna rda lca wfa hT h50 h51 hrt h10t h10f hpt hpa hpr hba hup hil hpz hp hs hl hR0 hR1 hR2
    go_enter Tryd.func3, Tryd.ntmps3
    go_upto_region 0 with fail
    go_cut [0, 1, 2] from 1 to 2 (fun s0 s1 s2 wx => s1 = .pointer (some ⟨w.heap.size, 0, none⟩) ∧ s2 = .bool false ∧ W0 = wx)
    case first =>
      clear HB0 HC HZ0 HFEW HAW H9 H10t H10f H11 H12 H13
      go_wp2_with fail
      all_goals (go_meet; exact ⟨rfl, rfl, by first | rfl | exact hW0.symm⟩)
    case rest =>
    obtain ⟨rfl, rfl, rfl⟩ := hcut
    clear hW0
    obtain ⟨h0, h1, h2, h3, h4, h5, h6, h7, h8, h9, h10, h11, h12⟩ := HC.out _ (Below.refl _ _)
    go_upto_region 3 with (first | (go_at_call 7; (with_reducible refine (HAW.out _ (by first | exact Y.out | exact Below.refl _ _)).mono ?_); rintro e wz ⟨rfl, hb⟩; have Y := Aside0.mk hb; clear hb; (try clear h0 h1 h2 h3 h4 h5 h6 h7 h8 h9 h10 h11 h12); obtain ⟨h0, h1, h2, h3, h4, h5, h6, h7, h8, h9, h10, h11, h12⟩ := HC.out _ Y.out) | (go_at_call 8; (with_reducible refine (HFEW.out _ (by first | exact Y.out | exact Below.refl _ _)).mono ?_); rintro e wz ⟨rfl, hb⟩; have Y := Aside0.mk hb; clear hb; (try clear h0 h1 h2 h3 h4 h5 h6 h7 h8 h9 h10 h11 h12); obtain ⟨h0, h1, h2, h3, h4, h5, h6, h7, h8, h9, h10, h11, h12⟩ := HC.out _ Y.out))
    have hY := Y.out
    clear Y HAW HFEW HZ0
    go_region_held3 (fun w' => w'.cell? ⟨w.heap.size, 0, none⟩ = some (.string a0) ∧ w'.cell? ⟨w.heap.size, 1, none⟩ = some (.string a1) ∧ w'.cell? ⟨w.heap.size, 2, none⟩ = some (.string a2) ∧ w'.cell? ⟨w.heap.size, 3, none⟩ = some (.string a3) ∧ w'.cell? ⟨w.heap.size, 4, none⟩ = some (.bool a4) ∧ w'.cell? ⟨w.heap.size, 5, none⟩ = some (.int .i64 a5) ∧ w'.cell? ⟨w.heap.size, 6, none⟩ = some (.bool a6) ∧ w'.cell? ⟨w.heap.size, 7, none⟩ = some (.string a7) ∧ w'.cell? ⟨w.heap.size, 8, none⟩ = some (.slice A8 l8.length c8) ∧ w'.cell? ⟨w.heap.size, 9, none⟩ = some (.bool a9) ∧ w'.cell? ⟨w.heap.size, 10, none⟩ = some (.bool a10) ∧ w'.cell? ⟨w.heap.size, 11, none⟩ = some (.string a11) ∧ w'.cell? ⟨w.heap.size, 12, none⟩ = some (.string a12) ∧ Below (w.heap.size + 1) W0 w') (first | assumption | (with_reducible refine below_drew1 ?_; assumption) | (refine ⟨?_, ?_, ?_, ?_, ?_, ?_, ?_, ?_, ?_, ?_, ?_, ?_, ?_, ?_⟩ <;> first | assumption | (with_reducible refine below_drew1 ?_; assumption) | (simp [*]; done))) (first
      | (go_at_call 9; (with_reducible refine (H9.out _ (by assumption)).mono ?_); rintro e wz ⟨rfl, hS⟩)
      | (go_at_call 11; (with_reducible refine (H11.out _ (by assumption)).mono ?_); rintro e wz ⟨rfl, hS⟩)
      | (go_at_call 12; (with_reducible refine (H12.out _ (by assumption)).mono ?_); rintro e wz ⟨rfl, hS⟩)
      | (go_at_call 13; (with_reducible refine (H13.out _ (by assumption)).mono ?_); rintro e wz ⟨rfl, hS⟩)
      | (go_at_call 10; (with_reducible refine (H10t.out _ (by assumption)).mono ?_); rintro e wz ⟨rfl, hS⟩)
      | (go_at_call 10; (with_reducible refine (H10f.out _ (by assumption)).mono ?_); rintro e wz ⟨rfl, hS⟩))
    go_wp2
    go_ret
    exact ⟨by simp, HB0.out.trans ((last14 (by assumption) : Below (w.heap.size + 1) W0 _).mono (Nat.le_succ _))⟩
end Go.Proofs.YtamoggikjaoanaaDoor.UrlP
