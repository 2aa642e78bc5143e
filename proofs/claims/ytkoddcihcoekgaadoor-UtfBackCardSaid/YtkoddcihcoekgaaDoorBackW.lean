/- Characters' bytes are read as they were: the law's walk. -/
import Derived.Test.YtkoddcihcoekgaaDoorBack
namespace Go.Proofs.YtkoddcihcoekgaaDoor.Dec
open Go.RowKit Go.Proofs.YtkoddcihcoekgaaDoor.P Go.Proofs.YtkoddcihcoekgaaDoor.Pl Go.Proofs.YtkoddcihcoekgaaDoor.Utf Go.Proofs.YtkoddcihcoekgaaDoor.Row Go.Proofs.YtkoddcihcoekgaaDoorW.PrintWords Go.Proofs.YtkoddcihcoekgaaDoorW.PrintLast Go.Proofs.YtkoddcihcoekgaaDoorW.PrintMore
set_option linter.unusedVariables false
set_option linter.unusedSimpArgs false
theorem one_cell (W : World) (p : Value) (e : TypeId) : ∀ j u, [p][j]? = some u → (W.alloc (.cells #[p] e)).cell? ((⟨W.heap.size, 0, none⟩ : Addr).add j) = some u := by
  intro j u hj
  have hb : (W.alloc (.cells #[p] e)).heap[W.heap.size]? = some (.cells #[p] e) := by
    show (W.heap.push _)[W.heap.size]? = _
    simp
  have ha : (⟨W.heap.size, 0, none⟩ : Addr).add j = ⟨W.heap.size, j, none⟩ := by unfold Addr.add; split <;> simp_all
  rw [ha]
  unfold World.cell?
  rw [hb]
  rcases j with _ | j
  · simpa using hj
  · simp at hj
theorem own_C {w : World} {base n : Nat} {e : TypeId} {k : IntKind} {v : Value} {l : List Int} (h : w.ownsRow base e 1 v n (l.map (Value.int k))) : ∃ A c, v = .slice A n c ∧ n ≤ c ∧ l.length = n ∧ Kd.C (Kd.int k) w A n l := by
  have hl : l.length = n := by have := h.1; simpa using this
  rcases h.2 with ⟨rfl, h0⟩ | ⟨g, cap, cur, rfl, hg, hb, hn, hm, hs, ht⟩
  · subst h0
    refine ⟨none, 0, rfl, Nat.le_refl _, hl, ?_⟩
    exact Kd.C_of_reads (enc := Value.int k) (d := (0 : Int)) (h1 := fun _ => rfl) ⟨hl, by simp, fun h0 => absurd h0 (by simp)⟩
  · refine ⟨_, _, rfl, hn, hl, ?_⟩
    refine Kd.C_of_reads (enc := Value.int k) (d := (0 : Int)) (h1 := fun _ => rfl) ⟨hl, Nat.le_trans hn hm, fun h0 => ⟨_, rfl, fun j hj => ?_⟩⟩
    have hj2 : (l.map (Value.int k))[j]? = some (.int k (l.getD j 0)) := by rw [List.getElem?_map, List.getD_eq_getElem?_getD, List.getElem?_eq_getElem (by omega)]; rfl
    exact h.cells (g := g) rfl _ _ hj2
def wv (l : List Int) : List Value := (l.map fixC).map (Value.int .i32)
theorem wv_snoc (l : List Int) (k : Nat) (x : Int) (h : l[k]? = some x) : wv (l.take (k + 1)) = wv (l.take k) ++ [.int .i32 (fixC x)] := by
  have : l.take (k + 1) = l.take k ++ [x] := by rw [List.take_add_one, h]; rfl
  rw [this]
  simp [wv]
theorem wv_len (l : List Int) : (wv l).length = l.length := by simp [wv]
set_option maxHeartbeats 8000000 in
set_option maxRecDepth 100000 in
theorem back_big (K : Nat) (A1 A2 : Option Addr) (c1 c2 n1 n2 : Nat) (w : World) (fA : carryalllaw01_awake.f K = some true) (h : 300 < n1 ∨ 1000 < n2) (hT : G.T w) :
    Calls Tryd.prog 6 #[.slice A1 n1 c1, .slice A2 n2 c2] w fun e w' => e = .returned (.bool true) ∧ Below w.heap.size w w' := by
  have HA := Aside0.mk (fun w hT => carryalllaw01_awake.calls K true w fA hT)
  have HT := Aside0.mk hT
  clear fA hT
  by_cases h1 : 300 < n1
  · have hd : decide ((300 : Int) < (n1 : Int)) = true := decide_eq_true (by omega)
    clear h h1
    go_enter Tryd.func6, Tryd.ntmps6
    go_wp2_with (go_at_call 9; (first | (have HT2 := HT1; refine (HA.out _ HT2.out).mono ?_; rintro e w2 ⟨rfl, hB1⟩; have HB2 := Aside0.mk hB1; clear hB1) | (refine (HA.out _ HT.out).mono ?_; rintro e w1 ⟨rfl, hB1⟩; have HB1 := Aside0.mk hB1; have HT1 := Aside0.mk (G.T_below HT.out hB1); clear hB1)))
    go_ret
    exact ⟨rfl, bt HB1.out HB2.out⟩
  · have hd : decide ((300 : Int) < (n1 : Int)) = false := decide_eq_false (by omega)
    have hd2 : decide ((1000 : Int) < (n2 : Int)) = true := decide_eq_true (by omega)
    clear h h1
    go_enter Tryd.func6, Tryd.ntmps6
    go_wp2_with (go_at_call 9; (first | (have HT2 := HT1; refine (HA.out _ HT2.out).mono ?_; rintro e w2 ⟨rfl, hB1⟩; have HB2 := Aside0.mk hB1; clear hB1) | (refine (HA.out _ HT.out).mono ?_; rintro e w1 ⟨rfl, hB1⟩; have HB1 := Aside0.mk hB1; have HT1 := Aside0.mk (G.T_below HT.out hB1); clear hB1)))
    go_ret
    exact ⟨rfl, bt HB1.out HB2.out⟩
set_option maxHeartbeats 16000000 in
set_option maxRecDepth 100000 in
theorem back_walk (K : Nat) (A1 A2 : Option Addr) (c1 c2 n1 n2 q m p : Nat) (l b X L Y : List Int) (SX SY SB : ByteArray) (vb : Bool) (w : World) (fA : carryalllaw01_awake.f K = some true) (h1 : n1 ≤ 300) (h2 : n2 ≤ 1000) (hT : G.T w)
    (hl : l.length = n1) (hb : b.length = n2) (hq : X.length = q) (hm : L.length = m) (hp : Y.length = p) (hc1 : n1 ≤ c1) (hc2 : n2 ≤ c2) (hC1 : Kd.C (Kd.int .i32) w A1 n1 l) (hC2 : Kd.C (Kd.int .u8) w A2 n2 b)
    (fE : utf_Encode.f K l = some X) (fR : carryallref01_Encode.f K l = some X) (fD : utf_Decode.f K X = some (l.map fixC)) (fB : utf_Decode.f K b = some L) (fY : utf_Encode.f K L = some Y)
    (fV : utf_Valid.f X = some true) (fW : utf_Valid.f Y = some true) (fU : utf_Valid.f b = some vb) (fS : carryalllaw01_same.f K (l.map fixC) (l.map fixC) = some true)
    (sX : strOfNums X = SX) (sY : strOfNums Y = SY) (sB : strOfNums b = SB) (hvb : (SY.toList == SB.toList) = vb) :
    Calls Tryd.prog 6 #[.slice A1 n1 c1, .slice A2 n2 c2] w fun e w' => e = .returned (.bool true) ∧ Below w.heap.size w w' := by
  have HA := Aside0.mk (fun w hT => carryalllaw01_awake.calls K true w fA hT)
  have HT := Aside0.mk hT
  have HL := Aside0.mk hl
  have HBL := Aside0.mk hb
  have HQ := Aside0.mk hq
  have HM := Aside0.mk hm
  have HP := Aside0.mk hp
  have HC1 := Aside0.mk hC1
  have HC2 := Aside0.mk hC2
  have FE := Aside0.mk fE
  have FR := Aside0.mk fR
  have FD := Aside0.mk fD
  have FB := Aside0.mk fB
  have FY := Aside0.mk fY
  have FV := Aside0.mk fV
  have FW := Aside0.mk fW
  have FU := Aside0.mk fU
  have FS := Aside0.mk fS
  have HSX := Aside0.mk sX
  have HSY := Aside0.mk sY
  have HSB := Aside0.mk sB
  have HVB := Aside0.mk hvb
  have HWL := Aside0.mk (show (l.map fixC).length = n1 by rw [List.length_map]; exact hl)
  obtain ⟨i0, hi, hz0, hz1, hz2⟩ := info_parts (show (Tryd.prog.info? 21).map (fun i => (i.zero, i.size, i.bytes)) = some (some (.int .i32 0), 1, 4) by kernel_rfl)
  have hd : decide ((300 : Int) < (n1 : Int)) = false := decide_eq_false (by omega)
  have hd2 : decide ((1000 : Int) < (n2 : Int)) = false := decide_eq_false (by omega)
  clear fA hT hl hb hq hm hp hC1 hC2 fE fR fD fB fY fV fW fU fS sX sY sB hvb
  go_enter Tryd.func6, Tryd.ntmps6
  go_wp2_with (go_at_call 9; refine (HA.out _ HT.out).mono ?_; rintro e w1 ⟨rfl, hB1⟩; have HB1 := Aside0.mk hB1; have HT1 := Aside0.mk (G.T_below HT.out hB1); clear hB1)
  go_loopw [24, 5] (fun i v wr => ∃ (k : Nat) (vv : Value), k ≤ n1 ∧ i = .int .i64 k ∧ vv = v ∧ wr.ownsRow w1.heap.size 21 1 vv k (wv (l.take k)) ∧ Below w1.heap.size w1 wr) (fun i _ _ => n1 - (intOf i).toNat)
  case atStart => exact ⟨0, _, Nat.zero_le _, rfl, rfl, World.ownsRow_nil _ _ _ _, Below.refl _ _⟩
  case round =>
    obtain ⟨k, vv, hk, rfl, rfl, hO, hB⟩ := hrel
    have HO := Aside0.mk hO
    have HB := Aside0.mk hB
    have HBW := Aside0.mk (bt HB1.out hB)
    clear hO hB
    by_cases hlt : k < n1
    · obtain ⟨x, hx⟩ : ∃ x, l[k]? = some x := ⟨_, List.getElem?_eq_getElem (by rw [HL.out]; exact hlt)⟩
      have hrd : rd l (k : Int) = x := rd_at hx
      have HCL := Aside0.mk (show ∀ W', Below w.heap.size w W' → ∃ ad, A1 = some ad ∧ W'.cell? (ad.add k) = some (.int .i32 x) from fun W' hW => by
        have hC := Kd.C_below HC1.out hW
        rw [← HL.out] at hC
        obtain ⟨ad, hA, hc0⟩ := Kd.at_int hC (k : Int) (by omega) (by rw [HL.out]; omega)
        rw [Int.toNat_natCast, hrd] at hc0
        exact ⟨ad, hA, hc0⟩)
      have HS := Aside0.mk (wv_snoc l k x hx)
      obtain ⟨ad, hA, hc0⟩ := HCL.out _ HBW.out
      subst hA
      have HCH := Aside0.mk (fun W => carryallref01_Char.calls x _ W (char_f x))
      clear hx hrd
      by_cases hch : 0 ≤ x ∧ x ≤ 1114111 ∧ (x < 55296 ∨ 57343 < x)
      · rw [decide_eq_true hch] at HCH
        have HF := Aside0.mk (show fixC x = x by unfold fixC; rw [if_pos hch])
        clear hch
        go_wp2_with (first
          | (go_at_call 23; (with_reducible refine (HCH.out _).mono ?_); rintro e w2 ⟨rfl, hw2⟩; have B2 := Aside0.mk (show Below wr.heap.size wr w2 by obtain ⟨nd, rfl⟩ := hw2; exact pw_below_drewN (Below.refl _ _) nd); obtain ⟨ad2, hA2, hc2'⟩ := HCL.out w2 (bt HBW.out B2.out); injection hA2 with hA2; rw [← hA2] at hc2'; have OV2 := Aside0.mk (pw_own_below HO.out (below_alloc B2.out (.cells #[.int .i32 x] 21))); have BV2 := Aside0.mk (show Below w1.heap.size w1 (w2.alloc (.cells #[.int .i32 x] 21)) from bt HB.out (below_alloc B2.out _)); clear hw2 hA2)
          | (at_builtin; refine wpList_append_own _ rfl _ _ 29 rfl w1.heap.size 21 i0 (.int .i32 0) 1 4 Tryd.underlying29 hi hz0 hz1 hz2 rfl (by decide) vv k (wv (l.take k)) rfl OV2.out ⟨w2.heap.size, 0, none⟩ 1 1 [.int .i32 x] rfl rfl (one_cell w2 _ _) (by simp [Value.oneCell']) (by simp only [maxLen]; omega) (by omega) BV2.out.size ?_; intro v4 w4 hown hgrow hnil; have O4 := Aside0.mk hown; have B4 := Aside0.mk (BV2.out.grown hgrow BV2.out.size (fun j hj => (OV2.out.lt j hj).1)); clear hown hgrow hnil))
        go_roundw
        case rel => exact ⟨k + 1, v4, hlt, by go_num, rfl, by rw [HS.out, HF.out]; exact O4.out, B4.out⟩
        case measure => simp [intOf]; omega
      · rw [decide_eq_false hch] at HCH
        have HF := Aside0.mk (show fixC x = 65533 by unfold fixC; rw [if_neg hch])
        clear hch
        go_wp2_with (first
          | (go_at_call 23; (with_reducible refine (HCH.out _).mono ?_); rintro e w2 ⟨rfl, hw2⟩; have B2 := Aside0.mk (show Below wr.heap.size wr w2 by obtain ⟨nd, rfl⟩ := hw2; exact pw_below_drewN (Below.refl _ _) nd); have OV2 := Aside0.mk (pw_own_below HO.out (below_alloc B2.out (.cells #[.int .i32 65533] 21))); have BV2 := Aside0.mk (show Below w1.heap.size w1 (w2.alloc (.cells #[.int .i32 65533] 21)) from bt HB.out (below_alloc B2.out _)); clear hw2)
          | (at_builtin; refine wpList_append_own _ rfl _ _ 29 rfl w1.heap.size 21 i0 (.int .i32 0) 1 4 Tryd.underlying29 hi hz0 hz1 hz2 rfl (by decide) vv k (wv (l.take k)) rfl OV2.out ⟨w2.heap.size, 0, none⟩ 1 1 [.int .i32 65533] rfl rfl (one_cell w2 _ _) (by simp [Value.oneCell']) (by simp only [maxLen]; omega) (by omega) BV2.out.size ?_; intro v4 w4 hown hgrow hnil; have O4 := Aside0.mk hown; have B4 := Aside0.mk (BV2.out.grown hgrow BV2.out.size (fun j hj => (OV2.out.lt j hj).1)); clear hown hgrow hnil))
        go_roundw
        case rel => exact ⟨k + 1, v4, hlt, by go_num, rfl, by rw [HS.out, HF.out]; exact O4.out, B4.out⟩
        case measure => simp [intOf]; omega
    · obtain rfl : n1 = k := by omega
      have hO := HO.out
      rw [List.take_of_length_le (by rw [HL.out]; exact Nat.le_refl _)] at hO
      obtain ⟨A5, c5, rfl, hc5, _, hC5⟩ := own_C (k := .i32) (l := l.map fixC) hO
      have HC5 := Aside0.mk hC5
      clear hO hC5 HO
      have C1r := Aside0.mk (Kd.C_below HC1.out HBW.out)
      go_wp2_with (first
        | (go_at_call 24; (with_reducible refine (enc_c (W0 := wr) K X q HL.out HQ.out C1r.out hc1 FE.out (Below.refl _ _)).mono ?_); rintro e w4 ⟨AX, cX, rfl, hcX, hCX, hb4⟩; have HCX := Aside0.mk hCX; have HB4 := Aside0.mk hb4; have BW4 := Aside0.mk (bt HBW.out hb4); have C24 := Aside0.mk (Kd.C_below HC2.out BW4.out); have T4 := Aside0.mk (G.T_below HT.out BW4.out); clear hCX hb4)
        | (go_at_call 19; (with_reducible refine (dec_c (W0 := w4) K L m HBL.out HM.out C24.out hc2 FB.out T4.out (Below.refl _ _)).mono ?_); rintro e w5 ⟨AL, cL, rfl, hcL, hCL, hb5⟩; have HCLL := Aside0.mk hCL; have HB5 := Aside0.mk hb5; clear hCL hb5)
        | (go_at_call 24; (with_reducible refine (enc_c (W0 := w5) K Y p HM.out HP.out HCLL.out hcL FY.out (Below.refl _ _)).mono ?_); rintro e w6 ⟨AY, cY, rfl, hcY, hCY, hb6⟩; have CY := Aside0.mk hCY; have HB46 := Aside0.mk (bt HB5.out hb6); clear hCY hb6))
      have BR6 := Aside0.mk (bt HB4.out HB46.out)
      have BW6 := Aside0.mk (bt HBW.out BR6.out)
      have C16 := Aside0.mk (Kd.C_below HC1.out BW6.out)
      have C26 := Aside0.mk (Kd.C_below HC2.out BW6.out)
      have C56 := Aside0.mk (Kd.C_below HC5.out BR6.out)
      have X6 := Aside0.mk (Kd.C_below HCX.out HB46.out)
      have T6 := Aside0.mk (G.T_below HT.out BW6.out)
      have hcur0 : Below w6.heap.size w6 w6.drew := below_drew (Below.refl _ _)
      have k0 := str_c (W0 := w6) (c := cX) HQ.out X6.out hcur0
      rw [HSX.out] at k0
      have hself : (SX.toList == SX.toList) = true := by simp
      have hvb := HVB.out
      clear HC1 HC2 HC5 HCX HCLL HB4 HB5 C24 C1r T4 HT HT1 HA HBW HB BR6 HB46
      have ky0 := str_c (W0 := w6) (c := cY) HP.out CY.out hcur0
      rw [HSY.out] at ky0
      have kb0 := str_c (W0 := w6) (c := c2) HBL.out C26.out hcur0
      rw [HSB.out] at kb0
      go_region_with (first
        | (go_at_call 25; (with_reducible refine (renc_c (W0 := w6) K X q HL.out HQ.out C16.out hc1 FR.out (by assumption)).mono ?_); rintro e w7 ⟨A7, c7, rfl, h7, hC7, hb7⟩; have kx7 := str_c (W0 := w6) (c := cX) HQ.out X6.out hb7; rw [HSX.out] at kx7; have ky7 := str_c (W0 := w6) (c := cY) HP.out CY.out hb7; rw [HSY.out] at ky7; have kb7 := str_c (W0 := w6) (c := c2) HBL.out C26.out hb7; rw [HSB.out] at kb7; have k2 := str_c (W0 := w7) (c := c7) HQ.out hC7 (Below.refl _ _); rw [HSX.out] at k2; clear hC7)
        | (go_at_call 19; (with_reducible refine (dec_c (W0 := w6) K (l.map fixC) n1 HQ.out HWL.out X6.out hcX FD.out T6.out (by assumption)).mono ?_); rintro e w8 ⟨A8, c8, rfl, h8, hC8, hb8⟩; have C8 := Aside0.mk hC8; have kx8 := str_c (W0 := w6) (c := cX) HQ.out X6.out hb8; rw [HSX.out] at kx8; have ky8 := str_c (W0 := w6) (c := cY) HP.out CY.out hb8; rw [HSY.out] at ky8; have kb8 := str_c (W0 := w6) (c := c2) HBL.out C26.out hb8; rw [HSB.out] at kb8; clear hC8)
        | (go_at_call 18; (with_reducible refine (same_c (W0 := w6) K HWL.out HWL.out C8.out h8 C56.out hc5 FS.out (by assumption)).mono ?_); rintro e w9 ⟨rfl, nd9, hw9⟩; have hb9 : Below w6.heap.size w6 w9 := (by rw [hw9]; exact pw_below_drewN (by assumption) nd9); have kx9 := str_c (W0 := w6) (c := cX) HQ.out X6.out hb9; rw [HSX.out] at kx9; have ky9 := str_c (W0 := w6) (c := cY) HP.out CY.out hb9; rw [HSY.out] at ky9; have kb9 := str_c (W0 := w6) (c := c2) HBL.out C26.out hb9; rw [HSB.out] at kb9; clear hw9)
        | (go_at_call 21; (with_reducible refine (val_c (W0 := w6) true HQ.out X6.out hcX FV.out T6.out (by assumption)).mono ?_); rintro e w10 ⟨rfl, hb10⟩; have kx10 := str_c (W0 := w6) (c := cX) HQ.out X6.out hb10; rw [HSX.out] at kx10; have ky10 := str_c (W0 := w6) (c := cY) HP.out CY.out hb10; rw [HSY.out] at ky10; have kb10 := str_c (W0 := w6) (c := c2) HBL.out C26.out hb10; rw [HSB.out] at kb10)
        | (go_at_call 21; (with_reducible refine (val_c (W0 := w6) true HP.out CY.out hcY FW.out T6.out (by assumption)).mono ?_); rintro e w11 ⟨rfl, hb11⟩; have kx11 := str_c (W0 := w6) (c := cX) HQ.out X6.out hb11; rw [HSX.out] at kx11; have ky11 := str_c (W0 := w6) (c := cY) HP.out CY.out hb11; rw [HSY.out] at ky11; have kb11 := str_c (W0 := w6) (c := c2) HBL.out C26.out hb11; rw [HSB.out] at kb11)
        | (go_at_call 21; (with_reducible refine (val_c (W0 := w6) vb HBL.out C26.out hc2 FU.out T6.out (by assumption)).mono ?_); rintro e w12 ⟨rfl, hb12⟩; have kx12 := str_c (W0 := w6) (c := cX) HQ.out X6.out hb12; rw [HSX.out] at kx12; have ky12 := str_c (W0 := w6) (c := cY) HP.out CY.out hb12; rw [HSY.out] at ky12; have kb12 := str_c (W0 := w6) (c := c2) HBL.out C26.out hb12; rw [HSB.out] at kb12))
      all_goals go_wp2
      all_goals go_ret
      all_goals exact ⟨by first | rfl | simp [hvb], bt BW6.out (by assumption)⟩
end Go.Proofs.YtkoddcihcoekgaaDoor.Dec
