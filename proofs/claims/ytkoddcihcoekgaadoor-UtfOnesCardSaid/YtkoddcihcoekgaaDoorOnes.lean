/- A character's bytes are one to four, read as it alone; one less of them is read as FFFD alone: the walk and what it computes. -/
import Derived.Test.YtkoddcihcoekgaaDoorPx1
import Derived.Test.YtkoddcihcoekgaaDoorPx3
import Derived.Test.YtkoddcihcoekgaaDoorPx4
import Derived.Test.YtkoddcihcoekgaaDoorDec
import Derived.Laws.BitsLemmas
namespace Go.Proofs.YtkoddcihcoekgaaDoor.Dec
open Go.RowKit Go.Proofs.YtkoddcihcoekgaaDoor.P Go.Proofs.YtkoddcihcoekgaaDoor.Pl Go.Proofs.YtkoddcihcoekgaaDoor.Utf Go.Proofs.YtkoddcihcoekgaaDoorW.PrintWords Go.Proofs.YtkoddcihcoekgaaDoorW.PrintLast Go.Proofs.YtkoddcihcoekgaaDoorW.PrintMore Go.Proofs.YtkoddcihcoekgaaDoor.G
set_option linter.unusedVariables false

/-! what is computed -/
theorem or192 {m : Int} (h0 : 0 ≤ m) (h1 : m < 32) : Go.bits .or .u8 192 m = 192 + m := by
  obtain ⟨n, rfl⟩ := Int.eq_ofNat_of_zero_le h0
  have H : ∀ n : Nat, n < 32 → Go.bits .or .u8 192 (n : Int) = 192 + (n : Int) := by decide +kernel
  exact H n (by omega)
theorem or224 {m : Int} (h0 : 0 ≤ m) (h1 : m < 16) : Go.bits .or .u8 224 m = 224 + m := by
  obtain ⟨n, rfl⟩ := Int.eq_ofNat_of_zero_le h0
  have H : ∀ n : Nat, n < 16 → Go.bits .or .u8 224 (n : Int) = 224 + (n : Int) := by decide +kernel
  exact H n (by omega)
theorem or240 {m : Int} (h0 : 0 ≤ m) (h1 : m < 8) : Go.bits .or .u8 240 m = 240 + m := by
  obtain ⟨n, rfl⟩ := Int.eq_ofNat_of_zero_le h0
  have H : ∀ n : Nat, n < 8 → Go.bits .or .u8 240 (n : Int) = 240 + (n : Int) := by decide +kernel
  exact H n (by omega)
theorem append_f {r : Int} (hr : isChar r) (k : Nat) (hk : 3 ≤ k) : utf8_AppendRune.f k [] r = some (enc r) := by
  obtain ⟨r0, r1, r2⟩ := hr
  obtain ⟨k, rfl⟩ : ∃ j, k = j + 1 := ⟨k - 1, by omega⟩
  have e : r % 4294967296 = r := by omega
  unfold utf8_AppendRune.f
  rw [e]
  by_cases h1 : r ≤ 127
  · rw [if_pos h1, if_pos (by decide), List.nil_append, show r % 256 = r by omega, show enc r = [r] from Lib.encodeRuneZ_one r0 h1]
  · rw [if_neg h1]
    unfold utf8_appendRuneNonASCII.f
    rw [e]
    by_cases h2 : r ≤ 2047
    · rw [if_pos h2, Option.bind_some, if_pos (by simp), Option.bind_some, List.nil_append, show enc r = [192 + r / 64, 128 + r % 64] from Lib.encodeRuneZ_two (by omega) h2, show r / 64 % 256 = r / 64 by omega, or192 (by omega) (by omega)]
    · rw [if_neg h2]
      have three : (2048 ≤ r ∧ r < 55296) ∨ (57343 < r ∧ r ≤ 65535) → utf8_appendRuneNonASCII.j0 (k + 1) [] r r true = some (enc r) := fun h => by
        rw [utf8_appendRuneNonASCII.j0, if_pos rfl, Option.bind_some, if_pos (by simp), List.nil_append, show enc r = [224 + r / 4096, 128 + r / 64 % 64, 128 + r % 64] from Lib.encodeRuneZ_three h, show r / 4096 % 256 = r / 4096 by omega, or224 (by omega) (by omega)]
      by_cases h3 : r < 55296
      · rw [if_pos h3, decide_eq_true h3, three (.inl ⟨by omega, h3⟩)]; rfl
      · rw [if_neg h3, if_pos (by omega)]
        by_cases h4 : r ≤ 65535
        · rw [decide_eq_true h4, three (.inr ⟨by omega, h4⟩)]; rfl
        · rw [decide_eq_false h4, utf8_appendRuneNonASCII.j0, if_neg Bool.false_ne_true, if_pos (by omega), if_pos (by omega), Option.bind_some, if_pos (by simp), Option.bind_some, List.nil_append, show enc r = [240 + r / 262144, 128 + r / 4096 % 64, 128 + r / 64 % 64, 128 + r % 64] from Lib.encodeRuneZ_four (by omega) r1, show r / 262144 % 256 = r / 262144 by omega, or240 (by omega) (by omega)]
theorem encode_f {r : Int} (hr : isChar r) (k : Nat) (hk : 6 ≤ k) : utf_Encode.f k [r] = some (enc r) := by
  obtain ⟨k, rfl⟩ : ∃ j, k = j + 2 := ⟨k - 2, by omega⟩
  unfold utf_Encode.f
  have w1 : wrap64 ((0 : Int) + 1) = 1 := by decide +kernel
  rw [utf_Encode.l0, if_pos (by simp), if_pos (by decide), if_pos (by simp), show rd [r] 0 = r from rfl, append_f hr (k + 1) (by omega), Option.bind_some, w1, utf_Encode.l0, if_neg (by simp)]
/-- One byte less: FFFD, and all the bytes that are left. -/
theorem first_cut {l : List Int} (hb : bytes l) {m : Nat} (hm : l.length = m) (h0 : 0 < m) {many : Nat} (h4 : many ≤ 4) (hmany : manyv (l.getD 0 0) = many) (hlt : m < many) (h128 : 128 ≤ l.getD 0 0)
    (h1 : 1 < m → lowv (l.getD 0 0) ≤ l.getD 1 0 ∧ l.getD 1 0 ≤ highv (l.getD 0 0)) (h2 : 2 < m → 128 ≤ l.getD 2 0 ∧ l.getD 2 0 ≤ 191) (k : Nat) (hk : 10 ≤ k) : utf_first.f k l = some (65533, (m : Int)) := by
  obtain ⟨k, rfl⟩ : ∃ j, k = j + 5 := ⟨k - 5, by omega⟩
  have w2 : wrap64 ((1 : Int) + 1) = ((2 : Nat) : Int) := by decide +kernel
  have w3 : wrap64 (((2 : Nat) : Int) + 1) = ((3 : Nat) : Int) := by decide +kernel
  have q0 : rd l 0 = l.getD 0 0 := rfl
  have q1 : rd l 1 = l.getD 1 0 := rfl
  have q2 : rd l ((2 : Nat) : Int) = l.getD 2 0 := rfl
  have hx : byte (l.getD 0 0) := by
    cases l with
    | nil => simp at hm; omega
    | cons x t => exact hb x List.mem_cons_self
  unfold utf_first.f
  rw [if_pos (by omega), q0, if_neg (by omega), span_f hx (k + 5) (by omega), Option.bind_some]
  simp only [hmany]
  rw [utf_first.l0, if_pos (by omega)]
  by_cases g1 : 1 < m
  · rw [if_pos (by omega), if_pos (by decide), q1, if_pos (h1 g1).1, if_pos (h1 g1).2, w2, utf_first.l0, if_pos (by omega)]
    by_cases g2 : 2 < m
    · rw [if_pos (by omega), if_pos (by decide), q2, if_pos (h2 g2).1, if_pos (h2 g2).2, w3, utf_first.l0, if_pos (by omega), if_neg (by omega), if_neg (by omega)]
      have : m = 3 := by omega
      rw [this]
    · rw [if_neg (by omega), if_neg (by omega)]
      have : m = 2 := by omega
      rw [this]
  · rw [if_neg (by omega), if_neg (by omega)]
    have : m = 1 := by omega
    rw [this]
    rfl
theorem reads_cut {l : List Int} {m : Nat} (hm : l.length = m) (h0 : 0 < m) (hf : ∀ k, 10 ≤ k → utf_first.f k l = some (65533, (m : Int))) : Reads l [65533] := by
  refine reads_step hf h0 (by omega) ?_
  rw [List.drop_eq_nil_of_le (by omega)]
  exact reads_nil
/-- The four kinds of characters. -/
theorem kinds {r : Int} (hr : isChar r) : ∃ m : Nat, m ≤ 3 ∧ (enc r).length = m + 1 ∧ ∃ Sh : List Int, Reads ((enc r).take m) Sh ∧ (m = 0 → Sh = []) ∧ (m ≠ 0 → Sh = [65533]) := by
  have hrr := hr
  obtain ⟨r0, r1, r2⟩ := hr
  have hbs := enc_bytes r
  by_cases h1 : r ≤ 127
  · have e : enc r = [r] := Lib.encodeRuneZ_one r0 h1
    refine ⟨0, by omega, by rw [e]; rfl, [], ?_, fun _ => rfl, fun h => absurd rfl h⟩
    rw [List.take_zero]; exact reads_nil
  · by_cases h2 : r ≤ 2047
    · have e : enc r = [192 + r / 64, 128 + r % 64] := Lib.encodeRuneZ_two (by omega) h2
      rw [e] at hbs ⊢
      refine ⟨1, by omega, rfl, [65533], ?_, fun h => by omega, fun _ => rfl⟩
      show Reads [192 + r / 64] [65533]
      have hm : manyv (192 + r / 64) = (2 : Nat) := by unfold manyv; rw [if_pos (by omega)]; rfl
      exact reads_cut (m := 1) rfl (by omega) (first_cut (fun x hx => hbs x (by simp at hx; simp [hx])) rfl (by omega) (by omega) hm (by omega) (by show (128 : Int) ≤ 192 + r / 64; omega) (fun h => by omega) (fun h => by omega))
    · by_cases h3 : r ≤ 65535
      · have e : enc r = [224 + r / 4096, 128 + r / 64 % 64, 128 + r % 64] := Lib.encodeRuneZ_three (by omega)
        rw [e] at hbs ⊢
        refine ⟨2, by omega, rfl, [65533], ?_, fun h => by omega, fun _ => rfl⟩
        show Reads [224 + r / 4096, 128 + r / 64 % 64] [65533]
        have hm : manyv (224 + r / 4096) = (3 : Nat) := by unfold manyv; rw [if_neg (by omega), if_pos (by omega)]; rfl
        have hlo : lowv (224 + r / 4096) ≤ 128 + r / 64 % 64 := by unfold lowv; split <;> (try split) <;> (try split) <;> omega
        have hhi : 128 + r / 64 % 64 ≤ highv (224 + r / 4096) := by unfold highv; split <;> (try split) <;> (try split) <;> omega
        exact reads_cut (m := 2) rfl (by omega) (first_cut (fun x hx => hbs x (by simp at hx; rcases hx with rfl | rfl <;> simp)) rfl (by omega) (by omega) hm (by omega) (by show (128 : Int) ≤ 224 + r / 4096; omega) (fun _ => ⟨hlo, hhi⟩) (fun h => by omega))
      · have e : enc r = [240 + r / 262144, 128 + r / 4096 % 64, 128 + r / 64 % 64, 128 + r % 64] := Lib.encodeRuneZ_four (by omega) r1
        rw [e] at hbs ⊢
        refine ⟨3, by omega, rfl, [65533], ?_, fun h => by omega, fun _ => rfl⟩
        show Reads [240 + r / 262144, 128 + r / 4096 % 64, 128 + r / 64 % 64] [65533]
        have hm : manyv (240 + r / 262144) = (4 : Nat) := by unfold manyv; rw [if_neg (by omega), if_neg (by omega), if_pos (by omega)]; rfl
        have hlo : lowv (240 + r / 262144) ≤ 128 + r / 4096 % 64 := by unfold lowv; split <;> (try split) <;> (try split) <;> omega
        have hhi : 128 + r / 4096 % 64 ≤ highv (240 + r / 262144) := by unfold highv; split <;> (try split) <;> (try split) <;> omega
        exact reads_cut (m := 3) rfl (by omega) (first_cut (fun x hx => hbs x (by simp at hx; rcases hx with rfl | rfl | rfl <;> simp)) rfl (by omega) (by omega) hm (by omega) (by show (128 : Int) ≤ 240 + r / 262144; omega) (fun _ => ⟨hlo, hhi⟩) (fun _ => ⟨by show (128 : Int) ≤ 128 + r / 64 % 64; omega, by show 128 + r / 64 % 64 ≤ (191 : Int); omega⟩))

/-! the walk -/
theorem one_C (w : World) (x : Int) (e : TypeId) : Kd.C (Kd.int .i32) (w.alloc (.cells #[.int .i32 x] e)) (some ⟨w.heap.size, 0, none⟩) [x].length [x] := by
  refine Kd.C_of_reads (enc := Value.int .i32) (d := (0 : Int)) (h1 := fun _ => rfl) ⟨rfl, by simp, fun _ => ⟨_, rfl, fun j hj => ?_⟩⟩
  obtain rfl : j = 0 := by simp at hj; exact hj
  have hb : (w.alloc (.cells #[.int .i32 x] e)).heap[w.heap.size]? = some (.cells #[.int .i32 x] e) := by
    show (w.heap.push _)[w.heap.size]? = _
    simp
  show World.cell? _ ⟨w.heap.size, 0, none⟩ = _
  unfold World.cell?
  rw [hb]
  rfl
theorem dec_call (K : Nat) (w3 w4 : World) (g c n q : Nat) (l L : List Int) (hn : l.length = n) (hq : L.length = q) (hC : Kd.C (Kd.int .u8) w3 (some ⟨g, 0, none⟩) l.length l) (hc : n ≤ c) (hb : Below w3.heap.size w3 w4) (f : utf_Decode.f K l = some L) (hT : G.T w4) :
    Calls Tryd.prog 19 #[.slice (some ⟨g, 0, none⟩) n c] w4 fun e w' => ∃ A c', e = .returned (.slice A q c') ∧ q ≤ c' ∧ Kd.C (Kd.int .i32) w' A q L ∧ Below w4.heap.size w4 w' := by
  subst hn hq
  refine (utf_Decode.calls K (fun k_ => k_ < w3.heap.size) (some ⟨g, 0, none⟩) c l L w4 (Kd.V_mk hc (Kd.F_below (Kd.C_F (Kd.heap_int .u8) hC) hb)) f hT).mono ?_
  rintro e w' ⟨v, rfl, hR, hB⟩
  obtain ⟨A, c', rfl, h1, h2⟩ := Kd.R_reads hR
  exact ⟨A, c', rfl, h1, h2, hB⟩
theorem same_call (K : Nat) (w3 w4 : World) (A : Option Addr) (c q : Nat) (L : List Int) (x : Int) (e : TypeId) (hq : L.length = q) (hC : Kd.C (Kd.int .i32) w3 A q L) (hc : q ≤ c) (hb : Below w3.heap.size w3 w4) (f : carryalllaw01_same.f K L [x] = some true) :
    Calls Tryd.prog 18 #[.slice A q c, .slice (some ⟨w4.heap.size, 0, none⟩) 1 1] (w4.alloc (.cells #[.int .i32 x] e)) fun e' w' => e' = .returned (.bool true) ∧ Drawn0 (w4.alloc (.cells #[.int .i32 x] e)) w' := by
  subst hq
  exact carryalllaw01_same.calls K A c L (some ⟨w4.heap.size, 0, none⟩) 1 [x] true _ (Kd.C_alloc (Kd.C_below hC hb) _) hc (one_C w4 x e) (Nat.le_refl _) f
theorem enc_call (K : Nat) (w2 : World) (r : Int) (E : List Int) (n : Nat) (e0 : TypeId) (hn : E.length = n) (h0 : 0 < n) (f : utf_Encode.f K [r] = some E) :
    Calls Tryd.prog 24 #[.slice (some ⟨w2.heap.size, 0, none⟩) 1 1] (w2.alloc (.cells #[.int .i32 r] e0)) fun e w' => ∃ g c, e = .returned (.slice (some ⟨g, 0, none⟩) n c) ∧ n ≤ c ∧ Kd.C (Kd.int .u8) w' (some ⟨g, 0, none⟩) E.length E ∧ Below w2.heap.size w2 w' := by
  subst hn
  refine (utf_Encode.calls K (some ⟨w2.heap.size, 0, none⟩) 1 [r] E _ (one_C w2 r e0) (Nat.le_refl _) f).mono ?_
  rintro e w' ⟨v, rfl, hR, hB⟩
  obtain ⟨g, cap, rfl, _⟩ := Kd.R_form hR h0
  obtain ⟨_, h1, h2⟩ := Kd.R_reads' hR
  exact ⟨g, cap, rfl, h1, h2, ((Below.refl _ w2).alloc (Nat.le_refl _) _).trans (hB.mono (by show w2.heap.size ≤ (w2.heap.push _).size; simp))⟩
set_option maxHeartbeats 8000000 in
set_option maxRecDepth 100000 in
theorem ones_char (K m : Nat) (r : Int) (E Sh : List Int) (w : World) (hT : G.T w) (hm : m ≤ 3) (hE : E.length = m + 1) (fA : carryalllaw01_awake.f K = some true) (fC : carryallref01_Char.f r = some true) (fE : utf_Encode.f K [r] = some E) (fD : utf_Decode.f K E = some [r]) (fS : utf_Decode.f K (E.take m) = some Sh)
    (s1 : carryalllaw01_same.f K [r] [r] = some true) (s2 : m ≠ 0 → Sh.length = 1) (s3 : m ≠ 0 → carryalllaw01_same.f K Sh [65533] = some true) (s4 : m = 0 → Sh.length = 0) :
    Calls Tryd.prog 8 #[.int .i32 r] w fun e w' => e = .returned (.bool true) ∧ Below w.heap.size w w' := by
  have HT := Aside0.mk hT
  have S2 := Aside0.mk s2
  have S3 := Aside0.mk s3
  have S4 := Aside0.mk s4
  have FD := Aside0.mk fD
  have FS := Aside0.mk fS
  have S1 := Aside0.mk s1
  have FE := Aside0.mk fE
  clear hT s2 s3 s4 fD fS s1 fE
  go_enter Tryd.func8, Tryd.ntmps8
  go_wp2_with (go_at_call 9; refine (carryalllaw01_awake.calls K true _ fA).mono ?_; rintro e w1 ⟨rfl, hB1⟩)
  have HB1 := Aside0.mk hB1
  clear hB1
  go_wp2_with (go_at_call 23; refine (carryallref01_Char.calls r true _ fC).mono ?_; rintro e w2 ⟨rfl, hw2⟩)
  have HB2 := Aside0.mk (show Below w.heap.size w w2 by obtain ⟨nd, rfl⟩ := hw2; exact pw_below_drewN HB1.out nd)
  clear hw2
  have HML := Aside0.mk (show (E.take m).length = m by rw [List.length_take]; omega)
  have hm4 : m = 0 ∨ m = 1 ∨ m = 2 ∨ m = 3 := by omega
  rcases hm4 with rfl | rfl | rfl | rfl
  · have hE' : E.length = 1 := hE
    clear hE
    refine (enc_call K w2 r E 1 _ hE' (by omega) FE.out).mono ?_
    rintro e w3 ⟨g, c, rfl, hc, hC, hB3⟩
    have HB3 := Aside0.mk (HB2.out.trans (hB3.mono HB2.out.size))
    have HC := Aside0.mk hC
    have HCm := Aside0.mk (Kd.C_take hC (show 0 ≤ E.length by omega))
    clear hB3 hC
    have c1 : 0 ≤ c := by omega
    have hd1 := dec_call K w3 w3 g c 0 0 (E.take 0) Sh HML.out (by first | exact S4.out | exact S4.out trivial | exact S4.out rfl | exact S4.out (by omega)) HCm.out (by omega) (Below.refl _ _) FS.out (G.T_below HT.out HB3.out)
    go_wp2_with fail
    refine hd1.mono ?_
    clear hd1
    rintro e w4 ⟨A1, c1', rfl, h1, hC1, hB4⟩
    have HB4 := Aside0.mk (HB3.out.trans (hB4.mono HB3.out.size))
    have HB34 := Aside0.mk hB4
    have HC1 := Aside0.mk hC1
    clear hB4 hC1
    have hd2 := dec_call K w3 w4 g c 1 1 E [r] hE' rfl HC.out hc HB34.out FD.out (G.T_below HT.out HB4.out)
    go_wp2_with fail
    refine hd2.mono ?_
    clear hd2
    rintro e w5 ⟨A2, c2', rfl, h2, hC2, hB5⟩
    have HB5 := Aside0.mk (HB4.out.trans (hB5.mono HB4.out.size))
    have HB45 := Aside0.mk hB5
    have HC2 := Aside0.mk hC2
    clear hB5 hC2
    have hs1 := same_call K w5 w5 A2 c2' 1 [r] r 21 rfl HC2.out h2 (Below.refl _ _) S1.out
    go_wp2_with fail
    refine hs1.mono ?_
    clear hs1
    rintro e w6 ⟨rfl, nd, rfl⟩
    go_wp2
    go_ret
    exact ⟨rfl, pw_below_drewN (HB5.out.alloc HB5.out.size _) nd⟩
  · have hE' : E.length = 2 := hE
    clear hE
    refine (enc_call K w2 r E 2 _ hE' (by omega) FE.out).mono ?_
    rintro e w3 ⟨g, c, rfl, hc, hC, hB3⟩
    have HB3 := Aside0.mk (HB2.out.trans (hB3.mono HB2.out.size))
    have HC := Aside0.mk hC
    have HCm := Aside0.mk (Kd.C_take hC (show 1 ≤ E.length by omega))
    clear hB3 hC
    have c1 : 1 ≤ c := by omega
    have hd1 := dec_call K w3 w3 g c 1 1 (E.take 1) Sh HML.out (by first | exact S2.out | exact S2.out trivial | exact S2.out (by omega)) HCm.out (by omega) (Below.refl _ _) FS.out (G.T_below HT.out HB3.out)
    go_wp2_with fail
    refine hd1.mono ?_
    clear hd1
    rintro e w4 ⟨A1, c1', rfl, h1, hC1, hB4⟩
    have HB4 := Aside0.mk (HB3.out.trans (hB4.mono HB3.out.size))
    have HB34 := Aside0.mk hB4
    have HC1 := Aside0.mk hC1
    clear hB4 hC1
    have hd2 := dec_call K w3 w4 g c 2 1 E [r] hE' rfl HC.out hc HB34.out FD.out (G.T_below HT.out HB4.out)
    go_wp2_with fail
    refine hd2.mono ?_
    clear hd2
    rintro e w5 ⟨A2, c2', rfl, h2, hC2, hB5⟩
    have HB5 := Aside0.mk (HB4.out.trans (hB5.mono HB4.out.size))
    have HB45 := Aside0.mk hB5
    have HC2 := Aside0.mk hC2
    clear hB5 hC2
    have hs1 := same_call K w5 w5 A2 c2' 1 [r] r 21 rfl HC2.out h2 (Below.refl _ _) S1.out
    go_wp2_with fail
    refine hs1.mono ?_
    clear hs1
    rintro e w6 ⟨rfl, nd, rfl⟩
    have HS6 := Aside0.mk (show Below w4.heap.size w4 ((w5.alloc (.cells #[.int .i32 r] 21)).drewN nd) from pw_below_drewN (HB45.out.alloc HB45.out.size _) nd)
    have HB6 := Aside0.mk (show Below w.heap.size w ((w5.alloc (.cells #[.int .i32 r] 21)).drewN nd) from pw_below_drewN (HB5.out.alloc HB5.out.size _) nd)
    have hs2 := same_call K w4 ((w5.alloc (.cells #[.int .i32 r] 21)).drewN nd) A1 c1' 1 Sh 65533 21 (by first | exact S2.out | exact S2.out trivial | exact S2.out (by omega)) HC1.out h1 HS6.out (by first | exact S3.out | exact S3.out trivial | exact S3.out (by omega))
    go_wp2_with fail
    have hz : ((w5.alloc (.cells #[.int .i32 r] 21)).drewN nd).heap.size = w5.heap.size + 1 := by
      have h0 : ((w5.alloc (.cells #[.int .i32 r] 21)).drewN nd).heap = (w5.alloc (.cells #[.int .i32 r] 21)).heap := by simp
      rw [h0]
      show (w5.heap.push _).size = _
      simp
    rw [hz] at hs2
    refine hs2.mono ?_
    clear hs2
    rintro e w7 ⟨rfl, nd2, rfl⟩
    go_wp2
    go_ret
    exact ⟨rfl, pw_below_drewN (HB6.out.alloc HB6.out.size _) nd2⟩
  · have hE' : E.length = 3 := hE
    clear hE
    refine (enc_call K w2 r E 3 _ hE' (by omega) FE.out).mono ?_
    rintro e w3 ⟨g, c, rfl, hc, hC, hB3⟩
    have HB3 := Aside0.mk (HB2.out.trans (hB3.mono HB2.out.size))
    have HC := Aside0.mk hC
    have HCm := Aside0.mk (Kd.C_take hC (show 2 ≤ E.length by omega))
    clear hB3 hC
    have c1 : 2 ≤ c := by omega
    have hd1 := dec_call K w3 w3 g c 2 1 (E.take 2) Sh HML.out (by first | exact S2.out | exact S2.out trivial | exact S2.out (by omega)) HCm.out (by omega) (Below.refl _ _) FS.out (G.T_below HT.out HB3.out)
    go_wp2_with fail
    refine hd1.mono ?_
    clear hd1
    rintro e w4 ⟨A1, c1', rfl, h1, hC1, hB4⟩
    have HB4 := Aside0.mk (HB3.out.trans (hB4.mono HB3.out.size))
    have HB34 := Aside0.mk hB4
    have HC1 := Aside0.mk hC1
    clear hB4 hC1
    have hd2 := dec_call K w3 w4 g c 3 1 E [r] hE' rfl HC.out hc HB34.out FD.out (G.T_below HT.out HB4.out)
    go_wp2_with fail
    refine hd2.mono ?_
    clear hd2
    rintro e w5 ⟨A2, c2', rfl, h2, hC2, hB5⟩
    have HB5 := Aside0.mk (HB4.out.trans (hB5.mono HB4.out.size))
    have HB45 := Aside0.mk hB5
    have HC2 := Aside0.mk hC2
    clear hB5 hC2
    have hs1 := same_call K w5 w5 A2 c2' 1 [r] r 21 rfl HC2.out h2 (Below.refl _ _) S1.out
    go_wp2_with fail
    refine hs1.mono ?_
    clear hs1
    rintro e w6 ⟨rfl, nd, rfl⟩
    have HS6 := Aside0.mk (show Below w4.heap.size w4 ((w5.alloc (.cells #[.int .i32 r] 21)).drewN nd) from pw_below_drewN (HB45.out.alloc HB45.out.size _) nd)
    have HB6 := Aside0.mk (show Below w.heap.size w ((w5.alloc (.cells #[.int .i32 r] 21)).drewN nd) from pw_below_drewN (HB5.out.alloc HB5.out.size _) nd)
    have hs2 := same_call K w4 ((w5.alloc (.cells #[.int .i32 r] 21)).drewN nd) A1 c1' 1 Sh 65533 21 (by first | exact S2.out | exact S2.out trivial | exact S2.out (by omega)) HC1.out h1 HS6.out (by first | exact S3.out | exact S3.out trivial | exact S3.out (by omega))
    go_wp2_with fail
    have hz : ((w5.alloc (.cells #[.int .i32 r] 21)).drewN nd).heap.size = w5.heap.size + 1 := by
      have h0 : ((w5.alloc (.cells #[.int .i32 r] 21)).drewN nd).heap = (w5.alloc (.cells #[.int .i32 r] 21)).heap := by simp
      rw [h0]
      show (w5.heap.push _).size = _
      simp
    rw [hz] at hs2
    refine hs2.mono ?_
    clear hs2
    rintro e w7 ⟨rfl, nd2, rfl⟩
    go_wp2
    go_ret
    exact ⟨rfl, pw_below_drewN (HB6.out.alloc HB6.out.size _) nd2⟩
  · have hE' : E.length = 4 := hE
    clear hE
    refine (enc_call K w2 r E 4 _ hE' (by omega) FE.out).mono ?_
    rintro e w3 ⟨g, c, rfl, hc, hC, hB3⟩
    have HB3 := Aside0.mk (HB2.out.trans (hB3.mono HB2.out.size))
    have HC := Aside0.mk hC
    have HCm := Aside0.mk (Kd.C_take hC (show 3 ≤ E.length by omega))
    clear hB3 hC
    have c1 : 3 ≤ c := by omega
    have hd1 := dec_call K w3 w3 g c 3 1 (E.take 3) Sh HML.out (by first | exact S2.out | exact S2.out trivial | exact S2.out (by omega)) HCm.out (by omega) (Below.refl _ _) FS.out (G.T_below HT.out HB3.out)
    go_wp2_with fail
    refine hd1.mono ?_
    clear hd1
    rintro e w4 ⟨A1, c1', rfl, h1, hC1, hB4⟩
    have HB4 := Aside0.mk (HB3.out.trans (hB4.mono HB3.out.size))
    have HB34 := Aside0.mk hB4
    have HC1 := Aside0.mk hC1
    clear hB4 hC1
    have hd2 := dec_call K w3 w4 g c 4 1 E [r] hE' rfl HC.out hc HB34.out FD.out (G.T_below HT.out HB4.out)
    go_wp2_with fail
    refine hd2.mono ?_
    clear hd2
    rintro e w5 ⟨A2, c2', rfl, h2, hC2, hB5⟩
    have HB5 := Aside0.mk (HB4.out.trans (hB5.mono HB4.out.size))
    have HB45 := Aside0.mk hB5
    have HC2 := Aside0.mk hC2
    clear hB5 hC2
    have hs1 := same_call K w5 w5 A2 c2' 1 [r] r 21 rfl HC2.out h2 (Below.refl _ _) S1.out
    go_wp2_with fail
    refine hs1.mono ?_
    clear hs1
    rintro e w6 ⟨rfl, nd, rfl⟩
    have HS6 := Aside0.mk (show Below w4.heap.size w4 ((w5.alloc (.cells #[.int .i32 r] 21)).drewN nd) from pw_below_drewN (HB45.out.alloc HB45.out.size _) nd)
    have HB6 := Aside0.mk (show Below w.heap.size w ((w5.alloc (.cells #[.int .i32 r] 21)).drewN nd) from pw_below_drewN (HB5.out.alloc HB5.out.size _) nd)
    have hs2 := same_call K w4 ((w5.alloc (.cells #[.int .i32 r] 21)).drewN nd) A1 c1' 1 Sh 65533 21 (by first | exact S2.out | exact S2.out trivial | exact S2.out (by omega)) HC1.out h1 HS6.out (by first | exact S3.out | exact S3.out trivial | exact S3.out (by omega))
    go_wp2_with fail
    have hz : ((w5.alloc (.cells #[.int .i32 r] 21)).drewN nd).heap.size = w5.heap.size + 1 := by
      have h0 : ((w5.alloc (.cells #[.int .i32 r] 21)).drewN nd).heap = (w5.alloc (.cells #[.int .i32 r] 21)).heap := by simp
      rw [h0]
      show (w5.heap.push _).size = _
      simp
    rw [hz] at hs2
    refine hs2.mono ?_
    clear hs2
    rintro e w7 ⟨rfl, nd2, rfl⟩
    go_wp2
    go_ret
    exact ⟨rfl, pw_below_drewN (HB6.out.alloc HB6.out.size _) nd2⟩
set_option maxHeartbeats 2000000 in
set_option maxRecDepth 100000 in
theorem ones_other (K : Nat) (r : Int) (w : World) (fA : carryalllaw01_awake.f K = some true) (fC : carryallref01_Char.f r = some false) :
    Calls Tryd.prog 8 #[.int .i32 r] w fun e w' => e = .returned (.bool true) ∧ Below w.heap.size w w' := by
  go_enter Tryd.func8, Tryd.ntmps8
  go_wp2_with (go_at_call 9; refine (carryalllaw01_awake.calls K true _ fA).mono ?_; rintro e w1 ⟨rfl, hB1⟩)
  have HB1 := Aside0.mk hB1
  clear hB1
  go_wp2_with (go_at_call 23; refine (carryallref01_Char.calls r false _ fC).mono ?_; rintro e w2 ⟨rfl, hw2⟩)
  have HB2 := Aside0.mk (show Below w.heap.size w w2 by obtain ⟨nd, rfl⟩ := hw2; exact pw_below_drewN HB1.out nd)
  clear hw2
  go_wp2_with (go_at_call 9; refine (carryalllaw01_awake.calls K true _ fA).mono ?_; rintro e w3 ⟨rfl, hB3⟩)
  go_ret
  exact ⟨rfl, HB2.out.trans (hB3.mono HB2.out.size)⟩
theorem ones_row (r : Int) (w : World) (_ : (Lit.int .i32 r).wf = true) (hT : G.T w) :
    Calls Tryd.prog 8 #[.int .i32 r] w fun e w' => e = .returned (.bool true) ∧ Below w.heap.size w w' := by
  by_cases h : 0 ≤ r ∧ r ≤ 1114111 ∧ (r < 55296 ∨ 57343 < r)
  · obtain ⟨m, hm, hE, Sh, hS, z1, z2⟩ := kinds h
    have hl := enc_le r
    have r1 := reads_enc h (t := []) (by intro x hx; cases hx) reads_nil
    rw [List.append_nil] at r1
    obtain ⟨k1, h1⟩ := reads_f r1 (by omega)
    obtain ⟨k2, h2⟩ := reads_f hS (by rw [List.length_take]; omega)
    refine ones_char (k1 + k2 + 100) m r (enc r) Sh w hT hm hE (awake_at _ (by omega)) (by rw [char_f, decide_eq_true h]) (encode_f h _ (by omega)) (h1 _ (by omega)) (h2 _ (by omega)) (same_f [r] (by simp) _ (by simp)) (fun e => by rw [z2 e]; rfl) (fun e => by rw [z2 e]; exact same_f [65533] (by simp) _ (by simp)) (fun e => by rw [z1 e]; rfl)
  · exact ones_other 100 r w (awake_at _ (by omega)) (by rw [char_f, decide_eq_false h])
end Go.Proofs.YtkoddcihcoekgaaDoor.Dec
