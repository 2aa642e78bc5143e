/- Characters' bytes are read as they were; what is read is written as valid bytes, and valid ones as they were: the plain law and the walk. -/
import Derived.Test.YtkoddcihcoekgaaDoorPx1
import Derived.Test.YtkoddcihcoekgaaDoorPx2
import Derived.Test.YtkoddcihcoekgaaDoorPx4
import Derived.Test.YtkoddcihcoekgaaDoorPx5
import Derived.Test.YtkoddcihcoekgaaDoorDecT
import Derived.Test.YtkoddcihcoekgaaDoorRowV
import Derived.Laws.BitsLemmas
import Derived.Laws.AppendOwn
import Derived.Deep.RegionWith
import Derived.Deep.LoopGhost
import Derived.OwnWalk
import Derived.IntWalk
namespace Go.Proofs.YtkoddcihcoekgaaDoor.Dec
open Go.RowKit Go.Proofs.YtkoddcihcoekgaaDoor.P Go.Proofs.YtkoddcihcoekgaaDoor.Pl Go.Proofs.YtkoddcihcoekgaaDoor.Utf Go.Proofs.YtkoddcihcoekgaaDoor.Row Go.Proofs.YtkoddcihcoekgaaDoorW.PrintWords Go.Proofs.YtkoddcihcoekgaaDoorW.PrintLast Go.Proofs.YtkoddcihcoekgaaDoorW.PrintMore
set_option linter.unusedVariables false
set_option linter.unusedSimpArgs false
theorem or192' {m : Int} (h0 : 0 ≤ m) (h1 : m < 32) : Go.bits .or .u8 192 m = 192 + m := by
  obtain ⟨n, rfl⟩ := Int.eq_ofNat_of_zero_le h0
  have H : ∀ n : Nat, n < 32 → Go.bits .or .u8 192 (n : Int) = 192 + (n : Int) := by decide +kernel
  exact H n (by omega)
theorem or224' {m : Int} (h0 : 0 ≤ m) (h1 : m < 16) : Go.bits .or .u8 224 m = 224 + m := by
  obtain ⟨n, rfl⟩ := Int.eq_ofNat_of_zero_le h0
  have H : ∀ n : Nat, n < 16 → Go.bits .or .u8 224 (n : Int) = 224 + (n : Int) := by decide +kernel
  exact H n (by omega)
theorem or240' {m : Int} (h0 : 0 ≤ m) (h1 : m < 8) : Go.bits .or .u8 240 m = 240 + m := by
  obtain ⟨n, rfl⟩ := Int.eq_ofNat_of_zero_le h0
  have H : ∀ n : Nat, n < 8 → Go.bits .or .u8 240 (n : Int) = 240 + (n : Int) := by decide +kernel
  exact H n (by omega)
theorem append_all {r : Int} (hr : i32 r) (acc : List Int) (ha : acc.length ≤ 1000000) (k : Nat) (hk : 3 ≤ k) : utf8_AppendRune.f k acc r = some (acc ++ enc r) := by
  obtain ⟨q0, q1⟩ := hr
  obtain ⟨k, rfl⟩ : ∃ j, k = j + 1 := ⟨k - 1, by omega⟩
  have bad : (r < 0 ∨ (55296 ≤ r ∧ r ≤ 57343) ∨ 1114111 < r) → enc r = [239, 191, 189] := fun h => Lib.encodeRuneZ_bad (by omega)
  have l3 : ∀ a b c : Int, (([a, b, c] : List Int)).length = 3 := fun _ _ _ => rfl
  by_cases hc : isChar r
  · obtain ⟨r0, r1, r2⟩ := hc
    have e : r % 4294967296 = r := by omega
    unfold utf8_AppendRune.f
    rw [e]
    by_cases h1 : r ≤ 127
    · rw [if_pos h1, if_pos (by omega), show r % 256 = r by omega, show enc r = [r] from Lib.encodeRuneZ_one r0 h1]
    · rw [if_neg h1]
      unfold utf8_appendRuneNonASCII.f
      rw [e]
      by_cases h2 : r ≤ 2047
      · rw [if_pos h2, Option.bind_some, if_pos (by simp; omega), Option.bind_some, show enc r = [192 + r / 64, 128 + r % 64] from Lib.encodeRuneZ_two (by omega) h2, show r / 64 % 256 = r / 64 by omega, or192' (by omega) (by omega)]
      · rw [if_neg h2]
        have three : (2048 ≤ r ∧ r < 55296) ∨ (57343 < r ∧ r ≤ 65535) → utf8_appendRuneNonASCII.j0 (k + 1) acc r r true = some (acc ++ enc r) := fun h => by
          rw [utf8_appendRuneNonASCII.j0, if_pos rfl, Option.bind_some, if_pos (by simp; omega), show enc r = [224 + r / 4096, 128 + r / 64 % 64, 128 + r % 64] from Lib.encodeRuneZ_three h, show r / 4096 % 256 = r / 4096 by omega, or224' (by omega) (by omega)]
        by_cases h3 : r < 55296
        · rw [if_pos h3, decide_eq_true h3, three (.inl ⟨by omega, h3⟩)]; rfl
        · rw [if_neg h3, if_pos (by omega)]
          by_cases h4 : r ≤ 65535
          · rw [decide_eq_true h4, three (.inr ⟨by omega, h4⟩)]; rfl
          · rw [decide_eq_false h4, utf8_appendRuneNonASCII.j0, if_neg Bool.false_ne_true, if_pos (by omega), if_pos (by omega), Option.bind_some, if_pos (by simp; omega), Option.bind_some, show enc r = [240 + r / 262144, 128 + r / 4096 % 64, 128 + r / 64 % 64, 128 + r % 64] from Lib.encodeRuneZ_four (by omega) r1, show r / 262144 % 256 = r / 262144 by omega, or240' (by omega) (by omega)]
  · have hb : r < 0 ∨ (55296 ≤ r ∧ r ≤ 57343) ∨ 1114111 < r := by unfold isChar at hc; omega
    rw [bad hb]
    unfold utf8_AppendRune.f
    rw [if_neg (by omega)]
    unfold utf8_appendRuneNonASCII.f
    rw [if_neg (by omega), if_neg (by omega)]
    by_cases h5 : 57343 < r % 4294967296
    · rw [if_pos h5, decide_eq_false (by omega), utf8_appendRuneNonASCII.j0, if_neg Bool.false_ne_true, if_pos (by omega), if_neg (by omega), Option.bind_some, if_pos (by simp; omega), Option.bind_some]
    · rw [if_neg h5, utf8_appendRuneNonASCII.j0, if_neg Bool.false_ne_true, if_neg (by omega), Option.bind_some, if_pos (by simp; omega), Option.bind_some]
theorem enc_l0 (C : List Int) (hC : C.length ≤ 100000) (h32 : ∀ r ∈ C, i32 r) : ∀ (d i : Nat) (acc : List Int) (k : Nat), C.length - i = d → i ≤ C.length → d + 5 ≤ k → acc.length ≤ 4 * i → utf_Encode.l0 k acc C (C.length : Int) (i : Int) = some (acc ++ (C.drop i).flatMap enc) := by
  intro d
  induction d with
  | zero =>
    intro i acc k hd hi hk ha
    obtain ⟨k, rfl⟩ : ∃ j, k = j + 1 := ⟨k - 1, by omega⟩
    rw [utf_Encode.l0, if_neg (by omega), List.drop_eq_nil_of_le (by omega)]
    simp
  | succ d ih =>
    intro i acc k hd hi hk ha
    obtain ⟨k, rfl⟩ : ∃ j, k = j + 1 := ⟨k - 1, by omega⟩
    have hw : wrap64 ((i : Int) + 1) = ((i + 1 : Nat) : Int) := by rw [wrap_in (by omega) (by omega)]; omega
    have hle := enc_le (rd C (i : Int))
    have hm : rd C (i : Int) ∈ C := by
      rw [rd_at (List.getElem?_eq_getElem (by omega : i < C.length))]
      exact List.getElem_mem _
    rw [utf_Encode.l0, if_pos (by omega), if_pos (by omega), if_pos (by omega), append_all (h32 _ hm) acc (by omega) k (by omega), Option.bind_some, hw, ih (i + 1) _ k (by omega) (by omega) (by omega) (by rw [List.length_append]; omega), drop_rd C i (by omega), List.flatMap_cons, List.append_assoc]
theorem uenc_f (C : List Int) (hC : C.length ≤ 100000) (h32 : ∀ r ∈ C, i32 r) (k : Nat) (hk : C.length + 5 ≤ k) : utf_Encode.f k C = some (C.flatMap enc) := by
  unfold utf_Encode.f
  have := enc_l0 C hC h32 _ 0 [] k rfl (by omega) (by omega) (by simp)
  rw [List.drop_zero, List.nil_append] at this
  exact this
theorem flat_fix (C : List Int) : (C.map fixC).flatMap enc = C.flatMap enc := by
  rw [List.flatMap_map]
  exact congrArg (fun f => C.flatMap f) (funext fun r => enc_fix r)
theorem flat_le : ∀ C : List Int, (C.flatMap enc).length ≤ 4 * C.length
  | [] => by simp
  | x :: C => by
    have := flat_le C
    have h := enc_le x
    rw [List.flatMap_cons, List.length_append, List.length_cons]
    omega
/-- What is written is valid, and read as it. -/
theorem valid_flat (C : List Int) (hC : ∀ r ∈ C, isChar r) (hl : C.length ≤ 10000) : Lib.validD (toU (C.flatMap enc)) = true := by
  have hfl := flat_le C
  obtain ⟨L, hR, _, _, _, _, hV⟩ := both _ (C.flatMap enc) rfl (flat_bytes C) (by omega)
  have r0 := reads_chars C hC (t := []) (L := []) (by intro x hx; cases hx) reads_nil
  rw [List.append_nil, List.append_nil] at r0
  have : L = C := reads_fun hR r0 (by omega)
  subst this
  exact hV.2 rfl

/-! the calls -/
theorem C_of {k : IntKind} {W : World} {A : Option Addr} {l : List Int} (h : Row.Reads W A l.length (l.map (Value.int k))) (hl : l.length ≤ maxLen) : Kd.C (Kd.int k) W A l.length l := by
  refine Kd.C_of_reads (enc := Value.int k) (d := (0 : Int)) (h1 := fun _ => rfl) ⟨rfl, hl, fun h0 => ?_⟩
  obtain ⟨ad, e, hc⟩ := h.2 h0
  refine ⟨ad, e, fun j hj => ?_⟩
  rw [hc j hj]
  simp [List.getD, List.getElem?_eq_getElem hj]
section
variable {W0 W : World} {A : Option Addr} {c n : Nat} {l : List Int}
theorem bt {W0 W w' : World} (hb : Below W0.heap.size W0 W) (h : Below W.heap.size W w') : Below W0.heap.size W0 w' := hb.trans (h.mono hb.size)
theorem enc_c (K : Nat) (E : List Int) (q : Nat) (hn : l.length = n) (hq : E.length = q) (hC : Kd.C (Kd.int .i32) W0 A n l) (hc : n ≤ c) (f : utf_Encode.f K l = some E) (hb : Below W0.heap.size W0 W) :
    Calls Tryd.prog 24 #[.slice A n c] W fun e w' => ∃ A' c', e = .returned (.slice A' q c') ∧ q ≤ c' ∧ Kd.C (Kd.int .u8) w' A' q E ∧ Below W0.heap.size W0 w' := by
  subst hn hq
  refine (utf_Encode.calls K A c l E W (Kd.C_below hC hb) hc f).mono ?_
  rintro e w' ⟨v, rfl, hR, hB⟩
  obtain ⟨A', c', rfl, h1, h2⟩ := Kd.R_reads hR
  exact ⟨A', c', rfl, h1, h2, bt hb hB⟩
theorem renc_c (K : Nat) (E : List Int) (q : Nat) (hn : l.length = n) (hq : E.length = q) (hC : Kd.C (Kd.int .i32) W0 A n l) (hc : n ≤ c) (f : carryallref01_Encode.f K l = some E) (hb : Below W0.heap.size W0 W) :
    Calls Tryd.prog 25 #[.slice A n c] W fun e w' => ∃ A' c', e = .returned (.slice A' q c') ∧ q ≤ c' ∧ Kd.C (Kd.int .u8) w' A' q E ∧ Below W0.heap.size W0 w' := by
  subst hn hq
  refine (carryallref01_Encode.calls K A c l E W (Kd.C_below hC hb) hc f).mono ?_
  rintro e w' ⟨v, rfl, hR, hB⟩
  obtain ⟨A', c', rfl, h1, h2⟩ := Kd.R_reads hR
  exact ⟨A', c', rfl, h1, h2, bt hb hB⟩
theorem dec_c (K : Nat) (L : List Int) (q : Nat) (hn : l.length = n) (hq : L.length = q) (hC : Kd.C (Kd.int .u8) W0 A n l) (hc : n ≤ c) (f : utf_Decode.f K l = some L) (hT : G.T W0) (hb : Below W0.heap.size W0 W) :
    Calls Tryd.prog 19 #[.slice A n c] W fun e w' => ∃ A' c', e = .returned (.slice A' q c') ∧ q ≤ c' ∧ Kd.C (Kd.int .i32) w' A' q L ∧ Below W0.heap.size W0 w' := by
  subst hn hq
  refine (utf_Decode.calls K (fun k_ => k_ < W.heap.size) A c l L W (Kd.V_mk hc (Kd.C_F (Kd.heap_int .u8) (Kd.C_below hC hb))) f (G.T_below hT hb)).mono ?_
  rintro e w' ⟨v, rfl, hR, hB⟩
  obtain ⟨A', c', rfl, h1, h2⟩ := Kd.R_reads hR
  exact ⟨A', c', rfl, h1, h2, bt hb hB⟩
theorem val_c (r : Bool) (hn : l.length = n) (hC : Kd.C (Kd.int .u8) W0 A n l) (hc : n ≤ c) (f : utf_Valid.f l = some r) (hT : G.T W0) (hb : Below W0.heap.size W0 W) :
    Calls Tryd.prog 21 #[.slice A n c] W fun e w' => e = .returned (.bool r) ∧ Below W0.heap.size W0 w' := by
  subst hn
  refine (utf_Valid.calls A c l r W (Kd.C_below hC hb) hc f (G.T_below hT hb)).mono ?_
  rintro e w' ⟨rfl, hB⟩
  exact ⟨rfl, bt hb hB⟩
theorem same_c (K : Nat) {A2 : Option Addr} {c2 n2 : Nat} {l2 : List Int} (hn : l.length = n) (hn2 : l2.length = n2) (hC : Kd.C (Kd.int .i32) W A n l) (hc : n ≤ c) (hC2 : Kd.C (Kd.int .i32) W0 A2 n2 l2) (hc2 : n2 ≤ c2) (f : carryalllaw01_same.f K l l2 = some true) (hb : Below W0.heap.size W0 W) :
    Calls Tryd.prog 18 #[.slice A n c, .slice A2 n2 c2] W fun e w' => e = .returned (.bool true) ∧ ∃ nd, w' = W.drewN nd := by
  subst hn hn2
  refine (carryalllaw01_same.calls K A c l A2 c2 l2 true W hC hc (Kd.C_below hC2 hb) hc2 f).mono ?_
  rintro e w' ⟨he, nd, hw⟩
  exact ⟨he, nd, hw⟩
theorem str_c (hn : l.length = n) (hC : Kd.C (Kd.int .u8) W0 A n l) (hb : Below W0.heap.size W0 W) : (convert 27 9 (.slice A n c)).run Tryd.prog W = .ok (.string (strOfNums l)) W := by
  subst hn
  exact Kd.C_string (P := Tryd.prog) (A := A) (c := c) Tryd.underlying27 Tryd.underlying5 Tryd.underlying9 (Kd.C_below hC hb)
end
end Go.Proofs.YtkoddcihcoekgaaDoor.Dec
