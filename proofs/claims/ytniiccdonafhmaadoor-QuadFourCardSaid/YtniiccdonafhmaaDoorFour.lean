/- Four numbers up to 255, in whatever of the three ways each is written, are an address: the walk and what it computes. -/
import Derived.Test.YtniiccdonafhmaaDoorPx2
import Derived.Test.YtniiccdonafhmaaDoorPx5
import Derived.Test.YtniiccdonafhmaaDoorPx7
import Derived.Test.YtniiccdonafhmaaDoorQuadB
import Derived.Test.YtniiccdonafhmaaDoorQuadAwake
import Derived.Deep.LoopGhost
namespace Go.Proofs.YtniiccdonafhmaaDoor.Quad
open Go.RowKit Go.Proofs.YtniiccdonafhmaaDoor.P Go.Proofs.YtniiccdonafhmaaDoor.Pl Go.Proofs.YtniiccdonafhmaaDoor.Spl Go.Proofs.YtniiccdonafhmaaDoorW.PrintWords Go.Proofs.YtniiccdonafhmaaDoorW.PrintLast Go.Proofs.YtniiccdonafhmaaDoorW.PrintMore Go.Proofs.YtniiccdonafhmaaDoor.G
set_option linter.unusedVariables false

/-! a number's digits of a base -/
def hexd (n : Nat) : Int := if n < 10 then 48 + (n : Int) else 87 + (n : Int)
def digL : Nat → Nat → Nat → List Int
  | 0, _, _ => []
  | f + 1, b, n => (if b ≤ n then digL f b (n / b) else []) ++ [hexd (n % b)]
theorem digs8 (n : Nat) (h : n < 256) : ∀ K, 9 ≤ K → ∃ S, carryalllaw07_digits.f K (n : Int) 8 = some S ∧ bytesOf S = digL 9 8 n := by
  intro K hK
  induction K with
  | zero => omega
  | succ K ih =>
    rcases Nat.lt_or_ge K 9 with g | g
    · obtain rfl : K = 8 := by omega
      have H : ∀ n : Nat, n < 256 → (carryalllaw07_digits.f 9 (n : Int) 8).map bytesOf = some (digL 9 8 n) := by decide +kernel
      obtain ⟨S, h1, h2⟩ := Option.map_eq_some_iff.1 (H n h)
      exact ⟨S, h1, h2⟩
    · obtain ⟨S, h1, h2⟩ := ih g
      exact ⟨S, carryalllaw07_digits.mono _ _ K _ h1, h2⟩
theorem digs16 (n : Nat) (h : n < 256) : ∀ K, 9 ≤ K → ∃ S, carryalllaw07_digits.f K (n : Int) 16 = some S ∧ bytesOf S = digL 9 16 n := by
  intro K hK
  induction K with
  | zero => omega
  | succ K ih =>
    rcases Nat.lt_or_ge K 9 with g | g
    · obtain rfl : K = 8 := by omega
      have H : ∀ n : Nat, n < 256 → (carryalllaw07_digits.f 9 (n : Int) 16).map bytesOf = some (digL 9 16 n) := by decide +kernel
      obtain ⟨S, h1, h2⟩ := Option.map_eq_some_iff.1 (H n h)
      exact ⟨S, h1, h2⟩
    · obtain ⟨S, h1, h2⟩ := ih g
      exact ⟨S, carryalllaw07_digits.mono _ _ K _ h1, h2⟩
def bAt (n k : Nat) : Nat := n / 2 ^ (24 - 8 * k) % 256
def pieceL (n : Nat) (l : List Int) (k : Nat) : List Int :=
  if rd l (k : Int) % 3 = 0 then decI (bAt n k) else if rd l (k : Int) % 3 = 1 then 48 :: digL 9 8 (bAt n k) else 48 :: 120 :: digL 9 16 (bAt n k)
def textL (n : Nat) (l : List Int) : Nat → List Int
  | 0 => []
  | k + 1 => textL n l k ++ (if k = 0 then [] else [46]) ++ pieceL n l k
theorem piece_good (n : Nat) (l : List Int) (k : Nat) : numQ (pieceL n l k) = some ((bAt n k : Nat) : Int) ∧ (∀ x ∈ pieceL n l k, x ≠ 46) ∧ (pieceL n l k).length ≤ 5 ∧ (∀ x ∈ pieceL n l k, byte x) ∧ pieceL n l k ≠ [] := by
  have hb : bAt n k < 256 := Nat.mod_lt _ (by omega)
  unfold pieceL
  generalize bAt n k = b at *
  split
  · refine ⟨numQ_dec b (by omega), dec_no b, ?_, ?_, dec_ne b⟩
    · have := byte3 hb; omega
    · intro x hx; have := decI_dig b x hx; exact ⟨by omega, by omega⟩
  · split
    · have H : ∀ b : Nat, b < 256 → numQ (48 :: digL 9 8 b) = some (b : Int) ∧ ((48 :: digL 9 8 b).all fun x => decide (x ≠ 46) && decide (0 ≤ x) && decide (x ≤ 255)) = true ∧ (48 :: digL 9 8 b).length ≤ 5 := by decide +kernel
      obtain ⟨h1, h2, h3⟩ := H b hb
      rw [List.all_eq_true] at h2
      refine ⟨h1, fun x hx => ?_, h3, fun x hx => ?_, by simp⟩
      · have := h2 x hx; simp at this; exact this.1.1
      · have := h2 x hx; simp at this; exact ⟨this.1.2, this.2⟩
    · have H : ∀ b : Nat, b < 256 → numQ (48 :: 120 :: digL 9 16 b) = some (b : Int) ∧ ((48 :: 120 :: digL 9 16 b).all fun x => decide (x ≠ 46) && decide (0 ≤ x) && decide (x ≤ 255)) = true ∧ (48 :: 120 :: digL 9 16 b).length ≤ 5 := by decide +kernel
      obtain ⟨h1, h2, h3⟩ := H b hb
      rw [List.all_eq_true] at h2
      refine ⟨h1, fun x hx => ?_, h3, fun x hx => ?_, by simp⟩
      · have := h2 x hx; simp at this; exact this.1.1
      · have := h2 x hx; simp at this; exact ⟨this.1.2, this.2⟩
theorem text_len (n : Nat) (l : List Int) : ∀ k, (textL n l k).length ≤ 6 * k
  | 0 => Nat.le_refl _
  | k + 1 => by
    have h1 := text_len n l k
    have h2 := (piece_good n l k).2.2.1
    rw [textL, List.length_append, List.length_append]
    split <;> simp <;> omega
theorem text_four {S : ByteArray} {n : Nat} {l : List Int} (hn : n < 4294967296) (h : bytesOf S = textL n l 4) : addrQ S = ((n : Int), true) ∧ endS S = true := by
  obtain ⟨q0, d0, _, _, e0⟩ := piece_good n l 0
  obtain ⟨q1, d1, _, _, e1⟩ := piece_good n l 1
  obtain ⟨q2, d2, _, _, e2⟩ := piece_good n l 2
  obtain ⟨q3, d3, _, _, e3⟩ := piece_good n l 3
  have hs : textL n l 4 = pieceL n l 0 ++ 46 :: (pieceL n l 1 ++ 46 :: (pieceL n l 2 ++ 46 :: pieceL n l 3)) := by
    simp [textL]
  obtain ⟨a, b⟩ := addr_of (s := S) (L := [pieceL n l 0, pieceL n l 1, pieceL n l 2, pieceL n l 3]) (by rw [h, hs, splitL_cut _ _ _ d0, splitL_cut _ _ _ d1, splitL_cut _ _ _ d2, splitL_one _ _ d3]) (P := [pieceL n l 0, pieceL n l 1, pieceL n l 2, pieceL n l 3]) (by rw [if_neg]; rintro ⟨_, e⟩; exact e3 e)
  rw [a, b]
  refine ⟨?_, by show endQ (pieceL n l 3) = true; unfold endQ; rw [q3]; simp⟩
  rw [if_neg (by simp)]
  have b0 : bAt n 0 = n / 16777216 := by unfold bAt; omega
  have b1 : bAt n 1 = n / 65536 % 256 := by unfold bAt; omega
  have b2 : bAt n 2 = n / 256 % 256 := by unfold bAt; omega
  have b3 : bAt n 3 = n % 256 := by unfold bAt; omega
  rw [b0] at q0
  rw [b1] at q1
  rw [b2] at q2
  rw [b3] at q3
  simp only [parseQ, q0, q1, q2, q3]
  rw [if_neg (by omega), if_neg (by omega), if_neg (by omega), if_neg (by show ¬ _ ≥ (256 : Int); omega)]
  have : (0 + ((n / 16777216 : Nat) : Int) * pw (0 + 1) + ((n / 65536 % 256 : Nat) : Int) * pw (0 + 1 + 1) + ((n / 256 % 256 : Nat) : Int) * pw (0 + 1 + 1 + 1) + ((n % 256 : Nat) : Int)) = (n : Int) := by
    show (0 + ((n / 16777216 : Nat) : Int) * 16777216 + ((n / 65536 % 256 : Nat) : Int) * 65536 + ((n / 256 % 256 : Nat) : Int) * 256 + ((n % 256 : Nat) : Int)) = (n : Int)
    omega
  rw [this]

theorem piece0 {n : Nat} {l : List Int} {k : Nat} (c0 : rd l (k : Int) % 3 = 0) : pieceL n l k = decI (bAt n k) := by unfold pieceL; rw [if_pos c0]
theorem piece1 {n : Nat} {l : List Int} {k : Nat} (c0 : ¬ rd l (k : Int) % 3 = 0) (c1 : rd l (k : Int) % 3 = 1) : pieceL n l k = 48 :: digL 9 8 (bAt n k) := by unfold pieceL; rw [if_neg c0, if_pos c1]
theorem piece2 {n : Nat} {l : List Int} {k : Nat} (c0 : ¬ rd l (k : Int) % 3 = 0) (c1 : ¬ rd l (k : Int) % 3 = 1) : pieceL n l k = 48 :: 120 :: digL 9 16 (bAt n k) := by unfold pieceL; rw [if_neg c0, if_neg c1]
theorem text0z {n : Nat} {l : List Int} {S D : ByteArray} (hS : bytesOf S = textL n l 0) (hD : bytesOf D = decI (bAt n 0)) (c0 : rd l ((0 : Nat) : Int) % 3 = 0) : bytesOf (S ++ D) = textL n l 1 := by
  rw [bytes_append, hS, hD]
  show _ = [] ++ [] ++ pieceL n l 0
  rw [piece0 c0]; rfl
theorem text0s {n : Nat} {l : List Int} {k : Nat} {S D : ByteArray} (hS : bytesOf S = textL n l k) (hD : bytesOf D = decI (bAt n k)) (c0 : rd l (k : Int) % 3 = 0) (hk : ¬ k = 0) : bytesOf (S ++ ⟨#[46]⟩ ++ D) = textL n l (k + 1) := by
  rw [textL, piece0 c0, if_neg hk, bytes_append, bytes_append, hS, hD]; rfl
theorem text1z {n : Nat} {l : List Int} {S D : ByteArray} (hS : bytesOf S = textL n l 0) (hD : bytesOf D = digL 9 8 (bAt n 0)) (c0 : ¬ rd l ((0 : Nat) : Int) % 3 = 0) (c1 : rd l ((0 : Nat) : Int) % 3 = 1) : bytesOf (S ++ ⟨#[48]⟩ ++ D) = textL n l 1 := by
  rw [bytes_append, bytes_append, hS, hD]
  show _ = [] ++ [] ++ pieceL n l 0
  rw [piece1 c0 c1]; rfl
theorem text1s {n : Nat} {l : List Int} {k : Nat} {S D : ByteArray} (hS : bytesOf S = textL n l k) (hD : bytesOf D = digL 9 8 (bAt n k)) (c0 : ¬ rd l (k : Int) % 3 = 0) (c1 : rd l (k : Int) % 3 = 1) (hk : ¬ k = 0) : bytesOf (S ++ ⟨#[46]⟩ ++ ⟨#[48]⟩ ++ D) = textL n l (k + 1) := by
  rw [textL, piece1 c0 c1, if_neg hk, bytes_append, bytes_append, bytes_append, hS, hD, List.append_assoc (_ ++ _)]; rfl
theorem text2z {n : Nat} {l : List Int} {S D : ByteArray} (hS : bytesOf S = textL n l 0) (hD : bytesOf D = digL 9 16 (bAt n 0)) (c0 : ¬ rd l ((0 : Nat) : Int) % 3 = 0) (c1 : ¬ rd l ((0 : Nat) : Int) % 3 = 1) : bytesOf (S ++ ⟨#[48, 120]⟩ ++ D) = textL n l 1 := by
  rw [bytes_append, bytes_append, hS, hD]
  show _ = [] ++ [] ++ pieceL n l 0
  rw [piece2 c0 c1]; rfl
theorem text2s {n : Nat} {l : List Int} {k : Nat} {S D : ByteArray} (hS : bytesOf S = textL n l k) (hD : bytesOf D = digL 9 16 (bAt n k)) (c0 : ¬ rd l (k : Int) % 3 = 0) (c1 : ¬ rd l (k : Int) % 3 = 1) (hk : ¬ k = 0) : bytesOf (S ++ ⟨#[46]⟩ ++ ⟨#[48, 120]⟩ ++ D) = textL n l (k + 1) := by
  rw [textL, piece2 c0 c1, if_neg hk, bytes_append, bytes_append, bytes_append, hS, hD, List.append_assoc (_ ++ _)]; rfl

/-! the walk -/
theorem part_and (n : Nat) (hn : n < 4294967296) (k : Nat) (hk : k < 4) : Go.bits .and .u32 ((n : Int) / 2 ^ (24 - 8 * k)) 255 = ((bAt n k : Nat) : Int) := by
  have hle : n / 2 ^ (24 - 8 * k) ≤ n := Nat.div_le_self _ _
  have e : (n : Int) / 2 ^ (24 - 8 * k) = ((n / 2 ^ (24 - 8 * k) : Nat) : Int) := by norm_cast
  rw [e]
  unfold bAt
  generalize n / 2 ^ (24 - 8 * k) = q at *
  have hm := bits_mask .u32 32 (by decide) (fun x h0 h1 => by rw [IntWalk.u32_in x (by omega)]) 8 (by decide) ((q : Nat) : Int) (by omega) (by omega)
  have e255 : (2 : Int) ^ 8 - 1 = 255 := by decide
  rw [e255] at hm
  rw [hm]
  have e256 : (2 : Int) ^ 8 = 256 := by decide
  rw [e256]
  omega
theorem digL8_len (n : Nat) (h : n < 256) : (digL 9 8 n).length ≤ 10 := by
  have H : ∀ n : Nat, n < 256 → (digL 9 8 n).length ≤ 10 := by decide +kernel
  exact H n h
theorem digL16_len (n : Nat) (h : n < 256) : (digL 9 16 n).length ≤ 10 := by
  have H : ∀ n : Nat, n < 256 → (digL 9 16 n).length ≤ 10 := by decide +kernel
  exact H n h
theorem rd_mem (l : List Int) (k : Nat) (h : k < l.length) : rd l (k : Int) ∈ l := by rw [rd_nat l k h]; exact List.getElem_mem h
theorem box_cell (w : World) (e : TypeId) (l : List Int) (i : Nat) (hi : i < l.length) : (w.alloc (.cells (l.map (Value.int .u8)).toArray e)).cell? ⟨w.heap.size, i, none⟩ = some (.int .u8 (rd l (i : Int))) := by
  rw [rd_nat l i hi]
  have hb : (w.alloc (.cells (l.map (Value.int .u8)).toArray e)).heap[w.heap.size]? = some (.cells (l.map (Value.int .u8)).toArray e) := by
    show (w.heap.push _)[w.heap.size]? = _
    simp
  unfold World.cell?
  rw [hb]
  simp [hi]
set_option maxHeartbeats 40000000 in
set_option maxRecDepth 100000 in
theorem four_walk (K n : Nat) (hn : n < 4294967296) (l : List Int) (hl : l.length = 4) (hw : ∀ x ∈ l, 0 ≤ x ∧ x ≤ 255) (w : World) (hK : 2000 ≤ K) (hT : G.T w) :
    Calls Tryd.prog 5 #[.int .u32 n, .agg (l.map (Value.int .u8)).toArray] w fun e w' => e = .returned (.bool true) ∧ Below w.heap.size w w' := by
  have HT := Aside0.mk hT
  clear hT
  go_enter Tryd.func5, Tryd.ntmps5
  go_wp2_with (go_at_call 7; refine (carryalllaw07_awake.calls K true _ (awake_at K (by omega)) (G.T_below HT.out ?_)).mono ?_)
  · exact (Below.refl _ _).alloc (Nat.le_refl _) _
  · rintro e w2 ⟨rfl, hw2⟩
    obtain ⟨wb, hwb⟩ : ∃ wb, w.alloc (.cells (l.map (Value.int .u8)).toArray 31) = wb := ⟨_, rfl⟩
    have hB1 : Below w.heap.size w wb := by rw [← hwb]; exact (Below.refl _ _).alloc (Nat.le_refl _) _
    have hcell : ∀ i : Nat, i < 4 → wb.cell? ⟨w.heap.size, i, none⟩ = some (.int .u8 (rd l (i : Int))) := by
      intro i hi; rw [← hwb]; exact box_cell w _ l i (by omega)
    rw [hwb] at hw2
    have hlt0 : w.heap.size < wb.heap.size := by rw [← hwb]; show w.heap.size < (w.heap.push _).size; simp
    clear hwb
    go_wp2
    go_loopw [12, 5] (fun i s wr => ∃ k : Nat, k ≤ 4 ∧ i = .int .i64 k ∧ ∃ S : ByteArray, s = .string S ∧ bytesOf S = textL n l k ∧ Below wb.heap.size wb wr) (fun i s _ => 4 - (intOf i).toNat)
    case atStart => exact ⟨0, Nat.zero_le _, rfl, _, rfl, rfl, hw2⟩
    case round =>
      rename_i wr
      obtain ⟨k, hk, rfl, S, rfl, hS, hB⟩ := hrel
      have hSz : S.size ≤ 24 := by rw [← bytesOf_length, hS]; have := text_len n l k; omega
      have HB := Aside0.mk hB
      have HS := Aside0.mk hS
      clear hB hS
      by_cases hlt : k < 4
      · have hc : wr.cell? ⟨w.heap.size, k, none⟩ = some (.int .u8 (rd l (k : Int))) := by rw [HB.out.cell (show w.heap.size < wb.heap.size from hlt0)]; exact hcell k hlt
        obtain ⟨x, hx⟩ : ∃ x, rd l (k : Int) = x := ⟨_, rfl⟩
        rw [hx] at hc
        clear hcell
        have hbk : bAt n k < 256 := Nat.mod_lt _ (by omega)
        have hm := part_and n hn k hlt
        have hx0 : 0 ≤ x := by have := hw x (by rw [← hx]; exact rd_mem l k (by omega)); omega
        have ht : x.tmod 3 = x % 3 := Int.tmod_eq_emod_of_nonneg hx0
        have hk4 : k = 0 ∨ k = 1 ∨ k = 2 ∨ k = 3 := by omega
        rcases hk4 with rfl | rfl | rfl | rfl
        · have hm0 : Go.bits .and .u32 ((n : Int) / 16777216) 255 = ((bAt n 0 : Nat) : Int) := hm
          clear hm
          by_cases c0 : x % 3 = 0
          · have e0 : (x.tmod 3 == 0) = true := by rw [ht, c0]; rfl
            obtain ⟨D, hD, hDb, _⟩ := decimal (bAt n 0) K (by omega) (by omega)
            have hDs : D.size ≤ 10 := by rw [← bytesOf_length, hDb]; exact Nat.le_trans (byte3 hbk) (by omega)
            have HDB := Aside0.mk hDb
            have HD := Aside0.mk hD
            clear hDb hD
            go_wp2_with (go_at_call 13; refine (carryallref07_Decimal.calls K _ D _ HD.out).mono ?_; rintro e w3 ⟨rfl, hw3⟩)
            have hB3 : Below wb.heap.size wb w3 := HB.out.trans (hw3.mono HB.out.size)
            go_roundw
            case rel => exact ⟨1, by omega, by go_num, _, rfl, text0z HS.out HDB.out (by rw [hx]; exact c0), hB3⟩
            case measure => simp [intOf]
          · by_cases c1 : x % 3 = 1
            · have e0 : (x.tmod 3 == 0) = false := by rw [ht, c1]; rfl
              have e1 : (x.tmod 3 == 1) = true := by rw [ht, c1]; rfl
              obtain ⟨D, hD, hDb⟩ := digs8 (bAt n 0) hbk K (by omega)
              have hDs : D.size ≤ 10 := by rw [← bytesOf_length, hDb]; exact digL8_len _ hbk
              have HDB := Aside0.mk hDb
              have HD := Aside0.mk hD
              clear hDb hD
              go_wp2_with (go_at_call 15; refine (carryalllaw07_digits.calls K _ 8 D _ HD.out).mono ?_; rintro e w3 ⟨rfl, hw3⟩)
              have hB3 : Below wb.heap.size wb w3 := (by obtain ⟨nd, rfl⟩ := hw3; exact pw_below_drewN HB.out nd)
              go_roundw
              case rel => exact ⟨1, by omega, by go_num, _, rfl, text1z HS.out HDB.out (by rw [hx]; exact c0) (by rw [hx]; exact c1), hB3⟩
              case measure => simp [intOf]
            · have e0 : (x.tmod 3 == 0) = false := by rw [ht]; exact beq_false_of_ne c0
              have e1 : (x.tmod 3 == 1) = false := by rw [ht]; exact beq_false_of_ne c1
              obtain ⟨D, hD, hDb⟩ := digs16 (bAt n 0) hbk K (by omega)
              have hDs : D.size ≤ 10 := by rw [← bytesOf_length, hDb]; exact digL16_len _ hbk
              have HDB := Aside0.mk hDb
              have HD := Aside0.mk hD
              clear hDb hD
              go_wp2_with (go_at_call 15; refine (carryalllaw07_digits.calls K _ 16 D _ HD.out).mono ?_; rintro e w3 ⟨rfl, hw3⟩)
              have hB3 : Below wb.heap.size wb w3 := (by obtain ⟨nd, rfl⟩ := hw3; exact pw_below_drewN HB.out nd)
              go_roundw
              case rel => exact ⟨1, by omega, by go_num, _, rfl, text2z HS.out HDB.out (by rw [hx]; exact c0) (by rw [hx]; exact c1), hB3⟩
              case measure => simp [intOf]
        · have hm0 : Go.bits .and .u32 ((n : Int) / 65536) 255 = ((bAt n 1 : Nat) : Int) := hm
          clear hm
          by_cases c0 : x % 3 = 0
          · have e0 : (x.tmod 3 == 0) = true := by rw [ht, c0]; rfl
            obtain ⟨D, hD, hDb, _⟩ := decimal (bAt n 1) K (by omega) (by omega)
            have hDs : D.size ≤ 10 := by rw [← bytesOf_length, hDb]; exact Nat.le_trans (byte3 hbk) (by omega)
            have HDB := Aside0.mk hDb
            have HD := Aside0.mk hD
            clear hDb hD
            go_wp2_with (go_at_call 13; refine (carryallref07_Decimal.calls K _ D _ HD.out).mono ?_; rintro e w3 ⟨rfl, hw3⟩)
            have hB3 : Below wb.heap.size wb w3 := HB.out.trans (hw3.mono HB.out.size)
            go_roundw
            case rel => exact ⟨2, by omega, by go_num, _, rfl, text0s HS.out HDB.out (by rw [hx]; exact c0) (by omega), hB3⟩
            case measure => simp [intOf]
          · by_cases c1 : x % 3 = 1
            · have e0 : (x.tmod 3 == 0) = false := by rw [ht, c1]; rfl
              have e1 : (x.tmod 3 == 1) = true := by rw [ht, c1]; rfl
              obtain ⟨D, hD, hDb⟩ := digs8 (bAt n 1) hbk K (by omega)
              have hDs : D.size ≤ 10 := by rw [← bytesOf_length, hDb]; exact digL8_len _ hbk
              have HDB := Aside0.mk hDb
              have HD := Aside0.mk hD
              clear hDb hD
              go_wp2_with (go_at_call 15; refine (carryalllaw07_digits.calls K _ 8 D _ HD.out).mono ?_; rintro e w3 ⟨rfl, hw3⟩)
              have hB3 : Below wb.heap.size wb w3 := (by obtain ⟨nd, rfl⟩ := hw3; exact pw_below_drewN HB.out nd)
              go_roundw
              case rel => exact ⟨2, by omega, by go_num, _, rfl, text1s HS.out HDB.out (by rw [hx]; exact c0) (by rw [hx]; exact c1) (by omega), hB3⟩
              case measure => simp [intOf]
            · have e0 : (x.tmod 3 == 0) = false := by rw [ht]; exact beq_false_of_ne c0
              have e1 : (x.tmod 3 == 1) = false := by rw [ht]; exact beq_false_of_ne c1
              obtain ⟨D, hD, hDb⟩ := digs16 (bAt n 1) hbk K (by omega)
              have hDs : D.size ≤ 10 := by rw [← bytesOf_length, hDb]; exact digL16_len _ hbk
              have HDB := Aside0.mk hDb
              have HD := Aside0.mk hD
              clear hDb hD
              go_wp2_with (go_at_call 15; refine (carryalllaw07_digits.calls K _ 16 D _ HD.out).mono ?_; rintro e w3 ⟨rfl, hw3⟩)
              have hB3 : Below wb.heap.size wb w3 := (by obtain ⟨nd, rfl⟩ := hw3; exact pw_below_drewN HB.out nd)
              go_roundw
              case rel => exact ⟨2, by omega, by go_num, _, rfl, text2s HS.out HDB.out (by rw [hx]; exact c0) (by rw [hx]; exact c1) (by omega), hB3⟩
              case measure => simp [intOf]
        · have hm0 : Go.bits .and .u32 ((n : Int) / 256) 255 = ((bAt n 2 : Nat) : Int) := hm
          clear hm
          by_cases c0 : x % 3 = 0
          · have e0 : (x.tmod 3 == 0) = true := by rw [ht, c0]; rfl
            obtain ⟨D, hD, hDb, _⟩ := decimal (bAt n 2) K (by omega) (by omega)
            have hDs : D.size ≤ 10 := by rw [← bytesOf_length, hDb]; exact Nat.le_trans (byte3 hbk) (by omega)
            have HDB := Aside0.mk hDb
            have HD := Aside0.mk hD
            clear hDb hD
            go_wp2_with (go_at_call 13; refine (carryallref07_Decimal.calls K _ D _ HD.out).mono ?_; rintro e w3 ⟨rfl, hw3⟩)
            have hB3 : Below wb.heap.size wb w3 := HB.out.trans (hw3.mono HB.out.size)
            go_roundw
            case rel => exact ⟨3, by omega, by go_num, _, rfl, text0s HS.out HDB.out (by rw [hx]; exact c0) (by omega), hB3⟩
            case measure => simp [intOf]
          · by_cases c1 : x % 3 = 1
            · have e0 : (x.tmod 3 == 0) = false := by rw [ht, c1]; rfl
              have e1 : (x.tmod 3 == 1) = true := by rw [ht, c1]; rfl
              obtain ⟨D, hD, hDb⟩ := digs8 (bAt n 2) hbk K (by omega)
              have hDs : D.size ≤ 10 := by rw [← bytesOf_length, hDb]; exact digL8_len _ hbk
              have HDB := Aside0.mk hDb
              have HD := Aside0.mk hD
              clear hDb hD
              go_wp2_with (go_at_call 15; refine (carryalllaw07_digits.calls K _ 8 D _ HD.out).mono ?_; rintro e w3 ⟨rfl, hw3⟩)
              have hB3 : Below wb.heap.size wb w3 := (by obtain ⟨nd, rfl⟩ := hw3; exact pw_below_drewN HB.out nd)
              go_roundw
              case rel => exact ⟨3, by omega, by go_num, _, rfl, text1s HS.out HDB.out (by rw [hx]; exact c0) (by rw [hx]; exact c1) (by omega), hB3⟩
              case measure => simp [intOf]
            · have e0 : (x.tmod 3 == 0) = false := by rw [ht]; exact beq_false_of_ne c0
              have e1 : (x.tmod 3 == 1) = false := by rw [ht]; exact beq_false_of_ne c1
              obtain ⟨D, hD, hDb⟩ := digs16 (bAt n 2) hbk K (by omega)
              have hDs : D.size ≤ 10 := by rw [← bytesOf_length, hDb]; exact digL16_len _ hbk
              have HDB := Aside0.mk hDb
              have HD := Aside0.mk hD
              clear hDb hD
              go_wp2_with (go_at_call 15; refine (carryalllaw07_digits.calls K _ 16 D _ HD.out).mono ?_; rintro e w3 ⟨rfl, hw3⟩)
              have hB3 : Below wb.heap.size wb w3 := (by obtain ⟨nd, rfl⟩ := hw3; exact pw_below_drewN HB.out nd)
              go_roundw
              case rel => exact ⟨3, by omega, by go_num, _, rfl, text2s HS.out HDB.out (by rw [hx]; exact c0) (by rw [hx]; exact c1) (by omega), hB3⟩
              case measure => simp [intOf]
        · have hm0 : Go.bits .and .u32 (n : Int) 255 = ((bAt n 3 : Nat) : Int) := by have h := hm; rw [show ((n : Int) / 2 ^ (24 - 8 * 3)) = (n : Int) from Int.ediv_one _] at h; exact h
          clear hm
          by_cases c0 : x % 3 = 0
          · have e0 : (x.tmod 3 == 0) = true := by rw [ht, c0]; rfl
            obtain ⟨D, hD, hDb, _⟩ := decimal (bAt n 3) K (by omega) (by omega)
            have hDs : D.size ≤ 10 := by rw [← bytesOf_length, hDb]; exact Nat.le_trans (byte3 hbk) (by omega)
            have HDB := Aside0.mk hDb
            have HD := Aside0.mk hD
            clear hDb hD
            go_wp2_with (go_at_call 13; refine (carryallref07_Decimal.calls K _ D _ HD.out).mono ?_; rintro e w3 ⟨rfl, hw3⟩)
            have hB3 : Below wb.heap.size wb w3 := HB.out.trans (hw3.mono HB.out.size)
            go_roundw
            case rel => exact ⟨4, by omega, by go_num, _, rfl, text0s HS.out HDB.out (by rw [hx]; exact c0) (by omega), hB3⟩
            case measure => simp [intOf]
          · by_cases c1 : x % 3 = 1
            · have e0 : (x.tmod 3 == 0) = false := by rw [ht, c1]; rfl
              have e1 : (x.tmod 3 == 1) = true := by rw [ht, c1]; rfl
              obtain ⟨D, hD, hDb⟩ := digs8 (bAt n 3) hbk K (by omega)
              have hDs : D.size ≤ 10 := by rw [← bytesOf_length, hDb]; exact digL8_len _ hbk
              have HDB := Aside0.mk hDb
              have HD := Aside0.mk hD
              clear hDb hD
              go_wp2_with (go_at_call 15; refine (carryalllaw07_digits.calls K _ 8 D _ HD.out).mono ?_; rintro e w3 ⟨rfl, hw3⟩)
              have hB3 : Below wb.heap.size wb w3 := (by obtain ⟨nd, rfl⟩ := hw3; exact pw_below_drewN HB.out nd)
              go_roundw
              case rel => exact ⟨4, by omega, by go_num, _, rfl, text1s HS.out HDB.out (by rw [hx]; exact c0) (by rw [hx]; exact c1) (by omega), hB3⟩
              case measure => simp [intOf]
            · have e0 : (x.tmod 3 == 0) = false := by rw [ht]; exact beq_false_of_ne c0
              have e1 : (x.tmod 3 == 1) = false := by rw [ht]; exact beq_false_of_ne c1
              obtain ⟨D, hD, hDb⟩ := digs16 (bAt n 3) hbk K (by omega)
              have hDs : D.size ≤ 10 := by rw [← bytesOf_length, hDb]; exact digL16_len _ hbk
              have HDB := Aside0.mk hDb
              have HD := Aside0.mk hD
              clear hDb hD
              go_wp2_with (go_at_call 15; refine (carryalllaw07_digits.calls K _ 16 D _ HD.out).mono ?_; rintro e w3 ⟨rfl, hw3⟩)
              have hB3 : Below wb.heap.size wb w3 := (by obtain ⟨nd, rfl⟩ := hw3; exact pw_below_drewN HB.out nd)
              go_roundw
              case rel => exact ⟨4, by omega, by go_num, _, rfl, text2s HS.out HDB.out (by rw [hx]; exact c0) (by rw [hx]; exact c1) (by omega), hB3⟩
              case measure => simp [intOf]
      · obtain rfl : k = 4 := by omega
        obtain ⟨q1, q2⟩ := text_four hn HS.out
        have HP := Aside0.mk (show quad_Parse.f K S = some ((n : Int), true) by rw [parse_f S (by omega) K (by omega), q1])
        have HE := Aside0.mk (show quad_Ends.f K S = some true by rw [ends_f S (by omega) K (by omega), q2])
        have HW := Aside0.mk (hB1.trans (HB.out.mono hB1.size))
        clear hcell q1 q2 hB1 hw2
        go_wp2_with (go_at_call 8; refine (quad_Parse.calls K S n true _ HP.out (G.T_below HT.out HW.out)).mono ?_; rintro e w4 ⟨rfl, hw4⟩)
        have HW4 := Aside0.mk (HW.out.trans (hw4.mono HW.out.size))
        clear hw4
        go_wp2_with (go_at_call 10; refine (quad_Ends.calls K S true _ HE.out (G.T_below HT.out HW4.out)).mono ?_; rintro e w5 ⟨rfl, hw5⟩)
        go_ret
        exact ⟨rfl, HW4.out.trans (hw5.mono HW4.out.size)⟩
theorem four_row (a0 : Int) (a1 : List Int) (W : World) (w0 : (Lit.int .u32 a0).wf = true) (l1 : a1.length = 4) (w1 : ∀ z ∈ a1, (Lit.int .u8 z).wf = true) (hT : G.T W) :
    Calls Tryd.prog 5 #[.int .u32 a0, .agg (a1.map (Value.int .u8)).toArray] W fun e w' => e = .returned (.bool true) ∧ Below W.heap.size W w' := by
  have hr : 0 ≤ a0 ∧ a0 ≤ 4294967295 := by simpa [Lit.wf, IntKind.min, IntKind.max, IntKind.bits, IntKind.signed] using w0
  obtain ⟨n, rfl⟩ := Int.eq_ofNat_of_zero_le hr.1
  exact four_walk 2000 n (by omega) a1 l1 (fun x hx => byte_of (w1 x hx)) W (Nat.le_refl _) hT
end Go.Proofs.YtniiccdonafhmaaDoor.Quad
