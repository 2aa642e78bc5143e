/- What is printed of an address, by quad and by its reference, and what it is read as. -/
import Derived.Test.YtniiccdonafhmaaDoorPx2
import Derived.Test.YtniiccdonafhmaaDoorPx5
import Derived.Test.YtniiccdonafhmaaDoorQuadP
import Derived.Laws.BitsLemmas
namespace Go.Proofs.YtniiccdonafhmaaDoor.Quad
open Go.RowKit Go.Proofs.YtniiccdonafhmaaDoor.P Go.Proofs.YtniiccdonafhmaaDoor.Pl Go.Proofs.YtniiccdonafhmaaDoor.Spl Go.Proofs.YtniiccdonafhmaaDoorW.PrintWords Go.Proofs.YtniiccdonafhmaaDoorW.PrintLast Go.Proofs.YtniiccdonafhmaaDoorW.PrintMore
set_option linter.unusedVariables false

/-! the reference's digits -/
theorem strNums_dig (m : Nat) (h : m < 10) : bytesOf (strOfNums [48 + (m : Int)]) = [48 + (m : Int)] := bytes_str _ (by intro x hx; rw [List.mem_singleton.1 hx]; exact ⟨by omega, by omega⟩)
theorem dec_f : ∀ (m k n : Nat), n < 10 ^ (m + 1) → m < 19 → m + 1 ≤ k → ∃ S, carryallref07_Decimal.f k (n : Int) = some S ∧ bytesOf S = decI n := by
  intro m
  induction m with
  | zero =>
    intro k n hn hm hk
    obtain ⟨k, rfl⟩ : ∃ j, k = j + 1 := ⟨k - 1, by omega⟩
    have h10 : n < 10 := by omega
    rw [carryallref07_Decimal.f, Option.bind_some, if_neg (by omega)]
    refine ⟨_, rfl, ?_⟩
    have e : (48 + Int.tmod (n : Int) 10 % 256) % 256 = 48 + (n : Int) := by rw [Int.tmod_eq_emod_of_nonneg (by omega)]; omega
    rw [e, strNums_dig n h10, decI_small h10]
  | succ m ih =>
    intro k n hn hm hk
    obtain ⟨k, rfl⟩ : ∃ j, k = j + 1 := ⟨k - 1, by omega⟩
    have e : (48 + Int.tmod (n : Int) 10 % 256) % 256 = 48 + ((n % 10 : Nat) : Int) := by rw [Int.tmod_eq_emod_of_nonneg (by omega)]; omega
    rw [carryallref07_Decimal.f, Option.bind_some, e]
    by_cases h10 : n < 10
    · rw [if_neg (by omega)]
      refine ⟨_, rfl, ?_⟩
      have e2 : n % 10 = n := by omega
      rw [e2, strNums_dig n h10, decI_small h10]
    · have hb : n < 10 ^ 20 := Nat.lt_of_lt_of_le hn (Nat.pow_le_pow_right (by omega) (by omega))
      have hd : IntKind.u64.wrap (Int.tdiv (n : Int) 10) = ((n / 10 : Nat) : Int) := by
        have e3 : Int.tdiv (n : Int) 10 = ((n / 10 : Nat) : Int) := rfl
        rw [e3, IntWalk.u64_in _ (by omega)]
      obtain ⟨S, h1, h2⟩ := ih k (n / 10) (by rw [Nat.pow_succ] at hn; omega) (by omega) (by omega)
      have hz : S.size ≤ 20 := by
        rw [← bytesOf_length, h2]
        exact decI_len 19 (n / 10) (by omega)
      have hz2 : (strOfNums [48 + ((n % 10 : Nat) : Int)]).size = 1 := by rw [size_str]; rfl
      rw [if_pos (by omega), hd, h1, Option.bind_some, hz2, if_pos (by omega)]
      refine ⟨_, rfl, ?_⟩
      rw [bytes_append, h2, strNums_dig _ (by omega), decI_big h10]
theorem decimal (n k : Nat) (hn : n < 10 ^ 10) (hk : 12 ≤ k) : ∃ S, carryallref07_Decimal.f k (n : Int) = some S ∧ bytesOf S = decI n ∧ S.size ≤ 10 := by
  obtain ⟨S, h1, h2⟩ := dec_f 9 k n hn (by omega) (by omega)
  refine ⟨S, h1, h2, ?_⟩
  rw [← bytesOf_length, h2]
  exact decI_len 9 n hn

/-! what is printed -/
def printQ (n : Nat) : List Int := decI (n / 16777216) ++ 46 :: (decI (n / 65536 % 256) ++ 46 :: (decI (n / 256 % 256) ++ 46 :: decI (n % 256)))
theorem byte3 {n : Nat} (h : n < 256) : (decI n).length ≤ 3 := decI_len 2 n (by omega)
theorem rprint_f (n k : Nat) (hn : n < 4294967296) (hk : 12 ≤ k) : ∃ S, carryallref07_Print.f k (n : Int) = some S ∧ bytesOf S = printQ n ∧ S.size ≤ 15 := by
  have a1 : Int.tdiv (n : Int) 16777216 % 4294967296 = ((n / 16777216 : Nat) : Int) := by
    have : Int.tdiv (n : Int) 16777216 = ((n / 16777216 : Nat) : Int) := rfl
    rw [this]; omega
  have a2 : Int.tdiv (n : Int) 65536 % 256 = ((n / 65536 % 256 : Nat) : Int) := by
    have : Int.tdiv (n : Int) 65536 = ((n / 65536 : Nat) : Int) := rfl
    rw [this]; omega
  have a3 : Int.tdiv (n : Int) 256 % 256 = ((n / 256 % 256 : Nat) : Int) := by
    have : Int.tdiv (n : Int) 256 = ((n / 256 : Nat) : Int) := rfl
    rw [this]; omega
  have a4 : IntKind.u64.wrap (Int.tmod (n : Int) 256) = ((n % 256 : Nat) : Int) := by
    have : Int.tmod (n : Int) 256 = ((n % 256 : Nat) : Int) := rfl
    rw [this, IntWalk.u64_in _ (by omega)]
  obtain ⟨S1, f1, b1, z1⟩ := decimal (n / 16777216) k (by omega) hk
  obtain ⟨S2, f2, b2, z2⟩ := decimal (n / 65536 % 256) k (by omega) hk
  obtain ⟨S3, f3, b3, z3⟩ := decimal (n / 256 % 256) k (by omega) hk
  obtain ⟨S4, f4, b4, z4⟩ := decimal (n % 256) k (by omega) hk
  have l1 : (⟨#[46]⟩ : ByteArray).size = 1 := rfl
  have e1 : bytesOf (⟨#[46]⟩ : ByteArray) = [46] := rfl
  unfold carryallref07_Print.f
  rw [a1, f1, Option.bind_some, if_pos (by omega), a2, f2, Option.bind_some]
  simp only [ByteArray.size_append, l1]
  rw [if_pos (by omega), if_pos (by omega), a3, f3, Option.bind_some, if_pos (by omega), if_pos (by omega), a4, f4, Option.bind_some, if_pos (by omega)]
  have hb : bytesOf (S1 ++ ⟨#[46]⟩ ++ S2 ++ ⟨#[46]⟩ ++ S3 ++ ⟨#[46]⟩ ++ S4) = printQ n := by
    simp only [bytes_append, e1, b1, b2, b3, b4, printQ, List.append_assoc, List.cons_append, List.nil_append]
  refine ⟨_, rfl, hb, ?_⟩
  rw [← bytesOf_length, hb]
  unfold printQ
  have w1 := byte3 (show n / 16777216 < 256 by omega)
  have w2 := byte3 (show n / 65536 % 256 < 256 by omega)
  have w3 := byte3 (show n / 256 % 256 < 256 by omega)
  have w4 := byte3 (show n % 256 < 256 by omega)
  simp only [List.length_append, List.length_cons]
  omega
theorem part_at (n : Nat) (hn : n < 4294967296) (j : Nat) (hj : j < 4) : 0 ≤ wrap64 (24 - wrap64 (8 * (j : Int))) ∧ wrap64 (Go.bits .and .u32 (shr .u32 (n : Int) (wrap64 (24 - wrap64 (8 * (j : Int))))) 255) = ((n / 2 ^ (24 - 8 * j) % 256 : Nat) : Int) := by
  have hw : wrap64 (24 - wrap64 (8 * (j : Int))) = ((24 - 8 * j : Nat) : Int) := by rw [wrap_in (n := 8 * (j : Int)) (by omega) (by omega), wrap_in (by omega) (by omega)]; omega
  rw [hw]
  refine ⟨by omega, ?_⟩
  have hs : shr .u32 (n : Int) ((24 - 8 * j : Nat) : Int) = ((n / 2 ^ (24 - 8 * j) : Nat) : Int) := by
    unfold shr
    rw [Int.toNat_natCast]
    have : min (24 - 8 * j) IntKind.u32.bits = 24 - 8 * j := Nat.min_eq_left (by show _ ≤ 32; omega)
    rw [this]
    norm_cast
  have hle : n / 2 ^ (24 - 8 * j) ≤ n := Nat.div_le_self _ _
  rw [hs]
  generalize n / 2 ^ (24 - 8 * j) = q at *
  have hm := bits_mask .u32 32 (by decide) (fun x h0 h1 => by rw [IntWalk.u32_in x (by omega)]) 8 (by decide) ((q : Nat) : Int) (by omega) (by omega)
  have e255 : (2 : Int) ^ 8 - 1 = 255 := by decide
  rw [e255] at hm
  rw [hm]
  have e256 : (2 : Int) ^ 8 = 256 := by decide
  rw [e256, wrap_in (by omega) (by omega)]
  omega
theorem itoa_f (n : Nat) (h : n < 256) : ∃ S, strconv_Itoa.f (n : Int) = some S ∧ bytesOf S = decI n := by
  unfold strconv_Itoa.f
  rw [if_pos ⟨by omega, by omega⟩]
  exact ⟨_, rfl, itoa_bytes n⟩
theorem print_f (n k : Nat) (hn : n < 4294967296) (hk : 12 ≤ k) : ∃ S, quad_Print.f k (n : Int) = some S ∧ bytesOf S = printQ n ∧ S.size ≤ 15 := by
  obtain ⟨k, rfl⟩ : ∃ j, k = j + 5 := ⟨k - 5, by omega⟩
  obtain ⟨p0, q0⟩ := part_at n hn 0 (by omega)
  obtain ⟨p1, q1⟩ := part_at n hn 1 (by omega)
  obtain ⟨p2, q2⟩ := part_at n hn 2 (by omega)
  obtain ⟨p3, q3⟩ := part_at n hn 3 (by omega)
  obtain ⟨S0, f0, b0⟩ := itoa_f (n / 2 ^ 24 % 256) (Nat.mod_lt _ (by omega))
  obtain ⟨S1, f1, b1⟩ := itoa_f (n / 2 ^ 16 % 256) (Nat.mod_lt _ (by omega))
  obtain ⟨S2, f2, b2⟩ := itoa_f (n / 2 ^ 8 % 256) (Nat.mod_lt _ (by omega))
  obtain ⟨S3, f3, b3⟩ := itoa_f (n / 2 ^ 0 % 256) (Nat.mod_lt _ (by omega))
  have i1 : wrap64 (((0 : Nat) : Int) + 1) = ((1 : Nat) : Int) := by decide +kernel
  have i2 : wrap64 (((1 : Nat) : Int) + 1) = ((2 : Nat) : Int) := by decide +kernel
  have i3 : wrap64 (((2 : Nat) : Int) + 1) = ((3 : Nat) : Int) := by decide +kernel
  have i4 : wrap64 (((3 : Nat) : Int) + 1) = ((4 : Nat) : Int) := by decide +kernel
  unfold quad_Print.f
  show ∃ S, quad_Print.l0 (k + 5) n [] ((0 : Nat) : Int) = some S ∧ _
  rw [quad_Print.l0, if_pos (by decide), if_pos p0, q0, f0, Option.bind_some, if_pos (by decide), i1]
  rw [quad_Print.l0, if_pos (by decide), if_pos p1, q1, f1, Option.bind_some, if_pos (by simp), i2]
  rw [quad_Print.l0, if_pos (by decide), if_pos p2, q2, f2, Option.bind_some, if_pos (by simp), i3]
  rw [quad_Print.l0, if_pos (by decide), if_pos p3, q3, f3, Option.bind_some, if_pos (by simp), i4]
  rw [quad_Print.l0, if_neg (by decide)]
  have e0 : n / 2 ^ 24 % 256 = n / 16777216 := by omega
  have e1 : n / 2 ^ 16 % 256 = n / 65536 % 256 := by omega
  have e2 : n / 2 ^ 8 % 256 = n / 256 % 256 := by omega
  have e3 : n / 2 ^ 0 % 256 = n % 256 := by omega
  rw [e0] at b0
  rw [e1] at b1
  rw [e2] at b2
  rw [e3] at b3
  have hj : (Lib.join (([] ++ [S0] ++ [S1] ++ [S2] ++ [S3] : List ByteArray).map (·.data.toList)) (⟨#[46]⟩ : ByteArray).data.toList) = S0.data.toList ++ 46 :: (S1.data.toList ++ 46 :: (S2.data.toList ++ 46 :: S3.data.toList)) := by
    simp [Lib.join]
  have hbt : toI (S0.data.toList ++ 46 :: (S1.data.toList ++ 46 :: (S2.data.toList ++ 46 :: S3.data.toList))) = printQ n := by
    have t : ∀ a b : List UInt8, toI (a ++ 46 :: b) = toI a ++ 46 :: toI b := by intro a b; simp [toI]
    rw [t, t, t]
    unfold printQ
    rw [← b0, ← b1, ← b2, ← b3]
    rfl
  have hlen : (S0.data.toList ++ 46 :: (S1.data.toList ++ 46 :: (S2.data.toList ++ 46 :: S3.data.toList))).length ≤ 15 := by
    have := congrArg List.length hbt
    unfold toI at this
    rw [List.length_map] at this
    rw [this]
    unfold printQ
    have w1 := byte3 (show n / 16777216 < 256 by omega)
    have w2 := byte3 (show n / 65536 % 256 < 256 by omega)
    have w3 := byte3 (show n / 256 % 256 < 256 by omega)
    have w4 := byte3 (show n % 256 < 256 by omega)
    simp only [List.length_append, List.length_cons]
    omega
  unfold strings_Join.f
  rw [hj, if_pos ⟨by simp, by omega⟩, Option.bind_some]
  have hb := bytes_mk (S0.data.toList ++ 46 :: (S1.data.toList ++ 46 :: (S2.data.toList ++ 46 :: S3.data.toList)))
  rw [hbt] at hb
  refine ⟨_, rfl, hb, ?_⟩
  rw [← bytesOf_length, bytes_mk]
  unfold toI
  rw [List.length_map]
  exact hlen

/-! what decimal digits are read as -/
theorem hexv_dig {c : Int} (h0 : 48 ≤ c) (h1 : c ≤ 57) : hexv c = c - 48 := by unfold hexv; rw [if_pos ⟨h0, h1⟩]
theorem valQ_dec : ∀ (n : Nat) (rest : List Int), n ≤ 4294967296 → valQ 10 (decI n ++ rest) 0 = valQ 10 rest (n : Int) := by
  intro n
  induction n using Nat.strongRecOn with
  | ind n ih =>
    intro rest hn
    have S : ∀ (m q : Nat), m < 10 → 10 * q + m = n → valQ 10 ((48 + (m : Int)) :: rest) (q : Int) = valQ 10 rest (n : Int) := by
      intro m q hm hq
      rw [valQ, hexv_dig (by omega) (by omega), if_neg (by omega), if_neg (by omega)]
      congr 1
      unfold mn
      rw [if_neg (by omega)]
      omega
    by_cases h : n < 10
    · rw [decI_small h, List.singleton_append]
      exact S n 0 h (by omega)
    · rw [decI_big h, List.append_assoc, List.singleton_append, ih (n / 10) (by omega) _ (by omega)]
      exact S (n % 10) (n / 10) (by omega) (by omega)
theorem numQ_dec (n : Nat) (hn : n ≤ 4294967296) : numQ (decI n) = some (n : Int) := by
  obtain ⟨c, t, e, h0, h1, h2⟩ := decI_head n
  have hv := valQ_dec n [] hn
  rw [List.append_nil] at hv
  unfold numQ
  rw [if_neg (by rw [e]; simp)]
  have hc : cutB (decI n) = (10, decI n) := by
    by_cases hz : n = 0
    · subst hz; rw [decI_zero]; rfl
    · have := h2 (by omega)
      rw [e]
      cases t with
      | nil => rfl
      | cons d t => rw [cutB, if_neg (by omega)]
  rw [hc]
  exact hv
theorem dec_no (n : Nat) : ∀ x ∈ decI n, x ≠ 46 := by
  intro x hx
  have := decI_dig n x hx
  omega
theorem dec_ne (n : Nat) : decI n ≠ [] := by
  obtain ⟨c, t, e, _⟩ := decI_head n
  rw [e]; simp
theorem dec_all (n : Nat) : (decI n).all digB = true := by
  rw [List.all_eq_true]
  intro x hx
  have := decI_dig n x hx
  unfold digB
  rw [decide_eq_true (by omega), decide_eq_true (by omega)]
  rfl

/-! pieces that are known -/
theorem mapBytes (L : List (List Int)) (h : ∀ p ∈ L, ∀ x ∈ p, byte x) : (L.map strOfNums).map bytesOf = L := by
  rw [List.map_map]
  refine (List.map_congr_left (g := id) ?_).trans (List.map_id _)
  intro p hp
  exact bytes_str p (h p hp)
theorem lst_bytes (s : ByteArray) : (lst s).map bytesOf = splitL 46 (bytesOf s) := mapBytes _ (splitL_all byte 46 _ (bytes_all s))
theorem lst_of {s : ByteArray} {L : List (List Int)} (h : splitL 46 (bytesOf s) = L) : (lst s).map bytesOf = L := by rw [lst_bytes, h]
theorem last_map (L : List ByteArray) : bytesOf (L.getLastD ByteArray.empty) = (L.map bytesOf).getLastD [] := by
  rw [List.getLastD_eq_getLast?, List.getLastD_eq_getLast?, List.getLast?_map]
  cases L.getLast? <;> rfl
theorem parts_map {s : ByteArray} {L : List (List Int)} (h : splitL 46 (bytesOf s) = L) : (partsB (lst s)).map bytesOf = if 1 < L.length ∧ L.getLastD [] = [] then L.take (L.length - 1) else L := by
  have hL := lst_of h
  have hl : (lst s).length = L.length := by rw [← hL, List.length_map]
  unfold partsB
  rw [last_map, hL, hl]
  split
  · rw [List.map_take, hL]
  · exact hL
theorem addr_of {s : ByteArray} {L P : List (List Int)} (h : splitL 46 (bytesOf s) = L) (hP : (if 1 < L.length ∧ L.getLastD [] = [] then L.take (L.length - 1) else L) = P) : addrQ s = (if P.length > 4 then (0, false) else parseQ 0 0 P) ∧ endS s = endQ (P.getLastD []) := by
  have e := (parts_map h).trans hP
  have hl : (partsB (lst s)).length = P.length := by rw [← e, List.length_map]
  unfold addrQ endS
  rw [hl, e, last_map, e]
  exact ⟨rfl, rfl⟩
theorem split_print (n : Nat) (rest : List Int) : splitL 46 (printQ n ++ 46 :: rest) = [decI (n / 16777216), decI (n / 65536 % 256), decI (n / 256 % 256), decI (n % 256)] ++ splitL 46 rest := by
  unfold printQ
  simp only [List.append_assoc, List.cons_append]
  rw [splitL_cut _ _ _ (dec_no _), splitL_cut _ _ _ (dec_no _), splitL_cut _ _ _ (dec_no _), splitL_cut _ _ _ (dec_no _)]
  rfl
theorem split_print0 (n : Nat) : splitL 46 (printQ n) = [decI (n / 16777216), decI (n / 65536 % 256), decI (n / 256 % 256), decI (n % 256)] := by
  unfold printQ
  rw [splitL_cut _ _ _ (dec_no _), splitL_cut _ _ _ (dec_no _), splitL_cut _ _ _ (dec_no _), splitL_one _ _ (dec_no _)]
theorem parse_print (n : Nat) (hn : n < 4294967296) : parseQ 0 0 [decI (n / 16777216), decI (n / 65536 % 256), decI (n / 256 % 256), decI (n % 256)] = ((n : Int), true) := by
  simp only [parseQ, numQ_dec (n / 16777216) (by omega), numQ_dec (n / 65536 % 256) (by omega), numQ_dec (n / 256 % 256) (by omega), numQ_dec (n % 256) (by omega)]
  rw [if_neg (by omega), if_neg (by omega), if_neg (by omega), if_neg (by show ¬ _ ≥ (256 : Int); omega)]
  have : (0 + ((n / 16777216 : Nat) : Int) * pw (0 + 1) + ((n / 65536 % 256 : Nat) : Int) * pw (0 + 1 + 1) + ((n / 256 % 256 : Nat) : Int) * pw (0 + 1 + 1 + 1) + ((n % 256 : Nat) : Int)) = (n : Int) := by
    show (0 + ((n / 16777216 : Nat) : Int) * 16777216 + ((n / 65536 % 256 : Nat) : Int) * 65536 + ((n / 256 % 256 : Nat) : Int) * 256 + ((n % 256 : Nat) : Int)) = (n : Int)
    omega
  rw [this]
theorem end_dec (n : Nat) : endQ (decI n) = true := by
  unfold endQ
  rw [dec_all n, bne_iff_ne.2 (dec_ne n)]
  rfl
theorem print_back {s : ByteArray} {n : Nat} (hn : n < 4294967296) (h : bytesOf s = printQ n) : addrQ s = ((n : Int), true) ∧ endS s = true := by
  have hl := dec_ne (n % 256)
  obtain ⟨a, b⟩ := addr_of (s := s) (L := [decI (n / 16777216), decI (n / 65536 % 256), decI (n / 256 % 256), decI (n % 256)]) (by rw [h]; exact split_print0 n) (P := [decI (n / 16777216), decI (n / 65536 % 256), decI (n / 256 % 256), decI (n % 256)]) (by rw [if_neg]; rintro ⟨_, e⟩; exact hl e)
  rw [a, b]
  refine ⟨?_, end_dec _⟩
  rw [if_neg (by simp)]
  exact parse_print n hn
theorem print_dot {s : ByteArray} {n : Nat} (hn : n < 4294967296) (h : bytesOf s = printQ n ++ [46]) : addrQ s = ((n : Int), true) ∧ endS s = true := by
  obtain ⟨a, b⟩ := addr_of (s := s) (L := [decI (n / 16777216), decI (n / 65536 % 256), decI (n / 256 % 256), decI (n % 256)] ++ [[]]) (by rw [h]; exact split_print n []) (P := [decI (n / 16777216), decI (n / 65536 % 256), decI (n / 256 % 256), decI (n % 256)]) (by rw [if_pos ⟨by simp, rfl⟩]; rfl)
  rw [a, b]
  refine ⟨?_, end_dec _⟩
  rw [if_neg (by simp)]
  exact parse_print n hn
theorem one_back {s : ByteArray} {n : Nat} (hn : n < 4294967296) (h : bytesOf s = decI n) : addrQ s = ((n : Int), true) := by
  obtain ⟨a, b⟩ := addr_of (s := s) (L := [decI n]) (by rw [h]; exact splitL_one 46 _ (dec_no n)) (P := [decI n]) (by rw [if_neg]; simp)
  rw [a, if_neg (by simp)]
  simp only [parseQ, numQ_dec n (by omega)]
  rw [if_neg (by show ¬ _ ≥ (4294967296 : Int); omega)]
  simp
theorem many_no {s : ByteArray} {n m : Nat} (h : bytesOf s = printQ n ++ 46 :: decI m) : addrQ s = (0, false) ∧ endS s = true := by
  have hl := dec_ne m
  obtain ⟨a, b⟩ := addr_of (s := s) (L := [decI (n / 16777216), decI (n / 65536 % 256), decI (n / 256 % 256), decI (n % 256)] ++ [decI m]) (by rw [h, split_print n, splitL_one 46 _ (dec_no m)]) (P := [decI (n / 16777216), decI (n / 65536 % 256), decI (n / 256 % 256), decI (n % 256)] ++ [decI m]) (by rw [if_neg]; rintro ⟨_, e⟩; exact hl e)
  rw [a, b]
  exact ⟨rfl, end_dec _⟩
theorem great_no {s : ByteArray} {m : Nat} {c : Int} (h0 : 256 ≤ m) (h1 : m ≤ 4294967296) (hc : 48 ≤ c) (h : bytesOf s = decI m ++ 46 :: [c]) : addrQ s = (0, false) := by
  obtain ⟨a, b⟩ := addr_of (s := s) (L := [decI m, [c]]) (by rw [h, splitL_cut _ _ _ (dec_no m), splitL_one]; intro x hx; rw [List.mem_singleton.1 hx]; omega) (P := [decI m, [c]]) (by rw [if_neg]; rintro ⟨_, e⟩; cases e)
  rw [a, if_neg (by simp)]
  simp only [parseQ, numQ_dec m h1]
  rw [if_pos (by omega)]
end Go.Proofs.YtniiccdonafhmaaDoor.Quad
