/- The reference's Decode, bit by bit: what it makes of letters; base.Decode's bytes are the same. -/
import Derived.Test.YtbobbbpjphkooaaDoorPx2
import Derived.Test.YtbobbbpjphkooaaDoorPx3
import Derived.Test.YtbobbbpjphkooaaDoorBaR
namespace Go.Proofs.YtbobbbpjphkooaaDoor.BaT
open Go.RowKit Go.Proofs.YtbobbbpjphkooaaDoor.P Go.Proofs.YtbobbbpjphkooaaDoor.Pl Go.Proofs.YtbobbbpjphkooaaDoor.BaG Go.Proofs.YtbobbbpjphkooaaDoor.BaR Go.Proofs.YtbobbbpjphkooaaDoorW.PrintWords Go.Proofs.YtbobbbpjphkooaaDoorW.PrintLast Go.Proofs.YtbobbbpjphkooaaDoorW.PrintMore
def bv (b : Bool) (n : Nat) : Nat := if b = true then n else 0
def val8 (f : Nat → Bool) : Nat := bv (f 0) 128 + bv (f 1) 64 + bv (f 2) 32 + bv (f 3) 16 + bv (f 4) 8 + bv (f 5) 4 + bv (f 6) 2 + bv (f 7) 1
def byteAt (bs : List Bool) (q : Nat) : Nat := val8 fun j => bs.getD (8 * q + j) false
def pack (M : Nat) (bs : List Bool) : List Int := (List.range M).map fun q => ((byteAt bs q : Nat) : Int)
def bit (n i : Nat) : Bool := n / 2 ^ (5 - i) % 2 == 1
def bits6 (n : Nat) : List Bool := [bit n 0, bit n 1, bit n 2, bit n 3, bit n 4, bit n 5]
theorem snoc (bs : List Bool) (x : Bool) (k : Nat) : (bs ++ [x]).getD k false = if k = bs.length then x else bs.getD k false := by
  rw [List.getD_eq_getElem?_getD, List.getD_eq_getElem?_getD, List.getElem?_append]
  by_cases h : k < bs.length
  · rw [if_pos h, if_neg (by omega)]
  · rw [if_neg h]
    by_cases h2 : k = bs.length
    · rw [if_pos h2, h2]
      simp
    · rw [if_neg h2, List.getElem?_eq_none (by simp; omega), List.getElem?_eq_none (by omega)]
theorem past (bs : List Bool) (k : Nat) (h : bs.length ≤ k) : bs.getD k false = false := by
  rw [List.getD_eq_getElem?_getD, List.getElem?_eq_none h]
  rfl
theorem val8_congr {f g : Nat → Bool} (h : ∀ j, j < 8 → f j = g j) : val8 f = val8 g := by
  unfold val8
  rw [h 0 (by omega), h 1 (by omega), h 2 (by omega), h 3 (by omega), h 4 (by omega), h 5 (by omega), h 6 (by omega), h 7 (by omega)]
theorem pack_false (M : Nat) (bs : List Bool) : pack M (bs ++ [false]) = pack M bs := by
  unfold pack
  refine List.map_congr_left fun q _ => ?_
  unfold byteAt
  rw [val8_congr fun j _ => ?_]
  rw [snoc]
  split
  · rename_i h
    rw [h, past bs _ (Nat.le_refl _)]
  · rfl
theorem pack_beyond (M : Nat) (bs : List Bool) (x : Bool) (h : 8 * M ≤ bs.length) : pack M (bs ++ [x]) = pack M bs := by
  unfold pack
  refine List.map_congr_left fun q hq => ?_
  have := List.mem_range.1 hq
  unfold byteAt
  rw [val8_congr fun j _ => ?_]
  rw [snoc, if_neg (by omega)]
theorem pack_len (M : Nat) (bs : List Bool) : (pack M bs).length = M := by simp [pack]
theorem pack_rd (M : Nat) (bs : List Bool) (q : Nat) (h : q < M) : rd (pack M bs) (q : Int) = (byteAt bs q : Nat) := by
  rw [rd_nat _ _ (by rw [pack_len]; exact h)]
  simp [pack]
/-- The byte in which the next bit falls: what is there, and that bit. -/
theorem byte_true (bs : List Bool) (j : Nat) (hj : bs.length % 8 = j) : byteAt (bs ++ [true]) (bs.length / 8) = byteAt bs (bs.length / 8) + 2 ^ (7 - j) ∧ byteAt bs (bs.length / 8) % 2 ^ (8 - j) = 0 ∧ byteAt bs (bs.length / 8) < 256 := by
  obtain ⟨q, hq⟩ : ∃ q, bs.length / 8 = q := ⟨_, rfl⟩
  have hl : bs.length = 8 * q + j := by omega
  have hj8 : j < 8 := by omega
  rw [hq]
  have e : byteAt (bs ++ [true]) q = val8 fun i => if i = j then true else if i < j then bs.getD (8 * q + i) false else false := by
    refine val8_congr fun i _ => ?_
    rw [snoc]
    by_cases h1 : i = j
    · rw [if_pos (by omega), if_pos h1]
    · rw [if_neg (by omega), if_neg h1]
      by_cases h2 : i < j
      · rw [if_pos h2]
      · rw [if_neg h2, past bs _ (by omega)]
  have e2 : byteAt bs q = val8 fun i => if i < j then bs.getD (8 * q + i) false else false := by
    refine val8_congr fun i _ => ?_
    by_cases h2 : i < j
    · rw [if_pos h2]
    · rw [if_neg h2, past bs _ (by omega)]
  rw [e, e2]
  obtain ⟨f, hf⟩ : ∃ f : Nat → Bool, ∀ i, bs.getD (8 * q + i) false = f i := ⟨_, fun _ => rfl⟩
  simp only [hf]
  have key : ∀ (b0 b1 b2 b3 b4 b5 b6 : Bool), ∀ j < 8, (val8 fun i => if i = j then true else if i < j then [b0, b1, b2, b3, b4, b5, b6].getD i false else false) = (val8 fun i => if i < j then [b0, b1, b2, b3, b4, b5, b6].getD i false else false) + 2 ^ (7 - j) ∧ (val8 fun i => if i < j then [b0, b1, b2, b3, b4, b5, b6].getD i false else false) % 2 ^ (8 - j) = 0 ∧ (val8 fun i => if i < j then [b0, b1, b2, b3, b4, b5, b6].getD i false else false) < 256 := by decide +kernel
  have hk := key (f 0) (f 1) (f 2) (f 3) (f 4) (f 5) (f 6) j hj8
  have g1 : (val8 fun i => if i = j then true else if i < j then f i else false) = (val8 fun i => if i = j then true else if i < j then [f 0, f 1, f 2, f 3, f 4, f 5, f 6].getD i false else false) := by
    refine val8_congr fun i hi => ?_
    by_cases h1 : i = j
    · rw [if_pos h1, if_pos h1]
    · rw [if_neg h1, if_neg h1]
      by_cases h2 : i < j
      · rw [if_pos h2, if_pos h2]
        have : i = 0 ∨ i = 1 ∨ i = 2 ∨ i = 3 ∨ i = 4 ∨ i = 5 ∨ i = 6 := by omega
        rcases this with rfl | rfl | rfl | rfl | rfl | rfl | rfl <;> rfl
      · rw [if_neg h2, if_neg h2]
  have g2 : (val8 fun i => if i < j then f i else false) = (val8 fun i => if i < j then [f 0, f 1, f 2, f 3, f 4, f 5, f 6].getD i false else false) := by
    refine val8_congr fun i hi => ?_
    by_cases h2 : i < j
    · rw [if_pos h2, if_pos h2]
      have : i = 0 ∨ i = 1 ∨ i = 2 ∨ i = 3 ∨ i = 4 ∨ i = 5 ∨ i = 6 := by omega
      rcases this with rfl | rfl | rfl | rfl | rfl | rfl | rfl <;> rfl
    · rw [if_neg h2, if_neg h2]
  rw [g1, g2]
  exact hk
theorem pack_true (M : Nat) (bs : List Bool) : pack M (bs ++ [true]) = (pack M bs).set (bs.length / 8) ((byteAt bs (bs.length / 8) + 2 ^ (7 - bs.length % 8) : Nat) : Int) := by
  refine List.ext_getElem (by rw [List.length_set, pack_len, pack_len]) fun q h1 h2 => ?_
  rw [List.getElem_set]
  by_cases h : bs.length / 8 = q
  · rw [if_pos h]
    have := (byte_true bs _ rfl).1
    rw [h] at this
    simp only [pack, List.getElem_map, List.getElem_range]
    rw [this, h]
  · rw [if_neg h]
    simp only [pack, List.getElem_map, List.getElem_range]
    unfold byteAt
    rw [val8_congr fun j _ => ?_]
    rw [snoc, if_neg (by omega)]
theorem shr_bit : ∀ n : Nat, n < 64 → ∀ i : Nat, i < 6 → 0 ≤ (IntKind.u64.wrap (5 - (IntKind.u64.wrap (i : Int)))) ∧ (Go.bits .and .i64 (shr .i64 (n : Int) (IntKind.u64.wrap (5 - (IntKind.u64.wrap (i : Int))))) 1 = 1 ↔ bit n i = true) := by decide +kernel
theorem or_bit : ∀ j : Nat, j < 8 → 0 ≤ (IntKind.u64.wrap (7 - (IntKind.u64.wrap (j : Int)))) ∧ ∀ v : Nat, v < 256 → v % 2 ^ (8 - j) = 0 → Go.bits .or .u8 (v : Int) (shl .u8 1 (IntKind.u64.wrap (7 - (IntKind.u64.wrap (j : Int))))) = ((v + 2 ^ (7 - j) : Nat) : Int) := by decide +kernel
theorem l2_step (k : Nat) (L : List Int) (M : Nat) (bs : List Bool) (q n N i : Nat) (hn : n < 64) (hi : i < 6) (hM : M ≤ 1000000) (hq : q ≤ 1000000) (hbs : bs.length = 6 * q + i) :
    carryallref03_Decode.l2 (k + 1) L (pack M bs) (q : Int) (n : Int) (N : Int) (q : Int) (i : Int) = carryallref03_Decode.l2 k L (pack M (bs ++ [bit n i])) (q : Int) (n : Int) (N : Int) (q : Int) ((i + 1 : Nat) : Int) := by
  have w1 : wrap64 (6 * (q : Int)) = ((6 * q : Nat) : Int) := by rw [wrap_in (by omega) (by omega)]; omega
  have w2 : wrap64 (((6 * q : Nat) : Int) + (i : Int)) = ((bs.length : Nat) : Int) := by rw [wrap_in (by omega) (by omega)]; omega
  have w3 : wrap64 (8 * ((pack M bs).length : Int)) = ((8 * M : Nat) : Int) := by rw [pack_len, wrap_in (by omega) (by omega)]; omega
  have w4 : wrap64 ((i : Int) + 1) = ((i + 1 : Nat) : Int) := by rw [wrap_in (by omega) (by omega)]; omega
  have w5 : wrap64 (Int.tdiv ((bs.length : Nat) : Int) 8) = ((bs.length / 8 : Nat) : Int) := by
    rw [Int.tdiv_eq_ediv_of_nonneg (by omega), wrap_in (by omega) (by omega)]; omega
  have w6 : Int.tmod ((bs.length : Nat) : Int) 8 = ((bs.length % 8 : Nat) : Int) := by rw [Int.tmod_eq_emod_of_nonneg (by omega)]; omega
  obtain ⟨s1, s2⟩ := shr_bit n hn i hi
  obtain ⟨o1, o2⟩ := or_bit (bs.length % 8) (by omega)
  obtain ⟨_, b2, b3⟩ := byte_true bs _ rfl
  rw [carryallref03_Decode.l2, if_pos (by omega), w1, w2, w3, w4, w5, w6]
  by_cases h1 : bs.length < 8 * M
  · rw [if_pos (by omega), if_pos s1]
    by_cases h2 : bit n i = true
    · rw [if_pos (s2.2 h2), if_pos (by omega), if_pos (by rw [pack_len]; omega), if_pos o1, Int.toNat_natCast, pack_rd M bs _ (by omega), o2 _ b3 b2, ← pack_true, h2]
    · have h2' : bit n i = false := by simpa using h2
      rw [if_neg (fun h => h2 (s2.1 h)), h2', pack_false]
  · rw [if_neg (by omega), pack_beyond M bs _ (by omega)]
theorem l2_run (k : Nat) (L : List Int) (M : Nat) (bs : List Bool) (q n N : Nat) (hn : n < 64) (hM : M ≤ 1000000) (hq : q ≤ 1000000) (hbs : bs.length = 6 * q) :
    carryallref03_Decode.l2 (k + 7) L (pack M bs) (q : Int) (n : Int) (N : Int) (q : Int) 0 = carryallref03_Decode.l1 k L (pack M (bs ++ bits6 n)) (N : Int) ((q + 1 : Nat) : Int) := by
  have h0 := l2_step (k + 6) L M bs q n N 0 hn (by omega) hM hq (by omega)
  have h1 := l2_step (k + 5) L M (bs ++ [bit n 0]) q n N 1 hn (by omega) hM hq (by simp; omega)
  have h2 := l2_step (k + 4) L M (bs ++ [bit n 0] ++ [bit n 1]) q n N 2 hn (by omega) hM hq (by simp; omega)
  have h3 := l2_step (k + 3) L M (bs ++ [bit n 0] ++ [bit n 1] ++ [bit n 2]) q n N 3 hn (by omega) hM hq (by simp; omega)
  have h4 := l2_step (k + 2) L M (bs ++ [bit n 0] ++ [bit n 1] ++ [bit n 2] ++ [bit n 3]) q n N 4 hn (by omega) hM hq (by simp; omega)
  have h5 := l2_step (k + 1) L M (bs ++ [bit n 0] ++ [bit n 1] ++ [bit n 2] ++ [bit n 3] ++ [bit n 4]) q n N 5 hn (by omega) hM hq (by simp; omega)
  refine h0.trans (h1.trans (h2.trans (h3.trans (h4.trans (h5.trans ?_)))))
  have w : wrap64 ((q : Int) + 1) = ((q + 1 : Nat) : Int) := by rw [wrap_in (by omega) (by omega)]; omega
  rw [carryallref03_Decode.l2, if_neg (by omega), w]
  simp [bits6]
def fin (M : Nat) : List Bool → List Int → List Int × Bool
  | bs, [] => (pack M bs, true)
  | bs, c :: t => if idx c < 0 then ([], false) else fin M (bs ++ bits6 (idx c).toNat) t
theorem idx_lt : ∀ n : Nat, n < 256 → idx (n : Int) < 64 := by decide +kernel
theorem l1_fin (L : List Int) (M : Nat) (hM : M ≤ 1000000) (hL : L.length ≤ 1000000) (hb : ∀ x ∈ L, byte x) : ∀ (d k q : Nat) (bs : List Bool), q + d = L.length → 80 + 9 * d ≤ k → bs.length = 6 * q →
    carryallref03_Decode.l1 k L (pack M bs) (L.length : Int) (q : Int) = some (fin M bs (L.drop q)) := by
  intro d
  induction d with
  | zero =>
    intro k q bs hq hk hbs
    obtain ⟨k, rfl⟩ : ∃ j, k = j + 1 := ⟨k - 1, by omega⟩
    rw [carryallref03_Decode.l1, if_neg (by omega), List.drop_of_length_le (by omega), fin]
  | succ d ih =>
    intro k q bs hq hk hbs
    obtain ⟨k, rfl⟩ : ∃ j, k = j + 8 := ⟨k - 8, by omega⟩
    obtain ⟨b0, b1⟩ := hb (rd L (q : Int)) (by rw [rd_nat L q (by omega)]; exact List.getElem_mem _)
    obtain ⟨c, hc⟩ : ∃ c : Nat, rd L (q : Int) = c := ⟨(rd L (q : Int)).toNat, by omega⟩
    rw [drop_rd L q (by omega), fin, carryallref03_Decode.l1, if_pos (by omega), if_pos (by omega), if_pos (by omega), hc, num_f c (by omega) _ (by omega), Option.bind_some]
    by_cases hx : idx (c : Int) < 0
    · rw [if_pos hx, if_pos hx]
    · rw [if_neg hx, if_neg hx]
      have h64 := idx_lt c (by omega)
      obtain ⟨n, hn⟩ : ∃ n : Nat, idx (c : Int) = n := ⟨(idx (c : Int)).toNat, by omega⟩
      rw [hn, Int.toNat_natCast, l2_run k L M bs q n L.length (by omega) hM (by omega) hbs]
      exact ih k (q + 1) _ (by omega) (by omega) (by rw [List.length_append, hbs]; simp [bits6]; omega)
theorem rep_pack (M : Nat) : List.replicate M (0 : Int) = pack M [] := by
  refine List.ext_getElem (by rw [pack_len]; simp) fun q h1 h2 => ?_
  simp [pack, byteAt, val8, bv]
def refD (l : List Int) : List Int × Bool := if l.length % 4 = 1 then ([], false) else fin (6 * l.length / 8) [] l
theorem j2_f (L : List Int) (k : Nat) (hL : L.length ≤ 100000) (hb : ∀ x ∈ L, byte x) (hk : 1000 + 9 * L.length ≤ k) : carryallref03_Decode.j2 k L = some (refD L) := by
  obtain ⟨k, rfl⟩ : ∃ j, k = j + 1 := ⟨k - 1, by omega⟩
  have w1 : wrap64 (6 * (L.length : Int)) = ((6 * L.length : Nat) : Int) := by rw [wrap_in (by omega) (by omega)]; omega
  have w2 : wrap64 (Int.tdiv ((6 * L.length : Nat) : Int) 8) = ((6 * L.length / 8 : Nat) : Int) := by
    rw [Int.tdiv_eq_ediv_of_nonneg (by omega), wrap_in (by omega) (by omega)]; omega
  unfold refD
  rw [carryallref03_Decode.j2]
  by_cases h : L.length % 4 = 1
  · rw [if_pos (by omega), if_pos h]
  · rw [if_neg (by omega), if_neg h, w1, w2, if_pos (by omega), if_pos (by omega), Int.toNat_natCast, rep_pack]
    exact l1_fin L _ (by omega) (by omega) hb L.length k 0 [] (by omega) (by omega) (by simp)
end Go.Proofs.YtbobbbpjphkooaaDoor.BaT
