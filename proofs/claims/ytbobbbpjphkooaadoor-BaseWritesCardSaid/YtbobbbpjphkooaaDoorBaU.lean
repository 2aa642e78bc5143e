/- base.Decode's fold over the letters and the reference's bits: the same bytes. -/
import Derived.Test.YtbobbbpjphkooaaDoorBaT
namespace Go.Proofs.YtbobbbpjphkooaaDoor.BaU
open Go.RowKit Go.Proofs.YtbobbbpjphkooaaDoor.P Go.Proofs.YtbobbbpjphkooaaDoor.Pl Go.Proofs.YtbobbbpjphkooaaDoor.BaG Go.Proofs.YtbobbbpjphkooaaDoor.BaR Go.Proofs.YtbobbbpjphkooaaDoor.BaT Go.Proofs.YtbobbbpjphkooaaDoorW.PrintWords Go.Proofs.YtbobbbpjphkooaaDoorW.PrintLast Go.Proofs.YtbobbbpjphkooaaDoorW.PrintMore
theorem stp_eq (b x : Nat) (hb : b < 65536) (hx : x < 64) : stp (b : Int) (x : Int) = ((64 * (b % 1024) + x : Nat) : Int) := by
  have w64 : ∀ n : Int, 0 ≤ n → n < 2 ^ 63 → IntKind.u64.wrap n = n := fun n h0 h1 => by
    simp [IntKind.wrap, IntKind.bits, IntKind.signed]
    omega
  unfold stp
  have h1 := bits_mask .u64 63 (by decide) w64 16 (by decide) ((b : Int) * 64) (by omega) (by omega)
  rw [w64 _ (by omega) (by omega), w64 _ (by omega) (by omega), show (65535 : Int) = 2 ^ 16 - 1 by decide, h1, bits_join .u64 63 (by decide) w64 6 _ _ (by omega) (by omega) (by omega) (by omega) (by omega) (by omega)]
  omega
theorem shr_eq (v : Nat) (s : Nat) (hs : s ≤ 64) : shr .u64 (v : Int) (s : Int) = ((v / 2 ^ s : Nat) : Int) := by
  unfold shr
  rw [Int.toNat_natCast, Nat.min_eq_left (by exact hs)]
  simp
/-- The four states of the fold. -/
theorem go0 (c : Int) (t acc : List Int) (b x : Nat) (hb : b < 65536) (hx : x < 64) (h : idx c = x) : go (c :: t) acc (b : Int) 0 = go t acc ((64 * (b % 1024) + x : Nat) : Int) 6 := by
  rw [go, h, if_neg (by omega), if_neg (by omega), stp_eq b x hb hx]
theorem go1 (c : Int) (t acc : List Int) (b x n : Nat) (hb : b < 65536) (hx : x < 64) (hn : 2 ≤ n) (hn8 : n < 8) (h : idx c = x) : go (c :: t) acc (b : Int) n = go t (acc ++ [(((64 * (b % 1024) + x) / 2 ^ (n - 2) % 256 : Nat) : Int)]) ((64 * (b % 1024) + x : Nat) : Int) (n - 2) := by
  rw [go, h, if_neg (by omega), if_pos (by omega), stp_eq b x hb hx, shr_eq _ _ (by omega)]
  simp
def bitsOf (l : List Int) : List Bool := l.flatMap fun c => bits6 (idx c).toNat
theorem v0 : ∀ a : Nat, a < 64 → ∀ b : Nat, b < 64 → (val8 fun j => (bits6 a ++ bits6 b).getD j false) = 4 * a + b / 16 := by decide +kernel
theorem v1 : ∀ a : Nat, a < 64 → ∀ b : Nat, b < 64 → (val8 fun j => (bits6 a ++ bits6 b).getD (j + 2) false) = a % 16 * 16 + b / 4 := by decide +kernel
theorem v2 : ∀ a : Nat, a < 64 → ∀ b : Nat, b < 64 → (val8 fun j => (bits6 a ++ bits6 b).getD (j + 4) false) = a % 4 * 64 + b := by decide +kernel
theorem p4 (a b c d M : Nat) (r : List Bool) (ha : a < 64) (hb : b < 64) (hc : c < 64) (hd : d < 64) : pack (3 + M) (bits6 a ++ (bits6 b ++ (bits6 c ++ (bits6 d ++ r)))) = [((4 * a + b / 16 : Nat) : Int), ((b % 16 * 16 + c / 4 : Nat) : Int), ((c % 4 * 64 + d : Nat) : Int)] ++ pack M r := by
  unfold pack
  rw [List.range_add, List.map_append, List.map_map]
  congr 1
  · rw [← v0 a ha b hb, ← v1 b hb c hc, ← v2 c hc d hd]
    rfl
  · refine List.map_congr_left fun q _ => ?_
    show ((byteAt _ (3 + q) : Nat) : Int) = _
    unfold byteAt
    rw [val8_congr fun j _ => ?_]
    rw [show 8 * (3 + q) + j = (8 * q + j) + 24 by omega]
    rfl
theorem p3 (a b c : Nat) (ha : a < 64) (hb : b < 64) (hc : c < 64) : pack 2 (bits6 a ++ (bits6 b ++ bits6 c)) = [((4 * a + b / 16 : Nat) : Int), ((b % 16 * 16 + c / 4 : Nat) : Int)] := by
  rw [← v0 a ha b hb, ← v1 b hb c hc]
  rfl
theorem p2 (a b : Nat) (ha : a < 64) (hb : b < 64) : pack 1 (bits6 a ++ bits6 b) = [((4 * a + b / 16 : Nat) : Int)] := by
  rw [← v0 a ha b hb]
  rfl
def Fine (l : List Int) : Prop := ∀ c ∈ l, ∃ x : Nat, idx c = x ∧ x < 64
theorem go_pack : ∀ (n : Nat) (l acc : List Int) (b : Nat), l.length ≤ n → Fine l → b < 65536 → l.length % 4 ≠ 1 → go l acc (b : Int) 0 = (acc ++ pack (6 * l.length / 8) (bitsOf l), true)
  | _, [], acc, b, _, _, _, _ => by simp [go, pack]
  | _, [c], acc, b, _, _, _, h4 => by simp at h4
  | _, [c0, c1], acc, b, _, hf, hb, _ => by
    obtain ⟨x0, i0, l0⟩ := hf c0 (by simp)
    obtain ⟨x1, i1, l1⟩ := hf c1 (by simp)
    rw [go0 c0 _ acc b x0 hb l0 i0, go1 c1 _ acc _ x1 6 (by omega) l1 (by omega) (by omega) i1, go]
    have e : bitsOf [c0, c1] = bits6 x0 ++ bits6 x1 := by simp [bitsOf, i0, i1]
    rw [e, show 6 * [c0, c1].length / 8 = 1 by simp only [List.length_cons, List.length_nil], p2 x0 x1 l0 l1]
    rw [show (64 * ((64 * (b % 1024) + x0) % 1024) + x1) / 2 ^ (6 - 2) % 256 = 4 * x0 + x1 / 16 by omega]
  | _, [c0, c1, c2], acc, b, _, hf, hb, _ => by
    obtain ⟨x0, i0, l0⟩ := hf c0 (by simp)
    obtain ⟨x1, i1, l1⟩ := hf c1 (by simp)
    obtain ⟨x2, i2, l2⟩ := hf c2 (by simp)
    rw [go0 c0 _ acc b x0 hb l0 i0, go1 c1 _ acc _ x1 6 (by omega) l1 (by omega) (by omega) i1, go1 c2 _ _ _ x2 (6 - 2) (by omega) l2 (by omega) (by omega) i2, go]
    have e : bitsOf [c0, c1, c2] = bits6 x0 ++ (bits6 x1 ++ bits6 x2) := by simp [bitsOf, i0, i1, i2]
    rw [e, show 6 * [c0, c1, c2].length / 8 = 2 by simp only [List.length_cons, List.length_nil], p3 x0 x1 x2 l0 l1 l2, List.append_assoc]
    rw [show (64 * ((64 * (b % 1024) + x0) % 1024) + x1) / 2 ^ (6 - 2) % 256 = 4 * x0 + x1 / 16 by omega, show (64 * ((64 * ((64 * (b % 1024) + x0) % 1024) + x1) % 1024) + x2) / 2 ^ (6 - 2 - 2) % 256 = x1 % 16 * 16 + x2 / 4 by omega]
    rfl
  | 0, c0 :: c1 :: c2 :: c3 :: t, acc, b, h, _, _, _ => by simp at h
  | n + 1, c0 :: c1 :: c2 :: c3 :: t, acc, b, hn, hf, hb, h4 => by
    obtain ⟨x0, i0, l0⟩ := hf c0 (by simp)
    obtain ⟨x1, i1, l1⟩ := hf c1 (by simp)
    obtain ⟨x2, i2, l2⟩ := hf c2 (by simp)
    obtain ⟨x3, i3, l3⟩ := hf c3 (by simp)
    simp only [List.length_cons] at hn h4
    have ih := fun acc b hb => go_pack n t acc b (by omega) (fun c hc => hf c (by simp [hc])) hb (by omega)
    rw [go0 c0 _ acc b x0 hb l0 i0, go1 c1 _ acc _ x1 6 (by omega) l1 (by omega) (by omega) i1, go1 c2 _ _ _ x2 (6 - 2) (by omega) l2 (by omega) (by omega) i2, go1 c3 _ _ _ x3 (6 - 2 - 2) (by omega) l3 (by omega) (by omega) i3]
    have e : bitsOf (c0 :: c1 :: c2 :: c3 :: t) = bits6 x0 ++ (bits6 x1 ++ (bits6 x2 ++ (bits6 x3 ++ bitsOf t))) := by simp [bitsOf, i0, i1, i2, i3]
    have e2 : 6 * (c0 :: c1 :: c2 :: c3 :: t).length / 8 = 3 + 6 * t.length / 8 := by simp only [List.length_cons]; omega
    rw [e, e2, p4 x0 x1 x2 x3 _ _ l0 l1 l2 l3]
    refine (ih _ _ (by omega)).trans ?_
    rw [show (64 * ((64 * (b % 1024) + x0) % 1024) + x1) / 2 ^ (6 - 2) % 256 = 4 * x0 + x1 / 16 by omega, show (64 * ((64 * ((64 * (b % 1024) + x0) % 1024) + x1) % 1024) + x2) / 2 ^ (6 - 2 - 2) % 256 = x1 % 16 * 16 + x2 / 4 by omega, show (64 * ((64 * ((64 * ((64 * (b % 1024) + x0) % 1024) + x1) % 1024) + x2) % 1024) + x3) / 2 ^ (6 - 2 - 2 - 2) % 256 = x2 % 4 * 64 + x3 by omega]
    simp [List.append_assoc]
theorem fin_pack (M : Nat) : ∀ (l : List Int) (bs : List Bool), Fine l → fin M bs l = (pack M (bs ++ bitsOf l), true)
  | [], bs, _ => by simp [fin, bitsOf]
  | c :: t, bs, hf => by
    obtain ⟨x, i, _⟩ := hf c List.mem_cons_self
    have ih := fin_pack M t (bs ++ bits6 (idx c).toNat) fun c hc => hf c (List.mem_cons_of_mem _ hc)
    rw [fin, if_neg (by omega), ih]
    simp [bitsOf, List.append_assoc]
theorem fin_bad (M : Nat) : ∀ (l : List Int) (bs : List Bool), (∃ c ∈ l, idx c < 0) → fin M bs l = ([], false)
  | [], _, h => by obtain ⟨c, hc, _⟩ := h; cases hc
  | c :: t, bs, h => by
    rw [fin]
    by_cases hx : idx c < 0
    · rw [if_pos hx]
    · rw [if_neg hx]
      refine fin_bad M t _ ?_
      obtain ⟨x, hx1, hx2⟩ := h
      rcases List.mem_cons.1 hx1 with rfl | hx1
      · exact absurd hx2 hx
      · exact ⟨x, hx1, hx2⟩
theorem fine_or (l : List Int) (hb : ∀ x ∈ l, byte x) : Fine l ∨ ∃ c ∈ l, idx c < 0 := by
  by_cases h : ∃ c ∈ l, idx c < 0
  · exact .inr h
  · refine .inl fun c hc => ?_
    obtain ⟨b0, b1⟩ := hb c hc
    have h0 : ¬ idx c < 0 := fun hh => h ⟨c, hc, hh⟩
    have h1 := idx_lt c.toNat (by omega)
    rw [Int.toNat_of_nonneg b0] at h1
    exact ⟨(idx c).toNat, by omega, by omega⟩
theorem dec_ref (l : List Int) (hb : ∀ x ∈ l, byte x) : decB l = refD l := by
  unfold decB refD
  by_cases h : l.length % 4 = 1
  · rw [if_pos h, if_pos h]
  · rw [if_neg h, if_neg h]
    rcases fine_or l hb with hf | hx
    · rw [fin_pack _ l [] hf]
      have := go_pack l.length l [] 0 (Nat.le_refl _) hf (by omega) h
      simpa using this
    · rw [fin_bad _ l [] hx, go_bad l [] 0 0 hx]
end Go.Proofs.YtbobbbpjphkooaaDoor.BaU
