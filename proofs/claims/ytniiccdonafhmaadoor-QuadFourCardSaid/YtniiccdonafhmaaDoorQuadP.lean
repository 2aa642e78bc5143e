/- quad's Parse and Ends and the reference's, told by one function over lists of bytes. -/
import Derived.Test.YtniiccdonafhmaaDoorQuad
namespace Go.Proofs.YtniiccdonafhmaaDoor.Quad
open Go.RowKit Go.Proofs.YtniiccdonafhmaaDoor.P Go.Proofs.YtniiccdonafhmaaDoor.Pl Go.Proofs.YtniiccdonafhmaaDoor.Spl Go.Proofs.YtniiccdonafhmaaDoorW.PrintWords Go.Proofs.YtniiccdonafhmaaDoorW.PrintLast Go.Proofs.YtniiccdonafhmaaDoorW.PrintMore
set_option linter.unusedVariables false

/-! the pieces -/
def lst (s : ByteArray) : List ByteArray := (splitL 46 (bytesOf s)).map strOfNums
theorem split_f (s : ByteArray) (hs : s.size ≤ 1000000) : strings_Split.f s ⟨#[46]⟩ = some (lst s) := by
  unfold strings_Split.f
  rw [if_pos ⟨by omega, by decide⟩]
  exact congrArg some (mapB (split_bytes 46 s))
theorem piece_step (s : ByteArray) (f i : Nat) (hf : f ≤ i) (hi : i < s.size) : bytesOf (s.extract f (i + 1)) = bytesOf (s.extract f i) ++ [bt s (i : Int)] := by
  rw [bytes_extract, bytes_extract]
  have h1 : i + 1 - f = (i - f) + 1 := by omega
  have hl : i - f < ((bytesOf s).drop f).length := by rw [List.length_drop, bytesOf_length]; omega
  rw [h1, List.take_succ_eq_append_getElem hl]
  congr 1
  rw [List.getElem_drop]
  have : f + (i - f) = i := by omega
  simp only [this]
  rw [bt_get s i (by rw [bytesOf_length]; exact hi)]
theorem parts_l0 (s : ByteArray) (hs : s.size ≤ 1000000) : ∀ (d i f : Nat) (out : List ByteArray) (k : Nat), s.size - i = d → f ≤ i → i ≤ s.size → d + 2 ≤ k → out.length ≤ i →
    carryallref07_Parts.l0 k s 46 out (f : Int) ((s.size + 1 : Nat) : Int) (i : Int) = some (out ++ (pre (bytesOf (s.extract f i)) (splitL 46 ((bytesOf s).drop i))).map strOfNums) := by
  intro d
  induction d with
  | zero =>
    intro i f out k hd hf hi hk ho
    obtain ⟨k, rfl⟩ : ∃ j, k = j + 2 := ⟨k - 2, by omega⟩
    obtain rfl : i = s.size := by omega
    have hw : wrap64 ((s.size : Int) + 1) = ((s.size + 1 : Nat) : Int) := by rw [wrap_in (by omega) (by omega)]; omega
    rw [carryallref07_Parts.l0, if_pos (by omega), if_pos rfl, if_pos (by omega), if_pos (by omega), if_pos (by omega), if_pos (by omega), hw, carryallref07_Parts.l0, if_neg (by omega), drop_end s _ (Nat.le_refl _), Int.toNat_natCast, Int.toNat_natCast, splitL, pre, List.append_nil, List.map_singleton, str_bytes]
  | succ d ih =>
    intro i f out k hd hf hi hk ho
    obtain ⟨k, rfl⟩ : ∃ j, k = j + 1 := ⟨k - 1, by omega⟩
    have hw : wrap64 ((i : Int) + 1) = ((i + 1 : Nat) : Int) := by rw [wrap_in (by omega) (by omega)]; omega
    rw [carryallref07_Parts.l0, if_pos (by omega), if_neg (by omega), if_pos (by omega), if_pos (by omega), drop_bt s i (by omega), splitL, hw]
    by_cases hc : bt s (i : Int) = 46
    · rw [if_pos hc, if_pos hc, if_pos (by omega), if_pos (by omega), if_pos (by omega), if_pos (by omega), Int.toNat_natCast, Int.toNat_natCast]
      rw [ih (i + 1) (i + 1) _ k (by omega) (by omega) (by omega) (by omega) (by rw [List.length_append, List.length_singleton]; omega)]
      have e0 : bytesOf (s.extract (i + 1) (i + 1)) = [] := by rw [bytes_extract, Nat.sub_self, List.take_zero]
      rw [e0, pre_nil (splitL_ne _ _), pre, List.append_nil, List.map_cons, str_bytes, List.append_assoc, List.singleton_append]
    · rw [if_neg hc, if_neg hc, ih (i + 1) f out k (by omega) (by omega) (by omega) (by omega) (by omega), piece_step s f i hf (by omega), pre_pre]
theorem Parts_f (s : ByteArray) (hs : s.size ≤ 1000000) (k : Nat) (hk : s.size + 3 ≤ k) : carryallref07_Parts.f k s 46 = some (lst s) := by
  unfold carryallref07_Parts.f
  have hw : wrap64 ((s.size : Int) + 1) = ((s.size + 1 : Nat) : Int) := by rw [wrap_in (by omega) (by omega)]; omega
  rw [hw]
  have h := parts_l0 s hs s.size 0 0 [] k (by omega) (by omega) (by omega) (by omega) (by simp)
  refine h.trans ?_
  have e0 : bytesOf (s.extract 0 0) = [] := by rw [bytes_extract, Nat.sub_self, List.take_zero]
  rw [e0, pre_nil (splitL_ne _ _), List.drop_zero, List.nil_append]
  rfl
def partsB (L : List ByteArray) : List ByteArray := if 1 < L.length ∧ bytesOf (L.getLastD ByteArray.empty) = [] then L.take (L.length - 1) else L
theorem rd_last (L : List ByteArray) : rdOf ByteArray.empty L ((L.length - 1 : Nat) : Int) = L.getLastD ByteArray.empty := by
  unfold rdOf
  rw [Int.toNat_natCast, List.getD_eq_getElem?_getD, ← List.getLast?_eq_getElem?]
  exact (List.getLastD_eq_getLast? ..).symm
theorem parts_g (L : List ByteArray) (h : L.length ≤ 2000000) :
    (some L).bind (fun t => (if (t.length : Int) > 1 then (if 0 ≤ (wrap64 ((t.length : Int) - 1)) then (if (wrap64 ((t.length : Int) - 1)) < (t.length : Int) then (if (rdOf ByteArray.empty t (wrap64 ((t.length : Int) - 1))).toList = ([] : List UInt8) then (if (wrap64 ((t.length : Int) - 1)) ≤ (t.length : Int) then (some (t.take ((wrap64 ((t.length : Int) - 1)) : Int).toNat)) else (none)) else (some t)) else (none)) else (none)) else (some t))) = some (partsB L) := by
  rw [Option.bind_some]
  unfold partsB
  by_cases h1 : 1 < L.length
  · have hw : wrap64 ((L.length : Int) - 1) = ((L.length - 1 : Nat) : Int) := by rw [wrap_in (by omega) (by omega)]; omega
    rw [if_pos (by omega), hw, if_pos (by omega), if_pos (by omega), rd_last]
    by_cases h2 : bytesOf (L.getLastD ByteArray.empty) = []
    · rw [if_pos ((nil_iff _).2 h2), if_pos (by omega), if_pos ⟨h1, h2⟩, Int.toNat_natCast]
    · rw [if_neg (fun e => h2 ((nil_iff _).1 e)), if_neg (fun e => h2 e.2)]
  · rw [if_neg (by omega), if_neg (fun e => h1 e.1)]
theorem lst_len (s : ByteArray) : (lst s).length ≤ s.size + 1 := by
  unfold lst
  have := splitL_count 46 (bytesOf s)
  rw [bytesOf_length] at this
  rw [List.length_map]
  exact this
theorem qparts_f (s : ByteArray) (hs : s.size ≤ 1000000) : quad_parts.f s = some (partsB (lst s)) := by
  unfold quad_parts.f
  rw [split_f s hs]
  exact parts_g (lst s) (by have := lst_len s; omega)
theorem rparts_f (s : ByteArray) (hs : s.size ≤ 1000000) (k : Nat) (hk : s.size + 3 ≤ k) : carryallref07_parts.f k s = some (partsB (lst s)) := by
  unfold carryallref07_parts.f
  rw [Parts_f s hs k hk]
  exact parts_g (lst s) (by have := lst_len s; omega)

/-! the address -/
def pw : Nat → Int
  | 0 => 4294967296
  | 1 => 16777216
  | 2 => 65536
  | 3 => 256
  | _ => 1
def parseQ : Nat → Int → List (List Int) → Int × Bool
  | _, out, [] => (out, true)
  | k, out, [p] => match numQ p with
    | none => (0, false)
    | some n => if n ≥ pw k then (0, false) else (out + n, true)
  | k, out, p :: q :: r => match numQ p with
    | none => (0, false)
    | some n => if n > 255 then (0, false) else parseQ (k + 1) (out + n * pw (k + 1)) (q :: r)
theorem drop_L (L : List ByteArray) (k : Nat) (h : k < L.length) : L.drop k = rdOf ByteArray.empty L (k : Int) :: L.drop (k + 1) := by
  rw [List.drop_eq_getElem_cons h]
  congr 1
  unfold rdOf
  rw [Int.toNat_natCast, List.getD_eq_getElem?_getD, List.getElem?_eq_getElem h]
  rfl
theorem pw_pos (k : Nat) : 1 ≤ pw k ∧ pw k ≤ 4294967296 := by
  match k with
  | 0 | 1 | 2 | 3 => decide
  | k + 4 => exact ⟨Int.le_refl _, by show (1 : Int) ≤ 4294967296; decide⟩
theorem shl_one (k : Nat) (h : k < 4) : 0 ≤ wrap64 (8 * wrap64 (4 - (k : Int))) ∧ shl .u64 1 (wrap64 (8 * wrap64 (4 - (k : Int)))) = pw k := by
  have : ∀ k : Nat, k < 4 → 0 ≤ wrap64 (8 * wrap64 (4 - (k : Int))) ∧ shl .u64 1 (wrap64 (8 * wrap64 (4 - (k : Int)))) = pw k := by decide +kernel
  exact this k h
theorem shl_n (k : Nat) (h : k < 4) (n : Int) (h0 : 0 ≤ n) (h1 : n ≤ 255) : 0 ≤ wrap64 (8 * wrap64 (3 - (k : Int))) ∧ shl .u64 n (wrap64 (8 * wrap64 (3 - (k : Int)))) = n * pw (k + 1) := by
  obtain ⟨m, rfl⟩ := Int.eq_ofNat_of_zero_le h0
  have : ∀ k : Nat, k < 4 → ∀ m : Nat, m < 256 → 0 ≤ wrap64 (8 * wrap64 (3 - (k : Int))) ∧ shl .u64 (m : Int) (wrap64 (8 * wrap64 (3 - (k : Int)))) = (m : Int) * pw (k + 1) := by decide +kernel
  exact this k h m (by omega)
theorem pw_step (k : Nat) (h : k < 4) : pw k = 256 * pw (k + 1) := by
  have : ∀ k : Nat, k < 4 → pw k = 256 * pw (k + 1) := by decide
  exact this k h
theorem mul_pw {n : Int} (k : Nat) (h0 : 0 ≤ n) (h1 : n ≤ 255) : 0 ≤ n * pw k ∧ n * pw k ≤ 255 * pw k := by
  have := (pw_pos k).1
  exact ⟨Int.mul_nonneg h0 (by omega), Int.mul_le_mul_of_nonneg_right h1 (by omega)⟩
theorem parse_l0 (L : List ByteArray) (B : Nat) (hB : B ≤ 1000000) (hL : L.length ≤ 4) (hz : ∀ x ∈ L, x.size ≤ B) : ∀ (d k : Nat) (out : Int) (K : Nat), L.length - k = d → k ≤ L.length → 2 * d + B + 10 ≤ K → 0 ≤ out → (d ≠ 0 → out ≤ 4294967296 - pw k) → (d = 0 → out < 4294967296) →
    quad_Parse.l0 K L out L (L.length : Int) (k : Int) = some (parseQ k out ((L.drop k).map bytesOf)) := by
  intro d
  induction d with
  | zero =>
    intro k out K hd hk hK h0 h1 hlt
    obtain ⟨K, rfl⟩ : ∃ j, K = j + 1 := ⟨K - 1, by omega⟩
    rw [quad_Parse.l0, if_neg (by omega), List.drop_eq_nil_of_le (by omega), List.map_nil, parseQ]
    have := hlt rfl
    rw [Int.emod_eq_of_lt h0 this]
  | succ d ih =>
    intro k out K hd hk hK h0 h1 _
    replace h1 := h1 (by omega)
    obtain ⟨K, rfl⟩ : ∃ j, K = j + 2 := ⟨K - 2, by omega⟩
    have hw : wrap64 ((k : Int) + 1) = ((k + 1 : Nat) : Int) := by rw [wrap_in (by omega) (by omega)]; omega
    have hlen : wrap64 ((L.length : Int) - 1) = ((L.length - 1 : Nat) : Int) := by rw [wrap_in (by omega) (by omega)]; omega
    have hp := pw_pos k
    have hmem : rdOf ByteArray.empty L (k : Int) ∈ L := by
      have := drop_L L k (by omega)
      exact List.mem_of_mem_drop (i := k) (by rw [this]; exact List.mem_cons_self)
    have hsz := hz _ hmem
    rw [quad_Parse.l0, if_pos (by omega), if_pos (by omega), if_pos (by omega), num_f _ (by omega) (K + 1) (by omega), Option.bind_some, drop_L L k (by omega), List.map_cons, hlen]
    obtain ⟨s1, s2⟩ := shl_one k (by omega)
    cases hn : numQ (bytesOf (rdOf ByteArray.empty L (k : Int))) with
    | none =>
      rw [if_neg (by simp [ansQ]), quad_Parse.j1, if_pos rfl]
      cases (L.drop (k + 1)).map bytesOf <;> rw [parseQ, hn]
    | some n =>
      have hin := numQ_in hn
      obtain ⟨n0, n1⟩ := hin
      rw [if_pos (show (ansQ (some n)).2 = true from rfl)]
      show (if _ then _ else (if n > 255 then _ else _)) = _
      by_cases hl : k + 1 = L.length
      · have hkl : (k : Int) = ((L.length - 1 : Nat) : Int) := by omega
        rw [if_pos hkl, if_pos hkl, if_pos s1, s2, List.drop_eq_nil_of_le (show L.length ≤ k + 1 by omega), List.map_nil, parseQ, hn]
        show quad_Parse.j1 _ _ _ _ n _ _ _ _ (decide (n ≥ pw k)) = _
        rw [quad_Parse.j1]
        by_cases hg : n ≥ pw k
        · rw [decide_eq_true hg, if_pos rfl]; simp [hg]
        · rw [decide_eq_false hg, if_neg Bool.false_ne_true, beq_iff_eq.2 hkl, if_pos rfl, IntWalk.u64_in _ (by omega), hw, ih (k + 1) (out + n) K (by omega) (by omega) (by omega) (by omega) (by omega) (by omega), List.drop_eq_nil_of_le (show L.length ≤ k + 1 by omega), List.map_nil, parseQ]
          simp [hg]
      · have hkl : ¬ (k : Int) = ((L.length - 1 : Nat) : Int) := by omega
        rw [if_neg hkl, if_neg hkl, drop_L L (k + 1) (by omega), List.map_cons, parseQ, hn]
        by_cases hg : n > 255
        · rw [if_pos hg, quad_Parse.j1, if_pos rfl]; simp [hg]
        · obtain ⟨t1, t2⟩ := shl_n k (by omega) n n0 (by omega)
          obtain ⟨m0, m1⟩ := mul_pw (k + 1) n0 (show n ≤ 255 by omega)
          have ps := pw_step k (by omega)
          have pp := pw_pos (k + 1)
          show (if n > 255 then _ else quad_Parse.j1 _ _ _ _ n _ _ _ _ _) = _
          rw [if_neg hg, quad_Parse.j1, if_neg Bool.false_ne_true, beq_false_of_ne hkl, if_neg Bool.false_ne_true, if_pos t1, t2, IntWalk.u64_in _ (by omega), hw, ih (k + 1) (out + n * pw (k + 1)) K (by omega) (by omega) (by omega) (by omega) (by omega) (by omega), drop_L L (k + 1) (by omega), List.map_cons]
          simp [hg]
theorem rparse_l0 (L : List ByteArray) (B : Nat) (hB : B ≤ 1000000) (hL : L.length ≤ 4) (hz : ∀ x ∈ L, x.size ≤ B) : ∀ (d k : Nat) (out : Int) (K : Nat), L.length - k = d → k ≤ L.length → 2 * d + 2 * B + 30 ≤ K → 0 ≤ out → (d ≠ 0 → out ≤ 4294967296 - pw k) → (d = 0 → out < 4294967296) → ∀ most, (d ≠ 0 → most = pw k) →
    carryallref07_Parse.l0 K L most out (L.length : Int) (k : Int) = some (parseQ k out ((L.drop k).map bytesOf)) := by
  intro d
  induction d with
  | zero =>
    intro k out K hd hk hK h0 h1 hlt most _
    obtain ⟨K, rfl⟩ : ∃ j, K = j + 1 := ⟨K - 1, by omega⟩
    rw [carryallref07_Parse.l0, if_neg (by omega), List.drop_eq_nil_of_le (by omega), List.map_nil, parseQ]
    have := hlt rfl
    rw [Int.emod_eq_of_lt h0 this]
  | succ d ih =>
    intro k out K hd hk hK h0 h1 _ most hmo
    replace h1 := h1 (by omega)
    obtain rfl := hmo (by omega)
    obtain ⟨K, rfl⟩ : ∃ j, K = j + 1 := ⟨K - 1, by omega⟩
    have hw : wrap64 ((k : Int) + 1) = ((k + 1 : Nat) : Int) := by rw [wrap_in (by omega) (by omega)]; omega
    have hlen : wrap64 ((L.length : Int) - 1) = ((L.length - 1 : Nat) : Int) := by rw [wrap_in (by omega) (by omega)]; omega
    have hp := pw_pos k
    have hmem : rdOf ByteArray.empty L (k : Int) ∈ L := by
      have := drop_L L k (by omega)
      exact List.mem_of_mem_drop (i := k) (by rw [this]; exact List.mem_cons_self)
    have hsz := hz _ hmem
    obtain ⟨r, hr1, hr2⟩ := rnum_f (rdOf ByteArray.empty L (k : Int)) (by omega) K (by omega)
    rw [carryallref07_Parse.l0, if_pos (by omega), if_pos (by omega), if_pos (by omega), hr1, Option.bind_some, drop_L L k (by omega), List.map_cons, hlen]
    try rw [hw]
    cases hn : numQ (bytesOf (rdOf ByteArray.empty L (k : Int))) with
    | none =>
      rw [hn] at hr2
      rw [if_pos (by have : r = -1 := hr2; omega)]
      cases (L.drop (k + 1)).map bytesOf <;> rw [parseQ, hn]
    | some n =>
      rw [hn] at hr2
      obtain ⟨r0, r1⟩ := hr2
      obtain ⟨n0, n1⟩ := numQ_in hn
      have hrn : n = if 4294967296 < r then 4294967296 else r := r1.symm
      rw [if_neg (by omega)]
      by_cases hl : k + 1 = L.length
      · rw [if_neg (by omega), List.drop_eq_nil_of_le (show L.length ≤ k + 1 by omega), List.map_nil, parseQ, hn]
        by_cases hg : r ≥ pw k
        · rw [if_pos hg]
          have : n ≥ pw k := by rw [hrn]; split <;> omega
          simp [this]
        · have hnr : n = r := by rw [hrn, if_neg (by omega)]
          subst hnr
          rw [if_neg hg, wrap_in (by omega) (by omega), ih (k + 1) (out + n) K (by omega) (by omega) (by omega) (by omega) (by omega) (by omega) _ (by omega), List.drop_eq_nil_of_le (show L.length ≤ k + 1 by omega), List.map_nil, parseQ]
          simp [hg]
      · rw [if_pos (by omega), drop_L L (k + 1) (by omega), List.map_cons, parseQ, hn]
        by_cases hg : r > 255
        · rw [if_pos hg]
          have : n > 255 := by rw [hrn]; split <;> omega
          simp [this]
        · have hnr : n = r := by rw [hrn, if_neg (by omega)]
          subst hnr
          obtain ⟨m0, m1⟩ := mul_pw (k + 1) n0 (show n ≤ 255 by omega)
          have ps := pw_step k (by omega)
          have pp := pw_pos (k + 1)
          have hdv : wrap64 (Int.tdiv (pw k) 256) = pw (k + 1) := by
            rw [ps, Int.mul_comm, Int.mul_tdiv_cancel _ (by decide), wrap_in (by omega) (by omega)]
          rw [if_neg hg, hdv, wrap_in (n := n * pw (k + 1)) (by omega) (by omega), wrap_in (by omega) (by omega), ih (k + 1) (out + n * pw (k + 1)) K (by omega) (by omega) (by omega) (by omega) (by omega) (by omega) _ (fun _ => rfl), drop_L L (k + 1) (by omega), List.map_cons]
          simp [hg]
def addrQ (s : ByteArray) : Int × Bool := if (partsB (lst s)).length > 4 then (0, false) else parseQ 0 0 ((partsB (lst s)).map bytesOf)
theorem str_mem {x : ByteArray} {L : List (List Int)} (h : x ∈ L.map strOfNums) : ∃ p ∈ L, x = strOfNums p := by
  obtain ⟨p, hp, rfl⟩ := List.mem_map.1 h
  exact ⟨p, hp, rfl⟩
theorem parts_size (s : ByteArray) : ∀ x ∈ partsB (lst s), x.size ≤ s.size := by
  intro x hx
  have : x ∈ lst s := by
    unfold partsB at hx
    split at hx
    · exact List.mem_of_mem_take hx
    · exact hx
  obtain ⟨p, hp, rfl⟩ := str_mem this
  rw [size_str, ← bytesOf_length]
  exact splitL_len 46 _ p hp
theorem parts_ne (s : ByteArray) : partsB (lst s) ≠ [] := by
  have h1 : 0 < (lst s).length := by
    unfold lst
    rw [List.length_map]
    exact List.length_pos_iff.2 (splitL_ne _ _)
  intro e
  have h2 := congrArg List.length e
  rw [List.length_nil] at h2
  unfold partsB at h2
  split at h2
  · rename_i hh
    rw [List.length_take] at h2
    have := hh.1
    omega
  · omega
theorem parts_pos (s : ByteArray) : 0 < (partsB (lst s)).length := List.length_pos_iff.2 (parts_ne s)
theorem parse_f (s : ByteArray) (hs : s.size ≤ 1000000) (k : Nat) (hk : 2 * s.size + 60 ≤ k) : quad_Parse.f k s = some (addrQ s) := by
  unfold quad_Parse.f addrQ
  rw [qparts_f s hs, Option.bind_some]
  have hp := parts_pos s
  by_cases h : (partsB (lst s)).length > 4
  · rw [if_pos (by omega), if_pos h]
  · rw [if_neg (by omega), if_neg h]
    have := parse_l0 (partsB (lst s)) s.size hs (by omega) (parts_size s) _ 0 0 k rfl (by omega) (by omega) (by omega) (fun _ => by decide) (by omega)
    rw [List.drop_zero] at this
    exact this
theorem rparse_f (s : ByteArray) (hs : s.size ≤ 1000000) (k : Nat) (hk : 2 * s.size + 60 ≤ k) : carryallref07_Parse.f k s = some (addrQ s) := by
  unfold carryallref07_Parse.f addrQ
  rw [rparts_f s hs k (by omega), Option.bind_some]
  have hp := parts_pos s
  by_cases h : (partsB (lst s)).length > 4
  · rw [if_pos (by omega), if_pos h]
  · rw [if_neg (by omega), if_neg h]
    have := rparse_l0 (partsB (lst s)) s.size hs (by omega) (parts_size s) _ 0 0 k rfl (by omega) (by omega) (by omega) (fun _ => by decide) (by omega) 4294967296 (fun _ => rfl)
    rw [List.drop_zero] at this
    exact this

/-! the end -/
def endQ (p : List Int) : Bool := (p != [] && p.all digB) || (numQ p).isSome
theorem ends_l0 (s : ByteArray) (hs : s.size ≤ 1000000) : ∀ (d i : Nat) (b : Bool) (k : Nat), s.size - i = d → i ≤ s.size → d + s.size + 6 ≤ k →
    quad_Ends.l0 k s b (s.size : Int) (i : Int) = some ((b && ((bytesOf s).drop i).all digB) || (numQ (bytesOf s)).isSome) := by
  intro d
  induction d with
  | zero =>
    intro i b k hd hi hk
    obtain ⟨k, rfl⟩ : ∃ j, k = j + 1 := ⟨k - 1, by omega⟩
    rw [quad_Ends.l0, if_neg (by omega), num_f s (by omega) k (by omega), Option.bind_some, drop_end s i (by omega)]
    cases b <;> cases numQ (bytesOf s) <;> rfl
  | succ d ih =>
    intro i b k hd hi hk
    obtain ⟨k, rfl⟩ : ∃ j, k = j + 1 := ⟨k - 1, by omega⟩
    have hw : wrap64 ((i : Int) + 1) = ((i + 1 : Nat) : Int) := by rw [wrap_in (by omega) (by omega)]; omega
    rw [quad_Ends.l0, if_pos (by omega), hw, drop_bt s i (by omega), List.all_cons]
    cases b
    · rw [if_neg Bool.false_ne_true, ih (i + 1) false k (by omega) (by omega) (by omega), Bool.false_and, Bool.false_and]
    · rw [if_pos rfl, if_pos (by omega), if_pos (by omega), dig_f, Option.bind_some, ih (i + 1) _ k (by omega) (by omega) (by omega), Bool.true_and]
theorem rends_l0 (s : ByteArray) (hs : s.size ≤ 1000000) : ∀ (d i : Nat) (b : Bool) (k : Nat), s.size - i = d → i ≤ s.size → d + 2 * s.size + 30 ≤ k →
    carryallref07_Ends.l0 k s b (s.size : Int) (i : Int) = some ((b && ((bytesOf s).drop i).all digB) || (numQ (bytesOf s)).isSome) := by
  intro d
  induction d with
  | zero =>
    intro i b k hd hi hk
    obtain ⟨k, rfl⟩ : ∃ j, k = j + 1 := ⟨k - 1, by omega⟩
    obtain ⟨r, h1, h2⟩ := rnum_f s (by omega) k (by omega)
    rw [carryallref07_Ends.l0, if_neg (by omega), drop_end s i (by omega)]
    cases b
    · rw [if_neg Bool.false_ne_true, h1, Option.bind_some]
      cases hq : numQ (bytesOf s) with
      | none => rw [hq] at h2; have : r = -1 := h2; rw [decide_eq_false (by omega)]; rfl
      | some v => rw [hq] at h2; rw [decide_eq_true (show r ≥ 0 from h2.1)]; rfl
    · rw [if_pos rfl]; rfl
  | succ d ih =>
    intro i b k hd hi hk
    obtain ⟨k, rfl⟩ : ∃ j, k = j + 1 := ⟨k - 1, by omega⟩
    have hw : wrap64 ((i : Int) + 1) = ((i + 1 : Nat) : Int) := by rw [wrap_in (by omega) (by omega)]; omega
    rw [carryallref07_Ends.l0, if_pos (by omega), hw, drop_bt s i (by omega), List.all_cons]
    cases b
    · rw [if_neg Bool.false_ne_true, ih (i + 1) false k (by omega) (by omega) (by omega), Bool.false_and, Bool.false_and]
    · rw [if_pos rfl, if_pos (by omega), if_pos (by omega), rdig_f, Option.bind_some, ih (i + 1) _ k (by omega) (by omega) (by omega), Bool.true_and]
def endS (s : ByteArray) : Bool := endQ (bytesOf ((partsB (lst s)).getLastD ByteArray.empty))
theorem ne_nil (s : ByteArray) : (s.toList != ([] : List UInt8)) = (bytesOf s != []) := by
  by_cases h : bytesOf s = []
  · rw [h, (nil_iff s).2 h]; rfl
  · have h2 : ¬ s.toList = [] := fun e => h ((nil_iff s).1 e)
    rw [bne_iff_ne.2 h, bne_iff_ne.2 h2]
theorem last_mem (s : ByteArray) : (partsB (lst s)).getLastD ByteArray.empty ∈ partsB (lst s) := by
  cases h : partsB (lst s) with
  | nil => exact absurd h (parts_ne s)
  | cons a t =>
    have : (a :: t).getLastD ByteArray.empty = (a :: t).getLast (by simp) := by simp [List.getLastD_eq_getLast?, List.getLast?_eq_some_getLast]
    rw [this]
    exact List.getLast_mem _
theorem ends_f (s : ByteArray) (hs : s.size ≤ 1000000) (k : Nat) (hk : 3 * s.size + 60 ≤ k) : quad_Ends.f k s = some (endS s) := by
  unfold quad_Ends.f endS endQ
  have hp := parts_pos s
  have hl : (partsB (lst s)).length ≤ 2000000 := by
    have h1 := lst_len s
    have : (partsB (lst s)).length ≤ (lst s).length := by
      unfold partsB
      split
      · rw [List.length_take]; omega
      · exact Nat.le_refl _
    omega
  have hw : wrap64 (((partsB (lst s)).length : Int) - 1) = (((partsB (lst s)).length - 1 : Nat) : Int) := by rw [wrap_in (by omega) (by omega)]; omega
  rw [qparts_f s hs, Option.bind_some, hw, if_pos (by omega), if_pos (by omega), rd_last]
  have hz := parts_size s _ (last_mem s)
  generalize (partsB (lst s)).getLastD ByteArray.empty = x at *
  have := ends_l0 x (by omega) x.size 0 (x.toList != []) k (by omega) (by omega) (by omega)
  rw [List.drop_zero] at this
  rw [← ne_nil]
  exact this
theorem rends_f (s : ByteArray) (hs : s.size ≤ 1000000) (k : Nat) (hk : 3 * s.size + 60 ≤ k) : carryallref07_Ends.f k s = some (endS s) := by
  unfold carryallref07_Ends.f endS endQ
  have hp := parts_pos s
  have hl : (partsB (lst s)).length ≤ 2000000 := by
    have h1 := lst_len s
    have : (partsB (lst s)).length ≤ (lst s).length := by
      unfold partsB
      split
      · rw [List.length_take]; omega
      · exact Nat.le_refl _
    omega
  have hw : wrap64 (((partsB (lst s)).length : Int) - 1) = (((partsB (lst s)).length - 1 : Nat) : Int) := by rw [wrap_in (by omega) (by omega)]; omega
  rw [rparts_f s hs k (by omega), Option.bind_some, hw, if_pos (by omega), if_pos (by omega), rd_last]
  have hz := parts_size s _ (last_mem s)
  generalize (partsB (lst s)).getLastD ByteArray.empty = x at *
  have := rends_l0 x (by omega) x.size 0 (x.toList != []) k (by omega) (by omega) (by omega)
  rw [List.drop_zero] at this
  rw [← ne_nil]
  exact this
end Go.Proofs.YtniiccdonafhmaaDoor.Quad
