/- The reference's Decode of any text, whole; base.Decode makes the same of it. -/
import Derived.Test.YtbobbbpjphkooaaDoorBaU
import Derived.Test.YtbobbbpjphkooaaDoorBaS
namespace Go.Proofs.YtbobbbpjphkooaaDoor.BaV
open Go.RowKit Go.Proofs.YtbobbbpjphkooaaDoor.P Go.Proofs.YtbobbbpjphkooaaDoor.Pl Go.Proofs.YtbobbbpjphkooaaDoor.Mp Go.Proofs.YtbobbbpjphkooaaDoor.BaD Go.Proofs.YtbobbbpjphkooaaDoor.BaG Go.Proofs.YtbobbbpjphkooaaDoor.BaP2 Go.Proofs.YtbobbbpjphkooaaDoor.BaT Go.Proofs.YtbobbbpjphkooaaDoor.BaU Go.Proofs.YtbobbbpjphkooaaDoorW.PrintWords Go.Proofs.YtbobbbpjphkooaaDoorW.PrintLast Go.Proofs.YtbobbbpjphkooaaDoorW.PrintMore
def fl (l : List Int) : List Int := l.filter fun c => !Mp.blank c
def refTrim (l : List Int) : List Int := if 0 < l.length ∧ l.length % 4 = 0 ∧ rd l ((l.length - 1 : Nat) : Int) = 61 then (if rd (l.take (l.length - 1)) ((l.length - 2 : Nat) : Int) = 61 then (l.take (l.length - 1)).take (l.length - 2) else l.take (l.length - 1)) else l
theorem last_iff (l : List Int) : (0 < l.length ∧ rd l ((l.length - 1 : Nat) : Int) = 61) ↔ ∃ q, l = q ++ [61] := by
  constructor
  · rintro ⟨h0, h1⟩
    refine ⟨l.take (l.length - 1), ?_⟩
    rw [← h1, rd_nat l _ (by omega)]
    conv => lhs; rw [← List.take_append_drop (l.length - 1) l, List.drop_eq_getElem_cons (show l.length - 1 < l.length by omega), List.drop_of_length_le (by omega)]
  · rintro ⟨q, rfl⟩
    refine ⟨by simp, ?_⟩
    rw [rd_nat _ _ (by simp)]
    simp
theorem bytes_def (t : ByteArray) : bytesOf t = t.data.toList.map fun b => (b.toNat : Int) := rfl
theorem eqEnd_iff (t : ByteArray) : eqEnd t = true ↔ ∃ q, bytesOf t = q ++ [61] := by
  unfold eqEnd
  constructor
  · intro h
    obtain ⟨q, hq⟩ := List.isSuffixOf_iff_suffix.1 h
    exact ⟨q.map fun b => (b.toNat : Int), by rw [bytes_def, ← hq, List.map_append]; rfl⟩
  · rintro ⟨q, hq⟩
    refine List.isSuffixOf_iff_suffix.2 ⟨q.map fun n => UInt8.ofNat n.toNat, ?_⟩
    have := data_of_bytes t
    rw [ByteArray.toList_eq] at this
    rw [this, hq, List.map_append]
    rfl
theorem bytes_cut1 (t : ByteArray) : bytesOf (cut1 t) = (bytesOf t).take (t.size - 1) := bytes_to t _
theorem trim_f (t : ByteArray) : bytesOf (trimEq t) = refTrim (bytesOf t) := by
  unfold trimEq refTrim
  have hz : (bytesOf t).length = t.size := bytesOf_length t
  have hi := eqEnd_iff t
  have hj := last_iff (bytesOf t)
  rw [hz] at hj ⊢
  by_cases h : t.size % 4 = 0 ∧ eqEnd t = true
  · obtain ⟨p0, p1⟩ := hj.2 (hi.1 h.2)
    rw [if_pos h, if_pos (show 0 < t.size ∧ t.size % 4 = 0 ∧ rd (bytesOf t) ((t.size - 1 : Nat) : Int) = 61 from ⟨p0, h.1, p1⟩)]
    have hi2 := eqEnd_iff (cut1 t)
    have hj2 := last_iff (bytesOf (cut1 t))
    have e : (bytesOf (cut1 t)).length = t.size - 1 := by rw [bytes_cut1, List.length_take, hz]; omega
    rw [e, show t.size - 1 - 1 = t.size - 2 by omega] at hj2
    have hz2 : (cut1 t).size = t.size - 1 := by rw [← e, bytesOf_length]
    by_cases h2 : eqEnd (cut1 t) = true
    · have := (hj2.2 (hi2.1 h2)).2
      rw [bytes_cut1] at this
      rw [if_pos h2, if_pos this, bytes_cut1, bytes_cut1, hz2, show t.size - 1 - 1 = t.size - 2 by omega]
    · rw [if_neg h2, if_neg (fun hh => h2 (hi2.2 (hj2.1 ⟨by omega, by rw [bytes_cut1]; exact hh⟩))), bytes_cut1]
  · rw [if_neg h, if_neg (fun hh => h ⟨hh.2.1, hi.2 (hj.1 ⟨hh.1, hh.2.2⟩)⟩)]
theorem blank_f (s : ByteArray) (hl : ∀ b ∈ s.data.toList, b.toNat < 128) : bytesOf (blankless s) = fl (bytesOf s) := by
  rw [bytes_def, blank_data, mapD_low _ hl, bytes_def]
  unfold fl
  rw [List.filter_map]
  rfl
theorem bytes_byte (s : ByteArray) : ∀ x ∈ bytesOf s, byte x := by
  intro x hx
  rw [bytes_def] at hx
  obtain ⟨b, _, rfl⟩ := List.mem_map.1 hx
  have := b.toNat_lt
  exact ⟨by omega, by omega⟩
theorem trim_sub (l : List Int) : ∀ x ∈ refTrim l, x ∈ l := by
  intro x hx
  unfold refTrim at hx
  split at hx
  · split at hx
    · exact List.mem_of_mem_take (List.mem_of_mem_take hx)
    · exact List.mem_of_mem_take hx
  · exact hx
theorem mem_cut {l : List Int} {c : Int} (hc : c ∈ l) (h61 : c ≠ 61) (h0 : 0 < l.length) (h1 : rd l ((l.length - 1 : Nat) : Int) = 61) : c ∈ l.take (l.length - 1) := by
  obtain ⟨q, rfl⟩ := (last_iff l).1 ⟨h0, h1⟩
  have : (q ++ [(61 : Int)]).take ((q ++ [(61 : Int)]).length - 1) = q := List.take_left' (by simp)
  rw [this]
  rcases List.mem_append.1 hc with h | h
  · exact h
  · exact absurd (List.mem_singleton.1 h) h61
theorem trim_mem {l : List Int} {c : Int} (hc : c ∈ l) (h61 : c ≠ 61) : c ∈ refTrim l := by
  unfold refTrim
  split
  · rename_i h
    have h1 := mem_cut hc h61 h.1 h.2.2
    split
    · rename_i h2
      have e : (l.take (l.length - 1)).length = l.length - 1 := by rw [List.length_take]; omega
      have := mem_cut h1 h61 (by rw [e]; omega) (by rw [e, show l.length - 1 - 1 = l.length - 2 by omega]; exact h2)
      rw [e, show l.length - 1 - 1 = l.length - 2 by omega] at this
      exact this
    · exact h1
  · exact hc
theorem refD_bad {l : List Int} (h : ∃ c ∈ l, idx c < 0) : refD l = ([], false) := by
  unfold refD
  split
  · rfl
  · exact fin_bad _ l [] h
theorem dec_same (s : ByteArray) : decB (bytesOf (sqz s)) = refD (refTrim (fl (bytesOf s))) := by
  rcases low_or s.data.toList with hl | hh
  · have hb : ∀ x ∈ bytesOf (sqz s), byte x := bytes_byte _
    rw [dec_ref _ hb]
    unfold sqz
    rw [trim_f, blank_f s hl]
  · rw [dec_high s hh]
    obtain ⟨b, hb, hb2⟩ := hh
    have h1 := UInt8.toNat_lt b
    refine (refD_bad ⟨(b.toNat : Int), trim_mem (List.mem_filter.2 ⟨?_, ?_⟩) (by omega), idx_high _ h1 hb2⟩).symm
    · rw [bytes_def]
      exact List.mem_map.2 ⟨b, hb, rfl⟩
    · unfold Mp.blank
      rw [decide_eq_false (by omega), decide_eq_false (by omega), decide_eq_false (by omega), decide_eq_false (by omega), decide_eq_false (by omega)]
      rfl
theorem go_false : ∀ (l acc : List Int) (b : Int) (n : Nat), (go l acc b n).2 = false → (go l acc b n).1 = []
  | [], acc, b, n, h => by rw [go] at h; cases h
  | c :: t, acc, b, n, h => by
    rw [go] at h ⊢
    by_cases hx : idx c < 0
    · rw [if_pos hx]
    · rw [if_neg hx] at h ⊢
      by_cases h8 : n + 6 ≥ 8
      · rw [if_pos h8] at h ⊢
        exact go_false t _ _ _ h
      · rw [if_neg h8] at h ⊢
        exact go_false t _ _ _ h
theorem dec_false (l : List Int) (h : (decB l).2 = false) : (decB l).1 = [] := by
  unfold decB at h ⊢
  split at h
  · rename_i h1
    rw [if_pos h1]
  · rename_i h1
    rw [if_neg h1]
    exact go_false l [] 0 0 h
theorem j1_true (L : List Int) (k : Nat) (h4 : 4 ≤ L.length) (hL : L.length ≤ 3000) (hb : ∀ x ∈ L, byte x) (hk : 39000 ≤ k) : carryallref03_Decode.j1 k L (L.length : Int) true = some (refD (if rd (L.take (L.length - 1)) ((L.length - 2 : Nat) : Int) = 61 then (L.take (L.length - 1)).take (L.length - 2) else L.take (L.length - 1))) := by
  obtain ⟨k, rfl⟩ : ∃ j, k = j + 1 := ⟨k - 1, by omega⟩
  have w1 : wrap64 ((L.length : Int) - 1) = ((L.length - 1 : Nat) : Int) := by rw [wrap_in (by omega) (by omega)]; omega
  have w2 : wrap64 ((L.length : Int) - 2) = ((L.length - 2 : Nat) : Int) := by rw [wrap_in (by omega) (by omega)]; omega
  have e : (L.take (L.length - 1)).length = L.length - 1 := by rw [List.length_take]; omega
  rw [carryallref03_Decode.j1, if_pos rfl, w1, w2, if_pos (by omega), if_pos (by omega), Option.bind_some, Int.toNat_natCast, if_pos (by omega), if_pos (by rw [e]; omega), Int.toNat_natCast]
  by_cases h : rd (L.take (L.length - 1)) ((L.length - 2 : Nat) : Int) = 61
  · rw [if_pos h, if_pos h, if_pos (by rw [e]; omega)]
    exact j2_f _ k (by rw [List.length_take, e]; omega) (fun x hx => hb x (List.mem_of_mem_take (List.mem_of_mem_take hx))) (by rw [List.length_take, e]; omega)
  · rw [if_neg h, if_neg h]
    exact j2_f _ k (by rw [e]; omega) (fun x hx => hb x (List.mem_of_mem_take hx)) (by rw [e]; omega)
theorem j1_false (L : List Int) (k : Nat) (n : Int) (hL : L.length ≤ 3000) (hb : ∀ x ∈ L, byte x) (hk : 39000 ≤ k) : carryallref03_Decode.j1 k L n false = some (refD L) := by
  obtain ⟨k, rfl⟩ : ∃ j, k = j + 1 := ⟨k - 1, by omega⟩
  rw [carryallref03_Decode.j1, if_neg Bool.false_ne_true]
  exact j2_f _ k (by omega) hb (by omega)
theorem l0_f (x0 : ByteArray) (hs : x0.size ≤ 2000) : ∀ (d k i : Nat) (acc : List Int), i + d = x0.size → acc.length + d ≤ 3000 → (∀ x ∈ acc, byte x) → 39001 + d ≤ k →
    carryallref03_Decode.l0 k x0 acc (x0.size : Int) (i : Int) = some (refD (refTrim (acc ++ fl ((bytesOf x0).drop i)))) := by
  intro d
  induction d with
  | zero =>
    intro k i acc hi ha hb hk
    obtain ⟨k, rfl⟩ : ∃ j, k = j + 1 := ⟨k - 1, by omega⟩
    rw [carryallref03_Decode.l0, if_neg (by omega), List.drop_of_length_le (by rw [bytesOf_length]; omega), show acc ++ fl [] = acc by simp [fl]]
    unfold refTrim
    by_cases h0 : 0 < acc.length
    · have w1 : wrap64 ((acc.length : Int) - 1) = ((acc.length - 1 : Nat) : Int) := by rw [wrap_in (by omega) (by omega)]; omega
      rw [if_pos (by omega)]
      by_cases h4 : acc.length % 4 = 0
      · rw [if_pos (by omega), w1, if_pos (by omega), if_pos (by omega)]
        by_cases h6 : rd acc ((acc.length - 1 : Nat) : Int) = 61
        · rw [if_pos ⟨h0, h4, h6⟩, h6]
          exact j1_true acc k (by omega) (by omega) hb (by omega)
        · rw [if_neg (fun h => h6 h.2.2), show (rd acc ((acc.length - 1 : Nat) : Int) == 61) = false by rw [beq_eq_false_iff_ne]; exact h6]
          exact j1_false acc k _ (by omega) hb (by omega)
      · rw [if_neg (by omega), if_neg (fun h => h4 h.2.1)]
        exact j1_false acc k _ (by omega) hb (by omega)
    · rw [if_neg (by omega), if_neg (fun h => h0 h.1)]
      exact j1_false acc k _ (by omega) hb (by omega)
  | succ d ih =>
    intro k i acc hi ha hb hk
    obtain ⟨k, rfl⟩ : ∃ j, k = j + 1 := ⟨k - 1, by omega⟩
    have w1 : wrap64 ((i : Int) + 1) = ((i + 1 : Nat) : Int) := by rw [wrap_in (by omega) (by omega)]; omega
    rw [drop_bt x0 i (by omega), carryallref03_Decode.l0, if_pos (by omega), if_pos (by omega), if_pos (by omega), w1]
    have hby := bt_byte x0 (i : Int)
    obtain ⟨c, hc⟩ : ∃ c, bt x0 (i : Int) = c := ⟨_, rfl⟩
    rw [hc] at hby ⊢
    have ih1 := ih k (i + 1) acc (by omega) (by omega) hb (by omega)
    have ih2 := ih k (i + 1) (acc ++ [c]) (by omega) (by rw [List.length_append, List.length_singleton]; omega) (fun x hx => by
      rcases List.mem_append.1 hx with h | h
      · exact hb x h
      · rw [List.mem_singleton.1 h]; exact hby) (by omega)
    have hf : fl (c :: (bytesOf x0).drop (i + 1)) = (if Mp.blank c = true then [] else [c]) ++ fl ((bytesOf x0).drop (i + 1)) := by
      unfold fl
      rw [List.filter_cons]
      by_cases h : Mp.blank c = true
      · simp [h]
      · simp [h]
    rw [hf]
    by_cases h1 : c = 9
    · rw [if_pos h1, if_pos (by rw [h1]; rfl)]; exact ih1
    · rw [if_neg h1]
      by_cases h2 : c = 10
      · rw [if_pos h2, if_pos (by rw [h2]; rfl)]; exact ih1
      · rw [if_neg h2]
        by_cases h3 : c = 12
        · rw [if_pos h3, if_pos (by rw [h3]; rfl)]; exact ih1
        · rw [if_neg h3]
          by_cases h4 : c = 13
          · rw [if_pos h4, if_pos (by rw [h4]; rfl)]; exact ih1
          · rw [if_neg h4]
            by_cases h5 : c = 32
            · rw [if_pos h5, if_pos (by rw [h5]; rfl)]; exact ih1
            · rw [if_neg h5, if_pos (by omega), if_neg (by unfold Mp.blank; rw [decide_eq_false h1, decide_eq_false h2, decide_eq_false h3, decide_eq_false h4, decide_eq_false h5]; decide)]
              rw [ih2, List.append_assoc]
end Go.Proofs.YtbobbbpjphkooaaDoor.BaV
