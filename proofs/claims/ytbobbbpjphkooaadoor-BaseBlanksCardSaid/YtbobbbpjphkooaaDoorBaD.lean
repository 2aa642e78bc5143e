/- What base.squeeze makes of a text, by its bytes: low bytes: the blanks go; a high byte leaves a high byte. -/
import Derived.Test.YtbobbbpjphkooaaDoorSqz
namespace Go.Proofs.YtbobbbpjphkooaaDoor.BaD
open Go.RowKit Go.Proofs.YtbobbbpjphkooaaDoor.Pl Go.Proofs.YtbobbbpjphkooaaDoor.Mp
def isBl (b : UInt8) : Bool := Mp.blank (b.toNat : Int)
theorem decL_ascii (b : UInt8) (t : List UInt8) (h : b.toNat < 128) : Lib.decodeL (b :: t) = (b.toNat, 1) := decode_ascii (⟨(b :: t).toArray⟩ : ByteArray) 0 (by simp [ByteArray.size]) h
theorem mapD_low : ∀ l : List UInt8, (∀ b ∈ l, b.toNat < 128) → Lib.mapD mapf l = l.filter fun b => !isBl b
  | [], _ => rfl
  | b :: t, h => by
    have hb := h b List.mem_cons_self
    have ih := mapD_low t fun x hx => h x (List.mem_cons_of_mem _ hx)
    rw [Lib.mapD_step mapf (b :: t) (by simp), decL_ascii b t hb]
    show (if 0 ≤ mapf (b.toNat : Int) then Lib.encodeRune (mapf (b.toNat : Int)) else []) ++ Lib.mapD mapf t = _
    rw [ih, List.filter_cons]
    unfold mapf isBl
    by_cases hk : Mp.blank (b.toNat : Int) = true
    · rw [if_pos hk, if_neg (by decide), hk]
      rfl
    · rw [if_neg hk, if_pos (by omega)]
      have hf : Mp.blank (b.toNat : Int) = false := by simpa using hk
      rw [hf]
      unfold Lib.encodeRune
      rw [Lib.encodeRuneZ_one (by omega) (by omega)]
      simp
def High (l : List UInt8) : Prop := ∃ b ∈ l, 128 ≤ b.toNat
theorem decodeL_good (l : List UInt8) : Utf8.valid ((Lib.decodeL l).1 : Int) = true := dec_good ⟨l.toArray⟩ 0
theorem decodeL_hi (b : UInt8) (t : List UInt8) (h : 128 ≤ b.toNat) : 128 ≤ (Lib.decodeL (b :: t)).1 := (decode_high (⟨(b :: t).toArray⟩ : ByteArray) 0 (by simp [ByteArray.size]) h).1
theorem mapD_high : ∀ (n : Nat) (l : List UInt8), l.length ≤ n → High l → High (Lib.mapD mapf l)
  | 0, l, hn, h => by
    obtain ⟨b, hb, _⟩ := h
    have h0 : l = [] := List.eq_nil_of_length_eq_zero (by omega)
    subst h0
    cases hb
  | n + 1, [], _, h => by obtain ⟨b, hb, _⟩ := h; cases hb
  | n + 1, b :: t, hn, h => by
    rw [Lib.mapD_step mapf (b :: t) (by simp)]
    by_cases hb : b.toNat < 128
    · rw [decL_ascii b t hb]
      have ht : High t := by
        obtain ⟨x, hx, hx2⟩ := h
        rcases List.mem_cons.1 hx with rfl | hx
        · omega
        · exact ⟨x, hx, hx2⟩
      obtain ⟨x, hx, hx2⟩ := mapD_high n t (by simp only [List.length_cons] at hn; omega) ht
      exact ⟨x, List.mem_append_right _ hx, hx2⟩
    · have hr := decodeL_hi b t (by omega)
      have hv := decodeL_good (b :: t)
      obtain ⟨r, hre⟩ : ∃ r, (Lib.decodeL (b :: t)).1 = r := ⟨_, rfl⟩
      rw [hre] at hr hv ⊢
      have hm : mapf (r : Int) = (r : Int) := by
        rcases map_of r with ⟨_, h⟩ | h
        · omega
        · exact h
      rw [hm, if_pos (by omega)]
      have hv' : (r : Int) ≤ 1114111 ∧ ((r : Int) < 55296 ∨ 57343 < (r : Int)) := by unfold Utf8.valid at hv; simp at hv; omega
      obtain ⟨e1, e2, e3⟩ := enc_high (r := (r : Int)) (by omega) hv'
      obtain ⟨x, hx⟩ := List.exists_mem_of_ne_nil _ e1
      have hx2 := e2 x hx
      refine ⟨x.toNat.toUInt8, List.mem_append_left _ ?_, ?_⟩
      · unfold Lib.encodeRune
        exact List.mem_map.2 ⟨x, hx, rfl⟩
      · simp
        omega
theorem mapD_len : ∀ (n : Nat) (l : List UInt8), l.length ≤ n → (Lib.mapD mapf l).length ≤ 4 * l.length
  | _, [], _ => by simp [Lib.mapD_nil]
  | 0, b :: t, h => by simp at h
  | n + 1, b :: t, h => by
    have hw := Lib.decodeL_width (b :: t)
    have ih := mapD_len n ((b :: t).drop (Lib.decodeL (b :: t)).2) (by rw [List.length_drop]; simp only [List.length_cons] at h ⊢; omega)
    rw [Lib.mapD_step mapf (b :: t) (by simp), List.length_append]
    have h4 : (if 0 ≤ mapf ((Lib.decodeL (b :: t)).1 : Int) then Lib.encodeRune (mapf ((Lib.decodeL (b :: t)).1 : Int)) else []).length ≤ 4 := by
      split
      · unfold Lib.encodeRune
        rw [List.length_map]
        exact (Lib.encodeRuneZ_length _).2
      · simp
    rw [List.length_drop] at ih
    simp only [List.length_cons] at ih ⊢
    omega
theorem blank_size (s : ByteArray) : (blankless s).size ≤ 4 * s.size := by
  have := mapD_len s.data.toList.length s.data.toList (Nat.le_refl _)
  rw [← Lib.size_eq] at this
  exact this
theorem blank_data (s : ByteArray) : (blankless s).data.toList = Lib.mapD mapf s.data.toList := rfl
theorem cut1_data (t : ByteArray) : (cut1 t).data.toList = t.data.toList.take (t.size - 1) := by
  unfold cut1
  rw [Lib.extract_data]
  simp
theorem cut1_high {t : ByteArray} (h : High t.data.toList) (he : eqEnd t = true) : High (cut1 t).data.toList := by
  obtain ⟨b, hb, hb2⟩ := h
  have hp := eqEnd_pos he
  refine ⟨b, ?_, hb2⟩
  rw [cut1_data]
  have hs := Lib.size_eq t
  obtain ⟨l, hl⟩ : ∃ l, t.data.toList = l := ⟨_, rfl⟩
  rw [hl] at hb hs ⊢
  unfold eqEnd at he
  rw [hl] at he
  have hd : l.drop (t.size - 1) = [61] := by
    obtain ⟨q, hq⟩ := List.isSuffixOf_iff_suffix.1 he
    have hq2 : l.length = q.length + 1 := by rw [← hq, List.length_append]; rfl
    rw [hs, hq2, ← hq]
    exact List.drop_left' (by omega)
  rw [← List.take_append_drop (t.size - 1) l, hd] at hb
  rcases List.mem_append.1 hb with h | h
  · exact h
  · simp at h
    subst h
    exact absurd hb2 (by decide)
theorem trim_high {t : ByteArray} (h : High t.data.toList) : High (trimEq t).data.toList := by
  unfold trimEq
  split
  · rename_i h1
    split
    · rename_i h2
      exact cut1_high (cut1_high h h1.2) h2
    · exact cut1_high h h1.2
  · exact h
theorem sqz_high (s : ByteArray) (h : High s.data.toList) : High (sqz s).data.toList := trim_high (by rw [blank_data]; exact mapD_high _ _ (Nat.le_refl _) h)
theorem cut1_le (t : ByteArray) : (cut1 t).size ≤ t.size := by
  rw [Lib.size_eq, cut1_data, List.length_take, ← Lib.size_eq]
  omega
theorem trim_le (t : ByteArray) : (trimEq t).size ≤ t.size := by
  unfold trimEq
  have h1 := cut1_le t
  have h2 := cut1_le (cut1 t)
  split
  · split <;> omega
  · omega
theorem sqz_le (s : ByteArray) : (sqz s).size ≤ 4 * s.size := Nat.le_trans (trim_le _) (blank_size s)
theorem sqz_low {s s' : ByteArray} (h : ∀ b ∈ s.data.toList, b.toNat < 128) (h' : ∀ b ∈ s'.data.toList, b.toNat < 128) (he : (s.data.toList.filter fun b => !isBl b) = s'.data.toList.filter fun b => !isBl b) : sqz s = sqz s' := by
  unfold sqz blankless
  rw [mapD_low _ h, mapD_low _ h', he]
theorem low_or (l : List UInt8) : (∀ b ∈ l, b.toNat < 128) ∨ High l := by
  by_cases h : High l
  · exact .inr h
  · exact .inl fun b hb => Nat.lt_of_not_le fun hx => h ⟨b, hb, hx⟩
end Go.Proofs.YtbobbbpjphkooaaDoor.BaD
