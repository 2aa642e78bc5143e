/- posix.Url of a fine path; what its segments are. -/
import Derived.Test.YtbbdfamfmkcfhaaGreatDoorPx2
import Derived.Test.YtbbdfamfmkcfhaaGreatDoorPx4
import Derived.Test.YtbbdfamfmkcfhaaGreatDoorPsA
namespace Go.Proofs.YtbbdfamfmkcfhaaGreatDoor.Ps
open Go.RowKit Go.Proofs.YtbbdfamfmkcfhaaGreatDoor.P Go.Proofs.YtbbdfamfmkcfhaaGreatDoor.Pl Go.Proofs.YtbbdfamfmkcfhaaGreatDoor.Spl Go.Proofs.YtbbdfamfmkcfhaaGreatDoor.EsE Go.Proofs.YtbbdfamfmkcfhaaGreatDoorW.PrintWords Go.Proofs.YtbbdfamfmkcfhaaGreatDoorW.PrintLast Go.Proofs.YtbbdfamfmkcfhaaGreatDoorW.PrintMore
set_option linter.unusedVariables false
theorem awake_at : ∀ (k : Nat), 80 ≤ k → carryalllaw15_awake.f k = some true := by
  intro k hk
  induction k with
  | zero => omega
  | succ k ih =>
    rcases Nat.lt_or_ge k 80 with h | h
    · obtain rfl : k = 79 := by omega
      decide +kernel
    · exact carryalllaw15_awake.mono k _ (ih h)
theorem rd_mem (L : List ByteArray) (i : Nat) (h : i < L.length) : rdOf ByteArray.empty L (i : Int) ∈ L := by
  unfold rdOf
  rw [Int.toNat_natCast, List.getD_eq_getElem?_getD, List.getElem?_eq_getElem h]
  exact List.getElem_mem h
theorem url_l0 (L : List ByteArray) (hL : L.length ≤ 1000000) (hs : ∀ x ∈ L, x.size ≤ 100000) (a b c d : ByteArray) (e : Bool) (f : Int) (g : Bool) (h : ByteArray) (m n : Bool) (o p : ByteArray) : ∀ (q k i : Nat) (acc : List ByteArray), i + q = L.length → q < k → acc.length ≤ i →
    posix_Url.l0 k L (L.length : Int) (i : Int) a b c d e f g h acc m n o p = some (a, b, c, d, e, f, g, h, acc ++ (L.drop i).map segS, m, n, o, p, 0) := by
  intro q
  induction q with
  | zero =>
    intro k i acc hi hk ha
    obtain ⟨k, rfl⟩ : ∃ j, k = j + 1 := ⟨k - 1, by omega⟩
    rw [posix_Url.l0, if_neg (by omega), List.drop_of_length_le (by omega), List.map_nil, List.append_nil]
  | succ q ih =>
    intro k i acc hi hk ha
    obtain ⟨k, rfl⟩ : ∃ j, k = j + 1 := ⟨k - 1, by omega⟩
    have w1 : wrap64 ((i : Int) + 1) = ((i + 1 : Nat) : Int) := by rw [wrap_in (by omega) (by omega)]; omega
    rw [posix_Url.l0, if_pos (by omega), if_pos (by omega), if_pos (by omega), seg_f _ (hs _ (rd_mem L i (by omega))), Option.bind_some, if_pos (by omega), w1, ih k (i + 1) _ (by omega) (by omega) (by rw [List.length_append, List.length_singleton]; omega), drop_rdOf L i (by omega), List.map_cons, List.append_assoc]
    rfl
theorem lst_size (s : ByteArray) : ∀ x ∈ lst s, x.size ≤ s.size := by
  intro x hx
  unfold lst at hx
  obtain ⟨q, hq, rfl⟩ := List.mem_map.1 hx
  have := splitL_len 47 (bytesOf s) q hq
  rw [bytesOf_length] at this
  rw [size_str]
  exact this
def emp : ByteArray := ⟨#[]⟩
theorem url_f (s : ByteArray) (hs : s.size ≤ 50000) (k : Nat) (hk : s.size + 20 ≤ k) (hf : fineB s = true) : posix_Url.f k s = some ((⟨#[102, 105, 108, 101]⟩ : ByteArray), (⟨#[]⟩ : ByteArray), (⟨#[]⟩ : ByteArray), (⟨#[]⟩ : ByteArray), true, -1, false, (⟨#[]⟩ : ByteArray), (lst (s.extract 1 s.size)).map segS, false, false, (⟨#[]⟩ : ByteArray), (⟨#[]⟩ : ByteArray), 0) := by
  have hz2 : (s.extract 1 s.size).size ≤ s.size := by rw [ByteArray.size_extract]; omega
  have hl := lst_len (s.extract 1 s.size)
  have h1 : 1 ≤ s.size := by
    rcases Nat.eq_zero_or_pos s.size with h | h
    · exfalso
      unfold fineB at hf
      rw [head_nil 47 (List.eq_nil_of_length_eq_zero (by rw [bytesOf_length]; exact h))] at hf
      cases hf
    · exact h
  unfold posix_Url.f
  rw [fine_f s (by omega) k (by omega), hf, Option.bind_some, if_pos rfl, if_pos (by omega), split_f _ (by omega), Option.bind_some]
  have := url_l0 (lst (s.extract 1 s.size)) (by omega) (fun x hx => by have := lst_size _ x hx; omega) (⟨#[102, 105, 108, 101]⟩ : ByteArray) (⟨#[]⟩ : ByteArray) (⟨#[]⟩ : ByteArray) (⟨#[]⟩ : ByteArray) true (-1) false (⟨#[]⟩ : ByteArray) false false (⟨#[]⟩ : ByteArray) (⟨#[]⟩ : ByteArray) (lst (s.extract 1 s.size)).length k 0 [] (by omega) (by omega) (by simp)
  rw [List.drop_zero, List.nil_append] at this
  exact this
theorem toList_bytes (x : ByteArray) (l : List UInt8) : x.toList = l ↔ bytesOf x = l.map fun b => (b.toNat : Int) := by
  rw [ByteArray.toList_eq]
  unfold bytesOf
  constructor
  · intro h; rw [h]
  · intro h
    generalize x.data.toList = y at h
    induction y generalizing l with
    | nil => cases l with | nil => rfl | cons _ _ => cases h
    | cons a t ih =>
      cases l with
      | nil => cases h
      | cons b r =>
        injection h with h1 h2
        have h3 : (a.toNat : Int) = (b.toNat : Int) := h1
        rw [UInt8.toNat_inj.1 (by omega : a.toNat = b.toNat), ih r h2]
theorem rows_dots : ∀ {L : List ByteArray}, rowsB L = true → ∀ x ∈ L, x.toList ≠ ([46] : List UInt8) ∧ x.toList ≠ ([46, 46] : List UInt8)
  | [], _, x, hx => by cases hx
  | y :: t, h, x, hx => by
    rw [rowsB] at h
    split at h
    · cases h
    · rename_i h1
      split at h
      · cases h
      · rename_i h2
        split at h
        · rename_i h3
          split at h
          · rename_i h4
            subst h4
            rw [List.mem_singleton.1 hx]
            exact ⟨h1, h2⟩
          · cases h
        · rcases List.mem_cons.1 hx with rfl | hx
          · exact ⟨h1, h2⟩
          · exact rows_dots h x hx
/-- What a fine path's segment is not. -/
structure Good (x : ByteArray) : Prop where
  small : x.size ≤ 500000
  h47 : (47 : Int) ∉ bytesOf x
  h92 : (92 : Int) ∉ bytesOf x
  h124 : (124 : Int) ∉ bytesOf x
  h63 : (63 : Int) ∉ bytesOf x
  h35 : (35 : Int) ∉ bytesOf x
  d1 : ¬ x.toList = ([46] : List UInt8)
  d2 : ¬ x.toList = ([46, 46] : List UInt8)
theorem segP_len (l : List Int) : (segP l).length ≤ 27 * l.length := by
  have h1 := pc_len l
  have h2 := escs_len 4 (l.flatMap pc)
  have h3 := (Rpl.rep_len (escs 4 (l.flatMap pc))).2
  rw [segP_eq] at h3
  omega
theorem good_of (r : ByteArray) (hr : r.size ≤ 10000) (hrows : rowsB (lst r) = true) : ∀ x ∈ (lst r).map segS, Good x := by
  intro x hx
  obtain ⟨p, hp, rfl⟩ := List.mem_map.1 hx
  have hd := rows_dots hrows p hp
  have hps := lst_size r p hp
  unfold lst at hp
  obtain ⟨q, hq, rfl⟩ := List.mem_map.1 hp
  have hqb : ∀ x ∈ q, byte x := splitL_all byte 47 (bytesOf r) (bytes_bytes r) q hq
  have hqn : (47 : Int) ∉ q := fun h => splitL_no 47 (bytesOf r) q hq 47 h rfl
  have hsf := segP_facts hqb
  have hbp : bytesOf (strOfNums q) = q := bytes_str q hqb
  have hbx : bytesOf (segS (strOfNums q)) = segP q := by unfold segS; rw [hbp, bytes_str _ fun x hx => (hsf x hx).1]
  have hdot : ∀ l : List UInt8, (∀ b ∈ l, b = 46) → (segS (strOfNums q)).toList = l → (strOfNums q).toList = l := by
    intro l hl h
    rw [toList_bytes, hbx] at h
    rw [toList_bytes, hbp, ← h]
    refine (segP_dots hqb fun x hx => ?_).symm
    rw [h] at hx
    obtain ⟨b, hb, rfl⟩ := List.mem_map.1 hx
    rw [hl b hb]
    rfl
  refine ⟨?_, ?_, ?_, ?_, ?_, ?_, ?_, ?_⟩
  · unfold segS
    rw [size_str, hbp]
    have := segP_len q
    rw [size_str] at hps
    omega
  · rw [hbx]; exact fun h => hqn ((hsf _ h).2.2.2.2.2 rfl)
  · rw [hbx]; exact fun h => (hsf _ h).2.1 rfl
  · rw [hbx]; exact fun h => (hsf _ h).2.2.1 rfl
  · rw [hbx]; exact fun h => (hsf _ h).2.2.2.1 rfl
  · rw [hbx]; exact fun h => (hsf _ h).2.2.2.2.1 rfl
  · exact fun h => hd.1 (hdot [46] (by simp) h)
  · exact fun h => hd.2 (hdot [46, 46] (by simp) h)
end Go.Proofs.YtbbdfamfmkcfhaaGreatDoor.Ps
