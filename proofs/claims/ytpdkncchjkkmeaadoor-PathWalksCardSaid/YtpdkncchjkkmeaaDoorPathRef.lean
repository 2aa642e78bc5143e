/- The reference's walk is the program's. -/
import Derived.Test.YtpdkncchjkkmeaaDoorPx7
import Derived.Test.YtpdkncchjkkmeaaDoorPathS
namespace Go.Proofs.YtpdkncchjkkmeaaDoor.Path
open Go.RowKit Go.Proofs.YtpdkncchjkkmeaaDoor.P Go.Proofs.YtpdkncchjkkmeaaDoor.Pl Go.Proofs.YtpdkncchjkkmeaaDoor.Spl Go.Proofs.YtpdkncchjkkmeaaDoorW.PrintWords Go.Proofs.YtpdkncchjkkmeaaDoorW.PrintLast Go.Proofs.YtpdkncchjkkmeaaDoorW.PrintMore
set_option linter.unusedVariables false
theorem rstep (file sp : Bool) (s : ByteArray) (X : List ByteArray) (hX : X.length ≤ 1000000) (buf : ByteArray) (hb : buf.size ≤ 100000) (x11 x19 x20 : Int) (last : Bool) (k : Nat) (hk : buf.size + 20 ≤ k) :
    carryallref10_Walk.j2 (k + 1) file sp s X buf x11 last x19 x20 false = carryallref10_Walk.l0 k file sp s (stepB file X buf last) ⟨#[]⟩ x19 (wrap64 (x20 + 1)) := by
  have hsl := short_len file X
  rw [carryallref10_Walk.j2, if_neg Bool.false_ne_true, rdoub_f buf (by omega) k (by omega), Option.bind_some]
  unfold stepB
  cases hd : doubB (bytesOf buf)
  · rw [if_neg Bool.false_ne_true, if_neg Bool.false_ne_true, rsing_f buf (by omega) k (by omega), Option.bind_some]
    cases hs : singB (bytesOf buf)
    · rw [if_neg Bool.false_ne_true, if_neg Bool.false_ne_true]
      by_cases h1 : file = true
      · rw [if_pos h1]
        by_cases h2 : X.length = 0
        · rw [if_pos (by omega), rdrv_f, Option.bind_some]
          cases h3 : drvB (bytesOf buf)
          · rw [if_neg Bool.false_ne_true, renc_f buf (by omega) k (by omega), Option.bind_some, if_pos (by omega), fix_no (by rw [h3]; simp)]
          · have hz := drv_size h3
            have hz2 := fix_size h3
            have he : (buf.extract 0 1).size = 1 := by rw [ByteArray.size_extract]; omega
            rw [if_pos rfl, if_pos (by decide), if_pos (by omega), if_pos (by omega), renc_f _ (by omega) k (by omega), Option.bind_some, if_pos (by omega), fix_yes h1 h2 h3]
        · rw [if_neg (by omega), renc_f buf (by omega) k (by omega), Option.bind_some, if_pos (by omega), fix_no (fun e => h2 e.2.1)]
      · rw [if_neg h1, renc_f buf (by omega) k (by omega), Option.bind_some, if_pos (by omega), fix_no (fun e => h1 e.1)]
    · rw [if_pos rfl, if_pos rfl]
      cases last
      · simp
      · rw [if_pos rfl, if_pos (by omega), if_pos rfl]
  · rw [if_pos rfl, if_pos rfl, Option.bind_some, rshort_f file X (by omega), Option.bind_some, if_pos (by simp; omega), Option.bind_some, List.nil_append]
    cases last
    · simp
    · rw [if_pos rfl, if_pos (by omega), if_pos rfl]
theorem sepm_at (sp : Bool) (s : ByteArray) (i : Nat) (h : i < s.size) : (sepm sp (bytesOf s)).drop i = (if sp = true ∧ bt s (i : Int) = 92 then 47 else bt s (i : Int)) :: (sepm sp (bytesOf s)).drop (i + 1) := by
  unfold sepm
  cases sp
  · simp only [Bool.false_eq_true, if_false, false_and]
    exact drop_bt s i h
  · simp only [if_true, true_and]
    rw [← List.map_drop, ← List.map_drop, drop_bt s i h, List.map_cons]
theorem rwalk_l0 (file sp : Bool) (s : ByteArray) (hs : s.size ≤ 10000) : ∀ (d i : Nat) (X : List ByteArray) (buf : ByteArray) (k : Nat), s.size - i = d → i ≤ s.size → 3 * d + s.size + 40 ≤ k → X.length ≤ 100000 + i → buf.size ≤ i →
    carryallref10_Walk.l0 k file sp s X buf ((s.size + 1 : Nat) : Int) (i : Int) = some (walkB file X ((pre (bytesOf buf) (splitL 47 ((sepm sp (bytesOf s)).drop i))).map strOfNums)) := by
  intro d
  induction d with
  | zero =>
    intro i X buf k hd hi hk hX hb
    obtain ⟨k, rfl⟩ : ∃ j, k = j + 3 := ⟨k - 3, by omega⟩
    obtain rfl : i = s.size := by omega
    have hw : wrap64 ((s.size : Int) + 1) = ((s.size + 1 : Nat) : Int) := by rw [wrap_in (by omega) (by omega)]; omega
    rw [carryallref10_Walk.l0, if_pos (by omega), if_pos rfl, carryallref10_Walk.j1, beq_self_eq_true, if_pos rfl, rstep file sp s X (by omega) buf (by omega) _ _ _ true k (by omega), hw]
    obtain ⟨k, rfl⟩ : ∃ j, k = j + 1 := ⟨k - 1, by omega⟩
    rw [carryallref10_Walk.l0, if_neg (by omega), List.drop_eq_nil_of_le (by rw [sepm_len, bytesOf_length]; omega), splitL, pre, List.append_nil, List.map_singleton, str_bytes, walkB]
  | succ d ih =>
    intro i X buf k hd hi hk hX hb
    obtain ⟨k, rfl⟩ : ∃ j, k = j + 3 := ⟨k - 3, by omega⟩
    have hw : wrap64 ((i : Int) + 1) = ((i + 1 : Nat) : Int) := by rw [wrap_in (by omega) (by omega)]; omega
    have hne : ((i : Int) == (s.size : Int)) = false := beq_false_of_ne (by omega)
    have hsep := sepm_at sp s i (by omega)
    have YES : (if sp = true ∧ bt s (i : Int) = 92 then 47 else bt s (i : Int)) = 47 → carryallref10_Walk.j1 (k + 2) file sp s X buf (i : Int) false true ((s.size + 1 : Nat) : Int) (i : Int) = some (walkB file X ((pre (bytesOf buf) (splitL 47 ((sepm sp (bytesOf s)).drop i))).map strOfNums)) := by
      intro h47
      have hsl := step_len file X buf false
      rw [carryallref10_Walk.j1, if_neg Bool.false_ne_true]
      show carryallref10_Walk.j2 (k + 1) file sp s X buf (i : Int) false ((s.size + 1 : Nat) : Int) (i : Int) false = _
      rw [rstep file sp s X (by omega) buf (by omega) _ _ _ false k (by omega), hw, ih (i + 1) _ ⟨#[]⟩ k (by omega) (by omega) (by omega) (by omega) (Nat.zero_le _), hsep, h47, splitL, if_pos rfl, pre, List.append_nil, List.map_cons, str_bytes]
      have e0 : bytesOf (⟨#[]⟩ : ByteArray) = [] := rfl
      rw [e0, pre_nil (splitL_ne _ _)]
      cases hq : splitL 47 ((sepm sp (bytesOf s)).drop (i + 1)) with
      | nil => exact absurd hq (splitL_ne _ _)
      | cons q r => rw [List.map_cons, walkB]
    have NO : (if sp = true ∧ bt s (i : Int) = 92 then 47 else bt s (i : Int)) = bt s (i : Int) → bt s (i : Int) ≠ 47 → carryallref10_Walk.j1 (k + 2) file sp s X buf (i : Int) false false ((s.size + 1 : Nat) : Int) (i : Int) = some (walkB file X ((pre (bytesOf buf) (splitL 47 ((sepm sp (bytesOf s)).drop i))).map strOfNums)) := by
      intro h47 hn
      have hz : (s.extract i (i + 1)).size = 1 := by rw [ByteArray.size_extract]; omega
      have hx : bytesOf (s.extract i (i + 1)) = [bt s (i : Int)] := by
        rw [bytes_extract, drop_bt s i (by omega)]
        have : i + 1 - i = 1 := by omega
        rw [this]
        rfl
      rw [carryallref10_Walk.j1, if_neg Bool.false_ne_true]
      show carryallref10_Walk.j2 (k + 1) file sp s X buf (i : Int) false ((s.size + 1 : Nat) : Int) (i : Int) true = _
      rw [carryallref10_Walk.j2, if_pos rfl, if_pos (by omega), hw, if_pos (by omega), if_pos (by omega), Int.toNat_natCast, Int.toNat_natCast, hz, if_pos (by omega), ih (i + 1) X _ k (by omega) (by omega) (by omega) (by omega) (by rw [ByteArray.size_append, hz]; omega), hsep, h47, splitL, if_neg hn, pre_pre, bytes_append, hx]
    rw [carryallref10_Walk.l0, if_pos (by omega), if_neg (by omega), if_pos (by omega), if_pos (by omega), hne]
    by_cases h1 : bt s (i : Int) = 47
    · rw [if_pos h1]
      exact YES (by rw [h1]; split <;> rfl)
    · rw [if_neg h1]
      cases sp
      · rw [if_neg Bool.false_ne_true]
        exact NO (by simp) h1
      · rw [if_pos rfl]
        by_cases h2 : bt s (i : Int) = 92
        · rw [beq_iff_eq.2 h2]
          exact YES (by simp [h2])
        · rw [beq_false_of_ne h2]
          exact NO (by simp [h2]) h1
theorem rwalk_f (file sp : Bool) (X : List ByteArray) (hX : X.length ≤ 100000) (s : ByteArray) (hs : s.size ≤ 10000) (k : Nat) (hk : 4 * s.size + 40 ≤ k) : carryallref10_Walk.f k file sp X s = some (walkB file X (segs sp s)) := by
  unfold carryallref10_Walk.f
  have hw : wrap64 ((s.size : Int) + 1) = ((s.size + 1 : Nat) : Int) := by rw [wrap_in (by omega) (by omega)]; omega
  rw [Option.bind_some, if_pos (by simp; omega), List.nil_append, hw]
  have := rwalk_l0 file sp s hs s.size 0 X ⟨#[]⟩ k (by omega) (by omega) (by omega) (by omega) (Nat.zero_le _)
  have e0 : bytesOf (⟨#[]⟩ : ByteArray) = [] := rfl
  rw [e0, pre_nil (splitL_ne _ _), List.drop_zero] at this
  exact this
end Go.Proofs.YtpdkncchjkkmeaaDoor.Path
