/- What token's printed functions compute, in plain lists: Is by the bytes, Trim and Right by the shelf's lists; awake answers true. -/
import Derived.Test.YtflhnhjbbddgmaaDoorPx1
import Derived.Test.YtflhnhjbbddgmaaDoorPl
namespace Go.Proofs.YtflhnhjbbddgmaaDoor.Tok
open Go.RowKit Go.Proofs.YtflhnhjbbddgmaaDoor.P Go.Proofs.YtflhnhjbbddgmaaDoor.Pl Go.Proofs.YtflhnhjbbddgmaaDoorW.PrintWords Go.Proofs.YtflhnhjbbddgmaaDoorW.PrintLast

theorem awake_at : ∀ (k : Nat), 20 ≤ k → carryalllaw04_awake.f k = some true := by
  intro k hk
  induction k with
  | zero => omega
  | succ k ih =>
    rcases Nat.lt_or_ge k 20 with h | h
    · obtain rfl : k = 19 := by omega
      decide +kernel
    · exact carryalllaw04_awake.mono k _ (ih h)

def letB (c : Int) : Bool := (utf_Letter.f c).getD false
def digB (c : Int) : Bool := (utf_Digit.f c).getD false
theorem let_f (c : Int) : utf_Letter.f c = some (letB c) := by
  unfold letB utf_Letter.f
  repeat' split
  all_goals rfl
theorem dig_f (c : Int) : utf_Digit.f c = some (digB c) := by
  unfold digB utf_Digit.f
  repeat' split
  all_goals rfl
def sgn (c : Int) : Int := Lib.indexByte (⟨#[33, 35, 36, 37, 38, 39, 42, 43, 45, 46, 94, 95, 96, 124, 126]⟩ : ByteArray).data.toList c.toNat.toUInt8
def tokB (c : Int) : Bool := letB c || digB c || !decide (sgn c < 0)

theorem is_l0 (s : ByteArray) (hs : s.size ≤ 140737488355328) : ∀ (d i k : Nat), s.size - i = d → i ≤ s.size → d < k →
    token_Is.l0 k s (s.size : Int) (i : Int) = some (((bytesOf s).drop i).all tokB && (s.toList != [])) := by
  intro d
  induction d with
  | zero =>
    intro i k hd hi hk
    obtain ⟨k, rfl⟩ : ∃ j, k = j + 1 := ⟨k - 1, by omega⟩
    rw [token_Is.l0, if_neg (by omega), drop_end s i (by omega)]
    simp
  | succ d ih =>
    intro i k hd hi hk
    obtain ⟨k, rfl⟩ : ∃ j, k = j + 1 := ⟨k - 1, by omega⟩
    have hw : wrap64 ((i : Int) + 1) = ((i + 1 : Nat) : Int) := by rw [wrap_in (by omega) (by omega)]; omega
    have IH := ih (i + 1) k (by omega) (by omega) (by omega)
    rw [token_Is.l0, if_pos (by omega), if_pos (by omega), if_pos (by omega), let_f, Option.bind_some, dig_f, hw, IH, drop_bt s i (by omega), List.all_cons]
    cases hl : letB (bt s (i : Int)) with
    | true => simp [tokB, hl]
    | false =>
      rw [if_neg (by simp), Option.bind_some]
      cases hg : digB (bt s (i : Int)) with
      | true => simp [tokB, hl, hg]
      | false =>
        rw [if_neg (by simp), strings_IndexByte.f, Option.bind_some]
        show (if sgn (bt s (i : Int)) < 0 then _ else _) = _
        by_cases h : sgn (bt s (i : Int)) < 0
        · rw [if_pos h]; simp [tokB, hl, hg, h]
        · rw [if_neg h]; simp [tokB, hl, hg, h]
theorem is_f {s : ByteArray} {k : Nat} (hs : s.size ≤ 140737488355328) (hk : s.size < k) : token_Is.f k s = some ((bytesOf s).all tokB && (s.toList != [])) := by
  have := is_l0 s hs s.size 0 k (by omega) (by omega) hk
  rw [List.drop_zero] at this
  exact this

/-! the blanks -/
def cs : List UInt8 := [9, 10, 13, 32]
def bl (b : UInt8) : Bool := cs.contains b
def dw (l : List UInt8) : List UInt8 := l.dropWhile bl
def tr (l : List UInt8) : List UInt8 := (l.reverse.dropWhile bl).reverse
theorem dw_app {L s : List UInt8} (h : ∀ x ∈ L, bl x = true) : dw (L ++ s) = dw s := by
  unfold dw
  induction L with
  | nil => rfl
  | cons x L ih =>
    rw [List.cons_append, List.dropWhile_cons_of_pos (h x List.mem_cons_self)]
    exact ih (fun y hy => h y (List.mem_cons_of_mem _ hy))
theorem dw_dw (l : List UInt8) : dw (dw l) = dw l := by
  unfold dw
  induction l with
  | nil => rfl
  | cons x l ih =>
    cases h : bl x
    · rw [List.dropWhile_cons_of_neg (by simp [h]), List.dropWhile_cons_of_neg (by simp [h])]
    · rw [List.dropWhile_cons_of_pos h]; exact ih
theorem tr_app {s R : List UInt8} (h : ∀ x ∈ R, bl x = true) : tr (s ++ R) = tr s := by
  unfold tr
  rw [List.reverse_append]
  have := dw_app (L := R.reverse) (s := s.reverse) (fun x hx => h x (List.mem_reverse.1 hx))
  unfold dw at this
  rw [this]
theorem tr_tr (l : List UInt8) : tr (tr l) = tr l := by
  unfold tr
  rw [List.reverse_reverse]
  have := dw_dw l.reverse
  unfold dw at this
  rw [this]
theorem dw_nil_of {l : List UInt8} (h : dw l = []) : ∀ x ∈ l, bl x = true := by
  induction l with
  | nil => intro x hx; cases hx
  | cons y l ih =>
    unfold dw at h
    cases hy : bl y
    · rw [List.dropWhile_cons_of_neg (by simp [hy])] at h; cases h
    · rw [List.dropWhile_cons_of_pos hy] at h
      intro x hx
      rcases List.mem_cons.1 hx with rfl | hx
      · exact hy
      · exact ih h x hx
theorem tr_front (L s : List UInt8) : tr (L ++ s) = if tr s = [] then tr L else L ++ tr s := by
  unfold tr
  rw [List.reverse_append, List.dropWhile_append]
  cases h : (s.reverse.dropWhile bl) with
  | nil => simp
  | cons x r => simp
theorem trim_ends {L s R : List UInt8} (hL : ∀ x ∈ L, bl x = true) (hR : ∀ x ∈ R, bl x = true) : dw (tr (L ++ s ++ R)) = dw (tr s) := by
  rw [tr_app hR, tr_front]
  split
  · rename_i h
    have : tr L = [] := by
      have := tr_app (s := []) hL
      rw [List.nil_append] at this
      rw [this]; rfl
    rw [this, h]
  · exact dw_app hL
theorem tr_dw {u : List UInt8} (h : tr u = u) : tr (dw u) = dw u := by
  induction u with
  | nil => rfl
  | cons x u ih =>
    unfold dw
    cases hx : bl x
    · rw [List.dropWhile_cons_of_neg (by simp [hx])]; exact h
    · rw [List.dropWhile_cons_of_pos hx]
      refine ih ?_
      have e := tr_front [x] u
      rw [List.singleton_append, h] at e
      split at e
      · have : tr [x] = [] := by
          have := tr_app (s := []) (R := [x]) (fun y hy => by rw [List.mem_singleton.1 hy]; exact hx)
          rw [List.nil_append] at this
          rw [this]; rfl
        rw [this] at e; cases e
      · rw [List.singleton_append] at e; exact (List.cons.inj e).2.symm

theorem trim_list (l : List UInt8) : Lib.trimS l cs = dw (tr l) := rfl
theorem right_list (l : List UInt8) : Lib.trimRightS l cs = tr l := rfl
theorem dw_len (l : List UInt8) : (dw l).length ≤ l.length := by
  unfold dw
  exact (List.dropWhile_sublist _).length_le
theorem tr_len (l : List UInt8) : (tr l).length ≤ l.length := by
  unfold tr
  rw [List.length_reverse]
  exact Nat.le_trans (List.dropWhile_sublist _).length_le (by rw [List.length_reverse]; exact Nat.le_refl _)
def mkS (l : List UInt8) : ByteArray := ⟨l.toArray⟩
theorem mk_list (l : List UInt8) : (mkS l).data.toList = l := by simp [mkS]
theorem mk_size (l : List UInt8) : (mkS l).size = l.length := by
  show l.toArray.size = _
  simp
theorem size_data (s : ByteArray) : s.data.toList.length = s.size := by rw [Array.length_toList]; rfl
theorem trim_f {s : ByteArray} (hs : s.size ≤ 9223372036854775807) : token_Trim.f s = some (mkS (dw (tr s.data.toList))) := by
  unfold token_Trim.f strings_Trim.f
  rw [if_pos ⟨hs, by decide, by decide⟩]
  rfl
end Go.Proofs.YtflhnhjbbddgmaaDoor.Tok
