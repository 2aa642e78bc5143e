/- A fine path's URL has a segment for each component, none with a slash, none that would be walked away; no condition but that of the statement itself. -/
import Derived.Test.YtbbdfamfmkcfhaaGreatDoorPx8
import Derived.Test.YtbbdfamfmkcfhaaGreatDoorPsU
namespace Go.Proofs.YtbbdfamfmkcfhaaGreatDoor.PsP
open Go.RowKit Go.Proofs.YtbbdfamfmkcfhaaGreatDoor.P Go.Proofs.YtbbdfamfmkcfhaaGreatDoor.Pl Go.Proofs.YtbbdfamfmkcfhaaGreatDoor.Spl Go.Proofs.YtbbdfamfmkcfhaaGreatDoor.Ps Go.Proofs.YtbbdfamfmkcfhaaGreatDoorW.PrintWords Go.Proofs.YtbbdfamfmkcfhaaGreatDoorW.PrintLast Go.Proofs.YtbbdfamfmkcfhaaGreatDoorW.PrintMore
set_option linter.unusedVariables false
theorem l1_ok (L : List ByteArray) (hL : L.length ≤ 1000000) (hg : ∀ x ∈ L, Ps.Good x) (a b c d : ByteArray) (e : Bool) (f : Int) (g : Bool) (h : ByteArray) (m n : Bool) (o p : ByteArray) : ∀ (q k i : Nat), i + q = L.length → 600000 + q ≤ k →
    carryalllaw15_PosixParts.l1 k (L.length : Int) (i : Int) a b c d e f g h L m n o p = some true := by
  intro q
  induction q with
  | zero =>
    intro k i hi hk
    obtain ⟨k, rfl⟩ : ∃ j, k = j + 1 := ⟨k - 1, by omega⟩
    rw [carryalllaw15_PosixParts.l1, if_neg (by omega)]
  | succ q ih =>
    intro k i hi hk
    obtain ⟨k, rfl⟩ : ∃ j, k = j + 1 := ⟨k - 1, by omega⟩
    have w1 : wrap64 ((i : Int) + 1) = ((i + 1 : Nat) : Int) := by rw [wrap_in (by omega) (by omega)]; omega
    have G := hg _ (rd_mem L i (by omega))
    have hz := G.small
    rw [carryalllaw15_PosixParts.l1, if_pos (by omega), if_pos (by omega), if_pos (by omega),
      has_f _ 47 (by omega) k (by omega), Option.bind_some, decide_eq_false G.h47, if_neg Bool.false_ne_true,
      has_f _ 92 (by omega) k (by omega), Option.bind_some, decide_eq_false G.h92, if_neg Bool.false_ne_true,
      has_f _ 124 (by omega) k (by omega), Option.bind_some, decide_eq_false G.h124, if_neg Bool.false_ne_true,
      has_f _ 63 (by omega) k (by omega), Option.bind_some, decide_eq_false G.h63, if_neg Bool.false_ne_true,
      has_f _ 35 (by omega) k (by omega), Option.bind_some, decide_eq_false G.h35, if_neg Bool.false_ne_true, if_neg G.d1, if_neg G.d2, w1]
    exact ih k (i + 1) (by omega) (by omega)
def cnt (l : List Int) : Nat := (l.filter fun x => x == 47).length
theorem l0_ok (s : ByteArray) (hs : s.size ≤ 1000) (L : List ByteArray) (hL : L.length ≤ 2000) (hg : ∀ x ∈ L, Ps.Good x) : ∀ (q k i mm : Nat), i + q = s.size → 700000 + q ≤ k → mm ≤ i → L.length = mm + cnt ((bytesOf s).drop i) →
    carryalllaw15_PosixParts.l0 k s 0 (mm : Int) (s.size : Int) (i : Int) (⟨#[102, 105, 108, 101]⟩ : ByteArray) (⟨#[]⟩ : ByteArray) (⟨#[]⟩ : ByteArray) (⟨#[]⟩ : ByteArray) true (-1) false (⟨#[]⟩ : ByteArray) L false false (⟨#[]⟩ : ByteArray) (⟨#[]⟩ : ByteArray) = some true := by
  have eN : (⟨#[]⟩ : ByteArray).toList = ([] : List UInt8) := by rw [ByteArray.toList_eq]
  have eF : (⟨#[102, 105, 108, 101]⟩ : ByteArray).toList = ([102, 105, 108, 101] : List UInt8) := by rw [ByteArray.toList_eq]
  intro q
  induction q with
  | zero =>
    intro k i mm hi hk hm hl
    obtain ⟨k, rfl⟩ : ∃ j, k = j + 2 := ⟨k - 2, by omega⟩
    rw [drop_end s i (by omega)] at hl
    have hl2 : (L.length : Int) = (mm : Int) := by unfold cnt at hl; simp at hl; omega
    rw [carryalllaw15_PosixParts.l0, if_neg (by omega), if_pos rfl, if_pos hl2, if_pos eN, if_pos rfl, eF, carryalllaw15_PosixParts.j2, if_neg (by decide)]
    exact l1_ok L (by omega) hg _ _ _ _ _ _ _ _ _ _ _ _ L.length k 0 (by omega) (by omega)
  | succ q ih =>
    intro k i mm hi hk hm hl
    obtain ⟨k, rfl⟩ : ∃ j, k = j + 1 := ⟨k - 1, by omega⟩
    have w1 : wrap64 ((i : Int) + 1) = ((i + 1 : Nat) : Int) := by rw [wrap_in (by omega) (by omega)]; omega
    have w2 : wrap64 ((mm : Int) + 1) = ((mm + 1 : Nat) : Int) := by rw [wrap_in (by omega) (by omega)]; omega
    rw [drop_bt s i (by omega)] at hl
    rw [carryalllaw15_PosixParts.l0, if_pos (by omega), if_pos (by omega), if_pos (by omega), w1, w2]
    by_cases h : bt s (i : Int) = 47
    · rw [if_pos h]
      refine ih k (i + 1) (mm + 1) (by omega) (by omega) (by omega) ?_
      unfold cnt at hl ⊢
      rw [List.filter_cons, h] at hl
      simp at hl
      omega
    · rw [if_neg h]
      refine ih k (i + 1) mm (by omega) (by omega) (by omega) ?_
      unfold cnt at hl ⊢
      rw [List.filter_cons] at hl
      simp [h] at hl
      exact hl
end Go.Proofs.YtbbdfamfmkcfhaaGreatDoor.PsP
namespace Go.Proofs.YtbbdfamfmkcfhaaGreatDoor.Pure
open Go.RowKit Go.Proofs.YtbbdfamfmkcfhaaGreatDoor.P Go.Proofs.YtbbdfamfmkcfhaaGreatDoor.Pl Go.Proofs.YtbbdfamfmkcfhaaGreatDoor.Spl Go.Proofs.YtbbdfamfmkcfhaaGreatDoor.Ps Go.Proofs.YtbbdfamfmkcfhaaGreatDoor.PsP Go.Proofs.YtbbdfamfmkcfhaaGreatDoorW.PrintWords Go.Proofs.YtbbdfamfmkcfhaaGreatDoorW.PrintLast Go.Proofs.YtbbdfamfmkcfhaaGreatDoorW.PrintMore
theorem PosixParts : carryalllaw15_PosixParts.Pure := by
  intro s _
  by_cases hl : s.size ≤ 500
  · obtain ⟨k0, hk0⟩ := rfine_f s (by omega)
    refine ⟨k0 + 800001, ?_⟩
    unfold carryalllaw15_PosixParts.f
    rw [awake_at _ (by omega), Option.bind_some, if_pos rfl, if_neg (by omega), hk0 _ (by omega), Option.bind_some]
    cases hf : fineB s with
    | false =>
      show carryalllaw15_PosixParts.j0 (k0 + 800001) s true = _
      rw [carryalllaw15_PosixParts.j0, if_pos rfl, awake_at _ (by omega)]
      rfl
    | true =>
      show carryalllaw15_PosixParts.j0 (k0 + 800001) s false = _
      rw [carryalllaw15_PosixParts.j0, if_neg Bool.false_ne_true, url_f s (by omega) _ (by omega) hf, Option.bind_some]
      have hz2 : (s.extract 1 s.size).size ≤ s.size := by rw [ByteArray.size_extract]; omega
      have hln := lst_len (s.extract 1 s.size)
      have hrest : headB 47 s = true ∧ restB s = true := by
        unfold fineB at hf
        simpa using hf
      have hrows : rowsB (lst (s.extract 1 s.size)) = true := by
        have := hrest.2
        unfold restB at this
        simp only [Bool.and_eq_true] at this
        exact this.2
      have hcnt : (lst (s.extract 1 s.size)).length = cnt (bytesOf s) := by
        cases hb : bytesOf s with
        | nil => rw [head_nil 47 hb] at hrest; exact absurd hrest.1 Bool.false_ne_true
        | cons c t =>
          rw [head_cons 47 hb] at hrest
          obtain rfl : c = 47 := of_decide_eq_true hrest.1
          have h1 : bytesOf (s.extract 1 s.size) = t := by rw [bytes_from, hb]; rfl
          unfold lst cnt
          rw [h1, List.length_map, splitL_length, List.filter_cons]
          simp
      exact l0_ok s (by omega) ((lst (s.extract 1 s.size)).map segS) (by rw [List.length_map]; omega) (good_of _ (by omega) hrows) s.size (k0 + 800000) 0 0 (by omega) (by omega) (by omega) (by rw [List.length_map, List.drop_zero, Nat.zero_add]; exact hcnt)
  · refine ⟨200, ?_⟩
    unfold carryalllaw15_PosixParts.f
    rw [awake_at _ (by omega), Option.bind_some, if_pos rfl, if_pos (by omega), carryalllaw15_PosixParts.j0, if_pos rfl, awake_at _ (by omega)]
    rfl
end Go.Proofs.YtbbdfamfmkcfhaaGreatDoor.Pure
