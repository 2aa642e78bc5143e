/- What came of walking, walked again from nothing, stays. -/
import Derived.Test.YtpdkncchjkkmeaaDoorPx8
import Derived.Test.YtpdkncchjkkmeaaDoorPathS
import Derived.Test.YtpdkncchjkkmeaaDoorPathAwake
namespace Go.Proofs.YtpdkncchjkkmeaaDoor.Pure
open Go.RowKit Go.Proofs.YtpdkncchjkkmeaaDoor.P Go.Proofs.YtpdkncchjkkmeaaDoor.Pl Go.Proofs.YtpdkncchjkkmeaaDoor.Path Go.Proofs.YtpdkncchjkkmeaaDoorW.PrintWords Go.Proofs.YtpdkncchjkkmeaaDoorW.PrintLast
theorem still_l0 (file special : Bool) (X : List ByteArray) (hX : X.length ≤ 401) (hz : ∀ y ∈ X, y.size ≤ 1200) (hw : ∀ a, X ≠ [] → bytesOf a = joinL (X.map bytesOf) → walkB file [] (segs special a) = X) : ∀ (d i : Nat) (a : ByteArray) (k : Nat), X.length - i = d → i ≤ X.length → d + 1300000 ≤ k → bytesOf a = joinL ((X.take i).map bytesOf) → a.size ≤ 1201 * i →
    carryalllaw10_PathStill.l0 k file special X a (X.length : Int) (i : Int) = some true := by
  intro d
  induction d with
  | zero =>
    intro i a k hd hi hk ha has
    obtain ⟨k, rfl⟩ : ∃ j, k = j + 1 := ⟨k - 1, by omega⟩
    rw [carryalllaw10_PathStill.l0, if_neg (by omega)]
    by_cases h0 : X.length = 0
    · rw [if_pos (by omega)]
    · rw [if_neg (by omega), walk_f file special [] (by simp) a (by omega) k (by omega), Option.bind_some, hw a (fun e => h0 (by rw [e]; rfl)) (by rw [ha, List.take_of_length_le (by omega)]), same_f X (by omega) k (by omega)]
      rfl
  | succ d ih =>
    intro i a k hd hi hk ha has
    obtain ⟨k, rfl⟩ : ∃ j, k = j + 1 := ⟨k - 1, by omega⟩
    have hw1 : wrap64 ((i : Int) + 1) = ((i + 1 : Nat) : Int) := by rw [wrap_in (by omega) (by omega)]; omega
    have hdr := drop_P X i (by omega)
    have hmem : rdOf ByteArray.empty X (i : Int) ∈ X := List.mem_of_mem_drop (i := i) (by rw [hdr]; exact List.mem_cons_self)
    have hsz := hz _ hmem
    have htk : X.take (i + 1) = X.take i ++ [rdOf ByteArray.empty X (i : Int)] := by
      rw [List.take_succ_eq_append_getElem (by omega)]
      rw [List.drop_eq_getElem_cons (by omega)] at hdr
      rw [(List.cons.inj hdr).1]
    have l1 : (⟨#[47]⟩ : ByteArray).size = 1 := rfl
    have e1 : bytesOf (⟨#[47]⟩ : ByteArray) = [47] := rfl
    rw [carryalllaw10_PathStill.l0, if_pos (by omega)]
    by_cases h0 : 0 < i
    · have sz : (a ++ (⟨#[47]⟩ : ByteArray)).size = a.size + 1 := by rw [ByteArray.size_append, l1]
      rw [if_pos (by omega), if_pos (by omega), if_pos (by omega), if_pos (by omega), if_pos (by rw [sz]; omega), hw1]
      refine ih (i + 1) _ k (by omega) (by omega) (by omega) ?_ (by rw [ByteArray.size_append, ByteArray.size_append, l1]; omega)
      rw [bytes_append, bytes_append, e1, ha, htk, List.map_append, List.map_singleton, join_snoc, if_neg, List.append_assoc]
      · rfl
      · intro e
        have := congrArg List.length e
        rw [List.length_map, List.length_take, List.length_nil] at this
        omega
    · obtain rfl : i = 0 := by omega
      rw [if_neg (by omega), if_pos (by omega), if_pos (by omega), if_pos (by omega), hw1]
      refine ih 1 _ k (by omega) (by omega) (by omega) ?_ (by rw [ByteArray.size_append]; omega)
      rw [bytes_append, ha, htk, List.take_zero]
      rfl
theorem PathStill : carryalllaw10_PathStill.Pure := by
  intro file special s hs
  obtain ⟨K, hK⟩ : ∃ K : Nat, 2000000 ≤ K := ⟨2000000, Nat.le_refl _⟩
  refine ⟨K + 1, ?_⟩
  unfold carryalllaw10_PathStill.f
  rw [awake_at (K + 1) (by omega), Option.bind_some, if_pos rfl]
  by_cases hn : s.size ≤ 400
  · have hl := segs_len special s
    have hsz := segs_size special s
    obtain ⟨w1, w2⟩ := walk_size (file := file) (M := 1200) (segs special s) [] (by simp) (fun x hx => by have := hsz x hx; omega)
    have := still_l0 file special (walkB file [] (segs special s)) (by simp at w2; omega) w1 (fun a h1 h2 => walk_again file special s a h1 h2) _ 0 ⟨#[]⟩ K rfl (by omega) (by simp at w2; omega) rfl (by decide)
    rw [decide_eq_false (by omega), carryalllaw10_PathStill.j0, if_neg Bool.false_ne_true, walk_f file special [] (by simp) s (by omega) K (by omega), Option.bind_some]
    exact this
  · rw [decide_eq_true (by omega), carryalllaw10_PathStill.j0, if_pos rfl, awake_at K (by omega)]
    rfl
end Go.Proofs.YtpdkncchjkkmeaaDoor.Pure
