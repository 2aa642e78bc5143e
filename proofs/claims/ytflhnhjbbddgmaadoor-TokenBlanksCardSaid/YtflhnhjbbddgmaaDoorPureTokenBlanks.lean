/- Blanks at both ends make no difference to a text without them, and it has none there. -/
import Derived.Test.YtflhnhjbbddgmaaDoorPx2
import Derived.Test.YtflhnhjbbddgmaaDoorPx3
import Derived.Test.YtflhnhjbbddgmaaDoorTok
namespace Go.Proofs.YtflhnhjbbddgmaaDoor.Pure
open Go.RowKit Go.Proofs.YtflhnhjbbddgmaaDoor.P Go.Proofs.YtflhnhjbbddgmaaDoor.Pl Go.Proofs.YtflhnhjbbddgmaaDoor.Tok Go.Proofs.YtflhnhjbbddgmaaDoorW.PrintWords Go.Proofs.YtflhnhjbbddgmaaDoorW.PrintLast

theorem right_f {s : ByteArray} (hs : s.size ≤ 9223372036854775807) : token_Right.f s = some (mkS (tr s.data.toList)) := by
  unfold token_Right.f strings_TrimRight.f
  rw [if_pos ⟨hs, by decide, by decide⟩]
  rfl
def four : List ByteArray := [(⟨#[]⟩ : ByteArray), (⟨#[32]⟩ : ByteArray), (⟨#[9]⟩ : ByteArray), (⟨#[13, 10]⟩ : ByteArray)]
theorem four_at : ∀ m : Nat, m < 4 → (rdOf ByteArray.empty four (m : Int)).size ≤ 2 ∧ ((rdOf ByteArray.empty four (m : Int)).data.toList.all bl) = true := by decide +kernel

theorem TokenBlanks : carryalllaw04_TokenBlanks.Pure := by
  intro s a1 a2 hs h1 h2
  obtain ⟨n1, rfl, hn1⟩ := u8_of h1
  obtain ⟨n2, rfl, hn2⟩ := u8_of h2
  obtain ⟨K, hK⟩ : ∃ K : Nat, 600 ≤ K := ⟨600, Nat.le_refl _⟩
  refine ⟨K + 1, ?_⟩
  unfold carryalllaw04_TokenBlanks.f
  rw [awake_at (K + 1) (by omega), Option.bind_some, if_pos rfl]
  by_cases hn : s.size ≤ 300
  · rw [decide_eq_false (by omega)]
    simp only [carryalllaw04_TokenBlanks.j0, Bool.false_eq_true, if_false]
    have e1 : Int.tmod (n1 : Int) 4 = ((n1 % 4 : Nat) : Int) := rfl
    have e2 : Int.tmod (n2 : Int) 4 = ((n2 % 4 : Nat) : Int) := rfl
    obtain ⟨sL, aL⟩ := four_at (n1 % 4) (by omega)
    obtain ⟨sR, aR⟩ := four_at (n2 % 4) (by omega)
    rw [e1, e2]
    generalize hL : rdOf ByteArray.empty four ((n1 % 4 : Nat) : Int) = L at sL aL
    generalize hR : rdOf ByteArray.empty four ((n2 % 4 : Nat) : Int) = R at sR aR
    have aL' : ∀ x ∈ L.data.toList, bl x = true := List.all_eq_true.1 aL
    have aR' : ∀ x ∈ R.data.toList, bl x = true := List.all_eq_true.1 aR
    show ((some four).bind _) = _
    rw [Option.bind_some, hL, hR, trim_f (by omega), Option.bind_some]
    have z1 : (L ++ s).size = L.size + s.size := by rw [ByteArray.size_append]
    have z2 : (L ++ s ++ R).size = L.size + s.size + R.size := by rw [ByteArray.size_append, z1]
    have d1 := dw_len (tr s.data.toList)
    have d2 := tr_len s.data.toList
    rw [size_data] at d2
    have f4 : four.length = 4 := rfl
    have zt : (mkS (dw (tr s.data.toList))).size = (dw (tr s.data.toList)).length := mk_size _
    have z3 : (L ++ mkS (dw (tr s.data.toList))).size = L.size + (dw (tr s.data.toList)).length := by rw [ByteArray.size_append, zt]
    have z4 : (L ++ mkS (dw (tr s.data.toList)) ++ R).size = L.size + (dw (tr s.data.toList)).length + R.size := by rw [ByteArray.size_append, z3]
    have q1 : dw (tr (L ++ s ++ R).data.toList) = dw (tr s.data.toList) := by
      rw [ByteArray.data_append, ByteArray.data_append, Array.toList_append, Array.toList_append]
      exact trim_ends aL' aR'
    have q2 : tr (dw (tr s.data.toList)) = dw (tr s.data.toList) := tr_dw (tr_tr _)
    have q3 : dw (tr (dw (tr s.data.toList))) = dw (tr s.data.toList) := by rw [q2, dw_dw]
    have q4 : tr (L ++ mkS (dw (tr s.data.toList)) ++ R).data.toList = tr (L ++ mkS (dw (tr s.data.toList))).data.toList := by
      rw [ByteArray.data_append, Array.toList_append]
      exact tr_app aR'
    rw [if_pos (by omega), if_pos (by omega), if_pos (by omega), if_pos (by omega), if_pos (by omega), if_pos (by omega), trim_f (by omega), Option.bind_some, q1, if_pos rfl, trim_f (by omega), Option.bind_some, mk_list, q3, if_pos rfl,
      right_f (by omega), Option.bind_some, mk_list, q2, if_pos rfl, if_pos (by omega), if_pos (by omega), right_f (by omega), Option.bind_some, right_f (by omega), Option.bind_some, q4]
    simp
  · rw [decide_eq_true (by omega)]
    simp only [carryalllaw04_TokenBlanks.j0, if_true]
    rw [awake_at K (by omega)]
    rfl
end Go.Proofs.YtflhnhjbbddgmaaDoor.Pure
