/- Two texts, one behind the other, are a token just if both are, or the one that isn't "" is. -/
import Derived.Test.YtflhnhjbbddgmaaDoorPx2
import Derived.Test.YtflhnhjbbddgmaaDoorTok
namespace Go.Proofs.YtflhnhjbbddgmaaDoor.Pure
open Go.RowKit Go.Proofs.YtflhnhjbbddgmaaDoor.P Go.Proofs.YtflhnhjbbddgmaaDoor.Pl Go.Proofs.YtflhnhjbbddgmaaDoor.Tok Go.Proofs.YtflhnhjbbddgmaaDoorW.PrintWords Go.Proofs.YtflhnhjbbddgmaaDoorW.PrintLast

theorem ne_app (a b : ByteArray) : ((a ++ b).toList != []) = ((a.toList != []) || (b.toList != [])) := by
  rw [ByteArray.toList_eq, ByteArray.toList_eq, ByteArray.toList_eq, ByteArray.data_append, Array.toList_append]
  cases a.data.toList <;> cases b.data.toList <;> rfl
theorem ne_false {l : List UInt8} (h : (l != []) = false) : l = [] := by simpa using h
theorem ne_true {l : List UInt8} (h : (l != []) = true) : l ≠ [] := by simpa using h

theorem TokenParts : carryalllaw04_TokenParts.Pure := by
  intro a b ha hb
  obtain ⟨K, hK⟩ : ∃ K : Nat, 600 ≤ K := ⟨600, Nat.le_refl _⟩
  refine ⟨K + 1, ?_⟩
  unfold carryalllaw04_TokenParts.f
  rw [awake_at (K + 1) (by omega), Option.bind_some, if_pos rfl, wrap_in (by omega) (by omega)]
  by_cases hn : a.size + b.size ≤ 500
  · rw [decide_eq_false (by omega)]
    simp only [carryalllaw04_TokenParts.j0, Bool.false_eq_true, if_false]
    have hab : (a ++ b).size = a.size + b.size := by rw [ByteArray.size_append]
    have hsz : a.size + b.size ≤ 9223372036854775807 := by omega
    have fa := is_f (s := a) (k := K) (by omega) (by omega)
    have fb := is_f (s := b) (k := K) (by omega) (by omega)
    have fab := is_f (s := a ++ b) (k := K) (by omega) (by omega)
    rw [ne_app, bytes_append, List.all_append] at fab
    simp only [fa, fb, fab, Option.bind_some, if_pos hsz, ne_app]
    have hA : (a.toList != []) = false → (bytesOf a).all tokB = true := fun h => by
      have := ne_false h
      rw [toList_iff.1 (this.trans (by decide +kernel : ([] : List UInt8) = (⟨#[]⟩ : ByteArray).toList))]; rfl
    have hB : (b.toList != []) = false → (bytesOf b).all tokB = true := fun h => by
      have := ne_false h
      rw [toList_iff.1 (this.trans (by decide +kernel : ([] : List UInt8) = (⟨#[]⟩ : ByteArray).toList))]; rfl
    cases ea : (a.toList != []) <;> cases eb : (b.toList != []) <;> first | have za := ne_false ea | have za := ne_true ea
    all_goals first | have zb := ne_false eb | have zb := ne_true eb
    all_goals simp only [za, zb, if_true, if_false]
    · rw [hA ea, hB eb]; rfl
    · rw [hA ea]; cases (bytesOf b).all tokB <;> rfl
    · rw [hB eb]; cases (bytesOf a).all tokB <;> rfl
    · cases (bytesOf a).all tokB <;> cases (bytesOf b).all tokB <;> rfl
  · rw [decide_eq_true (by omega)]
    simp only [carryalllaw04_TokenParts.j0, if_true]
    rw [awake_at K (by omega)]
    rfl
end Go.Proofs.YtflhnhjbbddgmaaDoor.Pure
