/- What is quoted is read as it was, whatever stands behind; no condition but that of the statement itself. -/
import Derived.Test.YtflhnhjbbddgmaaDoorPx3
import Derived.Test.YtflhnhjbbddgmaaDoorQtp
namespace Go.Proofs.YtflhnhjbbddgmaaDoor.Pure
open Go.RowKit Go.Proofs.YtflhnhjbbddgmaaDoor.P Go.Proofs.YtflhnhjbbddgmaaDoor.Pl Go.Proofs.YtflhnhjbbddgmaaDoor.Qt Go.Proofs.YtflhnhjbbddgmaaDoor.Rpl Go.Proofs.YtflhnhjbbddgmaaDoorW.PrintWords Go.Proofs.YtflhnhjbbddgmaaDoorW.PrintLast
theorem TokenBack : carryalllaw04_TokenBack.Pure := by
  intro s t h1 h2
  unfold carryalllaw04_TokenBack.f
  refine ⟨10000 + 1, ?_⟩
  have hw : wrap64 ((s.size : Int) + (t.size : Int)) = ((s.size + t.size : Nat) : Int) := by rw [wrap_in (by omega) (by omega)]; omega
  rw [hw]
  by_cases hn : ((s.size + t.size : Nat) : Int) > 500
  · rw [awake_at _ (by omega), Option.bind_some, if_pos rfl, decide_eq_true hn, carryalllaw04_TokenBack.j0, if_pos rfl, awake_at _ (by omega)]
    rfl
  · have hs : s.size + t.size ≤ 500 := by omega
    have hl := rep_len (bytesOf s)
    rw [bytesOf_length] at hl
    have hq := quo_bytes s
    have hqz : (quoS s).size = (rep (bytesOf s)).length + 2 := by
      have := congrArg List.length hq
      rw [bytesOf_length] at this
      simp at this
      omega
    have hz : (quoS s ++ t).size ≤ 3000 := by rw [ByteArray.size_append]; omega
    have hb : bytesOf (quoS s ++ t) = 34 :: (rep (bytesOf s) ++ 34 :: bytesOf t) := by rw [bytes_append, hq]; simp
    have hqd : qd (bytesOf (quoS s ++ t)) = (bytesOf s, (rep (bytesOf s)).length + 2) := by
      rw [hb]
      rw [qd_cons, if_pos rfl, unq_rep]
    rw [awake_at _ (by omega), Option.bind_some, if_pos rfl, decide_eq_false hn, carryalllaw04_TokenBack.j0, if_neg Bool.false_ne_true, quote_f s (by omega), Option.bind_some, if_pos (by omega), quoted_f _ (by omega) _ (by omega), Option.bind_some, hqd]
    show (if (strOfNums (bytesOf s)).toList = s.toList then _ else _) = _
    rw [str_bytes, if_pos rfl, hqz]
    simp
end Go.Proofs.YtflhnhjbbddgmaaDoor.Pure
