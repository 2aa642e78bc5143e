/- Which schemes are special, and their ports. -/
import Derived.Test.YtamoggikjaoanaaDoorPx2
import Derived.Test.YtamoggikjaoanaaDoorPx3
import Derived.Test.YtamoggikjaoanaaDoorUrlAwake
import Derived.Test.YtamoggikjaoanaaDoorUrlM
namespace Go.Proofs.YtamoggikjaoanaaDoor.UrlP
open Go.RowKit Go.Proofs.YtamoggikjaoanaaDoor.P Go.Proofs.YtamoggikjaoanaaDoor.Url Go.Proofs.YtamoggikjaoanaaDoorW.PrintWords Go.Proofs.YtamoggikjaoanaaDoorW.PrintLast
theorem ref_f (s : ByteArray) (k : Nat) (hk : 5 ≤ k) : carryallref11_Default.f k s = some (port s.data.toList, isSp s.data.toList) := by
  obtain ⟨n, rfl⟩ : ∃ n, k = n + 2 := ⟨k - 2, by omega⟩
  unfold carryallref11_Default.f
  rw [ByteArray.toList_eq]
  generalize hl : s.data.toList = l
  by_cases a1 : l = [102, 116, 112]
  · subst a1; rw [if_pos rfl]; rfl
  rw [if_neg a1]
  by_cases a2 : l = [104, 116, 116, 112]
  · subst a2; rw [if_pos rfl]; rfl
  rw [if_neg a2]
  by_cases a3 : l = [119, 115]
  · subst a3; rfl
  have e3 : (l == ([119, 115] : List UInt8)) = false := by simpa using a3
  rw [e3, carryallref11_Default.j0, if_neg Bool.false_ne_true, ByteArray.toList_eq, hl]
  by_cases a4 : l = [104, 116, 116, 112, 115]
  · subst a4; rw [if_pos rfl]; rfl
  rw [if_neg a4]
  by_cases a5 : l = [119, 115, 115]
  · subst a5; rfl
  have e5 : (l == ([119, 115, 115] : List UInt8)) = false := by simpa using a5
  rw [e5, carryallref11_Default.j1, if_neg Bool.false_ne_true, ByteArray.toList_eq, hl]
  by_cases a6 : l = [102, 105, 108, 101]
  · subst a6; rw [if_pos rfl]; rfl
  rw [if_neg a6]
  have q : port l = -1 := by
    unfold port
    rw [if_neg (show ¬ l = kFtp from a1), if_neg (show ¬ (l = kHttp ∨ l = kWs) from fun h => h.elim a2 a3), if_neg (show ¬ (l = kHttps ∨ l = kWss) from fun h => h.elim a4 a5)]
  have q2 : isSp l = false := by
    unfold isSp
    rw [decide_eq_false (show ¬ l = kWss from a5), decide_eq_false (show ¬ l = kWs from a3), decide_eq_false (show ¬ l = kHttps from a4), decide_eq_false (show ¬ l = kHttp from a2), decide_eq_false (show ¬ l = kFile from a6), decide_eq_false (show ¬ l = kFtp from a1)]
    rfl
  rw [q, q2]
end Go.Proofs.YtamoggikjaoanaaDoor.UrlP
namespace Go.Proofs.YtamoggikjaoanaaDoor.Pure
open Go.RowKit Go.Proofs.YtamoggikjaoanaaDoor.P Go.Proofs.YtamoggikjaoanaaDoor.Url Go.Proofs.YtamoggikjaoanaaDoor.UrlP Go.Proofs.YtamoggikjaoanaaDoorW.PrintWords Go.Proofs.YtamoggikjaoanaaDoorW.PrintLast
theorem UrlSchemes : carryalllaw11_UrlSchemes.Pure := by
  intro s hs
  refine ⟨40 + 1, ?_⟩
  unfold carryalllaw11_UrlSchemes.f
  rw [awake_at (40 + 1) (by omega), Option.bind_some, if_pos rfl]
  by_cases hn : s.size ≤ 200
  · have e1 : url_Special.f s = some (isSp s.data.toList) := by unfold url_Special.f; rw [if_pos (by omega)]
    have e2 : url_Default.f s = some (port s.data.toList) := by unfold url_Default.f; rw [if_pos (by omega)]
    rw [decide_eq_false (by omega), carryalllaw11_UrlSchemes.j0, if_neg Bool.false_ne_true, ref_f s 40 (by omega), Option.bind_some, e1, Option.bind_some, if_pos (by simp), e2, Option.bind_some]
    simp
  · rw [decide_eq_true (by omega), carryalllaw11_UrlSchemes.j0, if_pos rfl, awake_at 40 (by omega)]
    rfl
end Go.Proofs.YtamoggikjaoanaaDoor.Pure
