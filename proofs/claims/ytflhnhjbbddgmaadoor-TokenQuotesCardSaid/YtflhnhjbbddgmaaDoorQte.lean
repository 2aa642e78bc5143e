/- token.Quote, walked: a text in quotes; what was there has not turned. -/
import Derived.Test.YtflhnhjbbddgmaaDoorRo04
namespace Go.Proofs.YtflhnhjbbddgmaaDoor.Rpl
open Go.RowKit Go.Proofs.YtflhnhjbbddgmaaDoorW.PrintWords Go.Proofs.YtflhnhjbbddgmaaDoorW.PrintLast Go.Proofs.YtflhnhjbbddgmaaDoorW.PrintMore Go.Proofs.YtflhnhjbbddgmaaDoor.Pl
set_option linter.unusedVariables false
set_option linter.unusedSimpArgs false
def quoS (s : ByteArray) : ByteArray := (⟨#[34]⟩ ++ strOfNums (rep (bytesOf s))) ++ ⟨#[34]⟩
def QuoPost (s : ByteArray) (w : World) (e : Ending) (w' : World) : Prop := e = .returned (.string (quoS s)) ∧ Below w.heap.size w w'
set_option maxRecDepth 100000 in
set_option maxHeartbeats 4000000 in
theorem quote_any (s : ByteArray) (w : World) (hs : s.size ≤ 1000000) :
    Calls Tryd.prog 19 #[.string s] w (QuoPost s w) := by
  have HS := Aside0.mk hs
  have HNW := Aside0.mk (show Calls Tryd.prog 33 #[.slice (some ⟨w.heap.size, 0, none⟩) 4 4] (w.alloc (.cells #[.string ⟨#[92]⟩, .string ⟨#[92, 92]⟩, .string ⟨#[34]⟩, .string ⟨#[92, 34]⟩] 9)) _ from new_any w.heap.size 4 _ (by simp) (by simp) (by simp) (by simp))
  have hB0 : Below w.heap.size w (w.alloc (.cells #[.string ⟨#[92]⟩, .string ⟨#[92, 92]⟩, .string ⟨#[34]⟩, .string ⟨#[92, 34]⟩] 9)) := (Below.refl _ _).alloc (Nat.le_refl _) _
  obtain ⟨W0, hW0⟩ : ∃ W0, w.alloc (.cells #[.string ⟨#[92]⟩, .string ⟨#[92, 92]⟩, .string ⟨#[34]⟩, .string ⟨#[92, 34]⟩] 9) = W0 := ⟨_, rfl⟩
  rw [hW0] at HNW hB0
  have HB0 := Aside0.mk hB0
  have hle := rep_len (bytesOf s)
  rw [bytesOf_length] at hle
  obtain ⟨S, hS⟩ : ∃ S, strOfNums (rep (bytesOf s)) = S := ⟨_, rfl⟩
  have hz : S.size ≤ 3000000 := by rw [← hS, strOfNums_size]; omega
  have HSS := Aside0.mk hS
  have q1 : ¬ (9223372036854775807 < 1 + S.size) := by omega
  have q2 : ¬ (9223372036854775807 < 1 + S.size + 1) := by omega
  clear hs hle hS hB0
  go_enter Tryd.func19, Tryd.ntmps19
  go_wp2_with (first
    | (go_at_call 33; (with_reducible refine HNW.out.mono ?_); rintro e w1 ⟨R, g, cap, rfl, hR, hb, hF⟩; have HF := Aside0.mk hF; have HB1 := Aside0.mk (HB0.out.trans (hb.mono HB0.out.size)); have HR := Aside0.mk (Nat.le_trans HB0.out.size hR); clear hF hb hR)
    | (go_at_call 34; (with_reducible refine (replace_any _ _ _ s w.heap.size _ HF.out HR.out HB1.out.size HS.out).mono ?_); rintro e w2 ⟨he, hb⟩; rw [HSS.out] at he; subst he; have HB2 := Aside0.mk (HB1.out.trans hb); clear hb))
  go_ret
  exact ⟨by unfold quoS; rw [HSS.out]; rfl, HB2.out⟩
end Go.Proofs.YtflhnhjbbddgmaaDoor.Rpl
