/- Characters' bytes are read as they were: the row, as the law's machine asks it. -/
import Derived.Test.YtkoddcihcoekgaaDoorBackW
namespace Go.Proofs.YtkoddcihcoekgaaDoor.Dec
open Go.RowKit Go.Proofs.YtkoddcihcoekgaaDoor.P Go.Proofs.YtkoddcihcoekgaaDoor.Pl Go.Proofs.YtkoddcihcoekgaaDoor.Utf Go.Proofs.YtkoddcihcoekgaaDoor.Row Go.Proofs.YtkoddcihcoekgaaDoorW.PrintWords Go.Proofs.YtkoddcihcoekgaaDoorW.PrintLast Go.Proofs.YtkoddcihcoekgaaDoorW.PrintMore
set_option linter.unusedVariables false
theorem back_row (A1 : Option Addr) (c1 : Nat) (l1 : List Int) (A2 : Option Addr) (c2 : Nat) (l2 : List Int) (W : World)
    (rd1 : Row.Reads W A1 l1.length (l1.map (Value.int .i32))) (lc1 : l1.length ≤ c1) (lm1 : l1.length ≤ maxLen) (wf1 : ∀ n ∈ l1, (Lit.int .i32 n).wf = true) (rd2 : Row.Reads W A2 l2.length (l2.map (Value.int .u8))) (lc2 : l2.length ≤ c2) (lm2 : l2.length ≤ maxLen) (wf2 : ∀ n ∈ l2, (Lit.int .u8 n).wf = true) (hT : G.T W) :
    Calls Tryd.prog 6 #[.slice A1 l1.length c1, .slice A2 l2.length c2] W fun e w' => e = .returned (.bool true) ∧ Below W.heap.size W w' := by
  by_cases hbig : 300 < l1.length ∨ 1000 < l2.length
  · exact back_big 50 A1 A2 c1 c2 _ _ W (awake_at 50 (by omega)) hbig hT
  · have h1 : l1.length ≤ 300 := by omega
    have h2 : l2.length ≤ 1000 := by omega
    have w1 : ∀ x ∈ l1, i32 x := fun x hx => by have := wf1 x hx; simpa [Lit.wf, IntKind.min, IntKind.max, IntKind.bits, IntKind.signed, i32] using this
    have b2 : Dec.bytes l2 := fun x hx => byte_of (wf2 x hx)
    have hC : ∀ r ∈ l1.map fixC, isChar r := fun r hr => by
      obtain ⟨x, _, rfl⟩ := List.mem_map.1 hr
      exact fix_char x
    have hX := flat_le l1
    obtain ⟨L, hR, hE, hL, hLC, hF, hV⟩ := both _ l2 rfl b2 (by omega)
    have hY := flat_le L
    have r0 := reads_chars (l1.map fixC) hC (t := []) (L := []) (by intro x hx; cases hx) reads_nil
    rw [List.append_nil, List.append_nil, flat_fix] at r0
    obtain ⟨k1, f1⟩ := reads_f r0 (by omega)
    obtain ⟨k2, f2⟩ := reads_f hR (by omega)
    have hLi : ∀ r ∈ L, i32 r := fun r hr => by obtain ⟨a, b, _⟩ := hLC r hr; exact ⟨by omega, by omega⟩
    have vX : Lib.validD (toU (l1.flatMap enc)) = true := by
      have := valid_flat (l1.map fixC) hC (by rw [List.length_map]; omega)
      rw [flat_fix] at this
      exact this
    have vY := valid_flat L hLC (by omega)
    refine back_walk (k1 + k2 + 3000) A1 A2 c1 c2 _ _ _ _ _ l1 l2 (l1.flatMap enc) L (L.flatMap enc) _ _ _ (Lib.validD (toU l2)) W (awake_at _ (by omega)) h1 h2 hT rfl rfl rfl rfl rfl lc1 lc2 (C_of rd1 lm1) (C_of rd2 lm2)
      (uenc_f l1 (by omega) w1 _ (by omega)) (renc_f l1 (by omega) _ (by omega)) (f1 _ (by omega)) (f2 _ (by omega)) (uenc_f L (by omega) hLi _ (by omega))
      ((uvalid_f (flat_bytes l1)).trans (congrArg some vX)) ((uvalid_f (flat_bytes L)).trans (congrArg some vY)) (uvalid_f b2) (same_f _ (by rw [List.length_map]; omega) _ (by rw [List.length_map]; omega)) rfl rfl rfl ?_
    rw [beq_iff, bytes_str _ (flat_bytes L), bytes_str _ b2]
    by_cases h : L.flatMap enc = l2
    · rw [decide_eq_true h, hV.2 h]
    · rw [decide_eq_false h]
      cases e : Lib.validD (toU l2) with
      | false => rfl
      | true => exact absurd (hV.1 e) h
end Go.Proofs.YtkoddcihcoekgaaDoor.Dec
