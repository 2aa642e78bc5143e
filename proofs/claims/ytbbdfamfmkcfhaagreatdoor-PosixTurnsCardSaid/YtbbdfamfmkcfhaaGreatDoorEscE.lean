/- What escape.Encode computes, told on lists of bytes (a part of XEsc). -/
import Derived.Test.YtbbdfamfmkcfhaaGreatDoorPx1
import Derived.Test.YtbbdfamfmkcfhaaGreatDoorPl
namespace Go.Proofs.YtbbdfamfmkcfhaaGreatDoor.EsE
open Go.RowKit Go.Proofs.YtbbdfamfmkcfhaaGreatDoor.P Go.Proofs.YtbbdfamfmkcfhaaGreatDoor.Pl Go.Proofs.YtbbdfamfmkcfhaaGreatDoorW.PrintWords Go.Proofs.YtbbdfamfmkcfhaaGreatDoorW.PrintLast
set_option linter.unusedVariables false
/-! ### what a set has -/
def inB (a c : Int) : Bool := (escape_In.f 1 a c).getD false
theorem in_f (k : Nat) (a c : Int) : escape_In.f (k + 1) a c = some (inB a c) := by
  have H : ∃ b, ∀ k, escape_In.f (k + 1) a c = some b := by
    unfold escape_In.f
    have J : ∀ b, ∃ r, ∀ k, escape_In.j0 (k + 1) a c b = some r := by
      intro b
      cases b
      · obtain ⟨t, ht⟩ : ∃ t, escape_signs.f a = some t := by
          unfold escape_signs.f
          repeat' split
          all_goals exact ⟨_, rfl⟩
        by_cases h1 : c < 32
        · exact ⟨true, fun k => by simp [escape_In.j0, h1]⟩
        · by_cases h2 : c > 126
          · exact ⟨true, fun k => by simp [escape_In.j0, h1, h2]⟩
          · exact ⟨_, fun k => by simp only [escape_In.j0, Bool.false_eq_true, if_false]; rw [if_neg h1, if_neg h2, ht]; rfl⟩
      · exact ⟨false, fun k => rfl⟩
    split
    · exact J true
    · exact J _
  obtain ⟨b, hb⟩ := H
  rw [hb k]
  unfold inB
  rw [hb 0]
  rfl
theorem in_none {a : Int} (h : ¬ (0 ≤ a ∧ a ≤ 6)) (c : Int) : inB a c = false := by
  unfold inB escape_In.f
  by_cases hn : a < 0
  · rw [if_pos hn]; rfl
  · rw [if_neg hn, decide_eq_true (by omega : a > 6)]; rfl

/-! ### bytes, escaped -/
def escs (a : Int) (l : List Int) : List Int := l.flatMap fun c => escape_Encode.enc1 (inB a c) c
theorem go_enc (a : Int) : ∀ l : List Int, (∀ x ∈ l, byte x) → escape_Encode.go a l = some (escs a l)
  | [], _ => rfl
  | c :: t, h => by
    have hc := h c List.mem_cons_self
    rw [escape_Encode.go, if_pos ⟨hc.1, hc.2⟩, in_f 2 a c, Option.bind_some, go_enc a t (fun y hy => h y (List.mem_cons_of_mem _ hy))]
    simp [escs]
theorem enc_f {a : Int} {l : List Int} (h : ∀ x ∈ l, byte x) (hl : l.length * 3 ≤ 140737488355328) : escape_Encode.f a l = some (strOfNums (escs a l)) := by
  unfold escape_Encode.f
  rw [if_pos hl, go_enc a l h]
  rfl
theorem hxd_byte {n : Int} (h0 : 0 ≤ n) (h1 : n ≤ 15) : byte (escape_Encode.hxd n) := by
  unfold escape_Encode.hxd
  split <;> exact ⟨by omega, by omega⟩
theorem enc1_byte {b : Bool} {c : Int} (h : byte c) : ∀ x ∈ escape_Encode.enc1 b c, byte x := by
  intro x hx
  obtain ⟨h0, h1⟩ := h
  unfold escape_Encode.enc1 at hx
  cases b
  · simp at hx
    subst hx
    exact ⟨h0, h1⟩
  · simp at hx
    rcases hx with rfl | rfl | rfl
    · exact ⟨by omega, by omega⟩
    · exact hxd_byte (by omega) (by omega)
    · exact hxd_byte (by omega) (by omega)
theorem escs_byte (a : Int) {l : List Int} (h : ∀ x ∈ l, byte x) : ∀ x ∈ escs a l, byte x := by
  intro x hx
  obtain ⟨c, hc, hx⟩ := List.mem_flatMap.1 hx
  exact enc1_byte (h c hc) x hx
theorem enc1_len (b : Bool) (c : Int) : (escape_Encode.enc1 b c).length ≤ 3 := by
  unfold escape_Encode.enc1
  split <;> simp
theorem escs_len (a : Int) : ∀ l : List Int, (escs a l).length ≤ 3 * l.length
  | [] => Nat.le_refl _
  | c :: t => by
    have h1 := enc1_len (inB a c) c
    have h2 := escs_len a t
    simp only [escs, List.flatMap_cons, List.length_append, List.length_cons] at h2 ⊢
    omega
theorem escs_append (a : Int) (l m : List Int) : escs a (l ++ m) = escs a l ++ escs a m := by simp [escs]

end Go.Proofs.YtbbdfamfmkcfhaaGreatDoor.EsE
