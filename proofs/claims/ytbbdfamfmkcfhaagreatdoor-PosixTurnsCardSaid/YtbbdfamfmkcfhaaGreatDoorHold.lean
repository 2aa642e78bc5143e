/- A string's bytes in a row of their own: what is read of it. -/
import Derived.Test.YtbbdfamfmkcfhaaGreatDoorProg
import Derived.Test.YtbbdfamfmkcfhaaGreatDoorGWords
import Derived.Test.YtbbdfamfmkcfhaaGreatDoorPl
import Derived.StillTailTactics
import Derived.IntWalk
import Derived.Deep.LoopGhost
import Derived.Deep.QuietTactic
import Derived.OwnWalk
import Derived.BigQuiet
import Derived.Laws.OwnMore
import Derived.Tactics
import Derived.WalkKit
import Derived.KernelRfl
namespace Go.Proofs.YtbbdfamfmkcfhaaGreatDoor.Hld
open Go.RowKit Go.Proofs.YtbbdfamfmkcfhaaGreatDoorW.PrintWords Go.Proofs.YtbbdfamfmkcfhaaGreatDoorW.PrintLast Go.Proofs.YtbbdfamfmkcfhaaGreatDoorW.PrintMore Go.Proofs.YtbbdfamfmkcfhaaGreatDoor.Pl
set_option linter.unusedVariables false
set_option linter.unusedSimpArgs false
/-- Block B holds these numbers, ahead of what else it has. -/
def Holds (B : Nat) (e : TypeId) (xs : List Int) (w : World) : Prop :=
  ∃ cur m, w.heap[B]? = some (.cells cur e (m, m + 1)) ∧ cur.size = m ∧ xs.length ≤ m ∧ cur.toList.take xs.length = xs.map (Value.int .u8)
theorem Holds.cell {B : Nat} {e : TypeId} {xs : List Int} {w : World} (h : Holds B e xs w) (j : Nat) (x : Int) (hj : xs[j]? = some x) : w.cell? ⟨B, j, none⟩ = some (.int .u8 x) := by
  obtain ⟨cur, m, h1, h2, h3, h4⟩ := h
  obtain ⟨hl, _⟩ := List.getElem?_eq_some_iff.1 hj
  have e := congrArg (fun l => l[j]?) h4
  simp only [List.getElem?_map, hj, List.getElem?_take, if_pos hl] at e
  simp only [World.cell?, h1]
  simpa using e
theorem Holds.free {B : Nat} {e : TypeId} {xs : List Int} {w : World} (h : Holds B e xs w) (j : Nat) (hj : j < xs.length) : w.frozen? ⟨B, j, none⟩ = false := by
  obtain ⟨cur, m, h1, h2, h3, h4⟩ := h
  simp [World.frozen?, h1]
  omega
theorem Holds.set {B : Nat} {e : TypeId} {xs : List Int} {w : World} (h : Holds B e xs w) (j : Nat) (x : Int) (hj : j < xs.length) : Holds B e (xs.set j x) (w.setCell ⟨B, j, none⟩ (.int .u8 x)) := by
  obtain ⟨cur, m, h1, h2, h3, h4⟩ := h
  refine ⟨cur.setIfInBounds j (.int .u8 x), m, ?_, by simpa using h2, by simpa using h3, ?_⟩
  · simp [World.setCell, Array.getElem?_modify, h1]
  · rw [Array.toList_setIfInBounds, List.length_set, List.take_set, h4, List.map_set]
theorem Holds.mono {B : Nat} {e : TypeId} {xs : List Int} {w w' : World} (h : Holds B e xs w) (hb : w'.heap[B]? = w.heap[B]?) : Holds B e xs w' := by
  obtain ⟨cur, m, h1, h2, h3, h4⟩ := h
  exact ⟨cur, m, hb.trans h1, h2, h3, h4⟩
theorem Holds.C {B : Nat} {e : TypeId} {xs : List Int} {w : World} (h : Holds B e xs w) (hm : xs.length ≤ 9223372036854775807) : Kd.C (Kd.int .u8) w (some ⟨B, 0, none⟩) xs.length xs := by
  refine Kd.C_of_reads (enc := Value.int .u8) (d := (0 : Int)) (h1 := fun _ => rfl) ⟨rfl, hm, fun _ => ⟨_, rfl, fun j hj => ?_⟩⟩
  have ha : (⟨B, 0, none⟩ : Addr).add j = ⟨B, j, none⟩ := by
    unfold Addr.add
    split <;> simp_all
  rw [ha, h.cell j xs[j] (List.getElem?_eq_getElem hj)]
  simp [List.getD, hj]
theorem holds_new (w : World) (e : TypeId) (s : ByteArray) (hc : s.size ≤ grownCap w s.size 0 e) : Holds w.heap.size e (bytesOf s) (Lib.bytesWorld w e s) := by
  refine ⟨Lib.bytesCells w e s, _, Lib.bytesWorld_at_new w e s, rfl, ?_, ?_⟩
  · rw [bytesOf_length]; simp [Lib.bytesCells]
  · rw [bytesOf_length]
    simp only [Lib.bytesCells, Array.toList_append, Array.toList_map, bytesOf]
    rw [List.take_append_of_le_length (by rw [List.length_map, Array.length_toList]; exact Nat.le_refl _), List.take_of_length_le (by rw [List.length_map, Array.length_toList]; exact Nat.le_refl _), List.map_map]
    rfl

end Go.Proofs.YtbbdfamfmkcfhaaGreatDoor.Hld
