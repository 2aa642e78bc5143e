/- Arguments opened: slices of texts, of truth values, of whole numbers, as rows of values that are read. -/
import Derived.Test.YtkoddcihcoekgaaDoorRow
import Derived.SliceStrings
import Derived.ChangeSlices
import Derived.Deep.Grids
import Derived.Below
namespace Go.Proofs.YtkoddcihcoekgaaDoor.Row
open Go.ChangeShapes Go.WideShapes Go.ChangeAt Go.RowKit
/-- The row of n values at A reads so. -/
def Reads (w : World) (A : Option Addr) (n : Nat) (us : List Value) : Prop := us.length = n ∧ (0 < n → ∃ ad, A = some ad ∧ ∀ j, j < n → w.cell? (ad.add j) = some (us.getD j undef))
theorem Reads.below {w w' : World} {A : Option Addr} {n : Nat} {us : List Value} (h : Reads w A n us) (hb : Below w.heap.size w w') : Reads w' A n us := by
  refine ⟨h.1, fun hn => ?_⟩
  obtain ⟨ad, e, hc⟩ := h.2 hn
  refine ⟨ad, e, fun j hj => ?_⟩
  have h1 := hc j hj
  have hlt : (ad.add j).block < w.heap.size := by
    unfold World.cell? at h1
    split at h1
    · rename_i cs t fr hb
      exact (Array.getElem?_eq_some_iff.1 hb).1
    · cases h1
  rw [hb.cell hlt]
  exact h1
section
variable {H : Type} {enc : TypeId × Value → H} {P : Program} {w : World} {base : Nat} {held : Bool} {r : Reach} {b0 : Nat} {t : TypeId} {v : Value} {d : DataW H} {p : List MemPlace}
theorem reads_nil (w : World) : Reads w none 0 [] := ⟨rfl, fun h => absurd h (by decide)⟩
theorem open_vstrs {e : TypeId} (ht : P.underlying t = some (.slice e)) (he : P.underlying e = some .string) (hce : P.cellsOf e = 1) (hv : Value.okWide P w r b0 t v) (h : DataW.Trod enc P w base (fun _ => true) held t v d p) :
    ∃ (A : Option Addr) (c : Nat) (l : List ByteArray), v = .slice A l.length c ∧ l.length ≤ c ∧ l.length ≤ maxLen ∧ Reads w A l.length (l.map Value.string) := by
  obtain ⟨a0, len0, cap0, rfl⟩ := okWide_slice ht hv
  obtain ⟨fuel, hf⟩ := h
  rcases open_strings ht he hce hf with ⟨hcs, _⟩ | ⟨x, len, cap, ss, hcs, _, hl, hm, hz, _, hcell, _⟩
  · simp [Value.cells] at hcs
    obtain ⟨rfl, rfl, rfl⟩ := hcs
    exact ⟨none, 0, [], rfl, Nat.le_refl _, Nat.zero_le _, reads_nil w⟩
  · simp [Value.cells] at hcs
    obtain ⟨rfl, rfl, rfl⟩ := hcs
    simp only [if_true] at hz
    have hlen : (ss.take len0).length = len0 := by rw [List.length_take]; omega
    refine ⟨some x, cap0, ss.take len0, by rw [hlen], by rw [hlen]; exact hl, by rw [hlen]; omega, by rw [List.length_map], fun _ => ⟨x, rfl, fun j hj => ?_⟩⟩
    rw [hlen] at hj
    rw [hcell j (by omega)]
    have h1 : j < ss.length := by omega
    simp [List.getD, hj, h1]
theorem open_vints {e : TypeId} {k : IntKind} (ht : P.underlying t = some (.slice e)) (he : P.underlying e = some (.int k)) (hce : P.cellsOf e = 1) (hv : Value.okWide P w r b0 t v) (h : DataW.Trod enc P w base (fun _ => true) held t v d p) :
    ∃ (A : Option Addr) (c : Nat) (l : List Int), v = .slice A l.length c ∧ l.length ≤ c ∧ l.length ≤ maxLen ∧ Reads w A l.length (l.map (Value.int k)) ∧ ∀ n ∈ l, (Lit.int k n).wf = true := by
  obtain ⟨a0, len0, cap0, rfl⟩ := okWide_slice ht hv
  obtain ⟨fuel, hf⟩ := h
  rcases open_ints ht he hce hf with ⟨hcs, _⟩ | ⟨x, len, cap, ss, hcs, _, hl, hm, hz, _, hcell, hwf⟩
  · simp [Value.cells] at hcs
    obtain ⟨rfl, rfl, rfl⟩ := hcs
    exact ⟨none, 0, [], rfl, Nat.le_refl _, Nat.zero_le _, reads_nil w, fun n hn => by simp at hn⟩
  · simp [Value.cells] at hcs
    obtain ⟨rfl, rfl, rfl⟩ := hcs
    simp only [if_true] at hz
    have hlen : (ss.take len0).length = len0 := by rw [List.length_take]; omega
    refine ⟨some x, cap0, ss.take len0, by rw [hlen], by rw [hlen]; exact hl, by rw [hlen]; omega, ⟨by rw [List.length_map], fun _ => ⟨x, rfl, fun j hj => ?_⟩⟩, fun n hn => hwf n (List.mem_of_mem_take hn)⟩
    rw [hlen] at hj
    rw [hcell j (by omega)]
    have h1 : j < ss.length := by omega
    simp [List.getD, hj, h1]
theorem open_vbools {e : TypeId} (ht : P.underlying t = some (.slice e)) (he : P.underlying e = some .bool) (hce : P.cellsOf e = 1) (hv : Value.okWide P w r b0 t v) (h : DataW.Trod enc P w base (fun _ => true) held t v d p) :
    ∃ (A : Option Addr) (c : Nat) (l : List Bool), v = .slice A l.length c ∧ l.length ≤ c ∧ l.length ≤ maxLen ∧ Reads w A l.length (l.map Value.bool) := by
  obtain ⟨a0, len0, cap0, rfl⟩ := okWide_slice ht hv
  obtain ⟨fuel, hf⟩ := h
  rcases Go.Deep.open_bools ht he hce hf with ⟨hcs, _⟩ | ⟨x, len, cap, B, hcs, _, hl, hm, _, hcell⟩
  · simp [Value.cells] at hcs
    obtain ⟨rfl, rfl, rfl⟩ := hcs
    exact ⟨none, 0, [], rfl, Nat.le_refl _, Nat.zero_le _, reads_nil w⟩
  · simp [Value.cells] at hcs
    obtain ⟨rfl, rfl, rfl⟩ := hcs
    have hlen : ((List.range len0).map B).length = len0 := by simp
    refine ⟨some x, cap0, (List.range len0).map B, by rw [hlen], by rw [hlen]; exact hl, by rw [hlen]; omega, by rw [List.length_map], fun _ => ⟨x, rfl, fun j hj => ?_⟩⟩
    rw [hlen] at hj
    rw [hcell j (by omega)]
    simp [List.getD, hj]
end
end Go.Proofs.YtkoddcihcoekgaaDoor.Row
