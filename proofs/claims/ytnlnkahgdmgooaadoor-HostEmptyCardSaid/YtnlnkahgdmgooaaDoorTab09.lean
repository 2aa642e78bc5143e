/- What the walks take of the row's list: the table of powers of ten; and that bytealg.MaxLen holds some number: nothing that a call makes turns them. -/
import Derived.Test.YtnlnkahgdmgooaaDoorRows
import Derived.Test.YtnlnkahgdmgooaaDoorShelf
import Derived.Test.YtnlnkahgdmgooaaDoorWMore
import Derived.Lib.SplitLaws
import Derived.Lib.LaidU8
import Derived.Lib.LaidTab
import Derived.Lib.ItoaNum
import Derived.WalkSmall
import Derived.Sort.Grow
import Derived.Deep.Draws
import Derived.Below
import Derived.LaidMore
import Derived.Deep.DeepHandedRow
import Derived.MakeChecks
namespace Go.Proofs.YtnlnkahgdmgooaaDoor.G
open Go.RowKit Go.Proofs.YtnlnkahgdmgooaaDoorW.PrintWords
def T10 (w : World) : Prop := Lib.TabIs Tryd.prog w "internal/strconv.uint64pow10" .u64 Lib.pow10Tab
theorem gPow : ∃ g, Tryd.prog.globalNamed "internal/strconv.uint64pow10" = some g := Option.isSome_iff_exists.1 (by kernel_rfl)
theorem T10_below {w w' : World} (h : T10 w) (hb : Below w.heap.size w w') : T10 w' := by
  obtain ⟨g, hg⟩ := gPow
  refine Go.var?_below hb hg ?_ h
  have h' : (Tryd.prog.globalNamed "internal/strconv.uint64pow10").bind (fun g => match w.heap[g]? with | some (.cells cs _ _) => some cs | _ => none) = some ((Lib.pow10Tab.map fun z => Value.int .u64 z).toArray) := h
  rw [hg, Option.bind_some] at h'
  rcases Nat.lt_or_ge g w.heap.size with hl | hl
  · exact hl
  · rw [Array.getElem?_eq_none hl] at h'
    cases h'
def T (w : World) : Prop := T10 w ∧ ∃ m, w.cell? ⟨0, 0, none⟩ = some (.int .i64 m)
theorem T_below {w w' : World} (h : T w) (hb : Below w.heap.size w w') : T w' := by
  obtain ⟨h1, m, hm⟩ := h
  refine ⟨T10_below h1 hb, m, ?_⟩
  have hl : 0 < w.heap.size := by
    rcases Nat.lt_or_ge 0 w.heap.size with hl | hl
    · exact hl
    · unfold World.cell? at hm
      rw [Array.getElem?_eq_none hl] at hm
      cases hm
  rw [← hm]
  unfold World.cell?
  rw [hb.block 0 hl]
theorem T10_of_laid {W : World} (h : laidMetH Tryd.prog Rows.hostEmptyRow.laid W) (_ : W.ShapedOpen Tryd.prog) : T10 W := by
  rw [MakeChecks.laidMetH_plain _ _ _ (by kernel_rfl)] at h
  obtain ⟨g, t, cs, fuel, p, hg, ht, hv, hd⟩ := Lib.laidMet.reads h (n := "internal/strconv.uint64pow10") (d := Lib.tabData .u64 Lib.pow10Tab) (List.mem_cons_of_mem _ (List.mem_cons_of_mem _ List.mem_cons_self))
  have hty : (Tryd.prog.globalNamed "internal/strconv.uint64pow10").bind (fun g => (Tryd.prog.globals[g]?).map (·.type)) = some t := by rw [hg, Option.bind_some]; exact ht
  obtain rfl : t = 110 := Option.some.inj (hty.symm.trans (by kernel_rfl))
  unfold T10 Lib.TabIs
  rw [hv, ← Lib.cells_of_tab Tryd.underlying110 Tryd.underlying70 (by kernel_rfl) (by kernel_rfl) hd]
theorem T_of_laid {W : World} (h : laidMetH Tryd.prog Rows.hostEmptyRow.laid W) (hs : W.ShapedOpen Tryd.prog) : T W := ⟨T10_of_laid h hs, Tryd.laysM146.s1_3 W hs⟩
/-- The new row that strings.Split makes. -/
theorem row_new (w : World) (xs : List ByteArray) (hm : xs.length ≤ 9223372036854775807) : Kd.R Kd.string 9 (w.alloc (.cells (xs.map Value.string).toArray 9)) w.heap.size (fun _ => True) (.slice (some ⟨w.heap.size, 0, none⟩) xs.length xs.length) xs := by
  refine ⟨fun _ _ => trivial, xs.map Value.string, ⟨by rw [List.length_map]; show _ = _ * 1; omega, .inr ⟨w.heap.size, xs.length, (xs.map Value.string).toArray, rfl, Nat.le_refl _, ?_, Nat.le_refl _, ?_, ?_, ?_⟩⟩, ?_⟩
  · show (w.heap.push _)[w.heap.size]? = _
    simp
  · simpa [maxLen] using hm
  · show _ = _ * 1
    simp
  · show (List.take (_ * 1) _) = _
    simp
    exact List.take_of_length_le (by rw [List.length_map]; exact Nat.le_refl _)
  · refine ⟨by rw [List.length_map]; show _ = _ * 1; omega, fun j p hj => ?_⟩
    show _ = _
    obtain ⟨hl, rfl⟩ := List.getElem?_eq_some_iff.1 hj
    show ((List.map Value.string xs).drop (j * 1)).take 1 = [Value.string xs[j]]
    rw [Nat.mul_one, ← List.map_drop, List.drop_eq_getElem_cons hl]
    rfl
theorem addr_plain {w : World} {ad : Addr} {v : Value} (h : w.cell? (ad.add 0) = some v) : ad.spot = none ∧ ad.block < w.heap.size := by
  obtain ⟨b, o, sp⟩ := ad
  cases sp with
  | none =>
    refine ⟨rfl, ?_⟩
    have e : (⟨b, o, none⟩ : Addr).add 0 = ⟨b, o, none⟩ := rfl
    rw [e] at h
    rcases Nat.lt_or_ge b w.heap.size with hl | hl
    · exact hl
    · unfold World.cell? at h
      rw [Array.getElem?_eq_none hl] at h
      cases h
  | some x =>
    exfalso
    have e : ((⟨b, o, some x⟩ : Addr).add 0).spot.isSome = true := rfl
    unfold World.cell? at h
    split at h
    · rw [if_pos e] at h; cases h
    · cases h
theorem join_of (A0 : Option Addr) (c0 : Nat) (l0 : List ByteArray) (a1 : ByteArray) (w : World) (hr0 : Kd.C Kd.string w A0 l0.length l0) (hc0 : l0.length ≤ c0) (h1 : l0.length ≤ 140737488355328)
    (h2 : (Lib.join (l0.map (·.data.toList)) a1.data.toList).length ≤ 140737488355328) :
    Calls Tryd.prog 40 #[.slice A0 l0.length c0, .string a1] w fun e w' => e = .returned (.string ⟨(Lib.join (l0.map (·.data.toList)) a1.data.toList).toArray⟩) ∧ Below w.heap.size w w' := by
  cases l0 with
  | nil => exact (Tryd.strings_Join_none A0 c0 a1 w).mono (fun e w' hh => ⟨hh.1, hh.2 ▸ Below.refl _ _⟩)
  | cons x l0 =>
    obtain ⟨_, _, hc⟩ := Kd.reads_of_C (enc := Value.string) (d := ByteArray.empty) (h1 := fun _ => rfl) hr0
    obtain ⟨ad, rfl, hcell⟩ := hc (by simp)
    obtain ⟨hs, hb⟩ := addr_plain (hcell 0 (by simp))
    obtain ⟨b, o, sp⟩ := ad
    simp only at hs hb
    subst hs
    refine Tryd.strings_Join b o c0 (x :: l0) a1 w (fun j y hj => ?_) hb h1 hc0 h2
    obtain ⟨hl, rfl⟩ := List.getElem?_eq_some_iff.1 hj
    have e : (⟨b, o, none⟩ : Addr).add j = ⟨b, o + j, none⟩ := by unfold Addr.add; split <;> simp_all
    have := hcell j hl
    rw [e] at this
    rw [this, List.getD_eq_getElem?_getD, List.getElem?_eq_getElem hl]
    rfl
theorem below_grow (w : World) (k : Nat) (os : Array Obj) : Below w.heap.size w (Go.Sort.grow (w.drewN k) os) := by
  refine ⟨rfl, rfl, rfl, ?_, fun i hi => ?_⟩
  · show w.heap.size ≤ (w.heap ++ os).size
    simp
  · show (w.heap ++ os)[i]? = w.heap[i]?
    rw [Array.getElem?_append_left hi]
end Go.Proofs.YtnlnkahgdmgooaaDoor.G
