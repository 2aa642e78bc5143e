/- The row's listed table of powers of ten, as the walks take it: the program's variable holds it; nothing that a call makes turns it. -/
import Derived.Test.YtamoggikjaoanaaDoorRows
import Derived.Lib.LaidU8
import Derived.Lib.LaidTab
import Derived.Lib.ItoaNum
import Derived.WalkSmall
import Derived.Sort.Grow
import Derived.Deep.Draws
import Derived.Below
import Derived.LaidMore
import Derived.Deep.DeepHandedRow
import Derived.MakeChecks
namespace Go.Proofs.YtamoggikjaoanaaDoor.G
open Go.RowKit
def T (w : World) : Prop := Lib.TabIs Tryd.prog w "internal/strconv.uint64pow10" .u64 Lib.pow10Tab
theorem gPow : ∃ g, Tryd.prog.globalNamed "internal/strconv.uint64pow10" = some g := Option.isSome_iff_exists.1 (by kernel_rfl)
theorem T_below {w w' : World} (h : T w) (hb : Below w.heap.size w w') : T w' := by
  obtain ⟨g, hg⟩ := gPow
  refine Go.var?_below hb hg ?_ h
  have h' : (Tryd.prog.globalNamed "internal/strconv.uint64pow10").bind (fun g => match w.heap[g]? with | some (.cells cs _ _) => some cs | _ => none) = some ((Lib.pow10Tab.map fun z => Value.int .u64 z).toArray) := h
  rw [hg, Option.bind_some] at h'
  rcases Nat.lt_or_ge g w.heap.size with hl | hl
  · exact hl
  · rw [Array.getElem?_eq_none hl] at h'
    cases h'
theorem T_of_laid {W : World} (h : laidMetH Tryd.prog Rows.urlWritesRow.laid W) (_ : W.ShapedOpen Tryd.prog) : T W := by
  rw [MakeChecks.laidMetH_plain _ _ _ (by kernel_rfl)] at h
  obtain ⟨g, t, cs, fuel, p, hg, ht, hv, hd⟩ := Lib.laidMet.reads h (n := "internal/strconv.uint64pow10") (d := Lib.tabData .u64 Lib.pow10Tab) (List.mem_cons_of_mem _ (List.mem_cons_of_mem _ List.mem_cons_self))
  have hty : (Tryd.prog.globalNamed "internal/strconv.uint64pow10").bind (fun g => (Tryd.prog.globals[g]?).map (·.type)) = some t := by rw [hg, Option.bind_some]; exact ht
  obtain rfl : t = 61 := Option.some.inj (hty.symm.trans (by kernel_rfl))
  unfold T Lib.TabIs
  rw [hv, ← Lib.cells_of_tab Tryd.underlying61 Tryd.underlying49 (by kernel_rfl) (by kernel_rfl) hd]
theorem below_grow (w : World) (k : Nat) (os : Array Obj) : Below w.heap.size w (Go.Sort.grow (w.drewN k) os) := by
  refine ⟨rfl, rfl, rfl, ?_, fun i hi => ?_⟩
  · show w.heap.size ≤ (w.heap ++ os).size
    simp
  · show (w.heap ++ os)[i]? = w.heap[i]?
    rw [Array.getElem?_append_left hi]
end Go.Proofs.YtamoggikjaoanaaDoor.G
