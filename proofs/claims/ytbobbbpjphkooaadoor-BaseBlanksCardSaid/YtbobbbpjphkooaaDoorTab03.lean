/- What the walks take of the row's list: unicode/utf8's two tables: nothing that a call makes turns them. -/
import Derived.Test.YtbobbbpjphkooaaDoorRows
import Derived.Test.YtbobbbpjphkooaaDoorShelf
import Derived.Test.YtbobbbpjphkooaaDoorWMore
import Derived.Test.YtbobbbpjphkooaaDoorPl
import Derived.Lib.LaidU8T
import Derived.Lib.LaidTab
import Derived.PinnedBridge
import Derived.Below
import Derived.LaidMore
import Derived.Deep.DeepHandedRow
import Derived.MakeChecks
import Derived.Deep.LoopGhost
namespace Go.Proofs.YtbobbbpjphkooaaDoor.G
open Go.RowKit Go.Shelf Go.Proofs.YtbobbbpjphkooaaDoorW.PrintWords Go.Proofs.YtbobbbpjphkooaaDoorW.PrintLast Go.Proofs.YtbobbbpjphkooaaDoorW.PrintMore Go.Proofs.YtbobbbpjphkooaaDoor.Pl
def T (w : World) : Prop := Lib.Utf8Tabs 1 2 w
theorem T_below {w w' : World} (h : T w) (hb : Below w.heap.size w w') : T w' := Utf8Tabs_below h hb
def ren : Ren := ⟨id, fun k => if k = 5 then 5 else if k = 119 then 67 else if k = 138 then 69 else if k = 139 then 70 else k, fun k => if k = 3 then 1 else if k = 4 then 2 else k⟩
theorem T_of_laid {W : World} (h : laidMetH Tryd.prog Rows.baseReadsRow.laid W) (_ : W.ShapedOpen Tryd.prog) : T W := by
  rw [MakeChecks.laidMetH_plain _ _ _ (by kernel_rfl)] at h
  have h4 := Lib.laidMet.reads h (n := "unicode/utf8.acceptRanges") (d := Lib.acceptData) List.mem_cons_self
  have h3 := Lib.laidMet.reads h (n := "unicode/utf8.first") (d := Pinned.utf8First) (List.mem_cons_of_mem _ List.mem_cons_self)
  rw [Pinned.utf8First_eq] at h3
  exact utf8Tabs_of_readsT (ρ := ren) ⟨by kernel_rfl, by kernel_rfl, by kernel_rfl, by kernel_rfl⟩ ⟨by kernel_rfl, by kernel_rfl, by kernel_rfl, by kernel_rfl, by kernel_rfl, by kernel_rfl, by kernel_rfl⟩ h3 h4
theorem addr_plain {w : World} {ad : Addr} {v : Value} (h : w.cell? (ad.add 0) = some v) : ad.spot = none ∧ ad.block < w.heap.size := by
  obtain ⟨b, o, sp⟩ := ad
  cases sp with
  | none =>
    refine ⟨rfl, ?_⟩
    have e : (⟨b, o, none⟩ : Addr).add 0 = ⟨b, o, none⟩ := rfl
    rw [e] at h
    rcases Nat.lt_or_ge b w.heap.size with hl | hl
    · exact hl
    · unfold World.cell? at h
      rw [Array.getElem?_eq_none hl] at h
      cases h
  | some x =>
    exfalso
    have e : ((⟨b, o, some x⟩ : Addr).add 0).spot.isSome = true := rfl
    unfold World.cell? at h
    split at h
    · rw [if_pos e] at h; cases h
    · cases h
/-- A slice of numbers that is read, that has one at least: its address, and its cells. -/
theorem cells_of {w : World} {A : Option Addr} {n : Nat} {l : List Int} (h : Kd.C (Kd.int .u8) w A n l) (hn : n = l.length) (h1 : 0 < l.length) : ∃ b o, A = some ⟨b, o, none⟩ ∧ ∀ j, j < l.length → w.cell? ⟨b, o + j, none⟩ = some (.int .u8 (l.getD j 0)) := by
  subst hn
  obtain ⟨_, _, hc⟩ := Kd.reads_of_C (enc := Value.int .u8) (d := (0 : Int)) (h1 := fun _ => rfl) h
  obtain ⟨ad, rfl, hcell⟩ := hc h1
  obtain ⟨hs, hb⟩ := addr_plain (hcell 0 h1)
  obtain ⟨b, o, sp⟩ := ad
  simp only at hs hb
  subst hs
  refine ⟨b, o, rfl, fun j hj => ?_⟩
  have e : (⟨b, o, none⟩ : Addr).add j = ⟨b, o + j, none⟩ := by unfold Addr.add; split <;> simp_all
  have := hcell j hj
  rw [e] at this
  exact this
end Go.Proofs.YtbobbbpjphkooaaDoor.G
