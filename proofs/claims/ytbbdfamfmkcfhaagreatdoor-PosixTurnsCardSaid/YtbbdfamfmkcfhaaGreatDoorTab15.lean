/- What the walks take of the row's list: the table of powers of ten, unicode/utf8's two tables; and that bytealg.MaxLen holds some number: nothing that a call makes turns them. -/
import Derived.Test.YtbbdfamfmkcfhaaGreatDoorRows
import Derived.Test.YtbbdfamfmkcfhaaGreatDoorShelf
import Derived.Test.YtbbdfamfmkcfhaaGreatDoorWMore
import Derived.Lib.SplitLaws
import Derived.Lib.LaidU8
import Derived.Lib.LaidTab
import Derived.Lib.ItoaNum
import Derived.WalkSmall
import Derived.Sort.Grow
import Derived.Deep.Draws
import Derived.Below
import Derived.LaidMore
import Derived.Deep.DeepHandedRow
import Derived.MakeChecks
import Derived.Test.YtbbdfamfmkcfhaaGreatDoorPl
import Derived.Lib.LaidU8T
import Derived.PinnedBridge
import Derived.Deep.LoopGhost
namespace Go.Proofs.YtbbdfamfmkcfhaaGreatDoor.G
open Go.RowKit Go.Shelf Go.Proofs.YtbbdfamfmkcfhaaGreatDoorW.PrintWords Go.Proofs.YtbbdfamfmkcfhaaGreatDoorW.PrintLast Go.Proofs.YtbbdfamfmkcfhaaGreatDoorW.PrintMore Go.Proofs.YtbbdfamfmkcfhaaGreatDoor.Pl
def T10 (w : World) : Prop := Lib.TabIs Tryz.prog w "internal/strconv.uint64pow10" .u64 Lib.pow10Tab
theorem gPow : ∃ g, Tryz.prog.globalNamed "internal/strconv.uint64pow10" = some g := Option.isSome_iff_exists.1 (by kernel_rfl)
theorem T10_below {w w' : World} (h : T10 w) (hb : Below w.heap.size w w') : T10 w' := by
  obtain ⟨g, hg⟩ := gPow
  refine Go.var?_below hb hg ?_ h
  have h' : (Tryz.prog.globalNamed "internal/strconv.uint64pow10").bind (fun g => match w.heap[g]? with | some (.cells cs _ _) => some cs | _ => none) = some ((Lib.pow10Tab.map fun z => Value.int .u64 z).toArray) := h
  rw [hg, Option.bind_some] at h'
  rcases Nat.lt_or_ge g w.heap.size with hl | hl
  · exact hl
  · rw [Array.getElem?_eq_none hl] at h'
    cases h'
def TU (w : World) : Prop := Lib.Utf8Tabs 0 1 w
def T (w : World) : Prop := T10 w ∧ (∃ m, w.cell? ⟨2, 0, none⟩ = some (.int .i64 m)) ∧ TU w
theorem T_below {w w' : World} (h : T w) (hb : Below w.heap.size w w') : T w' := by
  obtain ⟨h1, ⟨m, hm⟩, hu⟩ := h
  refine ⟨T10_below h1 hb, ⟨m, ?_⟩, Utf8Tabs_below hu hb⟩
  have hl : 2 < w.heap.size := by
    rcases Nat.lt_or_ge 2 w.heap.size with hl | hl
    · exact hl
    · unfold World.cell? at hm
      rw [Array.getElem?_eq_none hl] at hm
      cases hm
  rw [← hm]
  unfold World.cell?
  rw [hb.block 2 hl]
theorem T10_of_laid {W : World} (h : laidMetH Tryz.prog Rows.posixPartsRow.laid W) (_ : W.ShapedOpen Tryz.prog) : T10 W := by
  rw [MakeChecks.laidMetH_plain _ _ _ (by kernel_rfl)] at h
  obtain ⟨g, t, cs, fuel, p, hg, ht, hv, hd⟩ := Lib.laidMet.reads h (n := "internal/strconv.uint64pow10") (d := Lib.tabData .u64 Lib.pow10Tab) (List.mem_cons_of_mem _ (List.mem_cons_of_mem _ List.mem_cons_self))
  have hty : (Tryz.prog.globalNamed "internal/strconv.uint64pow10").bind (fun g => (Tryz.prog.globals[g]?).map (·.type)) = some t := by rw [hg, Option.bind_some]; exact ht
  obtain rfl : t = 165 := Option.some.inj (hty.symm.trans (by kernel_rfl))
  unfold T10 Lib.TabIs
  rw [hv, ← Lib.cells_of_tab Tryz.underlying165 Tryz.underlying109 (by kernel_rfl) (by kernel_rfl) hd]
def ren : Ren := ⟨id, fun k => if k = 5 then 5 else if k = 119 then 94 else if k = 138 then 96 else if k = 139 then 97 else k, fun k => if k = 3 then 0 else if k = 4 then 1 else k⟩
theorem TU_of_laid {W : World} (h : laidMetH Tryz.prog Rows.posixPartsRow.laid W) (_ : W.ShapedOpen Tryz.prog) : TU W := by
  rw [MakeChecks.laidMetH_plain _ _ _ (by kernel_rfl)] at h
  have h4 := Lib.laidMet.reads h (n := "unicode/utf8.acceptRanges") (d := Lib.acceptData) (List.mem_cons_of_mem _ (List.mem_cons_of_mem _ (List.mem_cons_of_mem _ List.mem_cons_self)))
  have h3 := Lib.laidMet.reads h (n := "unicode/utf8.first") (d := Pinned.utf8First) (List.mem_cons_of_mem _ (List.mem_cons_of_mem _ (List.mem_cons_of_mem _ (List.mem_cons_of_mem _ List.mem_cons_self))))
  rw [Pinned.utf8First_eq] at h3
  exact utf8Tabs_of_readsT (ρ := ren) ⟨by kernel_rfl, by kernel_rfl, by kernel_rfl, by kernel_rfl⟩ ⟨by kernel_rfl, by kernel_rfl, by kernel_rfl, by kernel_rfl, by kernel_rfl, by kernel_rfl, by kernel_rfl⟩ h3 h4
theorem T_of_laid {W : World} (h : laidMetH Tryz.prog Rows.posixPartsRow.laid W) (hs : W.ShapedOpen Tryz.prog) : T W := ⟨T10_of_laid h hs, Tryz.laysM146.s1_3 W hs, TU_of_laid h hs⟩
/-- The new row that strings.Split makes. -/
theorem row_new (w : World) (xs : List ByteArray) (hm : xs.length ≤ 9223372036854775807) : Kd.R Kd.string 9 (w.alloc (.cells (xs.map Value.string).toArray 9)) w.heap.size (fun _ => True) (.slice (some ⟨w.heap.size, 0, none⟩) xs.length xs.length) xs := by
  refine ⟨fun _ _ => trivial, xs.map Value.string, ⟨by rw [List.length_map]; show _ = _ * 1; omega, .inr ⟨w.heap.size, xs.length, (xs.map Value.string).toArray, rfl, Nat.le_refl _, ?_, Nat.le_refl _, ?_, ?_, ?_⟩⟩, ?_⟩
  · show (w.heap.push _)[w.heap.size]? = _
    simp
  · simpa [maxLen] using hm
  · show _ = _ * 1
    simp
  · show (List.take (_ * 1) _) = _
    simp
    exact List.take_of_length_le (by rw [List.length_map]; exact Nat.le_refl _)
  · refine ⟨by rw [List.length_map]; show _ = _ * 1; omega, fun j p hj => ?_⟩
    show _ = _
    obtain ⟨hl, rfl⟩ := List.getElem?_eq_some_iff.1 hj
    show ((List.map Value.string xs).drop (j * 1)).take 1 = [Value.string xs[j]]
    rw [Nat.mul_one, ← List.map_drop, List.drop_eq_getElem_cons hl]
    rfl
theorem addr_plain {w : World} {ad : Addr} {v : Value} (h : w.cell? (ad.add 0) = some v) : ad.spot = none ∧ ad.block < w.heap.size := by
  obtain ⟨b, o, sp⟩ := ad
  cases sp with
  | none =>
    refine ⟨rfl, ?_⟩
    have e : (⟨b, o, none⟩ : Addr).add 0 = ⟨b, o, none⟩ := rfl
    rw [e] at h
    rcases Nat.lt_or_ge b w.heap.size with hl | hl
    · exact hl
    · unfold World.cell? at h
      rw [Array.getElem?_eq_none hl] at h
      cases h
  | some x =>
    exfalso
    have e : ((⟨b, o, some x⟩ : Addr).add 0).spot.isSome = true := rfl
    unfold World.cell? at h
    split at h
    · rw [if_pos e] at h; cases h
    · cases h
theorem below_grow (w : World) (k : Nat) (os : Array Obj) : Below w.heap.size w (Go.Sort.grow (w.drewN k) os) := by
  refine ⟨rfl, rfl, rfl, ?_, fun i hi => ?_⟩
  · show w.heap.size ≤ (w.heap ++ os).size
    simp
  · show (w.heap ++ os)[i]? = w.heap[i]?
    rw [Array.getElem?_append_left hi]
/-- A slice of numbers that is read, that has one at least: its address, and its cells. -/
theorem cells_of {w : World} {A : Option Addr} {n : Nat} {l : List Int} (h : Kd.C (Kd.int .u8) w A n l) (hn : n = l.length) (h1 : 0 < l.length) : ∃ b o, A = some ⟨b, o, none⟩ ∧ ∀ j, j < l.length → w.cell? ⟨b, o + j, none⟩ = some (.int .u8 (l.getD j 0)) := by
  subst hn
  obtain ⟨_, _, hc⟩ := Kd.reads_of_C (enc := Value.int .u8) (d := (0 : Int)) (h1 := fun _ => rfl) h
  obtain ⟨ad, rfl, hcell⟩ := hc h1
  obtain ⟨hs, hb⟩ := addr_plain (hcell 0 h1)
  obtain ⟨b, o, sp⟩ := ad
  simp only at hs hb
  subst hs
  refine ⟨b, o, rfl, fun j hj => ?_⟩
  have e : (⟨b, o, none⟩ : Addr).add j = ⟨b, o + j, none⟩ := by unfold Addr.add; split <;> simp_all
  have := hcell j hj
  rw [e] at this
  exact this
set_option maxHeartbeats 1000000 in
set_option maxRecDepth 100000 in
theorem valid_nil (A0 : Option Addr) (c0 : Nat) (w : World) : Calls Tryz.prog 38 #[.slice A0 0 c0] w fun e w' => e = .returned (.bool true) ∧ Below w.heap.size w w' := by
  go_enter Tryz.func38, Tryz.ntmps38
  cases A0 <;> go_wp2
  all_goals (
    go_loopw [0] (fun p wr => (∃ A c, p = .slice A 0 c) ∧ Below w.heap.size w wr) (fun _ _ => 0)
    case atStart => exact ⟨⟨_, _, rfl⟩, Below.refl _ _⟩
    case round =>
      obtain ⟨⟨A, c, rfl⟩, hB⟩ := hrel
      go_wp2
      go_ret
      exact ⟨rfl, hB⟩)
end Go.Proofs.YtbbdfamfmkcfhaaGreatDoor.G
