/- utf.Lower, walked: whatever text up to 2^47 bytes: its bytes, capitals made small; what was there has not turned. -/
import Derived.Test.YtnlnkahgdmgooaaDoorProg
import Derived.Test.YtnlnkahgdmgooaaDoorGWords
import Derived.Test.YtnlnkahgdmgooaaDoorPl
import Derived.StillTailTactics
import Derived.IntWalk
import Derived.Deep.LoopGhost
import Derived.Deep.QuietTactic
import Derived.OwnWalk
import Derived.BigQuiet
import Derived.Laws.OwnMore
import Derived.Tactics
import Derived.WalkKit
import Derived.KernelRfl
namespace Go.Proofs.YtnlnkahgdmgooaaDoor.Low
open Go.RowKit Go.Proofs.YtnlnkahgdmgooaaDoorW.PrintWords Go.Proofs.YtnlnkahgdmgooaaDoorW.PrintLast Go.Proofs.YtnlnkahgdmgooaaDoorW.PrintMore Go.Proofs.YtnlnkahgdmgooaaDoor.Pl Go.Proofs.YtnlnkahgdmgooaaDoor.G
set_option linter.unusedVariables false

def low (c : Int) : Int := if 65 ≤ c ∧ c ≤ 90 then c + 32 else c
def xsl (l : List Int) (k : Nat) : List Int := (l.take k).map low ++ l.drop k
theorem xsl_len (l : List Int) (k : Nat) : (xsl l k).length = l.length := by
  unfold xsl
  rw [List.length_append, List.length_map, List.length_take, List.length_drop]
  omega
theorem xsl_zero (l : List Int) : xsl l 0 = l := by simp [xsl]
theorem xsl_all (l : List Int) (k : Nat) (h : l.length ≤ k) : xsl l k = l.map low := by
  unfold xsl
  rw [List.take_of_length_le h, List.drop_eq_nil_of_le h, List.append_nil]
theorem xsl_at (l : List Int) (k : Nat) (h : k < l.length) : (xsl l k)[k]? = some l[k] := by
  unfold xsl
  rw [List.getElem?_append_right (by rw [List.length_map, List.length_take]; omega), List.length_map, List.length_take, Nat.min_eq_left (by omega), Nat.sub_self, List.getElem?_drop, Nat.add_zero, List.getElem?_eq_getElem h]
theorem xsl_step (l : List Int) (k : Nat) (h : k < l.length) : (xsl l k).set k (low l[k]) = xsl l (k + 1) := by
  unfold xsl
  rw [List.set_append_right _ _ (by rw [List.length_map, List.length_take]; omega), List.length_map, List.length_take, Nat.min_eq_left (by omega), Nat.sub_self, List.drop_eq_getElem_cons h, List.set_cons_zero, List.take_succ_eq_append_getElem h, List.map_append, List.append_assoc]
  rfl
theorem set_same (l : List Int) (k : Nat) (x : Int) (h : l[k]? = some x) : l.set k x = l := by
  obtain ⟨h0, h1⟩ := List.getElem?_eq_some_iff.1 h
  rw [← h1]
  exact List.set_getElem_self h0

/-- Block B holds these numbers, ahead of what else it has. -/
def Holds (B : Nat) (e : TypeId) (xs : List Int) (w : World) : Prop :=
  ∃ cur m, w.heap[B]? = some (.cells cur e (m, m + 1)) ∧ cur.size = m ∧ xs.length ≤ m ∧ cur.toList.take xs.length = xs.map (Value.int .u8)
theorem Holds.cell {B : Nat} {e : TypeId} {xs : List Int} {w : World} (h : Holds B e xs w) (j : Nat) (x : Int) (hj : xs[j]? = some x) : w.cell? ⟨B, j, none⟩ = some (.int .u8 x) := by
  obtain ⟨cur, m, h1, h2, h3, h4⟩ := h
  obtain ⟨hl, _⟩ := List.getElem?_eq_some_iff.1 hj
  have e := congrArg (fun l => l[j]?) h4
  simp only [List.getElem?_map, hj, List.getElem?_take, if_pos hl] at e
  simp only [World.cell?, h1]
  simpa using e
theorem Holds.free {B : Nat} {e : TypeId} {xs : List Int} {w : World} (h : Holds B e xs w) (j : Nat) (hj : j < xs.length) : w.frozen? ⟨B, j, none⟩ = false := by
  obtain ⟨cur, m, h1, h2, h3, h4⟩ := h
  simp [World.frozen?, h1]
  omega
theorem Holds.set {B : Nat} {e : TypeId} {xs : List Int} {w : World} (h : Holds B e xs w) (j : Nat) (x : Int) (hj : j < xs.length) : Holds B e (xs.set j x) (w.setCell ⟨B, j, none⟩ (.int .u8 x)) := by
  obtain ⟨cur, m, h1, h2, h3, h4⟩ := h
  refine ⟨cur.setIfInBounds j (.int .u8 x), m, ?_, by simpa using h2, by simpa using h3, ?_⟩
  · simp [World.setCell, Array.getElem?_modify, h1]
  · rw [Array.toList_setIfInBounds, List.length_set, List.take_set, h4, List.map_set]
theorem Holds.mono {B : Nat} {e : TypeId} {xs : List Int} {w w' : World} (h : Holds B e xs w) (hb : w'.heap[B]? = w.heap[B]?) : Holds B e xs w' := by
  obtain ⟨cur, m, h1, h2, h3, h4⟩ := h
  exact ⟨cur, m, hb.trans h1, h2, h3, h4⟩
theorem Holds.C {B : Nat} {e : TypeId} {xs : List Int} {w : World} (h : Holds B e xs w) (hm : xs.length ≤ 9223372036854775807) : Kd.C (Kd.int .u8) w (some ⟨B, 0, none⟩) xs.length xs := by
  refine Kd.C_of_reads (enc := Value.int .u8) (d := (0 : Int)) (h1 := fun _ => rfl) ⟨rfl, hm, fun _ => ⟨_, rfl, fun j hj => ?_⟩⟩
  have ha : (⟨B, 0, none⟩ : Addr).add j = ⟨B, j, none⟩ := by
    unfold Addr.add
    split <;> simp_all
  rw [ha, h.cell j xs[j] (List.getElem?_eq_getElem hj)]
  simp [List.getD, hj]
theorem holds_new (w : World) (e : TypeId) (s : ByteArray) (hc : s.size ≤ grownCap w s.size 0 e) : Holds w.heap.size e (bytesOf s) (Lib.bytesWorld w e s) := by
  refine ⟨Lib.bytesCells w e s, _, Lib.bytesWorld_at_new w e s, rfl, ?_, ?_⟩
  · rw [bytesOf_length]; simp [Lib.bytesCells]
  · rw [bytesOf_length]
    simp only [Lib.bytesCells, Array.toList_append, Array.toList_map, bytesOf]
    rw [List.take_append_of_le_length (by rw [List.length_map, Array.length_toList]; exact Nat.le_refl _), List.take_of_length_le (by rw [List.length_map, Array.length_toList]; exact Nat.le_refl _), List.map_map]
    rfl

theorem below_set {B : Nat} {w w' : World} (h : Below B w w') (j : Nat) (v : Value) : Below B w (w'.setCell ⟨B, j, none⟩ v) := by
  refine ⟨h.os, h.tape, h.output, by simpa [World.setCell] using h.size, fun k hk => ?_⟩
  rw [← h.block k hk]
  simp only [World.setCell]
  rw [Array.getElem?_modify]
  have : B ≠ k := by omega
  simp [this]
theorem u8_low {c : Int} (h0 : 65 ≤ c) (h1 : c ≤ 90) : IntKind.u8.wrap (IntKind.u8.wrap (c + 97) - 65) = c + 32 := by
  rw [u8_w, u8_w]
  omega

def LowRel (s : ByteArray) (w wr : World) (k : Nat) : Prop := Holds w.heap.size 5 (xsl (bytesOf s) k) wr ∧ Below w.heap.size w wr

set_option maxHeartbeats 2000000 in
set_option maxRecDepth 100000 in
theorem lower (s : ByteArray) (w : World) (hs : s.size ≤ 140737488355328) :
    Calls Tryd.prog 19 #[.string s] w fun e w' => e = .returned (.string (strOfNums ((bytesOf s).map low))) ∧ Below w.heap.size w w' := by
  have hlen : (bytesOf s).length = s.size := bytesOf_length s
  have HS := Aside0.mk hs
  have hconv := fun wx => Lib.run_convert_string_bytes (P := Tryd.prog) wx 9 27 5 s Tryd.underlying9 Tryd.underlying27 Tryd.underlying5
  go_enter Tryd.func19, Tryd.ntmps19
  go_wp2
  go_loopw [10] (fun i wr => ∃ k : Nat, k ≤ s.size ∧ i = .int .i64 k ∧ LowRel s w wr k) (fun i _ => s.size - (intOf i).toNat)
  case atStart => exact ⟨0, Nat.zero_le _, rfl, by rw [xsl_zero]; exact holds_new w _ s (grownCap_ge w s.size 0 _), bytesWorld_below w _ s⟩
  case round =>
    rename_i wr
    obtain ⟨k, hk, rfl, hH, hB⟩ := hrel
    have HH := Aside0.mk hH
    have HB := Aside0.mk hB
    clear hH hB hconv
    by_cases hlt : k < s.size
    · have hkl : k < (bytesOf s).length := by omega
      have hx := xsl_at (bytesOf s) k hkl
      have hxl := xsl_len (bytesOf s) k
      obtain ⟨c, hcd⟩ : ∃ c, (bytesOf s)[k] = c := ⟨_, rfl⟩
      have hbc := bytes_all s _ (List.getElem_mem hkl)
      rw [hcd] at hx hbc
      obtain ⟨hc0, hc1⟩ := hbc
      have hcell := HH.out.cell k c hx
      have hfree := HH.out.free k (by omega)
      have HC := Aside0.mk hcd
      clear hcd hx
      by_cases hA : 65 ≤ c
      · by_cases hZ : c ≤ 90
        · have hw := u8_low hA hZ
          go_wp2
          refine ⟨⟨k + 1, by omega, by go_num, ?_, below_set HB.out _ _⟩, by simp [intOf]; omega⟩
          rw [← xsl_step _ _ hkl, HC.out, show low c = c + 97 - 65 from (if_pos ⟨hA, hZ⟩).trans (by omega)]
          exact HH.out.set k _ (by omega)
        · go_wp2
          refine ⟨⟨k + 1, by omega, by go_num, ?_, HB.out⟩, by simp [intOf]; omega⟩
          rw [← xsl_step _ _ hkl, HC.out, show low c = c from if_neg (by omega), set_same _ _ _ ((xsl_at _ k hkl).trans (congrArg some HC.out))]
          exact HH.out
      · go_wp2
        refine ⟨⟨k + 1, by omega, by go_num, ?_, HB.out⟩, by simp [intOf]; omega⟩
        rw [← xsl_step _ _ hkl, HC.out, show low c = c from if_neg (by omega), set_same _ _ _ ((xsl_at _ k hkl).trans (congrArg some HC.out))]
        exact HH.out
    · have hs0 := Kd.C_string (P := Tryd.prog) (A := some ⟨w.heap.size, 0, none⟩) (c := grownCap w s.size 0 5) Tryd.underlying27 Tryd.underlying5 Tryd.underlying9 (HH.out.C (by rw [xsl_len]; omega))
      rw [xsl_all _ _ (by omega), List.length_map, hlen] at hs0
      go_wp2
      go_ret
      exact ⟨rfl, HB.out⟩
end Go.Proofs.YtnlnkahgdmgooaaDoor.Low
