/- Plain facts about strings as lists of whole numbers: no program, no memory; no condition but those that each lemma names. -/
import Derived.Test.YtbbdfamfmkcfhaaGreatDoorWMore
import Derived.Laws.BytesArg
import Derived.WalkKit
namespace Go.Proofs.YtbbdfamfmkcfhaaGreatDoor.Pl
open Go.RowKit Go.Proofs.YtbbdfamfmkcfhaaGreatDoorW.PrintWords Go.Proofs.YtbbdfamfmkcfhaaGreatDoorW.PrintLast
set_option linter.unusedVariables false

def byte (n : Int) : Prop := 0 ≤ n ∧ n ≤ 255

theorem wrap_in {n : Int} (h0 : -9223372036854775808 ≤ n) (h1 : n ≤ 9223372036854775807) : wrap64 n = n := by
  unfold wrap64
  omega

theorem bytes_all (s : ByteArray) : ∀ x ∈ bytesOf s, byte x := by
  intro x hx
  unfold bytesOf at hx
  obtain ⟨b, _, rfl⟩ := List.mem_map.1 hx
  have := b.toNat_lt
  exact ⟨by omega, by omega⟩

theorem ofNat_of {x : Int} (h : byte x) : (((UInt8.ofNat x.toNat).toNat : Nat) : Int) = x := by
  obtain ⟨h0, h1⟩ := h
  simp
  omega

theorem bytes_str (l : List Int) (h : ∀ x ∈ l, byte x) : bytesOf (strOfNums l) = l := by
  unfold bytesOf
  rw [strOfNums_data, List.map_map]
  induction l with
  | nil => rfl
  | cons x l ih =>
    rw [List.map_cons, ih (fun y hy => h y (List.mem_cons_of_mem _ hy))]
    congr 1
    exact ofNat_of (h x List.mem_cons_self)

theorem ext_data {s t : ByteArray} (h : s.data.toList = t.data.toList) : s = t := by
  cases s with | mk a => cases t with | mk b =>
  congr 1
  exact Array.toList_inj.1 h

theorem str_bytes (s : ByteArray) : strOfNums (bytesOf s) = s := by
  refine ext_data ?_
  rw [strOfNums_data]
  unfold bytesOf
  rw [List.map_map]
  refine (List.map_congr_left (g := id) ?_).trans (List.map_id _)
  intro b _
  show UInt8.ofNat ((b.toNat : Int)).toNat = b
  simp

theorem bytes_inj {s t : ByteArray} (h : bytesOf s = bytesOf t) : s = t := by rw [← str_bytes s, ← str_bytes t, h]

theorem data_of_bytes (s : ByteArray) : s.toList = (bytesOf s).map (fun n => UInt8.ofNat n.toNat) := by
  rw [ByteArray.toList_eq]
  have := strOfNums_data (bytesOf s)
  rw [str_bytes] at this
  exact this

/-- Two strings are one just if their bytes are. -/
theorem toList_iff {s t : ByteArray} : s.toList = t.toList ↔ s = t :=
  ⟨fun h => ext_data (by rw [← ByteArray.toList_eq, ← ByteArray.toList_eq]; exact h), fun h => by rw [h]⟩
theorem beq_iff {s t : ByteArray} : (s.toList == t.toList) = decide (bytesOf s = bytesOf t) := by
  by_cases h : bytesOf s = bytesOf t
  · rw [bytes_inj h]; simp
  · have : s.toList ≠ t.toList := fun e => h (by rw [toList_iff.1 e])
    simp [h, this]

theorem bytes_nil : bytesOf (⟨#[]⟩ : ByteArray) = [] := rfl
theorem bytes_append (a b : ByteArray) : bytesOf (a ++ b) = bytesOf a ++ bytesOf b := by
  unfold bytesOf
  rw [ByteArray.data_append, Array.toList_append, List.map_append]
theorem bytes_extract (s : ByteArray) (a b : Nat) : bytesOf (s.extract a b) = ((bytesOf s).drop a).take (b - a) := by
  unfold bytesOf
  rw [ByteArray.data_extract, Array.toList_extract, List.extract_eq_take_drop, List.map_take, List.map_drop]
theorem bytes_from (s : ByteArray) (a : Nat) : bytesOf (s.extract a s.size) = (bytesOf s).drop a := by
  rw [bytes_extract, List.take_of_length_le]
  rw [List.length_drop, bytesOf_length]
  omega
theorem bytes_to (s : ByteArray) (b : Nat) : bytesOf (s.extract 0 b) = (bytesOf s).take b := by
  rw [bytes_extract, List.drop_zero, Nat.sub_zero]
theorem str_append (a b : List Int) : strOfNums (a ++ b) = strOfNums a ++ strOfNums b := by
  refine ext_data ?_
  rw [ByteArray.data_append, Array.toList_append, strOfNums_data, strOfNums_data, strOfNums_data, List.map_append]

theorem bt_get (s : ByteArray) (i : Nat) (h : i < (bytesOf s).length) : bt s (i : Int) = (bytesOf s)[i] := by
  rw [← rd_bytesOf]
  unfold rd
  rw [Int.toNat_natCast, List.getD_eq_getElem?_getD, List.getElem?_eq_getElem h]
  rfl
/-- The bytes from place i on: the one at i, and what follows. -/
theorem drop_bt (s : ByteArray) (i : Nat) (h : i < s.size) : (bytesOf s).drop i = bt s (i : Int) :: (bytesOf s).drop (i + 1) := by
  have hl : i < (bytesOf s).length := by rw [bytesOf_length]; exact h
  rw [List.drop_eq_getElem_cons hl, bt_get s i hl]
theorem drop_end (s : ByteArray) (i : Nat) (h : s.size ≤ i) : (bytesOf s).drop i = [] := List.drop_eq_nil_of_le (by rw [bytesOf_length]; exact h)
theorem bt_byte (s : ByteArray) (i : Int) : byte (bt s i) := bt_range s i
theorem rd_nat (l : List Int) (i : Nat) (h : i < l.length) : rd l (i : Int) = l[i] := by
  unfold rd
  rw [Int.toNat_natCast, List.getD_eq_getElem?_getD, List.getElem?_eq_getElem h]
  rfl
theorem drop_rd (l : List Int) (i : Nat) (h : i < l.length) : l.drop i = rd l (i : Int) :: l.drop (i + 1) := by
  rw [List.drop_eq_getElem_cons h, rd_nat l i h]
theorem size_str (l : List Int) : (strOfNums l).size = l.length := strOfNums_size l

theorem u8_of {a : Int} (h : (Lit.int .u8 a).wf = true) : ∃ n : Nat, a = n ∧ n < 256 := by
  have hb : 0 ≤ a ∧ a ≤ 255 := by simpa [Lit.wf, IntKind.min, IntKind.max, IntKind.bits, IntKind.signed] using h
  exact ⟨a.toNat, by omega, by omega⟩
theorem byte_of {a : Int} (h : (Lit.int .u8 a).wf = true) : byte a := by
  obtain ⟨n, rfl, hn⟩ := u8_of h
  exact ⟨by omega, by omega⟩
end Go.Proofs.YtbbdfamfmkcfhaaGreatDoor.Pl
