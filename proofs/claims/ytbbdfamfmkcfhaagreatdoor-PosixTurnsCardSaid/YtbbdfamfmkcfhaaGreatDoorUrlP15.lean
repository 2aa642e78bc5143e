/- Chapter 11: url.authority and url.Path: what they write into a Builder, walked. -/
import Derived.Test.YtbbdfamfmkcfhaaGreatDoorBld
import Derived.Test.YtbbdfamfmkcfhaaGreatDoorShelf
import Derived.Test.YtbbdfamfmkcfhaaGreatDoorWMore
import Derived.Test.YtbbdfamfmkcfhaaGreatDoorPl
import Derived.Test.YtbbdfamfmkcfhaaGreatDoorTab15
import Derived.IntWalk
import Derived.Below
import Derived.Tactics
import Derived.WalkKit
import Derived.KernelRfl
namespace Go.Proofs.YtbbdfamfmkcfhaaGreatDoor.Url
open Go.RowKit Go.Proofs.YtbbdfamfmkcfhaaGreatDoorW.PrintWords Go.Proofs.YtbbdfamfmkcfhaaGreatDoorW.PrintLast Go.Proofs.YtbbdfamfmkcfhaaGreatDoorW.PrintMore Go.Proofs.YtbbdfamfmkcfhaaGreatDoor.Pl
set_option linter.unusedVariables false
set_option linter.unusedSimpArgs false
abbrev IsB (B b : Nat) (l : List UInt8) (w : World) : Prop := Lib.IsBuilder 79 5 B b (Lib.byteCells l) w
theorem cells_app (a b : List UInt8) : Lib.byteCells (a ++ b) = Lib.byteCells a ++ Lib.byteCells b := by simp [Lib.byteCells]
/-- WriteString, by the list of what has been written. -/
theorem ws (B b : Nat) (l m : List UInt8) (s : ByteArray) (w : World) (h : IsB B b l w) (hm : s.data.toList = m) (hlen : l.length + m.length ≤ 140737488355328) (hBw : B ≤ w.heap.size) :
    Calls Tryz.prog 44 #[.pointer (some ⟨b, 0, none⟩), .string s] w fun e w' => e = .returned (.tuple #[.int .i64 s.size, .nilIface]) ∧ IsB B b (l ++ m) w' ∧ Below B w w' := by
  subst hm
  refine (G.writeString B b _ s w h (by rw [Lib.byteCells_length]; rw [Array.length_toList] at hlen; exact hlen) hBw).mono ?_
  rintro e w' ⟨rfl, h1, h2⟩
  refine ⟨rfl, ?_, h2⟩
  unfold IsB
  rw [cells_app]
  exact h1
theorem ws2 (B b : Nat) (l m l' : List UInt8) (s : ByteArray) (w : World) (h : IsB B b l w) (hm : s.data.toList = m) (he : l ++ m = l') (hlen : l.length + m.length ≤ 140737488355328) (hBw : B ≤ w.heap.size) :
    Calls Tryz.prog 44 #[.pointer (some ⟨b, 0, none⟩), .string s] w fun e w' => e = .returned (.tuple #[.int .i64 s.size, .nilIface]) ∧ IsB B b l' w' ∧ Below B w w' := by
  subst he
  exact ws B b l m s w h hm hlen hBw
theorem st (B b : Nat) (l R : List UInt8) (w : World) (h : IsB B b l w) (hR : l = R) (hBw : B ≤ w.heap.size) : Calls Tryz.prog 46 #[.pointer (some ⟨b, 0, none⟩)] w fun e w' => e = .returned (.string ⟨R.toArray⟩) ∧ Below B w w' := by
  subst hR
  exact Tryz.Builder_String_any B b l w h hBw
def authL (user pass host : List UInt8) (port : Int) : List UInt8 :=
  [] ++ ([47, 47] ++ user) ++ (if pass = [] then [] else 58 :: pass) ++ (if user = [] ∧ pass = [] then [] else [64]) ++ host ++ (if port = -1 then [] else 58 :: Lib.itoa port)
def pathL (l : List ByteArray) : List UInt8 := l.flatMap fun s => 47 :: s.data.toList
theorem p64 : (⟨#[64]⟩ : ByteArray).data.toList = [64] := rfl
theorem pathL_snoc (l : List ByteArray) (k : Nat) (x : ByteArray) (h : l[k]? = some x) : pathL (l.take (k + 1)) = pathL (l.take k) ++ (47 :: x.data.toList) := by
  have : l.take (k + 1) = l.take k ++ [x] := by rw [List.take_add_one, h]; rfl
  rw [this]
  simp [pathL]
theorem pathL_le (l : List ByteArray) (k : Nat) : (pathL (l.take k)).length ≤ (pathL l).length := by
  have : pathL l = pathL (l.take k) ++ pathL (l.drop k) := by
    unfold pathL
    rw [← List.flatMap_append, List.take_append_drop]
  rw [this, List.length_append]
  omega
theorem ne_of (s : ByteArray) (h : s.data.toList ≠ []) : s.toList.isEmpty = false := by rw [ByteArray.toList_eq]; cases e : s.data.toList with | nil => exact absurd e h | cons _ _ => rfl
theorem e_of (s : ByteArray) (h : s.data.toList = []) : s.toList = [] := by rw [ByteArray.toList_eq]; exact h
theorem sz (s : ByteArray) : s.data.toList.length = s.size := by rw [Array.length_toList]; rfl
theorem two_data (a : Array UInt8) (s : ByteArray) : ((⟨a⟩ : ByteArray) ++ s).data.toList = a.toList ++ s.data.toList := by simp [ByteArray.data_append]
theorem IsB.below {B b : Nat} {l : List UInt8} {w w' : World} (h : IsB B b l w) (hb : Below w.heap.size w w') : IsB B b l w' := by
  rcases h with h | h
  · have hlt := h.lt
    obtain ⟨hB, v, hk, hown, hne⟩ := h
    exact .inl ⟨hB, v, (hb.block b hlt).trans hk, pw_own_below hown hb, hne⟩
  · have hlt := h.lt
    obtain ⟨hB, v, hk, hown, hne⟩ := h
    exact .inr ⟨hB, v, (hb.block b hlt).trans hk, pw_own_below hown hb, hne⟩
set_option maxHeartbeats 8000000 in
set_option maxRecDepth 100000 in
theorem path_list (a0 a1 a2 a3 : ByteArray) (a4 : Bool) (a5 : Int) (a6 : Bool) (a7 : ByteArray) (A8 : Option Addr) (n8 c8 : Nat) (a9 a10 : Bool) (a11 a12 : ByteArray) (l : List ByteArray) (w : World) (h6 : a6 = false) (hl : l.length = n8) (hr : Kd.C Kd.string w A8 n8 l) (hn : n8 ≤ 1000000) (hsz : (pathL l).length ≤ 1000000) :
    Calls Tryz.prog 52 #[.agg #[.string a0, .string a1, .string a2, .string a3, .bool a4, .int .i64 a5, .bool a6, .string a7, .slice A8 n8 c8, .bool a9, .bool a10, .string a11, .string a12]] w fun e w' => e = .returned (.string ⟨(pathL l).toArray⟩) ∧ Below w.heap.size w w' := by
  subst h6
  have HR := Aside0.mk hr
  have HL := Aside0.mk hl
  have HB0 := Aside0.mk (show Below w.heap.size w (w.alloc (.cells #[.string a0, .string a1, .string a2, .string a3, .bool a4, .int .i64 a5, .bool false, .string a7, .slice A8 n8 c8, .bool a9, .bool a10, .string a11, .string a12] 25)) from (Below.refl _ _).alloc (Nat.le_refl _) _)
  clear hr hl
  go_enter Tryz.func52, Tryz.ntmps52
  go_wp2
  go_loopw [13] (fun i wr => ∃ k : Nat, k ≤ n8 ∧ i = .int .i64 k ∧ IsB (w.heap.size + 1) (w.heap.size + 1) (pathL (l.take k)) wr ∧ w.heap.size + 1 ≤ wr.heap.size ∧ Below w.heap.size w wr) (fun i _ => n8 - (intOf i).toNat)
  case atStart =>
    refine ⟨0, Nat.zero_le _, rfl, ?_, by simp, ?_⟩
    · have := Lib.fresh_isBuilder 79 5 (w.alloc (.cells #[.string a0, .string a1, .string a2, .string a3, .bool a4, .int .i64 a5, .bool false, .string a7, .slice A8 n8 c8, .bool a9, .bool a10, .string a11, .string a12] 25))
      simpa [pathL, Lib.byteCells, IsB] using this
    · exact HB0.out.alloc (by simp) _
  case round =>
    obtain ⟨k, hk, rfl, hI, hz, hB⟩ := hrel
    have HI := Aside0.mk hI
    have HB := Aside0.mk hB
    clear hI hB
    by_cases hlt : k < n8
    · have hC := Kd.C_below HR.out HB.out
      obtain ⟨x, hx⟩ : ∃ x, l[k]? = some x := ⟨_, List.getElem?_eq_getElem (by rw [HL.out]; exact hlt)⟩
      obtain ⟨ad, hA, hc0⟩ := Kd.at_string hC (k : Int) (by omega) (by omega)
      subst hA
      have hrd : rdOf ByteArray.empty l (k : Int) = x := by
        unfold rdOf
        rw [Int.toNat_natCast, List.getD_eq_getElem?_getD, hx]
        rfl
      rw [Int.toNat_natCast, hrd] at hc0
      have HS := Aside0.mk (pathL_snoc l k x hx)
      have hle := pathL_le l (k + 1)
      rw [HS.out, List.length_append, List.length_cons] at hle
      have hxs := sz x
      have hxm : x.size ≤ 1000000 := by omega
      have HW := Aside0.mk (ws (w.heap.size + 1) (w.heap.size + 1) _ (47 :: x.data.toList) (⟨#[47]⟩ ++ x) wr HI.out (by rw [two_data]; rfl) (by rw [List.length_cons]; omega) hz)
      clear hC hx hrd hle
      go_wp2_with (go_at_call 44; (with_reducible refine HW.out.mono ?_); rintro e w2 ⟨rfl, hI2, hB2⟩; have HI2 := Aside0.mk hI2; have HB2 := Aside0.mk hB2; clear hI2 hB2)
      go_roundw
      case rel => exact ⟨k + 1, hlt, by go_num, by rw [HS.out]; exact HI2.out, Nat.le_trans hz HB2.out.size, HB.out.trans (HB2.out.mono (Nat.le_succ _))⟩
      case measure => simp [intOf]; omega
    · obtain rfl : n8 = k := by omega
      have hI := HI.out
      rw [List.take_of_length_le (by rw [HL.out]; exact Nat.le_refl _)] at hI
      have HS := Aside0.mk (Tryz.Builder_String_any (w.heap.size + 1) (w.heap.size + 1) (pathL l) wr hI hz)
      clear hI
      go_wp2_with (go_at_call 46; (with_reducible refine HS.out.mono ?_); rintro e w3 ⟨rfl, hb3⟩; have HB3 := Aside0.mk hb3; clear hb3)
      go_ret
      exact ⟨rfl, HB.out.trans (HB3.out.mono (Nat.le_succ _))⟩
set_option maxHeartbeats 8000000 in
set_option maxRecDepth 100000 in
theorem auth_111 (a0 a1 a2 a3 : ByteArray) (a4 : Bool) (a5 : Int) (a6 : Bool) (a7 : ByteArray) (A8 : Option Addr) (n8 c8 : Nat) (a9 a10 : Bool) (a11 a12 : ByteArray) (w : World) (h4 : a4 = true) (hp : a2.data.toList = []) (hu : a1.data.toList = []) (h5 : a5 = -1) (hsz : a1.size + a2.size + a3.size ≤ 1000000) :
    Calls Tryz.prog 51 #[.agg #[.string a0, .string a1, .string a2, .string a3, .bool a4, .int .i64 a5, .bool a6, .string a7, .slice A8 n8 c8, .bool a9, .bool a10, .string a11, .string a12]] w fun e w' => e = .returned (.string ⟨(authL a1.data.toList a2.data.toList a3.data.toList a5).toArray⟩) ∧ Below w.heap.size w w' := by
  subst h4
  have HB0 := Aside0.mk (show Below w.heap.size w ((w.alloc (.cells #[.string a0, .string a1, .string a2, .string a3, .bool true, .int .i64 a5, .bool a6, .string a7, .slice A8 n8 c8, .bool a9, .bool a10, .string a11, .string a12] 25)).alloc (.cells #[.pointer none, .slice none 0 0] 79)) from ((Below.refl _ _).alloc (Nat.le_refl _) _).alloc (by simp) _)
  have HC := Aside0.mk (show ∀ w', Below (w.heap.size + 1) ((w.alloc (.cells #[.string a0, .string a1, .string a2, .string a3, .bool true, .int .i64 a5, .bool a6, .string a7, .slice A8 n8 c8, .bool a9, .bool a10, .string a11, .string a12] 25)).alloc (.cells #[.pointer none, .slice none 0 0] 79)) w' → w'.cell? ⟨w.heap.size, 1, none⟩ = some (.string a1) ∧ w'.cell? ⟨w.heap.size, 2, none⟩ = some (.string a2) ∧ w'.cell? ⟨w.heap.size, 3, none⟩ = some (.string a3) ∧ w'.cell? ⟨w.heap.size, 5, none⟩ = some (.int .i64 a5) from fun w' hb =>
    ⟨(hb.cell (p := ⟨w.heap.size, 1, none⟩) (Nat.lt_succ_self _)).trans (by simp), (hb.cell (p := ⟨w.heap.size, 2, none⟩) (Nat.lt_succ_self _)).trans (by simp), (hb.cell (p := ⟨w.heap.size, 3, none⟩) (Nat.lt_succ_self _)).trans (by simp), (hb.cell (p := ⟨w.heap.size, 5, none⟩) (Nat.lt_succ_self _)).trans (by simp)⟩)
  have B0 := Aside0.mk (Below.refl (w.heap.size + 1) ((w.alloc (.cells #[.string a0, .string a1, .string a2, .string a3, .bool true, .int .i64 a5, .bool a6, .string a7, .slice A8 n8 c8, .bool a9, .bool a10, .string a11, .string a12] 25)).alloc (.cells #[.pointer none, .slice none 0 0] 79)))
  have I0 := Aside0.mk (show IsB (w.heap.size + 1) (w.heap.size + 1) [] ((w.alloc (.cells #[.string a0, .string a1, .string a2, .string a3, .bool true, .int .i64 a5, .bool a6, .string a7, .slice A8 n8 c8, .bool a9, .bool a10, .string a11, .string a12] 25)).alloc (.cells #[.pointer none, .slice none 0 0] 79)) from by
    have := Lib.fresh_isBuilder 79 5 (w.alloc (.cells #[.string a0, .string a1, .string a2, .string a3, .bool true, .int .i64 a5, .bool a6, .string a7, .slice A8 n8 c8, .bool a9, .bool a10, .string a11, .string a12] 25))
    simpa [Lib.byteCells, IsB] using this)
  have Z0 := Aside0.mk (show w.heap.size + 1 ≤ ((w.alloc (.cells #[.string a0, .string a1, .string a2, .string a3, .bool true, .int .i64 a5, .bool a6, .string a7, .slice A8 n8 c8, .bool a9, .bool a10, .string a11, .string a12] 25)).alloc (.cells #[.pointer none, .slice none 0 0] 79)).heap.size by simp)
  have s1 := sz a1
  have s2 := sz a2
  have s3 := sz a3
  have q1 : a1.size ≤ 1000000 := by omega
  have q2 : a2.size ≤ 1000000 := by omega
  have q3 : a3.size ≤ 1000000 := by omega
  have hu1 := e_of a1 hu
  have hp1 := e_of a2 hp
  have h5b : (a5 != -1) = false := by simp [h5]
  obtain ⟨l0, hl0⟩ : ∃ l : List UInt8, ([] : List UInt8) = l := ⟨_, rfl⟩
  have hk0 : l0.length ≤ 0 := by rw [← hl0]; exact Nat.le_refl _
  have I0 := Aside0.mk (show IsB (w.heap.size + 1) (w.heap.size + 1) l0 ((w.alloc (.cells #[.string a0, .string a1, .string a2, .string a3, .bool true, .int .i64 a5, .bool a6, .string a7, .slice A8 n8 c8, .bool a9, .bool a10, .string a11, .string a12] 25)).alloc (.cells #[.pointer none, .slice none 0 0] 79)) by rw [← hl0]; exact I0.out)
  obtain ⟨m1, hm1⟩ : ∃ m : List UInt8, ([47, 47] ++ a1.data.toList) = m := ⟨_, rfl⟩
  have hn1 : m1.length ≤ 1000002 := by rw [← hm1]; simp only [List.length_append, List.length_cons, List.length_nil, s1, s2, s3]; omega
  have P1 := Aside0.mk (((show (⟨#[47, 47]⟩ ++ a1).data.toList = ([47, 47] ++ a1.data.toList) from two_data _ _).trans hm1))
  obtain ⟨l1, hl1⟩ : ∃ l : List UInt8, l0 ++ m1 = l := ⟨_, rfl⟩
  have N1 := Aside0.mk (show l0.length + m1.length ≤ 140737488355328 by omega)
  have hk1 : l1.length ≤ 1 * 1000002 := by rw [← hl1, List.length_append]; omega
  have E1 := Aside0.mk hl1
  obtain ⟨m2, hm2⟩ : ∃ m : List UInt8, a3.data.toList = m := ⟨_, rfl⟩
  have hn2 : m2.length ≤ 1000002 := by rw [← hm2]; simp only [List.length_append, List.length_cons, List.length_nil, s1, s2, s3]; omega
  have P2 := Aside0.mk (((show a3.data.toList = a3.data.toList from rfl).trans hm2))
  obtain ⟨l2, hl2⟩ : ∃ l : List UInt8, l1 ++ m2 = l := ⟨_, rfl⟩
  have N2 := Aside0.mk (show l1.length + m2.length ≤ 140737488355328 by omega)
  have hk2 : l2.length ≤ 2 * 1000002 := by rw [← hl2, List.length_append]; omega
  have E2 := Aside0.mk hl2
  have HF := Aside0.mk (show authL a1.data.toList a2.data.toList a3.data.toList a5 = l2 by
    rw [← hl2, ← hl1, ← hl0, ← hm1, ← hm2]
    unfold authL
    rw [if_pos hp, if_pos ⟨hu, hp⟩, if_pos h5]; simp)
  clear hp hu h5 s1 s2 s3 hm1 hn1 hk1 hl1 hm2 hn2 hk2 hl2 hl0 hk0
  go_enter Tryz.func51, Tryz.ntmps51
  go_wp2_with (first
    | (go_at_call 44; (with_reducible refine (ws2 (w.heap.size + 1) (w.heap.size + 1) l0 m1 l1 (⟨#[47, 47]⟩ ++ a1) _ I0.out P1.out E1.out N1.out Z0.out).mono ?_); rintro e w1 ⟨rfl, hI, hB⟩; have I1 := Aside0.mk hI; have B1 := Aside0.mk (B0.out.trans hB); have Z1 := Aside0.mk (Nat.le_trans Z0.out hB.size); obtain ⟨g1, g2, g3, g5⟩ := HC.out w1 B1.out; clear hI hB)
    | (go_at_call 44; (with_reducible refine (ws2 (w.heap.size + 1) (w.heap.size + 1) l1 m2 l2 a3 _ I1.out P2.out E2.out N2.out Z1.out).mono ?_); rintro e w2 ⟨rfl, hI, hB⟩; have I2 := Aside0.mk hI; have B2 := Aside0.mk (B1.out.trans hB); have Z2 := Aside0.mk (Nat.le_trans Z1.out hB.size); obtain ⟨g1, g2, g3, g5⟩ := HC.out w2 B2.out; clear hI hB)
    | (go_at_call 46; (with_reducible refine (st (w.heap.size + 1) (w.heap.size + 1) l2 l2 _ I2.out rfl Z2.out).mono ?_); rintro e w9 ⟨rfl, hb9⟩; have B9 := Aside0.mk (B2.out.trans hb9); clear hb9))
  go_ret
  exact ⟨by rw [HF.out]; rfl, HB0.out.trans (B9.out.mono (Nat.le_succ _))⟩
end Go.Proofs.YtbbdfamfmkcfhaaGreatDoor.Url
