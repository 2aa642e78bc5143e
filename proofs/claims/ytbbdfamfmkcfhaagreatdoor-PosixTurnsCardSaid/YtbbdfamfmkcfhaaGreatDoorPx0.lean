-- Written for this claim by a program of this session's (not a text of the kit's print).
import Derived.Test.YtbbdfamfmkcfhaaGreatDoorProg
import Derived.Below
import Derived.Deep.Draws
import Derived.Deep.AppendLies
import Derived.Maps.AppendAt
import Derived.OwnWalk
import Derived.Laws.BytesArg
import Derived.Laws.MakeOwn
import Derived.Laws.OwnMore
import Derived.Deep.OwnRows
import Derived.Tactics
import Derived.Lib.ConvBytes
import Derived.Laws.Slices
import Derived.WalkKit
import Derived.KernelRfl
import Derived.RowKit3
import Derived.Deep.LoopGhost
import Derived.Deep.QuietTactic
import Derived.BigQuiet
import Derived.WideLaws
import Derived.Deep.DeepCutAuto
import Derived.Deep.CutBlock
import Derived.Deep.RegionHeld3
import Derived.Laws.Rows
import Derived.Lib.AppendStr
import Derived.ArgAppend
import Derived.Laws.IdiomCopy
import Derived.OrdersHeld
import Derived.Laws.BitsLemmas
import Derived.RowKit
import Derived.Test.YtbbdfamfmkcfhaaGreatDoorGWords
import Derived.Test.YtbbdfamfmkcfhaaGreatDoorShelf
import Derived.Test.YtbbdfamfmkcfhaaGreatDoorBld
import Derived.StillTailTactics
import Derived.IntWalk
import Derived.Test.YtbbdfamfmkcfhaaGreatDoorTab15
import Derived.Test.YtbbdfamfmkcfhaaGreatDoorUrlP15
import Derived.Test.YtbbdfamfmkcfhaaGreatDoorValG15
import Derived.Test.YtbbdfamfmkcfhaaGreatDoorRo15
import Derived.Test.YtbbdfamfmkcfhaaGreatDoorHold
import Derived.Test.YtbbdfamfmkcfhaaGreatDoorWWords
import Derived.Test.YtbbdfamfmkcfhaaGreatDoorWLast
import Derived.Test.YtbbdfamfmkcfhaaGreatDoorWTab
import Derived.Test.YtbbdfamfmkcfhaaGreatDoorWFour
import Derived.Test.YtbbdfamfmkcfhaaGreatDoorWQPut
import Derived.Test.YtbbdfamfmkcfhaaGreatDoorWApart
import Derived.Test.YtbbdfamfmkcfhaaGreatDoorWArr
import Derived.Test.YtbbdfamfmkcfhaaGreatDoorWZeros
import Derived.Test.YtbbdfamfmkcfhaaGreatDoorWFoot
import Derived.Test.YtbbdfamfmkcfhaaGreatDoorWKept
import Derived.Test.YtbbdfamfmkcfhaaGreatDoorWShare
import Derived.Test.YtbbdfamfmkcfhaaGreatDoorWN
import Derived.Test.YtbbdfamfmkcfhaaGreatDoorWFootNe
import Derived.Test.YtbbdfamfmkcfhaaGreatDoorWAt
import Derived.Test.YtbbdfamfmkcfhaaGreatDoorWEqStruct
import Derived.Test.YtbbdfamfmkcfhaaGreatDoorWRepsOne
import Derived.Test.YtbbdfamfmkcfhaaGreatDoorWInv
import Derived.Test.YtbbdfamfmkcfhaaGreatDoorWInvWords
import Derived.Test.YtbbdfamfmkcfhaaGreatDoorWGuard
import Derived.Test.YtbbdfamfmkcfhaaGreatDoorWNEv
import Derived.Test.YtbbdfamfmkcfhaaGreatDoorWMore
namespace Go.Proofs.YtbbdfamfmkcfhaaGreatDoor.P
open Go.RowKit Go.Proofs.YtbbdfamfmkcfhaaGreatDoorW.PrintWords Go.Proofs.YtbbdfamfmkcfhaaGreatDoorW.PrintLast Go.Proofs.YtbbdfamfmkcfhaaGreatDoorW.PrintMore
attribute [local go_sem] max2_int min2_int max_two min_two max_three min_three max_four min_four   -- for this text's walks alone
set_option linter.unusedVariables false
set_option linter.unusedSimpArgs false



def errW : Option Int → Value
 | none => .nilIface
 | some c => .iface 0 (.int .i64 c)
theorem errW_none : errW none = .nilIface := rfl
theorem errW_some (c : Int) : errW (some c) = .iface 0 (.int .i64 c) := rfl

theorem info5 : (Tryz.prog.info? 5).map (fun i => (i.zero, i.size, i.bytes)) = some (some (.int .u8 0), 1, 1) := by kernel_rfl
theorem info9 : (Tryz.prog.info? 9).map (fun i => (i.zero, i.size, i.bytes)) = some (some (.string ⟨#[]⟩), 1, 16) := by kernel_rfl
theorem info21 : (Tryz.prog.info? 21).map (fun i => (i.zero, i.size, i.bytes)) = some (some (.int .i32 0), 1, 4) := by kernel_rfl
-- the values' own types
def rd_L1 (xs : List (List ByteArray)) (i : Int) : (List ByteArray) := xs.getD i.toNat ([] : List ByteArray)
theorem at_L1 {w : World} {A : Option Addr} {n : Nat} {xs : List (List ByteArray)} (h : Kd.C (Kd.slice 9 Kd.string) w A n xs) (i : Int) (h0 : 0 ≤ i) (h1 : i < n) : ∃ ad A0 c0, A = some ad ∧ w.cell? (ad.add i.toNat) = some (.slice A0 (rd_L1 xs i).length c0) ∧ (rd_L1 xs i).length ≤ c0 ∧ Kd.string.C w A0 (rd_L1 xs i).length (rd_L1 xs i) := by
 obtain ⟨ad, c, e, _, hK, hc0⟩ := Kd.C_get h ([] : List ByteArray) i h0 h1
 have hc : ∀ j u, c[j]? = some u → w.cell? (ad.add (i.toNat * 1 + j)) = some u := hc0
 obtain ⟨A0, c0, rfl, l0, g0⟩ := hK
 exact ⟨ad, A0, c0, e, by have hq := hc 0 _ rfl; rwa [Nat.mul_one, Nat.add_zero] at hq, l0, g0⟩

def rd_L3 (xs : List (List Int)) (i : Int) : (List Int) := xs.getD i.toNat ([] : List Int)
theorem at_L3 {w : World} {A : Option Addr} {n : Nat} {xs : List (List Int)} (h : Kd.C (Kd.slice 5 (Kd.int .u8)) w A n xs) (i : Int) (h0 : 0 ≤ i) (h1 : i < n) : ∃ ad A0 c0, A = some ad ∧ w.cell? (ad.add i.toNat) = some (.slice A0 (rd_L3 xs i).length c0) ∧ (rd_L3 xs i).length ≤ c0 ∧ (Kd.int .u8).C w A0 (rd_L3 xs i).length (rd_L3 xs i) := by
 obtain ⟨ad, c, e, _, hK, hc0⟩ := Kd.C_get h ([] : List Int) i h0 h1
 have hc : ∀ j u, c[j]? = some u → w.cell? (ad.add (i.toNat * 1 + j)) = some u := hc0
 obtain ⟨A0, c0, rfl, l0, g0⟩ := hK
 exact ⟨ad, A0, c0, e, by have hq := hc 0 _ rfl; rwa [Nat.mul_one, Nat.add_zero] at hq, l0, g0⟩

/-! #### struct type 25 -/
structure S25 where
 f0 : ByteArray
 f1 : ByteArray
 f2 : ByteArray
 f3 : ByteArray
 f4 : Bool
 f5 : Int
 f6 : Bool
 f7 : ByteArray
 f8 : (List ByteArray)
 f9 : Bool
 f10 : Bool
 f11 : ByteArray
 f12 : ByteArray
def z25 : S25 := ⟨(⟨#[]⟩ : ByteArray), (⟨#[]⟩ : ByteArray), (⟨#[]⟩ : ByteArray), (⟨#[]⟩ : ByteArray), false, (0 : Int), false, (⟨#[]⟩ : ByteArray), ([] : List ByteArray), false, false, (⟨#[]⟩ : ByteArray), (⟨#[]⟩ : ByteArray)⟩
def k25 : Kd S25 := Kd.iso (Kd.pair Kd.string (Kd.pair Kd.string (Kd.pair Kd.string (Kd.pair Kd.string (Kd.pair Kd.bool (Kd.pair (Kd.int .i64) (Kd.pair Kd.bool (Kd.pair Kd.string (Kd.pair (Kd.slice 9 Kd.string) (Kd.pair Kd.bool (Kd.pair Kd.bool (Kd.pair Kd.string Kd.string)))))))))))) (fun x : S25 => (x.f0, x.f1, x.f2, x.f3, x.f4, x.f5, x.f6, x.f7, x.f8, x.f9, x.f10, x.f11, x.f12))
theorem k25_heap : Kd.Heap k25 := Kd.heap_iso _ (Kd.heap_pair Kd.heap_string (Kd.heap_pair Kd.heap_string (Kd.heap_pair Kd.heap_string (Kd.heap_pair Kd.heap_string (Kd.heap_pair Kd.heap_bool (Kd.heap_pair (Kd.heap_int .i64) (Kd.heap_pair Kd.heap_bool (Kd.heap_pair Kd.heap_string (Kd.heap_pair (Kd.heap_slice 9 Kd.heap_string) (Kd.heap_pair Kd.heap_bool (Kd.heap_pair Kd.heap_bool (Kd.heap_pair Kd.heap_string Kd.heap_string))))))))))))
theorem k25_open {w : World} {x : S25} {cs : List Value} (h : k25.K w x cs) : ∃ A8 c8, cs = [.string x.f0, .string x.f1, .string x.f2, .string x.f3, .bool x.f4, .int .i64 x.f5, .bool x.f6, .string x.f7, .slice A8 x.f8.length c8, .bool x.f9, .bool x.f10, .string x.f11, .string x.f12] ∧ x.f8.length ≤ c8 ∧ Kd.string.C w A8 x.f8.length x.f8 := by
 obtain ⟨_, _, rfl, rfl, ⟨_, _, rfl, rfl, ⟨_, _, rfl, rfl, ⟨_, _, rfl, rfl, ⟨_, _, rfl, rfl, ⟨_, _, rfl, rfl, ⟨_, _, rfl, rfl, ⟨_, _, rfl, rfl, ⟨_, _, rfl, ⟨A8, c8, rfl, l8, g8⟩, ⟨_, _, rfl, rfl, ⟨_, _, rfl, rfl, ⟨_, _, rfl, rfl, rfl⟩⟩⟩⟩⟩⟩⟩⟩⟩⟩⟩⟩ := h
 exact ⟨A8, c8, rfl, l8, g8⟩
theorem k25_openM {w : World} {base : Nat} {ok : Nat → Prop} {x : S25} {cs : List Value} (h : k25.M w base ok x cs) : ∃ v8, cs = [.string x.f0, .string x.f1, .string x.f2, .string x.f3, .bool x.f4, .int .i64 x.f5, .bool x.f6, .string x.f7, v8, .bool x.f9, .bool x.f10, .string x.f11, .string x.f12] ∧ Kd.string.R 9 w base ok v8 x.f8 := by
 obtain ⟨_, _, rfl, rfl, ⟨_, _, rfl, rfl, ⟨_, _, rfl, rfl, ⟨_, _, rfl, rfl, ⟨_, _, rfl, rfl, ⟨_, _, rfl, rfl, ⟨_, _, rfl, rfl, ⟨_, _, rfl, rfl, ⟨_, _, rfl, ⟨v8, rfl, g8⟩, ⟨_, _, rfl, rfl, ⟨_, _, rfl, rfl, ⟨_, _, rfl, rfl, rfl⟩⟩⟩⟩⟩⟩⟩⟩⟩⟩⟩⟩ := h
 exact ⟨v8, rfl, g8⟩
theorem k25_mk (w : World) (x : S25) {A8 : Option Addr} {c8 : Nat} (l8 : x.f8.length ≤ c8) (g8 : Kd.string.C w A8 x.f8.length x.f8) : k25.K w x [.string x.f0, .string x.f1, .string x.f2, .string x.f3, .bool x.f4, .int .i64 x.f5, .bool x.f6, .string x.f7, .slice A8 x.f8.length c8, .bool x.f9, .bool x.f10, .string x.f11, .string x.f12] := ⟨[.string x.f0], [.string x.f1, .string x.f2, .string x.f3, .bool x.f4, .int .i64 x.f5, .bool x.f6, .string x.f7, .slice A8 x.f8.length c8, .bool x.f9, .bool x.f10, .string x.f11, .string x.f12], rfl, rfl, ⟨[.string x.f1], [.string x.f2, .string x.f3, .bool x.f4, .int .i64 x.f5, .bool x.f6, .string x.f7, .slice A8 x.f8.length c8, .bool x.f9, .bool x.f10, .string x.f11, .string x.f12], rfl, rfl, ⟨[.string x.f2], [.string x.f3, .bool x.f4, .int .i64 x.f5, .bool x.f6, .string x.f7, .slice A8 x.f8.length c8, .bool x.f9, .bool x.f10, .string x.f11, .string x.f12], rfl, rfl, ⟨[.string x.f3], [.bool x.f4, .int .i64 x.f5, .bool x.f6, .string x.f7, .slice A8 x.f8.length c8, .bool x.f9, .bool x.f10, .string x.f11, .string x.f12], rfl, rfl, ⟨[.bool x.f4], [.int .i64 x.f5, .bool x.f6, .string x.f7, .slice A8 x.f8.length c8, .bool x.f9, .bool x.f10, .string x.f11, .string x.f12], rfl, rfl, ⟨[.int .i64 x.f5], [.bool x.f6, .string x.f7, .slice A8 x.f8.length c8, .bool x.f9, .bool x.f10, .string x.f11, .string x.f12], rfl, rfl, ⟨[.bool x.f6], [.string x.f7, .slice A8 x.f8.length c8, .bool x.f9, .bool x.f10, .string x.f11, .string x.f12], rfl, rfl, ⟨[.string x.f7], [.slice A8 x.f8.length c8, .bool x.f9, .bool x.f10, .string x.f11, .string x.f12], rfl, rfl, ⟨[.slice A8 x.f8.length c8], [.bool x.f9, .bool x.f10, .string x.f11, .string x.f12], rfl, ⟨A8, c8, rfl, l8, g8⟩, ⟨[.bool x.f9], [.bool x.f10, .string x.f11, .string x.f12], rfl, rfl, ⟨[.bool x.f10], [.string x.f11, .string x.f12], rfl, rfl, ⟨[.string x.f11], [.string x.f12], rfl, rfl, rfl⟩⟩⟩⟩⟩⟩⟩⟩⟩⟩⟩⟩
theorem k25_mkM (w : World) (base : Nat) (ok : Nat → Prop) (x : S25) {v8 : Value} (g8 : Kd.string.R 9 w base ok v8 x.f8) : k25.M w base ok x [.string x.f0, .string x.f1, .string x.f2, .string x.f3, .bool x.f4, .int .i64 x.f5, .bool x.f6, .string x.f7, v8, .bool x.f9, .bool x.f10, .string x.f11, .string x.f12] := ⟨[.string x.f0], [.string x.f1, .string x.f2, .string x.f3, .bool x.f4, .int .i64 x.f5, .bool x.f6, .string x.f7, v8, .bool x.f9, .bool x.f10, .string x.f11, .string x.f12], rfl, rfl, ⟨[.string x.f1], [.string x.f2, .string x.f3, .bool x.f4, .int .i64 x.f5, .bool x.f6, .string x.f7, v8, .bool x.f9, .bool x.f10, .string x.f11, .string x.f12], rfl, rfl, ⟨[.string x.f2], [.string x.f3, .bool x.f4, .int .i64 x.f5, .bool x.f6, .string x.f7, v8, .bool x.f9, .bool x.f10, .string x.f11, .string x.f12], rfl, rfl, ⟨[.string x.f3], [.bool x.f4, .int .i64 x.f5, .bool x.f6, .string x.f7, v8, .bool x.f9, .bool x.f10, .string x.f11, .string x.f12], rfl, rfl, ⟨[.bool x.f4], [.int .i64 x.f5, .bool x.f6, .string x.f7, v8, .bool x.f9, .bool x.f10, .string x.f11, .string x.f12], rfl, rfl, ⟨[.int .i64 x.f5], [.bool x.f6, .string x.f7, v8, .bool x.f9, .bool x.f10, .string x.f11, .string x.f12], rfl, rfl, ⟨[.bool x.f6], [.string x.f7, v8, .bool x.f9, .bool x.f10, .string x.f11, .string x.f12], rfl, rfl, ⟨[.string x.f7], [v8, .bool x.f9, .bool x.f10, .string x.f11, .string x.f12], rfl, rfl, ⟨[v8], [.bool x.f9, .bool x.f10, .string x.f11, .string x.f12], rfl, ⟨v8, rfl, g8⟩, ⟨[.bool x.f9], [.bool x.f10, .string x.f11, .string x.f12], rfl, rfl, ⟨[.bool x.f10], [.string x.f11, .string x.f12], rfl, rfl, ⟨[.string x.f11], [.string x.f12], rfl, rfl, rfl⟩⟩⟩⟩⟩⟩⟩⟩⟩⟩⟩⟩
theorem k25_openF {W : World} {ok : Nat → Prop} {x : S25} {cs : List Value} (h : Kd.FK k25 W ok x cs) : ∃ A8 c8, cs = [.string x.f0, .string x.f1, .string x.f2, .string x.f3, .bool x.f4, .int .i64 x.f5, .bool x.f6, .string x.f7, .slice A8 x.f8.length c8, .bool x.f9, .bool x.f10, .string x.f11, .string x.f12] ∧ x.f8.length ≤ c8 ∧ Kd.F Kd.string W ok A8 x.f8.length x.f8 := by
 obtain ⟨A8, c8, rfl, l8, _⟩ := k25_open (Kd.FK_now h)
 exact ⟨A8, c8, rfl, l8, (fun W' hW => by obtain ⟨A8_, c8_, he, l8_, g8_⟩ := k25_open (h W' hW); injection (Option.some.inj (show some (Value.slice A8 x.f8.length c8) = some (Value.slice A8_ x.f8.length c8_) from congrArg (fun l => l[8]?) he)) with ha_ _ _; rw [ha_]; exact g8_)⟩
theorem k25_mkF (W : World) (ok : Nat → Prop) (x : S25) {A8 : Option Addr} {c8 : Nat} (l8 : x.f8.length ≤ c8) (g8 : Kd.F Kd.string W ok A8 x.f8.length x.f8) : Kd.FK k25 W ok x [.string x.f0, .string x.f1, .string x.f2, .string x.f3, .bool x.f4, .int .i64 x.f5, .bool x.f6, .string x.f7, .slice A8 x.f8.length c8, .bool x.f9, .bool x.f10, .string x.f11, .string x.f12] := fun W2 hW => k25_mk W2 x l8 (g8 W2 hW)
def rd_T25 (xs : List S25) (i : Int) : S25 := xs.getD i.toNat z25
theorem at_T25 {w : World} {A : Option Addr} {n : Nat} {xs : List S25} (h : Kd.C k25 w A n xs) (i : Int) (h0 : 0 ≤ i) (h1 : i < n) : ∃ ad A8 c8, A = some ad ∧ w.cell? (ad.add (i.toNat * 13)) = some (.string (rd_T25 xs i).f0) ∧ w.cell? ⟨(ad.add (i.toNat * 13)).block, (ad.add (i.toNat * 13)).off + 1, none⟩ = some (.string (rd_T25 xs i).f1) ∧ w.cell? ⟨(ad.add (i.toNat * 13)).block, (ad.add (i.toNat * 13)).off + 2, none⟩ = some (.string (rd_T25 xs i).f2) ∧ w.cell? ⟨(ad.add (i.toNat * 13)).block, (ad.add (i.toNat * 13)).off + 3, none⟩ = some (.string (rd_T25 xs i).f3) ∧ w.cell? ⟨(ad.add (i.toNat * 13)).block, (ad.add (i.toNat * 13)).off + 4, none⟩ = some (.bool (rd_T25 xs i).f4) ∧ w.cell? ⟨(ad.add (i.toNat * 13)).block, (ad.add (i.toNat * 13)).off + 5, none⟩ = some (.int .i64 (rd_T25 xs i).f5) ∧ w.cell? ⟨(ad.add (i.toNat * 13)).block, (ad.add (i.toNat * 13)).off + 6, none⟩ = some (.bool (rd_T25 xs i).f6) ∧ w.cell? ⟨(ad.add (i.toNat * 13)).block, (ad.add (i.toNat * 13)).off + 7, none⟩ = some (.string (rd_T25 xs i).f7) ∧ w.cell? ⟨(ad.add (i.toNat * 13)).block, (ad.add (i.toNat * 13)).off + 8, none⟩ = some (.slice A8 (rd_T25 xs i).f8.length c8) ∧ w.cell? ⟨(ad.add (i.toNat * 13)).block, (ad.add (i.toNat * 13)).off + 9, none⟩ = some (.bool (rd_T25 xs i).f9) ∧ w.cell? ⟨(ad.add (i.toNat * 13)).block, (ad.add (i.toNat * 13)).off + 10, none⟩ = some (.bool (rd_T25 xs i).f10) ∧ w.cell? ⟨(ad.add (i.toNat * 13)).block, (ad.add (i.toNat * 13)).off + 11, none⟩ = some (.string (rd_T25 xs i).f11) ∧ w.cell? ⟨(ad.add (i.toNat * 13)).block, (ad.add (i.toNat * 13)).off + 12, none⟩ = some (.string (rd_T25 xs i).f12) ∧ (rd_T25 xs i).f8.length ≤ c8 ∧ Kd.string.C w A8 (rd_T25 xs i).f8.length (rd_T25 xs i).f8 := by
 obtain ⟨ad, c, e, _, hK, hc0⟩ := Kd.C_get h z25 i h0 h1
 have hc : ∀ j u, c[j]? = some u → w.cell? (ad.add (i.toNat * 13 + j)) = some u := hc0
 obtain ⟨A8, c8, rfl, l8, g8⟩ := k25_open hK
 exact ⟨ad, A8, c8, e, hc 0 _ rfl, by rw [← add_field _ _ 1 (by omega)]; exact hc 1 _ rfl, by rw [← add_field _ _ 2 (by omega)]; exact hc 2 _ rfl, by rw [← add_field _ _ 3 (by omega)]; exact hc 3 _ rfl, by rw [← add_field _ _ 4 (by omega)]; exact hc 4 _ rfl, by rw [← add_field _ _ 5 (by omega)]; exact hc 5 _ rfl, by rw [← add_field _ _ 6 (by omega)]; exact hc 6 _ rfl, by rw [← add_field _ _ 7 (by omega)]; exact hc 7 _ rfl, by rw [← add_field _ _ 8 (by omega)]; exact hc 8 _ rfl, by rw [← add_field _ _ 9 (by omega)]; exact hc 9 _ rfl, by rw [← add_field _ _ 10 (by omega)]; exact hc 10 _ rfl, by rw [← add_field _ _ 11 (by omega)]; exact hc 11 _ rfl, by rw [← add_field _ _ 12 (by omega)]; exact hc 12 _ rfl, l8, g8⟩

end Go.Proofs.YtbbdfamfmkcfhaaGreatDoor.P
