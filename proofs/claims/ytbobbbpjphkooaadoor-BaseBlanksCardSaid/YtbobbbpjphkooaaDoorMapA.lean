/- strings.ContainsRune of the blanks, and squeeze's own function: walked. -/
import Derived.Test.YtbobbbpjphkooaaDoorShelf
import Derived.Test.YtbobbbpjphkooaaDoorGWords
import Derived.Test.YtbobbbpjphkooaaDoorPl
import Derived.Laws.Runes
import Derived.WalkMore
import Derived.Laws.RangeAny
import Derived.Laws.RangeString
import Derived.Deep.QuietTactic
import Derived.BigQuiet
import Derived.IntWalk
import Derived.Tactics
import Derived.WalkKit
import Derived.KernelRfl
namespace Go.Proofs.YtbobbbpjphkooaaDoor.Mp
open Go.RowKit Go.Proofs.YtbobbbpjphkooaaDoorW.PrintWords Go.Proofs.YtbobbbpjphkooaaDoorW.PrintLast Go.Proofs.YtbobbbpjphkooaaDoorW.PrintMore Go.Proofs.YtbobbbpjphkooaaDoor.Pl
set_option linter.unusedVariables false
set_option linter.unusedSimpArgs false
def BL : ByteArray := ⟨#[9, 10, 12, 13, 32]⟩
theorem no_high (k : Nat) (hk : k < 5) (c : Nat) (h0 : 128 ≤ c) (h1 : c < 256) : Lib.indexByte (BL.extract (k + 1) 5).data.toList (c : Int).toNat.toUInt8 = -1 := by
  have H : ∀ k : Fin 5, ∀ c : Fin 128, Lib.indexByte (BL.extract (k.val + 1) 5).data.toList (((c.val + 128 : Nat) : Int)).toNat.toUInt8 = -1 := by decide +kernel
  have := H ⟨k, hk⟩ ⟨c - 128, by omega⟩
  simp only at this
  rwa [show c - 128 + 128 = c by omega] at this
theorem bl_at : ∀ i : Fin 5, (BL[i.val]'i.isLt).toNat < 128 := by decide +kernel
theorem qal {P : Program} {f : FuncId} {args : Array Value} {w : World} {a n : Nat} {v : Value} (h : Calls P f args (w.drewN (a + n)) fun e w' => e = .returned v ∧ w.drewN (a + n) = w') : Calls P f args (w.drewN (a + n)) fun e w'' => e = .returned v ∧ ∃ m, w'' = w.drewN (a + m) :=
  h.mono fun _ _ hh => ⟨hh.1, n, hh.2.symm⟩
theorem vr_of {r : Int} (hv : Utf8.valid r = true) : Lib.validRune r = true := by
  unfold Utf8.valid at hv
  unfold Lib.validRune
  simp at hv ⊢
  omega
set_option maxHeartbeats 4000000 in
set_option maxRecDepth 100000 in
theorem idx_high (r : Int) (hv : Utf8.valid r = true) (h128 : 128 ≤ r) (hr : r ≤ 1114111) (hne : ¬ r = 65533) (w : World) :
    Calls Tryd.prog 32 #[.string ⟨#[9, 10, 12, 13, 32]⟩, .int .i32 r] w fun e w' => e = .returned (.int .i64 (-1)) ∧ Below w.heap.size w w' := by
  obtain ⟨z2, z4, zl⟩ := encode_facts r hv h128
  have HVR := Aside0.mk (show Calls Tryd.prog 38 #[.int .i32 r] w fun e w' => e = .returned (.bool true) ∧ w = w' from by have h := Tryd.utf8_ValidRune r w; rw [vr_of hv] at h; exact h.mono fun e w' hh => ⟨hh.1, hh.2.symm⟩)
  obtain ⟨S, hS⟩ : ∃ S, Utf8.encode r = S := ⟨_, rfl⟩
  rw [hS] at z2 z4 zl
  have d1 : decide (0 ≤ r) = true := decide_eq_true (by omega)
  have d2 : decide (r < 128) = false := decide_eq_false (by omega)
  have d3 : (r == 65533) = false := by simp [hne]
  obtain ⟨m, hm⟩ : ∃ m, S.size = m + 1 := ⟨S.size - 1, by omega⟩
  have hml : m < S.size := by omega
  obtain ⟨c, hc⟩ : ∃ c, (S[m]'hml).toNat = c := ⟨_, rfl⟩
  have hc0 : 128 ≤ c := by
    have := zl (by omega)
    have e : S.size - 1 = m := by omega
    simp only [e] at this
    omega
  have hc1 : c < 256 := by rw [← hc]; exact (S[m]'hml).toNat_lt
  have hm3 : m = 1 ∨ m = 2 ∨ m = 3 := by omega
  have HI := Aside0.mk (show ∀ k : Nat, k < 5 → ∀ W, Calls Tryd.prog 16 #[.string (BL.extract (k + 1) 5), .int .u8 (c : Int)] W fun e w' => e = .returned (.int .i64 (-1)) ∧ W = w' from fun k hk W => by
    have h := Tryd.strings_IndexByte (BL.extract (k + 1) 5) (c : Int) W
    rw [no_high k hk c hc0 hc1] at h
    exact h.mono fun e w' hh => ⟨hh.1, hh.2.symm⟩)
  clear z2 z4 zl hv
  rcases hm3 with rfl | rfl | rfl
  · have hSx : ∀ h : 1 < S.size, (S[1]'h).toNat = c := fun _ => hc
    have hBx : ∀ h : 1 < (⟨#[9, 10, 12, 13, 32]⟩ : ByteArray).size, ((⟨#[9, 10, 12, 13, 32]⟩ : ByteArray)[1]'h).toNat = 10 := fun _ => rfl
    have hcn : ((10 : Int) != (c : Int)) = true := by simp; omega
    have HI1 := Aside0.mk (HI.out 1 (by decide))
    clear hc hml HI
    go_enter Tryd.func32, Tryd.ntmps32
    go_wp2_with (go_at_call 38; (with_reducible refine HVR.out.mono ?_); rintro e w' ⟨rfl, rfl⟩)
    go_step3
    go_wp2
    go_loopw [9, 10, 11] (fun i f o wr => i = .int .i64 1 ∧ f = .int .i64 0 ∧ Below w.heap.size w wr) (fun _ _ _ _ => 0)
    case atStart => exact ⟨rfl, rfl, Below.refl _ _⟩
    case round =>
      obtain ⟨rfl, rfl, hB⟩ := hrel
      have HB := Aside0.mk hB
      clear hB
      go_wp2
      go_step3
      go_wp2
      go_quiet (fail)
      go_upto_region 7 with fail
      go_quiet ((go_at_call 16; exact qal (HI1.out _)))
      go_wp2
      change bodyPost Tryd.prog Tryd.f32 (fun e w' => e = .returned (.int .i64 (-1)) ∧ Below w.heap.size w w') Exit.ret _ _
      go_ret
      exact ⟨rfl, pw_below_drewN HB.out _⟩
  · have hSx : ∀ h : 2 < S.size, (S[2]'h).toNat = c := fun _ => hc
    have hBx : ∀ h : 2 < (⟨#[9, 10, 12, 13, 32]⟩ : ByteArray).size, ((⟨#[9, 10, 12, 13, 32]⟩ : ByteArray)[2]'h).toNat = 12 := fun _ => rfl
    have hcn : ((12 : Int) != (c : Int)) = true := by simp; omega
    have HI1 := Aside0.mk (HI.out 2 (by decide))
    clear hc hml HI
    go_enter Tryd.func32, Tryd.ntmps32
    go_wp2_with (go_at_call 38; (with_reducible refine HVR.out.mono ?_); rintro e w' ⟨rfl, rfl⟩)
    go_step3
    go_wp2
    go_loopw [9, 10, 11] (fun i f o wr => i = .int .i64 2 ∧ f = .int .i64 0 ∧ Below w.heap.size w wr) (fun _ _ _ _ => 0)
    case atStart => exact ⟨rfl, rfl, Below.refl _ _⟩
    case round =>
      obtain ⟨rfl, rfl, hB⟩ := hrel
      have HB := Aside0.mk hB
      clear hB
      go_wp2
      go_step3
      go_wp2
      go_quiet (fail)
      go_upto_region 7 with fail
      go_quiet ((go_at_call 16; exact qal (HI1.out _)))
      go_wp2
      change bodyPost Tryd.prog Tryd.f32 (fun e w' => e = .returned (.int .i64 (-1)) ∧ Below w.heap.size w w') Exit.ret _ _
      go_ret
      exact ⟨rfl, pw_below_drewN HB.out _⟩
  · have hSx : ∀ h : 3 < S.size, (S[3]'h).toNat = c := fun _ => hc
    have hBx : ∀ h : 3 < (⟨#[9, 10, 12, 13, 32]⟩ : ByteArray).size, ((⟨#[9, 10, 12, 13, 32]⟩ : ByteArray)[3]'h).toNat = 13 := fun _ => rfl
    have hcn : ((13 : Int) != (c : Int)) = true := by simp; omega
    have HI1 := Aside0.mk (HI.out 3 (by decide))
    clear hc hml HI
    go_enter Tryd.func32, Tryd.ntmps32
    go_wp2_with (go_at_call 38; (with_reducible refine HVR.out.mono ?_); rintro e w' ⟨rfl, rfl⟩)
    go_step3
    go_wp2
    go_loopw [9, 10, 11] (fun i f o wr => i = .int .i64 3 ∧ f = .int .i64 0 ∧ Below w.heap.size w wr) (fun _ _ _ _ => 0)
    case atStart => exact ⟨rfl, rfl, Below.refl _ _⟩
    case round =>
      obtain ⟨rfl, rfl, hB⟩ := hrel
      have HB := Aside0.mk hB
      clear hB
      go_wp2
      go_step3
      go_wp2
      go_quiet (fail)
      go_upto_region 7 with fail
      go_quiet ((go_at_call 16; exact qal (HI1.out _)))
      go_wp2
      change bodyPost Tryd.prog Tryd.f32 (fun e w' => e = .returned (.int .i64 (-1)) ∧ Below w.heap.size w w') Exit.ret _ _
      go_ret
      exact ⟨rfl, pw_below_drewN HB.out _⟩
theorem iter_below (w : World) (s : ByteArray) (pos : Nat) : Below w.heap.size w (w.iter s pos) := (Below.refl _ _).alloc (Nat.le_refl _) _
set_option maxHeartbeats 4000000 in
set_option maxRecDepth 100000 in
theorem idx_err (w : World) :
    Calls Tryd.prog 32 #[.string ⟨#[9, 10, 12, 13, 32]⟩, .int .i32 65533] w fun e w' => e = .returned (.int .i64 (-1)) ∧ Below w.heap.size w w' := by
  go_enter Tryd.func32, Tryd.ntmps32
  go_wp2
  go_loopw [5, 6] (fun _ _ w' => ∃ pos : Nat, pos ≤ 5 ∧ w' = w.iter (⟨#[9, 10, 12, 13, 32]⟩ : ByteArray) pos) (fun _ _ w' => 5 - w'.iterPos w.heap.size)
  case atStart => exact ⟨0, by omega, rfl⟩
  case round =>
    obtain ⟨pos, hp, rfl⟩ := hrel
    have hpc : pos = 0 ∨ pos = 1 ∨ pos = 2 ∨ pos = 3 ∨ pos = 4 ∨ pos = 5 := by omega
    clear hp
    rcases hpc with rfl | rfl | rfl | rfl | rfl | rfl
    · have hnx : ∀ ty, (Instr.next (.pointer (some ⟨w.heap.size, 0, none⟩)) true ty).run Tryd.prog (w.iter (⟨#[9, 10, 12, 13, 32]⟩ : ByteArray) 0) = .ok (.tuple #[.bool true, .int .i64 0, .int .i32 9]) (w.iter (⟨#[9, 10, 12, 13, 32]⟩ : ByteArray) 1) := fun ty => by
        have h := run_next_any (P := Tryd.prog) w (⟨#[9, 10, 12, 13, 32]⟩ : ByteArray) 0 ty (by decide)
        rw [show Utf8.decode (⟨#[9, 10, 12, 13, 32]⟩ : ByteArray) 0 = (9, 1) by decide +kernel] at h
        exact h
      go_wp2
      go_roundw
      case rel => exact ⟨1, by omega, rfl⟩
      case measure => simp
    · have hnx : ∀ ty, (Instr.next (.pointer (some ⟨w.heap.size, 0, none⟩)) true ty).run Tryd.prog (w.iter (⟨#[9, 10, 12, 13, 32]⟩ : ByteArray) 1) = .ok (.tuple #[.bool true, .int .i64 1, .int .i32 10]) (w.iter (⟨#[9, 10, 12, 13, 32]⟩ : ByteArray) 2) := fun ty => by
        have h := run_next_any (P := Tryd.prog) w (⟨#[9, 10, 12, 13, 32]⟩ : ByteArray) 1 ty (by decide)
        rw [show Utf8.decode (⟨#[9, 10, 12, 13, 32]⟩ : ByteArray) 1 = (10, 1) by decide +kernel] at h
        exact h
      go_wp2
      go_roundw
      case rel => exact ⟨2, by omega, rfl⟩
      case measure => simp
    · have hnx : ∀ ty, (Instr.next (.pointer (some ⟨w.heap.size, 0, none⟩)) true ty).run Tryd.prog (w.iter (⟨#[9, 10, 12, 13, 32]⟩ : ByteArray) 2) = .ok (.tuple #[.bool true, .int .i64 2, .int .i32 12]) (w.iter (⟨#[9, 10, 12, 13, 32]⟩ : ByteArray) 3) := fun ty => by
        have h := run_next_any (P := Tryd.prog) w (⟨#[9, 10, 12, 13, 32]⟩ : ByteArray) 2 ty (by decide)
        rw [show Utf8.decode (⟨#[9, 10, 12, 13, 32]⟩ : ByteArray) 2 = (12, 1) by decide +kernel] at h
        exact h
      go_wp2
      go_roundw
      case rel => exact ⟨3, by omega, rfl⟩
      case measure => simp
    · have hnx : ∀ ty, (Instr.next (.pointer (some ⟨w.heap.size, 0, none⟩)) true ty).run Tryd.prog (w.iter (⟨#[9, 10, 12, 13, 32]⟩ : ByteArray) 3) = .ok (.tuple #[.bool true, .int .i64 3, .int .i32 13]) (w.iter (⟨#[9, 10, 12, 13, 32]⟩ : ByteArray) 4) := fun ty => by
        have h := run_next_any (P := Tryd.prog) w (⟨#[9, 10, 12, 13, 32]⟩ : ByteArray) 3 ty (by decide)
        rw [show Utf8.decode (⟨#[9, 10, 12, 13, 32]⟩ : ByteArray) 3 = (13, 1) by decide +kernel] at h
        exact h
      go_wp2
      go_roundw
      case rel => exact ⟨4, by omega, rfl⟩
      case measure => simp
    · have hnx : ∀ ty, (Instr.next (.pointer (some ⟨w.heap.size, 0, none⟩)) true ty).run Tryd.prog (w.iter (⟨#[9, 10, 12, 13, 32]⟩ : ByteArray) 4) = .ok (.tuple #[.bool true, .int .i64 4, .int .i32 32]) (w.iter (⟨#[9, 10, 12, 13, 32]⟩ : ByteArray) 5) := fun ty => by
        have h := run_next_any (P := Tryd.prog) w (⟨#[9, 10, 12, 13, 32]⟩ : ByteArray) 4 ty (by decide)
        rw [show Utf8.decode (⟨#[9, 10, 12, 13, 32]⟩ : ByteArray) 4 = (32, 1) by decide +kernel] at h
        exact h
      go_wp2
      go_roundw
      case rel => exact ⟨5, by omega, rfl⟩
      case measure => simp
    · have hnx : ∀ ty, (Instr.next (.pointer (some ⟨w.heap.size, 0, none⟩)) true ty).run Tryd.prog (w.iter (⟨#[9, 10, 12, 13, 32]⟩ : ByteArray) 5) = _ := fun ty => run_next_end w (⟨#[9, 10, 12, 13, 32]⟩ : ByteArray) 5 ty (by decide)
      go_wp2
      go_ret
      exact ⟨rfl, iter_below _ _ _⟩
def blank (r : Int) : Bool := decide (r = 9) || decide (r = 10) || decide (r = 12) || decide (r = 13) || decide (r = 32)
theorem asc_blank (n : Nat) (h : n < 128) : decide (0 ≤ Lib.indexByte (⟨#[9, 10, 12, 13, 32]⟩ : ByteArray).data.toList (n : Int).toNat.toUInt8) = blank (n : Int) := by
  have H : ∀ n : Fin 128, decide (0 ≤ Lib.indexByte (⟨#[9, 10, 12, 13, 32]⟩ : ByteArray).data.toList ((n.val : Nat) : Int).toNat.toUInt8) = blank ((n.val : Nat) : Int) := by decide +kernel
  exact H ⟨n, h⟩
set_option maxHeartbeats 1000000 in
set_option maxRecDepth 100000 in
theorem cr_any (n : Nat) (hv : Utf8.valid (n : Int) = true) (w : World) :
    Calls Tryd.prog 22 #[.string ⟨#[9, 10, 12, 13, 32]⟩, .int .i32 (n : Int)] w fun e w' => e = .returned (.bool (blank (n : Int))) ∧ Below w.heap.size w w' := by
  rcases Nat.lt_or_ge n 128 with h | h
  · have hc := Tryd.strings_ContainsRune_ascii (⟨#[9, 10, 12, 13, 32]⟩ : ByteArray) (n : Int) w (by omega) (by omega)
    rw [asc_blank n h] at hc
    exact hc.mono fun e w' hh => ⟨hh.1, hh.2 ▸ Below.refl _ _⟩
  · have hb : blank (n : Int) = false := by
      unfold blank
      rw [decide_eq_false (by omega), decide_eq_false (by omega), decide_eq_false (by omega), decide_eq_false (by omega), decide_eq_false (by omega)]
      rfl
    rw [hb]
    have hr : (n : Int) ≤ 1114111 := by unfold Utf8.valid at hv; simp at hv; omega
    have HI := Aside0.mk (show Calls Tryd.prog 32 #[.string ⟨#[9, 10, 12, 13, 32]⟩, .int .i32 (n : Int)] w fun e w' => e = .returned (.int .i64 (-1)) ∧ Below w.heap.size w w' from by
      by_cases he : (n : Int) = 65533
      · rw [he]; exact idx_err w
      · exact idx_high (n : Int) hv (by omega) hr he w)
    clear hb hv hr
    go_enter Tryd.func22, Tryd.ntmps22
    go_wp2_with (go_at_call 32; (with_reducible refine HI.out.mono ?_); rintro e w1 ⟨rfl, hb⟩; have HB := Aside0.mk hb; clear hb)
    go_ret
    exact ⟨rfl, HB.out⟩
def mapf (r : Int) : Int := if blank r = true then -1 else r
set_option maxHeartbeats 1000000 in
set_option maxRecDepth 100000 in
theorem fn_any (n : Nat) (hv : Utf8.valid (n : Int) = true) (w : World) :
    Calls Tryd.prog 21 #[.int .i32 (n : Int)] w fun e w' => e = .returned (.int .i32 (mapf (n : Int))) ∧ Below w.heap.size w w' := by
  obtain ⟨q, hq⟩ : ∃ q, blank (n : Int) = q := ⟨_, rfl⟩
  have hc := cr_any n hv w
  rw [hq] at hc
  have HC := Aside0.mk hc
  have HM := Aside0.mk (show mapf (n : Int) = if q = true then -1 else (n : Int) by unfold mapf; rw [hq])
  clear hc hq hv
  cases q
  all_goals
    go_enter Tryd.func21, Tryd.ntmps21
    go_wp2_with (go_at_call 22; (with_reducible refine HC.out.mono ?_); rintro e w1 ⟨rfl, hb⟩; have HB := Aside0.mk hb; clear hb)
    go_ret
    exact ⟨by rw [HM.out]; rfl, HB.out⟩
end Go.Proofs.YtbobbbpjphkooaaDoor.Mp
