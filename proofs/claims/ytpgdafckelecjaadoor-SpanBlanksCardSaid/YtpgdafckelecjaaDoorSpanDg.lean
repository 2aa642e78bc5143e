/- A number's digits, written by the law's own function: the walk. -/
import Derived.Test.YtpgdafckelecjaaDoorProg
import Derived.Test.YtpgdafckelecjaaDoorWMore
import Derived.Test.YtpgdafckelecjaaDoorPl
import Derived.Test.YtpgdafckelecjaaDoorPureSpanBack
import Derived.Lib.ItoaNum
import Derived.IntWalk
import Derived.WalkKit
import Derived.Below
import Derived.Laws.BytesArg
namespace Go.Proofs.YtpgdafckelecjaaDoor.Span
open Go.RowKit Go.Proofs.YtpgdafckelecjaaDoor.Pl Go.Proofs.YtpgdafckelecjaaDoorW.PrintWords Go.Proofs.YtpgdafckelecjaaDoorW.PrintLast Go.Proofs.YtpgdafckelecjaaDoorW.PrintMore
set_option linter.unusedVariables false
set_option linter.unusedSimpArgs false
def oneS (m : Nat) : ByteArray := ⟨#[UInt8.ofNat (48 + m)]⟩
def dS (n : Nat) : ByteArray := ⟨(Lib.decDigits n).toArray⟩
theorem conv_one (W : World) (m : Nat) (hm : m < 10) : (convert 53 9 (.slice (some ⟨W.heap.size, 0, none⟩) 1 1)).run Tryd.prog (W.alloc (.cells #[.int .u8 (48 + (m : Int))] 5)) = .ok (.string (oneS m)) (W.alloc (.cells #[.int .u8 (48 + (m : Int))] 5)) := by
  have h := run_convert_bytes_arg (P := Tryd.prog) (W.alloc (.cells #[.int .u8 (48 + (m : Int))] 5)) 53 5 Tryd.underlying53 Tryd.underlying5 W.heap.size 0 1 1 [48 + (m : Int)] rfl (fun i hi => by
    obtain rfl : i = 0 := by omega
    have hb : (W.alloc (.cells #[.int .u8 (48 + (m : Int))] 5)).heap[W.heap.size]? = some (.cells #[.int .u8 (48 + (m : Int))] 5) := by
      show (W.heap.push _)[W.heap.size]? = _
      simp
    unfold World.cell?
    rw [hb]
    rfl) 9 Tryd.underlying9
  rw [h]
  have e : strOfNums [48 + (m : Int)] = oneS m := by
    have H : ∀ m : Nat, m < 10 → strOfNums [48 + (m : Int)] = oneS m := by decide +kernel
    exact H m hm
  first | rfl | (rw [← e]; rfl)
theorem dS_size (n : Nat) (hn : n ≤ 65535) : (dS n).size ≤ 5 := by
  have := dec_len_le 4 n (by omega)
  have e : (dS n).size = (Lib.decDigits n).length := by show (Lib.decDigits n).toArray.size = _; simp
  omega
theorem digits_walk : ∀ n : Nat, n ≤ 65535 → ∀ w : World, Calls Tryd.prog 15 #[.int .u16 (n : Int)] w fun e w' => e = .returned (.string (dS n)) ∧ Below w.heap.size w w' := by
  intro n
  induction n using Nat.strongRecOn with
  | ind n ih =>
    intro hn w
    obtain ⟨m, hm, hm9⟩ : ∃ m : Nat, (n : Int) % 10 = (m : Int) ∧ m < 10 := ⟨n % 10, by omega, by omega⟩
    have hconv := fun W => conv_one W m (by omega)
    have hmn : m = n % 10 := by omega
    by_cases h9 : n ≤ 9
    · have hd : decide ((9 : Int) < (n : Int)) = false := decide_eq_false (by omega)
      have HE := Aside0.mk (show dS n = oneS m by
        unfold dS oneS
        rw [Lib.decDigits, dif_pos (by omega), hmn, Nat.mod_eq_of_lt (by omega)])
      clear ih hmn
      go_enter Tryd.func15, Tryd.ntmps15
      go_wp2
      go_ret
      exact ⟨by rw [HE.out]; rfl, below_alloc (Below.refl _ _) _⟩
    · have hd : decide ((9 : Int) < (n : Int)) = true := decide_eq_true (by omega)
      obtain ⟨q, hq, hq2⟩ : ∃ q : Nat, (n : Int) / 10 = (q : Int) ∧ q = n / 10 := ⟨n / 10, by omega, rfl⟩
      have HI := Aside0.mk (ih q (by omega) (by omega))
      have HE := Aside0.mk (show dS n = dS q ++ oneS m by
        unfold dS oneS
        rw [Lib.decDigits, dif_neg (by omega), hmn, hq2]
        apply ext_data
        simp)
      have hcat : ¬ (9223372036854775807 < (dS q).size + (oneS m).size) := by
        have := dS_size q (by omega)
        have e : (oneS m).size = 1 := rfl
        omega
      clear ih hmn hq2
      go_enter Tryd.func15, Tryd.ntmps15
      go_wp2_with (go_at_call 15; refine (HI.out _).mono ?_; rintro e w1 ⟨rfl, hb1⟩)
      go_ret
      exact ⟨by rw [HE.out]; rfl, (below_alloc (Below.refl _ _) _).trans (hb1.mono (by simp))⟩
end Go.Proofs.YtpgdafckelecjaaDoor.Span
