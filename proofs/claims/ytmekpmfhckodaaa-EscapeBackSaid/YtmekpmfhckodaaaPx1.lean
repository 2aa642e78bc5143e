-- Written for this claim by a program of this session's (not a text of the kit's print).
import Derived.Test.YtmekpmfhckodaaaPx0
namespace Go.Proofs.Ytmekpmfhckodaaa.P
open Go.RowKit Go.Proofs.YtmekpmfhckodaaaW.PrintWords Go.Proofs.YtmekpmfhckodaaaW.PrintLast Go.Proofs.YtmekpmfhckodaaaW.PrintMore
attribute [local go_sem] max2_int min2_int max_two min_two max_three min_three max_four min_four   -- for this text's walks alone
set_option linter.unusedVariables false
set_option linter.unusedSimpArgs false

/-! ### strings_IndexByte: function 16 -/
def strings_IndexByte.f (a0 : ByteArray) (a1 : Int) : Option (Int) := some (Lib.indexByte a0.data.toList a1.toNat.toUInt8)
theorem strings_IndexByte.calls (a0 : ByteArray) (a1 : Int) (r : Int) (w : World) (h : strings_IndexByte.f a0 a1 = some r) :
    Calls Try.prog 16 #[.string a0, .int .u8 a1] w fun e w' => e = .returned (.int .i64 r) ∧ Drawn0 w w' := by
  obtain rfl := Option.some.inj h
  exact (Try.strings_IndexByte a0 a1 w).mono (fun e w' hh => ⟨hh.1, hh.2 ▸ Drawn0.refl _⟩)


/-! ### escape_signs: function 17 -/
def escape_signs.f (a0 : Int) : Option (ByteArray) := if a0 = 1 then (some (⟨#[32, 34, 60, 62, 96]⟩ : ByteArray)) else (if a0 = 2 then (some (⟨#[32, 34, 35, 60, 62]⟩ : ByteArray)) else (if a0 = 3 then (some (⟨#[32, 34, 35, 60, 62, 39]⟩ : ByteArray)) else (if a0 = 4 then (some (⟨#[32, 34, 35, 60, 62, 63, 94, 96, 123, 125]⟩ : ByteArray)) else (if a0 = 5 then (some (⟨#[32, 34, 35, 60, 62, 63, 94, 96, 123, 125, 47, 58, 59, 61, 64, 91, 92, 93, 124]⟩ : ByteArray)) else (if a0 = 6 then (some (⟨#[32, 34, 35, 60, 62, 63, 94, 96, 123, 125, 47, 58, 59, 61, 64, 91, 92, 93, 124, 36, 37, 38, 43, 44]⟩ : ByteArray)) else (some (⟨#[]⟩ : ByteArray)))))))
set_option maxHeartbeats 8000000 in
set_option maxRecDepth 100000 in
theorem escape_signs.calls (a0 : Int) (r : ByteArray) (w : World) (h : escape_signs.f a0 = some r) :
    Calls Try.prog 17 #[.int .i64 a0] w fun e w' => e = .returned (.string r) ∧ Drawn0 w w' := by
  have H : (if a0 = 1 then (some (⟨#[32, 34, 60, 62, 96]⟩ : ByteArray)) else (if a0 = 2 then (some (⟨#[32, 34, 35, 60, 62]⟩ : ByteArray)) else (if a0 = 3 then (some (⟨#[32, 34, 35, 60, 62, 39]⟩ : ByteArray)) else (if a0 = 4 then (some (⟨#[32, 34, 35, 60, 62, 63, 94, 96, 123, 125]⟩ : ByteArray)) else (if a0 = 5 then (some (⟨#[32, 34, 35, 60, 62, 63, 94, 96, 123, 125, 47, 58, 59, 61, 64, 91, 92, 93, 124]⟩ : ByteArray)) else (if a0 = 6 then (some (⟨#[32, 34, 35, 60, 62, 63, 94, 96, 123, 125, 47, 58, 59, 61, 64, 91, 92, 93, 124, 36, 37, 38, 43, 44]⟩ : ByteArray)) else (some (⟨#[]⟩ : ByteArray)))))))) = some r := h
  clear h
  by_cases c2 : a0 = 1
  · rw [if_pos c2] at H
    have c2b0 : (a0 == 1) = true := beq_iff_eq.mpr c2
    have c2b1 : (a0 != 1) = false := bne_eq_false_iff_eq.mpr c2
    clear c2
    obtain rfl := Option.some.inj H
    go_enter Try.func17, Try.ntmps17
    go_wp2
    go_ret
    exact ⟨by first | rfl | (simp; done) | (simp [*]; done), by repeat (first | exact Drawn0.refl _ | apply Drawn0.step)⟩
  · rw [if_neg c2] at H
    have c2b0 : (a0 == 1) = false := beq_eq_false_iff_ne.mpr c2
    have c2b1 : (a0 != 1) = true := bne_iff_ne.mpr c2
    by_cases c3 : a0 = 2
    · rw [if_pos c3] at H
      have c3b0 : (a0 == 2) = true := beq_iff_eq.mpr c3
      have c3b1 : (a0 != 2) = false := bne_eq_false_iff_eq.mpr c3
      clear c3
      obtain rfl := Option.some.inj H
      go_enter Try.func17, Try.ntmps17
      go_wp2
      go_ret
      exact ⟨by first | rfl | (simp; done) | (simp [*]; done), by repeat (first | exact Drawn0.refl _ | apply Drawn0.step)⟩
    · rw [if_neg c3] at H
      have c3b0 : (a0 == 2) = false := beq_eq_false_iff_ne.mpr c3
      have c3b1 : (a0 != 2) = true := bne_iff_ne.mpr c3
      by_cases c4 : a0 = 3
      · rw [if_pos c4] at H
        have c4b0 : (a0 == 3) = true := beq_iff_eq.mpr c4
        have c4b1 : (a0 != 3) = false := bne_eq_false_iff_eq.mpr c4
        clear c4
        obtain rfl := Option.some.inj H
        go_enter Try.func17, Try.ntmps17
        go_wp2
        go_ret
        exact ⟨by first | rfl | (simp; done) | (simp [*]; done), by repeat (first | exact Drawn0.refl _ | apply Drawn0.step)⟩
      · rw [if_neg c4] at H
        have c4b0 : (a0 == 3) = false := beq_eq_false_iff_ne.mpr c4
        have c4b1 : (a0 != 3) = true := bne_iff_ne.mpr c4
        by_cases c5 : a0 = 4
        · rw [if_pos c5] at H
          have c5b0 : (a0 == 4) = true := beq_iff_eq.mpr c5
          have c5b1 : (a0 != 4) = false := bne_eq_false_iff_eq.mpr c5
          clear c5
          obtain rfl := Option.some.inj H
          go_enter Try.func17, Try.ntmps17
          go_wp2
          go_ret
          exact ⟨by first | rfl | (simp; done) | (simp [*]; done), by repeat (first | exact Drawn0.refl _ | apply Drawn0.step)⟩
        · rw [if_neg c5] at H
          have c5b0 : (a0 == 4) = false := beq_eq_false_iff_ne.mpr c5
          have c5b1 : (a0 != 4) = true := bne_iff_ne.mpr c5
          by_cases c6 : a0 = 5
          · rw [if_pos c6] at H
            have c6b0 : (a0 == 5) = true := beq_iff_eq.mpr c6
            have c6b1 : (a0 != 5) = false := bne_eq_false_iff_eq.mpr c6
            clear c6
            obtain rfl := Option.some.inj H
            go_enter Try.func17, Try.ntmps17
            go_wp2
            go_ret
            exact ⟨by first | rfl | (simp; done) | (simp [*]; done), by repeat (first | exact Drawn0.refl _ | apply Drawn0.step)⟩
          · rw [if_neg c6] at H
            have c6b0 : (a0 == 5) = false := beq_eq_false_iff_ne.mpr c6
            have c6b1 : (a0 != 5) = true := bne_iff_ne.mpr c6
            by_cases c7 : a0 = 6
            · rw [if_pos c7] at H
              have c7b0 : (a0 == 6) = true := beq_iff_eq.mpr c7
              have c7b1 : (a0 != 6) = false := bne_eq_false_iff_eq.mpr c7
              clear c7
              obtain rfl := Option.some.inj H
              go_enter Try.func17, Try.ntmps17
              go_wp2
              go_ret
              exact ⟨by first | rfl | (simp; done) | (simp [*]; done), by repeat (first | exact Drawn0.refl _ | apply Drawn0.step)⟩
            · rw [if_neg c7] at H
              have c7b0 : (a0 == 6) = false := beq_eq_false_iff_ne.mpr c7
              have c7b1 : (a0 != 6) = true := bne_iff_ne.mpr c7
              obtain rfl := Option.some.inj H
              go_enter Try.func17, Try.ntmps17
              go_wp2
              go_ret
              exact ⟨by first | rfl | (simp; done) | (simp [*]; done), by repeat (first | exact Drawn0.refl _ | apply Drawn0.step)⟩

/-! ### escape_In: function 10 -/
def escape_In.j0 : Nat → Int → Int → Bool → Option (Bool)
  | 0, _, _, _ => none
  | k + 1, x0, x1, x10 => if x10 = true then (some false) else (if x1 < 32 then (some true) else (if x1 > 126 then (some true) else ((escape_signs.f x0).bind fun t101 => ((strings_IndexByte.f t101 x1).bind fun t102 => (some (decide (t102 ≥ 0)))))))
def escape_In.f (k : Nat) (a0 : Int) (a1 : Int) : Option (Bool) := if a0 < 0 then (escape_In.j0 k a0 a1 true) else (escape_In.j0 k a0 a1 (decide (a0 > 6)))
theorem escape_In.mono_l : ∀ k, (∀ y0 y1 y2, LeO (escape_In.j0 k y0 y1 y2) (escape_In.j0 (k + 1) y0 y1 y2))
  | 0 => fun _ _ _ r h => by simp [escape_In.j0] at h
  | k + 1 => by
    have ih0 := escape_In.mono_l k
    · intro y0 y1 y2
      unfold escape_In.j0
      repeat' first
      | (with_reducible exact ih0 _ _ _)
      | (with_reducible exact LeO.refl _)
      | (with_reducible exact LeO.none _)
      | (with_reducible refine LeO.ite ?_ ?_)
      | (with_reducible refine LeO.bind ?_ (fun _ => ?_))
      | exact ih0 _ _ _
      | exact LeO.none _
      | refine LeO.ite ?_ ?_
      | refine LeO.bind ?_ (fun _ => ?_)
theorem escape_In.mono : ∀ a0 a1 k, LeO (escape_In.f k a0 a1) (escape_In.f (k + 1) a0 a1) := by
  intro a0 a1 k
  have ih0 := escape_In.mono_l k
  unfold escape_In.f
  repeat' first
      | (with_reducible exact ih0 _ _ _)
      | (with_reducible exact LeO.refl _)
      | (with_reducible exact LeO.none _)
      | (with_reducible refine LeO.ite ?_ ?_)
      | (with_reducible refine LeO.bind ?_ (fun _ => ?_))
      | exact ih0 _ _ _
      | exact LeO.none _
      | refine LeO.ite ?_ ?_
      | refine LeO.bind ?_ (fun _ => ?_)
set_option maxHeartbeats 8000000 in
set_option maxRecDepth 100000 in
theorem escape_In.calls (k : Nat) (a0 : Int) (a1 : Int) (r : Bool) (w : World) (h : escape_In.f k a0 a1 = some r) :
    Calls Try.prog 10 #[.int .i64 a0, .int .u8 a1] w fun e w' => e = .returned (.bool r) ∧ Drawn0 w w' := by
  have H : (if a0 < 0 then (escape_In.j0 k a0 a1 true) else (escape_In.j0 k a0 a1 (decide (a0 > 6)))) = some r := h
  clear h
  have HC3 := Aside0.mk H
  clear H
  go_enter Try.func10, Try.ntmps10
  go_upto_region 1 with (fail)
  go_cut [10] (fun v10 wc => ∃ (kq : Nat) (x10_2 : Bool), v10 = .bool x10_2 ∧ Aside0 (escape_In.j0 kq a0 a1 x10_2 = some r) ∧ Aside0 (kq ≤ k) ∧ Drawn0 w wc)
  case first =>
    have H := HC3.out
    clear HC3
    by_cases c4 : a0 < 0
    · rw [if_pos c4] at H
      have c4b0 : decide (a0 < 0) = true := decide_eq_true c4
      clear c4
      (first | rw [c4b0] | (simp only [i64_w, i32_w]; rw [c4b0]) | skip)
      have H' := Aside0.mk H
      clear H
      go_wp2
      go_meet
      case rel => exact ⟨_, (true), (by first | rfl | (simp; done) | (simp [*]; done)), H', ⟨by first | omega | exact Nat.le_refl _⟩, by repeat (first | exact Drawn0.refl _ | apply Drawn0.step)⟩
    · rw [if_neg c4] at H
      have c4b0 : decide (a0 < 0) = false := decide_eq_false c4
      clear c4
      (first | rw [c4b0] | (simp only [i64_w, i32_w]; rw [c4b0]) | skip)
      have H' := Aside0.mk H
      clear H
      go_wp2
      go_meet
      case rel => exact ⟨_, (decide (a0 > 6)), (by first | rfl | (simp; done) | (simp [*]; done)), H', ⟨by first | omega | exact Nat.le_refl _⟩, by repeat (first | exact Drawn0.refl _ | apply Drawn0.step)⟩
  case rest =>
    clear HC3
    try clear c1
    try clear p2
    try clear c4
    try clear c4b0
    obtain ⟨kq, x10_2, rfl, HA, HJ2, ⟨mc2, rfl⟩⟩ := hcut
    cases kq with
    | zero => exact absurd HA.out (by simp [escape_In.j0])
    | succ kj2 =>
      have H := HA.out
      clear HA
      simp only [escape_In.j0] at H
      by_cases c5 : x10_2 = true
      · subst c5
        have H1 : (some false) = some r := by rw [if_pos rfl] at H; exact H
        clear H
        have H := H1
        clear H1
        obtain rfl := Option.some.inj H
        go_wp2
        go_ret
        exact ⟨by first | rfl | (simp; done) | (simp [*]; done), by repeat (first | exact Drawn0.refl _ | apply Drawn0.step)⟩
      · replace c5 := Bool.eq_false_iff.mpr c5
        subst c5
        have H1 : (if a1 < 32 then (some true) else (if a1 > 126 then (some true) else ((escape_signs.f a0).bind fun t101 => ((strings_IndexByte.f t101 a1).bind fun t102 => (some (decide (t102 ≥ 0))))))) = some r := by rw [if_neg (show ¬ (false = true) by decide)] at H; exact H
        clear H
        have H := H1
        clear H1
        by_cases c6 : a1 < 32
        · rw [if_pos c6] at H
          have c6b0 : decide (a1 < 32) = true := decide_eq_true c6
          clear c6
          obtain rfl := Option.some.inj H
          go_wp2
          go_ret
          exact ⟨by first | rfl | (simp; done) | (simp [*]; done), by repeat (first | exact Drawn0.refl _ | apply Drawn0.step)⟩
        · rw [if_neg c6] at H
          have c6b0 : decide (a1 < 32) = false := decide_eq_false c6
          clear c6
          by_cases c7 : a1 > 126
          · rw [if_pos c7] at H
            have c7b0 : decide (126 < a1) = true := decide_eq_true c7
            clear c7
            obtain rfl := Option.some.inj H
            go_wp2
            go_ret
            exact ⟨by first | rfl | (simp; done) | (simp [*]; done), by repeat (first | exact Drawn0.refl _ | apply Drawn0.step)⟩
          · rw [if_neg c7] at H
            have c7b0 : decide (126 < a1) = false := decide_eq_false c7
            clear c7
            replace H := Option.bind_eq_some_iff.mp H
            obtain ⟨t101, A80, H⟩ := H
            replace H : ((strings_IndexByte.f t101 a1).bind fun t102 => (some (decide (t102 ≥ 0)))) = some r := H
            have A8 := Aside0.mk A80
            clear A80
            replace H := Option.bind_eq_some_iff.mp H
            obtain ⟨t102, A90, H⟩ := H
            replace H : (some (decide (t102 ≥ 0))) = some r := H
            have A9 := Aside0.mk A90
            clear A90
            obtain rfl := Option.some.inj H
            go_wp2_with (first | (go_at_call 17; (with_reducible refine (escape_signs.calls a0 t101 _ A8.out).mono ?_); rintro e w' ⟨rfl, ⟨nd, rfl⟩⟩) | (go_at_call 16; (with_reducible refine (strings_IndexByte.calls t101 a1 t102 _ A9.out).mono ?_); rintro e w' ⟨rfl, ⟨nd, rfl⟩⟩))
            go_ret
            exact ⟨by first | rfl | (simp; done) | (simp [*]; done), by repeat (first | exact Drawn0.refl _ | apply Drawn0.step)⟩

/-! ### escape_Encode: function 12 -/
def escape_Encode.hxd (n : Int) : Int := if n < 10 then 48 + n else 55 + n
def escape_Encode.enc1 (b : Bool) (c : Int) : List Int := if b = true then [37, escape_Encode.hxd (c / 16), escape_Encode.hxd (c % 16)] else [c]
def escape_Encode.go (a0 : Int) : List Int → Option (List Int)
  | [] => some []
  | c :: t => if 0 ≤ c ∧ c ≤ 255 then (escape_In.f 3 a0 c).bind fun b => (escape_Encode.go a0 t).map fun r => escape_Encode.enc1 b c ++ r else none
def escape_Encode.f (a0 : Int) (l1 : List Int) : Option (ByteArray) := if l1.length * 3 ≤ 140737488355328 then (escape_Encode.go a0 l1).map strOfNums else none

def escape_Encode.toU (l : List Int) : List UInt8 := l.map fun n => UInt8.ofNat n.toNat
def escape_Encode.EncRel (a0 : Int) (l1 : List Int) (w : World) (k : Nat) (out : List Int) (w' : World) : Prop :=
  ∃ acc rest, out = acc ++ rest ∧ escape_Encode.go a0 (l1.drop k) = some rest ∧ acc.length ≤ 3 * k ∧ Lib.IsBuilder 39 5 w.heap.size w.heap.size (Lib.byteCells (escape_Encode.toU acc)) w' ∧ Below w.heap.size w w'

theorem escape_Encode.EncRel.step_plain {a0 : Int} {l1 : List Int} {w wr : World} {k : Nat} {out acc rest rest1 : List Int} {c : Int} (hout : out = acc ++ rest) (hgo : escape_Encode.go a0 (l1.drop (k + 1)) = some rest1) (hre : escape_Encode.enc1 false c ++ rest1 = rest) (hal : acc.length ≤ 3 * k) (h0 : 0 ≤ c) (h1 : c ≤ 255)
    (hb : Lib.IsBuilder 39 5 w.heap.size w.heap.size (Lib.byteCells (escape_Encode.toU acc) ++ [.int .u8 c]) wr) (hbl : Below w.heap.size w wr) : escape_Encode.EncRel a0 l1 w (k + 1) out wr := by
  refine ⟨acc ++ [c], rest1, ?_, hgo, ?_, ?_, hbl⟩
  · subst hout hre
    simp [escape_Encode.enc1]
  · rw [List.length_append, List.length_singleton]; omega
  · have e : Lib.byteCells (escape_Encode.toU (acc ++ [c])) = Lib.byteCells (escape_Encode.toU acc) ++ [.int .u8 c] := by
      have hc : (((UInt8.ofNat c.toNat).toNat : Nat) : Int) = c := by simp; omega
      simp only [escape_Encode.toU, Lib.byteCells, List.map_append, List.map_cons, List.map_nil, hc]
    rw [e]
    exact hb

def escape_Encode.hxU (n : Int) : UInt8 := UInt8.ofNat (escape_Encode.hxd n).toNat
theorem escape_Encode.dig_slice (w : World) (n : Int) (h0 : 0 ≤ n) (h1 : n < 16) :
    (Instr.slice 9 (.string ⟨#[48, 49, 50, 51, 52, 53, 54, 55, 56, 57, 65, 66, 67, 68, 69, 70]⟩) (some (.int .u8 n)) (some (.int .u8 (n + 1))) none).run Try.prog w = .ok (.string ⟨#[escape_Encode.hxU n]⟩) w := by
  rw [run_slice_string (w := w) 9 _ .u8 .u8 n (n + 1) Try.underlying9 h0 (by omega) (by show n + 1 ≤ 16; omega)]
  obtain ⟨m, rfl⟩ := Int.eq_ofNat_of_zero_le h0
  have hm : m < 16 := by omega
  have e : ∀ m : Nat, m < 16 → ByteArray.extract ⟨#[48, 49, 50, 51, 52, 53, 54, 55, 56, 57, 65, 66, 67, 68, 69, 70]⟩ (m : Int).toNat ((m : Int) + 1).toNat = ⟨#[escape_Encode.hxU m]⟩ := by decide +kernel
  rw [e m hm]

theorem escape_Encode.three_size (a b : UInt8) : ((⟨#[37]⟩ : ByteArray) ++ ⟨#[a]⟩ ++ ⟨#[b]⟩).size = 3 := by
  simp [ByteArray.size_append]
  rfl
theorem escape_Encode.three_cells (a b : UInt8) : Lib.strCells ((⟨#[37]⟩ : ByteArray) ++ ⟨#[a]⟩ ++ ⟨#[b]⟩) = Lib.byteCells [37, a, b] := by
  simp [Lib.strCells, Lib.byteCells, ByteArray.data_append]
theorem escape_Encode.EncRel.step_esc {a0 : Int} {l1 : List Int} {w wr : World} {k : Nat} {out acc rest rest1 : List Int} {c : Int} (hout : out = acc ++ rest) (hgo : escape_Encode.go a0 (l1.drop (k + 1)) = some rest1) (hre : escape_Encode.enc1 true c ++ rest1 = rest) (hal : acc.length ≤ 3 * k) (h0 : 0 ≤ c) (h1 : c ≤ 255)
    (hb : Lib.IsBuilder 39 5 w.heap.size w.heap.size (Lib.byteCells (escape_Encode.toU acc) ++ Lib.strCells ((⟨#[37]⟩ : ByteArray) ++ ⟨#[escape_Encode.hxU (c / 16)]⟩ ++ ⟨#[escape_Encode.hxU (c % 16)]⟩)) wr) (hbl : Below w.heap.size w wr) : escape_Encode.EncRel a0 l1 w (k + 1) out wr := by
  refine ⟨acc ++ [37, escape_Encode.hxd (c / 16), escape_Encode.hxd (c % 16)], rest1, ?_, hgo, ?_, ?_, hbl⟩
  · subst hout hre
    simp [escape_Encode.enc1]
  · rw [List.length_append]; simp; omega
  · rw [escape_Encode.three_cells] at hb
    have e : Lib.byteCells (escape_Encode.toU (acc ++ [37, escape_Encode.hxd (c / 16), escape_Encode.hxd (c % 16)])) = Lib.byteCells (escape_Encode.toU acc) ++ Lib.byteCells [37, escape_Encode.hxU (c / 16), escape_Encode.hxU (c % 16)] := by
      simp only [escape_Encode.toU, Lib.byteCells, List.map_append, List.map_cons, List.map_nil, escape_Encode.hxU]
      rfl
    rw [e]
    exact hb

set_option maxHeartbeats 2000000 in
set_option maxRecDepth 100000 in
theorem escape_Encode.calls (a0 : Int) (A1 : Option Addr) (c1 : Nat) (l1 : List Int) (r : ByteArray) (w : World) (hr1 : Kd.C (Kd.int .u8) w A1 l1.length l1) (hc1 : l1.length ≤ c1) (h : escape_Encode.f a0 l1 = some r) :
    Calls Try.prog 12 #[.int .i64 a0, .slice A1 l1.length c1] w fun e w' => e = .returned (.string r) ∧ Below w.heap.size w w' := by
  unfold escape_Encode.f at h
  by_cases hl : l1.length * 3 ≤ 140737488355328
  · rw [if_pos hl] at h
    obtain ⟨out, hout, rfl⟩ := Option.map_eq_some_iff.1 h
    clear h
    have hm : l1.length ≤ 9223372036854775807 := by omega
    have HR := Aside0.mk hr1
    have HO := Aside0.mk hout
    clear hr1 hout
    go_enter Try.func12, Try.ntmps12
    go_wp2
    go_loopw [10] (fun i wr => ∃ k : Nat, k ≤ l1.length ∧ i = .int .i64 k ∧ escape_Encode.EncRel a0 l1 w k out wr) (fun i _ => l1.length - (intOf i).toNat)
    case atStart => exact ⟨0, Nat.zero_le _, rfl, [], out, rfl, HO.out, Nat.zero_le _, Lib.fresh_isBuilder _ _ w, (Below.refl _ _).alloc (Nat.le_refl _) _⟩
    case round =>
      rename_i wr
      obtain ⟨k, hk, rfl, hE⟩ := hrel
      have HE := Aside0.mk hE
      clear hE HO
      by_cases hlt : k < l1.length
      · obtain ⟨acc, rest, hout, hgo, hal, hbd, hbl⟩ := HE.out
        obtain ⟨ad, hA, hc0⟩ := Kd.at_int (Kd.C_below HR.out hbl) (k : Int) (by omega) (by omega)
        subst hA
        rw [Int.toNat_natCast] at hc0
        obtain ⟨c, hcd⟩ : ∃ c, rd l1 (k : Int) = c := ⟨_, rfl⟩
        rw [hcd] at hc0
        have hdk : l1.drop k = c :: l1.drop (k + 1) := by
          rw [List.drop_eq_getElem_cons hlt]
          unfold rd at hcd
          rw [Int.toNat_natCast, List.getD_eq_getElem?_getD, List.getElem?_eq_getElem hlt] at hcd
          rw [← hcd]; rfl
        rw [hdk] at hgo
        simp only [escape_Encode.go] at hgo
        by_cases hcr : 0 ≤ c ∧ c ≤ 255
        · rw [if_pos hcr] at hgo
          obtain ⟨b, hb, hgo⟩ := Option.bind_eq_some_iff.1 hgo
          obtain ⟨rest1, hr1, hre⟩ := Option.map_eq_some_iff.1 hgo
          obtain ⟨hc0', hc255⟩ := hcr
          have HBI := Aside0.mk hb
          have HOUT := Aside0.mk hout
          have HGO := Aside0.mk hr1
          have HRE := Aside0.mk hre
          have HBD := Aside0.mk hbd
          have HBL := Aside0.mk hbl
          clear hb hout hr1 hre hgo hdk hcd hbd hbl HE
          cases b
          · go_wp2_with (go_at_call 10; refine (escape_In.calls 3 a0 c false _ HBI.out).mono ?_; rintro e w2 ⟨rfl, hw2⟩)
            obtain ⟨nd, rfl⟩ := hw2.out
            refine (Go.Proofs.Ytmekpmfhckodaaa.G.writeByte w.heap.size w.heap.size _ c (wr.drewN nd) HBD.out (by rw [Lib.byteCells_length]; simp only [escape_Encode.toU, List.length_map]; omega) HBL.out.size).mono ?_
            rintro e w3 ⟨rfl, hb3, hbl3⟩
            have HE3 := Aside0.mk (escape_Encode.EncRel.step_plain HOUT.out HGO.out HRE.out hal hc0' hc255 hb3 (Below.trans (pw_below_drewN HBL.out nd) hbl3))
            clear hb3 hbl3 hw2 hgo
            go_wp2
            go_roundw
            case rel => exact ⟨k + 1, by omega, by go_num, HE3.out⟩
            case measure => simp [intOf]; omega
          · go_wp2_with (go_at_call 10; refine (escape_In.calls 3 a0 c true _ HBI.out).mono ?_; rintro e w2 ⟨rfl, hw2⟩)
            obtain ⟨nd, rfl⟩ := hw2.out
            clear hw2 hgo
            have e1 : IntKind.u8.wrap (c / 16 + 1) = c / 16 + 1 := IntWalk.u8_in _ (by omega)
            have e2 : IntKind.u8.wrap (c % 16 + 1) = c % 16 + 1 := IntWalk.u8_in _ (by omega)
            have a1 := u8_and15 (x := c) hc0' (by omega)
            have s1 := fun wx => escape_Encode.dig_slice wx (c / 16) (by omega) (by omega)
            have s2 := fun wx => escape_Encode.dig_slice wx (c % 16) (by omega) (by omega)
            go_still_tail 14, (by kernel_rfl)
            clear e1 e2 a1 s1 s2
            change wpList _ _ _ _ _ (wr.drewN nd).drew
            go_wp2_with fail
            refine (Go.Proofs.Ytmekpmfhckodaaa.G.writeString w.heap.size w.heap.size _ _ (wr.drewN nd).drew HBD.out (by rw [Lib.byteCells_length, escape_Encode.three_size]; simp only [escape_Encode.toU, List.length_map]; omega) HBL.out.size).mono ?_
            rintro e w3 ⟨rfl, hb3, hbl3⟩
            have HE3 := Aside0.mk (escape_Encode.EncRel.step_esc HOUT.out HGO.out HRE.out hal hc0' hc255 hb3 (Below.trans (Below.drew (pw_below_drewN HBL.out nd)) hbl3))
            clear hb3 hbl3
            go_wp2
            go_roundw
            case rel => exact ⟨k + 1, by omega, by go_num, HE3.out⟩
            case measure => simp [intOf]; omega
        · rw [if_neg hcr] at hgo
          exact absurd hgo (by simp)
      · obtain ⟨acc, rest, hout, hgo, hal, hbd, hbl⟩ := HE.out
        have hd : l1.drop k = [] := List.drop_eq_nil_of_le (by omega)
        rw [hd] at hgo
        obtain rfl := Option.some.inj hgo
        rw [List.append_nil] at hout
        subst hout
        clear hd hgo
        have HBD := Aside0.mk hbd
        have HBL := Aside0.mk hbl
        clear hbd hbl HE
        go_wp2_with (go_at_call 20; refine (Try.Builder_String_any w.heap.size w.heap.size (escape_Encode.toU out) wr HBD.out HBL.out.size).mono ?_; rintro e w3 ⟨rfl, hb3⟩)
        go_ret
        exact ⟨rfl, HBL.out.trans hb3⟩
  · rw [if_neg hl] at h
    exact absurd h (by simp)


/-! ### utf_Digit: function 26 -/
def utf_Digit.f (a0 : Int) : Option (Bool) := if a0 ≥ 48 then (some (decide (a0 ≤ 57))) else (some false)
set_option maxHeartbeats 8000000 in
set_option maxRecDepth 100000 in
theorem utf_Digit.calls (a0 : Int) (r : Bool) (w : World) (h : utf_Digit.f a0 = some r) :
    Calls Try.prog 26 #[.int .u8 a0] w fun e w' => e = .returned (.bool r) ∧ Drawn0 w w' := by
  have H : (if a0 ≥ 48 then (some (decide (a0 ≤ 57))) else (some false)) = some r := h
  clear h
  by_cases c2 : a0 ≥ 48
  · rw [if_pos c2] at H
    have c2b0 : decide (48 ≤ a0) = true := decide_eq_true c2
    clear c2
    obtain rfl := Option.some.inj H
    go_enter Try.func26, Try.ntmps26
    go_wp2
    go_ret
    exact ⟨by first | rfl | (simp; done) | (simp [*]; done), by repeat (first | exact Drawn0.refl _ | apply Drawn0.step)⟩
  · rw [if_neg c2] at H
    have c2b0 : decide (48 ≤ a0) = false := decide_eq_false c2
    clear c2
    obtain rfl := Option.some.inj H
    go_enter Try.func26, Try.ntmps26
    go_wp2
    go_ret
    exact ⟨by first | rfl | (simp; done) | (simp [*]; done), by repeat (first | exact Drawn0.refl _ | apply Drawn0.step)⟩

/-! ### utf_Hex: function 22 -/
def utf_Hex.j0 : Nat → Int → Bool → Option (Int)
  | 0, _, _ => none
  | k + 1, x0, x9 => if x9 = true then (some (((x0 - 97) % 256) + 10)) else (if x0 ≥ 65 then (if x0 ≤ 70 then (some (((x0 - 65) % 256) + 10)) else (some (-1))) else (some (-1)))
def utf_Hex.f (k : Nat) (a0 : Int) : Option (Int) := (utf_Digit.f a0).bind fun t103 => (if t103 = true then (some ((a0 - 48) % 256)) else (if a0 ≥ 97 then (utf_Hex.j0 k a0 (decide (a0 ≤ 102))) else (utf_Hex.j0 k a0 false)))
theorem utf_Hex.mono_l : ∀ k, (∀ y0 y1, LeO (utf_Hex.j0 k y0 y1) (utf_Hex.j0 (k + 1) y0 y1))
  | 0 => fun _ _ r h => by simp [utf_Hex.j0] at h
  | k + 1 => by
    have ih0 := utf_Hex.mono_l k
    · intro y0 y1
      unfold utf_Hex.j0
      repeat' first
      | (with_reducible exact ih0 _ _)
      | (with_reducible exact LeO.refl _)
      | (with_reducible exact LeO.none _)
      | (with_reducible refine LeO.ite ?_ ?_)
      | (with_reducible refine LeO.bind ?_ (fun _ => ?_))
      | exact ih0 _ _
      | exact LeO.none _
      | refine LeO.ite ?_ ?_
      | refine LeO.bind ?_ (fun _ => ?_)
theorem utf_Hex.mono : ∀ a0 k, LeO (utf_Hex.f k a0) (utf_Hex.f (k + 1) a0) := by
  intro a0 k
  have ih0 := utf_Hex.mono_l k
  unfold utf_Hex.f
  repeat' first
      | (with_reducible exact ih0 _ _)
      | (with_reducible exact LeO.refl _)
      | (with_reducible exact LeO.none _)
      | (with_reducible refine LeO.ite ?_ ?_)
      | (with_reducible refine LeO.bind ?_ (fun _ => ?_))
      | exact ih0 _ _
      | exact LeO.none _
      | refine LeO.ite ?_ ?_
      | refine LeO.bind ?_ (fun _ => ?_)
set_option maxHeartbeats 8000000 in
set_option maxRecDepth 100000 in
theorem utf_Hex.calls (k : Nat) (a0 : Int) (r : Int) (w : World) (h : utf_Hex.f k a0 = some r) :
    Calls Try.prog 22 #[.int .u8 a0] w fun e w' => e = .returned (.int .i64 r) ∧ Drawn0 w w' := by
  have H : ((utf_Digit.f a0).bind fun t103 => (if t103 = true then (some ((a0 - 48) % 256)) else (if a0 ≥ 97 then (utf_Hex.j0 k a0 (decide (a0 ≤ 102))) else (utf_Hex.j0 k a0 false)))) = some r := h
  clear h
  replace H := Option.bind_eq_some_iff.mp H
  obtain ⟨t103, A20, H⟩ := H
  replace H : (if t103 = true then (some ((a0 - 48) % 256)) else (if a0 ≥ 97 then (utf_Hex.j0 k a0 (decide (a0 ≤ 102))) else (utf_Hex.j0 k a0 false))) = some r := H
  have A2 := Aside0.mk A20
  clear A20
  by_cases c3 : t103 = true
  · subst c3
    have H1 : (some ((a0 - 48) % 256)) = some r := by rw [if_pos rfl] at H; exact H
    clear H
    have H := H1
    clear H1
    obtain rfl := Option.some.inj H
    go_enter Try.func22, Try.ntmps22
    go_wp2_with (first | ((with_reducible refine gate_callee (f := 26) rfl ?_); refine goesL_ (some 5) rfl rfl Try.func26 (by kernel_rfl) rfl #[.int .u8 a0] rfl (by (try simp only [List.map_toArray, List.map_cons, List.map_nil]); first | done | rfl | (simp only [List.length_drop, List.length_take]; rfl)) ?_; (with_reducible refine (utf_Digit.calls a0 true _ A2.out).mono ?_); rintro e w' ⟨rfl, ⟨nd, rfl⟩⟩; refine ⟨_, rfl, ?_⟩))
    go_ret
    exact ⟨by first | rfl | (simp; done) | (simp [*]; done), by repeat (first | exact Drawn0.refl _ | apply Drawn0.step)⟩
  · replace c3 := Bool.eq_false_iff.mpr c3
    subst c3
    have H1 : (if a0 ≥ 97 then (utf_Hex.j0 k a0 (decide (a0 ≤ 102))) else (utf_Hex.j0 k a0 false)) = some r := by rw [if_neg (show ¬ (false = true) by decide)] at H; exact H
    clear H
    have H := H1
    clear H1
    have HC4 := Aside0.mk H
    clear H
    go_enter Try.func22, Try.ntmps22
    go_upto_region 3 with (first | ((with_reducible refine gate_callee (f := 26) rfl ?_); refine goesL_ (some 5) rfl rfl Try.func26 (by kernel_rfl) rfl #[.int .u8 a0] rfl (by (try simp only [List.map_toArray, List.map_cons, List.map_nil]); first | done | rfl | (simp only [List.length_drop, List.length_take]; rfl)) ?_; (with_reducible refine (utf_Digit.calls a0 false _ A2.out).mono ?_); rintro e w' ⟨rfl, ⟨nd, rfl⟩⟩; refine ⟨_, rfl, ?_⟩))
    (try simp only [Act.put, List.setIfInBounds_toArray, List.set_cons_zero, List.set_cons_succ])
    go_cut [9] (fun v9 wc => ∃ (kq : Nat) (x9_3 : Bool), v9 = .bool x9_3 ∧ Aside0 (utf_Hex.j0 kq a0 x9_3 = some r) ∧ Aside0 (kq ≤ k) ∧ Drawn0 w wc)
    case first =>
      have H := HC4.out
      clear HC4
      by_cases c5 : a0 ≥ 97
      · rw [if_pos c5] at H
        have c5b0 : decide (97 ≤ a0) = true := decide_eq_true c5
        clear c5
        (first | rw [c5b0] | (simp only [i64_w, i32_w]; rw [c5b0]) | skip)
        have H' := Aside0.mk H
        clear H
        go_wp2
        go_meet
        case rel => exact ⟨_, (decide (a0 ≤ 102)), (by first | rfl | (simp; done) | (simp [*]; done)), H', ⟨by first | omega | exact Nat.le_refl _⟩, by repeat (first | exact Drawn0.refl _ | apply Drawn0.step)⟩
      · rw [if_neg c5] at H
        have c5b0 : decide (97 ≤ a0) = false := decide_eq_false c5
        clear c5
        (first | rw [c5b0] | (simp only [i64_w, i32_w]; rw [c5b0]) | skip)
        have H' := Aside0.mk H
        clear H
        go_wp2
        go_meet
        case rel => exact ⟨_, (false), (by first | rfl | (simp; done) | (simp [*]; done)), H', ⟨by first | omega | exact Nat.le_refl _⟩, by repeat (first | exact Drawn0.refl _ | apply Drawn0.step)⟩
    case rest =>
      clear HC4
      try clear c2
      try clear p2
      try clear c3
      try clear c5
      try clear c5b0
      obtain ⟨kq, x9_3, rfl, HA, HJ3, ⟨mc3, rfl⟩⟩ := hcut
      cases kq with
      | zero => exact absurd HA.out (by simp [utf_Hex.j0])
      | succ kj3 =>
        have H := HA.out
        clear HA
        simp only [utf_Hex.j0] at H
        by_cases c6 : x9_3 = true
        · subst c6
          have H1 : (some (((a0 - 97) % 256) + 10)) = some r := by rw [if_pos rfl] at H; exact H
          clear H
          have H := H1
          clear H1
          obtain rfl := Option.some.inj H
          go_wp2
          go_ret
          exact ⟨by first | rfl | (simp; done) | (simp [*]; done), by repeat (first | exact Drawn0.refl _ | apply Drawn0.step)⟩
        · replace c6 := Bool.eq_false_iff.mpr c6
          subst c6
          have H1 : (if a0 ≥ 65 then (if a0 ≤ 70 then (some (((a0 - 65) % 256) + 10)) else (some (-1))) else (some (-1))) = some r := by rw [if_neg (show ¬ (false = true) by decide)] at H; exact H
          clear H
          have H := H1
          clear H1
          by_cases c7 : a0 ≥ 65
          · rw [if_pos c7] at H
            have c7b0 : decide (65 ≤ a0) = true := decide_eq_true c7
            clear c7
            by_cases c8 : a0 ≤ 70
            · rw [if_pos c8] at H
              have c8b0 : decide (a0 ≤ 70) = true := decide_eq_true c8
              clear c8
              obtain rfl := Option.some.inj H
              go_wp2
              go_ret
              exact ⟨by first | rfl | (simp; done) | (simp [*]; done), by repeat (first | exact Drawn0.refl _ | apply Drawn0.step)⟩
            · rw [if_neg c8] at H
              have c8b0 : decide (a0 ≤ 70) = false := decide_eq_false c8
              clear c8
              obtain rfl := Option.some.inj H
              go_wp2
              go_ret
              exact ⟨by first | rfl | (simp; done) | (simp [*]; done), by repeat (first | exact Drawn0.refl _ | apply Drawn0.step)⟩
          · rw [if_neg c7] at H
            have c7b0 : decide (65 ≤ a0) = false := decide_eq_false c7
            clear c7
            obtain rfl := Option.some.inj H
            go_wp2
            go_ret
            exact ⟨by first | rfl | (simp; done) | (simp [*]; done), by repeat (first | exact Drawn0.refl _ | apply Drawn0.step)⟩

end Go.Proofs.Ytmekpmfhckodaaa.P
