-- Written for this claim by a program of this session's (not a text of the kit's print).
import Derived.Test.YtnlnkahgdmgooaaDoorPx0
import Derived.Test.YtnlnkahgdmgooaaDoorPx1
import Derived.Test.YtnlnkahgdmgooaaDoorPx4
namespace Go.Proofs.YtnlnkahgdmgooaaDoor.P
open Go.RowKit Go.Proofs.YtnlnkahgdmgooaaDoorW.PrintWords Go.Proofs.YtnlnkahgdmgooaaDoorW.PrintLast Go.Proofs.YtnlnkahgdmgooaaDoorW.PrintMore
attribute [local go_sem] max2_int min2_int max_two min_two max_three min_three max_four min_four   -- for this text's walks alone
set_option linter.unusedVariables false
set_option linter.unusedSimpArgs false

/-! ### escape_In: function 24 -/
def escape_In.j0 : Nat → Int → Int → Bool → Option (Bool)
  | 0, _, _, _ => none
  | k + 1, x0, x1, x10 => if x10 = true then (some false) else (if x1 < 32 then (some true) else (if x1 > 126 then (some true) else ((escape_signs.f x0).bind fun t151 => ((strings_IndexByte.f t151 x1).bind fun t152 => (some (decide (t152 ≥ 0)))))))
def escape_In.f (k : Nat) (a0 : Int) (a1 : Int) : Option (Bool) := if a0 < 0 then (escape_In.j0 k a0 a1 true) else (escape_In.j0 k a0 a1 (decide (a0 > 6)))
theorem escape_In.mono_l : ∀ k, (∀ y0 y1 y2, LeO (escape_In.j0 k y0 y1 y2) (escape_In.j0 (k + 1) y0 y1 y2))
  | 0 => fun _ _ _ r h => by simp [escape_In.j0] at h
  | k + 1 => by
    have ih0 := escape_In.mono_l k
    · intro y0 y1 y2
      unfold escape_In.j0
      repeat' first
      | (with_reducible exact ih0 _ _ _)
      | (with_reducible exact LeO.refl _)
      | (with_reducible exact LeO.none _)
      | (with_reducible refine LeO.ite ?_ ?_)
      | (with_reducible refine LeO.bind ?_ (fun _ => ?_))
      | exact ih0 _ _ _
      | exact LeO.none _
      | refine LeO.ite ?_ ?_
      | refine LeO.bind ?_ (fun _ => ?_)
theorem escape_In.mono : ∀ a0 a1 k, LeO (escape_In.f k a0 a1) (escape_In.f (k + 1) a0 a1) := by
  intro a0 a1 k
  have ih0 := escape_In.mono_l k
  unfold escape_In.f
  repeat' first
      | (with_reducible exact ih0 _ _ _)
      | (with_reducible exact LeO.refl _)
      | (with_reducible exact LeO.none _)
      | (with_reducible refine LeO.ite ?_ ?_)
      | (with_reducible refine LeO.bind ?_ (fun _ => ?_))
      | exact ih0 _ _ _
      | exact LeO.none _
      | refine LeO.ite ?_ ?_
      | refine LeO.bind ?_ (fun _ => ?_)
set_option maxHeartbeats 8000000 in
set_option maxRecDepth 100000 in
theorem escape_In.calls (k : Nat) (a0 : Int) (a1 : Int) (r : Bool) (w : World) (h : escape_In.f k a0 a1 = some r) :
    Calls Tryd.prog 24 #[.int .i64 a0, .int .u8 a1] w fun e w' => e = .returned (.bool r) ∧ Drawn0 w w' := by
  have H : (if a0 < 0 then (escape_In.j0 k a0 a1 true) else (escape_In.j0 k a0 a1 (decide (a0 > 6)))) = some r := h
  clear h
  have HC3 := Aside0.mk H
  clear H
  go_enter Tryd.func24, Tryd.ntmps24
  go_upto_region 1 with (fail)
  go_cut [10] (fun v10 wc => ∃ (kq : Nat) (x10_2 : Bool), v10 = .bool x10_2 ∧ Aside0 (escape_In.j0 kq a0 a1 x10_2 = some r) ∧ Aside0 (kq ≤ k) ∧ Drawn0 w wc)
  case first =>
    have H := HC3.out
    clear HC3
    by_cases c4 : a0 < 0
    · rw [if_pos c4] at H
      have c4b0 : decide (a0 < 0) = true := decide_eq_true c4
      clear c4
      (first | rw [c4b0] | (simp only [i64_w, i32_w]; rw [c4b0]) | skip)
      have H' := Aside0.mk H
      clear H
      go_wp2
      go_meet
      case rel => exact ⟨_, (true), (by first | rfl | (simp; done) | (simp [*]; done) | (simp [Go.Proofs.YtnlnkahgdmgooaaDoor.G.isEmpty_ne]; done)), H', ⟨by first | omega | exact Nat.le_refl _⟩, by repeat (first | exact Drawn0.refl _ | apply Drawn0.step)⟩
    · rw [if_neg c4] at H
      have c4b0 : decide (a0 < 0) = false := decide_eq_false c4
      clear c4
      (first | rw [c4b0] | (simp only [i64_w, i32_w]; rw [c4b0]) | skip)
      have H' := Aside0.mk H
      clear H
      go_wp2
      go_meet
      case rel => exact ⟨_, (decide (a0 > 6)), (by first | rfl | (simp; done) | (simp [*]; done) | (simp [Go.Proofs.YtnlnkahgdmgooaaDoor.G.isEmpty_ne]; done)), H', ⟨by first | omega | exact Nat.le_refl _⟩, by repeat (first | exact Drawn0.refl _ | apply Drawn0.step)⟩
  case rest =>
    clear HC3
    try clear c2
    try clear p2
    try clear c4
    try clear c4b0
    obtain ⟨kq, x10_2, rfl, HA, HJ2, ⟨mc2, rfl⟩⟩ := hcut
    cases kq with
    | zero => exact absurd HA.out (by simp [escape_In.j0])
    | succ kj2 =>
      have H := HA.out
      clear HA
      simp only [escape_In.j0] at H
      by_cases c5 : x10_2 = true
      · subst c5
        have H1 : (some false) = some r := by rw [if_pos rfl] at H; exact H
        clear H
        have H := H1
        clear H1
        obtain rfl := Option.some.inj H
        go_wp2
        go_ret
        exact ⟨by first | rfl | (simp; done) | (simp [*]; done) | (simp [Go.Proofs.YtnlnkahgdmgooaaDoor.G.isEmpty_ne]; done), by repeat (first | exact Drawn0.refl _ | apply Drawn0.step)⟩
      · replace c5 := Bool.eq_false_iff.mpr c5
        subst c5
        have H1 : (if a1 < 32 then (some true) else (if a1 > 126 then (some true) else ((escape_signs.f a0).bind fun t151 => ((strings_IndexByte.f t151 a1).bind fun t152 => (some (decide (t152 ≥ 0))))))) = some r := by rw [if_neg (show ¬ (false = true) by decide)] at H; exact H
        clear H
        have H := H1
        clear H1
        by_cases c6 : a1 < 32
        · rw [if_pos c6] at H
          have c6b0 : decide (a1 < 32) = true := decide_eq_true c6
          clear c6
          obtain rfl := Option.some.inj H
          go_wp2
          go_ret
          exact ⟨by first | rfl | (simp; done) | (simp [*]; done) | (simp [Go.Proofs.YtnlnkahgdmgooaaDoor.G.isEmpty_ne]; done), by repeat (first | exact Drawn0.refl _ | apply Drawn0.step)⟩
        · rw [if_neg c6] at H
          have c6b0 : decide (a1 < 32) = false := decide_eq_false c6
          clear c6
          by_cases c7 : a1 > 126
          · rw [if_pos c7] at H
            have c7b0 : decide (126 < a1) = true := decide_eq_true c7
            clear c7
            obtain rfl := Option.some.inj H
            go_wp2
            go_ret
            exact ⟨by first | rfl | (simp; done) | (simp [*]; done) | (simp [Go.Proofs.YtnlnkahgdmgooaaDoor.G.isEmpty_ne]; done), by repeat (first | exact Drawn0.refl _ | apply Drawn0.step)⟩
          · rw [if_neg c7] at H
            have c7b0 : decide (126 < a1) = false := decide_eq_false c7
            clear c7
            replace H := Option.bind_eq_some_iff.mp H
            obtain ⟨t151, A80, H⟩ := H
            replace H : ((strings_IndexByte.f t151 a1).bind fun t152 => (some (decide (t152 ≥ 0)))) = some r := H
            have A8 := Aside0.mk A80
            clear A80
            replace H := Option.bind_eq_some_iff.mp H
            obtain ⟨t152, A90, H⟩ := H
            replace H : (some (decide (t152 ≥ 0))) = some r := H
            have A9 := Aside0.mk A90
            clear A90
            obtain rfl := Option.some.inj H
            go_wp2_with (first | (go_at_call 41; (with_reducible refine (escape_signs.calls a0 t151 _ A8.out).mono ?_); rintro e w' ⟨rfl, ⟨nd, rfl⟩⟩) | (go_at_call 14; (with_reducible refine (strings_IndexByte.calls t151 a1 t152 _ A9.out).mono ?_); rintro e w' ⟨rfl, ⟨nd, rfl⟩⟩))
            go_ret
            exact ⟨by first | rfl | (simp; done) | (simp [*]; done) | (simp [Go.Proofs.YtnlnkahgdmgooaaDoor.G.isEmpty_ne]; done), by repeat (first | exact Drawn0.refl _ | apply Drawn0.step)⟩

/-! ### escape_Encode: function 13 -/
def escape_Encode.hxd (n : Int) : Int := if n < 10 then 48 + n else 55 + n
def escape_Encode.enc1 (b : Bool) (c : Int) : List Int := if b = true then [37, escape_Encode.hxd (c / 16), escape_Encode.hxd (c % 16)] else [c]
def escape_Encode.go (a0 : Int) : List Int → Option (List Int)
  | [] => some []
  | c :: t => if 0 ≤ c ∧ c ≤ 255 then (escape_In.f 3 a0 c).bind fun b => (escape_Encode.go a0 t).map fun r => escape_Encode.enc1 b c ++ r else none
def escape_Encode.f (a0 : Int) (l1 : List Int) : Option (ByteArray) := if l1.length * 3 ≤ 140737488355328 then (escape_Encode.go a0 l1).map strOfNums else none

def escape_Encode.toU (l : List Int) : List UInt8 := l.map fun n => UInt8.ofNat n.toNat
def escape_Encode.EncRel (a0 : Int) (l1 : List Int) (w : World) (k : Nat) (out : List Int) (w' : World) : Prop :=
  ∃ acc rest, out = acc ++ rest ∧ escape_Encode.go a0 (l1.drop k) = some rest ∧ acc.length ≤ 3 * k ∧ Lib.IsBuilder 50 5 w.heap.size w.heap.size (Lib.byteCells (escape_Encode.toU acc)) w' ∧ Below w.heap.size w w'

theorem escape_Encode.EncRel.step_plain {a0 : Int} {l1 : List Int} {w wr : World} {k : Nat} {out acc rest rest1 : List Int} {c : Int} (hout : out = acc ++ rest) (hgo : escape_Encode.go a0 (l1.drop (k + 1)) = some rest1) (hre : escape_Encode.enc1 false c ++ rest1 = rest) (hal : acc.length ≤ 3 * k) (h0 : 0 ≤ c) (h1 : c ≤ 255)
    (hb : Lib.IsBuilder 50 5 w.heap.size w.heap.size (Lib.byteCells (escape_Encode.toU acc) ++ [.int .u8 c]) wr) (hbl : Below w.heap.size w wr) : escape_Encode.EncRel a0 l1 w (k + 1) out wr := by
  refine ⟨acc ++ [c], rest1, ?_, hgo, ?_, ?_, hbl⟩
  · subst hout hre
    simp [escape_Encode.enc1]
  · rw [List.length_append, List.length_singleton]; omega
  · have e : Lib.byteCells (escape_Encode.toU (acc ++ [c])) = Lib.byteCells (escape_Encode.toU acc) ++ [.int .u8 c] := by
      have hc : (((UInt8.ofNat c.toNat).toNat : Nat) : Int) = c := by simp; omega
      simp only [escape_Encode.toU, Lib.byteCells, List.map_append, List.map_cons, List.map_nil, hc]
    rw [e]
    exact hb

def escape_Encode.hxU (n : Int) : UInt8 := UInt8.ofNat (escape_Encode.hxd n).toNat
theorem escape_Encode.dig_slice (w : World) (n : Int) (h0 : 0 ≤ n) (h1 : n < 16) :
    (Instr.slice 9 (.string ⟨#[48, 49, 50, 51, 52, 53, 54, 55, 56, 57, 65, 66, 67, 68, 69, 70]⟩) (some (.int .u8 n)) (some (.int .u8 (n + 1))) none).run Tryd.prog w = .ok (.string ⟨#[escape_Encode.hxU n]⟩) w := by
  rw [run_slice_string (w := w) 9 _ .u8 .u8 n (n + 1) Tryd.underlying9 h0 (by omega) (by show n + 1 ≤ 16; omega)]
  obtain ⟨m, rfl⟩ := Int.eq_ofNat_of_zero_le h0
  have hm : m < 16 := by omega
  have e : ∀ m : Nat, m < 16 → ByteArray.extract ⟨#[48, 49, 50, 51, 52, 53, 54, 55, 56, 57, 65, 66, 67, 68, 69, 70]⟩ (m : Int).toNat ((m : Int) + 1).toNat = ⟨#[escape_Encode.hxU m]⟩ := by decide +kernel
  rw [e m hm]

theorem escape_Encode.three_size (a b : UInt8) : ((⟨#[37]⟩ : ByteArray) ++ ⟨#[a]⟩ ++ ⟨#[b]⟩).size = 3 := by
  simp [ByteArray.size_append]
  rfl
theorem escape_Encode.three_cells (a b : UInt8) : Lib.strCells ((⟨#[37]⟩ : ByteArray) ++ ⟨#[a]⟩ ++ ⟨#[b]⟩) = Lib.byteCells [37, a, b] := by
  simp [Lib.strCells, Lib.byteCells, ByteArray.data_append]
theorem escape_Encode.EncRel.step_esc {a0 : Int} {l1 : List Int} {w wr : World} {k : Nat} {out acc rest rest1 : List Int} {c : Int} (hout : out = acc ++ rest) (hgo : escape_Encode.go a0 (l1.drop (k + 1)) = some rest1) (hre : escape_Encode.enc1 true c ++ rest1 = rest) (hal : acc.length ≤ 3 * k) (h0 : 0 ≤ c) (h1 : c ≤ 255)
    (hb : Lib.IsBuilder 50 5 w.heap.size w.heap.size (Lib.byteCells (escape_Encode.toU acc) ++ Lib.strCells ((⟨#[37]⟩ : ByteArray) ++ ⟨#[escape_Encode.hxU (c / 16)]⟩ ++ ⟨#[escape_Encode.hxU (c % 16)]⟩)) wr) (hbl : Below w.heap.size w wr) : escape_Encode.EncRel a0 l1 w (k + 1) out wr := by
  refine ⟨acc ++ [37, escape_Encode.hxd (c / 16), escape_Encode.hxd (c % 16)], rest1, ?_, hgo, ?_, ?_, hbl⟩
  · subst hout hre
    simp [escape_Encode.enc1]
  · rw [List.length_append]; simp; omega
  · rw [escape_Encode.three_cells] at hb
    have e : Lib.byteCells (escape_Encode.toU (acc ++ [37, escape_Encode.hxd (c / 16), escape_Encode.hxd (c % 16)])) = Lib.byteCells (escape_Encode.toU acc) ++ Lib.byteCells [37, escape_Encode.hxU (c / 16), escape_Encode.hxU (c % 16)] := by
      simp only [escape_Encode.toU, Lib.byteCells, List.map_append, List.map_cons, List.map_nil, escape_Encode.hxU]
      rfl
    rw [e]
    exact hb

set_option maxHeartbeats 2000000 in
set_option maxRecDepth 100000 in
theorem escape_Encode.calls (a0 : Int) (A1 : Option Addr) (c1 : Nat) (l1 : List Int) (r : ByteArray) (w : World) (hr1 : Kd.C (Kd.int .u8) w A1 l1.length l1) (hc1 : l1.length ≤ c1) (h : escape_Encode.f a0 l1 = some r) :
    Calls Tryd.prog 13 #[.int .i64 a0, .slice A1 l1.length c1] w fun e w' => e = .returned (.string r) ∧ Below w.heap.size w w' := by
  unfold escape_Encode.f at h
  by_cases hl : l1.length * 3 ≤ 140737488355328
  · rw [if_pos hl] at h
    obtain ⟨out, hout, rfl⟩ := Option.map_eq_some_iff.1 h
    clear h
    have hm : l1.length ≤ 9223372036854775807 := by omega
    have HR := Aside0.mk hr1
    have HO := Aside0.mk hout
    clear hr1 hout
    go_enter Tryd.func13, Tryd.ntmps13
    go_wp2
    go_loopw [10] (fun i wr => ∃ k : Nat, k ≤ l1.length ∧ i = .int .i64 k ∧ escape_Encode.EncRel a0 l1 w k out wr) (fun i _ => l1.length - (intOf i).toNat)
    case atStart => exact ⟨0, Nat.zero_le _, rfl, [], out, rfl, HO.out, Nat.zero_le _, Lib.fresh_isBuilder _ _ w, (Below.refl _ _).alloc (Nat.le_refl _) _⟩
    case round =>
      rename_i wr
      obtain ⟨k, hk, rfl, hE⟩ := hrel
      have HE := Aside0.mk hE
      clear hE HO
      by_cases hlt : k < l1.length
      · obtain ⟨acc, rest, hout, hgo, hal, hbd, hbl⟩ := HE.out
        obtain ⟨ad, hA, hc0⟩ := Kd.at_int (Kd.C_below HR.out hbl) (k : Int) (by omega) (by omega)
        subst hA
        rw [Int.toNat_natCast] at hc0
        obtain ⟨c, hcd⟩ : ∃ c, rd l1 (k : Int) = c := ⟨_, rfl⟩
        rw [hcd] at hc0
        have hdk : l1.drop k = c :: l1.drop (k + 1) := by
          rw [List.drop_eq_getElem_cons hlt]
          unfold rd at hcd
          rw [Int.toNat_natCast, List.getD_eq_getElem?_getD, List.getElem?_eq_getElem hlt] at hcd
          rw [← hcd]; rfl
        rw [hdk] at hgo
        simp only [escape_Encode.go] at hgo
        by_cases hcr : 0 ≤ c ∧ c ≤ 255
        · rw [if_pos hcr] at hgo
          obtain ⟨b, hb, hgo⟩ := Option.bind_eq_some_iff.1 hgo
          obtain ⟨rest1, hr1, hre⟩ := Option.map_eq_some_iff.1 hgo
          obtain ⟨hc0', hc255⟩ := hcr
          have HBI := Aside0.mk hb
          have HOUT := Aside0.mk hout
          have HGO := Aside0.mk hr1
          have HRE := Aside0.mk hre
          have HBD := Aside0.mk hbd
          have HBL := Aside0.mk hbl
          clear hb hout hr1 hre hgo hdk hcd hbd hbl HE
          cases b
          · go_wp2_with (go_at_call 24; refine (escape_In.calls 3 a0 c false _ HBI.out).mono ?_; rintro e w2 ⟨rfl, hw2⟩)
            obtain ⟨nd, rfl⟩ := hw2.out
            refine (Go.Proofs.YtnlnkahgdmgooaaDoor.G.writeByte w.heap.size w.heap.size _ c (wr.drewN nd) HBD.out (by rw [Lib.byteCells_length]; simp only [escape_Encode.toU, List.length_map]; omega) HBL.out.size).mono ?_
            rintro e w3 ⟨rfl, hb3, hbl3⟩
            have HE3 := Aside0.mk (escape_Encode.EncRel.step_plain HOUT.out HGO.out HRE.out hal hc0' hc255 hb3 (Below.trans (pw_below_drewN HBL.out nd) hbl3))
            clear hb3 hbl3 hw2 hgo
            go_wp2
            go_roundw
            case rel => exact ⟨k + 1, by omega, by go_num, HE3.out⟩
            case measure => simp [intOf]; omega
          · go_wp2_with (go_at_call 24; refine (escape_In.calls 3 a0 c true _ HBI.out).mono ?_; rintro e w2 ⟨rfl, hw2⟩)
            obtain ⟨nd, rfl⟩ := hw2.out
            clear hw2 hgo
            have e1 : IntKind.u8.wrap (c / 16 + 1) = c / 16 + 1 := IntWalk.u8_in _ (by omega)
            have e2 : IntKind.u8.wrap (c % 16 + 1) = c % 16 + 1 := IntWalk.u8_in _ (by omega)
            have a1 := u8_and15 (x := c) hc0' (by omega)
            have s1 := fun wx => escape_Encode.dig_slice wx (c / 16) (by omega) (by omega)
            have s2 := fun wx => escape_Encode.dig_slice wx (c % 16) (by omega) (by omega)
            go_still_tail 14, (by kernel_rfl)
            clear e1 e2 a1 s1 s2
            change wpList _ _ _ _ _ (wr.drewN nd).drew
            go_wp2_with fail
            refine (Go.Proofs.YtnlnkahgdmgooaaDoor.G.writeString w.heap.size w.heap.size _ _ (wr.drewN nd).drew HBD.out (by rw [Lib.byteCells_length, escape_Encode.three_size]; simp only [escape_Encode.toU, List.length_map]; omega) HBL.out.size).mono ?_
            rintro e w3 ⟨rfl, hb3, hbl3⟩
            have HE3 := Aside0.mk (escape_Encode.EncRel.step_esc HOUT.out HGO.out HRE.out hal hc0' hc255 hb3 (Below.trans (Below.drew (pw_below_drewN HBL.out nd)) hbl3))
            clear hb3 hbl3
            go_wp2
            go_roundw
            case rel => exact ⟨k + 1, by omega, by go_num, HE3.out⟩
            case measure => simp [intOf]; omega
        · rw [if_neg hcr] at hgo
          exact absurd hgo (by simp)
      · obtain ⟨acc, rest, hout, hgo, hal, hbd, hbl⟩ := HE.out
        have hd : l1.drop k = [] := List.drop_eq_nil_of_le (by omega)
        rw [hd] at hgo
        obtain rfl := Option.some.inj hgo
        rw [List.append_nil] at hout
        subst hout
        clear hd hgo
        have HBD := Aside0.mk hbd
        have HBL := Aside0.mk hbl
        clear hbd hbl HE
        go_wp2_with (go_at_call 27; refine (Tryd.Builder_String_any w.heap.size w.heap.size (escape_Encode.toU out) wr HBD.out HBL.out.size).mono ?_; rintro e w3 ⟨rfl, hb3⟩)
        go_ret
        exact ⟨rfl, HBL.out.trans hb3⟩
  · rw [if_neg hl] at h
    exact absurd h (by simp)


/-! ### host_Parse: function 7 -/
def host_Parse.f (k : Nat) (a0 : ByteArray) (a1 : Bool) : Option (ByteArray × Bool) := (strings_HasPrefix.f a0 (⟨#[91]⟩ : ByteArray)).bind fun t153 => (if t153 = true then ((host_literal.f a0).bind fun bt154 => (some (bt154.1, bt154.2))) else (if a1 = true then ((host_domain.f k a0).bind fun bt156 => (some (bt156.1, bt156.2))) else ((host_has.f k a0 false).bind fun t158 => (if t158 = true then (some ((⟨#[]⟩ : ByteArray), false)) else (if a0.size ≤ 140737488355328 then ((escape_Encode.f 0 (bytesOf a0)).bind fun t162 => (some (t162, true))) else (none))))))
theorem host_Parse.mono : ∀ a0 a1 k, LeO (host_Parse.f k a0 a1) (host_Parse.f (k + 1) a0 a1) := by
  intro a0 a1 k
  unfold host_Parse.f
  repeat' first
      | (with_reducible exact host_domain.mono _ _)
      | (with_reducible exact host_has.mono _ _ _)
      | (with_reducible exact LeO.refl _)
      | (with_reducible exact LeO.none _)
      | (with_reducible refine LeO.ite ?_ ?_)
      | (with_reducible refine LeO.bind ?_ (fun _ => ?_))
      | exact host_domain.mono _ _
      | exact host_has.mono _ _ _
      | exact LeO.none _
      | refine LeO.ite ?_ ?_
      | refine LeO.bind ?_ (fun _ => ?_)
set_option maxHeartbeats 8000000 in
set_option maxRecDepth 100000 in
theorem host_Parse.calls (k : Nat) (a0 : ByteArray) (a1 : Bool) (r1 : ByteArray) (r2 : Bool) (w : World) (h : host_Parse.f k a0 a1 = some (r1, r2)) (hT : Go.Proofs.YtnlnkahgdmgooaaDoor.G.T w) :
    Calls Tryd.prog 7 #[.string a0, .bool a1] w fun e w' => e = .returned (.tuple #[.string r1, .bool r2]) ∧ Below w.heap.size w w' := by
  have HT := Aside0.mk hT
  clear hT
  have HB := Aside0.mk (Below.refl w.heap.size w)
  have H : ((strings_HasPrefix.f a0 (⟨#[91]⟩ : ByteArray)).bind fun t153 => (if t153 = true then ((host_literal.f a0).bind fun bt154 => (some (bt154.1, bt154.2))) else (if a1 = true then ((host_domain.f k a0).bind fun bt156 => (some (bt156.1, bt156.2))) else ((host_has.f k a0 false).bind fun t158 => (if t158 = true then (some ((⟨#[]⟩ : ByteArray), false)) else (if a0.size ≤ 140737488355328 then ((escape_Encode.f 0 (bytesOf a0)).bind fun t162 => (some (t162, true))) else (none))))))) = some (r1, r2) := h
  clear h
  replace H := Option.bind_eq_some_iff.mp H
  obtain ⟨t153, A30, H⟩ := H
  replace H : (if t153 = true then ((host_literal.f a0).bind fun bt154 => (some (bt154.1, bt154.2))) else (if a1 = true then ((host_domain.f k a0).bind fun bt156 => (some (bt156.1, bt156.2))) else ((host_has.f k a0 false).bind fun t158 => (if t158 = true then (some ((⟨#[]⟩ : ByteArray), false)) else (if a0.size ≤ 140737488355328 then ((escape_Encode.f 0 (bytesOf a0)).bind fun t162 => (some (t162, true))) else (none)))))) = some (r1, r2) := H
  have A3 := Aside0.mk A30
  clear A30
  by_cases c4 : t153 = true
  · subst c4
    have H1 : ((host_literal.f a0).bind fun bt154 => (some (bt154.1, bt154.2))) = some (r1, r2) := by rw [if_pos rfl] at H; exact H
    clear H
    have H := H1
    clear H1
    replace H := Option.bind_eq_some_iff.mp H
    obtain ⟨⟨t154, t155⟩, A50, H⟩ := H
    replace H : (some (t154, t155)) = some (r1, r2) := H
    have A5 := Aside0.mk A50
    clear A50
    simp only [Option.some.injEq, Prod.mk.injEq] at H
    obtain ⟨rfl, rfl⟩ := H
    go_enter Tryd.func7, Tryd.ntmps7
    go_wp2_with (first | ((with_reducible refine gate_callee (f := 9) rfl ?_); refine goesL_ (some 8) rfl rfl Tryd.func9 (by kernel_rfl) rfl #[.string a0, .string (⟨#[91]⟩ : ByteArray)] rfl (by (try simp only [List.map_toArray, List.map_cons, List.map_nil]); first | done | rfl | (simp only [List.length_drop, List.length_take]; rfl)) ?_; (with_reducible refine (strings_HasPrefix.calls a0 (⟨#[91]⟩ : ByteArray) true _ A3.out).mono ?_); rintro e w' ⟨rfl, ⟨nd, rfl⟩⟩; refine ⟨_, rfl, ?_⟩) | ((with_reducible refine gate_callee (f := 10) rfl ?_); refine goesL_ (some 10) rfl rfl Tryd.func10 (by kernel_rfl) rfl #[.string a0] rfl (by (try simp only [List.map_toArray, List.map_cons, List.map_nil]); first | done | rfl | (simp only [List.length_drop, List.length_take]; rfl)) ?_; (with_reducible refine (host_literal.calls a0 t154 t155 _ A5.out).mono ?_); rintro e w6 ⟨rfl, hb⟩; refine ⟨_, rfl, ?_⟩; have n0_ := Aside0.mk (below_step (by repeat (first | (with_reducible first | exact HB.out | apply below_alloc | apply pw_below_drewN | apply below_drew1) | exact HB.out)) hb); clear HB; have HB := n0_; clear n0_; (try clear hb); (try clear hb2); (try clear hk); (try clear hi)))
    go_ret2
    exact ⟨by first | rfl | (simp [errW_none, errW_some] <;> rfl) | (simp [*, errW_none, errW_some] <;> rfl) | (simp [errW_none, errW_some, Go.Proofs.YtnlnkahgdmgooaaDoor.G.isEmpty_ne]; done), by repeat (first | (with_reducible first | exact HB.out | apply below_alloc | apply pw_below_drewN | apply below_drew1) | exact HB.out)⟩
  · replace c4 := Bool.eq_false_iff.mpr c4
    subst c4
    have H1 : (if a1 = true then ((host_domain.f k a0).bind fun bt156 => (some (bt156.1, bt156.2))) else ((host_has.f k a0 false).bind fun t158 => (if t158 = true then (some ((⟨#[]⟩ : ByteArray), false)) else (if a0.size ≤ 140737488355328 then ((escape_Encode.f 0 (bytesOf a0)).bind fun t162 => (some (t162, true))) else (none))))) = some (r1, r2) := by rw [if_neg (show ¬ (false = true) by decide)] at H; exact H
    clear H
    have H := H1
    clear H1
    by_cases c7 : a1 = true
    · subst c7
      have H1 : ((host_domain.f k a0).bind fun bt156 => (some (bt156.1, bt156.2))) = some (r1, r2) := by rw [if_pos rfl] at H; exact H
      clear H
      have H := H1
      clear H1
      replace H := Option.bind_eq_some_iff.mp H
      obtain ⟨⟨t156, t157⟩, A80, H⟩ := H
      replace H : (some (t156, t157)) = some (r1, r2) := H
      have A8 := Aside0.mk A80
      clear A80
      simp only [Option.some.injEq, Prod.mk.injEq] at H
      obtain ⟨rfl, rfl⟩ := H
      go_enter Tryd.func7, Tryd.ntmps7
      go_wp2_with (first | ((with_reducible refine gate_callee (f := 9) rfl ?_); refine goesL_ (some 8) rfl rfl Tryd.func9 (by kernel_rfl) rfl #[.string a0, .string (⟨#[91]⟩ : ByteArray)] rfl (by (try simp only [List.map_toArray, List.map_cons, List.map_nil]); first | done | rfl | (simp only [List.length_drop, List.length_take]; rfl)) ?_; (with_reducible refine (strings_HasPrefix.calls a0 (⟨#[91]⟩ : ByteArray) false _ A3.out).mono ?_); rintro e w' ⟨rfl, ⟨nd, rfl⟩⟩; refine ⟨_, rfl, ?_⟩) | ((with_reducible refine gate_callee (f := 11) rfl ?_); refine goesL_ (some 16) rfl rfl Tryd.func11 (by kernel_rfl) rfl #[.string a0] rfl (by (try simp only [List.map_toArray, List.map_cons, List.map_nil]); first | done | rfl | (simp only [List.length_drop, List.length_take]; rfl)) ?_; (with_reducible refine (host_domain.calls k a0 t156 t157 _ A8.out (Go.Proofs.YtnlnkahgdmgooaaDoor.G.T_below HT.out (by repeat (first | (with_reducible first | exact HB.out | apply below_alloc | apply pw_below_drewN | apply below_drew1) | exact HB.out)))).mono ?_); rintro e w9 ⟨rfl, hb⟩; refine ⟨_, rfl, ?_⟩; have n0_ := Aside0.mk (below_step (by repeat (first | (with_reducible first | exact HB.out | apply below_alloc | apply pw_below_drewN | apply below_drew1) | exact HB.out)) hb); clear HB; have HB := n0_; clear n0_; (try clear hb); (try clear hb2); (try clear hk); (try clear hi)))
      go_ret2
      exact ⟨by first | rfl | (simp [errW_none, errW_some] <;> rfl) | (simp [*, errW_none, errW_some] <;> rfl) | (simp [errW_none, errW_some, Go.Proofs.YtnlnkahgdmgooaaDoor.G.isEmpty_ne]; done), by repeat (first | (with_reducible first | exact HB.out | apply below_alloc | apply pw_below_drewN | apply below_drew1) | exact HB.out)⟩
    · replace c7 := Bool.eq_false_iff.mpr c7
      subst c7
      have H1 : ((host_has.f k a0 false).bind fun t158 => (if t158 = true then (some ((⟨#[]⟩ : ByteArray), false)) else (if a0.size ≤ 140737488355328 then ((escape_Encode.f 0 (bytesOf a0)).bind fun t162 => (some (t162, true))) else (none)))) = some (r1, r2) := by rw [if_neg (show ¬ (false = true) by decide)] at H; exact H
      clear H
      have H := H1
      clear H1
      replace H := Option.bind_eq_some_iff.mp H
      obtain ⟨t158, A100, H⟩ := H
      replace H : (if t158 = true then (some ((⟨#[]⟩ : ByteArray), false)) else (if a0.size ≤ 140737488355328 then ((escape_Encode.f 0 (bytesOf a0)).bind fun t162 => (some (t162, true))) else (none))) = some (r1, r2) := H
      have A10 := Aside0.mk A100
      clear A100
      by_cases c11 : t158 = true
      · subst c11
        have H1 : (some ((⟨#[]⟩ : ByteArray), false)) = some (r1, r2) := by rw [if_pos rfl] at H; exact H
        clear H
        have H := H1
        clear H1
        simp only [Option.some.injEq, Prod.mk.injEq] at H
        obtain ⟨rfl, rfl⟩ := H
        go_enter Tryd.func7, Tryd.ntmps7
        go_wp2_with (first | ((with_reducible refine gate_callee (f := 9) rfl ?_); refine goesL_ (some 8) rfl rfl Tryd.func9 (by kernel_rfl) rfl #[.string a0, .string (⟨#[91]⟩ : ByteArray)] rfl (by (try simp only [List.map_toArray, List.map_cons, List.map_nil]); first | done | rfl | (simp only [List.length_drop, List.length_take]; rfl)) ?_; (with_reducible refine (strings_HasPrefix.calls a0 (⟨#[91]⟩ : ByteArray) false _ A3.out).mono ?_); rintro e w' ⟨rfl, ⟨nd, rfl⟩⟩; refine ⟨_, rfl, ?_⟩) | ((with_reducible refine gate_callee (f := 12) rfl ?_); refine goesL_ (some 21) rfl rfl Tryd.func12 (by kernel_rfl) rfl #[.string a0, .bool false] rfl (by (try simp only [List.map_toArray, List.map_cons, List.map_nil]); first | done | rfl | (simp only [List.length_drop, List.length_take]; rfl)) ?_; (with_reducible refine (host_has.calls k a0 false true _ A10.out).mono ?_); rintro e w' ⟨rfl, ⟨nd, rfl⟩⟩; refine ⟨_, rfl, ?_⟩))
        go_ret2
        exact ⟨by first | rfl | (simp [errW_none, errW_some] <;> rfl) | (simp [*, errW_none, errW_some] <;> rfl) | (simp [errW_none, errW_some, Go.Proofs.YtnlnkahgdmgooaaDoor.G.isEmpty_ne]; done), by repeat (first | (with_reducible first | exact HB.out | apply below_alloc | apply pw_below_drewN | apply below_drew1) | exact HB.out)⟩
      · replace c11 := Bool.eq_false_iff.mpr c11
        subst c11
        have H1 : (if a0.size ≤ 140737488355328 then ((escape_Encode.f 0 (bytesOf a0)).bind fun t162 => (some (t162, true))) else (none)) = some (r1, r2) := by rw [if_neg (show ¬ (false = true) by decide)] at H; exact H
        clear H
        have H := H1
        clear H1
        by_cases c12 : a0.size ≤ 140737488355328
        · rw [if_pos c12] at H
          have c12b0 := eq_true c12
          have c12b1 : decide (a0.size ≤ 140737488355328) = true := decide_eq_true c12
          clear c12
          obtain ⟨y159, hy159⟩ : ∃ y_ : List Int, y_ = (bytesOf a0) := ⟨_, rfl⟩
          replace H : ((escape_Encode.f 0 y159).bind fun t162 => (some (t162, true))) = some (r1, r2) := by first | (rw [hy159]; with_reducible exact H) | (have H2_ := (Option.bind_some _ _).symm.trans H; rw [hy159]; with_reducible exact H2_) | (have H2_ := (Option.bind_some _ _).symm.trans H; with_reducible exact H2_) | with_reducible exact H | (rw [hy159]; exact H) | exact H
          have Ny159 := Aside0.mk hy159
          clear hy159
          replace H := Option.bind_eq_some_iff.mp H
          obtain ⟨t162, A130, H⟩ := H
          replace H : (some (t162, true)) = some (r1, r2) := H
          have A13 := Aside0.mk A130
          clear A130
          simp only [Option.some.injEq, Prod.mk.injEq] at H
          obtain ⟨rfl, rfl⟩ := H
          go_enter Tryd.func7, Tryd.ntmps7
          go_wp2_with (first | ((with_reducible refine gate_callee (f := 9) rfl ?_); refine goesL_ (some 8) rfl rfl Tryd.func9 (by kernel_rfl) rfl #[.string a0, .string (⟨#[91]⟩ : ByteArray)] rfl (by (try simp only [List.map_toArray, List.map_cons, List.map_nil]); first | done | rfl | (simp only [List.length_drop, List.length_take]; rfl)) ?_; (with_reducible refine (strings_HasPrefix.calls a0 (⟨#[91]⟩ : ByteArray) false _ A3.out).mono ?_); rintro e w' ⟨rfl, ⟨nd, rfl⟩⟩; refine ⟨_, rfl, ?_⟩) | ((with_reducible refine gate_callee (f := 12) rfl ?_); refine goesL_ (some 21) rfl rfl Tryd.func12 (by kernel_rfl) rfl #[.string a0, .bool false] rfl (by (try simp only [List.map_toArray, List.map_cons, List.map_nil]); first | done | rfl | (simp only [List.length_drop, List.length_take]; rfl)) ?_; (with_reducible refine (host_has.calls k a0 false false _ A10.out).mono ?_); rintro e w' ⟨rfl, ⟨nd, rfl⟩⟩; refine ⟨_, rfl, ?_⟩) | ((with_reducible refine gate_dst (N := 23) rfl ?_); refine Go.Proofs.YtnlnkahgdmgooaaDoor.G.V_bytes _ 5 rfl (N := 23) rfl 9 27 _ rfl a0 rfl Tryd.underlying9 Tryd.underlying27 Tryd.underlying5 (of_decide_eq_true (by first | (with_reducible assumption) | assumption)) (Below.refl _ _) (Nat.le_refl _) ?_; intro v160 w14 ho15 hb hg_ hnew_; clear hg_ hnew_; (first | rw [← Ny159.out] at ho15 | (simp only [Int.reduceToNat] at ho15; rw [← Ny159.out] at ho15)); have n0_ := Aside0.mk (Kd.V_lower (Kd.V_mono (ok' := fun k_ => True) ho15 (fun k_ hk_ => trivial)) (below_size (by repeat (first | (with_reducible first | exact HB.out | apply below_alloc | apply pw_below_drewN | apply below_drew1) | exact HB.out)))); have n1_ := Aside0.mk (below_step (by repeat (first | (with_reducible first | exact HB.out | apply below_alloc | apply pw_below_drewN | apply below_drew1) | exact HB.out)) hb); clear HB; have HO161 := n0_; have HB := n1_; clear n0_ n1_; clear hb ho15; obtain ⟨Ao16, co16, eo16⟩ := Kd.V_slice HO161.out; subst eo16) | ((with_reducible refine gate_callee (f := 13) rfl ?_); refine goesL_ (some 24) rfl rfl Tryd.func13 (by kernel_rfl) rfl #[.int .i64 0, .slice Ao16 y159.length co16] rfl (by (try simp only [List.map_toArray, List.map_cons, List.map_nil]); first | done | rfl | (simp only [List.length_drop, List.length_take]; rfl)) ?_; (with_reducible refine (escape_Encode.calls 0 _ _ y159 t162 _ ?side1 ?side2 A13.out).mono ?_); (case side1 => repeat (first | exact (Kd.V_reads' HO161.out).2.2 | (with_reducible refine Kd.C_alloc ?_ _) | (with_reducible refine Kd.C_drewN ?_ _) | (with_reducible refine Kd.C_drew ?_))); (case side2 => exact (Kd.V_reads' HO161.out).2.1); rintro e w17 ⟨rfl, hb⟩; refine ⟨_, rfl, ?_⟩; have n0_ := Aside0.mk (Kd.V_below (by (with_reducible repeat (first | apply Kd.V_alloc | apply Kd.V_drewN | apply Kd.V_drew)); exact HO161.out) hb); have n1_ := Aside0.mk (below_step (by repeat (first | (with_reducible first | exact HB.out | apply below_alloc | apply pw_below_drewN | apply below_drew1) | exact HB.out)) hb); clear HO161; clear HB; have HO161 := n0_; have HB := n1_; clear n0_ n1_; (try clear hb); (try clear hb2); (try clear hk); (try clear hi)))
          go_ret2
          exact ⟨by first | rfl | (simp [errW_none, errW_some] <;> rfl) | (simp [*, errW_none, errW_some] <;> rfl) | (simp [errW_none, errW_some, Go.Proofs.YtnlnkahgdmgooaaDoor.G.isEmpty_ne]; done), by repeat (first | (with_reducible first | exact HB.out | apply below_alloc | apply pw_below_drewN | apply below_drew1) | exact HB.out)⟩
        · rw [if_neg c12] at H
          exact absurd H (by simp)

/-! ### carryalllaw09_awake: function 6 -/
def carryalllaw09_awake.f (k : Nat)  : Option (Bool) := (host_Parse.f k (⟨#[69, 88, 37, 52, 49, 77, 80, 76, 69]⟩ : ByteArray) true).bind fun bt163 => ((host_Parse.f k (⟨#[48, 120, 55, 102, 46, 49]⟩ : ByteArray) true).bind fun bt165 => (if bt163.2 = true then (if bt163.1.toList = ([101, 120, 97, 109, 112, 108, 101] : List UInt8) then (if bt165.2 = true then (if bt165.1.toList = ([49, 50, 55, 46, 48, 46, 48, 46, 49] : List UInt8) then ((host_Forbidden.f 47 false).bind fun t167 => (some t167)) else (some false)) else (some false)) else (some false)) else (some false)))
theorem carryalllaw09_awake.mono : ∀ k, LeO (carryalllaw09_awake.f k ) (carryalllaw09_awake.f (k + 1) ) := by
  intro  k
  unfold carryalllaw09_awake.f
  repeat' first
      | (with_reducible exact host_Parse.mono _ _ _)
      | (with_reducible exact LeO.refl _)
      | (with_reducible exact LeO.none _)
      | (with_reducible refine LeO.ite ?_ ?_)
      | (with_reducible refine LeO.bind ?_ (fun _ => ?_))
      | exact host_Parse.mono _ _ _
      | exact LeO.none _
      | refine LeO.ite ?_ ?_
      | refine LeO.bind ?_ (fun _ => ?_)
set_option maxHeartbeats 8000000 in
set_option maxRecDepth 100000 in
theorem carryalllaw09_awake.calls (k : Nat)  (r : Bool) (w : World) (h : carryalllaw09_awake.f k  = some r) (hT : Go.Proofs.YtnlnkahgdmgooaaDoor.G.T w) :
    Calls Tryd.prog 6 #[] w fun e w' => e = .returned (.bool r) ∧ Below w.heap.size w w' := by
  have HT := Aside0.mk hT
  clear hT
  have HB := Aside0.mk (Below.refl w.heap.size w)
  have H : ((host_Parse.f k (⟨#[69, 88, 37, 52, 49, 77, 80, 76, 69]⟩ : ByteArray) true).bind fun bt163 => ((host_Parse.f k (⟨#[48, 120, 55, 102, 46, 49]⟩ : ByteArray) true).bind fun bt165 => (if bt163.2 = true then (if bt163.1.toList = ([101, 120, 97, 109, 112, 108, 101] : List UInt8) then (if bt165.2 = true then (if bt165.1.toList = ([49, 50, 55, 46, 48, 46, 48, 46, 49] : List UInt8) then ((host_Forbidden.f 47 false).bind fun t167 => (some t167)) else (some false)) else (some false)) else (some false)) else (some false)))) = some r := h
  clear h
  replace H := Option.bind_eq_some_iff.mp H
  obtain ⟨⟨t163, t164⟩, A10, H⟩ := H
  replace H : ((host_Parse.f k (⟨#[48, 120, 55, 102, 46, 49]⟩ : ByteArray) true).bind fun bt165 => (if t164 = true then (if t163.toList = ([101, 120, 97, 109, 112, 108, 101] : List UInt8) then (if bt165.2 = true then (if bt165.1.toList = ([49, 50, 55, 46, 48, 46, 48, 46, 49] : List UInt8) then ((host_Forbidden.f 47 false).bind fun t167 => (some t167)) else (some false)) else (some false)) else (some false)) else (some false))) = some r := H
  have A1 := Aside0.mk A10
  clear A10
  replace H := Option.bind_eq_some_iff.mp H
  obtain ⟨⟨t165, t166⟩, A20, H⟩ := H
  replace H : (if t164 = true then (if t163.toList = ([101, 120, 97, 109, 112, 108, 101] : List UInt8) then (if t166 = true then (if t165.toList = ([49, 50, 55, 46, 48, 46, 48, 46, 49] : List UInt8) then ((host_Forbidden.f 47 false).bind fun t167 => (some t167)) else (some false)) else (some false)) else (some false)) else (some false)) = some r := H
  have A2 := Aside0.mk A20
  clear A20
  by_cases c3 : t164 = true
  · subst c3
    have H1 : (if t163.toList = ([101, 120, 97, 109, 112, 108, 101] : List UInt8) then (if t166 = true then (if t165.toList = ([49, 50, 55, 46, 48, 46, 48, 46, 49] : List UInt8) then ((host_Forbidden.f 47 false).bind fun t167 => (some t167)) else (some false)) else (some false)) else (some false)) = some r := by rw [if_pos rfl] at H; exact H
    clear H
    have H := H1
    clear H1
    by_cases c4 : t163.toList = ([101, 120, 97, 109, 112, 108, 101] : List UInt8)
    · rw [if_pos c4] at H
      have c4b0 : (t163.toList == ([101, 120, 97, 109, 112, 108, 101] : List UInt8)) = true := beq_iff_eq.mpr c4
      have c4b1 : (t163.toList != ([101, 120, 97, 109, 112, 108, 101] : List UInt8)) = false := bne_eq_false_iff_eq.mpr c4
      clear c4
      by_cases c5 : t166 = true
      · subst c5
        have H1 : (if t165.toList = ([49, 50, 55, 46, 48, 46, 48, 46, 49] : List UInt8) then ((host_Forbidden.f 47 false).bind fun t167 => (some t167)) else (some false)) = some r := by rw [if_pos rfl] at H; exact H
        clear H
        have H := H1
        clear H1
        by_cases c6 : t165.toList = ([49, 50, 55, 46, 48, 46, 48, 46, 49] : List UInt8)
        · rw [if_pos c6] at H
          have c6b0 : (t165.toList == ([49, 50, 55, 46, 48, 46, 48, 46, 49] : List UInt8)) = true := beq_iff_eq.mpr c6
          have c6b1 : (t165.toList != ([49, 50, 55, 46, 48, 46, 48, 46, 49] : List UInt8)) = false := bne_eq_false_iff_eq.mpr c6
          clear c6
          replace H := Option.bind_eq_some_iff.mp H
          obtain ⟨t167, A70, H⟩ := H
          replace H : (some t167) = some r := H
          have A7 := Aside0.mk A70
          clear A70
          obtain rfl := Option.some.inj H
          go_enter Tryd.func6, Tryd.ntmps6
          go_wp2_with (first | ((with_reducible refine gate_callee (f := 7) rfl ?_); refine goesL_ (some 6) rfl rfl Tryd.func7 (by kernel_rfl) rfl #[.string (⟨#[69, 88, 37, 52, 49, 77, 80, 76, 69]⟩ : ByteArray), .bool true] rfl (by (try simp only [List.map_toArray, List.map_cons, List.map_nil]); first | done | rfl | (simp only [List.length_drop, List.length_take]; rfl)) ?_; (with_reducible refine (host_Parse.calls k (⟨#[69, 88, 37, 52, 49, 77, 80, 76, 69]⟩ : ByteArray) true t163 true _ A1.out (Go.Proofs.YtnlnkahgdmgooaaDoor.G.T_below HT.out (by repeat (first | (with_reducible first | exact HB.out | apply below_alloc | apply pw_below_drewN | apply below_drew1) | exact HB.out)))).mono ?_); rintro e w8 ⟨rfl, hb⟩; refine ⟨_, rfl, ?_⟩; have n0_ := Aside0.mk (below_step (by repeat (first | (with_reducible first | exact HB.out | apply below_alloc | apply pw_below_drewN | apply below_drew1) | exact HB.out)) hb); clear HB; have HB := n0_; clear n0_; (try clear hb); (try clear hb2); (try clear hk); (try clear hi)) | ((with_reducible refine gate_callee (f := 7) rfl ?_); refine goesL_ (some 10) rfl rfl Tryd.func7 (by kernel_rfl) rfl #[.string (⟨#[48, 120, 55, 102, 46, 49]⟩ : ByteArray), .bool true] rfl (by (try simp only [List.map_toArray, List.map_cons, List.map_nil]); first | done | rfl | (simp only [List.length_drop, List.length_take]; rfl)) ?_; (with_reducible refine (host_Parse.calls k (⟨#[48, 120, 55, 102, 46, 49]⟩ : ByteArray) true t165 true _ A2.out (Go.Proofs.YtnlnkahgdmgooaaDoor.G.T_below HT.out (by repeat (first | (with_reducible first | exact HB.out | apply below_alloc | apply pw_below_drewN | apply below_drew1) | exact HB.out)))).mono ?_); rintro e w9 ⟨rfl, hb⟩; refine ⟨_, rfl, ?_⟩; have n0_ := Aside0.mk (below_step (by repeat (first | (with_reducible first | exact HB.out | apply below_alloc | apply pw_below_drewN | apply below_drew1) | exact HB.out)) hb); clear HB; have HB := n0_; clear n0_; (try clear hb); (try clear hb2); (try clear hk); (try clear hi)) | (go_at_call 8; (with_reducible refine (host_Forbidden.calls 47 false t167 _ A7.out).mono ?_); rintro e w' ⟨rfl, ⟨nd, rfl⟩⟩))
          go_ret
          exact ⟨by first | rfl | (simp [errW_none, errW_some] <;> rfl) | (simp [*, errW_none, errW_some] <;> rfl) | (simp [errW_none, errW_some, Go.Proofs.YtnlnkahgdmgooaaDoor.G.isEmpty_ne]; done), by repeat (first | (with_reducible first | exact HB.out | apply below_alloc | apply pw_below_drewN | apply below_drew1) | exact HB.out)⟩
        · rw [if_neg c6] at H
          have c6b0 : (t165.toList == ([49, 50, 55, 46, 48, 46, 48, 46, 49] : List UInt8)) = false := beq_eq_false_iff_ne.mpr c6
          have c6b1 : (t165.toList != ([49, 50, 55, 46, 48, 46, 48, 46, 49] : List UInt8)) = true := bne_iff_ne.mpr c6
          obtain rfl := Option.some.inj H
          go_enter Tryd.func6, Tryd.ntmps6
          go_wp2_with (first | ((with_reducible refine gate_callee (f := 7) rfl ?_); refine goesL_ (some 6) rfl rfl Tryd.func7 (by kernel_rfl) rfl #[.string (⟨#[69, 88, 37, 52, 49, 77, 80, 76, 69]⟩ : ByteArray), .bool true] rfl (by (try simp only [List.map_toArray, List.map_cons, List.map_nil]); first | done | rfl | (simp only [List.length_drop, List.length_take]; rfl)) ?_; (with_reducible refine (host_Parse.calls k (⟨#[69, 88, 37, 52, 49, 77, 80, 76, 69]⟩ : ByteArray) true t163 true _ A1.out (Go.Proofs.YtnlnkahgdmgooaaDoor.G.T_below HT.out (by repeat (first | (with_reducible first | exact HB.out | apply below_alloc | apply pw_below_drewN | apply below_drew1) | exact HB.out)))).mono ?_); rintro e w10 ⟨rfl, hb⟩; refine ⟨_, rfl, ?_⟩; have n0_ := Aside0.mk (below_step (by repeat (first | (with_reducible first | exact HB.out | apply below_alloc | apply pw_below_drewN | apply below_drew1) | exact HB.out)) hb); clear HB; have HB := n0_; clear n0_; (try clear hb); (try clear hb2); (try clear hk); (try clear hi)) | ((with_reducible refine gate_callee (f := 7) rfl ?_); refine goesL_ (some 10) rfl rfl Tryd.func7 (by kernel_rfl) rfl #[.string (⟨#[48, 120, 55, 102, 46, 49]⟩ : ByteArray), .bool true] rfl (by (try simp only [List.map_toArray, List.map_cons, List.map_nil]); first | done | rfl | (simp only [List.length_drop, List.length_take]; rfl)) ?_; (with_reducible refine (host_Parse.calls k (⟨#[48, 120, 55, 102, 46, 49]⟩ : ByteArray) true t165 true _ A2.out (Go.Proofs.YtnlnkahgdmgooaaDoor.G.T_below HT.out (by repeat (first | (with_reducible first | exact HB.out | apply below_alloc | apply pw_below_drewN | apply below_drew1) | exact HB.out)))).mono ?_); rintro e w11 ⟨rfl, hb⟩; refine ⟨_, rfl, ?_⟩; have n0_ := Aside0.mk (below_step (by repeat (first | (with_reducible first | exact HB.out | apply below_alloc | apply pw_below_drewN | apply below_drew1) | exact HB.out)) hb); clear HB; have HB := n0_; clear n0_; (try clear hb); (try clear hb2); (try clear hk); (try clear hi)))
          go_ret
          exact ⟨by first | rfl | (simp [errW_none, errW_some] <;> rfl) | (simp [*, errW_none, errW_some] <;> rfl) | (simp [errW_none, errW_some, Go.Proofs.YtnlnkahgdmgooaaDoor.G.isEmpty_ne]; done), by repeat (first | (with_reducible first | exact HB.out | apply below_alloc | apply pw_below_drewN | apply below_drew1) | exact HB.out)⟩
      · replace c5 := Bool.eq_false_iff.mpr c5
        subst c5
        have H1 : (some false) = some r := by rw [if_neg (show ¬ (false = true) by decide)] at H; exact H
        clear H
        have H := H1
        clear H1
        obtain rfl := Option.some.inj H
        go_enter Tryd.func6, Tryd.ntmps6
        go_wp2_with (first | ((with_reducible refine gate_callee (f := 7) rfl ?_); refine goesL_ (some 6) rfl rfl Tryd.func7 (by kernel_rfl) rfl #[.string (⟨#[69, 88, 37, 52, 49, 77, 80, 76, 69]⟩ : ByteArray), .bool true] rfl (by (try simp only [List.map_toArray, List.map_cons, List.map_nil]); first | done | rfl | (simp only [List.length_drop, List.length_take]; rfl)) ?_; (with_reducible refine (host_Parse.calls k (⟨#[69, 88, 37, 52, 49, 77, 80, 76, 69]⟩ : ByteArray) true t163 true _ A1.out (Go.Proofs.YtnlnkahgdmgooaaDoor.G.T_below HT.out (by repeat (first | (with_reducible first | exact HB.out | apply below_alloc | apply pw_below_drewN | apply below_drew1) | exact HB.out)))).mono ?_); rintro e w12 ⟨rfl, hb⟩; refine ⟨_, rfl, ?_⟩; have n0_ := Aside0.mk (below_step (by repeat (first | (with_reducible first | exact HB.out | apply below_alloc | apply pw_below_drewN | apply below_drew1) | exact HB.out)) hb); clear HB; have HB := n0_; clear n0_; (try clear hb); (try clear hb2); (try clear hk); (try clear hi)) | ((with_reducible refine gate_callee (f := 7) rfl ?_); refine goesL_ (some 10) rfl rfl Tryd.func7 (by kernel_rfl) rfl #[.string (⟨#[48, 120, 55, 102, 46, 49]⟩ : ByteArray), .bool true] rfl (by (try simp only [List.map_toArray, List.map_cons, List.map_nil]); first | done | rfl | (simp only [List.length_drop, List.length_take]; rfl)) ?_; (with_reducible refine (host_Parse.calls k (⟨#[48, 120, 55, 102, 46, 49]⟩ : ByteArray) true t165 false _ A2.out (Go.Proofs.YtnlnkahgdmgooaaDoor.G.T_below HT.out (by repeat (first | (with_reducible first | exact HB.out | apply below_alloc | apply pw_below_drewN | apply below_drew1) | exact HB.out)))).mono ?_); rintro e w13 ⟨rfl, hb⟩; refine ⟨_, rfl, ?_⟩; have n0_ := Aside0.mk (below_step (by repeat (first | (with_reducible first | exact HB.out | apply below_alloc | apply pw_below_drewN | apply below_drew1) | exact HB.out)) hb); clear HB; have HB := n0_; clear n0_; (try clear hb); (try clear hb2); (try clear hk); (try clear hi)))
        go_ret
        exact ⟨by first | rfl | (simp [errW_none, errW_some] <;> rfl) | (simp [*, errW_none, errW_some] <;> rfl) | (simp [errW_none, errW_some, Go.Proofs.YtnlnkahgdmgooaaDoor.G.isEmpty_ne]; done), by repeat (first | (with_reducible first | exact HB.out | apply below_alloc | apply pw_below_drewN | apply below_drew1) | exact HB.out)⟩
    · rw [if_neg c4] at H
      have c4b0 : (t163.toList == ([101, 120, 97, 109, 112, 108, 101] : List UInt8)) = false := beq_eq_false_iff_ne.mpr c4
      have c4b1 : (t163.toList != ([101, 120, 97, 109, 112, 108, 101] : List UInt8)) = true := bne_iff_ne.mpr c4
      obtain rfl := Option.some.inj H
      go_enter Tryd.func6, Tryd.ntmps6
      go_wp2_with (first | ((with_reducible refine gate_callee (f := 7) rfl ?_); refine goesL_ (some 6) rfl rfl Tryd.func7 (by kernel_rfl) rfl #[.string (⟨#[69, 88, 37, 52, 49, 77, 80, 76, 69]⟩ : ByteArray), .bool true] rfl (by (try simp only [List.map_toArray, List.map_cons, List.map_nil]); first | done | rfl | (simp only [List.length_drop, List.length_take]; rfl)) ?_; (with_reducible refine (host_Parse.calls k (⟨#[69, 88, 37, 52, 49, 77, 80, 76, 69]⟩ : ByteArray) true t163 true _ A1.out (Go.Proofs.YtnlnkahgdmgooaaDoor.G.T_below HT.out (by repeat (first | (with_reducible first | exact HB.out | apply below_alloc | apply pw_below_drewN | apply below_drew1) | exact HB.out)))).mono ?_); rintro e w14 ⟨rfl, hb⟩; refine ⟨_, rfl, ?_⟩; have n0_ := Aside0.mk (below_step (by repeat (first | (with_reducible first | exact HB.out | apply below_alloc | apply pw_below_drewN | apply below_drew1) | exact HB.out)) hb); clear HB; have HB := n0_; clear n0_; (try clear hb); (try clear hb2); (try clear hk); (try clear hi)) | ((with_reducible refine gate_callee (f := 7) rfl ?_); refine goesL_ (some 10) rfl rfl Tryd.func7 (by kernel_rfl) rfl #[.string (⟨#[48, 120, 55, 102, 46, 49]⟩ : ByteArray), .bool true] rfl (by (try simp only [List.map_toArray, List.map_cons, List.map_nil]); first | done | rfl | (simp only [List.length_drop, List.length_take]; rfl)) ?_; (with_reducible refine (host_Parse.calls k (⟨#[48, 120, 55, 102, 46, 49]⟩ : ByteArray) true t165 t166 _ A2.out (Go.Proofs.YtnlnkahgdmgooaaDoor.G.T_below HT.out (by repeat (first | (with_reducible first | exact HB.out | apply below_alloc | apply pw_below_drewN | apply below_drew1) | exact HB.out)))).mono ?_); rintro e w15 ⟨rfl, hb⟩; refine ⟨_, rfl, ?_⟩; have n0_ := Aside0.mk (below_step (by repeat (first | (with_reducible first | exact HB.out | apply below_alloc | apply pw_below_drewN | apply below_drew1) | exact HB.out)) hb); clear HB; have HB := n0_; clear n0_; (try clear hb); (try clear hb2); (try clear hk); (try clear hi)))
      go_ret
      exact ⟨by first | rfl | (simp [errW_none, errW_some] <;> rfl) | (simp [*, errW_none, errW_some] <;> rfl) | (simp [errW_none, errW_some, Go.Proofs.YtnlnkahgdmgooaaDoor.G.isEmpty_ne]; done), by repeat (first | (with_reducible first | exact HB.out | apply below_alloc | apply pw_below_drewN | apply below_drew1) | exact HB.out)⟩
  · replace c3 := Bool.eq_false_iff.mpr c3
    subst c3
    have H1 : (some false) = some r := by rw [if_neg (show ¬ (false = true) by decide)] at H; exact H
    clear H
    have H := H1
    clear H1
    obtain rfl := Option.some.inj H
    go_enter Tryd.func6, Tryd.ntmps6
    go_wp2_with (first | ((with_reducible refine gate_callee (f := 7) rfl ?_); refine goesL_ (some 6) rfl rfl Tryd.func7 (by kernel_rfl) rfl #[.string (⟨#[69, 88, 37, 52, 49, 77, 80, 76, 69]⟩ : ByteArray), .bool true] rfl (by (try simp only [List.map_toArray, List.map_cons, List.map_nil]); first | done | rfl | (simp only [List.length_drop, List.length_take]; rfl)) ?_; (with_reducible refine (host_Parse.calls k (⟨#[69, 88, 37, 52, 49, 77, 80, 76, 69]⟩ : ByteArray) true t163 false _ A1.out (Go.Proofs.YtnlnkahgdmgooaaDoor.G.T_below HT.out (by repeat (first | (with_reducible first | exact HB.out | apply below_alloc | apply pw_below_drewN | apply below_drew1) | exact HB.out)))).mono ?_); rintro e w16 ⟨rfl, hb⟩; refine ⟨_, rfl, ?_⟩; have n0_ := Aside0.mk (below_step (by repeat (first | (with_reducible first | exact HB.out | apply below_alloc | apply pw_below_drewN | apply below_drew1) | exact HB.out)) hb); clear HB; have HB := n0_; clear n0_; (try clear hb); (try clear hb2); (try clear hk); (try clear hi)) | ((with_reducible refine gate_callee (f := 7) rfl ?_); refine goesL_ (some 10) rfl rfl Tryd.func7 (by kernel_rfl) rfl #[.string (⟨#[48, 120, 55, 102, 46, 49]⟩ : ByteArray), .bool true] rfl (by (try simp only [List.map_toArray, List.map_cons, List.map_nil]); first | done | rfl | (simp only [List.length_drop, List.length_take]; rfl)) ?_; (with_reducible refine (host_Parse.calls k (⟨#[48, 120, 55, 102, 46, 49]⟩ : ByteArray) true t165 t166 _ A2.out (Go.Proofs.YtnlnkahgdmgooaaDoor.G.T_below HT.out (by repeat (first | (with_reducible first | exact HB.out | apply below_alloc | apply pw_below_drewN | apply below_drew1) | exact HB.out)))).mono ?_); rintro e w17 ⟨rfl, hb⟩; refine ⟨_, rfl, ?_⟩; have n0_ := Aside0.mk (below_step (by repeat (first | (with_reducible first | exact HB.out | apply below_alloc | apply pw_below_drewN | apply below_drew1) | exact HB.out)) hb); clear HB; have HB := n0_; clear n0_; (try clear hb); (try clear hb2); (try clear hk); (try clear hi)))
    go_ret
    exact ⟨by first | rfl | (simp [errW_none, errW_some] <;> rfl) | (simp [*, errW_none, errW_some] <;> rfl) | (simp [errW_none, errW_some, Go.Proofs.YtnlnkahgdmgooaaDoor.G.isEmpty_ne]; done), by repeat (first | (with_reducible first | exact HB.out | apply below_alloc | apply pw_below_drewN | apply below_drew1) | exact HB.out)⟩

end Go.Proofs.YtnlnkahgdmgooaaDoor.P
