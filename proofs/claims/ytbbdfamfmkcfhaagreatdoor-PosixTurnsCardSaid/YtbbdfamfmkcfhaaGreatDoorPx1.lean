-- Written for this claim by a program of this session's (not a text of the kit's print).
import Derived.Test.YtbbdfamfmkcfhaaGreatDoorPx0
namespace Go.Proofs.YtbbdfamfmkcfhaaGreatDoor.P
open Go.RowKit Go.Proofs.YtbbdfamfmkcfhaaGreatDoorW.PrintWords Go.Proofs.YtbbdfamfmkcfhaaGreatDoorW.PrintLast Go.Proofs.YtbbdfamfmkcfhaaGreatDoorW.PrintMore
attribute [local go_sem] max2_int min2_int max_two min_two max_three min_three max_four min_four   -- for this text's walks alone
set_option linter.unusedVariables false
set_option linter.unusedSimpArgs false

/-! ### strings_Split: function 18 -/
def strings_Split.f (a0 a1 : ByteArray) : Option (List ByteArray) := if a0.size < 4294967281 ∧ 1 ≤ a1.size then some (Lib.splitB a1 0 (Lib.countB a0 a1) a0) else none
theorem strings_Split.calls (a0 a1 : ByteArray) (r : List ByteArray) (w : World) (h : strings_Split.f a0 a1 = some r) (hT : G.T w) :
  Calls Tryz.prog 18 #[.string a0, .string a1] w fun e w' => ∃ v0_ : Value, e = .returned (v0_) ∧ Kd.R Kd.string 9 w' w.heap.size (fun _ => True) v0_ r ∧ Below w.heap.size w w' := by
 unfold strings_Split.f at h
 split at h
 ·rename_i hh
  obtain rfl := Option.some.inj h
  obtain ⟨m, hm⟩ := hT.2.1
  have hlen := Lib.splitB_all a1 hh.2 0 _ a0 rfl
  refine (Tryz.strings_Split a0 a1 m w hh.1 hm hh.2).mono ?_
  rintro e w' ⟨rfl, rfl⟩
  refine ⟨_, rfl, ?_, (Below.refl _ _).alloc (Nat.le_refl _) _⟩
  rw [← hlen]
  exact G.row_new w _ (by rw [hlen]; have := Lib.countB_le a1 hh.2 _ a0 (Nat.le_refl _); omega)
 ·cases h


/-! ### strings_HasPrefix: function 21 -/
def strings_HasPrefix.f (a0 a1 : ByteArray) : Option (Bool) := some (Lib.hasPrefix a0.data.toList a1.data.toList)
theorem strings_HasPrefix.calls (a0 a1 : ByteArray) (r : Bool) (w : World) (h : strings_HasPrefix.f a0 a1 = some r) :
  Calls Tryz.prog 21 #[.string a0, .string a1] w fun e w' => e = .returned (.bool r) ∧ Drawn0 w w' := by
 obtain rfl := Option.some.inj h
 exact (Tryz.strings_HasPrefix a0 a1 w).mono (fun e w' hh => ⟨hh.1, hh.2 ▸ Drawn0.refl _⟩)


/-! ### utf8_Valid: function 38 -/
def utf8_Valid.f (l0 : List Int) : Option (Bool) := if (l0.all fun x => decide (0 ≤ x) && decide (x ≤ 255)) = true then some (Lib.validD (l0.map fun n => UInt8.ofNat n.toNat)) else none
theorem utf8_Valid.calls (A0 : Option Addr) (c0 : Nat) (l0 : List Int) (r : Bool) (w : World) (hr0 : Kd.C (Kd.int .u8) w A0 l0.length l0) (hc0 : l0.length ≤ c0) (h : utf8_Valid.f l0 = some r) (hT : G.T w) :
  Calls Tryz.prog 38 #[.slice A0 l0.length c0] w fun e w' => e = .returned (.bool r) ∧ Below w.heap.size w w' := by
 unfold utf8_Valid.f at h
 split at h
 ·rename_i hh
  obtain rfl := Option.some.inj h
  refine G.valid_of hr0 hc0 (fun x hx => ?_) hT.2.2
  have := List.all_eq_true.1 hh x hx
  simp only [Bool.and_eq_true, decide_eq_true_eq] at this
  exact ⟨this.1, by omega⟩
 ·cases h


/-! ### utf_Valid: function 22 -/
def utf_Valid.f (l0 : List Int) : Option (Bool) := (utf8_Valid.f l0).bind fun t101 => (some t101)
set_option maxHeartbeats 8000000 in
set_option maxRecDepth 100000 in
theorem utf_Valid.calls (A0 : Option Addr) (c0 : Nat) (l0 : List Int) (r : Bool) (w : World) (hr0 : Kd.C (Kd.int .u8) w A0 l0.length l0) (hc0 : l0.length ≤ c0) (h : utf_Valid.f l0 = some r) (hT : G.T w) :
  Calls Tryz.prog 22 #[.slice A0 l0.length c0] w fun e w' => e = .returned (.bool r) ∧ Below w.heap.size w w' := by
 have HT := Aside0.mk hT
 clear hT
 have HR0 := Aside0.mk hr0
 have HC0 := Aside0.mk hc0
 clear hr0 hc0
 have HB := Aside0.mk (Below.refl w.heap.size w)
 have H : ((utf8_Valid.f l0).bind fun t101 => (some t101)) = some r := h
 clear h
 replace H := Option.bind_eq_some_iff.mp H
 obtain ⟨t101, A20, H⟩ := H
 replace H : (some t101) = some r := H
 have A2 := Aside0.mk A20
 clear A20
 obtain rfl := Option.some.inj H
 go_enter Tryz.func22, Tryz.ntmps22
 go_wp2_with (first | ((with_reducible refine gate_callee (f := 38) rfl ?_); refine goesL_ (some 4) rfl rfl Tryz.func38 (by kernel_rfl) rfl #[.slice A0 l0.length c0] rfl (by (try simp only [List.map_toArray, List.map_cons, List.map_nil]); first | done | rfl | (simp only [List.length_drop, List.length_take]; rfl)) ?_; (with_reducible refine (utf8_Valid.calls _ _ l0 t101 _ ?side1 ?side2 A2.out (G.T_below HT.out (by repeat (first | (with_reducible first | exact HB.out | apply below_alloc | apply pw_below_drewN | apply below_drew1) | exact HB.out)))).mono ?_); (case side1 => repeat (first | exact HR0.out | (with_reducible refine Kd.C_alloc ?_ _) | (with_reducible refine Kd.C_drewN ?_ _) | (with_reducible refine Kd.C_drew ?_))); (case side2 => exact HC0.out); rintro e w3 ⟨rfl, hb⟩; refine ⟨_, rfl, ?_⟩; have n0_ := Aside0.mk (below_step (by repeat (first | (with_reducible first | exact HB.out | apply below_alloc | apply pw_below_drewN | apply below_drew1) | exact HB.out)) hb); clear HB; have HB := n0_; clear n0_; (try clear hb); (try clear hb2); (try clear hk); (try clear hi)))
 go_ret
 exact ⟨by first | rfl | (simp [errW_none, errW_some] <;> rfl) | (simp [*, errW_none, errW_some] <;> rfl) | (simp [errW_none, errW_some, G.isEmpty_ne]; done), by repeat (first | (with_reducible first | exact HB.out | apply below_alloc | apply pw_below_drewN | apply below_drew1) | exact HB.out)⟩

/-! ### strings_Contains: function 23 -/
def strings_Contains.f (a0 a1 : ByteArray) : Option (Bool) := if a0.size < 4294967281 then some (Lib.contains a0.data.toList a1.data.toList) else none
theorem strings_Contains.calls (a0 a1 : ByteArray) (r : Bool) (w : World) (h : strings_Contains.f a0 a1 = some r) (hT : G.T w) :
  Calls Tryz.prog 23 #[.string a0, .string a1] w fun e w' => e = .returned (.bool r) ∧ Below w.heap.size w w' := by
 unfold strings_Contains.f at h
 split at h
 ·rename_i hh
  obtain rfl := Option.some.inj h
  obtain ⟨m, hm⟩ := hT.2.1
  exact (Tryz.strings_Contains a0 a1 m w hh hm).mono (fun e w' hh => ⟨hh.1, hh.2 ▸ Below.refl _ _⟩)
 ·cases h


/-! ### posix_Fine: function 9 -/
mutual
def posix_Fine.j0 : Nat → ByteArray → Bool → Option (Bool)
 | 0, _, _ => none
 | k + 1, x0, x18 => if x18 = true then (some false) else (if 1 ≤ (x0.size : Int) then ((strings_Split.f (x0.extract 1 x0.size) (⟨#[47]⟩ : ByteArray)).bind fun t108 => (posix_Fine.l0 k t108 t108 (t108.length : Int) 0)) else (none))
def posix_Fine.l0 : Nat → List ByteArray → List ByteArray → Int → Int → Option (Bool)
 | 0, _, _, _, _ => none
 | k + 1, x3, x22, x23, x24 => if x24 < x23 then (if 0 ≤ x24 then (if x24 < (x22.length : Int) then (if (rdOf ByteArray.empty x22 x24).toList = ([46] : List UInt8) then (some false) else (if (rdOf ByteArray.empty x22 x24).toList = ([46, 46] : List UInt8) then (some false) else (if (rdOf ByteArray.empty x22 x24).toList = ([] : List UInt8) then (if x24 < (wrap64 ((x3.length : Int) - 1)) then (some false) else (posix_Fine.l0 k x3 x22 x23 (wrap64 (x24 + 1)))) else (posix_Fine.l0 k x3 x22 x23 (wrap64 (x24 + 1)))))) else (none)) else (none)) else (some true)
end
def posix_Fine.f (k : Nat) (a0 : ByteArray) : Option (Bool) := (strings_HasPrefix.f a0 (⟨#[47]⟩ : ByteArray)).bind fun t102 => (if t102 = true then (if a0.size ≤ 140737488355328 then ((utf_Valid.f (bytesOf a0)).bind fun t106 => (if t106 = true then ((strings_Contains.f a0 (⟨#[0]⟩ : ByteArray)).bind fun t107 => (posix_Fine.j0 k a0 t107)) else (posix_Fine.j0 k a0 true))) else (none)) else (posix_Fine.j0 k a0 true))
theorem posix_Fine.mono_l : ∀ k, (∀ y0 y1, LeO (posix_Fine.j0 k y0 y1) (posix_Fine.j0 (k + 1) y0 y1)) ∧ (∀ y0 y1 y2 y3, LeO (posix_Fine.l0 k y0 y1 y2 y3) (posix_Fine.l0 (k + 1) y0 y1 y2 y3))
 | 0 => ⟨fun _ _ r h => by simp [posix_Fine.j0] at h, fun _ _ _ _ r h => by simp [posix_Fine.l0] at h⟩
 | k + 1 => by
  obtain ⟨ih0, ih1⟩ := posix_Fine.mono_l k
  refine ⟨?_, ?_⟩
  ·intro y0 y1
   unfold posix_Fine.j0
   repeat' first
   | (with_reducible exact ih0 _ _)
   | (with_reducible exact ih1 _ _ _ _)
   | (with_reducible exact LeO.refl _)
   | (with_reducible exact LeO.none _)
   | (with_reducible refine LeO.ite ?_ ?_)
   | (with_reducible refine LeO.bind ?_ (fun _ => ?_))
   | exact ih0 _ _
   | exact ih1 _ _ _ _
   | exact LeO.none _
   | refine LeO.ite ?_ ?_
   | refine LeO.bind ?_ (fun _ => ?_)
  ·intro y0 y1 y2 y3
   unfold posix_Fine.l0
   repeat' first
   | (with_reducible exact ih0 _ _)
   | (with_reducible exact ih1 _ _ _ _)
   | (with_reducible exact LeO.refl _)
   | (with_reducible exact LeO.none _)
   | (with_reducible refine LeO.ite ?_ ?_)
   | (with_reducible refine LeO.bind ?_ (fun _ => ?_))
   | exact ih0 _ _
   | exact ih1 _ _ _ _
   | exact LeO.none _
   | refine LeO.ite ?_ ?_
   | refine LeO.bind ?_ (fun _ => ?_)
theorem posix_Fine.mono : ∀ a0 k, LeO (posix_Fine.f k a0) (posix_Fine.f (k + 1) a0) := by
 intro a0 k
 obtain ⟨ih0, ih1⟩ := posix_Fine.mono_l k
 unfold posix_Fine.f
 repeat' first
   | (with_reducible exact ih0 _ _)
   | (with_reducible exact ih1 _ _ _ _)
   | (with_reducible exact LeO.refl _)
   | (with_reducible exact LeO.none _)
   | (with_reducible refine LeO.ite ?_ ?_)
   | (with_reducible refine LeO.bind ?_ (fun _ => ?_))
   | exact ih0 _ _
   | exact ih1 _ _ _ _
   | exact LeO.none _
   | refine LeO.ite ?_ ?_
   | refine LeO.bind ?_ (fun _ => ?_)
set_option maxHeartbeats 8000000 in
set_option maxRecDepth 100000 in
theorem posix_Fine.calls (k : Nat) (a0 : ByteArray) (r : Bool) (w : World) (h : posix_Fine.f k a0 = some r) (hT : G.T w) :
  Calls Tryz.prog 9 #[.string a0] w fun e w' => e = .returned (.bool r) ∧ Below w.heap.size w w' := by
 have HT := Aside0.mk hT
 clear hT
 have HB := Aside0.mk (Below.refl w.heap.size w)
 have H : ((strings_HasPrefix.f a0 (⟨#[47]⟩ : ByteArray)).bind fun t102 => (if t102 = true then (if a0.size ≤ 140737488355328 then ((utf_Valid.f (bytesOf a0)).bind fun t106 => (if t106 = true then ((strings_Contains.f a0 (⟨#[0]⟩ : ByteArray)).bind fun t107 => (posix_Fine.j0 k a0 t107)) else (posix_Fine.j0 k a0 true))) else (none)) else (posix_Fine.j0 k a0 true))) = some r := h
 clear h
 have HC2 := Aside0.mk H
 clear H
 go_enter Tryz.func9, Tryz.ntmps9
 go_upto_region 1 with (fail)
 go_cut [18] (fun v18 wc => ∃ (kq : Nat) (x18_1 : Bool), v18 = .bool x18_1 ∧ Aside0 (posix_Fine.j0 kq a0 x18_1 = some r) ∧ Aside0 (kq ≤ k) ∧ Aside0 (Below w.heap.size w wc))
 case first =>
  have H := HC2.out
  clear HC2
  replace H := Option.bind_eq_some_iff.mp H
  obtain ⟨t102, A30, H⟩ := H
  replace H : (if t102 = true then (if a0.size ≤ 140737488355328 then ((utf_Valid.f (bytesOf a0)).bind fun t106 => (if t106 = true then ((strings_Contains.f a0 (⟨#[0]⟩ : ByteArray)).bind fun t107 => (posix_Fine.j0 k a0 t107)) else (posix_Fine.j0 k a0 true))) else (none)) else (posix_Fine.j0 k a0 true)) = some r := H
  have A3 := Aside0.mk A30
  clear A30
  by_cases c4 : t102 = true
  ·subst c4
   have H1 : (if a0.size ≤ 140737488355328 then ((utf_Valid.f (bytesOf a0)).bind fun t106 => (if t106 = true then ((strings_Contains.f a0 (⟨#[0]⟩ : ByteArray)).bind fun t107 => (posix_Fine.j0 k a0 t107)) else (posix_Fine.j0 k a0 true))) else (none)) = some r := by rw [if_pos rfl] at H; exact H
   clear H
   have H := H1
   clear H1
   by_cases c5 : a0.size ≤ 140737488355328
   ·rw [if_pos c5] at H
    have c5b0 := eq_true c5
    have c5b1 : decide (a0.size ≤ 140737488355328) = true := decide_eq_true c5
    clear c5
    obtain ⟨y103, hy103⟩ : ∃ y_ : List Int, y_ = (bytesOf a0) := ⟨_, rfl⟩
    replace H : ((utf_Valid.f y103).bind fun t106 => (if t106 = true then ((strings_Contains.f a0 (⟨#[0]⟩ : ByteArray)).bind fun t107 => (posix_Fine.j0 k a0 t107)) else (posix_Fine.j0 k a0 true))) = some r := by first | (rw [hy103]; with_reducible exact H) | (have H2_ := (Option.bind_some _ _).symm.trans H; rw [hy103]; with_reducible exact H2_) | (have H2_ := (Option.bind_some _ _).symm.trans H; with_reducible exact H2_) | with_reducible exact H | (rw [hy103]; exact H) | exact H
    have Ny103 := Aside0.mk hy103
    clear hy103
    replace H := Option.bind_eq_some_iff.mp H
    obtain ⟨t106, A60, H⟩ := H
    replace H : (if t106 = true then ((strings_Contains.f a0 (⟨#[0]⟩ : ByteArray)).bind fun t107 => (posix_Fine.j0 k a0 t107)) else (posix_Fine.j0 k a0 true)) = some r := H
    have A6 := Aside0.mk A60
    clear A60
    by_cases c7 : t106 = true
    ·subst c7
     have H1 : ((strings_Contains.f a0 (⟨#[0]⟩ : ByteArray)).bind fun t107 => (posix_Fine.j0 k a0 t107)) = some r := by rw [if_pos rfl] at H; exact H
     clear H
     have H := H1
     clear H1
     replace H := Option.bind_eq_some_iff.mp H
     obtain ⟨t107, A80, H⟩ := H
     replace H : (posix_Fine.j0 k a0 t107) = some r := H
     have A8 := Aside0.mk A80
     clear A80
     have H' := Aside0.mk H
     clear H
     go_wp2_with (first | ((with_reducible refine gate_callee (f := 21) rfl ?_); refine goesL_ (some 7) rfl rfl Tryz.func21 (by kernel_rfl) rfl #[.string a0, .string (⟨#[47]⟩ : ByteArray)] rfl (by (try simp only [List.map_toArray, List.map_cons, List.map_nil]); first | done | rfl | (simp only [List.length_drop, List.length_take]; rfl)) ?_; (with_reducible refine (strings_HasPrefix.calls a0 (⟨#[47]⟩ : ByteArray) true _ A3.out).mono ?_); rintro e w' ⟨rfl, ⟨nd, rfl⟩⟩; refine ⟨_, rfl, ?_⟩) | ((with_reducible refine gate_dst (N := 11) rfl ?_); (try (refine gate_guard (by rfl) ?_; dsimp only)); refine G.V_bytes _ 5 rfl (N := 11) rfl 9 38 _ rfl a0 rfl Tryz.underlying9 Tryz.underlying38 Tryz.underlying5 (of_decide_eq_true (by first | (with_reducible assumption) | assumption)) (Below.refl _ _) (Nat.le_refl _) ?_; intro v104 w9 ho10 hb hg_ hnew_; clear hg_ hnew_; (first | rw [← Ny103.out] at ho10 | (simp only [Int.reduceToNat] at ho10; rw [← Ny103.out] at ho10)); have n0_ := Aside0.mk (Kd.V_lower (Kd.V_mono (ok' := fun k_ => True) ho10 (fun k_ hk_ => trivial)) (below_size (by repeat (first | (with_reducible first | exact HB.out | apply below_alloc | apply pw_below_drewN | apply below_drew1) | exact HB.out)))); have n1_ := Aside0.mk (below_step (by repeat (first | (with_reducible first | exact HB.out | apply below_alloc | apply pw_below_drewN | apply below_drew1) | exact HB.out)) hb); clear HB; have HO105 := n0_; have HB := n1_; clear n0_ n1_; clear hb ho10; obtain ⟨Ao11, co11, eo11⟩ := Kd.V_slice HO105.out; subst eo11) | (go_at_call 22; (with_reducible refine (utf_Valid.calls _ _ y103 true _ ?side1 ?side2 A6.out (G.T_below HT.out (by repeat (first | (with_reducible first | exact HB.out | apply below_alloc | apply pw_below_drewN | apply below_drew1) | exact HB.out)))).mono ?_); (case side1 => repeat (first | exact (Kd.V_reads' HO105.out).2.2 | (with_reducible refine Kd.C_alloc ?_ _) | (with_reducible refine Kd.C_drewN ?_ _) | (with_reducible refine Kd.C_drew ?_))); (case side2 => exact (Kd.V_reads' HO105.out).2.1); rintro e w12 ⟨rfl, hb⟩; have n0_ := Aside0.mk (Kd.V_below (by (with_reducible repeat (first | apply Kd.V_alloc | apply Kd.V_drewN | apply Kd.V_drew)); exact HO105.out) hb); have n1_ := Aside0.mk (below_step (by repeat (first | (with_reducible first | exact HB.out | apply below_alloc | apply pw_below_drewN | apply below_drew1) | exact HB.out)) hb); clear HO105; clear HB; have HO105 := n0_; have HB := n1_; clear n0_ n1_; (try clear hb); (try clear hb2); (try clear hk); (try clear hi)) | (go_at_call 23; (with_reducible refine (strings_Contains.calls a0 (⟨#[0]⟩ : ByteArray) t107 _ A8.out (G.T_below HT.out (by repeat (first | (with_reducible first | exact HB.out | apply below_alloc | apply pw_below_drewN | apply below_drew1) | exact HB.out)))).mono ?_); rintro e w13 ⟨rfl, hb⟩; have n0_ := Aside0.mk (Kd.V_below (by (with_reducible repeat (first | apply Kd.V_alloc | apply Kd.V_drewN | apply Kd.V_drew)); exact HO105.out) hb); have n1_ := Aside0.mk (below_step (by repeat (first | (with_reducible first | exact HB.out | apply below_alloc | apply pw_below_drewN | apply below_drew1) | exact HB.out)) hb); clear HO105; clear HB; have HO105 := n0_; have HB := n1_; clear n0_ n1_; (try clear hb); (try clear hb2); (try clear hk); (try clear hi)))
     go_meet
     case rel => exact ⟨_, (t107), (by first | rfl | (simp; done) | (simp [*]; done) | (simp [G.isEmpty_ne]; done)), H', ⟨by first | omega | exact Nat.le_refl _⟩, ⟨by repeat (first | (with_reducible first | exact HB.out | apply below_alloc | apply pw_below_drewN | apply below_drew1) | exact HB.out)⟩⟩
    ·replace c7 := Bool.eq_false_iff.mpr c7
     subst c7
     have H1 : (posix_Fine.j0 k a0 true) = some r := by rw [if_neg (show ¬ (false = true) by decide)] at H; exact H
     clear H
     have H := H1
     clear H1
     have H' := Aside0.mk H
     clear H
     go_wp2_with (first | ((with_reducible refine gate_callee (f := 21) rfl ?_); refine goesL_ (some 7) rfl rfl Tryz.func21 (by kernel_rfl) rfl #[.string a0, .string (⟨#[47]⟩ : ByteArray)] rfl (by (try simp only [List.map_toArray, List.map_cons, List.map_nil]); first | done | rfl | (simp only [List.length_drop, List.length_take]; rfl)) ?_; (with_reducible refine (strings_HasPrefix.calls a0 (⟨#[47]⟩ : ByteArray) true _ A3.out).mono ?_); rintro e w' ⟨rfl, ⟨nd, rfl⟩⟩; refine ⟨_, rfl, ?_⟩) | ((with_reducible refine gate_dst (N := 11) rfl ?_); (try (refine gate_guard (by rfl) ?_; dsimp only)); refine G.V_bytes _ 5 rfl (N := 11) rfl 9 38 _ rfl a0 rfl Tryz.underlying9 Tryz.underlying38 Tryz.underlying5 (of_decide_eq_true (by first | (with_reducible assumption) | assumption)) (Below.refl _ _) (Nat.le_refl _) ?_; intro v104 w14 ho15 hb hg_ hnew_; clear hg_ hnew_; (first | rw [← Ny103.out] at ho15 | (simp only [Int.reduceToNat] at ho15; rw [← Ny103.out] at ho15)); have n0_ := Aside0.mk (Kd.V_lower (Kd.V_mono (ok' := fun k_ => True) ho15 (fun k_ hk_ => trivial)) (below_size (by repeat (first | (with_reducible first | exact HB.out | apply below_alloc | apply pw_below_drewN | apply below_drew1) | exact HB.out)))); have n1_ := Aside0.mk (below_step (by repeat (first | (with_reducible first | exact HB.out | apply below_alloc | apply pw_below_drewN | apply below_drew1) | exact HB.out)) hb); clear HB; have HO105 := n0_; have HB := n1_; clear n0_ n1_; clear hb ho15; obtain ⟨Ao16, co16, eo16⟩ := Kd.V_slice HO105.out; subst eo16) | (go_at_call 22; (with_reducible refine (utf_Valid.calls _ _ y103 false _ ?side1 ?side2 A6.out (G.T_below HT.out (by repeat (first | (with_reducible first | exact HB.out | apply below_alloc | apply pw_below_drewN | apply below_drew1) | exact HB.out)))).mono ?_); (case side1 => repeat (first | exact (Kd.V_reads' HO105.out).2.2 | (with_reducible refine Kd.C_alloc ?_ _) | (with_reducible refine Kd.C_drewN ?_ _) | (with_reducible refine Kd.C_drew ?_))); (case side2 => exact (Kd.V_reads' HO105.out).2.1); rintro e w17 ⟨rfl, hb⟩; have n0_ := Aside0.mk (Kd.V_below (by (with_reducible repeat (first | apply Kd.V_alloc | apply Kd.V_drewN | apply Kd.V_drew)); exact HO105.out) hb); have n1_ := Aside0.mk (below_step (by repeat (first | (with_reducible first | exact HB.out | apply below_alloc | apply pw_below_drewN | apply below_drew1) | exact HB.out)) hb); clear HO105; clear HB; have HO105 := n0_; have HB := n1_; clear n0_ n1_; (try clear hb); (try clear hb2); (try clear hk); (try clear hi)))
     go_meet
     case rel => exact ⟨_, (true), (by first | rfl | (simp; done) | (simp [*]; done) | (simp [G.isEmpty_ne]; done)), H', ⟨by first | omega | exact Nat.le_refl _⟩, ⟨by repeat (first | (with_reducible first | exact HB.out | apply below_alloc | apply pw_below_drewN | apply below_drew1) | exact HB.out)⟩⟩
   ·rw [if_neg c5] at H
    exact absurd H (by simp)
  ·replace c4 := Bool.eq_false_iff.mpr c4
   subst c4
   have H1 : (posix_Fine.j0 k a0 true) = some r := by rw [if_neg (show ¬ (false = true) by decide)] at H; exact H
   clear H
   have H := H1
   clear H1
   have H' := Aside0.mk H
   clear H
   go_wp2_with (first | ((with_reducible refine gate_callee (f := 21) rfl ?_); refine goesL_ (some 7) rfl rfl Tryz.func21 (by kernel_rfl) rfl #[.string a0, .string (⟨#[47]⟩ : ByteArray)] rfl (by (try simp only [List.map_toArray, List.map_cons, List.map_nil]); first | done | rfl | (simp only [List.length_drop, List.length_take]; rfl)) ?_; (with_reducible refine (strings_HasPrefix.calls a0 (⟨#[47]⟩ : ByteArray) false _ A3.out).mono ?_); rintro e w' ⟨rfl, ⟨nd, rfl⟩⟩; refine ⟨_, rfl, ?_⟩))
   go_meet
   case rel => exact ⟨_, (true), (by first | rfl | (simp; done) | (simp [*]; done) | (simp [G.isEmpty_ne]; done)), H', ⟨by first | omega | exact Nat.le_refl _⟩, ⟨by repeat (first | (with_reducible first | exact HB.out | apply below_alloc | apply pw_below_drewN | apply below_drew1) | exact HB.out)⟩⟩
 case rest =>
  clear HC2
  try clear c2
  try clear p2
  try clear c4
  try clear c5
  try clear c5b0
  try clear c5b1
  try clear c7
  try clear c9
  obtain ⟨kq, x18_1, rfl, HA, HJ1, HB⟩ := hcut
  cases kq with
  | zero => exact absurd HA.out (by simp [posix_Fine.j0])
  | succ kj1 =>
   have H := HA.out
   clear HA
   simp only [posix_Fine.j0] at H
   by_cases c18 : x18_1 = true
   ·subst c18
    have H1 : (some false) = some r := by rw [if_pos rfl] at H; exact H
    clear H
    have H := H1
    clear H1
    obtain rfl := Option.some.inj H
    go_wp2
    go_ret
    exact ⟨by first | rfl | (simp [errW_none, errW_some] <;> rfl) | (simp [*, errW_none, errW_some] <;> rfl) | (simp [errW_none, errW_some, G.isEmpty_ne]; done), by repeat (first | (with_reducible first | exact HB.out | apply below_alloc | apply pw_below_drewN | apply below_drew1) | exact HB.out)⟩
   ·replace c18 := Bool.eq_false_iff.mpr c18
    subst c18
    have H1 : (if 1 ≤ (a0.size : Int) then ((strings_Split.f (a0.extract 1 a0.size) (⟨#[47]⟩ : ByteArray)).bind fun t108 => (posix_Fine.l0 kj1 t108 t108 (t108.length : Int) 0)) else (none)) = some r := by rw [if_neg (show ¬ (false = true) by decide)] at H; exact H
    clear H
    have H := H1
    clear H1
    by_cases c19 : 1 ≤ (a0.size : Int)
    ·rw [if_pos c19] at H
     have c19b0 := eq_true c19
     have c19b1 : decide (1 ≤ (a0.size : Int)) = true := decide_eq_true c19
     clear c19
     replace H := Option.bind_eq_some_iff.mp H
     obtain ⟨t108, A200, H⟩ := H
     replace H : (posix_Fine.l0 kj1 t108 t108 (t108.length : Int) 0) = some r := H
     have A20 := Aside0.mk A200
     clear A200
     have H' := Aside0.mk H
     clear H
     go_wp2_with (first | ((with_reducible refine gate_callee (f := 18) rfl ?_); refine goesL_ (some 21) rfl rfl Tryz.func18 (by kernel_rfl) rfl #[.string (a0.extract 1 a0.size), .string (⟨#[47]⟩ : ByteArray)] rfl (by (try simp only [List.map_toArray, List.map_cons, List.map_nil]); first | done | rfl | (simp only [List.length_drop, List.length_take]; rfl)) ?_; (with_reducible refine (strings_Split.calls (a0.extract 1 a0.size) (⟨#[47]⟩ : ByteArray) t108 _ A20.out (G.T_below HT.out (by repeat (first | (with_reducible first | exact HB.out | apply below_alloc | apply pw_below_drewN | apply below_drew1) | exact HB.out)))).mono ?_); rintro e w21 ⟨v109, rfl, ho0, hb⟩; refine ⟨_, rfl, ?_⟩; have n0_ := Aside0.mk (Kd.R_lower ho0 (below_size (by repeat (first | (with_reducible first | exact HB.out | apply below_alloc | apply pw_below_drewN | apply below_drew1) | exact HB.out)))); have n1_ := Aside0.mk (below_step (by repeat (first | (with_reducible first | exact HB.out | apply below_alloc | apply pw_below_drewN | apply below_drew1) | exact HB.out)) hb); clear HB; have HO110 := n0_; have HB := n1_; clear n0_ n1_; (try clear hb); (try clear hb2); (try clear hk); (try clear hi); (try clear ho0); obtain ⟨Ao22, co22, eo22⟩ := Kd.R_slice HO110.out; subst eo22))
     go_loopg [24] kj1 (fun kq v24 w' => ∃ (x24_2 : Int), v24 = .int .i64 x24_2 ∧ Aside0 (posix_Fine.l0 kq t108 t108 (t108.length : Int) x24_2 = some r) ∧ Aside0 (kq ≤ kj1) ∧ Aside0 (Kd.R Kd.string 9 w' w.heap.size (fun _ => True) (.slice Ao22 t108.length co22) t108) ∧ Aside0 (Kd.R Kd.string 9 w' w.heap.size (fun _ => True) (.slice Ao22 t108.length co22) t108) ∧ Aside0 (Below w.heap.size w w'))
     case atStart => exact ⟨(0), (by first | rfl | (simp; done) | (simp [*]; done) | (simp [G.isEmpty_ne]; done)), H', ⟨Nat.le_refl _⟩, ⟨by (with_reducible repeat (first | apply Kd.R_alloc | apply Kd.R_drewN | apply Kd.R_drew)); exact HO110.out⟩, ⟨by (with_reducible repeat (first | apply Kd.R_alloc | apply Kd.R_drewN | apply Kd.R_drew)); exact HO110.out⟩, ⟨by repeat (first | (with_reducible first | exact HB.out | apply below_alloc | apply pw_below_drewN | apply below_drew1) | exact HB.out)⟩⟩
     case round =>
      clear H'
      try clear c1
      try clear c2
      try clear p2
      try clear c4
      try clear c5
      try clear c5b0
      try clear c5b1
      try clear c7
      try clear c9
      try clear c18
      try clear c19
      try clear c19b0
      try clear c19b1
      try clear c21
      try clear p2
      obtain ⟨x24_2, rfl, HA, HK2, HO_3, HO_22, HB⟩ := hrel
      cases gk with
      | zero => exact absurd HA.out (by simp [posix_Fine.l0])
      | succ k2 =>
       have H := HA.out
       clear HA
       simp only [posix_Fine.l0] at H
       by_cases c23 : x24_2 < (t108.length : Int)
       ·rw [if_pos c23] at H
        have c23b0 : decide (x24_2 < (t108.length : Int)) = true := decide_eq_true c23
        clear c23
        by_cases c24 : 0 ≤ x24_2
        ·rw [if_pos c24] at H
         have c24b0 : decide (0 ≤ x24_2) = true := decide_eq_true c24
         clear c24
         by_cases c25 : x24_2 < (t108.length : Int)
         ·rw [if_pos c25] at H
          have c25b0 : decide (x24_2 < (t108.length : Int)) = true := decide_eq_true c25
          clear c25
          by_cases c26 : (rdOf ByteArray.empty t108 x24_2).toList = ([46] : List UInt8)
          ·rw [if_pos c26] at H
           have c26b0 : ((rdOf ByteArray.empty t108 x24_2).toList == ([46] : List UInt8)) = true := beq_iff_eq.mpr c26
           have c26b1 : ((rdOf ByteArray.empty t108 x24_2).toList != ([46] : List UInt8)) = false := bne_eq_false_iff_eq.mpr c26
           clear c26
           obtain rfl := Option.some.inj H
           have p111 : 0 ≤ (x24_2 : Int) := of_decide_eq_true (by first | (with_reducible assumption) | assumption)
           have q111 : x24_2 < (t108.length : Int) := of_decide_eq_true (by first | (with_reducible assumption) | assumption)
           obtain ⟨ad111, e111, hx111_0⟩ := Kd.at_string (Kd.R_reads' HO_22.out).2.2 x24_2 p111 q111
           cases e111
           replace p111 := eq_true p111
           replace q111 := eq_true q111
           go_wp2
           go_ret
           exact ⟨by first | rfl | (simp [errW_none, errW_some] <;> rfl) | (simp [*, errW_none, errW_some] <;> rfl) | (simp [errW_none, errW_some, G.isEmpty_ne]; done), by repeat (first | (with_reducible first | exact HB.out | apply below_alloc | apply pw_below_drewN | apply below_drew1) | exact HB.out)⟩
          ·rw [if_neg c26] at H
           have c26b0 : ((rdOf ByteArray.empty t108 x24_2).toList == ([46] : List UInt8)) = false := beq_eq_false_iff_ne.mpr c26
           have c26b1 : ((rdOf ByteArray.empty t108 x24_2).toList != ([46] : List UInt8)) = true := bne_iff_ne.mpr c26
           by_cases c27 : (rdOf ByteArray.empty t108 x24_2).toList = ([46, 46] : List UInt8)
           ·rw [if_pos c27] at H
            have c27b0 : ((rdOf ByteArray.empty t108 x24_2).toList == ([46, 46] : List UInt8)) = true := beq_iff_eq.mpr c27
            have c27b1 : ((rdOf ByteArray.empty t108 x24_2).toList != ([46, 46] : List UInt8)) = false := bne_eq_false_iff_eq.mpr c27
            clear c27
            obtain rfl := Option.some.inj H
            have p111 : 0 ≤ (x24_2 : Int) := of_decide_eq_true (by first | (with_reducible assumption) | assumption)
            have q111 : x24_2 < (t108.length : Int) := of_decide_eq_true (by first | (with_reducible assumption) | assumption)
            obtain ⟨ad111, e111, hx111_0⟩ := Kd.at_string (Kd.R_reads' HO_22.out).2.2 x24_2 p111 q111
            cases e111
            replace p111 := eq_true p111
            replace q111 := eq_true q111
            go_wp2
            go_ret
            exact ⟨by first | rfl | (simp [errW_none, errW_some] <;> rfl) | (simp [*, errW_none, errW_some] <;> rfl) | (simp [errW_none, errW_some, G.isEmpty_ne]; done), by repeat (first | (with_reducible first | exact HB.out | apply below_alloc | apply pw_below_drewN | apply below_drew1) | exact HB.out)⟩
           ·rw [if_neg c27] at H
            have c27b0 : ((rdOf ByteArray.empty t108 x24_2).toList == ([46, 46] : List UInt8)) = false := beq_eq_false_iff_ne.mpr c27
            have c27b1 : ((rdOf ByteArray.empty t108 x24_2).toList != ([46, 46] : List UInt8)) = true := bne_iff_ne.mpr c27
            by_cases c28 : (rdOf ByteArray.empty t108 x24_2).toList = ([] : List UInt8)
            ·rw [if_pos c28] at H
             have c28b0 : ((rdOf ByteArray.empty t108 x24_2).toList == ([] : List UInt8)) = true := beq_iff_eq.mpr c28
             have c28b1 : ((rdOf ByteArray.empty t108 x24_2).toList != ([] : List UInt8)) = false := bne_eq_false_iff_eq.mpr c28
             clear c28
             by_cases c29 : x24_2 < (wrap64 ((t108.length : Int) - 1))
             ·rw [if_pos c29] at H
              have c29b0 : decide (x24_2 < (wrap64 ((t108.length : Int) - 1))) = true := decide_eq_true c29
              clear c29
              obtain rfl := Option.some.inj H
              have p111 : 0 ≤ (x24_2 : Int) := of_decide_eq_true (by first | (with_reducible assumption) | assumption)
              have q111 : x24_2 < (t108.length : Int) := of_decide_eq_true (by first | (with_reducible assumption) | assumption)
              obtain ⟨ad111, e111, hx111_0⟩ := Kd.at_string (Kd.R_reads' HO_22.out).2.2 x24_2 p111 q111
              cases e111
              replace p111 := eq_true p111
              replace q111 := eq_true q111
              go_wp2
              go_ret
              exact ⟨by first | rfl | (simp [errW_none, errW_some] <;> rfl) | (simp [*, errW_none, errW_some] <;> rfl) | (simp [errW_none, errW_some, G.isEmpty_ne]; done), by repeat (first | (with_reducible first | exact HB.out | apply below_alloc | apply pw_below_drewN | apply below_drew1) | exact HB.out)⟩
             ·rw [if_neg c29] at H
              have c29b0 : decide (x24_2 < (wrap64 ((t108.length : Int) - 1))) = false := decide_eq_false c29
              clear c29
              have H' := Aside0.mk H
              clear H
              have p111 : 0 ≤ (x24_2 : Int) := of_decide_eq_true (by first | (with_reducible assumption) | assumption)
              have q111 : x24_2 < (t108.length : Int) := of_decide_eq_true (by first | (with_reducible assumption) | assumption)
              obtain ⟨ad111, e111, hx111_0⟩ := Kd.at_string (Kd.R_reads' HO_22.out).2.2 x24_2 p111 q111
              cases e111
              replace p111 := eq_true p111
              replace q111 := eq_true q111
              go_wp2
              go_roundg k2
              case measure => have := HJ1.out; have := HK2.out; omega
              case rel => exact ⟨(wrap64 (x24_2 + 1)), (by first | rfl | (simp; done) | (simp [*]; done) | (simp [G.isEmpty_ne]; done)), H', ⟨by have := HJ1.out; have := HK2.out; omega⟩, ⟨by (with_reducible repeat (first | apply Kd.R_alloc | apply Kd.R_drewN | apply Kd.R_drew)); exact HO_3.out⟩, ⟨by (with_reducible repeat (first | apply Kd.R_alloc | apply Kd.R_drewN | apply Kd.R_drew)); exact HO_22.out⟩, ⟨by repeat (first | (with_reducible first | exact HB.out | apply below_alloc | apply pw_below_drewN | apply below_drew1) | exact HB.out)⟩⟩
            ·rw [if_neg c28] at H
             have c28b0 : ((rdOf ByteArray.empty t108 x24_2).toList == ([] : List UInt8)) = false := beq_eq_false_iff_ne.mpr c28
             have c28b1 : ((rdOf ByteArray.empty t108 x24_2).toList != ([] : List UInt8)) = true := bne_iff_ne.mpr c28
             have H' := Aside0.mk H
             clear H
             have p111 : 0 ≤ (x24_2 : Int) := of_decide_eq_true (by first | (with_reducible assumption) | assumption)
             have q111 : x24_2 < (t108.length : Int) := of_decide_eq_true (by first | (with_reducible assumption) | assumption)
             obtain ⟨ad111, e111, hx111_0⟩ := Kd.at_string (Kd.R_reads' HO_22.out).2.2 x24_2 p111 q111
             cases e111
             replace p111 := eq_true p111
             replace q111 := eq_true q111
             go_wp2
             go_roundg k2
             case measure => have := HJ1.out; have := HK2.out; omega
             case rel => exact ⟨(wrap64 (x24_2 + 1)), (by first | rfl | (simp; done) | (simp [*]; done) | (simp [G.isEmpty_ne]; done)), H', ⟨by have := HJ1.out; have := HK2.out; omega⟩, ⟨by (with_reducible repeat (first | apply Kd.R_alloc | apply Kd.R_drewN | apply Kd.R_drew)); exact HO_3.out⟩, ⟨by (with_reducible repeat (first | apply Kd.R_alloc | apply Kd.R_drewN | apply Kd.R_drew)); exact HO_22.out⟩, ⟨by repeat (first | (with_reducible first | exact HB.out | apply below_alloc | apply pw_below_drewN | apply below_drew1) | exact HB.out)⟩⟩
         ·rw [if_neg c25] at H
          exact absurd H (by simp)
        ·rw [if_neg c24] at H
         exact absurd H (by simp)
       ·rw [if_neg c23] at H
        have c23b0 : decide (x24_2 < (t108.length : Int)) = false := decide_eq_false c23
        clear c23
        obtain rfl := Option.some.inj H
        go_wp2
        go_ret
        exact ⟨by first | rfl | (simp [errW_none, errW_some] <;> rfl) | (simp [*, errW_none, errW_some] <;> rfl) | (simp [errW_none, errW_some, G.isEmpty_ne]; done), by repeat (first | (with_reducible first | exact HB.out | apply below_alloc | apply pw_below_drewN | apply below_drew1) | exact HB.out)⟩
    ·rw [if_neg c19] at H
     exact absurd H (by simp)

/-! ### strings_ReplaceAll: function 26 -/
def strings_ReplaceAll.f (a0 a1 a2 : ByteArray) : Option (ByteArray) := if a0.size < 4294967281 ∧ 1 ≤ a1.size ∧ a2.size ≤ 1000 then some ⟨(Lib.replaceAll a0.data.toList a1.data.toList a2.data.toList).toArray⟩ else none
theorem strings_ReplaceAll.calls (a0 a1 a2 : ByteArray) (r : ByteArray) (w : World) (h : strings_ReplaceAll.f a0 a1 a2 = some r) (hT : G.T w) :
  Calls Tryz.prog 26 #[.string a0, .string a1, .string a2] w fun e w' => e = .returned (.string r) ∧ Below w.heap.size w w' := by
 unfold strings_ReplaceAll.f at h
 split at h
 ·rename_i hh
  obtain rfl := Option.some.inj h
  obtain ⟨m, hm⟩ := hT.2.1
  have h1 := Lib.countB_le a1 hh.2.1 _ a0 (Nat.le_refl _)
  have h2 := Nat.mul_le_mul h1 hh.2.2
  exact Tryz.strings_ReplaceAll a0 a1 a2 m w hh.1 hm hh.2.1 (by omega)
 ·cases h


/-! ### strings_IndexByte: function 62 -/
def strings_IndexByte.f (a0 : ByteArray) (a1 : Int) : Option (Int) := some (Lib.indexByte a0.data.toList a1.toNat.toUInt8)
theorem strings_IndexByte.calls (a0 : ByteArray) (a1 : Int) (r : Int) (w : World) (h : strings_IndexByte.f a0 a1 = some r) :
  Calls Tryz.prog 62 #[.string a0, .int .u8 a1] w fun e w' => e = .returned (.int .i64 r) ∧ Drawn0 w w' := by
 obtain rfl := Option.some.inj h
 exact (Tryz.strings_IndexByte a0 a1 w).mono (fun e w' hh => ⟨hh.1, hh.2 ▸ Drawn0.refl _⟩)


/-! ### escape_signs: function 63 -/
def escape_signs.f (a0 : Int) : Option (ByteArray) := if a0 = 1 then (some (⟨#[32, 34, 60, 62, 96]⟩ : ByteArray)) else (if a0 = 2 then (some (⟨#[32, 34, 35, 60, 62]⟩ : ByteArray)) else (if a0 = 3 then (some (⟨#[32, 34, 35, 60, 62, 39]⟩ : ByteArray)) else (if a0 = 4 then (some (⟨#[32, 34, 35, 60, 62, 63, 94, 96, 123, 125]⟩ : ByteArray)) else (if a0 = 5 then (some (⟨#[32, 34, 35, 60, 62, 63, 94, 96, 123, 125, 47, 58, 59, 61, 64, 91, 92, 93, 124]⟩ : ByteArray)) else (if a0 = 6 then (some (⟨#[32, 34, 35, 60, 62, 63, 94, 96, 123, 125, 47, 58, 59, 61, 64, 91, 92, 93, 124, 36, 37, 38, 43, 44]⟩ : ByteArray)) else (some (⟨#[]⟩ : ByteArray)))))))
set_option maxHeartbeats 8000000 in
set_option maxRecDepth 100000 in
theorem escape_signs.calls (a0 : Int) (r : ByteArray) (w : World) (h : escape_signs.f a0 = some r) :
  Calls Tryz.prog 63 #[.int .i64 a0] w fun e w' => e = .returned (.string r) ∧ Drawn0 w w' := by
 have H : (if a0 = 1 then (some (⟨#[32, 34, 60, 62, 96]⟩ : ByteArray)) else (if a0 = 2 then (some (⟨#[32, 34, 35, 60, 62]⟩ : ByteArray)) else (if a0 = 3 then (some (⟨#[32, 34, 35, 60, 62, 39]⟩ : ByteArray)) else (if a0 = 4 then (some (⟨#[32, 34, 35, 60, 62, 63, 94, 96, 123, 125]⟩ : ByteArray)) else (if a0 = 5 then (some (⟨#[32, 34, 35, 60, 62, 63, 94, 96, 123, 125, 47, 58, 59, 61, 64, 91, 92, 93, 124]⟩ : ByteArray)) else (if a0 = 6 then (some (⟨#[32, 34, 35, 60, 62, 63, 94, 96, 123, 125, 47, 58, 59, 61, 64, 91, 92, 93, 124, 36, 37, 38, 43, 44]⟩ : ByteArray)) else (some (⟨#[]⟩ : ByteArray)))))))) = some r := h
 clear h
 by_cases c2 : a0 = 1
 ·rw [if_pos c2] at H
  have c2b0 : (a0 == 1) = true := beq_iff_eq.mpr c2
  have c2b1 : (a0 != 1) = false := bne_eq_false_iff_eq.mpr c2
  clear c2
  obtain rfl := Option.some.inj H
  go_enter Tryz.func63, Tryz.ntmps63
  go_wp2
  go_ret
  exact ⟨by first | rfl | (simp; done) | (simp [*]; done) | (simp [G.isEmpty_ne]; done), by repeat (first | exact Drawn0.refl _ | apply Drawn0.step)⟩
 ·rw [if_neg c2] at H
  have c2b0 : (a0 == 1) = false := beq_eq_false_iff_ne.mpr c2
  have c2b1 : (a0 != 1) = true := bne_iff_ne.mpr c2
  by_cases c3 : a0 = 2
  ·rw [if_pos c3] at H
   have c3b0 : (a0 == 2) = true := beq_iff_eq.mpr c3
   have c3b1 : (a0 != 2) = false := bne_eq_false_iff_eq.mpr c3
   clear c3
   obtain rfl := Option.some.inj H
   go_enter Tryz.func63, Tryz.ntmps63
   go_wp2
   go_ret
   exact ⟨by first | rfl | (simp; done) | (simp [*]; done) | (simp [G.isEmpty_ne]; done), by repeat (first | exact Drawn0.refl _ | apply Drawn0.step)⟩
  ·rw [if_neg c3] at H
   have c3b0 : (a0 == 2) = false := beq_eq_false_iff_ne.mpr c3
   have c3b1 : (a0 != 2) = true := bne_iff_ne.mpr c3
   by_cases c4 : a0 = 3
   ·rw [if_pos c4] at H
    have c4b0 : (a0 == 3) = true := beq_iff_eq.mpr c4
    have c4b1 : (a0 != 3) = false := bne_eq_false_iff_eq.mpr c4
    clear c4
    obtain rfl := Option.some.inj H
    go_enter Tryz.func63, Tryz.ntmps63
    go_wp2
    go_ret
    exact ⟨by first | rfl | (simp; done) | (simp [*]; done) | (simp [G.isEmpty_ne]; done), by repeat (first | exact Drawn0.refl _ | apply Drawn0.step)⟩
   ·rw [if_neg c4] at H
    have c4b0 : (a0 == 3) = false := beq_eq_false_iff_ne.mpr c4
    have c4b1 : (a0 != 3) = true := bne_iff_ne.mpr c4
    by_cases c5 : a0 = 4
    ·rw [if_pos c5] at H
     have c5b0 : (a0 == 4) = true := beq_iff_eq.mpr c5
     have c5b1 : (a0 != 4) = false := bne_eq_false_iff_eq.mpr c5
     clear c5
     obtain rfl := Option.some.inj H
     go_enter Tryz.func63, Tryz.ntmps63
     go_wp2
     go_ret
     exact ⟨by first | rfl | (simp; done) | (simp [*]; done) | (simp [G.isEmpty_ne]; done), by repeat (first | exact Drawn0.refl _ | apply Drawn0.step)⟩
    ·rw [if_neg c5] at H
     have c5b0 : (a0 == 4) = false := beq_eq_false_iff_ne.mpr c5
     have c5b1 : (a0 != 4) = true := bne_iff_ne.mpr c5
     by_cases c6 : a0 = 5
     ·rw [if_pos c6] at H
      have c6b0 : (a0 == 5) = true := beq_iff_eq.mpr c6
      have c6b1 : (a0 != 5) = false := bne_eq_false_iff_eq.mpr c6
      clear c6
      obtain rfl := Option.some.inj H
      go_enter Tryz.func63, Tryz.ntmps63
      go_wp2
      go_ret
      exact ⟨by first | rfl | (simp; done) | (simp [*]; done) | (simp [G.isEmpty_ne]; done), by repeat (first | exact Drawn0.refl _ | apply Drawn0.step)⟩
     ·rw [if_neg c6] at H
      have c6b0 : (a0 == 5) = false := beq_eq_false_iff_ne.mpr c6
      have c6b1 : (a0 != 5) = true := bne_iff_ne.mpr c6
      by_cases c7 : a0 = 6
      ·rw [if_pos c7] at H
       have c7b0 : (a0 == 6) = true := beq_iff_eq.mpr c7
       have c7b1 : (a0 != 6) = false := bne_eq_false_iff_eq.mpr c7
       clear c7
       obtain rfl := Option.some.inj H
       go_enter Tryz.func63, Tryz.ntmps63
       go_wp2
       go_ret
       exact ⟨by first | rfl | (simp; done) | (simp [*]; done) | (simp [G.isEmpty_ne]; done), by repeat (first | exact Drawn0.refl _ | apply Drawn0.step)⟩
      ·rw [if_neg c7] at H
       have c7b0 : (a0 == 6) = false := beq_eq_false_iff_ne.mpr c7
       have c7b1 : (a0 != 6) = true := bne_iff_ne.mpr c7
       obtain rfl := Option.some.inj H
       go_enter Tryz.func63, Tryz.ntmps63
       go_wp2
       go_ret
       exact ⟨by first | rfl | (simp; done) | (simp [*]; done) | (simp [G.isEmpty_ne]; done), by repeat (first | exact Drawn0.refl _ | apply Drawn0.step)⟩

/-! ### escape_In: function 43 -/
def escape_In.j0 : Nat → Int → Int → Bool → Option (Bool)
 | 0, _, _, _ => none
 | k + 1, x0, x1, x10 => if x10 = true then (some false) else (if x1 < 32 then (some true) else (if x1 > 126 then (some true) else ((escape_signs.f x0).bind fun t112 => ((strings_IndexByte.f t112 x1).bind fun t113 => (some (decide (t113 ≥ 0)))))))
def escape_In.f (k : Nat) (a0 : Int) (a1 : Int) : Option (Bool) := if a0 < 0 then (escape_In.j0 k a0 a1 true) else (escape_In.j0 k a0 a1 (decide (a0 > 6)))
theorem escape_In.mono_l : ∀ k, (∀ y0 y1 y2, LeO (escape_In.j0 k y0 y1 y2) (escape_In.j0 (k + 1) y0 y1 y2))
 | 0 => fun _ _ _ r h => by simp [escape_In.j0] at h
 | k + 1 => by
  have ih0 := escape_In.mono_l k
  ·intro y0 y1 y2
   unfold escape_In.j0
   repeat' first
   | (with_reducible exact ih0 _ _ _)
   | (with_reducible exact LeO.refl _)
   | (with_reducible exact LeO.none _)
   | (with_reducible refine LeO.ite ?_ ?_)
   | (with_reducible refine LeO.bind ?_ (fun _ => ?_))
   | exact ih0 _ _ _
   | exact LeO.none _
   | refine LeO.ite ?_ ?_
   | refine LeO.bind ?_ (fun _ => ?_)
theorem escape_In.mono : ∀ a0 a1 k, LeO (escape_In.f k a0 a1) (escape_In.f (k + 1) a0 a1) := by
 intro a0 a1 k
 have ih0 := escape_In.mono_l k
 unfold escape_In.f
 repeat' first
   | (with_reducible exact ih0 _ _ _)
   | (with_reducible exact LeO.refl _)
   | (with_reducible exact LeO.none _)
   | (with_reducible refine LeO.ite ?_ ?_)
   | (with_reducible refine LeO.bind ?_ (fun _ => ?_))
   | exact ih0 _ _ _
   | exact LeO.none _
   | refine LeO.ite ?_ ?_
   | refine LeO.bind ?_ (fun _ => ?_)
set_option maxHeartbeats 8000000 in
set_option maxRecDepth 100000 in
theorem escape_In.calls (k : Nat) (a0 : Int) (a1 : Int) (r : Bool) (w : World) (h : escape_In.f k a0 a1 = some r) :
  Calls Tryz.prog 43 #[.int .i64 a0, .int .u8 a1] w fun e w' => e = .returned (.bool r) ∧ Drawn0 w w' := by
 have H : (if a0 < 0 then (escape_In.j0 k a0 a1 true) else (escape_In.j0 k a0 a1 (decide (a0 > 6)))) = some r := h
 clear h
 have HC3 := Aside0.mk H
 clear H
 go_enter Tryz.func43, Tryz.ntmps43
 go_upto_region 1 with (fail)
 go_cut [10] (fun v10 wc => ∃ (kq : Nat) (x10_2 : Bool), v10 = .bool x10_2 ∧ Aside0 (escape_In.j0 kq a0 a1 x10_2 = some r) ∧ Aside0 (kq ≤ k) ∧ Drawn0 w wc)
 case first =>
  have H := HC3.out
  clear HC3
  by_cases c4 : a0 < 0
  ·rw [if_pos c4] at H
   have c4b0 : decide (a0 < 0) = true := decide_eq_true c4
   clear c4
   (first | rw [c4b0] | (simp only [i64_w, i32_w]; rw [c4b0]) | skip)
   have H' := Aside0.mk H
   clear H
   go_wp2
   go_meet
   case rel => exact ⟨_, (true), (by first | rfl | (simp; done) | (simp [*]; done) | (simp [G.isEmpty_ne]; done)), H', ⟨by first | omega | exact Nat.le_refl _⟩, by repeat (first | exact Drawn0.refl _ | apply Drawn0.step)⟩
  ·rw [if_neg c4] at H
   have c4b0 : decide (a0 < 0) = false := decide_eq_false c4
   clear c4
   (first | rw [c4b0] | (simp only [i64_w, i32_w]; rw [c4b0]) | skip)
   have H' := Aside0.mk H
   clear H
   go_wp2
   go_meet
   case rel => exact ⟨_, (decide (a0 > 6)), (by first | rfl | (simp; done) | (simp [*]; done) | (simp [G.isEmpty_ne]; done)), H', ⟨by first | omega | exact Nat.le_refl _⟩, by repeat (first | exact Drawn0.refl _ | apply Drawn0.step)⟩
 case rest =>
  clear HC3
  try clear p2
  try clear c4
  try clear c4b0
  obtain ⟨kq, x10_2, rfl, HA, HJ2, ⟨mc2, rfl⟩⟩ := hcut
  cases kq with
  | zero => exact absurd HA.out (by simp [escape_In.j0])
  | succ kj2 =>
   have H := HA.out
   clear HA
   simp only [escape_In.j0] at H
   by_cases c5 : x10_2 = true
   ·subst c5
    have H1 : (some false) = some r := by rw [if_pos rfl] at H; exact H
    clear H
    have H := H1
    clear H1
    obtain rfl := Option.some.inj H
    go_wp2
    go_ret
    exact ⟨by first | rfl | (simp; done) | (simp [*]; done) | (simp [G.isEmpty_ne]; done), by repeat (first | exact Drawn0.refl _ | apply Drawn0.step)⟩
   ·replace c5 := Bool.eq_false_iff.mpr c5
    subst c5
    have H1 : (if a1 < 32 then (some true) else (if a1 > 126 then (some true) else ((escape_signs.f a0).bind fun t112 => ((strings_IndexByte.f t112 a1).bind fun t113 => (some (decide (t113 ≥ 0))))))) = some r := by rw [if_neg (show ¬ (false = true) by decide)] at H; exact H
    clear H
    have H := H1
    clear H1
    by_cases c6 : a1 < 32
    ·rw [if_pos c6] at H
     have c6b0 : decide (a1 < 32) = true := decide_eq_true c6
     clear c6
     obtain rfl := Option.some.inj H
     go_wp2
     go_ret
     exact ⟨by first | rfl | (simp; done) | (simp [*]; done) | (simp [G.isEmpty_ne]; done), by repeat (first | exact Drawn0.refl _ | apply Drawn0.step)⟩
    ·rw [if_neg c6] at H
     have c6b0 : decide (a1 < 32) = false := decide_eq_false c6
     clear c6
     by_cases c7 : a1 > 126
     ·rw [if_pos c7] at H
      have c7b0 : decide (126 < a1) = true := decide_eq_true c7
      clear c7
      obtain rfl := Option.some.inj H
      go_wp2
      go_ret
      exact ⟨by first | rfl | (simp; done) | (simp [*]; done) | (simp [G.isEmpty_ne]; done), by repeat (first | exact Drawn0.refl _ | apply Drawn0.step)⟩
     ·rw [if_neg c7] at H
      have c7b0 : decide (126 < a1) = false := decide_eq_false c7
      clear c7
      replace H := Option.bind_eq_some_iff.mp H
      obtain ⟨t112, A80, H⟩ := H
      replace H : ((strings_IndexByte.f t112 a1).bind fun t113 => (some (decide (t113 ≥ 0)))) = some r := H
      have A8 := Aside0.mk A80
      clear A80
      replace H := Option.bind_eq_some_iff.mp H
      obtain ⟨t113, A90, H⟩ := H
      replace H : (some (decide (t113 ≥ 0))) = some r := H
      have A9 := Aside0.mk A90
      clear A90
      obtain rfl := Option.some.inj H
      go_wp2_with (first | (go_at_call 63; (with_reducible refine (escape_signs.calls a0 t112 _ A8.out).mono ?_); rintro e w' ⟨rfl, ⟨nd, rfl⟩⟩) | (go_at_call 62; (with_reducible refine (strings_IndexByte.calls t112 a1 t113 _ A9.out).mono ?_); rintro e w' ⟨rfl, ⟨nd, rfl⟩⟩))
      go_ret
      exact ⟨by first | rfl | (simp; done) | (simp [*]; done) | (simp [G.isEmpty_ne]; done), by repeat (first | exact Drawn0.refl _ | apply Drawn0.step)⟩

/-! ### escape_Encode: function 29 -/
def escape_Encode.hxd (n : Int) : Int := if n < 10 then 48 + n else 55 + n
def escape_Encode.enc1 (b : Bool) (c : Int) : List Int := if b = true then [37, escape_Encode.hxd (c / 16), escape_Encode.hxd (c % 16)] else [c]
def escape_Encode.go (a0 : Int) : List Int → Option (List Int)
 | [] => some []
 | c :: t => if 0 ≤ c ∧ c ≤ 255 then (escape_In.f 3 a0 c).bind fun b => (escape_Encode.go a0 t).map fun r => escape_Encode.enc1 b c ++ r else none
def escape_Encode.f (a0 : Int) (l1 : List Int) : Option (ByteArray) := if l1.length * 3 ≤ 140737488355328 then (escape_Encode.go a0 l1).map strOfNums else none

def escape_Encode.toU (l : List Int) : List UInt8 := l.map fun n => UInt8.ofNat n.toNat
def escape_Encode.EncRel (a0 : Int) (l1 : List Int) (w : World) (k : Nat) (out : List Int) (w' : World) : Prop :=
 ∃ acc rest, out = acc ++ rest ∧ escape_Encode.go a0 (l1.drop k) = some rest ∧ acc.length ≤ 3 * k ∧ Lib.IsBuilder 79 5 w.heap.size w.heap.size (Lib.byteCells (escape_Encode.toU acc)) w' ∧ Below w.heap.size w w'

theorem escape_Encode.EncRel.step_plain {a0 : Int} {l1 : List Int} {w wr : World} {k : Nat} {out acc rest rest1 : List Int} {c : Int} (hout : out = acc ++ rest) (hgo : escape_Encode.go a0 (l1.drop (k + 1)) = some rest1) (hre : escape_Encode.enc1 false c ++ rest1 = rest) (hal : acc.length ≤ 3 * k) (h0 : 0 ≤ c) (h1 : c ≤ 255)
  (hb : Lib.IsBuilder 79 5 w.heap.size w.heap.size (Lib.byteCells (escape_Encode.toU acc) ++ [.int .u8 c]) wr) (hbl : Below w.heap.size w wr) : escape_Encode.EncRel a0 l1 w (k + 1) out wr := by
 refine ⟨acc ++ [c], rest1, ?_, hgo, ?_, ?_, hbl⟩
 ·subst hout hre
  simp [escape_Encode.enc1]
 ·rw [List.length_append, List.length_singleton]; omega
 ·have e : Lib.byteCells (escape_Encode.toU (acc ++ [c])) = Lib.byteCells (escape_Encode.toU acc) ++ [.int .u8 c] := by
   have hc : (((UInt8.ofNat c.toNat).toNat : Nat) : Int) = c := by simp; omega
   simp only [escape_Encode.toU, Lib.byteCells, List.map_append, List.map_cons, List.map_nil, hc]
  rw [e]
  exact hb

def escape_Encode.hxU (n : Int) : UInt8 := UInt8.ofNat (escape_Encode.hxd n).toNat
theorem escape_Encode.dig_slice (w : World) (n : Int) (h0 : 0 ≤ n) (h1 : n < 16) :
  (Instr.slice 9 (.string ⟨#[48, 49, 50, 51, 52, 53, 54, 55, 56, 57, 65, 66, 67, 68, 69, 70]⟩) (some (.int .u8 n)) (some (.int .u8 (n + 1))) none).run Tryz.prog w = .ok (.string ⟨#[escape_Encode.hxU n]⟩) w := by
 rw [run_slice_string (w := w) 9 _ .u8 .u8 n (n + 1) Tryz.underlying9 h0 (by omega) (by show n + 1 ≤ 16; omega)]
 obtain ⟨m, rfl⟩ := Int.eq_ofNat_of_zero_le h0
 have hm : m < 16 := by omega
 have e : ∀ m : Nat, m < 16 → ByteArray.extract ⟨#[48, 49, 50, 51, 52, 53, 54, 55, 56, 57, 65, 66, 67, 68, 69, 70]⟩ (m : Int).toNat ((m : Int) + 1).toNat = ⟨#[escape_Encode.hxU m]⟩ := by decide +kernel
 rw [e m hm]

theorem escape_Encode.three_size (a b : UInt8) : ((⟨#[37]⟩ : ByteArray) ++ ⟨#[a]⟩ ++ ⟨#[b]⟩).size = 3 := by
 simp [ByteArray.size_append]
 rfl
theorem escape_Encode.three_cells (a b : UInt8) : Lib.strCells ((⟨#[37]⟩ : ByteArray) ++ ⟨#[a]⟩ ++ ⟨#[b]⟩) = Lib.byteCells [37, a, b] := by
 simp [Lib.strCells, Lib.byteCells, ByteArray.data_append]
theorem escape_Encode.EncRel.step_esc {a0 : Int} {l1 : List Int} {w wr : World} {k : Nat} {out acc rest rest1 : List Int} {c : Int} (hout : out = acc ++ rest) (hgo : escape_Encode.go a0 (l1.drop (k + 1)) = some rest1) (hre : escape_Encode.enc1 true c ++ rest1 = rest) (hal : acc.length ≤ 3 * k) (h0 : 0 ≤ c) (h1 : c ≤ 255)
  (hb : Lib.IsBuilder 79 5 w.heap.size w.heap.size (Lib.byteCells (escape_Encode.toU acc) ++ Lib.strCells ((⟨#[37]⟩ : ByteArray) ++ ⟨#[escape_Encode.hxU (c / 16)]⟩ ++ ⟨#[escape_Encode.hxU (c % 16)]⟩)) wr) (hbl : Below w.heap.size w wr) : escape_Encode.EncRel a0 l1 w (k + 1) out wr := by
 refine ⟨acc ++ [37, escape_Encode.hxd (c / 16), escape_Encode.hxd (c % 16)], rest1, ?_, hgo, ?_, ?_, hbl⟩
 ·subst hout hre
  simp [escape_Encode.enc1]
 ·rw [List.length_append]; simp; omega
 ·rw [escape_Encode.three_cells] at hb
  have e : Lib.byteCells (escape_Encode.toU (acc ++ [37, escape_Encode.hxd (c / 16), escape_Encode.hxd (c % 16)])) = Lib.byteCells (escape_Encode.toU acc) ++ Lib.byteCells [37, escape_Encode.hxU (c / 16), escape_Encode.hxU (c % 16)] := by
   simp only [escape_Encode.toU, Lib.byteCells, List.map_append, List.map_cons, List.map_nil, escape_Encode.hxU]
   rfl
  rw [e]
  exact hb

set_option maxHeartbeats 2000000 in
set_option maxRecDepth 100000 in
theorem escape_Encode.calls (a0 : Int) (A1 : Option Addr) (c1 : Nat) (l1 : List Int) (r : ByteArray) (w : World) (hr1 : Kd.C (Kd.int .u8) w A1 l1.length l1) (hc1 : l1.length ≤ c1) (h : escape_Encode.f a0 l1 = some r) :
  Calls Tryz.prog 29 #[.int .i64 a0, .slice A1 l1.length c1] w fun e w' => e = .returned (.string r) ∧ Below w.heap.size w w' := by
 unfold escape_Encode.f at h
 by_cases hl : l1.length * 3 ≤ 140737488355328
 ·rw [if_pos hl] at h
  obtain ⟨out, hout, rfl⟩ := Option.map_eq_some_iff.1 h
  clear h
  have hm : l1.length ≤ 9223372036854775807 := by omega
  have HR := Aside0.mk hr1
  have HO := Aside0.mk hout
  clear hr1 hout
  go_enter Tryz.func29, Tryz.ntmps29
  go_wp2
  go_loopw [10] (fun i wr => ∃ k : Nat, k ≤ l1.length ∧ i = .int .i64 k ∧ escape_Encode.EncRel a0 l1 w k out wr) (fun i _ => l1.length - (intOf i).toNat)
  case atStart => exact ⟨0, Nat.zero_le _, rfl, [], out, rfl, HO.out, Nat.zero_le _, Lib.fresh_isBuilder _ _ w, (Below.refl _ _).alloc (Nat.le_refl _) _⟩
  case round =>
   rename_i wr
   obtain ⟨k, hk, rfl, hE⟩ := hrel
   have HE := Aside0.mk hE
   clear hE HO
   by_cases hlt : k < l1.length
   ·obtain ⟨acc, rest, hout, hgo, hal, hbd, hbl⟩ := HE.out
    obtain ⟨ad, hA, hc0⟩ := Kd.at_int (Kd.C_below HR.out hbl) (k : Int) (by omega) (by omega)
    subst hA
    rw [Int.toNat_natCast] at hc0
    obtain ⟨c, hcd⟩ : ∃ c, rd l1 (k : Int) = c := ⟨_, rfl⟩
    rw [hcd] at hc0
    have hdk : l1.drop k = c :: l1.drop (k + 1) := by
     rw [List.drop_eq_getElem_cons hlt]
     unfold rd at hcd
     rw [Int.toNat_natCast, List.getD_eq_getElem?_getD, List.getElem?_eq_getElem hlt] at hcd
     rw [← hcd]; rfl
    rw [hdk] at hgo
    simp only [escape_Encode.go] at hgo
    by_cases hcr : 0 ≤ c ∧ c ≤ 255
    ·rw [if_pos hcr] at hgo
     obtain ⟨b, hb, hgo⟩ := Option.bind_eq_some_iff.1 hgo
     obtain ⟨rest1, hr1, hre⟩ := Option.map_eq_some_iff.1 hgo
     obtain ⟨hc0', hc255⟩ := hcr
     have HBI := Aside0.mk hb
     have HOUT := Aside0.mk hout
     have HGO := Aside0.mk hr1
     have HRE := Aside0.mk hre
     have HBD := Aside0.mk hbd
     have HBL := Aside0.mk hbl
     clear hb hout hr1 hre hgo hdk hcd hbd hbl HE
     cases b
     ·go_wp2_with (go_at_call 43; refine (escape_In.calls 3 a0 c false _ HBI.out).mono ?_; rintro e w2 ⟨rfl, hw2⟩)
      obtain ⟨nd, rfl⟩ := hw2.out
      refine (G.writeByte w.heap.size w.heap.size _ c (wr.drewN nd) HBD.out (by rw [Lib.byteCells_length]; simp only [escape_Encode.toU, List.length_map]; omega) HBL.out.size).mono ?_
      rintro e w3 ⟨rfl, hb3, hbl3⟩
      have HE3 := Aside0.mk (escape_Encode.EncRel.step_plain HOUT.out HGO.out HRE.out hal hc0' hc255 hb3 (Below.trans (pw_below_drewN HBL.out nd) hbl3))
      clear hb3 hbl3 hw2 hgo
      go_wp2
      go_roundw
      case rel => exact ⟨k + 1, by omega, by go_num, HE3.out⟩
      case measure => simp [intOf]; omega
     ·go_wp2_with (go_at_call 43; refine (escape_In.calls 3 a0 c true _ HBI.out).mono ?_; rintro e w2 ⟨rfl, hw2⟩)
      obtain ⟨nd, rfl⟩ := hw2.out
      clear hw2 hgo
      have e1 : IntKind.u8.wrap (c / 16 + 1) = c / 16 + 1 := IntWalk.u8_in _ (by omega)
      have e2 : IntKind.u8.wrap (c % 16 + 1) = c % 16 + 1 := IntWalk.u8_in _ (by omega)
      have a1 := u8_and15 (x := c) hc0' (by omega)
      have s1 := fun wx => escape_Encode.dig_slice wx (c / 16) (by omega) (by omega)
      have s2 := fun wx => escape_Encode.dig_slice wx (c % 16) (by omega) (by omega)
      go_still_tail 14, (by kernel_rfl)
      clear e1 e2 a1 s1 s2
      change wpList _ _ _ _ _ (wr.drewN nd).drew
      go_wp2_with fail
      refine (G.writeString w.heap.size w.heap.size _ _ (wr.drewN nd).drew HBD.out (by rw [Lib.byteCells_length, escape_Encode.three_size]; simp only [escape_Encode.toU, List.length_map]; omega) HBL.out.size).mono ?_
      rintro e w3 ⟨rfl, hb3, hbl3⟩
      have HE3 := Aside0.mk (escape_Encode.EncRel.step_esc HOUT.out HGO.out HRE.out hal hc0' hc255 hb3 (Below.trans (Below.drew (pw_below_drewN HBL.out nd)) hbl3))
      clear hb3 hbl3
      go_wp2
      go_roundw
      case rel => exact ⟨k + 1, by omega, by go_num, HE3.out⟩
      case measure => simp [intOf]; omega
    ·rw [if_neg hcr] at hgo
     exact absurd hgo (by simp)
   ·obtain ⟨acc, rest, hout, hgo, hal, hbd, hbl⟩ := HE.out
    have hd : l1.drop k = [] := List.drop_eq_nil_of_le (by omega)
    rw [hd] at hgo
    obtain rfl := Option.some.inj hgo
    rw [List.append_nil] at hout
    subst hout
    clear hd hgo
    have HBD := Aside0.mk hbd
    have HBL := Aside0.mk hbl
    clear hbd hbl HE
    go_wp2_with (go_at_call 46; refine (Tryz.Builder_String_any w.heap.size w.heap.size (escape_Encode.toU out) wr HBD.out HBL.out.size).mono ?_; rintro e w3 ⟨rfl, hb3⟩)
    go_ret
    exact ⟨rfl, HBL.out.trans hb3⟩
 ·rw [if_neg hl] at h
  exact absurd h (by simp)


/-! ### posix_Segment: function 12 -/
def posix_Segment.f (a0 : ByteArray) : Option (ByteArray) := (strings_ReplaceAll.f a0 (⟨#[37]⟩ : ByteArray) (⟨#[37, 50, 53]⟩ : ByteArray)).bind fun ra => if ra.size ≤ 140737488355328 then (escape_Encode.f 4 (bytesOf ra)).bind fun en => (if en.size ≤ 1000000 then some (strOfNums (Rpl.rep (bytesOf en))) else none) else none
theorem posix_Segment.fresh {R g cap n : Nat} {w w' : World} (h : Rpl.Fresh R g cap w) (hb : Below n w w') (hR : R < n) (hg : g < n) : Rpl.Fresh R g cap w' := by
 obtain ⟨h1, h2, h3, h4, h5, h6⟩ := h
 exact ⟨(hb.block R hR).trans h1, Nat.lt_of_lt_of_le h2 hb.size, (hb.cell (p := ⟨g, 0, none⟩) hg).trans h3, (hb.cell (p := ⟨g, 1, none⟩) hg).trans h4, (hb.cell (p := ⟨g, 2, none⟩) hg).trans h5, (hb.cell (p := ⟨g, 3, none⟩) hg).trans h6⟩
theorem posix_Segment.step {w w1 w2 : World} {o : Obj} (h : Below w.heap.size w w1) (hb : Below (w1.alloc o).heap.size (w1.alloc o) w2) : Below w.heap.size w w2 := (h.alloc h.size o).trans (hb.mono (h.alloc h.size o).size)
theorem posix_Segment.low {w w1 : World} {o : Obj} {R : Nat} (h : Below w.heap.size w w1) (hR : (w1.alloc o).heap.size ≤ R) : w.heap.size ≤ R := Nat.le_trans (h.alloc h.size o).size hR
theorem posix_Segment.lt {R g cap : Nat} {w : World} (h : Rpl.Fresh R g cap w) : R < w.heap.size := (Array.getElem?_eq_some_iff.1 h.1).1
theorem posix_Segment.new1 (W : World) : Calls Tryz.prog 27 #[.slice (some ⟨W.heap.size, 0, none⟩) 4 4] (W.alloc (.cells #[.string ⟨#[92]⟩, .string ⟨#[37, 53, 67]⟩, .string ⟨#[124]⟩, .string ⟨#[37, 55, 67]⟩] 9)) (Rpl.NewPost (W.alloc (.cells #[.string ⟨#[92]⟩, .string ⟨#[37, 53, 67]⟩, .string ⟨#[124]⟩, .string ⟨#[37, 55, 67]⟩] 9))) := Rpl.new_any W.heap.size 4 (W.alloc (.cells #[.string ⟨#[92]⟩, .string ⟨#[37, 53, 67]⟩, .string ⟨#[124]⟩, .string ⟨#[37, 55, 67]⟩] 9)) (by simp) (by simp) (by simp) (by simp)
theorem posix_Segment.enc (s en : ByteArray) (h : escape_Encode.f 4 (bytesOf s) = some en) (hs : s.size ≤ 140737488355328) (W : World) : Calls Tryz.prog 29 #[.int .i64 4, .slice (some ⟨W.heap.size, 0, none⟩) s.size (grownCap W s.size 0 5)] (Lib.bytesWorld W 5 s) fun e w' => e = .returned (.string en) ∧ Below W.heap.size W w' := by
 have hl : (bytesOf s).length = s.size := bytesOf_length s
 have hH := Hld.holds_new W 5 s (grownCap_ge W s.size 0 _)
 have := escape_Encode.calls 4 (some ⟨W.heap.size, 0, none⟩) (grownCap W s.size 0 5) (bytesOf s) en (Lib.bytesWorld W 5 s) (hH.C (by omega)) (by rw [hl]; exact grownCap_ge W s.size 0 _) h
 rw [hl] at this
 have hB := G.bytesWorld_below W 5 s
 exact this.mono fun e w' hh => ⟨hh.1, hB.trans (hh.2.mono hB.size)⟩
set_option maxHeartbeats 4000000 in
set_option maxRecDepth 100000 in
theorem posix_Segment.calls (a0 : ByteArray) (r : ByteArray) (w : World) (h : posix_Segment.f a0 = some r) (hT : G.T w) :
  Calls Tryz.prog 12 #[.string a0] w fun e w' => e = .returned (.string r) ∧ Below w.heap.size w w' := by
 unfold posix_Segment.f at h
 obtain ⟨ra, hra, h⟩ := Option.bind_eq_some_iff.1 h
 split at h
 ·rename_i hz
  obtain ⟨en, hen, h⟩ := Option.bind_eq_some_iff.1 h
  split at h
  ·rename_i hez
   obtain rfl := Option.some.inj h
   have HT := Aside0.mk hT
   have HB := Aside0.mk (Below.refl w.heap.size w)
   have HRA := Aside0.mk (strings_ReplaceAll.calls a0 _ _ ra w hra (G.T_below HT.out (by repeat (first | (with_reducible first | exact HB.out | apply below_alloc | apply pw_below_drewN | apply below_drew1) | exact HB.out))))
   have HNW := Aside0.mk posix_Segment.new1
   have HEN := Aside0.mk (posix_Segment.enc ra en hen hz)
   have HEZ := Aside0.mk hez
   have hconv := fun wx => Lib.run_convert_string_bytes (P := Tryz.prog) wx 9 38 5 ra Tryz.underlying9 Tryz.underlying38 Tryz.underlying5
   clear hra hen hz hez h hT
   go_enter Tryz.func12, Tryz.ntmps12
   go_wp2_with (first
    | (go_at_call 26; (with_reducible refine HRA.out.mono ?_); rintro e w1 ⟨rfl, hb⟩; have HB1 := Aside0.mk hb; clear hb)
    | (go_at_call 27; (with_reducible refine (HNW.out _).mono ?_); rintro e w2 ⟨R, g, cap, rfl, hR, hb, hF⟩; have HF := Aside0.mk hF; have HR := Aside0.mk (posix_Segment.low HB1.out hR); have HB2 := Aside0.mk (posix_Segment.step HB1.out hb); clear hF hb hR)
    | (go_at_call 29; (with_reducible refine (HEN.out _).mono ?_); rintro e w3 ⟨rfl, hb⟩; have HF3 := Aside0.mk (posix_Segment.fresh HF.out hb (posix_Segment.lt HF.out) HF.out.2.1); have HB3 := Aside0.mk (HB2.out.trans (hb.mono HB2.out.size)); clear hb)
    | (go_at_call 28; (with_reducible refine (Rpl.replace_any _ _ _ en w.heap.size _ HF3.out HR.out HB3.out.size HEZ.out).mono ?_); rintro e w4 ⟨rfl, hb⟩; have HB4 := Aside0.mk (HB3.out.trans hb); clear hb))
   go_ret
   exact ⟨rfl, HB4.out⟩
  ·cases h
 ·cases h


end Go.Proofs.YtbbdfamfmkcfhaaGreatDoor.P
