-- Written for this claim by a program of this session's (not a text of the kit's print).
import Derived.Test.YtbbdfamfmkcfhaaGreatDoorPx0
import Derived.Test.YtbbdfamfmkcfhaaGreatDoorPx2
namespace Go.Proofs.YtbbdfamfmkcfhaaGreatDoor.P
open Go.RowKit Go.Proofs.YtbbdfamfmkcfhaaGreatDoorW.PrintWords Go.Proofs.YtbbdfamfmkcfhaaGreatDoorW.PrintLast Go.Proofs.YtbbdfamfmkcfhaaGreatDoorW.PrintMore
attribute [local go_sem] max2_int min2_int max_two min_two max_three min_three max_four min_four   -- for this text's walks alone
set_option linter.unusedVariables false
set_option linter.unusedSimpArgs false

/-! ### url_Bare: function 35 -/
def url_Bare.j0 : Nat → ByteArray → Bool → ByteArray → ByteArray → ByteArray → ByteArray → Bool → Int → Bool → ByteArray → List ByteArray → Bool → Bool → ByteArray → ByteArray → Option (ByteArray)
 | 0, _, _, _, _, _, _, _, _, _, _, _, _, _, _, _ => none
 | k + 1, x3, x30, x126000, x126001, x126002, x126003, x126004, x126005, x126006, x126007, x126008, x126009, x126010, x126011, x126012 => if x30 = true then (if x3.size + 2 ≤ 9223372036854775807 then ((url_Path.f x126000 x126001 x126002 x126003 x126004 x126005 x126006 x126007 x126008 x126009 x126010 x126011 x126012).bind fun t128 => (if (x3 ++ (⟨#[47, 46]⟩ : ByteArray)).size + t128.size ≤ 9223372036854775807 then (if x126009 = true then (if 1 + x126011.size ≤ 9223372036854775807 then (if ((x3 ++ (⟨#[47, 46]⟩ : ByteArray)) ++ t128).size + ((⟨#[63]⟩ : ByteArray) ++ x126011).size ≤ 9223372036854775807 then (some (((x3 ++ (⟨#[47, 46]⟩ : ByteArray)) ++ t128) ++ ((⟨#[63]⟩ : ByteArray) ++ x126011))) else (none)) else (none)) else (some ((x3 ++ (⟨#[47, 46]⟩ : ByteArray)) ++ t128))) else (none))) else (none)) else ((url_Path.f x126000 x126001 x126002 x126003 x126004 x126005 x126006 x126007 x126008 x126009 x126010 x126011 x126012).bind fun t129 => (if x3.size + t129.size ≤ 9223372036854775807 then (if x126009 = true then (if 1 + x126011.size ≤ 9223372036854775807 then (if (x3 ++ t129).size + ((⟨#[63]⟩ : ByteArray) ++ x126011).size ≤ 9223372036854775807 then (some ((x3 ++ t129) ++ ((⟨#[63]⟩ : ByteArray) ++ x126011))) else (none)) else (none)) else (some (x3 ++ t129))) else (none)))
def url_Bare.f (k : Nat) (a0_0 : ByteArray) (a0_1 : ByteArray) (a0_2 : ByteArray) (a0_3 : ByteArray) (a0_4 : Bool) (a0_5 : Int) (a0_6 : Bool) (a0_7 : ByteArray) (l0_8 : List ByteArray) (a0_9 : Bool) (a0_10 : Bool) (a0_11 : ByteArray) (a0_12 : ByteArray) : Option (ByteArray) := if a0_0.size + 1 ≤ 9223372036854775807 then ((url_authority.f a0_0 a0_1 a0_2 a0_3 a0_4 a0_5 a0_6 a0_7 l0_8 a0_9 a0_10 a0_11 a0_12).bind fun t126 => (if (a0_0 ++ (⟨#[58]⟩ : ByteArray)).size + t126.size ≤ 9223372036854775807 then (if a0_4 = true then (url_Bare.j0 k ((a0_0 ++ (⟨#[58]⟩ : ByteArray)) ++ t126) false a0_0 a0_1 a0_2 a0_3 a0_4 a0_5 a0_6 a0_7 l0_8 a0_9 a0_10 a0_11 a0_12) else (if a0_6 = true then (url_Bare.j0 k ((a0_0 ++ (⟨#[58]⟩ : ByteArray)) ++ t126) false a0_0 a0_1 a0_2 a0_3 a0_4 a0_5 a0_6 a0_7 l0_8 a0_9 a0_10 a0_11 a0_12) else (if (l0_8.length : Int) > 1 then (if 0 < (l0_8.length : Int) then (url_Bare.j0 k ((a0_0 ++ (⟨#[58]⟩ : ByteArray)) ++ t126) ((rdOf ByteArray.empty l0_8 0).toList == ([] : List UInt8)) a0_0 a0_1 a0_2 a0_3 a0_4 a0_5 a0_6 a0_7 l0_8 a0_9 a0_10 a0_11 a0_12) else (none)) else (url_Bare.j0 k ((a0_0 ++ (⟨#[58]⟩ : ByteArray)) ++ t126) false a0_0 a0_1 a0_2 a0_3 a0_4 a0_5 a0_6 a0_7 l0_8 a0_9 a0_10 a0_11 a0_12)))) else (none))) else (none)
theorem url_Bare.mono_l : ∀ k, (∀ y0 y1 y2 y3 y4 y5 y6 y7 y8 y9 y10 y11 y12 y13 y14, LeO (url_Bare.j0 k y0 y1 y2 y3 y4 y5 y6 y7 y8 y9 y10 y11 y12 y13 y14) (url_Bare.j0 (k + 1) y0 y1 y2 y3 y4 y5 y6 y7 y8 y9 y10 y11 y12 y13 y14))
 | 0 => fun _ _ _ _ _ _ _ _ _ _ _ _ _ _ _ r h => by simp [url_Bare.j0] at h
 | k + 1 => by
  have ih0 := url_Bare.mono_l k
  ·intro y0 y1 y2 y3 y4 y5 y6 y7 y8 y9 y10 y11 y12 y13 y14
   unfold url_Bare.j0
   repeat' first
   | (with_reducible exact ih0 _ _ _ _ _ _ _ _ _ _ _ _ _ _ _)
   | (with_reducible exact LeO.refl _)
   | (with_reducible exact LeO.none _)
   | (with_reducible refine LeO.ite ?_ ?_)
   | (with_reducible refine LeO.bind ?_ (fun _ => ?_))
   | exact ih0 _ _ _ _ _ _ _ _ _ _ _ _ _ _ _
   | exact LeO.none _
   | refine LeO.ite ?_ ?_
   | refine LeO.bind ?_ (fun _ => ?_)
theorem url_Bare.mono : ∀ a0 a1 a2 a3 a4 a5 a6 a7 a8 a9 a10 a11 a12 k, LeO (url_Bare.f k a0 a1 a2 a3 a4 a5 a6 a7 a8 a9 a10 a11 a12) (url_Bare.f (k + 1) a0 a1 a2 a3 a4 a5 a6 a7 a8 a9 a10 a11 a12) := by
 intro a0 a1 a2 a3 a4 a5 a6 a7 a8 a9 a10 a11 a12 k
 have ih0 := url_Bare.mono_l k
 unfold url_Bare.f
 repeat' first
   | (with_reducible exact ih0 _ _ _ _ _ _ _ _ _ _ _ _ _ _ _)
   | (with_reducible exact LeO.refl _)
   | (with_reducible exact LeO.none _)
   | (with_reducible refine LeO.ite ?_ ?_)
   | (with_reducible refine LeO.bind ?_ (fun _ => ?_))
   | exact ih0 _ _ _ _ _ _ _ _ _ _ _ _ _ _ _
   | exact LeO.none _
   | refine LeO.ite ?_ ?_
   | refine LeO.bind ?_ (fun _ => ?_)
set_option maxHeartbeats 8000000 in
set_option maxRecDepth 100000 in
theorem url_Bare.calls (k : Nat) (a0_0 : ByteArray) (a0_1 : ByteArray) (a0_2 : ByteArray) (a0_3 : ByteArray) (a0_4 : Bool) (a0_5 : Int) (a0_6 : Bool) (a0_7 : ByteArray) (A0_8 : Option Addr) (c0_8 : Nat) (l0_8 : List ByteArray) (a0_9 : Bool) (a0_10 : Bool) (a0_11 : ByteArray) (a0_12 : ByteArray) (r : ByteArray) (w : World) (hr0_8 : Kd.C Kd.string w A0_8 l0_8.length l0_8) (hc0_8 : l0_8.length ≤ c0_8) (h : url_Bare.f k a0_0 a0_1 a0_2 a0_3 a0_4 a0_5 a0_6 a0_7 l0_8 a0_9 a0_10 a0_11 a0_12 = some r) (HF4 : a0_4 = true) (HF9 : a0_9 = false) :
  Calls Tryz.prog 35 #[.agg #[.string a0_0, .string a0_1, .string a0_2, .string a0_3, .bool a0_4, .int .i64 a0_5, .bool a0_6, .string a0_7, .slice A0_8 l0_8.length c0_8, .bool a0_9, .bool a0_10, .string a0_11, .string a0_12]] w fun e w' => e = .returned (.string r) ∧ Below w.heap.size w w' := by
 have HQ4 := Aside0.mk HF4
 have HQ9 := Aside0.mk HF9
 clear HF4 HF9
 have hu25 := Tryz.underlying25
 have HR0_8 := Aside0.mk hr0_8
 have HC0_8 := Aside0.mk hc0_8
 clear hr0_8 hc0_8
 have HB := Aside0.mk (Below.refl w.heap.size w)
 have H : (if a0_0.size + 1 ≤ 9223372036854775807 then ((url_authority.f a0_0 a0_1 a0_2 a0_3 a0_4 a0_5 a0_6 a0_7 l0_8 a0_9 a0_10 a0_11 a0_12).bind fun t126 => (if (a0_0 ++ (⟨#[58]⟩ : ByteArray)).size + t126.size ≤ 9223372036854775807 then (if a0_4 = true then (url_Bare.j0 k ((a0_0 ++ (⟨#[58]⟩ : ByteArray)) ++ t126) false a0_0 a0_1 a0_2 a0_3 a0_4 a0_5 a0_6 a0_7 l0_8 a0_9 a0_10 a0_11 a0_12) else (if a0_6 = true then (url_Bare.j0 k ((a0_0 ++ (⟨#[58]⟩ : ByteArray)) ++ t126) false a0_0 a0_1 a0_2 a0_3 a0_4 a0_5 a0_6 a0_7 l0_8 a0_9 a0_10 a0_11 a0_12) else (if (l0_8.length : Int) > 1 then (if 0 < (l0_8.length : Int) then (url_Bare.j0 k ((a0_0 ++ (⟨#[58]⟩ : ByteArray)) ++ t126) ((rdOf ByteArray.empty l0_8 0).toList == ([] : List UInt8)) a0_0 a0_1 a0_2 a0_3 a0_4 a0_5 a0_6 a0_7 l0_8 a0_9 a0_10 a0_11 a0_12) else (none)) else (url_Bare.j0 k ((a0_0 ++ (⟨#[58]⟩ : ByteArray)) ++ t126) false a0_0 a0_1 a0_2 a0_3 a0_4 a0_5 a0_6 a0_7 l0_8 a0_9 a0_10 a0_11 a0_12)))) else (none))) else (none)) = some r := h
 clear h
 by_cases c2 : a0_0.size + 1 ≤ 9223372036854775807
 ·rw [if_pos c2] at H
  have c2b0 := eq_true c2
  have c2b1 : decide (a0_0.size + 1 ≤ 9223372036854775807) = true := decide_eq_true c2
  try have c2b2 : (9223372036854775807 < a0_0.size + 1) = False := eq_false (Nat.not_lt.2 c2)
  replace H := Option.bind_eq_some_iff.mp H
  obtain ⟨t126, A30, H⟩ := H
  replace H : (if (a0_0 ++ (⟨#[58]⟩ : ByteArray)).size + t126.size ≤ 9223372036854775807 then (if a0_4 = true then (url_Bare.j0 k ((a0_0 ++ (⟨#[58]⟩ : ByteArray)) ++ t126) false a0_0 a0_1 a0_2 a0_3 a0_4 a0_5 a0_6 a0_7 l0_8 a0_9 a0_10 a0_11 a0_12) else (if a0_6 = true then (url_Bare.j0 k ((a0_0 ++ (⟨#[58]⟩ : ByteArray)) ++ t126) false a0_0 a0_1 a0_2 a0_3 a0_4 a0_5 a0_6 a0_7 l0_8 a0_9 a0_10 a0_11 a0_12) else (if (l0_8.length : Int) > 1 then (if 0 < (l0_8.length : Int) then (url_Bare.j0 k ((a0_0 ++ (⟨#[58]⟩ : ByteArray)) ++ t126) ((rdOf ByteArray.empty l0_8 0).toList == ([] : List UInt8)) a0_0 a0_1 a0_2 a0_3 a0_4 a0_5 a0_6 a0_7 l0_8 a0_9 a0_10 a0_11 a0_12) else (none)) else (url_Bare.j0 k ((a0_0 ++ (⟨#[58]⟩ : ByteArray)) ++ t126) false a0_0 a0_1 a0_2 a0_3 a0_4 a0_5 a0_6 a0_7 l0_8 a0_9 a0_10 a0_11 a0_12)))) else (none)) = some r := H
  have A3 := Aside0.mk A30
  clear A30
  by_cases c4 : (a0_0 ++ (⟨#[58]⟩ : ByteArray)).size + t126.size ≤ 9223372036854775807
  ·rw [if_pos c4] at H
   have c4b0 := eq_true c4
   have c4b1 : decide ((a0_0 ++ (⟨#[58]⟩ : ByteArray)).size + t126.size ≤ 9223372036854775807) = true := decide_eq_true c4
   try have c4b2 : (9223372036854775807 < (a0_0 ++ (⟨#[58]⟩ : ByteArray)).size + t126.size) = False := eq_false (Nat.not_lt.2 c4)
   try (have c4b3 := c4b2; simp only [ByteArray.size_append, G.ba_size, List.size_toArray, List.length_cons, List.length_nil, Nat.zero_add, Nat.reduceAdd] at c4b3)
   have HC5 := Aside0.mk H
   clear H
   go_enter Tryz.func35, Tryz.ntmps35
   try go_wp2_with (first | ((with_reducible refine gate_dst (N := 1) rfl ?_); (try (refine gate_guard (by rfl) ?_; dsimp only)); refine box_event ?hg (N := 1) ?hd (cs := #[.string a0_0, .string a0_1, .string a0_2, .string a0_3, .bool a0_4, .int .i64 a0_5, .bool a0_6, .string a0_7, .slice A0_8 l0_8.length c0_8, .bool a0_9, .bool a0_10, .string a0_11, .string a0_12]) (t := 25) ?hr ?_; (case hd => rfl); (case hg => rfl); (case hr => first | (go_simp; done) | (go_simp; rfl)); intro gb125 hg w6 hbox hb; have n0_ := Aside0.mk (below_step (by repeat (first | (with_reducible first | exact HB.out | apply below_alloc | apply pw_below_drewN | apply below_drew1) | exact HB.out)) hb); have n1_ := Aside0.mk (hbox); have n2_ := Aside0.mk ((by rw [hg]; exact (below_size (by repeat (first | (with_reducible first | exact HB.out | apply below_alloc | apply pw_below_drewN | apply below_drew1) | exact HB.out))) : w.heap.size ≤ gb125)); have n3_ := Aside0.mk ((by rw [hg]; exact (below_size (by repeat (first | (with_reducible first | exact HB.out | apply below_alloc | apply pw_below_drewN | apply below_drew1) | exact HB.out))) : w.heap.size ≤ gb125)); clear HB; have HB := n0_; have BK125 := n1_; have GW125 := n2_; have GE125 := n3_; clear n0_ n1_ n2_ n3_; clear hb hbox hg))
   have n0_ := Aside0.mk (blk_drew BK125.out)
   have n1_ := Aside0.mk (below_drew1 HB.out)
   clear BK125
   clear HB
   have BK125 := n0_
   have HB := n1_
   clear n0_ n1_
   refine start_ (n := 7) (S := fun w' => w'.cell? ⟨gb125, 0, none⟩ = some (.string a0_0) ∧ w'.cell? ⟨gb125, 1, none⟩ = some (.string a0_1) ∧ w'.cell? ⟨gb125, 2, none⟩ = some (.string a0_2) ∧ w'.cell? ⟨gb125, 3, none⟩ = some (.string a0_3) ∧ w'.cell? ⟨gb125, 4, none⟩ = some (.bool a0_4) ∧ w'.cell? ⟨gb125, 5, none⟩ = some (.int .i64 a0_5) ∧ w'.cell? ⟨gb125, 6, none⟩ = some (.bool a0_6) ∧ w'.cell? ⟨gb125, 7, none⟩ = some (.string a0_7) ∧ w'.cell? ⟨gb125, 8, none⟩ = some (.slice A0_8 l0_8.length c0_8) ∧ w'.cell? ⟨gb125, 9, none⟩ = some (.bool a0_9) ∧ w'.cell? ⟨gb125, 10, none⟩ = some (.bool a0_10) ∧ w'.cell? ⟨gb125, 11, none⟩ = some (.string a0_11) ∧ w'.cell? ⟨gb125, 12, none⟩ = some (.string a0_12)) (ds := []) #[false, false, false, false, false, false, false] (by kernel_rfl) rfl rfl ⟨(blk_cell BK125.out 0).trans rfl, (blk_cell BK125.out 1).trans rfl, (blk_cell BK125.out 2).trans rfl, (blk_cell BK125.out 3).trans rfl, (blk_cell BK125.out 4).trans rfl, (blk_cell BK125.out 5).trans rfl, (blk_cell BK125.out 6).trans rfl, (blk_cell BK125.out 7).trans rfl, (blk_cell BK125.out 8).trans rfl, (blk_cell BK125.out 9).trans rfl, (blk_cell BK125.out 10).trans rfl, (blk_cell BK125.out 11).trans rfl, (blk_cell BK125.out 12).trans rfl⟩ (fun hHeld => ?_)
   generalize w6.drew = w7 at BK125 HB hHeld ⊢
   refine pure_ (i := 0) (N := some 4) (v := ?_) (a' := ?_) #[true, false, false, false, false, false, false] rfl rfl (by kernel_rfl) (fun _ _ _ h => h) (Or.inl ⟨by rfl, ?_⟩) ?_ ?_
   rotate_left
   ·intro w'
    go_simp
    first | (with_reducible rfl) | (split; (exfalso; omega); with_reducible rfl) | (split; (exfalso; (simp [ByteArray.size_append, Go.strOfNums_size, G.ba_size] at *); omega); with_reducible rfl)
   rotate_left
   ·simp only [Act.put, List.setIfInBounds_toArray, List.set_cons_zero, List.set_cons_succ, i64_w, i32_w, G.u8_w, G.u32_w]
    rfl
   refine take_ (i := 1) (N := some 5) (v := ?_) (a' := ?_) #[true, true, false, false, false, false, false] rfl rfl (by kernel_rfl) (fun _ _ _ h => h) (Or.inl ⟨by rfl, ?_⟩) hHeld ?_ ?_
   rotate_left
   ·rintro w' ⟨s0, s1, s2, s3, s4, s5, s6, s7, s8, s9, s10, s11, s12⟩
    go_simp
    first | (with_reducible rfl) | (split; (exfalso; omega); with_reducible rfl) | (split; (exfalso; (simp [ByteArray.size_append, Go.strOfNums_size, G.ba_size] at *); omega); with_reducible rfl)
   rotate_left
   ·simp only [Act.put, List.setIfInBounds_toArray, List.set_cons_zero, List.set_cons_succ, i64_w, i32_w, G.u8_w, G.u32_w]
    rfl
   refine pure_ (i := 2) (N := some 6) (v := ?_) (a' := ?_) #[true, true, true, false, false, false, false] rfl rfl (by kernel_rfl) (fun _ _ _ h => h) (Or.inl ⟨by rfl, ?_⟩) ?_ ?_
   rotate_left
   ·intro w'
    go_simp
    first | (with_reducible rfl) | (split; (exfalso; omega); with_reducible rfl) | (split; (exfalso; (simp [ByteArray.size_append, Go.strOfNums_size, G.ba_size] at *); omega); with_reducible rfl)
   rotate_left
   ·simp only [Act.put, List.setIfInBounds_toArray, List.set_cons_zero, List.set_cons_succ, i64_w, i32_w, G.u8_w, G.u32_w]
    rfl
   refine take_ (i := 3) (N := some 7) (v := ?_) (a' := ?_) #[true, true, true, true, false, false, false] rfl rfl (by kernel_rfl) (fun _ _ _ h => h) (Or.inl ⟨by rfl, ?_⟩) hHeld ?_ ?_
   rotate_left
   ·rintro w' ⟨s0, s1, s2, s3, s4, s5, s6, s7, s8, s9, s10, s11, s12⟩
    go_simp
    first | (with_reducible rfl) | (split; (exfalso; omega); with_reducible rfl) | (split; (exfalso; (simp [ByteArray.size_append, Go.strOfNums_size, G.ba_size] at *); omega); with_reducible rfl)
   rotate_left
   ·simp only [Act.put, List.setIfInBounds_toArray, List.set_cons_zero, List.set_cons_succ, i64_w, i32_w, G.u8_w, G.u32_w]
    rfl
   refine one_ (i := 4) (N := some 8) #[true, true, true, true, true, false, false] rfl rfl (by kernel_rfl) (by decide) (fun K hK => ?_)
   refine goes_ Tryz.func51 (by kernel_rfl) rfl #[.agg #[.string a0_0, .string a0_1, .string a0_2, .string a0_3, .bool a0_4, .int .i64 a0_5, .bool a0_6, .string a0_7, .slice A0_8 l0_8.length c0_8, .bool a0_9, .bool a0_10, .string a0_11, .string a0_12]] (by rfl) rfl rfl (by (try simp only [List.map_toArray, List.map_cons, List.map_nil]); first | done | rfl | (simp only [List.length_drop, List.length_take]; rfl)) ?_
   with_reducible refine (url_authority.calls a0_0 a0_1 a0_2 a0_3 a0_4 a0_5 a0_6 a0_7 _ _ l0_8 a0_9 a0_10 a0_11 a0_12 t126 _ ?side1 ?side2 A3.out).mono ?_
   (case side1 => repeat (first | exact (Kd.C_below HR0_8.out HB.out) | (with_reducible refine Kd.C_alloc ?_ _) | (with_reducible refine Kd.C_drewN ?_ _) | (with_reducible refine Kd.C_drew ?_)))
   (case side2 => exact HC0_8.out)
   rintro e w8 ⟨rfl, hb⟩
   refine ⟨_, rfl, ?_⟩
   have n0_ := Aside0.mk (blk_below (g := gb125) (o := .cells #[.string a0_0, .string a0_1, .string a0_2, .string a0_3, .bool a0_4, .int .i64 a0_5, .bool a0_6, .string a0_7, .slice A0_8 l0_8.length c0_8, .bool a0_9, .bool a0_10, .string a0_11, .string a0_12] 25 (0, 0)) (by (with_reducible repeat (first | refine blk_drewN ?_ _ | refine blk_drew ?_ | refine blk_alloc ?_ _)); exact BK125.out) hb)
   have n1_ := Aside0.mk (below_step (by repeat (first | (with_reducible first | exact HB.out | apply below_alloc | apply pw_below_drewN | apply below_drew1 | refine below_set ?_ GE125.out) | exact HB.out)) hb)
   clear BK125
   clear HB
   have BK125 := n0_
   have HB := n1_
   clear n0_ n1_
   (try clear hb)
   (try clear hb2)
   (try clear hk)
   (try clear hi)
   refine hK.out _ _ ⟨(blk_cell BK125.out 0).trans rfl, (blk_cell BK125.out 1).trans rfl, (blk_cell BK125.out 2).trans rfl, (blk_cell BK125.out 3).trans rfl, (blk_cell BK125.out 4).trans rfl, (blk_cell BK125.out 5).trans rfl, (blk_cell BK125.out 6).trans rfl, (blk_cell BK125.out 7).trans rfl, (blk_cell BK125.out 8).trans rfl, (blk_cell BK125.out 9).trans rfl, (blk_cell BK125.out 10).trans rfl, (blk_cell BK125.out 11).trans rfl, (blk_cell BK125.out 12).trans rfl⟩ (fun hHeld => ?_)
   clear hK K
   refine norm_ (a' := ?_) ?_ ?_
   rotate_left
   ·show Act.put _ (some 8) _ = _
    simp only [Act.put, List.setIfInBounds_toArray, List.set_cons_zero, List.set_cons_succ, i64_w, i32_w, G.u8_w, G.u32_w]
    rfl
   refine pure_ (i := 5) (N := some 9) (v := ?_) (a' := ?_) #[true, true, true, true, true, true, false] rfl rfl (by kernel_rfl) (fun _ _ _ h => h) (Or.inl ⟨by rfl, ?_⟩) ?_ ?_
   rotate_left
   ·intro w'
    go_simp
    first | (with_reducible rfl) | (split; (exfalso; omega); with_reducible rfl) | (split; (exfalso; (simp [ByteArray.size_append, Go.strOfNums_size, G.ba_size] at *); omega); with_reducible rfl)
   rotate_left
   ·simp only [Act.put, List.setIfInBounds_toArray, List.set_cons_zero, List.set_cons_succ, i64_w, i32_w, G.u8_w, G.u32_w]
    rfl
   refine pure_ (i := 6) (N := some 3) (v := ?_) (a' := ?_) #[true, true, true, true, true, true, true] rfl rfl (by kernel_rfl) (fun _ _ _ h => h) (Or.inl ⟨by rfl, ?_⟩) ?_ ?_
   rotate_left
   ·intro w'
    go_simp
    first | (with_reducible rfl) | (split; (exfalso; omega); with_reducible rfl) | (split; (exfalso; (simp [ByteArray.size_append, Go.strOfNums_size, G.ba_size] at *); omega); with_reducible rfl)
   rotate_left
   ·simp only [Act.put, List.setIfInBounds_toArray, List.set_cons_zero, List.set_cons_succ, i64_w, i32_w, G.u8_w, G.u32_w]
    rfl
   refine done_ (by kernel_rfl) ?_
   go_upto_region 2 with (fail)
   go_cut [30] (fun v30 wc => ∃ (kq : Nat) (x30_4 : Bool), v30 = .bool x30_4 ∧ Aside0 (x30_4 = false) ∧ Aside0 (url_Bare.j0 kq ((a0_0 ++ (⟨#[58]⟩ : ByteArray)) ++ t126) x30_4 a0_0 a0_1 a0_2 a0_3 a0_4 a0_5 a0_6 a0_7 l0_8 a0_9 a0_10 a0_11 a0_12 = some r) ∧ Aside0 (kq ≤ k) ∧ Aside0 (wc.heap[gb125]? = some (.cells #[.string a0_0, .string a0_1, .string a0_2, .string a0_3, .bool a0_4, .int .i64 a0_5, .bool a0_6, .string a0_7, (.slice A0_8 l0_8.length c0_8), .bool a0_9, .bool a0_10, .string a0_11, .string a0_12] 25 (0, 0))) ∧ Aside0 (Below w.heap.size w wc))
   case first =>
    have H := HC5.out
    clear HC5
    by_cases c9 : a0_4 = true
    ·subst c9
     have H1 : (url_Bare.j0 k ((a0_0 ++ (⟨#[58]⟩ : ByteArray)) ++ t126) false a0_0 a0_1 a0_2 a0_3 true a0_5 a0_6 a0_7 l0_8 a0_9 a0_10 a0_11 a0_12) = some r := by rw [if_pos rfl] at H; exact H
     clear H
     have H := H1
     clear H1
     have H' := Aside0.mk H
     clear H
     have hcz10_0 : w8.cell? ⟨gb125, 0, none⟩ = some (.string a0_0) := (blk_cell BK125.out 0).trans rfl
     have hcz10_1 : w8.cell? ⟨gb125, 1, none⟩ = some (.string a0_1) := (blk_cell BK125.out 1).trans rfl
     have hcz10_2 : w8.cell? ⟨gb125, 2, none⟩ = some (.string a0_2) := (blk_cell BK125.out 2).trans rfl
     have hcz10_3 : w8.cell? ⟨gb125, 3, none⟩ = some (.string a0_3) := (blk_cell BK125.out 3).trans rfl
     have hcz10_4 : w8.cell? ⟨gb125, 4, none⟩ = some (.bool true) := (blk_cell BK125.out 4).trans rfl
     have hcz10_5 : w8.cell? ⟨gb125, 5, none⟩ = some (.int .i64 a0_5) := (blk_cell BK125.out 5).trans rfl
     have hcz10_6 : w8.cell? ⟨gb125, 6, none⟩ = some (.bool a0_6) := (blk_cell BK125.out 6).trans rfl
     have hcz10_7 : w8.cell? ⟨gb125, 7, none⟩ = some (.string a0_7) := (blk_cell BK125.out 7).trans rfl
     have hcz10_8 : w8.cell? ⟨gb125, 8, none⟩ = some (.slice A0_8 l0_8.length c0_8) := (blk_cell BK125.out 8).trans rfl
     have hcz10_9 : w8.cell? ⟨gb125, 9, none⟩ = some (.bool a0_9) := (blk_cell BK125.out 9).trans rfl
     have hcz10_10 : w8.cell? ⟨gb125, 10, none⟩ = some (.bool a0_10) := (blk_cell BK125.out 10).trans rfl
     have hcz10_11 : w8.cell? ⟨gb125, 11, none⟩ = some (.string a0_11) := (blk_cell BK125.out 11).trans rfl
     have hcz10_12 : w8.cell? ⟨gb125, 12, none⟩ = some (.string a0_12) := (blk_cell BK125.out 12).trans rfl
     have hfz10_0 := blk_frozen BK125.out 0
     have hfz10_1 := blk_frozen BK125.out 1
     have hfz10_2 := blk_frozen BK125.out 2
     have hfz10_3 := blk_frozen BK125.out 3
     have hfz10_4 := blk_frozen BK125.out 4
     have hfz10_5 := blk_frozen BK125.out 5
     have hfz10_6 := blk_frozen BK125.out 6
     have hfz10_7 := blk_frozen BK125.out 7
     have hfz10_8 := blk_frozen BK125.out 8
     have hfz10_9 := blk_frozen BK125.out 9
     have hfz10_10 := blk_frozen BK125.out 10
     have hfz10_11 := blk_frozen BK125.out 11
     have hfz10_12 := blk_frozen BK125.out 12
     go_wp2
     go_meet
     case rel => exact ⟨_, (false), (by first | rfl | (simp; done) | (simp [*]; done) | (simp [G.isEmpty_ne]; done)), ⟨rfl⟩, H', ⟨by first | omega | exact Nat.le_refl _⟩, ⟨by (with_reducible repeat (first | refine blk_drewN ?_ _ | refine blk_drew ?_ | refine blk_alloc ?_ _)); exact BK125.out⟩, ⟨by repeat (first | (with_reducible first | exact HB.out | apply below_alloc | apply pw_below_drewN | apply below_drew1 | refine below_set ?_ GE125.out) | exact HB.out)⟩⟩
    ·exact absurd HQ4.out c9
   case rest =>
    clear HC5
    try clear c1
    try clear p1
    try clear q1
    try clear hx1
    try clear qi1
    try clear c2
    try clear c2b0
    try clear c2b1
    try clear c2b2
    try clear p2
    try clear c3
    try clear c4
    try clear c4b0
    try clear c4b1
    try clear c4b2
    try clear c5
    try clear c9
    try clear c11
    try clear p12
    try clear q12
    try clear hx12
    try clear qi12
    try clear c13
    try clear c13b0
    try clear c13b1
    try clear c14
    try clear c14b0
    try clear c14b1
    try clear hcz10_0
    try clear hcz10_1
    try clear hcz10_10
    try clear hcz10_11
    try clear hcz10_12
    try clear hcz10_2
    try clear hcz10_3
    try clear hcz10_4
    try clear hcz10_5
    try clear hcz10_6
    try clear hcz10_7
    try clear hcz10_8
    try clear hcz10_9
    try clear hcz12_0
    try clear hcz12_1
    try clear hcz12_10
    try clear hcz12_11
    try clear hcz12_12
    try clear hcz12_2
    try clear hcz12_3
    try clear hcz12_4
    try clear hcz12_5
    try clear hcz12_6
    try clear hcz12_7
    try clear hcz12_8
    try clear hcz12_9
    try clear hcz15_0
    try clear hcz15_1
    try clear hcz15_10
    try clear hcz15_11
    try clear hcz15_12
    try clear hcz15_2
    try clear hcz15_3
    try clear hcz15_4
    try clear hcz15_5
    try clear hcz15_6
    try clear hcz15_7
    try clear hcz15_8
    try clear hcz15_9
    try clear hcz16_0
    try clear hcz16_1
    try clear hcz16_10
    try clear hcz16_11
    try clear hcz16_12
    try clear hcz16_2
    try clear hcz16_3
    try clear hcz16_4
    try clear hcz16_5
    try clear hcz16_6
    try clear hcz16_7
    try clear hcz16_8
    try clear hcz16_9
    try clear hfz10_0
    try clear hfz10_1
    try clear hfz10_10
    try clear hfz10_11
    try clear hfz10_12
    try clear hfz10_2
    try clear hfz10_3
    try clear hfz10_4
    try clear hfz10_5
    try clear hfz10_6
    try clear hfz10_7
    try clear hfz10_8
    try clear hfz10_9
    try clear hfz12_0
    try clear hfz12_1
    try clear hfz12_10
    try clear hfz12_11
    try clear hfz12_12
    try clear hfz12_2
    try clear hfz12_3
    try clear hfz12_4
    try clear hfz12_5
    try clear hfz12_6
    try clear hfz12_7
    try clear hfz12_8
    try clear hfz12_9
    try clear hfz15_0
    try clear hfz15_1
    try clear hfz15_10
    try clear hfz15_11
    try clear hfz15_12
    try clear hfz15_2
    try clear hfz15_3
    try clear hfz15_4
    try clear hfz15_5
    try clear hfz15_6
    try clear hfz15_7
    try clear hfz15_8
    try clear hfz15_9
    try clear hfz16_0
    try clear hfz16_1
    try clear hfz16_10
    try clear hfz16_11
    try clear hfz16_12
    try clear hfz16_2
    try clear hfz16_3
    try clear hfz16_4
    try clear hfz16_5
    try clear hfz16_6
    try clear hfz16_7
    try clear hfz16_8
    try clear hfz16_9
    try clear hx127_0
    try clear p127
    try clear q127
    obtain ⟨kq, x30_4, rfl, HX30, HA, HJ4, BK125, HB⟩ := hcut
    cases kq with
    | zero => exact absurd HA.out (by simp [url_Bare.j0])
    | succ kj4 =>
     have H := HA.out
     clear HA
     simp only [url_Bare.j0] at H
     by_cases c17 : x30_4 = true
     ·exact absurd (c17.symm.trans HX30.out) (by decide)
     ·replace c17 := Bool.eq_false_iff.mpr c17
      subst c17
      have H1 : ((url_Path.f a0_0 a0_1 a0_2 a0_3 a0_4 a0_5 a0_6 a0_7 l0_8 a0_9 a0_10 a0_11 a0_12).bind fun t129 => (if ((a0_0 ++ (⟨#[58]⟩ : ByteArray)) ++ t126).size + t129.size ≤ 9223372036854775807 then (if a0_9 = true then (if 1 + a0_11.size ≤ 9223372036854775807 then (if (((a0_0 ++ (⟨#[58]⟩ : ByteArray)) ++ t126) ++ t129).size + ((⟨#[63]⟩ : ByteArray) ++ a0_11).size ≤ 9223372036854775807 then (some ((((a0_0 ++ (⟨#[58]⟩ : ByteArray)) ++ t126) ++ t129) ++ ((⟨#[63]⟩ : ByteArray) ++ a0_11))) else (none)) else (none)) else (some (((a0_0 ++ (⟨#[58]⟩ : ByteArray)) ++ t126) ++ t129))) else (none))) = some r := by rw [if_neg (show ¬ (false = true) by decide)] at H; exact H
      clear H
      have H := H1
      clear H1
      replace H := Option.bind_eq_some_iff.mp H
      obtain ⟨t129, A300, H⟩ := H
      replace H : (if ((a0_0 ++ (⟨#[58]⟩ : ByteArray)) ++ t126).size + t129.size ≤ 9223372036854775807 then (if a0_9 = true then (if 1 + a0_11.size ≤ 9223372036854775807 then (if (((a0_0 ++ (⟨#[58]⟩ : ByteArray)) ++ t126) ++ t129).size + ((⟨#[63]⟩ : ByteArray) ++ a0_11).size ≤ 9223372036854775807 then (some ((((a0_0 ++ (⟨#[58]⟩ : ByteArray)) ++ t126) ++ t129) ++ ((⟨#[63]⟩ : ByteArray) ++ a0_11))) else (none)) else (none)) else (some (((a0_0 ++ (⟨#[58]⟩ : ByteArray)) ++ t126) ++ t129))) else (none)) = some r := H
      have A30 := Aside0.mk A300
      clear A300
      by_cases c31 : ((a0_0 ++ (⟨#[58]⟩ : ByteArray)) ++ t126).size + t129.size ≤ 9223372036854775807
      ·rw [if_pos c31] at H
       have c31b0 := eq_true c31
       have c31b1 : decide (((a0_0 ++ (⟨#[58]⟩ : ByteArray)) ++ t126).size + t129.size ≤ 9223372036854775807) = true := decide_eq_true c31
       try have c31b2 : (9223372036854775807 < ((a0_0 ++ (⟨#[58]⟩ : ByteArray)) ++ t126).size + t129.size) = False := eq_false (Nat.not_lt.2 c31)
       try (have c31b3 := c31b2; simp only [ByteArray.size_append, G.ba_size, List.size_toArray, List.length_cons, List.length_nil, Nat.zero_add, Nat.reduceAdd] at c31b3)
       by_cases c32 : a0_9 = true
       ·exact absurd (c32.symm.trans HQ9.out) (by decide)
       ·replace c32 := Bool.eq_false_iff.mpr c32
        subst c32
        have H1 : (some (((a0_0 ++ (⟨#[58]⟩ : ByteArray)) ++ t126) ++ t129)) = some r := by rw [if_neg (show ¬ (false = true) by decide)] at H; exact H
        clear H
        have H := H1
        clear H1
        obtain rfl := Option.some.inj H
        have hcz38_0 : wc.cell? ⟨gb125, 0, none⟩ = some (.string a0_0) := (blk_cell BK125.out 0).trans rfl
        have hcz38_1 : wc.cell? ⟨gb125, 1, none⟩ = some (.string a0_1) := (blk_cell BK125.out 1).trans rfl
        have hcz38_2 : wc.cell? ⟨gb125, 2, none⟩ = some (.string a0_2) := (blk_cell BK125.out 2).trans rfl
        have hcz38_3 : wc.cell? ⟨gb125, 3, none⟩ = some (.string a0_3) := (blk_cell BK125.out 3).trans rfl
        have hcz38_4 : wc.cell? ⟨gb125, 4, none⟩ = some (.bool a0_4) := (blk_cell BK125.out 4).trans rfl
        have hcz38_5 : wc.cell? ⟨gb125, 5, none⟩ = some (.int .i64 a0_5) := (blk_cell BK125.out 5).trans rfl
        have hcz38_6 : wc.cell? ⟨gb125, 6, none⟩ = some (.bool a0_6) := (blk_cell BK125.out 6).trans rfl
        have hcz38_7 : wc.cell? ⟨gb125, 7, none⟩ = some (.string a0_7) := (blk_cell BK125.out 7).trans rfl
        have hcz38_8 : wc.cell? ⟨gb125, 8, none⟩ = some (.slice A0_8 l0_8.length c0_8) := (blk_cell BK125.out 8).trans rfl
        have hcz38_9 : wc.cell? ⟨gb125, 9, none⟩ = some (.bool false) := (blk_cell BK125.out 9).trans rfl
        have hcz38_10 : wc.cell? ⟨gb125, 10, none⟩ = some (.bool a0_10) := (blk_cell BK125.out 10).trans rfl
        have hcz38_11 : wc.cell? ⟨gb125, 11, none⟩ = some (.string a0_11) := (blk_cell BK125.out 11).trans rfl
        have hcz38_12 : wc.cell? ⟨gb125, 12, none⟩ = some (.string a0_12) := (blk_cell BK125.out 12).trans rfl
        have hfz38_0 := blk_frozen BK125.out 0
        have hfz38_1 := blk_frozen BK125.out 1
        have hfz38_2 := blk_frozen BK125.out 2
        have hfz38_3 := blk_frozen BK125.out 3
        have hfz38_4 := blk_frozen BK125.out 4
        have hfz38_5 := blk_frozen BK125.out 5
        have hfz38_6 := blk_frozen BK125.out 6
        have hfz38_7 := blk_frozen BK125.out 7
        have hfz38_8 := blk_frozen BK125.out 8
        have hfz38_9 := blk_frozen BK125.out 9
        have hfz38_10 := blk_frozen BK125.out 10
        have hfz38_11 := blk_frozen BK125.out 11
        have hfz38_12 := blk_frozen BK125.out 12
        go_wp2_with (first | ((with_reducible refine gate_callee (f := 52) rfl ?_); refine goesL_ (some 35) rfl rfl Tryz.func52 (by kernel_rfl) rfl #[.agg #[.string a0_0, .string a0_1, .string a0_2, .string a0_3, .bool a0_4, .int .i64 a0_5, .bool a0_6, .string a0_7, .slice A0_8 l0_8.length c0_8, .bool false, .bool a0_10, .string a0_11, .string a0_12]] rfl (by (try simp only [List.map_toArray, List.map_cons, List.map_nil]); first | done | rfl | (simp only [List.length_drop, List.length_take]; rfl)) ?_; (with_reducible refine (url_Path.calls a0_0 a0_1 a0_2 a0_3 a0_4 a0_5 a0_6 a0_7 _ _ l0_8 false a0_10 a0_11 a0_12 t129 _ ?side1 ?side2 A30.out).mono ?_); (case side1 => repeat (first | exact (Kd.C_below HR0_8.out HB.out) | (with_reducible refine Kd.C_alloc ?_ _) | (with_reducible refine Kd.C_drewN ?_ _) | (with_reducible refine Kd.C_drew ?_))); (case side2 => exact HC0_8.out); rintro e w39 ⟨rfl, hb⟩; refine ⟨_, rfl, ?_⟩; have n0_ := Aside0.mk (blk_below (g := gb125) (o := .cells #[.string a0_0, .string a0_1, .string a0_2, .string a0_3, .bool a0_4, .int .i64 a0_5, .bool a0_6, .string a0_7, .slice A0_8 l0_8.length c0_8, .bool false, .bool a0_10, .string a0_11, .string a0_12] 25 (0, 0)) (by (with_reducible repeat (first | refine blk_drewN ?_ _ | refine blk_drew ?_ | refine blk_alloc ?_ _)); exact BK125.out) hb); have n1_ := Aside0.mk (below_step (by repeat (first | (with_reducible first | exact HB.out | apply below_alloc | apply pw_below_drewN | apply below_drew1 | refine below_set ?_ GE125.out) | exact HB.out)) hb); clear BK125; clear HB; have BK125 := n0_; have HB := n1_; clear n0_ n1_; (try clear hb); (try clear hb2); (try clear hk); (try clear hi); have hcz40_0 : w39.cell? ⟨gb125, 0, none⟩ = some (.string a0_0) := (blk_cell BK125.out 0).trans rfl; have hcz40_1 : w39.cell? ⟨gb125, 1, none⟩ = some (.string a0_1) := (blk_cell BK125.out 1).trans rfl; have hcz40_2 : w39.cell? ⟨gb125, 2, none⟩ = some (.string a0_2) := (blk_cell BK125.out 2).trans rfl; have hcz40_3 : w39.cell? ⟨gb125, 3, none⟩ = some (.string a0_3) := (blk_cell BK125.out 3).trans rfl; have hcz40_4 : w39.cell? ⟨gb125, 4, none⟩ = some (.bool a0_4) := (blk_cell BK125.out 4).trans rfl; have hcz40_5 : w39.cell? ⟨gb125, 5, none⟩ = some (.int .i64 a0_5) := (blk_cell BK125.out 5).trans rfl; have hcz40_6 : w39.cell? ⟨gb125, 6, none⟩ = some (.bool a0_6) := (blk_cell BK125.out 6).trans rfl; have hcz40_7 : w39.cell? ⟨gb125, 7, none⟩ = some (.string a0_7) := (blk_cell BK125.out 7).trans rfl; have hcz40_8 : w39.cell? ⟨gb125, 8, none⟩ = some (.slice A0_8 l0_8.length c0_8) := (blk_cell BK125.out 8).trans rfl; have hcz40_9 : w39.cell? ⟨gb125, 9, none⟩ = some (.bool false) := (blk_cell BK125.out 9).trans rfl; have hcz40_10 : w39.cell? ⟨gb125, 10, none⟩ = some (.bool a0_10) := (blk_cell BK125.out 10).trans rfl; have hcz40_11 : w39.cell? ⟨gb125, 11, none⟩ = some (.string a0_11) := (blk_cell BK125.out 11).trans rfl; have hcz40_12 : w39.cell? ⟨gb125, 12, none⟩ = some (.string a0_12) := (blk_cell BK125.out 12).trans rfl; have hfz40_0 := blk_frozen BK125.out 0; have hfz40_1 := blk_frozen BK125.out 1; have hfz40_2 := blk_frozen BK125.out 2; have hfz40_3 := blk_frozen BK125.out 3; have hfz40_4 := blk_frozen BK125.out 4; have hfz40_5 := blk_frozen BK125.out 5; have hfz40_6 := blk_frozen BK125.out 6; have hfz40_7 := blk_frozen BK125.out 7; have hfz40_8 := blk_frozen BK125.out 8; have hfz40_9 := blk_frozen BK125.out 9; have hfz40_10 := blk_frozen BK125.out 10; have hfz40_11 := blk_frozen BK125.out 11; have hfz40_12 := blk_frozen BK125.out 12))
        go_ret
        exact ⟨by first | rfl | (simp [errW_none, errW_some] <;> rfl) | (simp [*, errW_none, errW_some] <;> rfl) | (simp [errW_none, errW_some, G.isEmpty_ne]; done), by repeat (first | (with_reducible first | exact HB.out | apply below_alloc | apply pw_below_drewN | apply below_drew1 | refine below_set ?_ GE125.out) | exact HB.out)⟩
      ·rw [if_neg c31] at H
       exact absurd H (by simp)
  ·rw [if_neg c4] at H
   exact absurd H (by simp)
 ·rw [if_neg c2] at H
  exact absurd H (by simp)

/-! ### url_Print: function 17 -/
def url_Print.f (k : Nat) (a0_0 : ByteArray) (a0_1 : ByteArray) (a0_2 : ByteArray) (a0_3 : ByteArray) (a0_4 : Bool) (a0_5 : Int) (a0_6 : Bool) (a0_7 : ByteArray) (l0_8 : List ByteArray) (a0_9 : Bool) (a0_10 : Bool) (a0_11 : ByteArray) (a0_12 : ByteArray) : Option (ByteArray) := if a0_10 = true then ((url_Bare.f k a0_0 a0_1 a0_2 a0_3 a0_4 a0_5 a0_6 a0_7 l0_8 a0_9 a0_10 a0_11 a0_12).bind fun t131 => (if t131.size + 1 ≤ 9223372036854775807 then (if (t131 ++ (⟨#[35]⟩ : ByteArray)).size + a0_12.size ≤ 9223372036854775807 then (some ((t131 ++ (⟨#[35]⟩ : ByteArray)) ++ a0_12)) else (none)) else (none))) else ((url_Bare.f k a0_0 a0_1 a0_2 a0_3 a0_4 a0_5 a0_6 a0_7 l0_8 a0_9 a0_10 a0_11 a0_12).bind fun t132 => (some t132))
theorem url_Print.mono : ∀ a0 a1 a2 a3 a4 a5 a6 a7 a8 a9 a10 a11 a12 k, LeO (url_Print.f k a0 a1 a2 a3 a4 a5 a6 a7 a8 a9 a10 a11 a12) (url_Print.f (k + 1) a0 a1 a2 a3 a4 a5 a6 a7 a8 a9 a10 a11 a12) := by
 intro a0 a1 a2 a3 a4 a5 a6 a7 a8 a9 a10 a11 a12 k
 unfold url_Print.f
 repeat' first
   | (with_reducible exact url_Bare.mono _ _ _ _ _ _ _ _ _ _ _ _ _ _)
   | (with_reducible exact LeO.refl _)
   | (with_reducible exact LeO.none _)
   | (with_reducible refine LeO.ite ?_ ?_)
   | (with_reducible refine LeO.bind ?_ (fun _ => ?_))
   | exact url_Bare.mono _ _ _ _ _ _ _ _ _ _ _ _ _ _
   | exact LeO.none _
   | refine LeO.ite ?_ ?_
   | refine LeO.bind ?_ (fun _ => ?_)
set_option maxHeartbeats 8000000 in
set_option maxRecDepth 100000 in
theorem url_Print.calls (k : Nat) (a0_0 : ByteArray) (a0_1 : ByteArray) (a0_2 : ByteArray) (a0_3 : ByteArray) (a0_4 : Bool) (a0_5 : Int) (a0_6 : Bool) (a0_7 : ByteArray) (A0_8 : Option Addr) (c0_8 : Nat) (l0_8 : List ByteArray) (a0_9 : Bool) (a0_10 : Bool) (a0_11 : ByteArray) (a0_12 : ByteArray) (r : ByteArray) (w : World) (hr0_8 : Kd.C Kd.string w A0_8 l0_8.length l0_8) (hc0_8 : l0_8.length ≤ c0_8) (h : url_Print.f k a0_0 a0_1 a0_2 a0_3 a0_4 a0_5 a0_6 a0_7 l0_8 a0_9 a0_10 a0_11 a0_12 = some r) (HF4 : a0_4 = true) (HF9 : a0_9 = false) (HF10 : a0_10 = false) :
  Calls Tryz.prog 17 #[.agg #[.string a0_0, .string a0_1, .string a0_2, .string a0_3, .bool a0_4, .int .i64 a0_5, .bool a0_6, .string a0_7, .slice A0_8 l0_8.length c0_8, .bool a0_9, .bool a0_10, .string a0_11, .string a0_12]] w fun e w' => e = .returned (.string r) ∧ Below w.heap.size w w' := by
 have HQ4 := Aside0.mk HF4
 have HQ9 := Aside0.mk HF9
 have HQ10 := Aside0.mk HF10
 clear HF4 HF9 HF10
 have hu25 := Tryz.underlying25
 have HR0_8 := Aside0.mk hr0_8
 have HC0_8 := Aside0.mk hc0_8
 clear hr0_8 hc0_8
 have HB := Aside0.mk (Below.refl w.heap.size w)
 have H : (if a0_10 = true then ((url_Bare.f k a0_0 a0_1 a0_2 a0_3 a0_4 a0_5 a0_6 a0_7 l0_8 a0_9 a0_10 a0_11 a0_12).bind fun t131 => (if t131.size + 1 ≤ 9223372036854775807 then (if (t131 ++ (⟨#[35]⟩ : ByteArray)).size + a0_12.size ≤ 9223372036854775807 then (some ((t131 ++ (⟨#[35]⟩ : ByteArray)) ++ a0_12)) else (none)) else (none))) else ((url_Bare.f k a0_0 a0_1 a0_2 a0_3 a0_4 a0_5 a0_6 a0_7 l0_8 a0_9 a0_10 a0_11 a0_12).bind fun t132 => (some t132))) = some r := h
 clear h
 by_cases c2 : a0_10 = true
 ·exact absurd (c2.symm.trans HQ10.out) (by decide)
 ·replace c2 := Bool.eq_false_iff.mpr c2
  subst c2
  have H1 : ((url_Bare.f k a0_0 a0_1 a0_2 a0_3 a0_4 a0_5 a0_6 a0_7 l0_8 a0_9 false a0_11 a0_12).bind fun t132 => (some t132)) = some r := by rw [if_neg (show ¬ (false = true) by decide)] at H; exact H
  clear H
  have H := H1
  clear H1
  replace H := Option.bind_eq_some_iff.mp H
  obtain ⟨t132, A100, H⟩ := H
  replace H : (some t132) = some r := H
  have A10 := Aside0.mk A100
  clear A100
  obtain rfl := Option.some.inj H
  go_enter Tryz.func17, Tryz.ntmps17
  go_wp2_with (first | ((with_reducible refine gate_dst (N := 1) rfl ?_); refine box_event ?hg (N := 1) ?hd (cs := #[.string a0_0, .string a0_1, .string a0_2, .string a0_3, .bool a0_4, .int .i64 a0_5, .bool a0_6, .string a0_7, .slice A0_8 l0_8.length c0_8, .bool a0_9, .bool false, .string a0_11, .string a0_12]) (t := 25) ?hr ?_; (case hd => rfl); (case hg => rfl); (case hr => first | (go_simp; done) | (go_simp; rfl)); intro gb130 hg w11 hbox hb; have n0_ := Aside0.mk (below_step (by repeat (first | (with_reducible first | exact HB.out | apply below_alloc | apply pw_below_drewN | apply below_drew1) | exact HB.out)) hb); have n1_ := Aside0.mk (hbox); have n2_ := Aside0.mk ((by rw [hg]; exact (below_size (by repeat (first | (with_reducible first | exact HB.out | apply below_alloc | apply pw_below_drewN | apply below_drew1) | exact HB.out))) : w.heap.size ≤ gb130)); have n3_ := Aside0.mk ((by rw [hg]; exact (below_size (by repeat (first | (with_reducible first | exact HB.out | apply below_alloc | apply pw_below_drewN | apply below_drew1) | exact HB.out))) : w.heap.size ≤ gb130)); clear HB; have HB := n0_; have BK130 := n1_; have GW130 := n2_; have GE130 := n3_; clear n0_ n1_ n2_ n3_; clear hb hbox hg; have hcz12_0 : w11.cell? ⟨gb130, 0, none⟩ = some (.string a0_0) := (blk_cell BK130.out 0).trans rfl; have hcz12_1 : w11.cell? ⟨gb130, 1, none⟩ = some (.string a0_1) := (blk_cell BK130.out 1).trans rfl; have hcz12_2 : w11.cell? ⟨gb130, 2, none⟩ = some (.string a0_2) := (blk_cell BK130.out 2).trans rfl; have hcz12_3 : w11.cell? ⟨gb130, 3, none⟩ = some (.string a0_3) := (blk_cell BK130.out 3).trans rfl; have hcz12_4 : w11.cell? ⟨gb130, 4, none⟩ = some (.bool a0_4) := (blk_cell BK130.out 4).trans rfl; have hcz12_5 : w11.cell? ⟨gb130, 5, none⟩ = some (.int .i64 a0_5) := (blk_cell BK130.out 5).trans rfl; have hcz12_6 : w11.cell? ⟨gb130, 6, none⟩ = some (.bool a0_6) := (blk_cell BK130.out 6).trans rfl; have hcz12_7 : w11.cell? ⟨gb130, 7, none⟩ = some (.string a0_7) := (blk_cell BK130.out 7).trans rfl; have hcz12_8 : w11.cell? ⟨gb130, 8, none⟩ = some (.slice A0_8 l0_8.length c0_8) := (blk_cell BK130.out 8).trans rfl; have hcz12_9 : w11.cell? ⟨gb130, 9, none⟩ = some (.bool a0_9) := (blk_cell BK130.out 9).trans rfl; have hcz12_10 : w11.cell? ⟨gb130, 10, none⟩ = some (.bool false) := (blk_cell BK130.out 10).trans rfl; have hcz12_11 : w11.cell? ⟨gb130, 11, none⟩ = some (.string a0_11) := (blk_cell BK130.out 11).trans rfl; have hcz12_12 : w11.cell? ⟨gb130, 12, none⟩ = some (.string a0_12) := (blk_cell BK130.out 12).trans rfl; have hfz12_0 := blk_frozen BK130.out 0; have hfz12_1 := blk_frozen BK130.out 1; have hfz12_2 := blk_frozen BK130.out 2; have hfz12_3 := blk_frozen BK130.out 3; have hfz12_4 := blk_frozen BK130.out 4; have hfz12_5 := blk_frozen BK130.out 5; have hfz12_6 := blk_frozen BK130.out 6; have hfz12_7 := blk_frozen BK130.out 7; have hfz12_8 := blk_frozen BK130.out 8; have hfz12_9 := blk_frozen BK130.out 9; have hfz12_10 := blk_frozen BK130.out 10; have hfz12_11 := blk_frozen BK130.out 11; have hfz12_12 := blk_frozen BK130.out 12) | ((with_reducible refine gate_callee (f := 35) rfl ?_); refine goesL_ (some 12) rfl rfl Tryz.func35 (by kernel_rfl) rfl #[.agg #[.string a0_0, .string a0_1, .string a0_2, .string a0_3, .bool a0_4, .int .i64 a0_5, .bool a0_6, .string a0_7, .slice A0_8 l0_8.length c0_8, .bool a0_9, .bool false, .string a0_11, .string a0_12]] rfl (by (try simp only [List.map_toArray, List.map_cons, List.map_nil]); first | done | rfl | (simp only [List.length_drop, List.length_take]; rfl)) ?_; (with_reducible refine (url_Bare.calls k a0_0 a0_1 a0_2 a0_3 a0_4 a0_5 a0_6 a0_7 _ _ l0_8 a0_9 false a0_11 a0_12 t132 _ ?side1 ?side2 A10.out HQ4.out HQ9.out).mono ?_); (case side1 => repeat (first | exact (Kd.C_below HR0_8.out HB.out) | (with_reducible refine Kd.C_alloc ?_ _) | (with_reducible refine Kd.C_drewN ?_ _) | (with_reducible refine Kd.C_drew ?_))); (case side2 => exact HC0_8.out); rintro e w13 ⟨rfl, hb⟩; refine ⟨_, rfl, ?_⟩; have n0_ := Aside0.mk (blk_below (g := gb130) (o := .cells #[.string a0_0, .string a0_1, .string a0_2, .string a0_3, .bool a0_4, .int .i64 a0_5, .bool a0_6, .string a0_7, .slice A0_8 l0_8.length c0_8, .bool a0_9, .bool false, .string a0_11, .string a0_12] 25 (0, 0)) (by (with_reducible repeat (first | refine blk_drewN ?_ _ | refine blk_drew ?_ | refine blk_alloc ?_ _)); exact BK130.out) hb); have n1_ := Aside0.mk (below_step (by repeat (first | (with_reducible first | exact HB.out | apply below_alloc | apply pw_below_drewN | apply below_drew1 | refine below_set ?_ GE130.out) | exact HB.out)) hb); clear BK130; clear HB; have BK130 := n0_; have HB := n1_; clear n0_ n1_; (try clear hb); (try clear hb2); (try clear hk); (try clear hi)))
  go_ret
  exact ⟨by first | rfl | (simp [errW_none, errW_some] <;> rfl) | (simp [*, errW_none, errW_some] <;> rfl) | (simp [errW_none, errW_some, G.isEmpty_ne]; done), by repeat (first | (with_reducible first | exact HB.out | apply below_alloc | apply pw_below_drewN | apply below_drew1 | refine below_set ?_ GE130.out) | exact HB.out)⟩

end Go.Proofs.YtbbdfamfmkcfhaaGreatDoor.P
