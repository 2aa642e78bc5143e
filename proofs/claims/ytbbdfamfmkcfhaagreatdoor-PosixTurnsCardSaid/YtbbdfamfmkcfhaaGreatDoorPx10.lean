-- Written for this claim by a program of this session's (not a text of the kit's print).
import Derived.Test.YtbbdfamfmkcfhaaGreatDoorPx0
import Derived.Test.YtbbdfamfmkcfhaaGreatDoorPx9
namespace Go.Proofs.YtbbdfamfmkcfhaaGreatDoor.P
open Go.RowKit Go.Proofs.YtbbdfamfmkcfhaaGreatDoorW.PrintWords Go.Proofs.YtbbdfamfmkcfhaaGreatDoorW.PrintLast Go.Proofs.YtbbdfamfmkcfhaaGreatDoorW.PrintMore
attribute [local go_sem] max2_int min2_int max_two min_two max_three min_three max_four min_four   -- for this text's walks alone
set_option linter.unusedVariables false
set_option linter.unusedSimpArgs false

/-! ### carryallref11_Same: function 11 -/
mutual
def carryallref11_Same.j0 : Nat → Bool → ByteArray → ByteArray → ByteArray → ByteArray → Bool → Int → Bool → ByteArray → List ByteArray → Bool → Bool → ByteArray → ByteArray → ByteArray → ByteArray → ByteArray → ByteArray → Bool → Int → Bool → ByteArray → List ByteArray → Bool → Bool → ByteArray → ByteArray → Option (Bool)
 | 0, _, _, _, _, _, _, _, _, _, _, _, _, _, _, _, _, _, _, _, _, _, _, _, _, _, _, _ => none
 | k + 1, x58, x312000, x312001, x312002, x312003, x312004, x312005, x312006, x312007, x312008, x312009, x312010, x312011, x312012, x313000, x313001, x313002, x313003, x313004, x313005, x313006, x313007, x313008, x313009, x313010, x313011, x313012 => if x58 = true then (some false) else (if x312004 = true then (if x312003.toList = x313003.toList then (if x312009 = true then (if x312011.toList = x313011.toList then (if x312010 = true then (carryallref11_Same.j1 k (x312012.toList != x313012.toList) x312000 x312001 x312002 x312003 x312004 x312005 x312006 x312007 x312008 x312009 x312010 x312011 x312012 x313000 x313001 x313002 x313003 x313004 x313005 x313006 x313007 x313008 x313009 x313010 x313011 x313012) else (carryallref11_Same.j1 k false x312000 x312001 x312002 x312003 x312004 x312005 x312006 x312007 x312008 x312009 x312010 x312011 x312012 x313000 x313001 x313002 x313003 x313004 x313005 x313006 x313007 x313008 x313009 x313010 x313011 x313012)) else (carryallref11_Same.j1 k true x312000 x312001 x312002 x312003 x312004 x312005 x312006 x312007 x312008 x312009 x312010 x312011 x312012 x313000 x313001 x313002 x313003 x313004 x313005 x313006 x313007 x313008 x313009 x313010 x313011 x313012)) else (if x312010 = true then (carryallref11_Same.j1 k (x312012.toList != x313012.toList) x312000 x312001 x312002 x312003 x312004 x312005 x312006 x312007 x312008 x312009 x312010 x312011 x312012 x313000 x313001 x313002 x313003 x313004 x313005 x313006 x313007 x313008 x313009 x313010 x313011 x313012) else (carryallref11_Same.j1 k false x312000 x312001 x312002 x312003 x312004 x312005 x312006 x312007 x312008 x312009 x312010 x312011 x312012 x313000 x313001 x313002 x313003 x313004 x313005 x313006 x313007 x313008 x313009 x313010 x313011 x313012))) else (carryallref11_Same.j1 k true x312000 x312001 x312002 x312003 x312004 x312005 x312006 x312007 x312008 x312009 x312010 x312011 x312012 x313000 x313001 x313002 x313003 x313004 x313005 x313006 x313007 x313008 x313009 x313010 x313011 x313012)) else (if x312009 = true then (if x312011.toList = x313011.toList then (if x312010 = true then (carryallref11_Same.j1 k (x312012.toList != x313012.toList) x312000 x312001 x312002 x312003 x312004 x312005 x312006 x312007 x312008 x312009 x312010 x312011 x312012 x313000 x313001 x313002 x313003 x313004 x313005 x313006 x313007 x313008 x313009 x313010 x313011 x313012) else (carryallref11_Same.j1 k false x312000 x312001 x312002 x312003 x312004 x312005 x312006 x312007 x312008 x312009 x312010 x312011 x312012 x313000 x313001 x313002 x313003 x313004 x313005 x313006 x313007 x313008 x313009 x313010 x313011 x313012)) else (carryallref11_Same.j1 k true x312000 x312001 x312002 x312003 x312004 x312005 x312006 x312007 x312008 x312009 x312010 x312011 x312012 x313000 x313001 x313002 x313003 x313004 x313005 x313006 x313007 x313008 x313009 x313010 x313011 x313012)) else (if x312010 = true then (carryallref11_Same.j1 k (x312012.toList != x313012.toList) x312000 x312001 x312002 x312003 x312004 x312005 x312006 x312007 x312008 x312009 x312010 x312011 x312012 x313000 x313001 x313002 x313003 x313004 x313005 x313006 x313007 x313008 x313009 x313010 x313011 x313012) else (carryallref11_Same.j1 k false x312000 x312001 x312002 x312003 x312004 x312005 x312006 x312007 x312008 x312009 x312010 x312011 x312012 x313000 x313001 x313002 x313003 x313004 x313005 x313006 x313007 x313008 x313009 x313010 x313011 x313012))))
def carryallref11_Same.j1 : Nat → Bool → ByteArray → ByteArray → ByteArray → ByteArray → Bool → Int → Bool → ByteArray → List ByteArray → Bool → Bool → ByteArray → ByteArray → ByteArray → ByteArray → ByteArray → ByteArray → Bool → Int → Bool → ByteArray → List ByteArray → Bool → Bool → ByteArray → ByteArray → Option (Bool)
 | 0, _, _, _, _, _, _, _, _, _, _, _, _, _, _, _, _, _, _, _, _, _, _, _, _, _, _, _ => none
 | k + 1, x89, x312000, x312001, x312002, x312003, x312004, x312005, x312006, x312007, x312008, x312009, x312010, x312011, x312012, x313000, x313001, x313002, x313003, x313004, x313005, x313006, x313007, x313008, x313009, x313010, x313011, x313012 => if x89 = true then (some false) else (if x312006 = true then (some (x312007.toList == x313007.toList)) else ((carryallref10_Same.f k x312008 x313008).bind fun t313 => (some t313)))
end
def carryallref11_Same.f (k : Nat) (a0_0 : ByteArray) (a0_1 : ByteArray) (a0_2 : ByteArray) (a0_3 : ByteArray) (a0_4 : Bool) (a0_5 : Int) (a0_6 : Bool) (a0_7 : ByteArray) (l0_8 : List ByteArray) (a0_9 : Bool) (a0_10 : Bool) (a0_11 : ByteArray) (a0_12 : ByteArray) (a1_0 : ByteArray) (a1_1 : ByteArray) (a1_2 : ByteArray) (a1_3 : ByteArray) (a1_4 : Bool) (a1_5 : Int) (a1_6 : Bool) (a1_7 : ByteArray) (l1_8 : List ByteArray) (a1_9 : Bool) (a1_10 : Bool) (a1_11 : ByteArray) (a1_12 : ByteArray) : Option (Bool) := if a0_0.toList = a1_0.toList then (if a0_1.toList = a1_1.toList then (if a0_2.toList = a1_2.toList then (if (a0_4 != a1_4) = true then (carryallref11_Same.j0 k true a0_0 a0_1 a0_2 a0_3 a0_4 a0_5 a0_6 a0_7 l0_8 a0_9 a0_10 a0_11 a0_12 a1_0 a1_1 a1_2 a1_3 a1_4 a1_5 a1_6 a1_7 l1_8 a1_9 a1_10 a1_11 a1_12) else (if a0_5 = a1_5 then (if (a0_6 != a1_6) = true then (carryallref11_Same.j0 k true a0_0 a0_1 a0_2 a0_3 a0_4 a0_5 a0_6 a0_7 l0_8 a0_9 a0_10 a0_11 a0_12 a1_0 a1_1 a1_2 a1_3 a1_4 a1_5 a1_6 a1_7 l1_8 a1_9 a1_10 a1_11 a1_12) else (if (a0_9 != a1_9) = true then (carryallref11_Same.j0 k true a0_0 a0_1 a0_2 a0_3 a0_4 a0_5 a0_6 a0_7 l0_8 a0_9 a0_10 a0_11 a0_12 a1_0 a1_1 a1_2 a1_3 a1_4 a1_5 a1_6 a1_7 l1_8 a1_9 a1_10 a1_11 a1_12) else (carryallref11_Same.j0 k (a0_10 != a1_10) a0_0 a0_1 a0_2 a0_3 a0_4 a0_5 a0_6 a0_7 l0_8 a0_9 a0_10 a0_11 a0_12 a1_0 a1_1 a1_2 a1_3 a1_4 a1_5 a1_6 a1_7 l1_8 a1_9 a1_10 a1_11 a1_12))) else (carryallref11_Same.j0 k true a0_0 a0_1 a0_2 a0_3 a0_4 a0_5 a0_6 a0_7 l0_8 a0_9 a0_10 a0_11 a0_12 a1_0 a1_1 a1_2 a1_3 a1_4 a1_5 a1_6 a1_7 l1_8 a1_9 a1_10 a1_11 a1_12))) else (carryallref11_Same.j0 k true a0_0 a0_1 a0_2 a0_3 a0_4 a0_5 a0_6 a0_7 l0_8 a0_9 a0_10 a0_11 a0_12 a1_0 a1_1 a1_2 a1_3 a1_4 a1_5 a1_6 a1_7 l1_8 a1_9 a1_10 a1_11 a1_12)) else (carryallref11_Same.j0 k true a0_0 a0_1 a0_2 a0_3 a0_4 a0_5 a0_6 a0_7 l0_8 a0_9 a0_10 a0_11 a0_12 a1_0 a1_1 a1_2 a1_3 a1_4 a1_5 a1_6 a1_7 l1_8 a1_9 a1_10 a1_11 a1_12)) else (carryallref11_Same.j0 k true a0_0 a0_1 a0_2 a0_3 a0_4 a0_5 a0_6 a0_7 l0_8 a0_9 a0_10 a0_11 a0_12 a1_0 a1_1 a1_2 a1_3 a1_4 a1_5 a1_6 a1_7 l1_8 a1_9 a1_10 a1_11 a1_12)
theorem carryallref11_Same.mono_l : ∀ k, (∀ y0 y1 y2 y3 y4 y5 y6 y7 y8 y9 y10 y11 y12 y13 y14 y15 y16 y17 y18 y19 y20 y21 y22 y23 y24 y25 y26, LeO (carryallref11_Same.j0 k y0 y1 y2 y3 y4 y5 y6 y7 y8 y9 y10 y11 y12 y13 y14 y15 y16 y17 y18 y19 y20 y21 y22 y23 y24 y25 y26) (carryallref11_Same.j0 (k + 1) y0 y1 y2 y3 y4 y5 y6 y7 y8 y9 y10 y11 y12 y13 y14 y15 y16 y17 y18 y19 y20 y21 y22 y23 y24 y25 y26)) ∧ (∀ y0 y1 y2 y3 y4 y5 y6 y7 y8 y9 y10 y11 y12 y13 y14 y15 y16 y17 y18 y19 y20 y21 y22 y23 y24 y25 y26, LeO (carryallref11_Same.j1 k y0 y1 y2 y3 y4 y5 y6 y7 y8 y9 y10 y11 y12 y13 y14 y15 y16 y17 y18 y19 y20 y21 y22 y23 y24 y25 y26) (carryallref11_Same.j1 (k + 1) y0 y1 y2 y3 y4 y5 y6 y7 y8 y9 y10 y11 y12 y13 y14 y15 y16 y17 y18 y19 y20 y21 y22 y23 y24 y25 y26))
 | 0 => ⟨fun _ _ _ _ _ _ _ _ _ _ _ _ _ _ _ _ _ _ _ _ _ _ _ _ _ _ _ r h => by simp [carryallref11_Same.j0] at h, fun _ _ _ _ _ _ _ _ _ _ _ _ _ _ _ _ _ _ _ _ _ _ _ _ _ _ _ r h => by simp [carryallref11_Same.j1] at h⟩
 | k + 1 => by
  obtain ⟨ih0, ih1⟩ := carryallref11_Same.mono_l k
  refine ⟨?_, ?_⟩
  ·intro y0 y1 y2 y3 y4 y5 y6 y7 y8 y9 y10 y11 y12 y13 y14 y15 y16 y17 y18 y19 y20 y21 y22 y23 y24 y25 y26
   unfold carryallref11_Same.j0
   repeat' first
   | (with_reducible exact ih0 _ _ _ _ _ _ _ _ _ _ _ _ _ _ _ _ _ _ _ _ _ _ _ _ _ _ _)
   | (with_reducible exact ih1 _ _ _ _ _ _ _ _ _ _ _ _ _ _ _ _ _ _ _ _ _ _ _ _ _ _ _)
   | (with_reducible exact carryallref10_Same.mono _ _ _)
   | (with_reducible exact LeO.refl _)
   | (with_reducible exact LeO.none _)
   | (with_reducible refine LeO.ite ?_ ?_)
   | (with_reducible refine LeO.bind ?_ (fun _ => ?_))
   | exact ih0 _ _ _ _ _ _ _ _ _ _ _ _ _ _ _ _ _ _ _ _ _ _ _ _ _ _ _
   | exact ih1 _ _ _ _ _ _ _ _ _ _ _ _ _ _ _ _ _ _ _ _ _ _ _ _ _ _ _
   | exact carryallref10_Same.mono _ _ _
   | exact LeO.none _
   | refine LeO.ite ?_ ?_
   | refine LeO.bind ?_ (fun _ => ?_)
  ·intro y0 y1 y2 y3 y4 y5 y6 y7 y8 y9 y10 y11 y12 y13 y14 y15 y16 y17 y18 y19 y20 y21 y22 y23 y24 y25 y26
   unfold carryallref11_Same.j1
   repeat' first
   | (with_reducible exact ih0 _ _ _ _ _ _ _ _ _ _ _ _ _ _ _ _ _ _ _ _ _ _ _ _ _ _ _)
   | (with_reducible exact ih1 _ _ _ _ _ _ _ _ _ _ _ _ _ _ _ _ _ _ _ _ _ _ _ _ _ _ _)
   | (with_reducible exact carryallref10_Same.mono _ _ _)
   | (with_reducible exact LeO.refl _)
   | (with_reducible exact LeO.none _)
   | (with_reducible refine LeO.ite ?_ ?_)
   | (with_reducible refine LeO.bind ?_ (fun _ => ?_))
   | exact ih0 _ _ _ _ _ _ _ _ _ _ _ _ _ _ _ _ _ _ _ _ _ _ _ _ _ _ _
   | exact ih1 _ _ _ _ _ _ _ _ _ _ _ _ _ _ _ _ _ _ _ _ _ _ _ _ _ _ _
   | exact carryallref10_Same.mono _ _ _
   | exact LeO.none _
   | refine LeO.ite ?_ ?_
   | refine LeO.bind ?_ (fun _ => ?_)
theorem carryallref11_Same.mono : ∀ a0 a1 a2 a3 a4 a5 a6 a7 a8 a9 a10 a11 a12 a13 a14 a15 a16 a17 a18 a19 a20 a21 a22 a23 a24 a25 k, LeO (carryallref11_Same.f k a0 a1 a2 a3 a4 a5 a6 a7 a8 a9 a10 a11 a12 a13 a14 a15 a16 a17 a18 a19 a20 a21 a22 a23 a24 a25) (carryallref11_Same.f (k + 1) a0 a1 a2 a3 a4 a5 a6 a7 a8 a9 a10 a11 a12 a13 a14 a15 a16 a17 a18 a19 a20 a21 a22 a23 a24 a25) := by
 intro a0 a1 a2 a3 a4 a5 a6 a7 a8 a9 a10 a11 a12 a13 a14 a15 a16 a17 a18 a19 a20 a21 a22 a23 a24 a25 k
 obtain ⟨ih0, ih1⟩ := carryallref11_Same.mono_l k
 unfold carryallref11_Same.f
 repeat' first
   | (with_reducible exact ih0 _ _ _ _ _ _ _ _ _ _ _ _ _ _ _ _ _ _ _ _ _ _ _ _ _ _ _)
   | (with_reducible exact ih1 _ _ _ _ _ _ _ _ _ _ _ _ _ _ _ _ _ _ _ _ _ _ _ _ _ _ _)
   | (with_reducible exact carryallref10_Same.mono _ _ _)
   | (with_reducible exact LeO.refl _)
   | (with_reducible exact LeO.none _)
   | (with_reducible refine LeO.ite ?_ ?_)
   | (with_reducible refine LeO.bind ?_ (fun _ => ?_))
   | exact ih0 _ _ _ _ _ _ _ _ _ _ _ _ _ _ _ _ _ _ _ _ _ _ _ _ _ _ _
   | exact ih1 _ _ _ _ _ _ _ _ _ _ _ _ _ _ _ _ _ _ _ _ _ _ _ _ _ _ _
   | exact carryallref10_Same.mono _ _ _
   | exact LeO.none _
   | refine LeO.ite ?_ ?_
   | refine LeO.bind ?_ (fun _ => ?_)
theorem carryallref11_Same.j0_no {k : Nat} {u0 : ByteArray} {u1 : ByteArray} {u2 : ByteArray} {u3 : ByteArray} {u4 : Bool} {u5 : Int} {u6 : Bool} {u7 : ByteArray} {u8 : List ByteArray} {u9 : Bool} {u10 : Bool} {u11 : ByteArray} {u12 : ByteArray} {v0 : ByteArray} {v1 : ByteArray} {v2 : ByteArray} {v3 : ByteArray} {v4 : Bool} {v5 : Int} {v6 : Bool} {v7 : ByteArray} {v8 : List ByteArray} {v9 : Bool} {v10 : Bool} {v11 : ByteArray} {v12 : ByteArray} : ¬ carryallref11_Same.j0 k true u0 u1 u2 u3 u4 u5 u6 u7 u8 u9 u10 u11 u12 v0 v1 v2 v3 v4 v5 v6 v7 v8 v9 v10 v11 v12 = some true := by
  intro h
  cases k with
  | zero => rw [carryallref11_Same.j0] at h; cases h
  | succ k => rw [carryallref11_Same.j0, if_pos rfl] at h; cases h
theorem carryallref11_Same.j1_no {k : Nat} {u0 : ByteArray} {u1 : ByteArray} {u2 : ByteArray} {u3 : ByteArray} {u4 : Bool} {u5 : Int} {u6 : Bool} {u7 : ByteArray} {u8 : List ByteArray} {u9 : Bool} {u10 : Bool} {u11 : ByteArray} {u12 : ByteArray} {v0 : ByteArray} {v1 : ByteArray} {v2 : ByteArray} {v3 : ByteArray} {v4 : Bool} {v5 : Int} {v6 : Bool} {v7 : ByteArray} {v8 : List ByteArray} {v9 : Bool} {v10 : Bool} {v11 : ByteArray} {v12 : ByteArray} : ¬ carryallref11_Same.j1 k true u0 u1 u2 u3 u4 u5 u6 u7 u8 u9 u10 u11 u12 v0 v1 v2 v3 v4 v5 v6 v7 v8 v9 v10 v11 v12 = some true := by
  intro h
  cases k with
  | zero => rw [carryallref11_Same.j1] at h; cases h
  | succ k => rw [carryallref11_Same.j1, if_pos rfl] at h; cases h
set_option maxHeartbeats 8000000 in
set_option maxRecDepth 100000 in
theorem carryallref11_Same.calls (k : Nat) (a0_0 : ByteArray) (a0_1 : ByteArray) (a0_2 : ByteArray) (a0_3 : ByteArray) (a0_4 : Bool) (a0_5 : Int) (a0_6 : Bool) (a0_7 : ByteArray) (A0_8 : Option Addr) (c0_8 : Nat) (l0_8 : List ByteArray) (a0_9 : Bool) (a0_10 : Bool) (a0_11 : ByteArray) (a0_12 : ByteArray) (a1_0 : ByteArray) (a1_1 : ByteArray) (a1_2 : ByteArray) (a1_3 : ByteArray) (a1_4 : Bool) (a1_5 : Int) (a1_6 : Bool) (a1_7 : ByteArray) (A1_8 : Option Addr) (c1_8 : Nat) (l1_8 : List ByteArray) (a1_9 : Bool) (a1_10 : Bool) (a1_11 : ByteArray) (a1_12 : ByteArray) (r : Bool) (w : World) (hr0_8 : Kd.C Kd.string w A0_8 l0_8.length l0_8) (hc0_8 : l0_8.length ≤ c0_8) (hr1_8 : Kd.C Kd.string w A1_8 l1_8.length l1_8) (hc1_8 : l1_8.length ≤ c1_8) (h : carryallref11_Same.f k a0_0 a0_1 a0_2 a0_3 a0_4 a0_5 a0_6 a0_7 l0_8 a0_9 a0_10 a0_11 a0_12 a1_0 a1_1 a1_2 a1_3 a1_4 a1_5 a1_6 a1_7 l1_8 a1_9 a1_10 a1_11 a1_12 = some r) (HRT : r = true) (HF9 : a0_9 = false) (HF10 : a0_10 = false) :
  Calls Tryz.prog 11 #[.agg #[.string a0_0, .string a0_1, .string a0_2, .string a0_3, .bool a0_4, .int .i64 a0_5, .bool a0_6, .string a0_7, .slice A0_8 l0_8.length c0_8, .bool a0_9, .bool a0_10, .string a0_11, .string a0_12], .agg #[.string a1_0, .string a1_1, .string a1_2, .string a1_3, .bool a1_4, .int .i64 a1_5, .bool a1_6, .string a1_7, .slice A1_8 l1_8.length c1_8, .bool a1_9, .bool a1_10, .string a1_11, .string a1_12]] w fun e w' => e = .returned (.bool r) ∧ Below w.heap.size w w' := by
 have HQ := Aside0.mk HRT
 have HQ9 := Aside0.mk HF9
 have HQ10 := Aside0.mk HF10
 clear HRT HF9 HF10
 have hu25 := Tryz.underlying25
 have HR0_8 := Aside0.mk hr0_8
 have HC0_8 := Aside0.mk hc0_8
 clear hr0_8 hc0_8
 have HR1_8 := Aside0.mk hr1_8
 have HC1_8 := Aside0.mk hc1_8
 clear hr1_8 hc1_8
 have HB := Aside0.mk (Below.refl w.heap.size w)
 have H : (if a0_0.toList = a1_0.toList then (if a0_1.toList = a1_1.toList then (if a0_2.toList = a1_2.toList then (if (a0_4 != a1_4) = true then (carryallref11_Same.j0 k true a0_0 a0_1 a0_2 a0_3 a0_4 a0_5 a0_6 a0_7 l0_8 a0_9 a0_10 a0_11 a0_12 a1_0 a1_1 a1_2 a1_3 a1_4 a1_5 a1_6 a1_7 l1_8 a1_9 a1_10 a1_11 a1_12) else (if a0_5 = a1_5 then (if (a0_6 != a1_6) = true then (carryallref11_Same.j0 k true a0_0 a0_1 a0_2 a0_3 a0_4 a0_5 a0_6 a0_7 l0_8 a0_9 a0_10 a0_11 a0_12 a1_0 a1_1 a1_2 a1_3 a1_4 a1_5 a1_6 a1_7 l1_8 a1_9 a1_10 a1_11 a1_12) else (if (a0_9 != a1_9) = true then (carryallref11_Same.j0 k true a0_0 a0_1 a0_2 a0_3 a0_4 a0_5 a0_6 a0_7 l0_8 a0_9 a0_10 a0_11 a0_12 a1_0 a1_1 a1_2 a1_3 a1_4 a1_5 a1_6 a1_7 l1_8 a1_9 a1_10 a1_11 a1_12) else (carryallref11_Same.j0 k (a0_10 != a1_10) a0_0 a0_1 a0_2 a0_3 a0_4 a0_5 a0_6 a0_7 l0_8 a0_9 a0_10 a0_11 a0_12 a1_0 a1_1 a1_2 a1_3 a1_4 a1_5 a1_6 a1_7 l1_8 a1_9 a1_10 a1_11 a1_12))) else (carryallref11_Same.j0 k true a0_0 a0_1 a0_2 a0_3 a0_4 a0_5 a0_6 a0_7 l0_8 a0_9 a0_10 a0_11 a0_12 a1_0 a1_1 a1_2 a1_3 a1_4 a1_5 a1_6 a1_7 l1_8 a1_9 a1_10 a1_11 a1_12))) else (carryallref11_Same.j0 k true a0_0 a0_1 a0_2 a0_3 a0_4 a0_5 a0_6 a0_7 l0_8 a0_9 a0_10 a0_11 a0_12 a1_0 a1_1 a1_2 a1_3 a1_4 a1_5 a1_6 a1_7 l1_8 a1_9 a1_10 a1_11 a1_12)) else (carryallref11_Same.j0 k true a0_0 a0_1 a0_2 a0_3 a0_4 a0_5 a0_6 a0_7 l0_8 a0_9 a0_10 a0_11 a0_12 a1_0 a1_1 a1_2 a1_3 a1_4 a1_5 a1_6 a1_7 l1_8 a1_9 a1_10 a1_11 a1_12)) else (carryallref11_Same.j0 k true a0_0 a0_1 a0_2 a0_3 a0_4 a0_5 a0_6 a0_7 l0_8 a0_9 a0_10 a0_11 a0_12 a1_0 a1_1 a1_2 a1_3 a1_4 a1_5 a1_6 a1_7 l1_8 a1_9 a1_10 a1_11 a1_12)) = some r := h
 clear h
 have HC3 := Aside0.mk H
 clear H
 go_enter Tryz.func11, Tryz.ntmps11
 go_upto_region 1 with (first | ((with_reducible refine gate_dst (N := 2) rfl ?_); refine box_event ?hg (N := 2) ?hd (cs := #[.string a0_0, .string a0_1, .string a0_2, .string a0_3, .bool a0_4, .int .i64 a0_5, .bool a0_6, .string a0_7, .slice A0_8 l0_8.length c0_8, .bool a0_9, .bool a0_10, .string a0_11, .string a0_12]) (t := 25) ?hr ?_; (case hd => rfl); (case hg => rfl); (case hr => first | (go_simp; done) | (go_simp; rfl)); intro gb311 hg w4 hbox hb; have n0_ := Aside0.mk (below_step (by repeat (first | (with_reducible first | exact HB.out | apply below_alloc | apply pw_below_drewN | apply below_drew1) | exact HB.out)) hb); have n1_ := Aside0.mk (hbox); have n2_ := Aside0.mk ((by rw [hg]; exact (below_size (by repeat (first | (with_reducible first | exact HB.out | apply below_alloc | apply pw_below_drewN | apply below_drew1) | exact HB.out))) : w.heap.size ≤ gb311)); have n3_ := Aside0.mk ((by rw [hg]; exact (below_size (by repeat (first | (with_reducible first | exact HB.out | apply below_alloc | apply pw_below_drewN | apply below_drew1) | exact HB.out))) : w.heap.size ≤ gb311)); clear HB; have HB := n0_; have BK311 := n1_; have GW311 := n2_; have GE311 := n3_; clear n0_ n1_ n2_ n3_; clear hb hbox hg) | ((with_reducible refine gate_dst (N := 3) rfl ?_); refine box_event ?hg (N := 3) ?hd (cs := #[.string a1_0, .string a1_1, .string a1_2, .string a1_3, .bool a1_4, .int .i64 a1_5, .bool a1_6, .string a1_7, .slice A1_8 l1_8.length c1_8, .bool a1_9, .bool a1_10, .string a1_11, .string a1_12]) (t := 25) ?hr ?_; (case hd => rfl); (case hg => rfl); (case hr => first | (go_simp; done) | (go_simp; rfl)); intro gb312 hg w5 hbox hb; have n0_ := Aside0.mk (blk_below (g := gb311) (o := .cells #[.string a0_0, .string a0_1, .string a0_2, .string a0_3, .bool a0_4, .int .i64 a0_5, .bool a0_6, .string a0_7, .slice A0_8 l0_8.length c0_8, .bool a0_9, .bool a0_10, .string a0_11, .string a0_12] 25 (0, 0)) (by (with_reducible repeat (first | refine blk_drewN ?_ _ | refine blk_drew ?_ | refine blk_alloc ?_ _)); exact BK311.out) hb); have n1_ := Aside0.mk (below_step (by repeat (first | (with_reducible first | exact HB.out | apply below_alloc | apply pw_below_drewN | apply below_drew1 | refine below_set ?_ GE311.out) | exact HB.out)) hb); have n2_ := Aside0.mk (hbox); have n3_ := Aside0.mk ((by rw [hg]; exact (below_size (by repeat (first | (with_reducible first | exact HB.out | apply below_alloc | apply pw_below_drewN | apply below_drew1 | refine below_set ?_ GE311.out) | exact HB.out))) : w.heap.size ≤ gb312)); have n4_ := Aside0.mk ((by rw [hg]; exact (below_size (by repeat (first | (with_reducible first | exact HB.out | apply below_alloc | apply pw_below_drewN | apply below_drew1 | refine below_set ?_ GE311.out) | exact HB.out))) : w.heap.size ≤ gb312)); have n5_ := Aside0.mk ((by rw [hg]; exact Nat.ne_of_lt (blk_lt (g := gb311) (o := .cells #[.string a0_0, .string a0_1, .string a0_2, .string a0_3, .bool a0_4, .int .i64 a0_5, .bool a0_6, .string a0_7, .slice A0_8 l0_8.length c0_8, .bool a0_9, .bool a0_10, .string a0_11, .string a0_12] 25 (0, 0)) (by (with_reducible repeat (first | refine blk_drewN ?_ _ | refine blk_drew ?_ | refine blk_alloc ?_ _)); exact BK311.out)) : gb311 ≠ gb312)); have n6_ := Aside0.mk ((by rw [hg]; exact Nat.ne_of_gt (blk_lt (g := gb311) (o := .cells #[.string a0_0, .string a0_1, .string a0_2, .string a0_3, .bool a0_4, .int .i64 a0_5, .bool a0_6, .string a0_7, .slice A0_8 l0_8.length c0_8, .bool a0_9, .bool a0_10, .string a0_11, .string a0_12] 25 (0, 0)) (by (with_reducible repeat (first | refine blk_drewN ?_ _ | refine blk_drew ?_ | refine blk_alloc ?_ _)); exact BK311.out)) : gb312 ≠ gb311)); clear BK311; clear HB; have BK311 := n0_; have HB := n1_; have BK312 := n2_; have GW312 := n3_; have GE312 := n4_; have NB311_312 := n5_; have NB312_311 := n6_; clear n0_ n1_ n2_ n3_ n4_ n5_ n6_; clear hb hbox hg))
 (try simp only [Act.put, List.setIfInBounds_toArray, List.set_cons_zero, List.set_cons_succ])
 go_cut [58] (fun v58 wc => ∃ (kq : Nat) (x58_2 : Bool), v58 = .bool x58_2 ∧ Aside0 (carryallref11_Same.j0 kq x58_2 a0_0 a0_1 a0_2 a0_3 a0_4 a0_5 a0_6 a0_7 l0_8 a0_9 a0_10 a0_11 a0_12 a1_0 a1_1 a1_2 a1_3 a1_4 a1_5 a1_6 a1_7 l1_8 a1_9 a1_10 a1_11 a1_12 = some r) ∧ Aside0 (kq ≤ k) ∧ Aside0 (wc.heap[gb311]? = some (.cells #[.string a0_0, .string a0_1, .string a0_2, .string a0_3, .bool a0_4, .int .i64 a0_5, .bool a0_6, .string a0_7, (.slice A0_8 l0_8.length c0_8), .bool a0_9, .bool a0_10, .string a0_11, .string a0_12] 25 (0, 0))) ∧ Aside0 (wc.heap[gb312]? = some (.cells #[.string a1_0, .string a1_1, .string a1_2, .string a1_3, .bool a1_4, .int .i64 a1_5, .bool a1_6, .string a1_7, (.slice A1_8 l1_8.length c1_8), .bool a1_9, .bool a1_10, .string a1_11, .string a1_12] 25 (0, 0))) ∧ Aside0 (Below w.heap.size w wc))
 case first =>
  have H := HC3.out
  clear HC3
  by_cases c6 : a0_0.toList = a1_0.toList
  ·rw [if_pos c6] at H
   have c6b0 : (a0_0.toList == a1_0.toList) = true := beq_iff_eq.mpr c6
   have c6b1 : (a0_0.toList != a1_0.toList) = false := bne_eq_false_iff_eq.mpr c6
   clear c6
   (first | rw [c6b0] | (simp only [i64_w, i32_w]; rw [c6b0]) | skip)
   by_cases c7 : a0_1.toList = a1_1.toList
   ·rw [if_pos c7] at H
    have c7b0 : (a0_1.toList == a1_1.toList) = true := beq_iff_eq.mpr c7
    have c7b1 : (a0_1.toList != a1_1.toList) = false := bne_eq_false_iff_eq.mpr c7
    clear c7
    by_cases c8 : a0_2.toList = a1_2.toList
    ·rw [if_pos c8] at H
     have c8b0 : (a0_2.toList == a1_2.toList) = true := beq_iff_eq.mpr c8
     have c8b1 : (a0_2.toList != a1_2.toList) = false := bne_eq_false_iff_eq.mpr c8
     clear c8
     by_cases c9 : (a0_4 != a1_4) = true
     ·rw [if_pos c9] at H
      have c9b0 : (a0_4 != a1_4) = true := c9
      (try (have c9b1 : decide (a0_4 = a1_4) = false := by simpa using c9))
      (try (have c9b2 : (a0_4 == a1_4) = false := by simpa using c9))
      (try (have c9b3 : ¬ (a0_4 = a1_4) := by simpa using c9))
      clear c9
      exact absurd (H.trans (congrArg some HQ.out)) carryallref11_Same.j0_no
     ·rw [if_neg c9] at H
      have c9b0 : (a0_4 != a1_4) = false := by simpa using c9
      (try (have c9b1 : decide (a0_4 = a1_4) = true := by simpa using c9))
      (try (have c9b2 : (a0_4 == a1_4) = true := by simpa using c9))
      clear c9
      by_cases c13 : a0_5 = a1_5
      ·rw [if_pos c13] at H
       have c13b0 : (a0_5 == a1_5) = true := beq_iff_eq.mpr c13
       have c13b1 : (a0_5 != a1_5) = false := bne_eq_false_iff_eq.mpr c13
       clear c13
       by_cases c14 : (a0_6 != a1_6) = true
       ·rw [if_pos c14] at H
        have c14b0 : (a0_6 != a1_6) = true := c14
        (try (have c14b1 : decide (a0_6 = a1_6) = false := by simpa using c14))
        (try (have c14b2 : (a0_6 == a1_6) = false := by simpa using c14))
        (try (have c14b3 : ¬ (a0_6 = a1_6) := by simpa using c14))
        clear c14
        exact absurd (H.trans (congrArg some HQ.out)) carryallref11_Same.j0_no
       ·rw [if_neg c14] at H
        have c14b0 : (a0_6 != a1_6) = false := by simpa using c14
        (try (have c14b1 : decide (a0_6 = a1_6) = true := by simpa using c14))
        (try (have c14b2 : (a0_6 == a1_6) = true := by simpa using c14))
        clear c14
        by_cases c18 : (a0_9 != a1_9) = true
        ·rw [if_pos c18] at H
         have c18b0 : (a0_9 != a1_9) = true := c18
         (try (have c18b1 : decide (a0_9 = a1_9) = false := by simpa using c18))
         (try (have c18b2 : (a0_9 == a1_9) = false := by simpa using c18))
         (try (have c18b3 : ¬ (a0_9 = a1_9) := by simpa using c18))
         clear c18
         exact absurd (H.trans (congrArg some HQ.out)) carryallref11_Same.j0_no
        ·rw [if_neg c18] at H
         have c18b0 : (a0_9 != a1_9) = false := by simpa using c18
         (try (have c18b1 : decide (a0_9 = a1_9) = true := by simpa using c18))
         (try (have c18b2 : (a0_9 == a1_9) = true := by simpa using c18))
         clear c18
         have H' := Aside0.mk H
         clear H
         have hnb22 := NB311_312.out
         have hnc22 := NB312_311.out
         have hcz23_0 : w5.cell? ⟨gb311, 0, none⟩ = some (.string a0_0) := (blk_cell BK311.out 0).trans rfl
         have hcz23_1 : w5.cell? ⟨gb311, 1, none⟩ = some (.string a0_1) := (blk_cell BK311.out 1).trans rfl
         have hcz23_2 : w5.cell? ⟨gb311, 2, none⟩ = some (.string a0_2) := (blk_cell BK311.out 2).trans rfl
         have hcz23_3 : w5.cell? ⟨gb311, 3, none⟩ = some (.string a0_3) := (blk_cell BK311.out 3).trans rfl
         have hcz23_4 : w5.cell? ⟨gb311, 4, none⟩ = some (.bool a0_4) := (blk_cell BK311.out 4).trans rfl
         have hcz23_5 : w5.cell? ⟨gb311, 5, none⟩ = some (.int .i64 a0_5) := (blk_cell BK311.out 5).trans rfl
         have hcz23_6 : w5.cell? ⟨gb311, 6, none⟩ = some (.bool a0_6) := (blk_cell BK311.out 6).trans rfl
         have hcz23_7 : w5.cell? ⟨gb311, 7, none⟩ = some (.string a0_7) := (blk_cell BK311.out 7).trans rfl
         have hcz23_8 : w5.cell? ⟨gb311, 8, none⟩ = some (.slice A0_8 l0_8.length c0_8) := (blk_cell BK311.out 8).trans rfl
         have hcz23_9 : w5.cell? ⟨gb311, 9, none⟩ = some (.bool a0_9) := (blk_cell BK311.out 9).trans rfl
         have hcz23_10 : w5.cell? ⟨gb311, 10, none⟩ = some (.bool a0_10) := (blk_cell BK311.out 10).trans rfl
         have hcz23_11 : w5.cell? ⟨gb311, 11, none⟩ = some (.string a0_11) := (blk_cell BK311.out 11).trans rfl
         have hcz23_12 : w5.cell? ⟨gb311, 12, none⟩ = some (.string a0_12) := (blk_cell BK311.out 12).trans rfl
         have hfz23_0 := blk_frozen BK311.out 0
         have hfz23_1 := blk_frozen BK311.out 1
         have hfz23_2 := blk_frozen BK311.out 2
         have hfz23_3 := blk_frozen BK311.out 3
         have hfz23_4 := blk_frozen BK311.out 4
         have hfz23_5 := blk_frozen BK311.out 5
         have hfz23_6 := blk_frozen BK311.out 6
         have hfz23_7 := blk_frozen BK311.out 7
         have hfz23_8 := blk_frozen BK311.out 8
         have hfz23_9 := blk_frozen BK311.out 9
         have hfz23_10 := blk_frozen BK311.out 10
         have hfz23_11 := blk_frozen BK311.out 11
         have hfz23_12 := blk_frozen BK311.out 12
         have hcz24_0 : w5.cell? ⟨gb312, 0, none⟩ = some (.string a1_0) := (blk_cell BK312.out 0).trans rfl
         have hcz24_1 : w5.cell? ⟨gb312, 1, none⟩ = some (.string a1_1) := (blk_cell BK312.out 1).trans rfl
         have hcz24_2 : w5.cell? ⟨gb312, 2, none⟩ = some (.string a1_2) := (blk_cell BK312.out 2).trans rfl
         have hcz24_3 : w5.cell? ⟨gb312, 3, none⟩ = some (.string a1_3) := (blk_cell BK312.out 3).trans rfl
         have hcz24_4 : w5.cell? ⟨gb312, 4, none⟩ = some (.bool a1_4) := (blk_cell BK312.out 4).trans rfl
         have hcz24_5 : w5.cell? ⟨gb312, 5, none⟩ = some (.int .i64 a1_5) := (blk_cell BK312.out 5).trans rfl
         have hcz24_6 : w5.cell? ⟨gb312, 6, none⟩ = some (.bool a1_6) := (blk_cell BK312.out 6).trans rfl
         have hcz24_7 : w5.cell? ⟨gb312, 7, none⟩ = some (.string a1_7) := (blk_cell BK312.out 7).trans rfl
         have hcz24_8 : w5.cell? ⟨gb312, 8, none⟩ = some (.slice A1_8 l1_8.length c1_8) := (blk_cell BK312.out 8).trans rfl
         have hcz24_9 : w5.cell? ⟨gb312, 9, none⟩ = some (.bool a1_9) := (blk_cell BK312.out 9).trans rfl
         have hcz24_10 : w5.cell? ⟨gb312, 10, none⟩ = some (.bool a1_10) := (blk_cell BK312.out 10).trans rfl
         have hcz24_11 : w5.cell? ⟨gb312, 11, none⟩ = some (.string a1_11) := (blk_cell BK312.out 11).trans rfl
         have hcz24_12 : w5.cell? ⟨gb312, 12, none⟩ = some (.string a1_12) := (blk_cell BK312.out 12).trans rfl
         have hfz24_0 := blk_frozen BK312.out 0
         have hfz24_1 := blk_frozen BK312.out 1
         have hfz24_2 := blk_frozen BK312.out 2
         have hfz24_3 := blk_frozen BK312.out 3
         have hfz24_4 := blk_frozen BK312.out 4
         have hfz24_5 := blk_frozen BK312.out 5
         have hfz24_6 := blk_frozen BK312.out 6
         have hfz24_7 := blk_frozen BK312.out 7
         have hfz24_8 := blk_frozen BK312.out 8
         have hfz24_9 := blk_frozen BK312.out 9
         have hfz24_10 := blk_frozen BK312.out 10
         have hfz24_11 := blk_frozen BK312.out 11
         have hfz24_12 := blk_frozen BK312.out 12
         go_wp2
         go_meet
         case rel => exact ⟨_, ((a0_10 != a1_10)), (by first | rfl | (simp; done) | (simp [*]; done) | (simp [G.isEmpty_ne]; done)), H', ⟨by first | omega | exact Nat.le_refl _⟩, ⟨by (with_reducible repeat (first | refine blk_drewN ?_ _ | refine blk_drew ?_ | refine blk_alloc ?_ _)); exact BK311.out⟩, ⟨by (with_reducible repeat (first | refine blk_drewN ?_ _ | refine blk_drew ?_ | refine blk_alloc ?_ _)); exact BK312.out⟩, ⟨by repeat (first | (with_reducible first | exact HB.out | apply below_alloc | apply pw_below_drewN | apply below_drew1 | refine below_set ?_ GE311.out | refine below_set ?_ GE312.out) | exact HB.out)⟩⟩
      ·rw [if_neg c13] at H
       have c13b0 : (a0_5 == a1_5) = false := beq_eq_false_iff_ne.mpr c13
       have c13b1 : (a0_5 != a1_5) = true := bne_iff_ne.mpr c13
       exact absurd (H.trans (congrArg some HQ.out)) carryallref11_Same.j0_no
    ·rw [if_neg c8] at H
     have c8b0 : (a0_2.toList == a1_2.toList) = false := beq_eq_false_iff_ne.mpr c8
     have c8b1 : (a0_2.toList != a1_2.toList) = true := bne_iff_ne.mpr c8
     exact absurd (H.trans (congrArg some HQ.out)) carryallref11_Same.j0_no
   ·rw [if_neg c7] at H
    have c7b0 : (a0_1.toList == a1_1.toList) = false := beq_eq_false_iff_ne.mpr c7
    have c7b1 : (a0_1.toList != a1_1.toList) = true := bne_iff_ne.mpr c7
    exact absurd (H.trans (congrArg some HQ.out)) carryallref11_Same.j0_no
  ·rw [if_neg c6] at H
   have c6b0 : (a0_0.toList == a1_0.toList) = false := beq_eq_false_iff_ne.mpr c6
   have c6b1 : (a0_0.toList != a1_0.toList) = true := bne_iff_ne.mpr c6
   (first | rw [c6b0] | (simp only [i64_w, i32_w]; rw [c6b0]) | skip)
   exact absurd (H.trans (congrArg some HQ.out)) carryallref11_Same.j0_no
 case rest =>
  clear HC3
  try clear c1
  try clear c2
  try clear p2
  try clear c3
  try clear c6
  try clear c6b0
  try clear c6b1
  try clear c7
  try clear c7b0
  try clear c7b1
  try clear c8
  try clear c8b0
  try clear c8b1
  try clear c9
  try clear c9b0
  try clear c9b1
  try clear c9b2
  try clear c10
  try clear c11
  try clear c13
  try clear c13b0
  try clear c13b1
  try clear c14
  try clear c14b0
  try clear c14b1
  try clear c14b2
  try clear c15
  try clear c18
  try clear c18b0
  try clear c18b1
  try clear c18b2
  try clear c19
  try clear c22
  try clear c25
  try clear c28
  try clear c31
  try clear c34
  try clear hcz11_0
  try clear hcz11_1
  try clear hcz11_10
  try clear hcz11_11
  try clear hcz11_12
  try clear hcz11_2
  try clear hcz11_3
  try clear hcz11_4
  try clear hcz11_5
  try clear hcz11_6
  try clear hcz11_7
  try clear hcz11_8
  try clear hcz11_9
  try clear hcz12_0
  try clear hcz12_1
  try clear hcz12_10
  try clear hcz12_11
  try clear hcz12_12
  try clear hcz12_2
  try clear hcz12_3
  try clear hcz12_4
  try clear hcz12_5
  try clear hcz12_6
  try clear hcz12_7
  try clear hcz12_8
  try clear hcz12_9
  try clear hcz16_0
  try clear hcz16_1
  try clear hcz16_10
  try clear hcz16_11
  try clear hcz16_12
  try clear hcz16_2
  try clear hcz16_3
  try clear hcz16_4
  try clear hcz16_5
  try clear hcz16_6
  try clear hcz16_7
  try clear hcz16_8
  try clear hcz16_9
  try clear hcz17_0
  try clear hcz17_1
  try clear hcz17_10
  try clear hcz17_11
  try clear hcz17_12
  try clear hcz17_2
  try clear hcz17_3
  try clear hcz17_4
  try clear hcz17_5
  try clear hcz17_6
  try clear hcz17_7
  try clear hcz17_8
  try clear hcz17_9
  try clear hcz20_0
  try clear hcz20_1
  try clear hcz20_10
  try clear hcz20_11
  try clear hcz20_12
  try clear hcz20_2
  try clear hcz20_3
  try clear hcz20_4
  try clear hcz20_5
  try clear hcz20_6
  try clear hcz20_7
  try clear hcz20_8
  try clear hcz20_9
  try clear hcz21_0
  try clear hcz21_1
  try clear hcz21_10
  try clear hcz21_11
  try clear hcz21_12
  try clear hcz21_2
  try clear hcz21_3
  try clear hcz21_4
  try clear hcz21_5
  try clear hcz21_6
  try clear hcz21_7
  try clear hcz21_8
  try clear hcz21_9
  try clear hcz23_0
  try clear hcz23_1
  try clear hcz23_10
  try clear hcz23_11
  try clear hcz23_12
  try clear hcz23_2
  try clear hcz23_3
  try clear hcz23_4
  try clear hcz23_5
  try clear hcz23_6
  try clear hcz23_7
  try clear hcz23_8
  try clear hcz23_9
  try clear hcz24_0
  try clear hcz24_1
  try clear hcz24_10
  try clear hcz24_11
  try clear hcz24_12
  try clear hcz24_2
  try clear hcz24_3
  try clear hcz24_4
  try clear hcz24_5
  try clear hcz24_6
  try clear hcz24_7
  try clear hcz24_8
  try clear hcz24_9
  try clear hcz26_0
  try clear hcz26_1
  try clear hcz26_10
  try clear hcz26_11
  try clear hcz26_12
  try clear hcz26_2
  try clear hcz26_3
  try clear hcz26_4
  try clear hcz26_5
  try clear hcz26_6
  try clear hcz26_7
  try clear hcz26_8
  try clear hcz26_9
  try clear hcz27_0
  try clear hcz27_1
  try clear hcz27_10
  try clear hcz27_11
  try clear hcz27_12
  try clear hcz27_2
  try clear hcz27_3
  try clear hcz27_4
  try clear hcz27_5
  try clear hcz27_6
  try clear hcz27_7
  try clear hcz27_8
  try clear hcz27_9
  try clear hcz29_0
  try clear hcz29_1
  try clear hcz29_10
  try clear hcz29_11
  try clear hcz29_12
  try clear hcz29_2
  try clear hcz29_3
  try clear hcz29_4
  try clear hcz29_5
  try clear hcz29_6
  try clear hcz29_7
  try clear hcz29_8
  try clear hcz29_9
  try clear hcz30_0
  try clear hcz30_1
  try clear hcz30_10
  try clear hcz30_11
  try clear hcz30_12
  try clear hcz30_2
  try clear hcz30_3
  try clear hcz30_4
  try clear hcz30_5
  try clear hcz30_6
  try clear hcz30_7
  try clear hcz30_8
  try clear hcz30_9
  try clear hcz32_0
  try clear hcz32_1
  try clear hcz32_10
  try clear hcz32_11
  try clear hcz32_12
  try clear hcz32_2
  try clear hcz32_3
  try clear hcz32_4
  try clear hcz32_5
  try clear hcz32_6
  try clear hcz32_7
  try clear hcz32_8
  try clear hcz32_9
  try clear hcz33_0
  try clear hcz33_1
  try clear hcz33_10
  try clear hcz33_11
  try clear hcz33_12
  try clear hcz33_2
  try clear hcz33_3
  try clear hcz33_4
  try clear hcz33_5
  try clear hcz33_6
  try clear hcz33_7
  try clear hcz33_8
  try clear hcz33_9
  try clear hcz35_0
  try clear hcz35_1
  try clear hcz35_10
  try clear hcz35_11
  try clear hcz35_12
  try clear hcz35_2
  try clear hcz35_3
  try clear hcz35_4
  try clear hcz35_5
  try clear hcz35_6
  try clear hcz35_7
  try clear hcz35_8
  try clear hcz35_9
  try clear hcz36_0
  try clear hcz36_1
  try clear hcz36_10
  try clear hcz36_11
  try clear hcz36_12
  try clear hcz36_2
  try clear hcz36_3
  try clear hcz36_4
  try clear hcz36_5
  try clear hcz36_6
  try clear hcz36_7
  try clear hcz36_8
  try clear hcz36_9
  try clear hfz11_0
  try clear hfz11_1
  try clear hfz11_10
  try clear hfz11_11
  try clear hfz11_12
  try clear hfz11_2
  try clear hfz11_3
  try clear hfz11_4
  try clear hfz11_5
  try clear hfz11_6
  try clear hfz11_7
  try clear hfz11_8
  try clear hfz11_9
  try clear hfz12_0
  try clear hfz12_1
  try clear hfz12_10
  try clear hfz12_11
  try clear hfz12_12
  try clear hfz12_2
  try clear hfz12_3
  try clear hfz12_4
  try clear hfz12_5
  try clear hfz12_6
  try clear hfz12_7
  try clear hfz12_8
  try clear hfz12_9
  try clear hfz16_0
  try clear hfz16_1
  try clear hfz16_10
  try clear hfz16_11
  try clear hfz16_12
  try clear hfz16_2
  try clear hfz16_3
  try clear hfz16_4
  try clear hfz16_5
  try clear hfz16_6
  try clear hfz16_7
  try clear hfz16_8
  try clear hfz16_9
  try clear hfz17_0
  try clear hfz17_1
  try clear hfz17_10
  try clear hfz17_11
  try clear hfz17_12
  try clear hfz17_2
  try clear hfz17_3
  try clear hfz17_4
  try clear hfz17_5
  try clear hfz17_6
  try clear hfz17_7
  try clear hfz17_8
  try clear hfz17_9
  try clear hfz20_0
  try clear hfz20_1
  try clear hfz20_10
  try clear hfz20_11
  try clear hfz20_12
  try clear hfz20_2
  try clear hfz20_3
  try clear hfz20_4
  try clear hfz20_5
  try clear hfz20_6
  try clear hfz20_7
  try clear hfz20_8
  try clear hfz20_9
  try clear hfz21_0
  try clear hfz21_1
  try clear hfz21_10
  try clear hfz21_11
  try clear hfz21_12
  try clear hfz21_2
  try clear hfz21_3
  try clear hfz21_4
  try clear hfz21_5
  try clear hfz21_6
  try clear hfz21_7
  try clear hfz21_8
  try clear hfz21_9
  try clear hfz23_0
  try clear hfz23_1
  try clear hfz23_10
  try clear hfz23_11
  try clear hfz23_12
  try clear hfz23_2
  try clear hfz23_3
  try clear hfz23_4
  try clear hfz23_5
  try clear hfz23_6
  try clear hfz23_7
  try clear hfz23_8
  try clear hfz23_9
  try clear hfz24_0
  try clear hfz24_1
  try clear hfz24_10
  try clear hfz24_11
  try clear hfz24_12
  try clear hfz24_2
  try clear hfz24_3
  try clear hfz24_4
  try clear hfz24_5
  try clear hfz24_6
  try clear hfz24_7
  try clear hfz24_8
  try clear hfz24_9
  try clear hfz26_0
  try clear hfz26_1
  try clear hfz26_10
  try clear hfz26_11
  try clear hfz26_12
  try clear hfz26_2
  try clear hfz26_3
  try clear hfz26_4
  try clear hfz26_5
  try clear hfz26_6
  try clear hfz26_7
  try clear hfz26_8
  try clear hfz26_9
  try clear hfz27_0
  try clear hfz27_1
  try clear hfz27_10
  try clear hfz27_11
  try clear hfz27_12
  try clear hfz27_2
  try clear hfz27_3
  try clear hfz27_4
  try clear hfz27_5
  try clear hfz27_6
  try clear hfz27_7
  try clear hfz27_8
  try clear hfz27_9
  try clear hfz29_0
  try clear hfz29_1
  try clear hfz29_10
  try clear hfz29_11
  try clear hfz29_12
  try clear hfz29_2
  try clear hfz29_3
  try clear hfz29_4
  try clear hfz29_5
  try clear hfz29_6
  try clear hfz29_7
  try clear hfz29_8
  try clear hfz29_9
  try clear hfz30_0
  try clear hfz30_1
  try clear hfz30_10
  try clear hfz30_11
  try clear hfz30_12
  try clear hfz30_2
  try clear hfz30_3
  try clear hfz30_4
  try clear hfz30_5
  try clear hfz30_6
  try clear hfz30_7
  try clear hfz30_8
  try clear hfz30_9
  try clear hfz32_0
  try clear hfz32_1
  try clear hfz32_10
  try clear hfz32_11
  try clear hfz32_12
  try clear hfz32_2
  try clear hfz32_3
  try clear hfz32_4
  try clear hfz32_5
  try clear hfz32_6
  try clear hfz32_7
  try clear hfz32_8
  try clear hfz32_9
  try clear hfz33_0
  try clear hfz33_1
  try clear hfz33_10
  try clear hfz33_11
  try clear hfz33_12
  try clear hfz33_2
  try clear hfz33_3
  try clear hfz33_4
  try clear hfz33_5
  try clear hfz33_6
  try clear hfz33_7
  try clear hfz33_8
  try clear hfz33_9
  try clear hfz35_0
  try clear hfz35_1
  try clear hfz35_10
  try clear hfz35_11
  try clear hfz35_12
  try clear hfz35_2
  try clear hfz35_3
  try clear hfz35_4
  try clear hfz35_5
  try clear hfz35_6
  try clear hfz35_7
  try clear hfz35_8
  try clear hfz35_9
  try clear hfz36_0
  try clear hfz36_1
  try clear hfz36_10
  try clear hfz36_11
  try clear hfz36_12
  try clear hfz36_2
  try clear hfz36_3
  try clear hfz36_4
  try clear hfz36_5
  try clear hfz36_6
  try clear hfz36_7
  try clear hfz36_8
  try clear hfz36_9
  obtain ⟨kq, x58_2, rfl, HA, HJ2, BK311, BK312, HB⟩ := hcut
  cases kq with
  | zero => exact absurd HA.out (by simp [carryallref11_Same.j0])
  | succ kj2 =>
   have H := HA.out
   clear HA
   simp only [carryallref11_Same.j0] at H
   by_cases c37 : x58_2 = true
   ·subst c37
    have H1 : (some false) = some r := by rw [if_pos rfl] at H; exact H
    clear H
    have H := H1
    clear H1
    obtain rfl := Option.some.inj H
    go_wp2
    go_ret
    exact ⟨by first | rfl | (simp [errW_none, errW_some] <;> rfl) | (simp [*, errW_none, errW_some] <;> rfl) | (simp [errW_none, errW_some, G.isEmpty_ne]; done), by repeat (first | (with_reducible first | exact HB.out | apply below_alloc | apply pw_below_drewN | apply below_drew1 | refine below_set ?_ GE311.out | refine below_set ?_ GE312.out) | exact HB.out)⟩
   ·replace c37 := Bool.eq_false_iff.mpr c37
    subst c37
    have H1 : (if a0_4 = true then (if a0_3.toList = a1_3.toList then (if a0_9 = true then (if a0_11.toList = a1_11.toList then (if a0_10 = true then (carryallref11_Same.j1 kj2 (a0_12.toList != a1_12.toList) a0_0 a0_1 a0_2 a0_3 a0_4 a0_5 a0_6 a0_7 l0_8 a0_9 a0_10 a0_11 a0_12 a1_0 a1_1 a1_2 a1_3 a1_4 a1_5 a1_6 a1_7 l1_8 a1_9 a1_10 a1_11 a1_12) else (carryallref11_Same.j1 kj2 false a0_0 a0_1 a0_2 a0_3 a0_4 a0_5 a0_6 a0_7 l0_8 a0_9 a0_10 a0_11 a0_12 a1_0 a1_1 a1_2 a1_3 a1_4 a1_5 a1_6 a1_7 l1_8 a1_9 a1_10 a1_11 a1_12)) else (carryallref11_Same.j1 kj2 true a0_0 a0_1 a0_2 a0_3 a0_4 a0_5 a0_6 a0_7 l0_8 a0_9 a0_10 a0_11 a0_12 a1_0 a1_1 a1_2 a1_3 a1_4 a1_5 a1_6 a1_7 l1_8 a1_9 a1_10 a1_11 a1_12)) else (if a0_10 = true then (carryallref11_Same.j1 kj2 (a0_12.toList != a1_12.toList) a0_0 a0_1 a0_2 a0_3 a0_4 a0_5 a0_6 a0_7 l0_8 a0_9 a0_10 a0_11 a0_12 a1_0 a1_1 a1_2 a1_3 a1_4 a1_5 a1_6 a1_7 l1_8 a1_9 a1_10 a1_11 a1_12) else (carryallref11_Same.j1 kj2 false a0_0 a0_1 a0_2 a0_3 a0_4 a0_5 a0_6 a0_7 l0_8 a0_9 a0_10 a0_11 a0_12 a1_0 a1_1 a1_2 a1_3 a1_4 a1_5 a1_6 a1_7 l1_8 a1_9 a1_10 a1_11 a1_12))) else (carryallref11_Same.j1 kj2 true a0_0 a0_1 a0_2 a0_3 a0_4 a0_5 a0_6 a0_7 l0_8 a0_9 a0_10 a0_11 a0_12 a1_0 a1_1 a1_2 a1_3 a1_4 a1_5 a1_6 a1_7 l1_8 a1_9 a1_10 a1_11 a1_12)) else (if a0_9 = true then (if a0_11.toList = a1_11.toList then (if a0_10 = true then (carryallref11_Same.j1 kj2 (a0_12.toList != a1_12.toList) a0_0 a0_1 a0_2 a0_3 a0_4 a0_5 a0_6 a0_7 l0_8 a0_9 a0_10 a0_11 a0_12 a1_0 a1_1 a1_2 a1_3 a1_4 a1_5 a1_6 a1_7 l1_8 a1_9 a1_10 a1_11 a1_12) else (carryallref11_Same.j1 kj2 false a0_0 a0_1 a0_2 a0_3 a0_4 a0_5 a0_6 a0_7 l0_8 a0_9 a0_10 a0_11 a0_12 a1_0 a1_1 a1_2 a1_3 a1_4 a1_5 a1_6 a1_7 l1_8 a1_9 a1_10 a1_11 a1_12)) else (carryallref11_Same.j1 kj2 true a0_0 a0_1 a0_2 a0_3 a0_4 a0_5 a0_6 a0_7 l0_8 a0_9 a0_10 a0_11 a0_12 a1_0 a1_1 a1_2 a1_3 a1_4 a1_5 a1_6 a1_7 l1_8 a1_9 a1_10 a1_11 a1_12)) else (if a0_10 = true then (carryallref11_Same.j1 kj2 (a0_12.toList != a1_12.toList) a0_0 a0_1 a0_2 a0_3 a0_4 a0_5 a0_6 a0_7 l0_8 a0_9 a0_10 a0_11 a0_12 a1_0 a1_1 a1_2 a1_3 a1_4 a1_5 a1_6 a1_7 l1_8 a1_9 a1_10 a1_11 a1_12) else (carryallref11_Same.j1 kj2 false a0_0 a0_1 a0_2 a0_3 a0_4 a0_5 a0_6 a0_7 l0_8 a0_9 a0_10 a0_11 a0_12 a1_0 a1_1 a1_2 a1_3 a1_4 a1_5 a1_6 a1_7 l1_8 a1_9 a1_10 a1_11 a1_12)))) = some r := by rw [if_neg (show ¬ (false = true) by decide)] at H; exact H
    clear H
    have H := H1
    clear H1
    have HC38 := Aside0.mk H
    clear H
    go_upto_region 3 with (fail)
    go_cut [89] (fun v89 wc => ∃ (kq : Nat) (x89_37 : Bool), v89 = .bool x89_37 ∧ Aside0 (carryallref11_Same.j1 kq x89_37 a0_0 a0_1 a0_2 a0_3 a0_4 a0_5 a0_6 a0_7 l0_8 a0_9 a0_10 a0_11 a0_12 a1_0 a1_1 a1_2 a1_3 a1_4 a1_5 a1_6 a1_7 l1_8 a1_9 a1_10 a1_11 a1_12 = some r) ∧ Aside0 (kq ≤ kj2) ∧ Aside0 (wc.heap[gb311]? = some (.cells #[.string a0_0, .string a0_1, .string a0_2, .string a0_3, .bool a0_4, .int .i64 a0_5, .bool a0_6, .string a0_7, (.slice A0_8 l0_8.length c0_8), .bool a0_9, .bool a0_10, .string a0_11, .string a0_12] 25 (0, 0))) ∧ Aside0 (wc.heap[gb312]? = some (.cells #[.string a1_0, .string a1_1, .string a1_2, .string a1_3, .bool a1_4, .int .i64 a1_5, .bool a1_6, .string a1_7, (.slice A1_8 l1_8.length c1_8), .bool a1_9, .bool a1_10, .string a1_11, .string a1_12] 25 (0, 0))) ∧ Aside0 (Below w.heap.size w wc))
    case first =>
     have H := HC38.out
     clear HC38
     by_cases c39 : a0_4 = true
     ·subst c39
      have H1 : (if a0_3.toList = a1_3.toList then (if a0_9 = true then (if a0_11.toList = a1_11.toList then (if a0_10 = true then (carryallref11_Same.j1 kj2 (a0_12.toList != a1_12.toList) a0_0 a0_1 a0_2 a0_3 true a0_5 a0_6 a0_7 l0_8 a0_9 a0_10 a0_11 a0_12 a1_0 a1_1 a1_2 a1_3 a1_4 a1_5 a1_6 a1_7 l1_8 a1_9 a1_10 a1_11 a1_12) else (carryallref11_Same.j1 kj2 false a0_0 a0_1 a0_2 a0_3 true a0_5 a0_6 a0_7 l0_8 a0_9 a0_10 a0_11 a0_12 a1_0 a1_1 a1_2 a1_3 a1_4 a1_5 a1_6 a1_7 l1_8 a1_9 a1_10 a1_11 a1_12)) else (carryallref11_Same.j1 kj2 true a0_0 a0_1 a0_2 a0_3 true a0_5 a0_6 a0_7 l0_8 a0_9 a0_10 a0_11 a0_12 a1_0 a1_1 a1_2 a1_3 a1_4 a1_5 a1_6 a1_7 l1_8 a1_9 a1_10 a1_11 a1_12)) else (if a0_10 = true then (carryallref11_Same.j1 kj2 (a0_12.toList != a1_12.toList) a0_0 a0_1 a0_2 a0_3 true a0_5 a0_6 a0_7 l0_8 a0_9 a0_10 a0_11 a0_12 a1_0 a1_1 a1_2 a1_3 a1_4 a1_5 a1_6 a1_7 l1_8 a1_9 a1_10 a1_11 a1_12) else (carryallref11_Same.j1 kj2 false a0_0 a0_1 a0_2 a0_3 true a0_5 a0_6 a0_7 l0_8 a0_9 a0_10 a0_11 a0_12 a1_0 a1_1 a1_2 a1_3 a1_4 a1_5 a1_6 a1_7 l1_8 a1_9 a1_10 a1_11 a1_12))) else (carryallref11_Same.j1 kj2 true a0_0 a0_1 a0_2 a0_3 true a0_5 a0_6 a0_7 l0_8 a0_9 a0_10 a0_11 a0_12 a1_0 a1_1 a1_2 a1_3 a1_4 a1_5 a1_6 a1_7 l1_8 a1_9 a1_10 a1_11 a1_12)) = some r := by rw [if_pos rfl] at H; exact H
      clear H
      have H := H1
      clear H1
      by_cases c40 : a0_3.toList = a1_3.toList
      ·rw [if_pos c40] at H
       have c40b0 : (a0_3.toList == a1_3.toList) = true := beq_iff_eq.mpr c40
       have c40b1 : (a0_3.toList != a1_3.toList) = false := bne_eq_false_iff_eq.mpr c40
       clear c40
       (first | rw [c40b0] | (simp only [i64_w, i32_w]; rw [c40b0]) | skip)
       by_cases c41 : a0_9 = true
       ·exact absurd (c41.symm.trans HQ9.out) (by decide)
       ·replace c41 := Bool.eq_false_iff.mpr c41
        subst c41
        have H1 : (if a0_10 = true then (carryallref11_Same.j1 kj2 (a0_12.toList != a1_12.toList) a0_0 a0_1 a0_2 a0_3 true a0_5 a0_6 a0_7 l0_8 false a0_10 a0_11 a0_12 a1_0 a1_1 a1_2 a1_3 a1_4 a1_5 a1_6 a1_7 l1_8 a1_9 a1_10 a1_11 a1_12) else (carryallref11_Same.j1 kj2 false a0_0 a0_1 a0_2 a0_3 true a0_5 a0_6 a0_7 l0_8 false a0_10 a0_11 a0_12 a1_0 a1_1 a1_2 a1_3 a1_4 a1_5 a1_6 a1_7 l1_8 a1_9 a1_10 a1_11 a1_12)) = some r := by rw [if_neg (show ¬ (false = true) by decide)] at H; exact H
        clear H
        have H := H1
        clear H1
        by_cases c53 : a0_10 = true
        ·exact absurd (c53.symm.trans HQ10.out) (by decide)
        ·replace c53 := Bool.eq_false_iff.mpr c53
         subst c53
         have H1 : (carryallref11_Same.j1 kj2 false a0_0 a0_1 a0_2 a0_3 true a0_5 a0_6 a0_7 l0_8 false false a0_11 a0_12 a1_0 a1_1 a1_2 a1_3 a1_4 a1_5 a1_6 a1_7 l1_8 a1_9 a1_10 a1_11 a1_12) = some r := by rw [if_neg (show ¬ (false = true) by decide)] at H; exact H
         clear H
         have H := H1
         clear H1
         have H' := Aside0.mk H
         clear H
         have hnb57 := NB311_312.out
         have hnc57 := NB312_311.out
         have hcz58_0 : wc.cell? ⟨gb311, 0, none⟩ = some (.string a0_0) := (blk_cell BK311.out 0).trans rfl
         have hcz58_1 : wc.cell? ⟨gb311, 1, none⟩ = some (.string a0_1) := (blk_cell BK311.out 1).trans rfl
         have hcz58_2 : wc.cell? ⟨gb311, 2, none⟩ = some (.string a0_2) := (blk_cell BK311.out 2).trans rfl
         have hcz58_3 : wc.cell? ⟨gb311, 3, none⟩ = some (.string a0_3) := (blk_cell BK311.out 3).trans rfl
         have hcz58_4 : wc.cell? ⟨gb311, 4, none⟩ = some (.bool true) := (blk_cell BK311.out 4).trans rfl
         have hcz58_5 : wc.cell? ⟨gb311, 5, none⟩ = some (.int .i64 a0_5) := (blk_cell BK311.out 5).trans rfl
         have hcz58_6 : wc.cell? ⟨gb311, 6, none⟩ = some (.bool a0_6) := (blk_cell BK311.out 6).trans rfl
         have hcz58_7 : wc.cell? ⟨gb311, 7, none⟩ = some (.string a0_7) := (blk_cell BK311.out 7).trans rfl
         have hcz58_8 : wc.cell? ⟨gb311, 8, none⟩ = some (.slice A0_8 l0_8.length c0_8) := (blk_cell BK311.out 8).trans rfl
         have hcz58_9 : wc.cell? ⟨gb311, 9, none⟩ = some (.bool false) := (blk_cell BK311.out 9).trans rfl
         have hcz58_10 : wc.cell? ⟨gb311, 10, none⟩ = some (.bool false) := (blk_cell BK311.out 10).trans rfl
         have hcz58_11 : wc.cell? ⟨gb311, 11, none⟩ = some (.string a0_11) := (blk_cell BK311.out 11).trans rfl
         have hcz58_12 : wc.cell? ⟨gb311, 12, none⟩ = some (.string a0_12) := (blk_cell BK311.out 12).trans rfl
         have hfz58_0 := blk_frozen BK311.out 0
         have hfz58_1 := blk_frozen BK311.out 1
         have hfz58_2 := blk_frozen BK311.out 2
         have hfz58_3 := blk_frozen BK311.out 3
         have hfz58_4 := blk_frozen BK311.out 4
         have hfz58_5 := blk_frozen BK311.out 5
         have hfz58_6 := blk_frozen BK311.out 6
         have hfz58_7 := blk_frozen BK311.out 7
         have hfz58_8 := blk_frozen BK311.out 8
         have hfz58_9 := blk_frozen BK311.out 9
         have hfz58_10 := blk_frozen BK311.out 10
         have hfz58_11 := blk_frozen BK311.out 11
         have hfz58_12 := blk_frozen BK311.out 12
         have hcz59_0 : wc.cell? ⟨gb312, 0, none⟩ = some (.string a1_0) := (blk_cell BK312.out 0).trans rfl
         have hcz59_1 : wc.cell? ⟨gb312, 1, none⟩ = some (.string a1_1) := (blk_cell BK312.out 1).trans rfl
         have hcz59_2 : wc.cell? ⟨gb312, 2, none⟩ = some (.string a1_2) := (blk_cell BK312.out 2).trans rfl
         have hcz59_3 : wc.cell? ⟨gb312, 3, none⟩ = some (.string a1_3) := (blk_cell BK312.out 3).trans rfl
         have hcz59_4 : wc.cell? ⟨gb312, 4, none⟩ = some (.bool a1_4) := (blk_cell BK312.out 4).trans rfl
         have hcz59_5 : wc.cell? ⟨gb312, 5, none⟩ = some (.int .i64 a1_5) := (blk_cell BK312.out 5).trans rfl
         have hcz59_6 : wc.cell? ⟨gb312, 6, none⟩ = some (.bool a1_6) := (blk_cell BK312.out 6).trans rfl
         have hcz59_7 : wc.cell? ⟨gb312, 7, none⟩ = some (.string a1_7) := (blk_cell BK312.out 7).trans rfl
         have hcz59_8 : wc.cell? ⟨gb312, 8, none⟩ = some (.slice A1_8 l1_8.length c1_8) := (blk_cell BK312.out 8).trans rfl
         have hcz59_9 : wc.cell? ⟨gb312, 9, none⟩ = some (.bool a1_9) := (blk_cell BK312.out 9).trans rfl
         have hcz59_10 : wc.cell? ⟨gb312, 10, none⟩ = some (.bool a1_10) := (blk_cell BK312.out 10).trans rfl
         have hcz59_11 : wc.cell? ⟨gb312, 11, none⟩ = some (.string a1_11) := (blk_cell BK312.out 11).trans rfl
         have hcz59_12 : wc.cell? ⟨gb312, 12, none⟩ = some (.string a1_12) := (blk_cell BK312.out 12).trans rfl
         have hfz59_0 := blk_frozen BK312.out 0
         have hfz59_1 := blk_frozen BK312.out 1
         have hfz59_2 := blk_frozen BK312.out 2
         have hfz59_3 := blk_frozen BK312.out 3
         have hfz59_4 := blk_frozen BK312.out 4
         have hfz59_5 := blk_frozen BK312.out 5
         have hfz59_6 := blk_frozen BK312.out 6
         have hfz59_7 := blk_frozen BK312.out 7
         have hfz59_8 := blk_frozen BK312.out 8
         have hfz59_9 := blk_frozen BK312.out 9
         have hfz59_10 := blk_frozen BK312.out 10
         have hfz59_11 := blk_frozen BK312.out 11
         have hfz59_12 := blk_frozen BK312.out 12
         go_wp2
         go_meet
         case rel => exact ⟨_, (false), (by first | rfl | (simp; done) | (simp [*]; done) | (simp [G.isEmpty_ne]; done)), H', ⟨by have := HJ2.out; first | omega | exact Nat.le_refl _⟩, ⟨by (with_reducible repeat (first | refine blk_drewN ?_ _ | refine blk_drew ?_ | refine blk_alloc ?_ _)); exact BK311.out⟩, ⟨by (with_reducible repeat (first | refine blk_drewN ?_ _ | refine blk_drew ?_ | refine blk_alloc ?_ _)); exact BK312.out⟩, ⟨by repeat (first | (with_reducible first | exact HB.out | apply below_alloc | apply pw_below_drewN | apply below_drew1 | refine below_set ?_ GE311.out | refine below_set ?_ GE312.out) | exact HB.out)⟩⟩
      ·rw [if_neg c40] at H
       have c40b0 : (a0_3.toList == a1_3.toList) = false := beq_eq_false_iff_ne.mpr c40
       have c40b1 : (a0_3.toList != a1_3.toList) = true := bne_iff_ne.mpr c40
       (first | rw [c40b0] | (simp only [i64_w, i32_w]; rw [c40b0]) | skip)
       exact absurd (H.trans (congrArg some HQ.out)) carryallref11_Same.j1_no
     ·replace c39 := Bool.eq_false_iff.mpr c39
      subst c39
      have H1 : (if a0_9 = true then (if a0_11.toList = a1_11.toList then (if a0_10 = true then (carryallref11_Same.j1 kj2 (a0_12.toList != a1_12.toList) a0_0 a0_1 a0_2 a0_3 false a0_5 a0_6 a0_7 l0_8 a0_9 a0_10 a0_11 a0_12 a1_0 a1_1 a1_2 a1_3 a1_4 a1_5 a1_6 a1_7 l1_8 a1_9 a1_10 a1_11 a1_12) else (carryallref11_Same.j1 kj2 false a0_0 a0_1 a0_2 a0_3 false a0_5 a0_6 a0_7 l0_8 a0_9 a0_10 a0_11 a0_12 a1_0 a1_1 a1_2 a1_3 a1_4 a1_5 a1_6 a1_7 l1_8 a1_9 a1_10 a1_11 a1_12)) else (carryallref11_Same.j1 kj2 true a0_0 a0_1 a0_2 a0_3 false a0_5 a0_6 a0_7 l0_8 a0_9 a0_10 a0_11 a0_12 a1_0 a1_1 a1_2 a1_3 a1_4 a1_5 a1_6 a1_7 l1_8 a1_9 a1_10 a1_11 a1_12)) else (if a0_10 = true then (carryallref11_Same.j1 kj2 (a0_12.toList != a1_12.toList) a0_0 a0_1 a0_2 a0_3 false a0_5 a0_6 a0_7 l0_8 a0_9 a0_10 a0_11 a0_12 a1_0 a1_1 a1_2 a1_3 a1_4 a1_5 a1_6 a1_7 l1_8 a1_9 a1_10 a1_11 a1_12) else (carryallref11_Same.j1 kj2 false a0_0 a0_1 a0_2 a0_3 false a0_5 a0_6 a0_7 l0_8 a0_9 a0_10 a0_11 a0_12 a1_0 a1_1 a1_2 a1_3 a1_4 a1_5 a1_6 a1_7 l1_8 a1_9 a1_10 a1_11 a1_12))) = some r := by rw [if_neg (show ¬ (false = true) by decide)] at H; exact H
      clear H
      have H := H1
      clear H1
      by_cases c63 : a0_9 = true
      ·exact absurd (c63.symm.trans HQ9.out) (by decide)
      ·replace c63 := Bool.eq_false_iff.mpr c63
       subst c63
       have H1 : (if a0_10 = true then (carryallref11_Same.j1 kj2 (a0_12.toList != a1_12.toList) a0_0 a0_1 a0_2 a0_3 false a0_5 a0_6 a0_7 l0_8 false a0_10 a0_11 a0_12 a1_0 a1_1 a1_2 a1_3 a1_4 a1_5 a1_6 a1_7 l1_8 a1_9 a1_10 a1_11 a1_12) else (carryallref11_Same.j1 kj2 false a0_0 a0_1 a0_2 a0_3 false a0_5 a0_6 a0_7 l0_8 false a0_10 a0_11 a0_12 a1_0 a1_1 a1_2 a1_3 a1_4 a1_5 a1_6 a1_7 l1_8 a1_9 a1_10 a1_11 a1_12)) = some r := by rw [if_neg (show ¬ (false = true) by decide)] at H; exact H
       clear H
       have H := H1
       clear H1
       by_cases c75 : a0_10 = true
       ·exact absurd (c75.symm.trans HQ10.out) (by decide)
       ·replace c75 := Bool.eq_false_iff.mpr c75
        subst c75
        have H1 : (carryallref11_Same.j1 kj2 false a0_0 a0_1 a0_2 a0_3 false a0_5 a0_6 a0_7 l0_8 false false a0_11 a0_12 a1_0 a1_1 a1_2 a1_3 a1_4 a1_5 a1_6 a1_7 l1_8 a1_9 a1_10 a1_11 a1_12) = some r := by rw [if_neg (show ¬ (false = true) by decide)] at H; exact H
        clear H
        have H := H1
        clear H1
        have H' := Aside0.mk H
        clear H
        have hnb79 := NB311_312.out
        have hnc79 := NB312_311.out
        have hcz80_0 : wc.cell? ⟨gb311, 0, none⟩ = some (.string a0_0) := (blk_cell BK311.out 0).trans rfl
        have hcz80_1 : wc.cell? ⟨gb311, 1, none⟩ = some (.string a0_1) := (blk_cell BK311.out 1).trans rfl
        have hcz80_2 : wc.cell? ⟨gb311, 2, none⟩ = some (.string a0_2) := (blk_cell BK311.out 2).trans rfl
        have hcz80_3 : wc.cell? ⟨gb311, 3, none⟩ = some (.string a0_3) := (blk_cell BK311.out 3).trans rfl
        have hcz80_4 : wc.cell? ⟨gb311, 4, none⟩ = some (.bool false) := (blk_cell BK311.out 4).trans rfl
        have hcz80_5 : wc.cell? ⟨gb311, 5, none⟩ = some (.int .i64 a0_5) := (blk_cell BK311.out 5).trans rfl
        have hcz80_6 : wc.cell? ⟨gb311, 6, none⟩ = some (.bool a0_6) := (blk_cell BK311.out 6).trans rfl
        have hcz80_7 : wc.cell? ⟨gb311, 7, none⟩ = some (.string a0_7) := (blk_cell BK311.out 7).trans rfl
        have hcz80_8 : wc.cell? ⟨gb311, 8, none⟩ = some (.slice A0_8 l0_8.length c0_8) := (blk_cell BK311.out 8).trans rfl
        have hcz80_9 : wc.cell? ⟨gb311, 9, none⟩ = some (.bool false) := (blk_cell BK311.out 9).trans rfl
        have hcz80_10 : wc.cell? ⟨gb311, 10, none⟩ = some (.bool false) := (blk_cell BK311.out 10).trans rfl
        have hcz80_11 : wc.cell? ⟨gb311, 11, none⟩ = some (.string a0_11) := (blk_cell BK311.out 11).trans rfl
        have hcz80_12 : wc.cell? ⟨gb311, 12, none⟩ = some (.string a0_12) := (blk_cell BK311.out 12).trans rfl
        have hfz80_0 := blk_frozen BK311.out 0
        have hfz80_1 := blk_frozen BK311.out 1
        have hfz80_2 := blk_frozen BK311.out 2
        have hfz80_3 := blk_frozen BK311.out 3
        have hfz80_4 := blk_frozen BK311.out 4
        have hfz80_5 := blk_frozen BK311.out 5
        have hfz80_6 := blk_frozen BK311.out 6
        have hfz80_7 := blk_frozen BK311.out 7
        have hfz80_8 := blk_frozen BK311.out 8
        have hfz80_9 := blk_frozen BK311.out 9
        have hfz80_10 := blk_frozen BK311.out 10
        have hfz80_11 := blk_frozen BK311.out 11
        have hfz80_12 := blk_frozen BK311.out 12
        go_wp2
        go_meet
        case rel => exact ⟨_, (false), (by first | rfl | (simp; done) | (simp [*]; done) | (simp [G.isEmpty_ne]; done)), H', ⟨by have := HJ2.out; first | omega | exact Nat.le_refl _⟩, ⟨by (with_reducible repeat (first | refine blk_drewN ?_ _ | refine blk_drew ?_ | refine blk_alloc ?_ _)); exact BK311.out⟩, ⟨by (with_reducible repeat (first | refine blk_drewN ?_ _ | refine blk_drew ?_ | refine blk_alloc ?_ _)); exact BK312.out⟩, ⟨by repeat (first | (with_reducible first | exact HB.out | apply below_alloc | apply pw_below_drewN | apply below_drew1 | refine below_set ?_ GE311.out | refine below_set ?_ GE312.out) | exact HB.out)⟩⟩
    case rest =>
     clear HC38
     try clear c1
     try clear p2
     try clear c3
     try clear c4
     try clear c5
     try clear c6
     try clear c7
     try clear c39
     try clear c40
     try clear c40b0
     try clear c40b1
     try clear c41
     try clear c42
     try clear c42b0
     try clear c42b1
     try clear c50
     try clear c53
     try clear c54
     try clear c57
     try clear c60
     try clear c63
     try clear c64
     try clear c64b0
     try clear c64b1
     try clear c65
     try clear c66
     try clear c69
     try clear c72
     try clear c75
     try clear c76
     try clear c79
     try clear hcz49_11
     try clear hcz49_12
     try clear hcz51_0
     try clear hcz51_1
     try clear hcz51_10
     try clear hcz51_11
     try clear hcz51_12
     try clear hcz51_2
     try clear hcz51_3
     try clear hcz51_4
     try clear hcz51_5
     try clear hcz51_6
     try clear hcz51_7
     try clear hcz51_8
     try clear hcz51_9
     try clear hcz52_0
     try clear hcz52_1
     try clear hcz52_10
     try clear hcz52_11
     try clear hcz52_12
     try clear hcz52_2
     try clear hcz52_3
     try clear hcz52_4
     try clear hcz52_5
     try clear hcz52_6
     try clear hcz52_7
     try clear hcz52_8
     try clear hcz52_9
     try clear hcz55_0
     try clear hcz55_1
     try clear hcz55_10
     try clear hcz55_11
     try clear hcz55_12
     try clear hcz55_2
     try clear hcz55_3
     try clear hcz55_4
     try clear hcz55_5
     try clear hcz55_6
     try clear hcz55_7
     try clear hcz55_8
     try clear hcz55_9
     try clear hcz56_0
     try clear hcz56_1
     try clear hcz56_10
     try clear hcz56_11
     try clear hcz56_12
     try clear hcz56_2
     try clear hcz56_3
     try clear hcz56_4
     try clear hcz56_5
     try clear hcz56_6
     try clear hcz56_7
     try clear hcz56_8
     try clear hcz56_9
     try clear hcz58_0
     try clear hcz58_1
     try clear hcz58_10
     try clear hcz58_11
     try clear hcz58_12
     try clear hcz58_2
     try clear hcz58_3
     try clear hcz58_4
     try clear hcz58_5
     try clear hcz58_6
     try clear hcz58_7
     try clear hcz58_8
     try clear hcz58_9
     try clear hcz59_0
     try clear hcz59_1
     try clear hcz59_10
     try clear hcz59_11
     try clear hcz59_12
     try clear hcz59_2
     try clear hcz59_3
     try clear hcz59_4
     try clear hcz59_5
     try clear hcz59_6
     try clear hcz59_7
     try clear hcz59_8
     try clear hcz59_9
     try clear hcz61_0
     try clear hcz61_1
     try clear hcz61_10
     try clear hcz61_11
     try clear hcz61_12
     try clear hcz61_2
     try clear hcz61_3
     try clear hcz61_4
     try clear hcz61_5
     try clear hcz61_6
     try clear hcz61_7
     try clear hcz61_8
     try clear hcz61_9
     try clear hcz62_0
     try clear hcz62_1
     try clear hcz62_10
     try clear hcz62_11
     try clear hcz62_12
     try clear hcz62_2
     try clear hcz62_3
     try clear hcz62_4
     try clear hcz62_5
     try clear hcz62_6
     try clear hcz62_7
     try clear hcz62_8
     try clear hcz62_9
     try clear hcz67_0
     try clear hcz67_1
     try clear hcz67_10
     try clear hcz67_11
     try clear hcz67_12
     try clear hcz67_2
     try clear hcz67_3
     try clear hcz67_4
     try clear hcz67_5
     try clear hcz67_6
     try clear hcz67_7
     try clear hcz67_8
     try clear hcz67_9
     try clear hcz68_0
     try clear hcz68_1
     try clear hcz68_10
     try clear hcz68_11
     try clear hcz68_12
     try clear hcz68_2
     try clear hcz68_3
     try clear hcz68_4
     try clear hcz68_5
     try clear hcz68_6
     try clear hcz68_7
     try clear hcz68_8
     try clear hcz68_9
     try clear hcz70_0
     try clear hcz70_1
     try clear hcz70_10
     try clear hcz70_11
     try clear hcz70_12
     try clear hcz70_2
     try clear hcz70_3
     try clear hcz70_4
     try clear hcz70_5
     try clear hcz70_6
     try clear hcz70_7
     try clear hcz70_8
     try clear hcz70_9
     try clear hcz71_0
     try clear hcz71_1
     try clear hcz71_10
     try clear hcz71_11
     try clear hcz71_12
     try clear hcz71_2
     try clear hcz71_3
     try clear hcz71_4
     try clear hcz71_5
     try clear hcz71_6
     try clear hcz71_7
     try clear hcz71_8
     try clear hcz71_9
     try clear hcz73_0
     try clear hcz73_1
     try clear hcz73_10
     try clear hcz73_11
     try clear hcz73_12
     try clear hcz73_2
     try clear hcz73_3
     try clear hcz73_4
     try clear hcz73_5
     try clear hcz73_6
     try clear hcz73_7
     try clear hcz73_8
     try clear hcz73_9
     try clear hcz74_0
     try clear hcz74_1
     try clear hcz74_10
     try clear hcz74_11
     try clear hcz74_12
     try clear hcz74_2
     try clear hcz74_3
     try clear hcz74_4
     try clear hcz74_5
     try clear hcz74_6
     try clear hcz74_7
     try clear hcz74_8
     try clear hcz74_9
     try clear hcz77_0
     try clear hcz77_1
     try clear hcz77_10
     try clear hcz77_11
     try clear hcz77_12
     try clear hcz77_2
     try clear hcz77_3
     try clear hcz77_4
     try clear hcz77_5
     try clear hcz77_6
     try clear hcz77_7
     try clear hcz77_8
     try clear hcz77_9
     try clear hcz78_0
     try clear hcz78_1
     try clear hcz78_10
     try clear hcz78_11
     try clear hcz78_12
     try clear hcz78_2
     try clear hcz78_3
     try clear hcz78_4
     try clear hcz78_5
     try clear hcz78_6
     try clear hcz78_7
     try clear hcz78_8
     try clear hcz78_9
     try clear hcz80_0
     try clear hcz80_1
     try clear hcz80_10
     try clear hcz80_11
     try clear hcz80_12
     try clear hcz80_2
     try clear hcz80_3
     try clear hcz80_4
     try clear hcz80_5
     try clear hcz80_6
     try clear hcz80_7
     try clear hcz80_8
     try clear hcz80_9
     try clear hfz49_0
     try clear hfz49_1
     try clear hfz49_10
     try clear hfz49_11
     try clear hfz49_12
     try clear hfz49_2
     try clear hfz49_3
     try clear hfz49_4
     try clear hfz49_5
     try clear hfz49_6
     try clear hfz49_7
     try clear hfz49_8
     try clear hfz49_9
     try clear hfz51_0
     try clear hfz51_1
     try clear hfz51_10
     try clear hfz51_11
     try clear hfz51_12
     try clear hfz51_2
     try clear hfz51_3
     try clear hfz51_4
     try clear hfz51_5
     try clear hfz51_6
     try clear hfz51_7
     try clear hfz51_8
     try clear hfz51_9
     try clear hfz52_0
     try clear hfz52_1
     try clear hfz52_10
     try clear hfz52_11
     try clear hfz52_12
     try clear hfz52_2
     try clear hfz52_3
     try clear hfz52_4
     try clear hfz52_5
     try clear hfz52_6
     try clear hfz52_7
     try clear hfz52_8
     try clear hfz52_9
     try clear hfz55_0
     try clear hfz55_1
     try clear hfz55_10
     try clear hfz55_11
     try clear hfz55_12
     try clear hfz55_2
     try clear hfz55_3
     try clear hfz55_4
     try clear hfz55_5
     try clear hfz55_6
     try clear hfz55_7
     try clear hfz55_8
     try clear hfz55_9
     try clear hfz56_0
     try clear hfz56_1
     try clear hfz56_10
     try clear hfz56_11
     try clear hfz56_12
     try clear hfz56_2
     try clear hfz56_3
     try clear hfz56_4
     try clear hfz56_5
     try clear hfz56_6
     try clear hfz56_7
     try clear hfz56_8
     try clear hfz56_9
     try clear hfz58_0
     try clear hfz58_1
     try clear hfz58_10
     try clear hfz58_11
     try clear hfz58_12
     try clear hfz58_2
     try clear hfz58_3
     try clear hfz58_4
     try clear hfz58_5
     try clear hfz58_6
     try clear hfz58_7
     try clear hfz58_8
     try clear hfz58_9
     try clear hfz59_0
     try clear hfz59_1
     try clear hfz59_10
     try clear hfz59_11
     try clear hfz59_12
     try clear hfz59_2
     try clear hfz59_3
     try clear hfz59_4
     try clear hfz59_5
     try clear hfz59_6
     try clear hfz59_7
     try clear hfz59_8
     try clear hfz59_9
     try clear hfz61_0
     try clear hfz61_1
     try clear hfz61_10
     try clear hfz61_11
     try clear hfz61_12
     try clear hfz61_2
     try clear hfz61_3
     try clear hfz61_4
     try clear hfz61_5
     try clear hfz61_6
     try clear hfz61_7
     try clear hfz61_8
     try clear hfz61_9
     try clear hfz62_0
     try clear hfz62_1
     try clear hfz62_10
     try clear hfz62_11
     try clear hfz62_12
     try clear hfz62_2
     try clear hfz62_3
     try clear hfz62_4
     try clear hfz62_5
     try clear hfz62_6
     try clear hfz62_7
     try clear hfz62_8
     try clear hfz62_9
     try clear hfz67_0
     try clear hfz67_1
     try clear hfz67_10
     try clear hfz67_11
     try clear hfz67_12
     try clear hfz67_2
     try clear hfz67_3
     try clear hfz67_4
     try clear hfz67_5
     try clear hfz67_6
     try clear hfz67_7
     try clear hfz67_8
     try clear hfz67_9
     try clear hfz68_0
     try clear hfz68_1
     try clear hfz68_10
     try clear hfz68_11
     try clear hfz68_12
     try clear hfz68_2
     try clear hfz68_3
     try clear hfz68_4
     try clear hfz68_5
     try clear hfz68_6
     try clear hfz68_7
     try clear hfz68_8
     try clear hfz68_9
     try clear hfz70_0
     try clear hfz70_1
     try clear hfz70_10
     try clear hfz70_11
     try clear hfz70_12
     try clear hfz70_2
     try clear hfz70_3
     try clear hfz70_4
     try clear hfz70_5
     try clear hfz70_6
     try clear hfz70_7
     try clear hfz70_8
     try clear hfz70_9
     try clear hfz71_0
     try clear hfz71_1
     try clear hfz71_10
     try clear hfz71_11
     try clear hfz71_12
     try clear hfz71_2
     try clear hfz71_3
     try clear hfz71_4
     try clear hfz71_5
     try clear hfz71_6
     try clear hfz71_7
     try clear hfz71_8
     try clear hfz71_9
     try clear hfz73_0
     try clear hfz73_1
     try clear hfz73_10
     try clear hfz73_11
     try clear hfz73_12
     try clear hfz73_2
     try clear hfz73_3
     try clear hfz73_4
     try clear hfz73_5
     try clear hfz73_6
     try clear hfz73_7
     try clear hfz73_8
     try clear hfz73_9
     try clear hfz74_0
     try clear hfz74_1
     try clear hfz74_10
     try clear hfz74_11
     try clear hfz74_12
     try clear hfz74_2
     try clear hfz74_3
     try clear hfz74_4
     try clear hfz74_5
     try clear hfz74_6
     try clear hfz74_7
     try clear hfz74_8
     try clear hfz74_9
     try clear hfz77_0
     try clear hfz77_1
     try clear hfz77_10
     try clear hfz77_11
     try clear hfz77_12
     try clear hfz77_2
     try clear hfz77_3
     try clear hfz77_4
     try clear hfz77_5
     try clear hfz77_6
     try clear hfz77_7
     try clear hfz77_8
     try clear hfz77_9
     try clear hfz78_0
     try clear hfz78_1
     try clear hfz78_10
     try clear hfz78_11
     try clear hfz78_12
     try clear hfz78_2
     try clear hfz78_3
     try clear hfz78_4
     try clear hfz78_5
     try clear hfz78_6
     try clear hfz78_7
     try clear hfz78_8
     try clear hfz78_9
     try clear hfz80_0
     try clear hfz80_1
     try clear hfz80_10
     try clear hfz80_11
     try clear hfz80_12
     try clear hfz80_2
     try clear hfz80_3
     try clear hfz80_4
     try clear hfz80_5
     try clear hfz80_6
     try clear hfz80_7
     try clear hfz80_8
     try clear hfz80_9
     obtain ⟨kq, x89_37, rfl, HA, HJ37, BK311, BK312, HB⟩ := hcut
     cases kq with
     | zero => exact absurd HA.out (by simp [carryallref11_Same.j1])
     | succ kj37 =>
      have H := HA.out
      clear HA
      simp only [carryallref11_Same.j1] at H
      by_cases c81 : x89_37 = true
      ·subst c81
       have H1 : (some false) = some r := by rw [if_pos rfl] at H; exact H
       clear H
       have H := H1
       clear H1
       obtain rfl := Option.some.inj H
       go_wp2
       go_ret
       exact ⟨by first | rfl | (simp [errW_none, errW_some] <;> rfl) | (simp [*, errW_none, errW_some] <;> rfl) | (simp [errW_none, errW_some, G.isEmpty_ne]; done), by repeat (first | (with_reducible first | exact HB.out | apply below_alloc | apply pw_below_drewN | apply below_drew1 | refine below_set ?_ GE311.out | refine below_set ?_ GE312.out) | exact HB.out)⟩
      ·replace c81 := Bool.eq_false_iff.mpr c81
       subst c81
       have H1 : (if a0_6 = true then (some (a0_7.toList == a1_7.toList)) else ((carryallref10_Same.f kj37 l0_8 l1_8).bind fun t313 => (some t313))) = some r := by rw [if_neg (show ¬ (false = true) by decide)] at H; exact H
       clear H
       have H := H1
       clear H1
       by_cases c82 : a0_6 = true
       ·subst c82
        have H1 : (some (a0_7.toList == a1_7.toList)) = some r := by rw [if_pos rfl] at H; exact H
        clear H
        have H := H1
        clear H1
        obtain rfl := Option.some.inj H
        have hnb83 := NB311_312.out
        have hnc83 := NB312_311.out
        have hcz84_0 : wc.cell? ⟨gb311, 0, none⟩ = some (.string a0_0) := (blk_cell BK311.out 0).trans rfl
        have hcz84_1 : wc.cell? ⟨gb311, 1, none⟩ = some (.string a0_1) := (blk_cell BK311.out 1).trans rfl
        have hcz84_2 : wc.cell? ⟨gb311, 2, none⟩ = some (.string a0_2) := (blk_cell BK311.out 2).trans rfl
        have hcz84_3 : wc.cell? ⟨gb311, 3, none⟩ = some (.string a0_3) := (blk_cell BK311.out 3).trans rfl
        have hcz84_4 : wc.cell? ⟨gb311, 4, none⟩ = some (.bool a0_4) := (blk_cell BK311.out 4).trans rfl
        have hcz84_5 : wc.cell? ⟨gb311, 5, none⟩ = some (.int .i64 a0_5) := (blk_cell BK311.out 5).trans rfl
        have hcz84_6 : wc.cell? ⟨gb311, 6, none⟩ = some (.bool true) := (blk_cell BK311.out 6).trans rfl
        have hcz84_7 : wc.cell? ⟨gb311, 7, none⟩ = some (.string a0_7) := (blk_cell BK311.out 7).trans rfl
        have hcz84_8 : wc.cell? ⟨gb311, 8, none⟩ = some (.slice A0_8 l0_8.length c0_8) := (blk_cell BK311.out 8).trans rfl
        have hcz84_9 : wc.cell? ⟨gb311, 9, none⟩ = some (.bool a0_9) := (blk_cell BK311.out 9).trans rfl
        have hcz84_10 : wc.cell? ⟨gb311, 10, none⟩ = some (.bool a0_10) := (blk_cell BK311.out 10).trans rfl
        have hcz84_11 : wc.cell? ⟨gb311, 11, none⟩ = some (.string a0_11) := (blk_cell BK311.out 11).trans rfl
        have hcz84_12 : wc.cell? ⟨gb311, 12, none⟩ = some (.string a0_12) := (blk_cell BK311.out 12).trans rfl
        have hfz84_0 := blk_frozen BK311.out 0
        have hfz84_1 := blk_frozen BK311.out 1
        have hfz84_2 := blk_frozen BK311.out 2
        have hfz84_3 := blk_frozen BK311.out 3
        have hfz84_4 := blk_frozen BK311.out 4
        have hfz84_5 := blk_frozen BK311.out 5
        have hfz84_6 := blk_frozen BK311.out 6
        have hfz84_7 := blk_frozen BK311.out 7
        have hfz84_8 := blk_frozen BK311.out 8
        have hfz84_9 := blk_frozen BK311.out 9
        have hfz84_10 := blk_frozen BK311.out 10
        have hfz84_11 := blk_frozen BK311.out 11
        have hfz84_12 := blk_frozen BK311.out 12
        have hcz85_0 : wc.cell? ⟨gb312, 0, none⟩ = some (.string a1_0) := (blk_cell BK312.out 0).trans rfl
        have hcz85_1 : wc.cell? ⟨gb312, 1, none⟩ = some (.string a1_1) := (blk_cell BK312.out 1).trans rfl
        have hcz85_2 : wc.cell? ⟨gb312, 2, none⟩ = some (.string a1_2) := (blk_cell BK312.out 2).trans rfl
        have hcz85_3 : wc.cell? ⟨gb312, 3, none⟩ = some (.string a1_3) := (blk_cell BK312.out 3).trans rfl
        have hcz85_4 : wc.cell? ⟨gb312, 4, none⟩ = some (.bool a1_4) := (blk_cell BK312.out 4).trans rfl
        have hcz85_5 : wc.cell? ⟨gb312, 5, none⟩ = some (.int .i64 a1_5) := (blk_cell BK312.out 5).trans rfl
        have hcz85_6 : wc.cell? ⟨gb312, 6, none⟩ = some (.bool a1_6) := (blk_cell BK312.out 6).trans rfl
        have hcz85_7 : wc.cell? ⟨gb312, 7, none⟩ = some (.string a1_7) := (blk_cell BK312.out 7).trans rfl
        have hcz85_8 : wc.cell? ⟨gb312, 8, none⟩ = some (.slice A1_8 l1_8.length c1_8) := (blk_cell BK312.out 8).trans rfl
        have hcz85_9 : wc.cell? ⟨gb312, 9, none⟩ = some (.bool a1_9) := (blk_cell BK312.out 9).trans rfl
        have hcz85_10 : wc.cell? ⟨gb312, 10, none⟩ = some (.bool a1_10) := (blk_cell BK312.out 10).trans rfl
        have hcz85_11 : wc.cell? ⟨gb312, 11, none⟩ = some (.string a1_11) := (blk_cell BK312.out 11).trans rfl
        have hcz85_12 : wc.cell? ⟨gb312, 12, none⟩ = some (.string a1_12) := (blk_cell BK312.out 12).trans rfl
        have hfz85_0 := blk_frozen BK312.out 0
        have hfz85_1 := blk_frozen BK312.out 1
        have hfz85_2 := blk_frozen BK312.out 2
        have hfz85_3 := blk_frozen BK312.out 3
        have hfz85_4 := blk_frozen BK312.out 4
        have hfz85_5 := blk_frozen BK312.out 5
        have hfz85_6 := blk_frozen BK312.out 6
        have hfz85_7 := blk_frozen BK312.out 7
        have hfz85_8 := blk_frozen BK312.out 8
        have hfz85_9 := blk_frozen BK312.out 9
        have hfz85_10 := blk_frozen BK312.out 10
        have hfz85_11 := blk_frozen BK312.out 11
        have hfz85_12 := blk_frozen BK312.out 12
        go_wp2
        go_ret
        exact ⟨by first | rfl | (simp [errW_none, errW_some] <;> rfl) | (simp [*, errW_none, errW_some] <;> rfl) | (simp [errW_none, errW_some, G.isEmpty_ne]; done), by repeat (first | (with_reducible first | exact HB.out | apply below_alloc | apply pw_below_drewN | apply below_drew1 | refine below_set ?_ GE311.out | refine below_set ?_ GE312.out) | exact HB.out)⟩
       ·replace c82 := Bool.eq_false_iff.mpr c82
        subst c82
        have H1 : ((carryallref10_Same.f kj37 l0_8 l1_8).bind fun t313 => (some t313)) = some r := by rw [if_neg (show ¬ (false = true) by decide)] at H; exact H
        clear H
        have H := H1
        clear H1
        replace H := Option.bind_eq_some_iff.mp H
        obtain ⟨t313, A860, H⟩ := H
        replace H : (some t313) = some r := H
        have A86 := Aside0.mk A860
        clear A860
        obtain rfl := Option.some.inj H
        have hnb87 := NB311_312.out
        have hnc87 := NB312_311.out
        have hcz88_0 : wc.cell? ⟨gb311, 0, none⟩ = some (.string a0_0) := (blk_cell BK311.out 0).trans rfl
        have hcz88_1 : wc.cell? ⟨gb311, 1, none⟩ = some (.string a0_1) := (blk_cell BK311.out 1).trans rfl
        have hcz88_2 : wc.cell? ⟨gb311, 2, none⟩ = some (.string a0_2) := (blk_cell BK311.out 2).trans rfl
        have hcz88_3 : wc.cell? ⟨gb311, 3, none⟩ = some (.string a0_3) := (blk_cell BK311.out 3).trans rfl
        have hcz88_4 : wc.cell? ⟨gb311, 4, none⟩ = some (.bool a0_4) := (blk_cell BK311.out 4).trans rfl
        have hcz88_5 : wc.cell? ⟨gb311, 5, none⟩ = some (.int .i64 a0_5) := (blk_cell BK311.out 5).trans rfl
        have hcz88_6 : wc.cell? ⟨gb311, 6, none⟩ = some (.bool false) := (blk_cell BK311.out 6).trans rfl
        have hcz88_7 : wc.cell? ⟨gb311, 7, none⟩ = some (.string a0_7) := (blk_cell BK311.out 7).trans rfl
        have hcz88_8 : wc.cell? ⟨gb311, 8, none⟩ = some (.slice A0_8 l0_8.length c0_8) := (blk_cell BK311.out 8).trans rfl
        have hcz88_9 : wc.cell? ⟨gb311, 9, none⟩ = some (.bool a0_9) := (blk_cell BK311.out 9).trans rfl
        have hcz88_10 : wc.cell? ⟨gb311, 10, none⟩ = some (.bool a0_10) := (blk_cell BK311.out 10).trans rfl
        have hcz88_11 : wc.cell? ⟨gb311, 11, none⟩ = some (.string a0_11) := (blk_cell BK311.out 11).trans rfl
        have hcz88_12 : wc.cell? ⟨gb311, 12, none⟩ = some (.string a0_12) := (blk_cell BK311.out 12).trans rfl
        have hfz88_0 := blk_frozen BK311.out 0
        have hfz88_1 := blk_frozen BK311.out 1
        have hfz88_2 := blk_frozen BK311.out 2
        have hfz88_3 := blk_frozen BK311.out 3
        have hfz88_4 := blk_frozen BK311.out 4
        have hfz88_5 := blk_frozen BK311.out 5
        have hfz88_6 := blk_frozen BK311.out 6
        have hfz88_7 := blk_frozen BK311.out 7
        have hfz88_8 := blk_frozen BK311.out 8
        have hfz88_9 := blk_frozen BK311.out 9
        have hfz88_10 := blk_frozen BK311.out 10
        have hfz88_11 := blk_frozen BK311.out 11
        have hfz88_12 := blk_frozen BK311.out 12
        have hcz89_0 : wc.cell? ⟨gb312, 0, none⟩ = some (.string a1_0) := (blk_cell BK312.out 0).trans rfl
        have hcz89_1 : wc.cell? ⟨gb312, 1, none⟩ = some (.string a1_1) := (blk_cell BK312.out 1).trans rfl
        have hcz89_2 : wc.cell? ⟨gb312, 2, none⟩ = some (.string a1_2) := (blk_cell BK312.out 2).trans rfl
        have hcz89_3 : wc.cell? ⟨gb312, 3, none⟩ = some (.string a1_3) := (blk_cell BK312.out 3).trans rfl
        have hcz89_4 : wc.cell? ⟨gb312, 4, none⟩ = some (.bool a1_4) := (blk_cell BK312.out 4).trans rfl
        have hcz89_5 : wc.cell? ⟨gb312, 5, none⟩ = some (.int .i64 a1_5) := (blk_cell BK312.out 5).trans rfl
        have hcz89_6 : wc.cell? ⟨gb312, 6, none⟩ = some (.bool a1_6) := (blk_cell BK312.out 6).trans rfl
        have hcz89_7 : wc.cell? ⟨gb312, 7, none⟩ = some (.string a1_7) := (blk_cell BK312.out 7).trans rfl
        have hcz89_8 : wc.cell? ⟨gb312, 8, none⟩ = some (.slice A1_8 l1_8.length c1_8) := (blk_cell BK312.out 8).trans rfl
        have hcz89_9 : wc.cell? ⟨gb312, 9, none⟩ = some (.bool a1_9) := (blk_cell BK312.out 9).trans rfl
        have hcz89_10 : wc.cell? ⟨gb312, 10, none⟩ = some (.bool a1_10) := (blk_cell BK312.out 10).trans rfl
        have hcz89_11 : wc.cell? ⟨gb312, 11, none⟩ = some (.string a1_11) := (blk_cell BK312.out 11).trans rfl
        have hcz89_12 : wc.cell? ⟨gb312, 12, none⟩ = some (.string a1_12) := (blk_cell BK312.out 12).trans rfl
        have hfz89_0 := blk_frozen BK312.out 0
        have hfz89_1 := blk_frozen BK312.out 1
        have hfz89_2 := blk_frozen BK312.out 2
        have hfz89_3 := blk_frozen BK312.out 3
        have hfz89_4 := blk_frozen BK312.out 4
        have hfz89_5 := blk_frozen BK312.out 5
        have hfz89_6 := blk_frozen BK312.out 6
        have hfz89_7 := blk_frozen BK312.out 7
        have hfz89_8 := blk_frozen BK312.out 8
        have hfz89_9 := blk_frozen BK312.out 9
        have hfz89_10 := blk_frozen BK312.out 10
        have hfz89_11 := blk_frozen BK312.out 11
        have hfz89_12 := blk_frozen BK312.out 12
        go_wp2_with (first | ((with_reducible refine gate_callee (f := 25) rfl ?_); refine goesL_ (some 101) rfl rfl Tryz.func25 (by kernel_rfl) rfl #[.slice A0_8 l0_8.length c0_8, .slice A1_8 l1_8.length c1_8] rfl (by (try simp only [List.map_toArray, List.map_cons, List.map_nil]); first | done | rfl | (simp only [List.length_drop, List.length_take]; rfl)) ?_; (with_reducible refine (carryallref10_Same.calls kj37 _ _ l0_8 _ _ l1_8 t313 _ ?side1 ?side2 ?side3 ?side4 A86.out).mono ?_); (case side1 => repeat (first | exact (Kd.C_below HR0_8.out HB.out) | (with_reducible refine Kd.C_alloc ?_ _) | (with_reducible refine Kd.C_drewN ?_ _) | (with_reducible refine Kd.C_drew ?_))); (case side2 => exact HC0_8.out); (case side3 => repeat (first | exact (Kd.C_below HR1_8.out HB.out) | (with_reducible refine Kd.C_alloc ?_ _) | (with_reducible refine Kd.C_drewN ?_ _) | (with_reducible refine Kd.C_drew ?_))); (case side4 => exact HC1_8.out); rintro e w' ⟨rfl, ⟨nd, rfl⟩⟩; refine ⟨_, rfl, ?_⟩))
        go_ret
        exact ⟨by first | rfl | (simp [errW_none, errW_some] <;> rfl) | (simp [*, errW_none, errW_some] <;> rfl) | (simp [errW_none, errW_some, G.isEmpty_ne]; done), by repeat (first | (with_reducible first | exact HB.out | apply below_alloc | apply pw_below_drewN | apply below_drew1 | refine below_set ?_ GE311.out | refine below_set ?_ GE312.out) | exact HB.out)⟩

end Go.Proofs.YtbbdfamfmkcfhaaGreatDoor.P
