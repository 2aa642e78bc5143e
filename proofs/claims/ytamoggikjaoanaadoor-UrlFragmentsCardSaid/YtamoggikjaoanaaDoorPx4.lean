-- Written for this claim by a program of this session's (not a text of the kit's print).
import Derived.Test.YtamoggikjaoanaaDoorPx0
import Derived.Test.YtamoggikjaoanaaDoorPx3
namespace Go.Proofs.YtamoggikjaoanaaDoor.P
open Go.RowKit Go.Proofs.YtamoggikjaoanaaDoorW.PrintWords Go.Proofs.YtamoggikjaoanaaDoorW.PrintLast Go.Proofs.YtamoggikjaoanaaDoorW.PrintMore
attribute [local go_sem] max2_int min2_int max_two min_two max_three min_three max_four min_four   -- for this text's walks alone
set_option linter.unusedVariables false
set_option linter.unusedSimpArgs false

/-! ### carryallref11_Same: function 18 -/
mutual
def carryallref11_Same.j0 : Nat → Bool → ByteArray → ByteArray → ByteArray → ByteArray → Bool → Int → Bool → ByteArray → List ByteArray → Bool → Bool → ByteArray → ByteArray → ByteArray → ByteArray → ByteArray → ByteArray → Bool → Int → Bool → ByteArray → List ByteArray → Bool → Bool → ByteArray → ByteArray → Option (Bool)
  | 0, _, _, _, _, _, _, _, _, _, _, _, _, _, _, _, _, _, _, _, _, _, _, _, _, _, _, _ => none
  | k + 1, x58, x145000, x145001, x145002, x145003, x145004, x145005, x145006, x145007, x145008, x145009, x145010, x145011, x145012, x146000, x146001, x146002, x146003, x146004, x146005, x146006, x146007, x146008, x146009, x146010, x146011, x146012 => if x58 = true then (some false) else (if x145004 = true then (if x145003.toList = x146003.toList then (if x145009 = true then (if x145011.toList = x146011.toList then (if x145010 = true then (carryallref11_Same.j1 k (x145012.toList != x146012.toList) x145000 x145001 x145002 x145003 x145004 x145005 x145006 x145007 x145008 x145009 x145010 x145011 x145012 x146000 x146001 x146002 x146003 x146004 x146005 x146006 x146007 x146008 x146009 x146010 x146011 x146012) else (carryallref11_Same.j1 k false x145000 x145001 x145002 x145003 x145004 x145005 x145006 x145007 x145008 x145009 x145010 x145011 x145012 x146000 x146001 x146002 x146003 x146004 x146005 x146006 x146007 x146008 x146009 x146010 x146011 x146012)) else (carryallref11_Same.j1 k true x145000 x145001 x145002 x145003 x145004 x145005 x145006 x145007 x145008 x145009 x145010 x145011 x145012 x146000 x146001 x146002 x146003 x146004 x146005 x146006 x146007 x146008 x146009 x146010 x146011 x146012)) else (if x145010 = true then (carryallref11_Same.j1 k (x145012.toList != x146012.toList) x145000 x145001 x145002 x145003 x145004 x145005 x145006 x145007 x145008 x145009 x145010 x145011 x145012 x146000 x146001 x146002 x146003 x146004 x146005 x146006 x146007 x146008 x146009 x146010 x146011 x146012) else (carryallref11_Same.j1 k false x145000 x145001 x145002 x145003 x145004 x145005 x145006 x145007 x145008 x145009 x145010 x145011 x145012 x146000 x146001 x146002 x146003 x146004 x146005 x146006 x146007 x146008 x146009 x146010 x146011 x146012))) else (carryallref11_Same.j1 k true x145000 x145001 x145002 x145003 x145004 x145005 x145006 x145007 x145008 x145009 x145010 x145011 x145012 x146000 x146001 x146002 x146003 x146004 x146005 x146006 x146007 x146008 x146009 x146010 x146011 x146012)) else (if x145009 = true then (if x145011.toList = x146011.toList then (if x145010 = true then (carryallref11_Same.j1 k (x145012.toList != x146012.toList) x145000 x145001 x145002 x145003 x145004 x145005 x145006 x145007 x145008 x145009 x145010 x145011 x145012 x146000 x146001 x146002 x146003 x146004 x146005 x146006 x146007 x146008 x146009 x146010 x146011 x146012) else (carryallref11_Same.j1 k false x145000 x145001 x145002 x145003 x145004 x145005 x145006 x145007 x145008 x145009 x145010 x145011 x145012 x146000 x146001 x146002 x146003 x146004 x146005 x146006 x146007 x146008 x146009 x146010 x146011 x146012)) else (carryallref11_Same.j1 k true x145000 x145001 x145002 x145003 x145004 x145005 x145006 x145007 x145008 x145009 x145010 x145011 x145012 x146000 x146001 x146002 x146003 x146004 x146005 x146006 x146007 x146008 x146009 x146010 x146011 x146012)) else (if x145010 = true then (carryallref11_Same.j1 k (x145012.toList != x146012.toList) x145000 x145001 x145002 x145003 x145004 x145005 x145006 x145007 x145008 x145009 x145010 x145011 x145012 x146000 x146001 x146002 x146003 x146004 x146005 x146006 x146007 x146008 x146009 x146010 x146011 x146012) else (carryallref11_Same.j1 k false x145000 x145001 x145002 x145003 x145004 x145005 x145006 x145007 x145008 x145009 x145010 x145011 x145012 x146000 x146001 x146002 x146003 x146004 x146005 x146006 x146007 x146008 x146009 x146010 x146011 x146012))))
def carryallref11_Same.j1 : Nat → Bool → ByteArray → ByteArray → ByteArray → ByteArray → Bool → Int → Bool → ByteArray → List ByteArray → Bool → Bool → ByteArray → ByteArray → ByteArray → ByteArray → ByteArray → ByteArray → Bool → Int → Bool → ByteArray → List ByteArray → Bool → Bool → ByteArray → ByteArray → Option (Bool)
  | 0, _, _, _, _, _, _, _, _, _, _, _, _, _, _, _, _, _, _, _, _, _, _, _, _, _, _, _ => none
  | k + 1, x89, x145000, x145001, x145002, x145003, x145004, x145005, x145006, x145007, x145008, x145009, x145010, x145011, x145012, x146000, x146001, x146002, x146003, x146004, x146005, x146006, x146007, x146008, x146009, x146010, x146011, x146012 => if x89 = true then (some false) else (if x145006 = true then (some (x145007.toList == x146007.toList)) else ((carryallref10_Same.f k x145008 x146008).bind fun t146 => (some t146)))
end
def carryallref11_Same.f (k : Nat) (a0_0 : ByteArray) (a0_1 : ByteArray) (a0_2 : ByteArray) (a0_3 : ByteArray) (a0_4 : Bool) (a0_5 : Int) (a0_6 : Bool) (a0_7 : ByteArray) (l0_8 : List ByteArray) (a0_9 : Bool) (a0_10 : Bool) (a0_11 : ByteArray) (a0_12 : ByteArray) (a1_0 : ByteArray) (a1_1 : ByteArray) (a1_2 : ByteArray) (a1_3 : ByteArray) (a1_4 : Bool) (a1_5 : Int) (a1_6 : Bool) (a1_7 : ByteArray) (l1_8 : List ByteArray) (a1_9 : Bool) (a1_10 : Bool) (a1_11 : ByteArray) (a1_12 : ByteArray) : Option (Bool) := if a0_0.toList = a1_0.toList then (if a0_1.toList = a1_1.toList then (if a0_2.toList = a1_2.toList then (if (a0_4 != a1_4) = true then (carryallref11_Same.j0 k true a0_0 a0_1 a0_2 a0_3 a0_4 a0_5 a0_6 a0_7 l0_8 a0_9 a0_10 a0_11 a0_12 a1_0 a1_1 a1_2 a1_3 a1_4 a1_5 a1_6 a1_7 l1_8 a1_9 a1_10 a1_11 a1_12) else (if a0_5 = a1_5 then (if (a0_6 != a1_6) = true then (carryallref11_Same.j0 k true a0_0 a0_1 a0_2 a0_3 a0_4 a0_5 a0_6 a0_7 l0_8 a0_9 a0_10 a0_11 a0_12 a1_0 a1_1 a1_2 a1_3 a1_4 a1_5 a1_6 a1_7 l1_8 a1_9 a1_10 a1_11 a1_12) else (if (a0_9 != a1_9) = true then (carryallref11_Same.j0 k true a0_0 a0_1 a0_2 a0_3 a0_4 a0_5 a0_6 a0_7 l0_8 a0_9 a0_10 a0_11 a0_12 a1_0 a1_1 a1_2 a1_3 a1_4 a1_5 a1_6 a1_7 l1_8 a1_9 a1_10 a1_11 a1_12) else (carryallref11_Same.j0 k (a0_10 != a1_10) a0_0 a0_1 a0_2 a0_3 a0_4 a0_5 a0_6 a0_7 l0_8 a0_9 a0_10 a0_11 a0_12 a1_0 a1_1 a1_2 a1_3 a1_4 a1_5 a1_6 a1_7 l1_8 a1_9 a1_10 a1_11 a1_12))) else (carryallref11_Same.j0 k true a0_0 a0_1 a0_2 a0_3 a0_4 a0_5 a0_6 a0_7 l0_8 a0_9 a0_10 a0_11 a0_12 a1_0 a1_1 a1_2 a1_3 a1_4 a1_5 a1_6 a1_7 l1_8 a1_9 a1_10 a1_11 a1_12))) else (carryallref11_Same.j0 k true a0_0 a0_1 a0_2 a0_3 a0_4 a0_5 a0_6 a0_7 l0_8 a0_9 a0_10 a0_11 a0_12 a1_0 a1_1 a1_2 a1_3 a1_4 a1_5 a1_6 a1_7 l1_8 a1_9 a1_10 a1_11 a1_12)) else (carryallref11_Same.j0 k true a0_0 a0_1 a0_2 a0_3 a0_4 a0_5 a0_6 a0_7 l0_8 a0_9 a0_10 a0_11 a0_12 a1_0 a1_1 a1_2 a1_3 a1_4 a1_5 a1_6 a1_7 l1_8 a1_9 a1_10 a1_11 a1_12)) else (carryallref11_Same.j0 k true a0_0 a0_1 a0_2 a0_3 a0_4 a0_5 a0_6 a0_7 l0_8 a0_9 a0_10 a0_11 a0_12 a1_0 a1_1 a1_2 a1_3 a1_4 a1_5 a1_6 a1_7 l1_8 a1_9 a1_10 a1_11 a1_12)
theorem carryallref11_Same.mono_l : ∀ k, (∀ y0 y1 y2 y3 y4 y5 y6 y7 y8 y9 y10 y11 y12 y13 y14 y15 y16 y17 y18 y19 y20 y21 y22 y23 y24 y25 y26, LeO (carryallref11_Same.j0 k y0 y1 y2 y3 y4 y5 y6 y7 y8 y9 y10 y11 y12 y13 y14 y15 y16 y17 y18 y19 y20 y21 y22 y23 y24 y25 y26) (carryallref11_Same.j0 (k + 1) y0 y1 y2 y3 y4 y5 y6 y7 y8 y9 y10 y11 y12 y13 y14 y15 y16 y17 y18 y19 y20 y21 y22 y23 y24 y25 y26)) ∧ (∀ y0 y1 y2 y3 y4 y5 y6 y7 y8 y9 y10 y11 y12 y13 y14 y15 y16 y17 y18 y19 y20 y21 y22 y23 y24 y25 y26, LeO (carryallref11_Same.j1 k y0 y1 y2 y3 y4 y5 y6 y7 y8 y9 y10 y11 y12 y13 y14 y15 y16 y17 y18 y19 y20 y21 y22 y23 y24 y25 y26) (carryallref11_Same.j1 (k + 1) y0 y1 y2 y3 y4 y5 y6 y7 y8 y9 y10 y11 y12 y13 y14 y15 y16 y17 y18 y19 y20 y21 y22 y23 y24 y25 y26))
  | 0 => ⟨fun _ _ _ _ _ _ _ _ _ _ _ _ _ _ _ _ _ _ _ _ _ _ _ _ _ _ _ r h => by simp [carryallref11_Same.j0] at h, fun _ _ _ _ _ _ _ _ _ _ _ _ _ _ _ _ _ _ _ _ _ _ _ _ _ _ _ r h => by simp [carryallref11_Same.j1] at h⟩
  | k + 1 => by
    obtain ⟨ih0, ih1⟩ := carryallref11_Same.mono_l k
    refine ⟨?_, ?_⟩
    · intro y0 y1 y2 y3 y4 y5 y6 y7 y8 y9 y10 y11 y12 y13 y14 y15 y16 y17 y18 y19 y20 y21 y22 y23 y24 y25 y26
      unfold carryallref11_Same.j0
      repeat' first
      | (with_reducible exact ih0 _ _ _ _ _ _ _ _ _ _ _ _ _ _ _ _ _ _ _ _ _ _ _ _ _ _ _)
      | (with_reducible exact ih1 _ _ _ _ _ _ _ _ _ _ _ _ _ _ _ _ _ _ _ _ _ _ _ _ _ _ _)
      | (with_reducible exact carryallref10_Same.mono _ _ _)
      | (with_reducible exact LeO.refl _)
      | (with_reducible exact LeO.none _)
      | (with_reducible refine LeO.ite ?_ ?_)
      | (with_reducible refine LeO.bind ?_ (fun _ => ?_))
      | exact ih0 _ _ _ _ _ _ _ _ _ _ _ _ _ _ _ _ _ _ _ _ _ _ _ _ _ _ _
      | exact ih1 _ _ _ _ _ _ _ _ _ _ _ _ _ _ _ _ _ _ _ _ _ _ _ _ _ _ _
      | exact carryallref10_Same.mono _ _ _
      | exact LeO.none _
      | refine LeO.ite ?_ ?_
      | refine LeO.bind ?_ (fun _ => ?_)
    · intro y0 y1 y2 y3 y4 y5 y6 y7 y8 y9 y10 y11 y12 y13 y14 y15 y16 y17 y18 y19 y20 y21 y22 y23 y24 y25 y26
      unfold carryallref11_Same.j1
      repeat' first
      | (with_reducible exact ih0 _ _ _ _ _ _ _ _ _ _ _ _ _ _ _ _ _ _ _ _ _ _ _ _ _ _ _)
      | (with_reducible exact ih1 _ _ _ _ _ _ _ _ _ _ _ _ _ _ _ _ _ _ _ _ _ _ _ _ _ _ _)
      | (with_reducible exact carryallref10_Same.mono _ _ _)
      | (with_reducible exact LeO.refl _)
      | (with_reducible exact LeO.none _)
      | (with_reducible refine LeO.ite ?_ ?_)
      | (with_reducible refine LeO.bind ?_ (fun _ => ?_))
      | exact ih0 _ _ _ _ _ _ _ _ _ _ _ _ _ _ _ _ _ _ _ _ _ _ _ _ _ _ _
      | exact ih1 _ _ _ _ _ _ _ _ _ _ _ _ _ _ _ _ _ _ _ _ _ _ _ _ _ _ _
      | exact carryallref10_Same.mono _ _ _
      | exact LeO.none _
      | refine LeO.ite ?_ ?_
      | refine LeO.bind ?_ (fun _ => ?_)
theorem carryallref11_Same.mono : ∀ a0 a1 a2 a3 a4 a5 a6 a7 a8 a9 a10 a11 a12 a13 a14 a15 a16 a17 a18 a19 a20 a21 a22 a23 a24 a25 k, LeO (carryallref11_Same.f k a0 a1 a2 a3 a4 a5 a6 a7 a8 a9 a10 a11 a12 a13 a14 a15 a16 a17 a18 a19 a20 a21 a22 a23 a24 a25) (carryallref11_Same.f (k + 1) a0 a1 a2 a3 a4 a5 a6 a7 a8 a9 a10 a11 a12 a13 a14 a15 a16 a17 a18 a19 a20 a21 a22 a23 a24 a25) := by
  intro a0 a1 a2 a3 a4 a5 a6 a7 a8 a9 a10 a11 a12 a13 a14 a15 a16 a17 a18 a19 a20 a21 a22 a23 a24 a25 k
  obtain ⟨ih0, ih1⟩ := carryallref11_Same.mono_l k
  unfold carryallref11_Same.f
  repeat' first
      | (with_reducible exact ih0 _ _ _ _ _ _ _ _ _ _ _ _ _ _ _ _ _ _ _ _ _ _ _ _ _ _ _)
      | (with_reducible exact ih1 _ _ _ _ _ _ _ _ _ _ _ _ _ _ _ _ _ _ _ _ _ _ _ _ _ _ _)
      | (with_reducible exact carryallref10_Same.mono _ _ _)
      | (with_reducible exact LeO.refl _)
      | (with_reducible exact LeO.none _)
      | (with_reducible refine LeO.ite ?_ ?_)
      | (with_reducible refine LeO.bind ?_ (fun _ => ?_))
      | exact ih0 _ _ _ _ _ _ _ _ _ _ _ _ _ _ _ _ _ _ _ _ _ _ _ _ _ _ _
      | exact ih1 _ _ _ _ _ _ _ _ _ _ _ _ _ _ _ _ _ _ _ _ _ _ _ _ _ _ _
      | exact carryallref10_Same.mono _ _ _
      | exact LeO.none _
      | refine LeO.ite ?_ ?_
      | refine LeO.bind ?_ (fun _ => ?_)
set_option maxHeartbeats 8000000 in
set_option maxRecDepth 100000 in
theorem carryallref11_Same.calls (k : Nat) (a0_0 : ByteArray) (a0_1 : ByteArray) (a0_2 : ByteArray) (a0_3 : ByteArray) (a0_4 : Bool) (a0_5 : Int) (a0_6 : Bool) (a0_7 : ByteArray) (A0_8 : Option Addr) (c0_8 : Nat) (l0_8 : List ByteArray) (a0_9 : Bool) (a0_10 : Bool) (a0_11 : ByteArray) (a0_12 : ByteArray) (a1_0 : ByteArray) (a1_1 : ByteArray) (a1_2 : ByteArray) (a1_3 : ByteArray) (a1_4 : Bool) (a1_5 : Int) (a1_6 : Bool) (a1_7 : ByteArray) (A1_8 : Option Addr) (c1_8 : Nat) (l1_8 : List ByteArray) (a1_9 : Bool) (a1_10 : Bool) (a1_11 : ByteArray) (a1_12 : ByteArray) (r : Bool) (w : World) (hr0_8 : Kd.C Kd.string w A0_8 l0_8.length l0_8) (hc0_8 : l0_8.length ≤ c0_8) (hr1_8 : Kd.C Kd.string w A1_8 l1_8.length l1_8) (hc1_8 : l1_8.length ≤ c1_8) (h : carryallref11_Same.f k a0_0 a0_1 a0_2 a0_3 a0_4 a0_5 a0_6 a0_7 l0_8 a0_9 a0_10 a0_11 a0_12 a1_0 a1_1 a1_2 a1_3 a1_4 a1_5 a1_6 a1_7 l1_8 a1_9 a1_10 a1_11 a1_12 = some r) :
    Calls Tryd.prog 18 #[.agg #[.string a0_0, .string a0_1, .string a0_2, .string a0_3, .bool a0_4, .int .i64 a0_5, .bool a0_6, .string a0_7, .slice A0_8 l0_8.length c0_8, .bool a0_9, .bool a0_10, .string a0_11, .string a0_12], .agg #[.string a1_0, .string a1_1, .string a1_2, .string a1_3, .bool a1_4, .int .i64 a1_5, .bool a1_6, .string a1_7, .slice A1_8 l1_8.length c1_8, .bool a1_9, .bool a1_10, .string a1_11, .string a1_12]] w fun e w' => e = .returned (.bool r) ∧ Below w.heap.size w w' := by
  have hu24 := Tryd.underlying24
  have HR0_8 := Aside0.mk hr0_8
  have HC0_8 := Aside0.mk hc0_8
  clear hr0_8 hc0_8
  have HR1_8 := Aside0.mk hr1_8
  have HC1_8 := Aside0.mk hc1_8
  clear hr1_8 hc1_8
  have HB := Aside0.mk (Below.refl w.heap.size w)
  have H : (if a0_0.toList = a1_0.toList then (if a0_1.toList = a1_1.toList then (if a0_2.toList = a1_2.toList then (if (a0_4 != a1_4) = true then (carryallref11_Same.j0 k true a0_0 a0_1 a0_2 a0_3 a0_4 a0_5 a0_6 a0_7 l0_8 a0_9 a0_10 a0_11 a0_12 a1_0 a1_1 a1_2 a1_3 a1_4 a1_5 a1_6 a1_7 l1_8 a1_9 a1_10 a1_11 a1_12) else (if a0_5 = a1_5 then (if (a0_6 != a1_6) = true then (carryallref11_Same.j0 k true a0_0 a0_1 a0_2 a0_3 a0_4 a0_5 a0_6 a0_7 l0_8 a0_9 a0_10 a0_11 a0_12 a1_0 a1_1 a1_2 a1_3 a1_4 a1_5 a1_6 a1_7 l1_8 a1_9 a1_10 a1_11 a1_12) else (if (a0_9 != a1_9) = true then (carryallref11_Same.j0 k true a0_0 a0_1 a0_2 a0_3 a0_4 a0_5 a0_6 a0_7 l0_8 a0_9 a0_10 a0_11 a0_12 a1_0 a1_1 a1_2 a1_3 a1_4 a1_5 a1_6 a1_7 l1_8 a1_9 a1_10 a1_11 a1_12) else (carryallref11_Same.j0 k (a0_10 != a1_10) a0_0 a0_1 a0_2 a0_3 a0_4 a0_5 a0_6 a0_7 l0_8 a0_9 a0_10 a0_11 a0_12 a1_0 a1_1 a1_2 a1_3 a1_4 a1_5 a1_6 a1_7 l1_8 a1_9 a1_10 a1_11 a1_12))) else (carryallref11_Same.j0 k true a0_0 a0_1 a0_2 a0_3 a0_4 a0_5 a0_6 a0_7 l0_8 a0_9 a0_10 a0_11 a0_12 a1_0 a1_1 a1_2 a1_3 a1_4 a1_5 a1_6 a1_7 l1_8 a1_9 a1_10 a1_11 a1_12))) else (carryallref11_Same.j0 k true a0_0 a0_1 a0_2 a0_3 a0_4 a0_5 a0_6 a0_7 l0_8 a0_9 a0_10 a0_11 a0_12 a1_0 a1_1 a1_2 a1_3 a1_4 a1_5 a1_6 a1_7 l1_8 a1_9 a1_10 a1_11 a1_12)) else (carryallref11_Same.j0 k true a0_0 a0_1 a0_2 a0_3 a0_4 a0_5 a0_6 a0_7 l0_8 a0_9 a0_10 a0_11 a0_12 a1_0 a1_1 a1_2 a1_3 a1_4 a1_5 a1_6 a1_7 l1_8 a1_9 a1_10 a1_11 a1_12)) else (carryallref11_Same.j0 k true a0_0 a0_1 a0_2 a0_3 a0_4 a0_5 a0_6 a0_7 l0_8 a0_9 a0_10 a0_11 a0_12 a1_0 a1_1 a1_2 a1_3 a1_4 a1_5 a1_6 a1_7 l1_8 a1_9 a1_10 a1_11 a1_12)) = some r := h
  clear h
  have HC3 := Aside0.mk H
  clear H
  go_enter Tryd.func18, Tryd.ntmps18
  go_upto_region 1 with (first | ((with_reducible refine gate_dst (N := 2) rfl ?_); refine box_event ?hg (N := 2) ?hd (cs := #[.string a0_0, .string a0_1, .string a0_2, .string a0_3, .bool a0_4, .int .i64 a0_5, .bool a0_6, .string a0_7, .slice A0_8 l0_8.length c0_8, .bool a0_9, .bool a0_10, .string a0_11, .string a0_12]) (t := 24) ?hr ?_; (case hd => rfl); (case hg => rfl); (case hr => first | (go_simp; done) | (go_simp; rfl)); intro gb144 hg w4 hbox hb; have n0_ := Aside0.mk (below_step (by repeat (first | (with_reducible first | exact HB.out | apply below_alloc | apply pw_below_drewN | apply below_drew1) | exact HB.out)) hb); have n1_ := Aside0.mk (hbox); have n2_ := Aside0.mk ((by rw [hg]; exact (below_size (by repeat (first | (with_reducible first | exact HB.out | apply below_alloc | apply pw_below_drewN | apply below_drew1) | exact HB.out))) : w.heap.size ≤ gb144)); have n3_ := Aside0.mk ((by rw [hg]; exact (below_size (by repeat (first | (with_reducible first | exact HB.out | apply below_alloc | apply pw_below_drewN | apply below_drew1) | exact HB.out))) : w.heap.size ≤ gb144)); clear HB; have HB := n0_; have BK144 := n1_; have GW144 := n2_; have GE144 := n3_; clear n0_ n1_ n2_ n3_; clear hb hbox hg) | ((with_reducible refine gate_dst (N := 3) rfl ?_); refine box_event ?hg (N := 3) ?hd (cs := #[.string a1_0, .string a1_1, .string a1_2, .string a1_3, .bool a1_4, .int .i64 a1_5, .bool a1_6, .string a1_7, .slice A1_8 l1_8.length c1_8, .bool a1_9, .bool a1_10, .string a1_11, .string a1_12]) (t := 24) ?hr ?_; (case hd => rfl); (case hg => rfl); (case hr => first | (go_simp; done) | (go_simp; rfl)); intro gb145 hg w5 hbox hb; have n0_ := Aside0.mk (blk_below (g := gb144) (o := .cells #[.string a0_0, .string a0_1, .string a0_2, .string a0_3, .bool a0_4, .int .i64 a0_5, .bool a0_6, .string a0_7, .slice A0_8 l0_8.length c0_8, .bool a0_9, .bool a0_10, .string a0_11, .string a0_12] 24 (0, 0)) (by (with_reducible repeat (first | refine blk_drewN ?_ _ | refine blk_drew ?_ | refine blk_alloc ?_ _)); exact BK144.out) hb); have n1_ := Aside0.mk (below_step (by repeat (first | (with_reducible first | exact HB.out | apply below_alloc | apply pw_below_drewN | apply below_drew1 | refine below_set ?_ GE144.out) | exact HB.out)) hb); have n2_ := Aside0.mk (hbox); have n3_ := Aside0.mk ((by rw [hg]; exact (below_size (by repeat (first | (with_reducible first | exact HB.out | apply below_alloc | apply pw_below_drewN | apply below_drew1 | refine below_set ?_ GE144.out) | exact HB.out))) : w.heap.size ≤ gb145)); have n4_ := Aside0.mk ((by rw [hg]; exact (below_size (by repeat (first | (with_reducible first | exact HB.out | apply below_alloc | apply pw_below_drewN | apply below_drew1 | refine below_set ?_ GE144.out) | exact HB.out))) : w.heap.size ≤ gb145)); have n5_ := Aside0.mk ((by rw [hg]; exact Nat.ne_of_lt (blk_lt (g := gb144) (o := .cells #[.string a0_0, .string a0_1, .string a0_2, .string a0_3, .bool a0_4, .int .i64 a0_5, .bool a0_6, .string a0_7, .slice A0_8 l0_8.length c0_8, .bool a0_9, .bool a0_10, .string a0_11, .string a0_12] 24 (0, 0)) (by (with_reducible repeat (first | refine blk_drewN ?_ _ | refine blk_drew ?_ | refine blk_alloc ?_ _)); exact BK144.out)) : gb144 ≠ gb145)); have n6_ := Aside0.mk ((by rw [hg]; exact Nat.ne_of_gt (blk_lt (g := gb144) (o := .cells #[.string a0_0, .string a0_1, .string a0_2, .string a0_3, .bool a0_4, .int .i64 a0_5, .bool a0_6, .string a0_7, .slice A0_8 l0_8.length c0_8, .bool a0_9, .bool a0_10, .string a0_11, .string a0_12] 24 (0, 0)) (by (with_reducible repeat (first | refine blk_drewN ?_ _ | refine blk_drew ?_ | refine blk_alloc ?_ _)); exact BK144.out)) : gb145 ≠ gb144)); clear BK144; clear HB; have BK144 := n0_; have HB := n1_; have BK145 := n2_; have GW145 := n3_; have GE145 := n4_; have NB144_145 := n5_; have NB145_144 := n6_; clear n0_ n1_ n2_ n3_ n4_ n5_ n6_; clear hb hbox hg))
  (try simp only [Act.put, List.setIfInBounds_toArray, List.set_cons_zero, List.set_cons_succ])
  go_cut [58] (fun v58 wc => ∃ (kq : Nat) (x58_2 : Bool), v58 = .bool x58_2 ∧ Aside0 (carryallref11_Same.j0 kq x58_2 a0_0 a0_1 a0_2 a0_3 a0_4 a0_5 a0_6 a0_7 l0_8 a0_9 a0_10 a0_11 a0_12 a1_0 a1_1 a1_2 a1_3 a1_4 a1_5 a1_6 a1_7 l1_8 a1_9 a1_10 a1_11 a1_12 = some r) ∧ Aside0 (kq ≤ k) ∧ Aside0 (wc.heap[gb144]? = some (.cells #[.string a0_0, .string a0_1, .string a0_2, .string a0_3, .bool a0_4, .int .i64 a0_5, .bool a0_6, .string a0_7, (.slice A0_8 l0_8.length c0_8), .bool a0_9, .bool a0_10, .string a0_11, .string a0_12] 24 (0, 0))) ∧ Aside0 (wc.heap[gb145]? = some (.cells #[.string a1_0, .string a1_1, .string a1_2, .string a1_3, .bool a1_4, .int .i64 a1_5, .bool a1_6, .string a1_7, (.slice A1_8 l1_8.length c1_8), .bool a1_9, .bool a1_10, .string a1_11, .string a1_12] 24 (0, 0))) ∧ Aside0 (Below w.heap.size w wc))
  case first =>
    have H := HC3.out
    clear HC3
    by_cases c6 : a0_0.toList = a1_0.toList
    · rw [if_pos c6] at H
      have c6b0 : (a0_0.toList == a1_0.toList) = true := beq_iff_eq.mpr c6
      have c6b1 : (a0_0.toList != a1_0.toList) = false := bne_eq_false_iff_eq.mpr c6
      clear c6
      (first | rw [c6b0] | (simp only [i64_w, i32_w]; rw [c6b0]) | skip)
      by_cases c7 : a0_1.toList = a1_1.toList
      · rw [if_pos c7] at H
        have c7b0 : (a0_1.toList == a1_1.toList) = true := beq_iff_eq.mpr c7
        have c7b1 : (a0_1.toList != a1_1.toList) = false := bne_eq_false_iff_eq.mpr c7
        clear c7
        by_cases c8 : a0_2.toList = a1_2.toList
        · rw [if_pos c8] at H
          have c8b0 : (a0_2.toList == a1_2.toList) = true := beq_iff_eq.mpr c8
          have c8b1 : (a0_2.toList != a1_2.toList) = false := bne_eq_false_iff_eq.mpr c8
          clear c8
          by_cases c9 : (a0_4 != a1_4) = true
          · rw [if_pos c9] at H
            have c9b0 : (a0_4 != a1_4) = true := c9
            (try (have c9b1 : decide (a0_4 = a1_4) = false := by simpa using c9))
            (try (have c9b2 : (a0_4 == a1_4) = false := by simpa using c9))
            (try (have c9b3 : ¬ (a0_4 = a1_4) := by simpa using c9))
            clear c9
            have H' := Aside0.mk H
            clear H
            have hnb10 := NB144_145.out
            have hnc10 := NB145_144.out
            have hcz11_0 : w5.cell? ⟨gb144, 0, none⟩ = some (.string a0_0) := (blk_cell BK144.out 0).trans rfl
            have hcz11_1 : w5.cell? ⟨gb144, 1, none⟩ = some (.string a0_1) := (blk_cell BK144.out 1).trans rfl
            have hcz11_2 : w5.cell? ⟨gb144, 2, none⟩ = some (.string a0_2) := (blk_cell BK144.out 2).trans rfl
            have hcz11_3 : w5.cell? ⟨gb144, 3, none⟩ = some (.string a0_3) := (blk_cell BK144.out 3).trans rfl
            have hcz11_4 : w5.cell? ⟨gb144, 4, none⟩ = some (.bool a0_4) := (blk_cell BK144.out 4).trans rfl
            have hcz11_5 : w5.cell? ⟨gb144, 5, none⟩ = some (.int .i64 a0_5) := (blk_cell BK144.out 5).trans rfl
            have hcz11_6 : w5.cell? ⟨gb144, 6, none⟩ = some (.bool a0_6) := (blk_cell BK144.out 6).trans rfl
            have hcz11_7 : w5.cell? ⟨gb144, 7, none⟩ = some (.string a0_7) := (blk_cell BK144.out 7).trans rfl
            have hcz11_8 : w5.cell? ⟨gb144, 8, none⟩ = some (.slice A0_8 l0_8.length c0_8) := (blk_cell BK144.out 8).trans rfl
            have hcz11_9 : w5.cell? ⟨gb144, 9, none⟩ = some (.bool a0_9) := (blk_cell BK144.out 9).trans rfl
            have hcz11_10 : w5.cell? ⟨gb144, 10, none⟩ = some (.bool a0_10) := (blk_cell BK144.out 10).trans rfl
            have hcz11_11 : w5.cell? ⟨gb144, 11, none⟩ = some (.string a0_11) := (blk_cell BK144.out 11).trans rfl
            have hcz11_12 : w5.cell? ⟨gb144, 12, none⟩ = some (.string a0_12) := (blk_cell BK144.out 12).trans rfl
            have hfz11_0 := blk_frozen BK144.out 0
            have hfz11_1 := blk_frozen BK144.out 1
            have hfz11_2 := blk_frozen BK144.out 2
            have hfz11_3 := blk_frozen BK144.out 3
            have hfz11_4 := blk_frozen BK144.out 4
            have hfz11_5 := blk_frozen BK144.out 5
            have hfz11_6 := blk_frozen BK144.out 6
            have hfz11_7 := blk_frozen BK144.out 7
            have hfz11_8 := blk_frozen BK144.out 8
            have hfz11_9 := blk_frozen BK144.out 9
            have hfz11_10 := blk_frozen BK144.out 10
            have hfz11_11 := blk_frozen BK144.out 11
            have hfz11_12 := blk_frozen BK144.out 12
            have hcz12_0 : w5.cell? ⟨gb145, 0, none⟩ = some (.string a1_0) := (blk_cell BK145.out 0).trans rfl
            have hcz12_1 : w5.cell? ⟨gb145, 1, none⟩ = some (.string a1_1) := (blk_cell BK145.out 1).trans rfl
            have hcz12_2 : w5.cell? ⟨gb145, 2, none⟩ = some (.string a1_2) := (blk_cell BK145.out 2).trans rfl
            have hcz12_3 : w5.cell? ⟨gb145, 3, none⟩ = some (.string a1_3) := (blk_cell BK145.out 3).trans rfl
            have hcz12_4 : w5.cell? ⟨gb145, 4, none⟩ = some (.bool a1_4) := (blk_cell BK145.out 4).trans rfl
            have hcz12_5 : w5.cell? ⟨gb145, 5, none⟩ = some (.int .i64 a1_5) := (blk_cell BK145.out 5).trans rfl
            have hcz12_6 : w5.cell? ⟨gb145, 6, none⟩ = some (.bool a1_6) := (blk_cell BK145.out 6).trans rfl
            have hcz12_7 : w5.cell? ⟨gb145, 7, none⟩ = some (.string a1_7) := (blk_cell BK145.out 7).trans rfl
            have hcz12_8 : w5.cell? ⟨gb145, 8, none⟩ = some (.slice A1_8 l1_8.length c1_8) := (blk_cell BK145.out 8).trans rfl
            have hcz12_9 : w5.cell? ⟨gb145, 9, none⟩ = some (.bool a1_9) := (blk_cell BK145.out 9).trans rfl
            have hcz12_10 : w5.cell? ⟨gb145, 10, none⟩ = some (.bool a1_10) := (blk_cell BK145.out 10).trans rfl
            have hcz12_11 : w5.cell? ⟨gb145, 11, none⟩ = some (.string a1_11) := (blk_cell BK145.out 11).trans rfl
            have hcz12_12 : w5.cell? ⟨gb145, 12, none⟩ = some (.string a1_12) := (blk_cell BK145.out 12).trans rfl
            have hfz12_0 := blk_frozen BK145.out 0
            have hfz12_1 := blk_frozen BK145.out 1
            have hfz12_2 := blk_frozen BK145.out 2
            have hfz12_3 := blk_frozen BK145.out 3
            have hfz12_4 := blk_frozen BK145.out 4
            have hfz12_5 := blk_frozen BK145.out 5
            have hfz12_6 := blk_frozen BK145.out 6
            have hfz12_7 := blk_frozen BK145.out 7
            have hfz12_8 := blk_frozen BK145.out 8
            have hfz12_9 := blk_frozen BK145.out 9
            have hfz12_10 := blk_frozen BK145.out 10
            have hfz12_11 := blk_frozen BK145.out 11
            have hfz12_12 := blk_frozen BK145.out 12
            go_wp2
            go_meet
            case rel => exact ⟨_, (true), (by first | rfl | (simp; done) | (simp [*]; done) | (simp [Go.Proofs.YtamoggikjaoanaaDoor.G.isEmpty_ne]; done)), H', ⟨by first | omega | exact Nat.le_refl _⟩, ⟨by (with_reducible repeat (first | refine blk_drewN ?_ _ | refine blk_drew ?_ | refine blk_alloc ?_ _)); exact BK144.out⟩, ⟨by (with_reducible repeat (first | refine blk_drewN ?_ _ | refine blk_drew ?_ | refine blk_alloc ?_ _)); exact BK145.out⟩, ⟨by repeat (first | (with_reducible first | exact HB.out | apply below_alloc | apply pw_below_drewN | apply below_drew1 | refine below_set ?_ GE144.out | refine below_set ?_ GE145.out) | exact HB.out)⟩⟩
          · rw [if_neg c9] at H
            have c9b0 : (a0_4 != a1_4) = false := by simpa using c9
            (try (have c9b1 : decide (a0_4 = a1_4) = true := by simpa using c9))
            (try (have c9b2 : (a0_4 == a1_4) = true := by simpa using c9))
            clear c9
            by_cases c13 : a0_5 = a1_5
            · rw [if_pos c13] at H
              have c13b0 : (a0_5 == a1_5) = true := beq_iff_eq.mpr c13
              have c13b1 : (a0_5 != a1_5) = false := bne_eq_false_iff_eq.mpr c13
              clear c13
              by_cases c14 : (a0_6 != a1_6) = true
              · rw [if_pos c14] at H
                have c14b0 : (a0_6 != a1_6) = true := c14
                (try (have c14b1 : decide (a0_6 = a1_6) = false := by simpa using c14))
                (try (have c14b2 : (a0_6 == a1_6) = false := by simpa using c14))
                (try (have c14b3 : ¬ (a0_6 = a1_6) := by simpa using c14))
                clear c14
                have H' := Aside0.mk H
                clear H
                have hnb15 := NB144_145.out
                have hnc15 := NB145_144.out
                have hcz16_0 : w5.cell? ⟨gb144, 0, none⟩ = some (.string a0_0) := (blk_cell BK144.out 0).trans rfl
                have hcz16_1 : w5.cell? ⟨gb144, 1, none⟩ = some (.string a0_1) := (blk_cell BK144.out 1).trans rfl
                have hcz16_2 : w5.cell? ⟨gb144, 2, none⟩ = some (.string a0_2) := (blk_cell BK144.out 2).trans rfl
                have hcz16_3 : w5.cell? ⟨gb144, 3, none⟩ = some (.string a0_3) := (blk_cell BK144.out 3).trans rfl
                have hcz16_4 : w5.cell? ⟨gb144, 4, none⟩ = some (.bool a0_4) := (blk_cell BK144.out 4).trans rfl
                have hcz16_5 : w5.cell? ⟨gb144, 5, none⟩ = some (.int .i64 a0_5) := (blk_cell BK144.out 5).trans rfl
                have hcz16_6 : w5.cell? ⟨gb144, 6, none⟩ = some (.bool a0_6) := (blk_cell BK144.out 6).trans rfl
                have hcz16_7 : w5.cell? ⟨gb144, 7, none⟩ = some (.string a0_7) := (blk_cell BK144.out 7).trans rfl
                have hcz16_8 : w5.cell? ⟨gb144, 8, none⟩ = some (.slice A0_8 l0_8.length c0_8) := (blk_cell BK144.out 8).trans rfl
                have hcz16_9 : w5.cell? ⟨gb144, 9, none⟩ = some (.bool a0_9) := (blk_cell BK144.out 9).trans rfl
                have hcz16_10 : w5.cell? ⟨gb144, 10, none⟩ = some (.bool a0_10) := (blk_cell BK144.out 10).trans rfl
                have hcz16_11 : w5.cell? ⟨gb144, 11, none⟩ = some (.string a0_11) := (blk_cell BK144.out 11).trans rfl
                have hcz16_12 : w5.cell? ⟨gb144, 12, none⟩ = some (.string a0_12) := (blk_cell BK144.out 12).trans rfl
                have hfz16_0 := blk_frozen BK144.out 0
                have hfz16_1 := blk_frozen BK144.out 1
                have hfz16_2 := blk_frozen BK144.out 2
                have hfz16_3 := blk_frozen BK144.out 3
                have hfz16_4 := blk_frozen BK144.out 4
                have hfz16_5 := blk_frozen BK144.out 5
                have hfz16_6 := blk_frozen BK144.out 6
                have hfz16_7 := blk_frozen BK144.out 7
                have hfz16_8 := blk_frozen BK144.out 8
                have hfz16_9 := blk_frozen BK144.out 9
                have hfz16_10 := blk_frozen BK144.out 10
                have hfz16_11 := blk_frozen BK144.out 11
                have hfz16_12 := blk_frozen BK144.out 12
                have hcz17_0 : w5.cell? ⟨gb145, 0, none⟩ = some (.string a1_0) := (blk_cell BK145.out 0).trans rfl
                have hcz17_1 : w5.cell? ⟨gb145, 1, none⟩ = some (.string a1_1) := (blk_cell BK145.out 1).trans rfl
                have hcz17_2 : w5.cell? ⟨gb145, 2, none⟩ = some (.string a1_2) := (blk_cell BK145.out 2).trans rfl
                have hcz17_3 : w5.cell? ⟨gb145, 3, none⟩ = some (.string a1_3) := (blk_cell BK145.out 3).trans rfl
                have hcz17_4 : w5.cell? ⟨gb145, 4, none⟩ = some (.bool a1_4) := (blk_cell BK145.out 4).trans rfl
                have hcz17_5 : w5.cell? ⟨gb145, 5, none⟩ = some (.int .i64 a1_5) := (blk_cell BK145.out 5).trans rfl
                have hcz17_6 : w5.cell? ⟨gb145, 6, none⟩ = some (.bool a1_6) := (blk_cell BK145.out 6).trans rfl
                have hcz17_7 : w5.cell? ⟨gb145, 7, none⟩ = some (.string a1_7) := (blk_cell BK145.out 7).trans rfl
                have hcz17_8 : w5.cell? ⟨gb145, 8, none⟩ = some (.slice A1_8 l1_8.length c1_8) := (blk_cell BK145.out 8).trans rfl
                have hcz17_9 : w5.cell? ⟨gb145, 9, none⟩ = some (.bool a1_9) := (blk_cell BK145.out 9).trans rfl
                have hcz17_10 : w5.cell? ⟨gb145, 10, none⟩ = some (.bool a1_10) := (blk_cell BK145.out 10).trans rfl
                have hcz17_11 : w5.cell? ⟨gb145, 11, none⟩ = some (.string a1_11) := (blk_cell BK145.out 11).trans rfl
                have hcz17_12 : w5.cell? ⟨gb145, 12, none⟩ = some (.string a1_12) := (blk_cell BK145.out 12).trans rfl
                have hfz17_0 := blk_frozen BK145.out 0
                have hfz17_1 := blk_frozen BK145.out 1
                have hfz17_2 := blk_frozen BK145.out 2
                have hfz17_3 := blk_frozen BK145.out 3
                have hfz17_4 := blk_frozen BK145.out 4
                have hfz17_5 := blk_frozen BK145.out 5
                have hfz17_6 := blk_frozen BK145.out 6
                have hfz17_7 := blk_frozen BK145.out 7
                have hfz17_8 := blk_frozen BK145.out 8
                have hfz17_9 := blk_frozen BK145.out 9
                have hfz17_10 := blk_frozen BK145.out 10
                have hfz17_11 := blk_frozen BK145.out 11
                have hfz17_12 := blk_frozen BK145.out 12
                go_wp2
                go_meet
                case rel => exact ⟨_, (true), (by first | rfl | (simp; done) | (simp [*]; done) | (simp [Go.Proofs.YtamoggikjaoanaaDoor.G.isEmpty_ne]; done)), H', ⟨by first | omega | exact Nat.le_refl _⟩, ⟨by (with_reducible repeat (first | refine blk_drewN ?_ _ | refine blk_drew ?_ | refine blk_alloc ?_ _)); exact BK144.out⟩, ⟨by (with_reducible repeat (first | refine blk_drewN ?_ _ | refine blk_drew ?_ | refine blk_alloc ?_ _)); exact BK145.out⟩, ⟨by repeat (first | (with_reducible first | exact HB.out | apply below_alloc | apply pw_below_drewN | apply below_drew1 | refine below_set ?_ GE144.out | refine below_set ?_ GE145.out) | exact HB.out)⟩⟩
              · rw [if_neg c14] at H
                have c14b0 : (a0_6 != a1_6) = false := by simpa using c14
                (try (have c14b1 : decide (a0_6 = a1_6) = true := by simpa using c14))
                (try (have c14b2 : (a0_6 == a1_6) = true := by simpa using c14))
                clear c14
                by_cases c18 : (a0_9 != a1_9) = true
                · rw [if_pos c18] at H
                  have c18b0 : (a0_9 != a1_9) = true := c18
                  (try (have c18b1 : decide (a0_9 = a1_9) = false := by simpa using c18))
                  (try (have c18b2 : (a0_9 == a1_9) = false := by simpa using c18))
                  (try (have c18b3 : ¬ (a0_9 = a1_9) := by simpa using c18))
                  clear c18
                  have H' := Aside0.mk H
                  clear H
                  have hnb19 := NB144_145.out
                  have hnc19 := NB145_144.out
                  have hcz20_0 : w5.cell? ⟨gb144, 0, none⟩ = some (.string a0_0) := (blk_cell BK144.out 0).trans rfl
                  have hcz20_1 : w5.cell? ⟨gb144, 1, none⟩ = some (.string a0_1) := (blk_cell BK144.out 1).trans rfl
                  have hcz20_2 : w5.cell? ⟨gb144, 2, none⟩ = some (.string a0_2) := (blk_cell BK144.out 2).trans rfl
                  have hcz20_3 : w5.cell? ⟨gb144, 3, none⟩ = some (.string a0_3) := (blk_cell BK144.out 3).trans rfl
                  have hcz20_4 : w5.cell? ⟨gb144, 4, none⟩ = some (.bool a0_4) := (blk_cell BK144.out 4).trans rfl
                  have hcz20_5 : w5.cell? ⟨gb144, 5, none⟩ = some (.int .i64 a0_5) := (blk_cell BK144.out 5).trans rfl
                  have hcz20_6 : w5.cell? ⟨gb144, 6, none⟩ = some (.bool a0_6) := (blk_cell BK144.out 6).trans rfl
                  have hcz20_7 : w5.cell? ⟨gb144, 7, none⟩ = some (.string a0_7) := (blk_cell BK144.out 7).trans rfl
                  have hcz20_8 : w5.cell? ⟨gb144, 8, none⟩ = some (.slice A0_8 l0_8.length c0_8) := (blk_cell BK144.out 8).trans rfl
                  have hcz20_9 : w5.cell? ⟨gb144, 9, none⟩ = some (.bool a0_9) := (blk_cell BK144.out 9).trans rfl
                  have hcz20_10 : w5.cell? ⟨gb144, 10, none⟩ = some (.bool a0_10) := (blk_cell BK144.out 10).trans rfl
                  have hcz20_11 : w5.cell? ⟨gb144, 11, none⟩ = some (.string a0_11) := (blk_cell BK144.out 11).trans rfl
                  have hcz20_12 : w5.cell? ⟨gb144, 12, none⟩ = some (.string a0_12) := (blk_cell BK144.out 12).trans rfl
                  have hfz20_0 := blk_frozen BK144.out 0
                  have hfz20_1 := blk_frozen BK144.out 1
                  have hfz20_2 := blk_frozen BK144.out 2
                  have hfz20_3 := blk_frozen BK144.out 3
                  have hfz20_4 := blk_frozen BK144.out 4
                  have hfz20_5 := blk_frozen BK144.out 5
                  have hfz20_6 := blk_frozen BK144.out 6
                  have hfz20_7 := blk_frozen BK144.out 7
                  have hfz20_8 := blk_frozen BK144.out 8
                  have hfz20_9 := blk_frozen BK144.out 9
                  have hfz20_10 := blk_frozen BK144.out 10
                  have hfz20_11 := blk_frozen BK144.out 11
                  have hfz20_12 := blk_frozen BK144.out 12
                  have hcz21_0 : w5.cell? ⟨gb145, 0, none⟩ = some (.string a1_0) := (blk_cell BK145.out 0).trans rfl
                  have hcz21_1 : w5.cell? ⟨gb145, 1, none⟩ = some (.string a1_1) := (blk_cell BK145.out 1).trans rfl
                  have hcz21_2 : w5.cell? ⟨gb145, 2, none⟩ = some (.string a1_2) := (blk_cell BK145.out 2).trans rfl
                  have hcz21_3 : w5.cell? ⟨gb145, 3, none⟩ = some (.string a1_3) := (blk_cell BK145.out 3).trans rfl
                  have hcz21_4 : w5.cell? ⟨gb145, 4, none⟩ = some (.bool a1_4) := (blk_cell BK145.out 4).trans rfl
                  have hcz21_5 : w5.cell? ⟨gb145, 5, none⟩ = some (.int .i64 a1_5) := (blk_cell BK145.out 5).trans rfl
                  have hcz21_6 : w5.cell? ⟨gb145, 6, none⟩ = some (.bool a1_6) := (blk_cell BK145.out 6).trans rfl
                  have hcz21_7 : w5.cell? ⟨gb145, 7, none⟩ = some (.string a1_7) := (blk_cell BK145.out 7).trans rfl
                  have hcz21_8 : w5.cell? ⟨gb145, 8, none⟩ = some (.slice A1_8 l1_8.length c1_8) := (blk_cell BK145.out 8).trans rfl
                  have hcz21_9 : w5.cell? ⟨gb145, 9, none⟩ = some (.bool a1_9) := (blk_cell BK145.out 9).trans rfl
                  have hcz21_10 : w5.cell? ⟨gb145, 10, none⟩ = some (.bool a1_10) := (blk_cell BK145.out 10).trans rfl
                  have hcz21_11 : w5.cell? ⟨gb145, 11, none⟩ = some (.string a1_11) := (blk_cell BK145.out 11).trans rfl
                  have hcz21_12 : w5.cell? ⟨gb145, 12, none⟩ = some (.string a1_12) := (blk_cell BK145.out 12).trans rfl
                  have hfz21_0 := blk_frozen BK145.out 0
                  have hfz21_1 := blk_frozen BK145.out 1
                  have hfz21_2 := blk_frozen BK145.out 2
                  have hfz21_3 := blk_frozen BK145.out 3
                  have hfz21_4 := blk_frozen BK145.out 4
                  have hfz21_5 := blk_frozen BK145.out 5
                  have hfz21_6 := blk_frozen BK145.out 6
                  have hfz21_7 := blk_frozen BK145.out 7
                  have hfz21_8 := blk_frozen BK145.out 8
                  have hfz21_9 := blk_frozen BK145.out 9
                  have hfz21_10 := blk_frozen BK145.out 10
                  have hfz21_11 := blk_frozen BK145.out 11
                  have hfz21_12 := blk_frozen BK145.out 12
                  go_wp2
                  go_meet
                  case rel => exact ⟨_, (true), (by first | rfl | (simp; done) | (simp [*]; done) | (simp [Go.Proofs.YtamoggikjaoanaaDoor.G.isEmpty_ne]; done)), H', ⟨by first | omega | exact Nat.le_refl _⟩, ⟨by (with_reducible repeat (first | refine blk_drewN ?_ _ | refine blk_drew ?_ | refine blk_alloc ?_ _)); exact BK144.out⟩, ⟨by (with_reducible repeat (first | refine blk_drewN ?_ _ | refine blk_drew ?_ | refine blk_alloc ?_ _)); exact BK145.out⟩, ⟨by repeat (first | (with_reducible first | exact HB.out | apply below_alloc | apply pw_below_drewN | apply below_drew1 | refine below_set ?_ GE144.out | refine below_set ?_ GE145.out) | exact HB.out)⟩⟩
                · rw [if_neg c18] at H
                  have c18b0 : (a0_9 != a1_9) = false := by simpa using c18
                  (try (have c18b1 : decide (a0_9 = a1_9) = true := by simpa using c18))
                  (try (have c18b2 : (a0_9 == a1_9) = true := by simpa using c18))
                  clear c18
                  have H' := Aside0.mk H
                  clear H
                  have hnb22 := NB144_145.out
                  have hnc22 := NB145_144.out
                  have hcz23_0 : w5.cell? ⟨gb144, 0, none⟩ = some (.string a0_0) := (blk_cell BK144.out 0).trans rfl
                  have hcz23_1 : w5.cell? ⟨gb144, 1, none⟩ = some (.string a0_1) := (blk_cell BK144.out 1).trans rfl
                  have hcz23_2 : w5.cell? ⟨gb144, 2, none⟩ = some (.string a0_2) := (blk_cell BK144.out 2).trans rfl
                  have hcz23_3 : w5.cell? ⟨gb144, 3, none⟩ = some (.string a0_3) := (blk_cell BK144.out 3).trans rfl
                  have hcz23_4 : w5.cell? ⟨gb144, 4, none⟩ = some (.bool a0_4) := (blk_cell BK144.out 4).trans rfl
                  have hcz23_5 : w5.cell? ⟨gb144, 5, none⟩ = some (.int .i64 a0_5) := (blk_cell BK144.out 5).trans rfl
                  have hcz23_6 : w5.cell? ⟨gb144, 6, none⟩ = some (.bool a0_6) := (blk_cell BK144.out 6).trans rfl
                  have hcz23_7 : w5.cell? ⟨gb144, 7, none⟩ = some (.string a0_7) := (blk_cell BK144.out 7).trans rfl
                  have hcz23_8 : w5.cell? ⟨gb144, 8, none⟩ = some (.slice A0_8 l0_8.length c0_8) := (blk_cell BK144.out 8).trans rfl
                  have hcz23_9 : w5.cell? ⟨gb144, 9, none⟩ = some (.bool a0_9) := (blk_cell BK144.out 9).trans rfl
                  have hcz23_10 : w5.cell? ⟨gb144, 10, none⟩ = some (.bool a0_10) := (blk_cell BK144.out 10).trans rfl
                  have hcz23_11 : w5.cell? ⟨gb144, 11, none⟩ = some (.string a0_11) := (blk_cell BK144.out 11).trans rfl
                  have hcz23_12 : w5.cell? ⟨gb144, 12, none⟩ = some (.string a0_12) := (blk_cell BK144.out 12).trans rfl
                  have hfz23_0 := blk_frozen BK144.out 0
                  have hfz23_1 := blk_frozen BK144.out 1
                  have hfz23_2 := blk_frozen BK144.out 2
                  have hfz23_3 := blk_frozen BK144.out 3
                  have hfz23_4 := blk_frozen BK144.out 4
                  have hfz23_5 := blk_frozen BK144.out 5
                  have hfz23_6 := blk_frozen BK144.out 6
                  have hfz23_7 := blk_frozen BK144.out 7
                  have hfz23_8 := blk_frozen BK144.out 8
                  have hfz23_9 := blk_frozen BK144.out 9
                  have hfz23_10 := blk_frozen BK144.out 10
                  have hfz23_11 := blk_frozen BK144.out 11
                  have hfz23_12 := blk_frozen BK144.out 12
                  have hcz24_0 : w5.cell? ⟨gb145, 0, none⟩ = some (.string a1_0) := (blk_cell BK145.out 0).trans rfl
                  have hcz24_1 : w5.cell? ⟨gb145, 1, none⟩ = some (.string a1_1) := (blk_cell BK145.out 1).trans rfl
                  have hcz24_2 : w5.cell? ⟨gb145, 2, none⟩ = some (.string a1_2) := (blk_cell BK145.out 2).trans rfl
                  have hcz24_3 : w5.cell? ⟨gb145, 3, none⟩ = some (.string a1_3) := (blk_cell BK145.out 3).trans rfl
                  have hcz24_4 : w5.cell? ⟨gb145, 4, none⟩ = some (.bool a1_4) := (blk_cell BK145.out 4).trans rfl
                  have hcz24_5 : w5.cell? ⟨gb145, 5, none⟩ = some (.int .i64 a1_5) := (blk_cell BK145.out 5).trans rfl
                  have hcz24_6 : w5.cell? ⟨gb145, 6, none⟩ = some (.bool a1_6) := (blk_cell BK145.out 6).trans rfl
                  have hcz24_7 : w5.cell? ⟨gb145, 7, none⟩ = some (.string a1_7) := (blk_cell BK145.out 7).trans rfl
                  have hcz24_8 : w5.cell? ⟨gb145, 8, none⟩ = some (.slice A1_8 l1_8.length c1_8) := (blk_cell BK145.out 8).trans rfl
                  have hcz24_9 : w5.cell? ⟨gb145, 9, none⟩ = some (.bool a1_9) := (blk_cell BK145.out 9).trans rfl
                  have hcz24_10 : w5.cell? ⟨gb145, 10, none⟩ = some (.bool a1_10) := (blk_cell BK145.out 10).trans rfl
                  have hcz24_11 : w5.cell? ⟨gb145, 11, none⟩ = some (.string a1_11) := (blk_cell BK145.out 11).trans rfl
                  have hcz24_12 : w5.cell? ⟨gb145, 12, none⟩ = some (.string a1_12) := (blk_cell BK145.out 12).trans rfl
                  have hfz24_0 := blk_frozen BK145.out 0
                  have hfz24_1 := blk_frozen BK145.out 1
                  have hfz24_2 := blk_frozen BK145.out 2
                  have hfz24_3 := blk_frozen BK145.out 3
                  have hfz24_4 := blk_frozen BK145.out 4
                  have hfz24_5 := blk_frozen BK145.out 5
                  have hfz24_6 := blk_frozen BK145.out 6
                  have hfz24_7 := blk_frozen BK145.out 7
                  have hfz24_8 := blk_frozen BK145.out 8
                  have hfz24_9 := blk_frozen BK145.out 9
                  have hfz24_10 := blk_frozen BK145.out 10
                  have hfz24_11 := blk_frozen BK145.out 11
                  have hfz24_12 := blk_frozen BK145.out 12
                  go_wp2
                  go_meet
                  case rel => exact ⟨_, ((a0_10 != a1_10)), (by first | rfl | (simp; done) | (simp [*]; done) | (simp [Go.Proofs.YtamoggikjaoanaaDoor.G.isEmpty_ne]; done)), H', ⟨by first | omega | exact Nat.le_refl _⟩, ⟨by (with_reducible repeat (first | refine blk_drewN ?_ _ | refine blk_drew ?_ | refine blk_alloc ?_ _)); exact BK144.out⟩, ⟨by (with_reducible repeat (first | refine blk_drewN ?_ _ | refine blk_drew ?_ | refine blk_alloc ?_ _)); exact BK145.out⟩, ⟨by repeat (first | (with_reducible first | exact HB.out | apply below_alloc | apply pw_below_drewN | apply below_drew1 | refine below_set ?_ GE144.out | refine below_set ?_ GE145.out) | exact HB.out)⟩⟩
            · rw [if_neg c13] at H
              have c13b0 : (a0_5 == a1_5) = false := beq_eq_false_iff_ne.mpr c13
              have c13b1 : (a0_5 != a1_5) = true := bne_iff_ne.mpr c13
              have H' := Aside0.mk H
              clear H
              have hnb25 := NB144_145.out
              have hnc25 := NB145_144.out
              have hcz26_0 : w5.cell? ⟨gb144, 0, none⟩ = some (.string a0_0) := (blk_cell BK144.out 0).trans rfl
              have hcz26_1 : w5.cell? ⟨gb144, 1, none⟩ = some (.string a0_1) := (blk_cell BK144.out 1).trans rfl
              have hcz26_2 : w5.cell? ⟨gb144, 2, none⟩ = some (.string a0_2) := (blk_cell BK144.out 2).trans rfl
              have hcz26_3 : w5.cell? ⟨gb144, 3, none⟩ = some (.string a0_3) := (blk_cell BK144.out 3).trans rfl
              have hcz26_4 : w5.cell? ⟨gb144, 4, none⟩ = some (.bool a0_4) := (blk_cell BK144.out 4).trans rfl
              have hcz26_5 : w5.cell? ⟨gb144, 5, none⟩ = some (.int .i64 a0_5) := (blk_cell BK144.out 5).trans rfl
              have hcz26_6 : w5.cell? ⟨gb144, 6, none⟩ = some (.bool a0_6) := (blk_cell BK144.out 6).trans rfl
              have hcz26_7 : w5.cell? ⟨gb144, 7, none⟩ = some (.string a0_7) := (blk_cell BK144.out 7).trans rfl
              have hcz26_8 : w5.cell? ⟨gb144, 8, none⟩ = some (.slice A0_8 l0_8.length c0_8) := (blk_cell BK144.out 8).trans rfl
              have hcz26_9 : w5.cell? ⟨gb144, 9, none⟩ = some (.bool a0_9) := (blk_cell BK144.out 9).trans rfl
              have hcz26_10 : w5.cell? ⟨gb144, 10, none⟩ = some (.bool a0_10) := (blk_cell BK144.out 10).trans rfl
              have hcz26_11 : w5.cell? ⟨gb144, 11, none⟩ = some (.string a0_11) := (blk_cell BK144.out 11).trans rfl
              have hcz26_12 : w5.cell? ⟨gb144, 12, none⟩ = some (.string a0_12) := (blk_cell BK144.out 12).trans rfl
              have hfz26_0 := blk_frozen BK144.out 0
              have hfz26_1 := blk_frozen BK144.out 1
              have hfz26_2 := blk_frozen BK144.out 2
              have hfz26_3 := blk_frozen BK144.out 3
              have hfz26_4 := blk_frozen BK144.out 4
              have hfz26_5 := blk_frozen BK144.out 5
              have hfz26_6 := blk_frozen BK144.out 6
              have hfz26_7 := blk_frozen BK144.out 7
              have hfz26_8 := blk_frozen BK144.out 8
              have hfz26_9 := blk_frozen BK144.out 9
              have hfz26_10 := blk_frozen BK144.out 10
              have hfz26_11 := blk_frozen BK144.out 11
              have hfz26_12 := blk_frozen BK144.out 12
              have hcz27_0 : w5.cell? ⟨gb145, 0, none⟩ = some (.string a1_0) := (blk_cell BK145.out 0).trans rfl
              have hcz27_1 : w5.cell? ⟨gb145, 1, none⟩ = some (.string a1_1) := (blk_cell BK145.out 1).trans rfl
              have hcz27_2 : w5.cell? ⟨gb145, 2, none⟩ = some (.string a1_2) := (blk_cell BK145.out 2).trans rfl
              have hcz27_3 : w5.cell? ⟨gb145, 3, none⟩ = some (.string a1_3) := (blk_cell BK145.out 3).trans rfl
              have hcz27_4 : w5.cell? ⟨gb145, 4, none⟩ = some (.bool a1_4) := (blk_cell BK145.out 4).trans rfl
              have hcz27_5 : w5.cell? ⟨gb145, 5, none⟩ = some (.int .i64 a1_5) := (blk_cell BK145.out 5).trans rfl
              have hcz27_6 : w5.cell? ⟨gb145, 6, none⟩ = some (.bool a1_6) := (blk_cell BK145.out 6).trans rfl
              have hcz27_7 : w5.cell? ⟨gb145, 7, none⟩ = some (.string a1_7) := (blk_cell BK145.out 7).trans rfl
              have hcz27_8 : w5.cell? ⟨gb145, 8, none⟩ = some (.slice A1_8 l1_8.length c1_8) := (blk_cell BK145.out 8).trans rfl
              have hcz27_9 : w5.cell? ⟨gb145, 9, none⟩ = some (.bool a1_9) := (blk_cell BK145.out 9).trans rfl
              have hcz27_10 : w5.cell? ⟨gb145, 10, none⟩ = some (.bool a1_10) := (blk_cell BK145.out 10).trans rfl
              have hcz27_11 : w5.cell? ⟨gb145, 11, none⟩ = some (.string a1_11) := (blk_cell BK145.out 11).trans rfl
              have hcz27_12 : w5.cell? ⟨gb145, 12, none⟩ = some (.string a1_12) := (blk_cell BK145.out 12).trans rfl
              have hfz27_0 := blk_frozen BK145.out 0
              have hfz27_1 := blk_frozen BK145.out 1
              have hfz27_2 := blk_frozen BK145.out 2
              have hfz27_3 := blk_frozen BK145.out 3
              have hfz27_4 := blk_frozen BK145.out 4
              have hfz27_5 := blk_frozen BK145.out 5
              have hfz27_6 := blk_frozen BK145.out 6
              have hfz27_7 := blk_frozen BK145.out 7
              have hfz27_8 := blk_frozen BK145.out 8
              have hfz27_9 := blk_frozen BK145.out 9
              have hfz27_10 := blk_frozen BK145.out 10
              have hfz27_11 := blk_frozen BK145.out 11
              have hfz27_12 := blk_frozen BK145.out 12
              go_wp2
              go_meet
              case rel => exact ⟨_, (true), (by first | rfl | (simp; done) | (simp [*]; done) | (simp [Go.Proofs.YtamoggikjaoanaaDoor.G.isEmpty_ne]; done)), H', ⟨by first | omega | exact Nat.le_refl _⟩, ⟨by (with_reducible repeat (first | refine blk_drewN ?_ _ | refine blk_drew ?_ | refine blk_alloc ?_ _)); exact BK144.out⟩, ⟨by (with_reducible repeat (first | refine blk_drewN ?_ _ | refine blk_drew ?_ | refine blk_alloc ?_ _)); exact BK145.out⟩, ⟨by repeat (first | (with_reducible first | exact HB.out | apply below_alloc | apply pw_below_drewN | apply below_drew1 | refine below_set ?_ GE144.out | refine below_set ?_ GE145.out) | exact HB.out)⟩⟩
        · rw [if_neg c8] at H
          have c8b0 : (a0_2.toList == a1_2.toList) = false := beq_eq_false_iff_ne.mpr c8
          have c8b1 : (a0_2.toList != a1_2.toList) = true := bne_iff_ne.mpr c8
          have H' := Aside0.mk H
          clear H
          have hnb28 := NB144_145.out
          have hnc28 := NB145_144.out
          have hcz29_0 : w5.cell? ⟨gb144, 0, none⟩ = some (.string a0_0) := (blk_cell BK144.out 0).trans rfl
          have hcz29_1 : w5.cell? ⟨gb144, 1, none⟩ = some (.string a0_1) := (blk_cell BK144.out 1).trans rfl
          have hcz29_2 : w5.cell? ⟨gb144, 2, none⟩ = some (.string a0_2) := (blk_cell BK144.out 2).trans rfl
          have hcz29_3 : w5.cell? ⟨gb144, 3, none⟩ = some (.string a0_3) := (blk_cell BK144.out 3).trans rfl
          have hcz29_4 : w5.cell? ⟨gb144, 4, none⟩ = some (.bool a0_4) := (blk_cell BK144.out 4).trans rfl
          have hcz29_5 : w5.cell? ⟨gb144, 5, none⟩ = some (.int .i64 a0_5) := (blk_cell BK144.out 5).trans rfl
          have hcz29_6 : w5.cell? ⟨gb144, 6, none⟩ = some (.bool a0_6) := (blk_cell BK144.out 6).trans rfl
          have hcz29_7 : w5.cell? ⟨gb144, 7, none⟩ = some (.string a0_7) := (blk_cell BK144.out 7).trans rfl
          have hcz29_8 : w5.cell? ⟨gb144, 8, none⟩ = some (.slice A0_8 l0_8.length c0_8) := (blk_cell BK144.out 8).trans rfl
          have hcz29_9 : w5.cell? ⟨gb144, 9, none⟩ = some (.bool a0_9) := (blk_cell BK144.out 9).trans rfl
          have hcz29_10 : w5.cell? ⟨gb144, 10, none⟩ = some (.bool a0_10) := (blk_cell BK144.out 10).trans rfl
          have hcz29_11 : w5.cell? ⟨gb144, 11, none⟩ = some (.string a0_11) := (blk_cell BK144.out 11).trans rfl
          have hcz29_12 : w5.cell? ⟨gb144, 12, none⟩ = some (.string a0_12) := (blk_cell BK144.out 12).trans rfl
          have hfz29_0 := blk_frozen BK144.out 0
          have hfz29_1 := blk_frozen BK144.out 1
          have hfz29_2 := blk_frozen BK144.out 2
          have hfz29_3 := blk_frozen BK144.out 3
          have hfz29_4 := blk_frozen BK144.out 4
          have hfz29_5 := blk_frozen BK144.out 5
          have hfz29_6 := blk_frozen BK144.out 6
          have hfz29_7 := blk_frozen BK144.out 7
          have hfz29_8 := blk_frozen BK144.out 8
          have hfz29_9 := blk_frozen BK144.out 9
          have hfz29_10 := blk_frozen BK144.out 10
          have hfz29_11 := blk_frozen BK144.out 11
          have hfz29_12 := blk_frozen BK144.out 12
          have hcz30_0 : w5.cell? ⟨gb145, 0, none⟩ = some (.string a1_0) := (blk_cell BK145.out 0).trans rfl
          have hcz30_1 : w5.cell? ⟨gb145, 1, none⟩ = some (.string a1_1) := (blk_cell BK145.out 1).trans rfl
          have hcz30_2 : w5.cell? ⟨gb145, 2, none⟩ = some (.string a1_2) := (blk_cell BK145.out 2).trans rfl
          have hcz30_3 : w5.cell? ⟨gb145, 3, none⟩ = some (.string a1_3) := (blk_cell BK145.out 3).trans rfl
          have hcz30_4 : w5.cell? ⟨gb145, 4, none⟩ = some (.bool a1_4) := (blk_cell BK145.out 4).trans rfl
          have hcz30_5 : w5.cell? ⟨gb145, 5, none⟩ = some (.int .i64 a1_5) := (blk_cell BK145.out 5).trans rfl
          have hcz30_6 : w5.cell? ⟨gb145, 6, none⟩ = some (.bool a1_6) := (blk_cell BK145.out 6).trans rfl
          have hcz30_7 : w5.cell? ⟨gb145, 7, none⟩ = some (.string a1_7) := (blk_cell BK145.out 7).trans rfl
          have hcz30_8 : w5.cell? ⟨gb145, 8, none⟩ = some (.slice A1_8 l1_8.length c1_8) := (blk_cell BK145.out 8).trans rfl
          have hcz30_9 : w5.cell? ⟨gb145, 9, none⟩ = some (.bool a1_9) := (blk_cell BK145.out 9).trans rfl
          have hcz30_10 : w5.cell? ⟨gb145, 10, none⟩ = some (.bool a1_10) := (blk_cell BK145.out 10).trans rfl
          have hcz30_11 : w5.cell? ⟨gb145, 11, none⟩ = some (.string a1_11) := (blk_cell BK145.out 11).trans rfl
          have hcz30_12 : w5.cell? ⟨gb145, 12, none⟩ = some (.string a1_12) := (blk_cell BK145.out 12).trans rfl
          have hfz30_0 := blk_frozen BK145.out 0
          have hfz30_1 := blk_frozen BK145.out 1
          have hfz30_2 := blk_frozen BK145.out 2
          have hfz30_3 := blk_frozen BK145.out 3
          have hfz30_4 := blk_frozen BK145.out 4
          have hfz30_5 := blk_frozen BK145.out 5
          have hfz30_6 := blk_frozen BK145.out 6
          have hfz30_7 := blk_frozen BK145.out 7
          have hfz30_8 := blk_frozen BK145.out 8
          have hfz30_9 := blk_frozen BK145.out 9
          have hfz30_10 := blk_frozen BK145.out 10
          have hfz30_11 := blk_frozen BK145.out 11
          have hfz30_12 := blk_frozen BK145.out 12
          go_wp2
          go_meet
          case rel => exact ⟨_, (true), (by first | rfl | (simp; done) | (simp [*]; done) | (simp [Go.Proofs.YtamoggikjaoanaaDoor.G.isEmpty_ne]; done)), H', ⟨by first | omega | exact Nat.le_refl _⟩, ⟨by (with_reducible repeat (first | refine blk_drewN ?_ _ | refine blk_drew ?_ | refine blk_alloc ?_ _)); exact BK144.out⟩, ⟨by (with_reducible repeat (first | refine blk_drewN ?_ _ | refine blk_drew ?_ | refine blk_alloc ?_ _)); exact BK145.out⟩, ⟨by repeat (first | (with_reducible first | exact HB.out | apply below_alloc | apply pw_below_drewN | apply below_drew1 | refine below_set ?_ GE144.out | refine below_set ?_ GE145.out) | exact HB.out)⟩⟩
      · rw [if_neg c7] at H
        have c7b0 : (a0_1.toList == a1_1.toList) = false := beq_eq_false_iff_ne.mpr c7
        have c7b1 : (a0_1.toList != a1_1.toList) = true := bne_iff_ne.mpr c7
        have H' := Aside0.mk H
        clear H
        have hnb31 := NB144_145.out
        have hnc31 := NB145_144.out
        have hcz32_0 : w5.cell? ⟨gb144, 0, none⟩ = some (.string a0_0) := (blk_cell BK144.out 0).trans rfl
        have hcz32_1 : w5.cell? ⟨gb144, 1, none⟩ = some (.string a0_1) := (blk_cell BK144.out 1).trans rfl
        have hcz32_2 : w5.cell? ⟨gb144, 2, none⟩ = some (.string a0_2) := (blk_cell BK144.out 2).trans rfl
        have hcz32_3 : w5.cell? ⟨gb144, 3, none⟩ = some (.string a0_3) := (blk_cell BK144.out 3).trans rfl
        have hcz32_4 : w5.cell? ⟨gb144, 4, none⟩ = some (.bool a0_4) := (blk_cell BK144.out 4).trans rfl
        have hcz32_5 : w5.cell? ⟨gb144, 5, none⟩ = some (.int .i64 a0_5) := (blk_cell BK144.out 5).trans rfl
        have hcz32_6 : w5.cell? ⟨gb144, 6, none⟩ = some (.bool a0_6) := (blk_cell BK144.out 6).trans rfl
        have hcz32_7 : w5.cell? ⟨gb144, 7, none⟩ = some (.string a0_7) := (blk_cell BK144.out 7).trans rfl
        have hcz32_8 : w5.cell? ⟨gb144, 8, none⟩ = some (.slice A0_8 l0_8.length c0_8) := (blk_cell BK144.out 8).trans rfl
        have hcz32_9 : w5.cell? ⟨gb144, 9, none⟩ = some (.bool a0_9) := (blk_cell BK144.out 9).trans rfl
        have hcz32_10 : w5.cell? ⟨gb144, 10, none⟩ = some (.bool a0_10) := (blk_cell BK144.out 10).trans rfl
        have hcz32_11 : w5.cell? ⟨gb144, 11, none⟩ = some (.string a0_11) := (blk_cell BK144.out 11).trans rfl
        have hcz32_12 : w5.cell? ⟨gb144, 12, none⟩ = some (.string a0_12) := (blk_cell BK144.out 12).trans rfl
        have hfz32_0 := blk_frozen BK144.out 0
        have hfz32_1 := blk_frozen BK144.out 1
        have hfz32_2 := blk_frozen BK144.out 2
        have hfz32_3 := blk_frozen BK144.out 3
        have hfz32_4 := blk_frozen BK144.out 4
        have hfz32_5 := blk_frozen BK144.out 5
        have hfz32_6 := blk_frozen BK144.out 6
        have hfz32_7 := blk_frozen BK144.out 7
        have hfz32_8 := blk_frozen BK144.out 8
        have hfz32_9 := blk_frozen BK144.out 9
        have hfz32_10 := blk_frozen BK144.out 10
        have hfz32_11 := blk_frozen BK144.out 11
        have hfz32_12 := blk_frozen BK144.out 12
        have hcz33_0 : w5.cell? ⟨gb145, 0, none⟩ = some (.string a1_0) := (blk_cell BK145.out 0).trans rfl
        have hcz33_1 : w5.cell? ⟨gb145, 1, none⟩ = some (.string a1_1) := (blk_cell BK145.out 1).trans rfl
        have hcz33_2 : w5.cell? ⟨gb145, 2, none⟩ = some (.string a1_2) := (blk_cell BK145.out 2).trans rfl
        have hcz33_3 : w5.cell? ⟨gb145, 3, none⟩ = some (.string a1_3) := (blk_cell BK145.out 3).trans rfl
        have hcz33_4 : w5.cell? ⟨gb145, 4, none⟩ = some (.bool a1_4) := (blk_cell BK145.out 4).trans rfl
        have hcz33_5 : w5.cell? ⟨gb145, 5, none⟩ = some (.int .i64 a1_5) := (blk_cell BK145.out 5).trans rfl
        have hcz33_6 : w5.cell? ⟨gb145, 6, none⟩ = some (.bool a1_6) := (blk_cell BK145.out 6).trans rfl
        have hcz33_7 : w5.cell? ⟨gb145, 7, none⟩ = some (.string a1_7) := (blk_cell BK145.out 7).trans rfl
        have hcz33_8 : w5.cell? ⟨gb145, 8, none⟩ = some (.slice A1_8 l1_8.length c1_8) := (blk_cell BK145.out 8).trans rfl
        have hcz33_9 : w5.cell? ⟨gb145, 9, none⟩ = some (.bool a1_9) := (blk_cell BK145.out 9).trans rfl
        have hcz33_10 : w5.cell? ⟨gb145, 10, none⟩ = some (.bool a1_10) := (blk_cell BK145.out 10).trans rfl
        have hcz33_11 : w5.cell? ⟨gb145, 11, none⟩ = some (.string a1_11) := (blk_cell BK145.out 11).trans rfl
        have hcz33_12 : w5.cell? ⟨gb145, 12, none⟩ = some (.string a1_12) := (blk_cell BK145.out 12).trans rfl
        have hfz33_0 := blk_frozen BK145.out 0
        have hfz33_1 := blk_frozen BK145.out 1
        have hfz33_2 := blk_frozen BK145.out 2
        have hfz33_3 := blk_frozen BK145.out 3
        have hfz33_4 := blk_frozen BK145.out 4
        have hfz33_5 := blk_frozen BK145.out 5
        have hfz33_6 := blk_frozen BK145.out 6
        have hfz33_7 := blk_frozen BK145.out 7
        have hfz33_8 := blk_frozen BK145.out 8
        have hfz33_9 := blk_frozen BK145.out 9
        have hfz33_10 := blk_frozen BK145.out 10
        have hfz33_11 := blk_frozen BK145.out 11
        have hfz33_12 := blk_frozen BK145.out 12
        go_wp2
        go_meet
        case rel => exact ⟨_, (true), (by first | rfl | (simp; done) | (simp [*]; done) | (simp [Go.Proofs.YtamoggikjaoanaaDoor.G.isEmpty_ne]; done)), H', ⟨by first | omega | exact Nat.le_refl _⟩, ⟨by (with_reducible repeat (first | refine blk_drewN ?_ _ | refine blk_drew ?_ | refine blk_alloc ?_ _)); exact BK144.out⟩, ⟨by (with_reducible repeat (first | refine blk_drewN ?_ _ | refine blk_drew ?_ | refine blk_alloc ?_ _)); exact BK145.out⟩, ⟨by repeat (first | (with_reducible first | exact HB.out | apply below_alloc | apply pw_below_drewN | apply below_drew1 | refine below_set ?_ GE144.out | refine below_set ?_ GE145.out) | exact HB.out)⟩⟩
    · rw [if_neg c6] at H
      have c6b0 : (a0_0.toList == a1_0.toList) = false := beq_eq_false_iff_ne.mpr c6
      have c6b1 : (a0_0.toList != a1_0.toList) = true := bne_iff_ne.mpr c6
      (first | rw [c6b0] | (simp only [i64_w, i32_w]; rw [c6b0]) | skip)
      have H' := Aside0.mk H
      clear H
      have hnb34 := NB144_145.out
      have hnc34 := NB145_144.out
      have hcz35_0 : w5.cell? ⟨gb144, 0, none⟩ = some (.string a0_0) := (blk_cell BK144.out 0).trans rfl
      have hcz35_1 : w5.cell? ⟨gb144, 1, none⟩ = some (.string a0_1) := (blk_cell BK144.out 1).trans rfl
      have hcz35_2 : w5.cell? ⟨gb144, 2, none⟩ = some (.string a0_2) := (blk_cell BK144.out 2).trans rfl
      have hcz35_3 : w5.cell? ⟨gb144, 3, none⟩ = some (.string a0_3) := (blk_cell BK144.out 3).trans rfl
      have hcz35_4 : w5.cell? ⟨gb144, 4, none⟩ = some (.bool a0_4) := (blk_cell BK144.out 4).trans rfl
      have hcz35_5 : w5.cell? ⟨gb144, 5, none⟩ = some (.int .i64 a0_5) := (blk_cell BK144.out 5).trans rfl
      have hcz35_6 : w5.cell? ⟨gb144, 6, none⟩ = some (.bool a0_6) := (blk_cell BK144.out 6).trans rfl
      have hcz35_7 : w5.cell? ⟨gb144, 7, none⟩ = some (.string a0_7) := (blk_cell BK144.out 7).trans rfl
      have hcz35_8 : w5.cell? ⟨gb144, 8, none⟩ = some (.slice A0_8 l0_8.length c0_8) := (blk_cell BK144.out 8).trans rfl
      have hcz35_9 : w5.cell? ⟨gb144, 9, none⟩ = some (.bool a0_9) := (blk_cell BK144.out 9).trans rfl
      have hcz35_10 : w5.cell? ⟨gb144, 10, none⟩ = some (.bool a0_10) := (blk_cell BK144.out 10).trans rfl
      have hcz35_11 : w5.cell? ⟨gb144, 11, none⟩ = some (.string a0_11) := (blk_cell BK144.out 11).trans rfl
      have hcz35_12 : w5.cell? ⟨gb144, 12, none⟩ = some (.string a0_12) := (blk_cell BK144.out 12).trans rfl
      have hfz35_0 := blk_frozen BK144.out 0
      have hfz35_1 := blk_frozen BK144.out 1
      have hfz35_2 := blk_frozen BK144.out 2
      have hfz35_3 := blk_frozen BK144.out 3
      have hfz35_4 := blk_frozen BK144.out 4
      have hfz35_5 := blk_frozen BK144.out 5
      have hfz35_6 := blk_frozen BK144.out 6
      have hfz35_7 := blk_frozen BK144.out 7
      have hfz35_8 := blk_frozen BK144.out 8
      have hfz35_9 := blk_frozen BK144.out 9
      have hfz35_10 := blk_frozen BK144.out 10
      have hfz35_11 := blk_frozen BK144.out 11
      have hfz35_12 := blk_frozen BK144.out 12
      have hcz36_0 : w5.cell? ⟨gb145, 0, none⟩ = some (.string a1_0) := (blk_cell BK145.out 0).trans rfl
      have hcz36_1 : w5.cell? ⟨gb145, 1, none⟩ = some (.string a1_1) := (blk_cell BK145.out 1).trans rfl
      have hcz36_2 : w5.cell? ⟨gb145, 2, none⟩ = some (.string a1_2) := (blk_cell BK145.out 2).trans rfl
      have hcz36_3 : w5.cell? ⟨gb145, 3, none⟩ = some (.string a1_3) := (blk_cell BK145.out 3).trans rfl
      have hcz36_4 : w5.cell? ⟨gb145, 4, none⟩ = some (.bool a1_4) := (blk_cell BK145.out 4).trans rfl
      have hcz36_5 : w5.cell? ⟨gb145, 5, none⟩ = some (.int .i64 a1_5) := (blk_cell BK145.out 5).trans rfl
      have hcz36_6 : w5.cell? ⟨gb145, 6, none⟩ = some (.bool a1_6) := (blk_cell BK145.out 6).trans rfl
      have hcz36_7 : w5.cell? ⟨gb145, 7, none⟩ = some (.string a1_7) := (blk_cell BK145.out 7).trans rfl
      have hcz36_8 : w5.cell? ⟨gb145, 8, none⟩ = some (.slice A1_8 l1_8.length c1_8) := (blk_cell BK145.out 8).trans rfl
      have hcz36_9 : w5.cell? ⟨gb145, 9, none⟩ = some (.bool a1_9) := (blk_cell BK145.out 9).trans rfl
      have hcz36_10 : w5.cell? ⟨gb145, 10, none⟩ = some (.bool a1_10) := (blk_cell BK145.out 10).trans rfl
      have hcz36_11 : w5.cell? ⟨gb145, 11, none⟩ = some (.string a1_11) := (blk_cell BK145.out 11).trans rfl
      have hcz36_12 : w5.cell? ⟨gb145, 12, none⟩ = some (.string a1_12) := (blk_cell BK145.out 12).trans rfl
      have hfz36_0 := blk_frozen BK145.out 0
      have hfz36_1 := blk_frozen BK145.out 1
      have hfz36_2 := blk_frozen BK145.out 2
      have hfz36_3 := blk_frozen BK145.out 3
      have hfz36_4 := blk_frozen BK145.out 4
      have hfz36_5 := blk_frozen BK145.out 5
      have hfz36_6 := blk_frozen BK145.out 6
      have hfz36_7 := blk_frozen BK145.out 7
      have hfz36_8 := blk_frozen BK145.out 8
      have hfz36_9 := blk_frozen BK145.out 9
      have hfz36_10 := blk_frozen BK145.out 10
      have hfz36_11 := blk_frozen BK145.out 11
      have hfz36_12 := blk_frozen BK145.out 12
      go_wp2
      go_meet
      case rel => exact ⟨_, (true), (by first | rfl | (simp; done) | (simp [*]; done) | (simp [Go.Proofs.YtamoggikjaoanaaDoor.G.isEmpty_ne]; done)), H', ⟨by first | omega | exact Nat.le_refl _⟩, ⟨by (with_reducible repeat (first | refine blk_drewN ?_ _ | refine blk_drew ?_ | refine blk_alloc ?_ _)); exact BK144.out⟩, ⟨by (with_reducible repeat (first | refine blk_drewN ?_ _ | refine blk_drew ?_ | refine blk_alloc ?_ _)); exact BK145.out⟩, ⟨by repeat (first | (with_reducible first | exact HB.out | apply below_alloc | apply pw_below_drewN | apply below_drew1 | refine below_set ?_ GE144.out | refine below_set ?_ GE145.out) | exact HB.out)⟩⟩
  case rest =>
    clear HC3
    try clear c1
    try clear c2
    try clear p2
    try clear c3
    try clear c6
    try clear c6b0
    try clear c6b1
    try clear c7
    try clear c7b0
    try clear c7b1
    try clear c8
    try clear c8b0
    try clear c8b1
    try clear c9
    try clear c9b0
    try clear c9b1
    try clear c9b2
    try clear c10
    try clear c13
    try clear c13b0
    try clear c13b1
    try clear c14
    try clear c14b0
    try clear c14b1
    try clear c14b2
    try clear c15
    try clear c18
    try clear c18b0
    try clear c18b1
    try clear c18b2
    try clear c19
    try clear c22
    try clear c25
    try clear c28
    try clear c31
    try clear c34
    try clear hcz11_0
    try clear hcz11_1
    try clear hcz11_10
    try clear hcz11_11
    try clear hcz11_12
    try clear hcz11_2
    try clear hcz11_3
    try clear hcz11_4
    try clear hcz11_5
    try clear hcz11_6
    try clear hcz11_7
    try clear hcz11_8
    try clear hcz11_9
    try clear hcz12_0
    try clear hcz12_1
    try clear hcz12_10
    try clear hcz12_11
    try clear hcz12_12
    try clear hcz12_2
    try clear hcz12_3
    try clear hcz12_4
    try clear hcz12_5
    try clear hcz12_6
    try clear hcz12_7
    try clear hcz12_8
    try clear hcz12_9
    try clear hcz16_0
    try clear hcz16_1
    try clear hcz16_10
    try clear hcz16_11
    try clear hcz16_12
    try clear hcz16_2
    try clear hcz16_3
    try clear hcz16_4
    try clear hcz16_5
    try clear hcz16_6
    try clear hcz16_7
    try clear hcz16_8
    try clear hcz16_9
    try clear hcz17_0
    try clear hcz17_1
    try clear hcz17_10
    try clear hcz17_11
    try clear hcz17_12
    try clear hcz17_2
    try clear hcz17_3
    try clear hcz17_4
    try clear hcz17_5
    try clear hcz17_6
    try clear hcz17_7
    try clear hcz17_8
    try clear hcz17_9
    try clear hcz20_0
    try clear hcz20_1
    try clear hcz20_10
    try clear hcz20_11
    try clear hcz20_12
    try clear hcz20_2
    try clear hcz20_3
    try clear hcz20_4
    try clear hcz20_5
    try clear hcz20_6
    try clear hcz20_7
    try clear hcz20_8
    try clear hcz20_9
    try clear hcz21_0
    try clear hcz21_1
    try clear hcz21_10
    try clear hcz21_11
    try clear hcz21_12
    try clear hcz21_2
    try clear hcz21_3
    try clear hcz21_4
    try clear hcz21_5
    try clear hcz21_6
    try clear hcz21_7
    try clear hcz21_8
    try clear hcz21_9
    try clear hcz23_0
    try clear hcz23_1
    try clear hcz23_10
    try clear hcz23_11
    try clear hcz23_12
    try clear hcz23_2
    try clear hcz23_3
    try clear hcz23_4
    try clear hcz23_5
    try clear hcz23_6
    try clear hcz23_7
    try clear hcz23_8
    try clear hcz23_9
    try clear hcz24_0
    try clear hcz24_1
    try clear hcz24_10
    try clear hcz24_11
    try clear hcz24_12
    try clear hcz24_2
    try clear hcz24_3
    try clear hcz24_4
    try clear hcz24_5
    try clear hcz24_6
    try clear hcz24_7
    try clear hcz24_8
    try clear hcz24_9
    try clear hcz26_0
    try clear hcz26_1
    try clear hcz26_10
    try clear hcz26_11
    try clear hcz26_12
    try clear hcz26_2
    try clear hcz26_3
    try clear hcz26_4
    try clear hcz26_5
    try clear hcz26_6
    try clear hcz26_7
    try clear hcz26_8
    try clear hcz26_9
    try clear hcz27_0
    try clear hcz27_1
    try clear hcz27_10
    try clear hcz27_11
    try clear hcz27_12
    try clear hcz27_2
    try clear hcz27_3
    try clear hcz27_4
    try clear hcz27_5
    try clear hcz27_6
    try clear hcz27_7
    try clear hcz27_8
    try clear hcz27_9
    try clear hcz29_0
    try clear hcz29_1
    try clear hcz29_10
    try clear hcz29_11
    try clear hcz29_12
    try clear hcz29_2
    try clear hcz29_3
    try clear hcz29_4
    try clear hcz29_5
    try clear hcz29_6
    try clear hcz29_7
    try clear hcz29_8
    try clear hcz29_9
    try clear hcz30_0
    try clear hcz30_1
    try clear hcz30_10
    try clear hcz30_11
    try clear hcz30_12
    try clear hcz30_2
    try clear hcz30_3
    try clear hcz30_4
    try clear hcz30_5
    try clear hcz30_6
    try clear hcz30_7
    try clear hcz30_8
    try clear hcz30_9
    try clear hcz32_0
    try clear hcz32_1
    try clear hcz32_10
    try clear hcz32_11
    try clear hcz32_12
    try clear hcz32_2
    try clear hcz32_3
    try clear hcz32_4
    try clear hcz32_5
    try clear hcz32_6
    try clear hcz32_7
    try clear hcz32_8
    try clear hcz32_9
    try clear hcz33_0
    try clear hcz33_1
    try clear hcz33_10
    try clear hcz33_11
    try clear hcz33_12
    try clear hcz33_2
    try clear hcz33_3
    try clear hcz33_4
    try clear hcz33_5
    try clear hcz33_6
    try clear hcz33_7
    try clear hcz33_8
    try clear hcz33_9
    try clear hcz35_0
    try clear hcz35_1
    try clear hcz35_10
    try clear hcz35_11
    try clear hcz35_12
    try clear hcz35_2
    try clear hcz35_3
    try clear hcz35_4
    try clear hcz35_5
    try clear hcz35_6
    try clear hcz35_7
    try clear hcz35_8
    try clear hcz35_9
    try clear hcz36_0
    try clear hcz36_1
    try clear hcz36_10
    try clear hcz36_11
    try clear hcz36_12
    try clear hcz36_2
    try clear hcz36_3
    try clear hcz36_4
    try clear hcz36_5
    try clear hcz36_6
    try clear hcz36_7
    try clear hcz36_8
    try clear hcz36_9
    try clear hfz11_0
    try clear hfz11_1
    try clear hfz11_10
    try clear hfz11_11
    try clear hfz11_12
    try clear hfz11_2
    try clear hfz11_3
    try clear hfz11_4
    try clear hfz11_5
    try clear hfz11_6
    try clear hfz11_7
    try clear hfz11_8
    try clear hfz11_9
    try clear hfz12_0
    try clear hfz12_1
    try clear hfz12_10
    try clear hfz12_11
    try clear hfz12_12
    try clear hfz12_2
    try clear hfz12_3
    try clear hfz12_4
    try clear hfz12_5
    try clear hfz12_6
    try clear hfz12_7
    try clear hfz12_8
    try clear hfz12_9
    try clear hfz16_0
    try clear hfz16_1
    try clear hfz16_10
    try clear hfz16_11
    try clear hfz16_12
    try clear hfz16_2
    try clear hfz16_3
    try clear hfz16_4
    try clear hfz16_5
    try clear hfz16_6
    try clear hfz16_7
    try clear hfz16_8
    try clear hfz16_9
    try clear hfz17_0
    try clear hfz17_1
    try clear hfz17_10
    try clear hfz17_11
    try clear hfz17_12
    try clear hfz17_2
    try clear hfz17_3
    try clear hfz17_4
    try clear hfz17_5
    try clear hfz17_6
    try clear hfz17_7
    try clear hfz17_8
    try clear hfz17_9
    try clear hfz20_0
    try clear hfz20_1
    try clear hfz20_10
    try clear hfz20_11
    try clear hfz20_12
    try clear hfz20_2
    try clear hfz20_3
    try clear hfz20_4
    try clear hfz20_5
    try clear hfz20_6
    try clear hfz20_7
    try clear hfz20_8
    try clear hfz20_9
    try clear hfz21_0
    try clear hfz21_1
    try clear hfz21_10
    try clear hfz21_11
    try clear hfz21_12
    try clear hfz21_2
    try clear hfz21_3
    try clear hfz21_4
    try clear hfz21_5
    try clear hfz21_6
    try clear hfz21_7
    try clear hfz21_8
    try clear hfz21_9
    try clear hfz23_0
    try clear hfz23_1
    try clear hfz23_10
    try clear hfz23_11
    try clear hfz23_12
    try clear hfz23_2
    try clear hfz23_3
    try clear hfz23_4
    try clear hfz23_5
    try clear hfz23_6
    try clear hfz23_7
    try clear hfz23_8
    try clear hfz23_9
    try clear hfz24_0
    try clear hfz24_1
    try clear hfz24_10
    try clear hfz24_11
    try clear hfz24_12
    try clear hfz24_2
    try clear hfz24_3
    try clear hfz24_4
    try clear hfz24_5
    try clear hfz24_6
    try clear hfz24_7
    try clear hfz24_8
    try clear hfz24_9
    try clear hfz26_0
    try clear hfz26_1
    try clear hfz26_10
    try clear hfz26_11
    try clear hfz26_12
    try clear hfz26_2
    try clear hfz26_3
    try clear hfz26_4
    try clear hfz26_5
    try clear hfz26_6
    try clear hfz26_7
    try clear hfz26_8
    try clear hfz26_9
    try clear hfz27_0
    try clear hfz27_1
    try clear hfz27_10
    try clear hfz27_11
    try clear hfz27_12
    try clear hfz27_2
    try clear hfz27_3
    try clear hfz27_4
    try clear hfz27_5
    try clear hfz27_6
    try clear hfz27_7
    try clear hfz27_8
    try clear hfz27_9
    try clear hfz29_0
    try clear hfz29_1
    try clear hfz29_10
    try clear hfz29_11
    try clear hfz29_12
    try clear hfz29_2
    try clear hfz29_3
    try clear hfz29_4
    try clear hfz29_5
    try clear hfz29_6
    try clear hfz29_7
    try clear hfz29_8
    try clear hfz29_9
    try clear hfz30_0
    try clear hfz30_1
    try clear hfz30_10
    try clear hfz30_11
    try clear hfz30_12
    try clear hfz30_2
    try clear hfz30_3
    try clear hfz30_4
    try clear hfz30_5
    try clear hfz30_6
    try clear hfz30_7
    try clear hfz30_8
    try clear hfz30_9
    try clear hfz32_0
    try clear hfz32_1
    try clear hfz32_10
    try clear hfz32_11
    try clear hfz32_12
    try clear hfz32_2
    try clear hfz32_3
    try clear hfz32_4
    try clear hfz32_5
    try clear hfz32_6
    try clear hfz32_7
    try clear hfz32_8
    try clear hfz32_9
    try clear hfz33_0
    try clear hfz33_1
    try clear hfz33_10
    try clear hfz33_11
    try clear hfz33_12
    try clear hfz33_2
    try clear hfz33_3
    try clear hfz33_4
    try clear hfz33_5
    try clear hfz33_6
    try clear hfz33_7
    try clear hfz33_8
    try clear hfz33_9
    try clear hfz35_0
    try clear hfz35_1
    try clear hfz35_10
    try clear hfz35_11
    try clear hfz35_12
    try clear hfz35_2
    try clear hfz35_3
    try clear hfz35_4
    try clear hfz35_5
    try clear hfz35_6
    try clear hfz35_7
    try clear hfz35_8
    try clear hfz35_9
    try clear hfz36_0
    try clear hfz36_1
    try clear hfz36_10
    try clear hfz36_11
    try clear hfz36_12
    try clear hfz36_2
    try clear hfz36_3
    try clear hfz36_4
    try clear hfz36_5
    try clear hfz36_6
    try clear hfz36_7
    try clear hfz36_8
    try clear hfz36_9
    obtain ⟨kq, x58_2, rfl, HA, HJ2, BK144, BK145, HB⟩ := hcut
    cases kq with
    | zero => exact absurd HA.out (by simp [carryallref11_Same.j0])
    | succ kj2 =>
      have H := HA.out
      clear HA
      simp only [carryallref11_Same.j0] at H
      by_cases c37 : x58_2 = true
      · subst c37
        have H1 : (some false) = some r := by rw [if_pos rfl] at H; exact H
        clear H
        have H := H1
        clear H1
        obtain rfl := Option.some.inj H
        go_wp2
        go_ret
        exact ⟨by first | rfl | (simp [errW_none, errW_some] <;> rfl) | (simp [*, errW_none, errW_some] <;> rfl) | (simp [errW_none, errW_some, Go.Proofs.YtamoggikjaoanaaDoor.G.isEmpty_ne]; done), by repeat (first | (with_reducible first | exact HB.out | apply below_alloc | apply pw_below_drewN | apply below_drew1 | refine below_set ?_ GE144.out | refine below_set ?_ GE145.out) | exact HB.out)⟩
      · replace c37 := Bool.eq_false_iff.mpr c37
        subst c37
        have H1 : (if a0_4 = true then (if a0_3.toList = a1_3.toList then (if a0_9 = true then (if a0_11.toList = a1_11.toList then (if a0_10 = true then (carryallref11_Same.j1 kj2 (a0_12.toList != a1_12.toList) a0_0 a0_1 a0_2 a0_3 a0_4 a0_5 a0_6 a0_7 l0_8 a0_9 a0_10 a0_11 a0_12 a1_0 a1_1 a1_2 a1_3 a1_4 a1_5 a1_6 a1_7 l1_8 a1_9 a1_10 a1_11 a1_12) else (carryallref11_Same.j1 kj2 false a0_0 a0_1 a0_2 a0_3 a0_4 a0_5 a0_6 a0_7 l0_8 a0_9 a0_10 a0_11 a0_12 a1_0 a1_1 a1_2 a1_3 a1_4 a1_5 a1_6 a1_7 l1_8 a1_9 a1_10 a1_11 a1_12)) else (carryallref11_Same.j1 kj2 true a0_0 a0_1 a0_2 a0_3 a0_4 a0_5 a0_6 a0_7 l0_8 a0_9 a0_10 a0_11 a0_12 a1_0 a1_1 a1_2 a1_3 a1_4 a1_5 a1_6 a1_7 l1_8 a1_9 a1_10 a1_11 a1_12)) else (if a0_10 = true then (carryallref11_Same.j1 kj2 (a0_12.toList != a1_12.toList) a0_0 a0_1 a0_2 a0_3 a0_4 a0_5 a0_6 a0_7 l0_8 a0_9 a0_10 a0_11 a0_12 a1_0 a1_1 a1_2 a1_3 a1_4 a1_5 a1_6 a1_7 l1_8 a1_9 a1_10 a1_11 a1_12) else (carryallref11_Same.j1 kj2 false a0_0 a0_1 a0_2 a0_3 a0_4 a0_5 a0_6 a0_7 l0_8 a0_9 a0_10 a0_11 a0_12 a1_0 a1_1 a1_2 a1_3 a1_4 a1_5 a1_6 a1_7 l1_8 a1_9 a1_10 a1_11 a1_12))) else (carryallref11_Same.j1 kj2 true a0_0 a0_1 a0_2 a0_3 a0_4 a0_5 a0_6 a0_7 l0_8 a0_9 a0_10 a0_11 a0_12 a1_0 a1_1 a1_2 a1_3 a1_4 a1_5 a1_6 a1_7 l1_8 a1_9 a1_10 a1_11 a1_12)) else (if a0_9 = true then (if a0_11.toList = a1_11.toList then (if a0_10 = true then (carryallref11_Same.j1 kj2 (a0_12.toList != a1_12.toList) a0_0 a0_1 a0_2 a0_3 a0_4 a0_5 a0_6 a0_7 l0_8 a0_9 a0_10 a0_11 a0_12 a1_0 a1_1 a1_2 a1_3 a1_4 a1_5 a1_6 a1_7 l1_8 a1_9 a1_10 a1_11 a1_12) else (carryallref11_Same.j1 kj2 false a0_0 a0_1 a0_2 a0_3 a0_4 a0_5 a0_6 a0_7 l0_8 a0_9 a0_10 a0_11 a0_12 a1_0 a1_1 a1_2 a1_3 a1_4 a1_5 a1_6 a1_7 l1_8 a1_9 a1_10 a1_11 a1_12)) else (carryallref11_Same.j1 kj2 true a0_0 a0_1 a0_2 a0_3 a0_4 a0_5 a0_6 a0_7 l0_8 a0_9 a0_10 a0_11 a0_12 a1_0 a1_1 a1_2 a1_3 a1_4 a1_5 a1_6 a1_7 l1_8 a1_9 a1_10 a1_11 a1_12)) else (if a0_10 = true then (carryallref11_Same.j1 kj2 (a0_12.toList != a1_12.toList) a0_0 a0_1 a0_2 a0_3 a0_4 a0_5 a0_6 a0_7 l0_8 a0_9 a0_10 a0_11 a0_12 a1_0 a1_1 a1_2 a1_3 a1_4 a1_5 a1_6 a1_7 l1_8 a1_9 a1_10 a1_11 a1_12) else (carryallref11_Same.j1 kj2 false a0_0 a0_1 a0_2 a0_3 a0_4 a0_5 a0_6 a0_7 l0_8 a0_9 a0_10 a0_11 a0_12 a1_0 a1_1 a1_2 a1_3 a1_4 a1_5 a1_6 a1_7 l1_8 a1_9 a1_10 a1_11 a1_12)))) = some r := by rw [if_neg (show ¬ (false = true) by decide)] at H; exact H
        clear H
        have H := H1
        clear H1
        have HC38 := Aside0.mk H
        clear H
        go_upto_region 3 with (fail)
        go_cut [89] (fun v89 wc => ∃ (kq : Nat) (x89_37 : Bool), v89 = .bool x89_37 ∧ Aside0 (carryallref11_Same.j1 kq x89_37 a0_0 a0_1 a0_2 a0_3 a0_4 a0_5 a0_6 a0_7 l0_8 a0_9 a0_10 a0_11 a0_12 a1_0 a1_1 a1_2 a1_3 a1_4 a1_5 a1_6 a1_7 l1_8 a1_9 a1_10 a1_11 a1_12 = some r) ∧ Aside0 (kq ≤ kj2) ∧ Aside0 (wc.heap[gb144]? = some (.cells #[.string a0_0, .string a0_1, .string a0_2, .string a0_3, .bool a0_4, .int .i64 a0_5, .bool a0_6, .string a0_7, (.slice A0_8 l0_8.length c0_8), .bool a0_9, .bool a0_10, .string a0_11, .string a0_12] 24 (0, 0))) ∧ Aside0 (wc.heap[gb145]? = some (.cells #[.string a1_0, .string a1_1, .string a1_2, .string a1_3, .bool a1_4, .int .i64 a1_5, .bool a1_6, .string a1_7, (.slice A1_8 l1_8.length c1_8), .bool a1_9, .bool a1_10, .string a1_11, .string a1_12] 24 (0, 0))) ∧ Aside0 (Below w.heap.size w wc))
        case first =>
          have H := HC38.out
          clear HC38
          by_cases c39 : a0_4 = true
          · subst c39
            have H1 : (if a0_3.toList = a1_3.toList then (if a0_9 = true then (if a0_11.toList = a1_11.toList then (if a0_10 = true then (carryallref11_Same.j1 kj2 (a0_12.toList != a1_12.toList) a0_0 a0_1 a0_2 a0_3 true a0_5 a0_6 a0_7 l0_8 a0_9 a0_10 a0_11 a0_12 a1_0 a1_1 a1_2 a1_3 a1_4 a1_5 a1_6 a1_7 l1_8 a1_9 a1_10 a1_11 a1_12) else (carryallref11_Same.j1 kj2 false a0_0 a0_1 a0_2 a0_3 true a0_5 a0_6 a0_7 l0_8 a0_9 a0_10 a0_11 a0_12 a1_0 a1_1 a1_2 a1_3 a1_4 a1_5 a1_6 a1_7 l1_8 a1_9 a1_10 a1_11 a1_12)) else (carryallref11_Same.j1 kj2 true a0_0 a0_1 a0_2 a0_3 true a0_5 a0_6 a0_7 l0_8 a0_9 a0_10 a0_11 a0_12 a1_0 a1_1 a1_2 a1_3 a1_4 a1_5 a1_6 a1_7 l1_8 a1_9 a1_10 a1_11 a1_12)) else (if a0_10 = true then (carryallref11_Same.j1 kj2 (a0_12.toList != a1_12.toList) a0_0 a0_1 a0_2 a0_3 true a0_5 a0_6 a0_7 l0_8 a0_9 a0_10 a0_11 a0_12 a1_0 a1_1 a1_2 a1_3 a1_4 a1_5 a1_6 a1_7 l1_8 a1_9 a1_10 a1_11 a1_12) else (carryallref11_Same.j1 kj2 false a0_0 a0_1 a0_2 a0_3 true a0_5 a0_6 a0_7 l0_8 a0_9 a0_10 a0_11 a0_12 a1_0 a1_1 a1_2 a1_3 a1_4 a1_5 a1_6 a1_7 l1_8 a1_9 a1_10 a1_11 a1_12))) else (carryallref11_Same.j1 kj2 true a0_0 a0_1 a0_2 a0_3 true a0_5 a0_6 a0_7 l0_8 a0_9 a0_10 a0_11 a0_12 a1_0 a1_1 a1_2 a1_3 a1_4 a1_5 a1_6 a1_7 l1_8 a1_9 a1_10 a1_11 a1_12)) = some r := by rw [if_pos rfl] at H; exact H
            clear H
            have H := H1
            clear H1
            by_cases c40 : a0_3.toList = a1_3.toList
            · rw [if_pos c40] at H
              have c40b0 : (a0_3.toList == a1_3.toList) = true := beq_iff_eq.mpr c40
              have c40b1 : (a0_3.toList != a1_3.toList) = false := bne_eq_false_iff_eq.mpr c40
              clear c40
              (first | rw [c40b0] | (simp only [i64_w, i32_w]; rw [c40b0]) | skip)
              by_cases c41 : a0_9 = true
              · subst c41
                have H1 : (if a0_11.toList = a1_11.toList then (if a0_10 = true then (carryallref11_Same.j1 kj2 (a0_12.toList != a1_12.toList) a0_0 a0_1 a0_2 a0_3 true a0_5 a0_6 a0_7 l0_8 true a0_10 a0_11 a0_12 a1_0 a1_1 a1_2 a1_3 a1_4 a1_5 a1_6 a1_7 l1_8 a1_9 a1_10 a1_11 a1_12) else (carryallref11_Same.j1 kj2 false a0_0 a0_1 a0_2 a0_3 true a0_5 a0_6 a0_7 l0_8 true a0_10 a0_11 a0_12 a1_0 a1_1 a1_2 a1_3 a1_4 a1_5 a1_6 a1_7 l1_8 a1_9 a1_10 a1_11 a1_12)) else (carryallref11_Same.j1 kj2 true a0_0 a0_1 a0_2 a0_3 true a0_5 a0_6 a0_7 l0_8 true a0_10 a0_11 a0_12 a1_0 a1_1 a1_2 a1_3 a1_4 a1_5 a1_6 a1_7 l1_8 a1_9 a1_10 a1_11 a1_12)) = some r := by rw [if_pos rfl] at H; exact H
                clear H
                have H := H1
                clear H1
                by_cases c42 : a0_11.toList = a1_11.toList
                · rw [if_pos c42] at H
                  have c42b0 : (a0_11.toList == a1_11.toList) = true := beq_iff_eq.mpr c42
                  have c42b1 : (a0_11.toList != a1_11.toList) = false := bne_eq_false_iff_eq.mpr c42
                  clear c42
                  by_cases c43 : a0_10 = true
                  · subst c43
                    have H1 : (carryallref11_Same.j1 kj2 (a0_12.toList != a1_12.toList) a0_0 a0_1 a0_2 a0_3 true a0_5 a0_6 a0_7 l0_8 true true a0_11 a0_12 a1_0 a1_1 a1_2 a1_3 a1_4 a1_5 a1_6 a1_7 l1_8 a1_9 a1_10 a1_11 a1_12) = some r := by rw [if_pos rfl] at H; exact H
                    clear H
                    have H := H1
                    clear H1
                    have H' := Aside0.mk H
                    clear H
                    have hnb44 := NB144_145.out
                    have hnc44 := NB145_144.out
                    have hcz45_0 : wc.cell? ⟨gb144, 0, none⟩ = some (.string a0_0) := (blk_cell BK144.out 0).trans rfl
                    have hcz45_1 : wc.cell? ⟨gb144, 1, none⟩ = some (.string a0_1) := (blk_cell BK144.out 1).trans rfl
                    have hcz45_2 : wc.cell? ⟨gb144, 2, none⟩ = some (.string a0_2) := (blk_cell BK144.out 2).trans rfl
                    have hcz45_3 : wc.cell? ⟨gb144, 3, none⟩ = some (.string a0_3) := (blk_cell BK144.out 3).trans rfl
                    have hcz45_4 : wc.cell? ⟨gb144, 4, none⟩ = some (.bool true) := (blk_cell BK144.out 4).trans rfl
                    have hcz45_5 : wc.cell? ⟨gb144, 5, none⟩ = some (.int .i64 a0_5) := (blk_cell BK144.out 5).trans rfl
                    have hcz45_6 : wc.cell? ⟨gb144, 6, none⟩ = some (.bool a0_6) := (blk_cell BK144.out 6).trans rfl
                    have hcz45_7 : wc.cell? ⟨gb144, 7, none⟩ = some (.string a0_7) := (blk_cell BK144.out 7).trans rfl
                    have hcz45_8 : wc.cell? ⟨gb144, 8, none⟩ = some (.slice A0_8 l0_8.length c0_8) := (blk_cell BK144.out 8).trans rfl
                    have hcz45_9 : wc.cell? ⟨gb144, 9, none⟩ = some (.bool true) := (blk_cell BK144.out 9).trans rfl
                    have hcz45_10 : wc.cell? ⟨gb144, 10, none⟩ = some (.bool true) := (blk_cell BK144.out 10).trans rfl
                    have hcz45_11 : wc.cell? ⟨gb144, 11, none⟩ = some (.string a0_11) := (blk_cell BK144.out 11).trans rfl
                    have hcz45_12 : wc.cell? ⟨gb144, 12, none⟩ = some (.string a0_12) := (blk_cell BK144.out 12).trans rfl
                    have hfz45_0 := blk_frozen BK144.out 0
                    have hfz45_1 := blk_frozen BK144.out 1
                    have hfz45_2 := blk_frozen BK144.out 2
                    have hfz45_3 := blk_frozen BK144.out 3
                    have hfz45_4 := blk_frozen BK144.out 4
                    have hfz45_5 := blk_frozen BK144.out 5
                    have hfz45_6 := blk_frozen BK144.out 6
                    have hfz45_7 := blk_frozen BK144.out 7
                    have hfz45_8 := blk_frozen BK144.out 8
                    have hfz45_9 := blk_frozen BK144.out 9
                    have hfz45_10 := blk_frozen BK144.out 10
                    have hfz45_11 := blk_frozen BK144.out 11
                    have hfz45_12 := blk_frozen BK144.out 12
                    have hcz46_0 : wc.cell? ⟨gb145, 0, none⟩ = some (.string a1_0) := (blk_cell BK145.out 0).trans rfl
                    have hcz46_1 : wc.cell? ⟨gb145, 1, none⟩ = some (.string a1_1) := (blk_cell BK145.out 1).trans rfl
                    have hcz46_2 : wc.cell? ⟨gb145, 2, none⟩ = some (.string a1_2) := (blk_cell BK145.out 2).trans rfl
                    have hcz46_3 : wc.cell? ⟨gb145, 3, none⟩ = some (.string a1_3) := (blk_cell BK145.out 3).trans rfl
                    have hcz46_4 : wc.cell? ⟨gb145, 4, none⟩ = some (.bool a1_4) := (blk_cell BK145.out 4).trans rfl
                    have hcz46_5 : wc.cell? ⟨gb145, 5, none⟩ = some (.int .i64 a1_5) := (blk_cell BK145.out 5).trans rfl
                    have hcz46_6 : wc.cell? ⟨gb145, 6, none⟩ = some (.bool a1_6) := (blk_cell BK145.out 6).trans rfl
                    have hcz46_7 : wc.cell? ⟨gb145, 7, none⟩ = some (.string a1_7) := (blk_cell BK145.out 7).trans rfl
                    have hcz46_8 : wc.cell? ⟨gb145, 8, none⟩ = some (.slice A1_8 l1_8.length c1_8) := (blk_cell BK145.out 8).trans rfl
                    have hcz46_9 : wc.cell? ⟨gb145, 9, none⟩ = some (.bool a1_9) := (blk_cell BK145.out 9).trans rfl
                    have hcz46_10 : wc.cell? ⟨gb145, 10, none⟩ = some (.bool a1_10) := (blk_cell BK145.out 10).trans rfl
                    have hcz46_11 : wc.cell? ⟨gb145, 11, none⟩ = some (.string a1_11) := (blk_cell BK145.out 11).trans rfl
                    have hcz46_12 : wc.cell? ⟨gb145, 12, none⟩ = some (.string a1_12) := (blk_cell BK145.out 12).trans rfl
                    have hfz46_0 := blk_frozen BK145.out 0
                    have hfz46_1 := blk_frozen BK145.out 1
                    have hfz46_2 := blk_frozen BK145.out 2
                    have hfz46_3 := blk_frozen BK145.out 3
                    have hfz46_4 := blk_frozen BK145.out 4
                    have hfz46_5 := blk_frozen BK145.out 5
                    have hfz46_6 := blk_frozen BK145.out 6
                    have hfz46_7 := blk_frozen BK145.out 7
                    have hfz46_8 := blk_frozen BK145.out 8
                    have hfz46_9 := blk_frozen BK145.out 9
                    have hfz46_10 := blk_frozen BK145.out 10
                    have hfz46_11 := blk_frozen BK145.out 11
                    have hfz46_12 := blk_frozen BK145.out 12
                    go_wp2
                    go_meet
                    case rel => exact ⟨_, ((a0_12.toList != a1_12.toList)), (by first | rfl | (simp; done) | (simp [*]; done) | (simp [Go.Proofs.YtamoggikjaoanaaDoor.G.isEmpty_ne]; done)), H', ⟨by have := HJ2.out; first | omega | exact Nat.le_refl _⟩, ⟨by (with_reducible repeat (first | refine blk_drewN ?_ _ | refine blk_drew ?_ | refine blk_alloc ?_ _)); exact BK144.out⟩, ⟨by (with_reducible repeat (first | refine blk_drewN ?_ _ | refine blk_drew ?_ | refine blk_alloc ?_ _)); exact BK145.out⟩, ⟨by repeat (first | (with_reducible first | exact HB.out | apply below_alloc | apply pw_below_drewN | apply below_drew1 | refine below_set ?_ GE144.out | refine below_set ?_ GE145.out) | exact HB.out)⟩⟩
                  · replace c43 := Bool.eq_false_iff.mpr c43
                    subst c43
                    have H1 : (carryallref11_Same.j1 kj2 false a0_0 a0_1 a0_2 a0_3 true a0_5 a0_6 a0_7 l0_8 true false a0_11 a0_12 a1_0 a1_1 a1_2 a1_3 a1_4 a1_5 a1_6 a1_7 l1_8 a1_9 a1_10 a1_11 a1_12) = some r := by rw [if_neg (show ¬ (false = true) by decide)] at H; exact H
                    clear H
                    have H := H1
                    clear H1
                    have H' := Aside0.mk H
                    clear H
                    have hnb47 := NB144_145.out
                    have hnc47 := NB145_144.out
                    have hcz48_0 : wc.cell? ⟨gb144, 0, none⟩ = some (.string a0_0) := (blk_cell BK144.out 0).trans rfl
                    have hcz48_1 : wc.cell? ⟨gb144, 1, none⟩ = some (.string a0_1) := (blk_cell BK144.out 1).trans rfl
                    have hcz48_2 : wc.cell? ⟨gb144, 2, none⟩ = some (.string a0_2) := (blk_cell BK144.out 2).trans rfl
                    have hcz48_3 : wc.cell? ⟨gb144, 3, none⟩ = some (.string a0_3) := (blk_cell BK144.out 3).trans rfl
                    have hcz48_4 : wc.cell? ⟨gb144, 4, none⟩ = some (.bool true) := (blk_cell BK144.out 4).trans rfl
                    have hcz48_5 : wc.cell? ⟨gb144, 5, none⟩ = some (.int .i64 a0_5) := (blk_cell BK144.out 5).trans rfl
                    have hcz48_6 : wc.cell? ⟨gb144, 6, none⟩ = some (.bool a0_6) := (blk_cell BK144.out 6).trans rfl
                    have hcz48_7 : wc.cell? ⟨gb144, 7, none⟩ = some (.string a0_7) := (blk_cell BK144.out 7).trans rfl
                    have hcz48_8 : wc.cell? ⟨gb144, 8, none⟩ = some (.slice A0_8 l0_8.length c0_8) := (blk_cell BK144.out 8).trans rfl
                    have hcz48_9 : wc.cell? ⟨gb144, 9, none⟩ = some (.bool true) := (blk_cell BK144.out 9).trans rfl
                    have hcz48_10 : wc.cell? ⟨gb144, 10, none⟩ = some (.bool false) := (blk_cell BK144.out 10).trans rfl
                    have hcz48_11 : wc.cell? ⟨gb144, 11, none⟩ = some (.string a0_11) := (blk_cell BK144.out 11).trans rfl
                    have hcz48_12 : wc.cell? ⟨gb144, 12, none⟩ = some (.string a0_12) := (blk_cell BK144.out 12).trans rfl
                    have hfz48_0 := blk_frozen BK144.out 0
                    have hfz48_1 := blk_frozen BK144.out 1
                    have hfz48_2 := blk_frozen BK144.out 2
                    have hfz48_3 := blk_frozen BK144.out 3
                    have hfz48_4 := blk_frozen BK144.out 4
                    have hfz48_5 := blk_frozen BK144.out 5
                    have hfz48_6 := blk_frozen BK144.out 6
                    have hfz48_7 := blk_frozen BK144.out 7
                    have hfz48_8 := blk_frozen BK144.out 8
                    have hfz48_9 := blk_frozen BK144.out 9
                    have hfz48_10 := blk_frozen BK144.out 10
                    have hfz48_11 := blk_frozen BK144.out 11
                    have hfz48_12 := blk_frozen BK144.out 12
                    have hcz49_0 : wc.cell? ⟨gb145, 0, none⟩ = some (.string a1_0) := (blk_cell BK145.out 0).trans rfl
                    have hcz49_1 : wc.cell? ⟨gb145, 1, none⟩ = some (.string a1_1) := (blk_cell BK145.out 1).trans rfl
                    have hcz49_2 : wc.cell? ⟨gb145, 2, none⟩ = some (.string a1_2) := (blk_cell BK145.out 2).trans rfl
                    have hcz49_3 : wc.cell? ⟨gb145, 3, none⟩ = some (.string a1_3) := (blk_cell BK145.out 3).trans rfl
                    have hcz49_4 : wc.cell? ⟨gb145, 4, none⟩ = some (.bool a1_4) := (blk_cell BK145.out 4).trans rfl
                    have hcz49_5 : wc.cell? ⟨gb145, 5, none⟩ = some (.int .i64 a1_5) := (blk_cell BK145.out 5).trans rfl
                    have hcz49_6 : wc.cell? ⟨gb145, 6, none⟩ = some (.bool a1_6) := (blk_cell BK145.out 6).trans rfl
                    have hcz49_7 : wc.cell? ⟨gb145, 7, none⟩ = some (.string a1_7) := (blk_cell BK145.out 7).trans rfl
                    have hcz49_8 : wc.cell? ⟨gb145, 8, none⟩ = some (.slice A1_8 l1_8.length c1_8) := (blk_cell BK145.out 8).trans rfl
                    have hcz49_9 : wc.cell? ⟨gb145, 9, none⟩ = some (.bool a1_9) := (blk_cell BK145.out 9).trans rfl
                    have hcz49_10 : wc.cell? ⟨gb145, 10, none⟩ = some (.bool a1_10) := (blk_cell BK145.out 10).trans rfl
                    have hcz49_11 : wc.cell? ⟨gb145, 11, none⟩ = some (.string a1_11) := (blk_cell BK145.out 11).trans rfl
                    have hcz49_12 : wc.cell? ⟨gb145, 12, none⟩ = some (.string a1_12) := (blk_cell BK145.out 12).trans rfl
                    have hfz49_0 := blk_frozen BK145.out 0
                    have hfz49_1 := blk_frozen BK145.out 1
                    have hfz49_2 := blk_frozen BK145.out 2
                    have hfz49_3 := blk_frozen BK145.out 3
                    have hfz49_4 := blk_frozen BK145.out 4
                    have hfz49_5 := blk_frozen BK145.out 5
                    have hfz49_6 := blk_frozen BK145.out 6
                    have hfz49_7 := blk_frozen BK145.out 7
                    have hfz49_8 := blk_frozen BK145.out 8
                    have hfz49_9 := blk_frozen BK145.out 9
                    have hfz49_10 := blk_frozen BK145.out 10
                    have hfz49_11 := blk_frozen BK145.out 11
                    have hfz49_12 := blk_frozen BK145.out 12
                    go_wp2
                    go_meet
                    case rel => exact ⟨_, (false), (by first | rfl | (simp; done) | (simp [*]; done) | (simp [Go.Proofs.YtamoggikjaoanaaDoor.G.isEmpty_ne]; done)), H', ⟨by have := HJ2.out; first | omega | exact Nat.le_refl _⟩, ⟨by (with_reducible repeat (first | refine blk_drewN ?_ _ | refine blk_drew ?_ | refine blk_alloc ?_ _)); exact BK144.out⟩, ⟨by (with_reducible repeat (first | refine blk_drewN ?_ _ | refine blk_drew ?_ | refine blk_alloc ?_ _)); exact BK145.out⟩, ⟨by repeat (first | (with_reducible first | exact HB.out | apply below_alloc | apply pw_below_drewN | apply below_drew1 | refine below_set ?_ GE144.out | refine below_set ?_ GE145.out) | exact HB.out)⟩⟩
                · rw [if_neg c42] at H
                  have c42b0 : (a0_11.toList == a1_11.toList) = false := beq_eq_false_iff_ne.mpr c42
                  have c42b1 : (a0_11.toList != a1_11.toList) = true := bne_iff_ne.mpr c42
                  have H' := Aside0.mk H
                  clear H
                  have hnb50 := NB144_145.out
                  have hnc50 := NB145_144.out
                  have hcz51_0 : wc.cell? ⟨gb144, 0, none⟩ = some (.string a0_0) := (blk_cell BK144.out 0).trans rfl
                  have hcz51_1 : wc.cell? ⟨gb144, 1, none⟩ = some (.string a0_1) := (blk_cell BK144.out 1).trans rfl
                  have hcz51_2 : wc.cell? ⟨gb144, 2, none⟩ = some (.string a0_2) := (blk_cell BK144.out 2).trans rfl
                  have hcz51_3 : wc.cell? ⟨gb144, 3, none⟩ = some (.string a0_3) := (blk_cell BK144.out 3).trans rfl
                  have hcz51_4 : wc.cell? ⟨gb144, 4, none⟩ = some (.bool true) := (blk_cell BK144.out 4).trans rfl
                  have hcz51_5 : wc.cell? ⟨gb144, 5, none⟩ = some (.int .i64 a0_5) := (blk_cell BK144.out 5).trans rfl
                  have hcz51_6 : wc.cell? ⟨gb144, 6, none⟩ = some (.bool a0_6) := (blk_cell BK144.out 6).trans rfl
                  have hcz51_7 : wc.cell? ⟨gb144, 7, none⟩ = some (.string a0_7) := (blk_cell BK144.out 7).trans rfl
                  have hcz51_8 : wc.cell? ⟨gb144, 8, none⟩ = some (.slice A0_8 l0_8.length c0_8) := (blk_cell BK144.out 8).trans rfl
                  have hcz51_9 : wc.cell? ⟨gb144, 9, none⟩ = some (.bool true) := (blk_cell BK144.out 9).trans rfl
                  have hcz51_10 : wc.cell? ⟨gb144, 10, none⟩ = some (.bool a0_10) := (blk_cell BK144.out 10).trans rfl
                  have hcz51_11 : wc.cell? ⟨gb144, 11, none⟩ = some (.string a0_11) := (blk_cell BK144.out 11).trans rfl
                  have hcz51_12 : wc.cell? ⟨gb144, 12, none⟩ = some (.string a0_12) := (blk_cell BK144.out 12).trans rfl
                  have hfz51_0 := blk_frozen BK144.out 0
                  have hfz51_1 := blk_frozen BK144.out 1
                  have hfz51_2 := blk_frozen BK144.out 2
                  have hfz51_3 := blk_frozen BK144.out 3
                  have hfz51_4 := blk_frozen BK144.out 4
                  have hfz51_5 := blk_frozen BK144.out 5
                  have hfz51_6 := blk_frozen BK144.out 6
                  have hfz51_7 := blk_frozen BK144.out 7
                  have hfz51_8 := blk_frozen BK144.out 8
                  have hfz51_9 := blk_frozen BK144.out 9
                  have hfz51_10 := blk_frozen BK144.out 10
                  have hfz51_11 := blk_frozen BK144.out 11
                  have hfz51_12 := blk_frozen BK144.out 12
                  have hcz52_0 : wc.cell? ⟨gb145, 0, none⟩ = some (.string a1_0) := (blk_cell BK145.out 0).trans rfl
                  have hcz52_1 : wc.cell? ⟨gb145, 1, none⟩ = some (.string a1_1) := (blk_cell BK145.out 1).trans rfl
                  have hcz52_2 : wc.cell? ⟨gb145, 2, none⟩ = some (.string a1_2) := (blk_cell BK145.out 2).trans rfl
                  have hcz52_3 : wc.cell? ⟨gb145, 3, none⟩ = some (.string a1_3) := (blk_cell BK145.out 3).trans rfl
                  have hcz52_4 : wc.cell? ⟨gb145, 4, none⟩ = some (.bool a1_4) := (blk_cell BK145.out 4).trans rfl
                  have hcz52_5 : wc.cell? ⟨gb145, 5, none⟩ = some (.int .i64 a1_5) := (blk_cell BK145.out 5).trans rfl
                  have hcz52_6 : wc.cell? ⟨gb145, 6, none⟩ = some (.bool a1_6) := (blk_cell BK145.out 6).trans rfl
                  have hcz52_7 : wc.cell? ⟨gb145, 7, none⟩ = some (.string a1_7) := (blk_cell BK145.out 7).trans rfl
                  have hcz52_8 : wc.cell? ⟨gb145, 8, none⟩ = some (.slice A1_8 l1_8.length c1_8) := (blk_cell BK145.out 8).trans rfl
                  have hcz52_9 : wc.cell? ⟨gb145, 9, none⟩ = some (.bool a1_9) := (blk_cell BK145.out 9).trans rfl
                  have hcz52_10 : wc.cell? ⟨gb145, 10, none⟩ = some (.bool a1_10) := (blk_cell BK145.out 10).trans rfl
                  have hcz52_11 : wc.cell? ⟨gb145, 11, none⟩ = some (.string a1_11) := (blk_cell BK145.out 11).trans rfl
                  have hcz52_12 : wc.cell? ⟨gb145, 12, none⟩ = some (.string a1_12) := (blk_cell BK145.out 12).trans rfl
                  have hfz52_0 := blk_frozen BK145.out 0
                  have hfz52_1 := blk_frozen BK145.out 1
                  have hfz52_2 := blk_frozen BK145.out 2
                  have hfz52_3 := blk_frozen BK145.out 3
                  have hfz52_4 := blk_frozen BK145.out 4
                  have hfz52_5 := blk_frozen BK145.out 5
                  have hfz52_6 := blk_frozen BK145.out 6
                  have hfz52_7 := blk_frozen BK145.out 7
                  have hfz52_8 := blk_frozen BK145.out 8
                  have hfz52_9 := blk_frozen BK145.out 9
                  have hfz52_10 := blk_frozen BK145.out 10
                  have hfz52_11 := blk_frozen BK145.out 11
                  have hfz52_12 := blk_frozen BK145.out 12
                  go_wp2
                  go_meet
                  case rel => exact ⟨_, (true), (by first | rfl | (simp; done) | (simp [*]; done) | (simp [Go.Proofs.YtamoggikjaoanaaDoor.G.isEmpty_ne]; done)), H', ⟨by have := HJ2.out; first | omega | exact Nat.le_refl _⟩, ⟨by (with_reducible repeat (first | refine blk_drewN ?_ _ | refine blk_drew ?_ | refine blk_alloc ?_ _)); exact BK144.out⟩, ⟨by (with_reducible repeat (first | refine blk_drewN ?_ _ | refine blk_drew ?_ | refine blk_alloc ?_ _)); exact BK145.out⟩, ⟨by repeat (first | (with_reducible first | exact HB.out | apply below_alloc | apply pw_below_drewN | apply below_drew1 | refine below_set ?_ GE144.out | refine below_set ?_ GE145.out) | exact HB.out)⟩⟩
              · replace c41 := Bool.eq_false_iff.mpr c41
                subst c41
                have H1 : (if a0_10 = true then (carryallref11_Same.j1 kj2 (a0_12.toList != a1_12.toList) a0_0 a0_1 a0_2 a0_3 true a0_5 a0_6 a0_7 l0_8 false a0_10 a0_11 a0_12 a1_0 a1_1 a1_2 a1_3 a1_4 a1_5 a1_6 a1_7 l1_8 a1_9 a1_10 a1_11 a1_12) else (carryallref11_Same.j1 kj2 false a0_0 a0_1 a0_2 a0_3 true a0_5 a0_6 a0_7 l0_8 false a0_10 a0_11 a0_12 a1_0 a1_1 a1_2 a1_3 a1_4 a1_5 a1_6 a1_7 l1_8 a1_9 a1_10 a1_11 a1_12)) = some r := by rw [if_neg (show ¬ (false = true) by decide)] at H; exact H
                clear H
                have H := H1
                clear H1
                by_cases c53 : a0_10 = true
                · subst c53
                  have H1 : (carryallref11_Same.j1 kj2 (a0_12.toList != a1_12.toList) a0_0 a0_1 a0_2 a0_3 true a0_5 a0_6 a0_7 l0_8 false true a0_11 a0_12 a1_0 a1_1 a1_2 a1_3 a1_4 a1_5 a1_6 a1_7 l1_8 a1_9 a1_10 a1_11 a1_12) = some r := by rw [if_pos rfl] at H; exact H
                  clear H
                  have H := H1
                  clear H1
                  have H' := Aside0.mk H
                  clear H
                  have hnb54 := NB144_145.out
                  have hnc54 := NB145_144.out
                  have hcz55_0 : wc.cell? ⟨gb144, 0, none⟩ = some (.string a0_0) := (blk_cell BK144.out 0).trans rfl
                  have hcz55_1 : wc.cell? ⟨gb144, 1, none⟩ = some (.string a0_1) := (blk_cell BK144.out 1).trans rfl
                  have hcz55_2 : wc.cell? ⟨gb144, 2, none⟩ = some (.string a0_2) := (blk_cell BK144.out 2).trans rfl
                  have hcz55_3 : wc.cell? ⟨gb144, 3, none⟩ = some (.string a0_3) := (blk_cell BK144.out 3).trans rfl
                  have hcz55_4 : wc.cell? ⟨gb144, 4, none⟩ = some (.bool true) := (blk_cell BK144.out 4).trans rfl
                  have hcz55_5 : wc.cell? ⟨gb144, 5, none⟩ = some (.int .i64 a0_5) := (blk_cell BK144.out 5).trans rfl
                  have hcz55_6 : wc.cell? ⟨gb144, 6, none⟩ = some (.bool a0_6) := (blk_cell BK144.out 6).trans rfl
                  have hcz55_7 : wc.cell? ⟨gb144, 7, none⟩ = some (.string a0_7) := (blk_cell BK144.out 7).trans rfl
                  have hcz55_8 : wc.cell? ⟨gb144, 8, none⟩ = some (.slice A0_8 l0_8.length c0_8) := (blk_cell BK144.out 8).trans rfl
                  have hcz55_9 : wc.cell? ⟨gb144, 9, none⟩ = some (.bool false) := (blk_cell BK144.out 9).trans rfl
                  have hcz55_10 : wc.cell? ⟨gb144, 10, none⟩ = some (.bool true) := (blk_cell BK144.out 10).trans rfl
                  have hcz55_11 : wc.cell? ⟨gb144, 11, none⟩ = some (.string a0_11) := (blk_cell BK144.out 11).trans rfl
                  have hcz55_12 : wc.cell? ⟨gb144, 12, none⟩ = some (.string a0_12) := (blk_cell BK144.out 12).trans rfl
                  have hfz55_0 := blk_frozen BK144.out 0
                  have hfz55_1 := blk_frozen BK144.out 1
                  have hfz55_2 := blk_frozen BK144.out 2
                  have hfz55_3 := blk_frozen BK144.out 3
                  have hfz55_4 := blk_frozen BK144.out 4
                  have hfz55_5 := blk_frozen BK144.out 5
                  have hfz55_6 := blk_frozen BK144.out 6
                  have hfz55_7 := blk_frozen BK144.out 7
                  have hfz55_8 := blk_frozen BK144.out 8
                  have hfz55_9 := blk_frozen BK144.out 9
                  have hfz55_10 := blk_frozen BK144.out 10
                  have hfz55_11 := blk_frozen BK144.out 11
                  have hfz55_12 := blk_frozen BK144.out 12
                  have hcz56_0 : wc.cell? ⟨gb145, 0, none⟩ = some (.string a1_0) := (blk_cell BK145.out 0).trans rfl
                  have hcz56_1 : wc.cell? ⟨gb145, 1, none⟩ = some (.string a1_1) := (blk_cell BK145.out 1).trans rfl
                  have hcz56_2 : wc.cell? ⟨gb145, 2, none⟩ = some (.string a1_2) := (blk_cell BK145.out 2).trans rfl
                  have hcz56_3 : wc.cell? ⟨gb145, 3, none⟩ = some (.string a1_3) := (blk_cell BK145.out 3).trans rfl
                  have hcz56_4 : wc.cell? ⟨gb145, 4, none⟩ = some (.bool a1_4) := (blk_cell BK145.out 4).trans rfl
                  have hcz56_5 : wc.cell? ⟨gb145, 5, none⟩ = some (.int .i64 a1_5) := (blk_cell BK145.out 5).trans rfl
                  have hcz56_6 : wc.cell? ⟨gb145, 6, none⟩ = some (.bool a1_6) := (blk_cell BK145.out 6).trans rfl
                  have hcz56_7 : wc.cell? ⟨gb145, 7, none⟩ = some (.string a1_7) := (blk_cell BK145.out 7).trans rfl
                  have hcz56_8 : wc.cell? ⟨gb145, 8, none⟩ = some (.slice A1_8 l1_8.length c1_8) := (blk_cell BK145.out 8).trans rfl
                  have hcz56_9 : wc.cell? ⟨gb145, 9, none⟩ = some (.bool a1_9) := (blk_cell BK145.out 9).trans rfl
                  have hcz56_10 : wc.cell? ⟨gb145, 10, none⟩ = some (.bool a1_10) := (blk_cell BK145.out 10).trans rfl
                  have hcz56_11 : wc.cell? ⟨gb145, 11, none⟩ = some (.string a1_11) := (blk_cell BK145.out 11).trans rfl
                  have hcz56_12 : wc.cell? ⟨gb145, 12, none⟩ = some (.string a1_12) := (blk_cell BK145.out 12).trans rfl
                  have hfz56_0 := blk_frozen BK145.out 0
                  have hfz56_1 := blk_frozen BK145.out 1
                  have hfz56_2 := blk_frozen BK145.out 2
                  have hfz56_3 := blk_frozen BK145.out 3
                  have hfz56_4 := blk_frozen BK145.out 4
                  have hfz56_5 := blk_frozen BK145.out 5
                  have hfz56_6 := blk_frozen BK145.out 6
                  have hfz56_7 := blk_frozen BK145.out 7
                  have hfz56_8 := blk_frozen BK145.out 8
                  have hfz56_9 := blk_frozen BK145.out 9
                  have hfz56_10 := blk_frozen BK145.out 10
                  have hfz56_11 := blk_frozen BK145.out 11
                  have hfz56_12 := blk_frozen BK145.out 12
                  go_wp2
                  go_meet
                  case rel => exact ⟨_, ((a0_12.toList != a1_12.toList)), (by first | rfl | (simp; done) | (simp [*]; done) | (simp [Go.Proofs.YtamoggikjaoanaaDoor.G.isEmpty_ne]; done)), H', ⟨by have := HJ2.out; first | omega | exact Nat.le_refl _⟩, ⟨by (with_reducible repeat (first | refine blk_drewN ?_ _ | refine blk_drew ?_ | refine blk_alloc ?_ _)); exact BK144.out⟩, ⟨by (with_reducible repeat (first | refine blk_drewN ?_ _ | refine blk_drew ?_ | refine blk_alloc ?_ _)); exact BK145.out⟩, ⟨by repeat (first | (with_reducible first | exact HB.out | apply below_alloc | apply pw_below_drewN | apply below_drew1 | refine below_set ?_ GE144.out | refine below_set ?_ GE145.out) | exact HB.out)⟩⟩
                · replace c53 := Bool.eq_false_iff.mpr c53
                  subst c53
                  have H1 : (carryallref11_Same.j1 kj2 false a0_0 a0_1 a0_2 a0_3 true a0_5 a0_6 a0_7 l0_8 false false a0_11 a0_12 a1_0 a1_1 a1_2 a1_3 a1_4 a1_5 a1_6 a1_7 l1_8 a1_9 a1_10 a1_11 a1_12) = some r := by rw [if_neg (show ¬ (false = true) by decide)] at H; exact H
                  clear H
                  have H := H1
                  clear H1
                  have H' := Aside0.mk H
                  clear H
                  have hnb57 := NB144_145.out
                  have hnc57 := NB145_144.out
                  have hcz58_0 : wc.cell? ⟨gb144, 0, none⟩ = some (.string a0_0) := (blk_cell BK144.out 0).trans rfl
                  have hcz58_1 : wc.cell? ⟨gb144, 1, none⟩ = some (.string a0_1) := (blk_cell BK144.out 1).trans rfl
                  have hcz58_2 : wc.cell? ⟨gb144, 2, none⟩ = some (.string a0_2) := (blk_cell BK144.out 2).trans rfl
                  have hcz58_3 : wc.cell? ⟨gb144, 3, none⟩ = some (.string a0_3) := (blk_cell BK144.out 3).trans rfl
                  have hcz58_4 : wc.cell? ⟨gb144, 4, none⟩ = some (.bool true) := (blk_cell BK144.out 4).trans rfl
                  have hcz58_5 : wc.cell? ⟨gb144, 5, none⟩ = some (.int .i64 a0_5) := (blk_cell BK144.out 5).trans rfl
                  have hcz58_6 : wc.cell? ⟨gb144, 6, none⟩ = some (.bool a0_6) := (blk_cell BK144.out 6).trans rfl
                  have hcz58_7 : wc.cell? ⟨gb144, 7, none⟩ = some (.string a0_7) := (blk_cell BK144.out 7).trans rfl
                  have hcz58_8 : wc.cell? ⟨gb144, 8, none⟩ = some (.slice A0_8 l0_8.length c0_8) := (blk_cell BK144.out 8).trans rfl
                  have hcz58_9 : wc.cell? ⟨gb144, 9, none⟩ = some (.bool false) := (blk_cell BK144.out 9).trans rfl
                  have hcz58_10 : wc.cell? ⟨gb144, 10, none⟩ = some (.bool false) := (blk_cell BK144.out 10).trans rfl
                  have hcz58_11 : wc.cell? ⟨gb144, 11, none⟩ = some (.string a0_11) := (blk_cell BK144.out 11).trans rfl
                  have hcz58_12 : wc.cell? ⟨gb144, 12, none⟩ = some (.string a0_12) := (blk_cell BK144.out 12).trans rfl
                  have hfz58_0 := blk_frozen BK144.out 0
                  have hfz58_1 := blk_frozen BK144.out 1
                  have hfz58_2 := blk_frozen BK144.out 2
                  have hfz58_3 := blk_frozen BK144.out 3
                  have hfz58_4 := blk_frozen BK144.out 4
                  have hfz58_5 := blk_frozen BK144.out 5
                  have hfz58_6 := blk_frozen BK144.out 6
                  have hfz58_7 := blk_frozen BK144.out 7
                  have hfz58_8 := blk_frozen BK144.out 8
                  have hfz58_9 := blk_frozen BK144.out 9
                  have hfz58_10 := blk_frozen BK144.out 10
                  have hfz58_11 := blk_frozen BK144.out 11
                  have hfz58_12 := blk_frozen BK144.out 12
                  have hcz59_0 : wc.cell? ⟨gb145, 0, none⟩ = some (.string a1_0) := (blk_cell BK145.out 0).trans rfl
                  have hcz59_1 : wc.cell? ⟨gb145, 1, none⟩ = some (.string a1_1) := (blk_cell BK145.out 1).trans rfl
                  have hcz59_2 : wc.cell? ⟨gb145, 2, none⟩ = some (.string a1_2) := (blk_cell BK145.out 2).trans rfl
                  have hcz59_3 : wc.cell? ⟨gb145, 3, none⟩ = some (.string a1_3) := (blk_cell BK145.out 3).trans rfl
                  have hcz59_4 : wc.cell? ⟨gb145, 4, none⟩ = some (.bool a1_4) := (blk_cell BK145.out 4).trans rfl
                  have hcz59_5 : wc.cell? ⟨gb145, 5, none⟩ = some (.int .i64 a1_5) := (blk_cell BK145.out 5).trans rfl
                  have hcz59_6 : wc.cell? ⟨gb145, 6, none⟩ = some (.bool a1_6) := (blk_cell BK145.out 6).trans rfl
                  have hcz59_7 : wc.cell? ⟨gb145, 7, none⟩ = some (.string a1_7) := (blk_cell BK145.out 7).trans rfl
                  have hcz59_8 : wc.cell? ⟨gb145, 8, none⟩ = some (.slice A1_8 l1_8.length c1_8) := (blk_cell BK145.out 8).trans rfl
                  have hcz59_9 : wc.cell? ⟨gb145, 9, none⟩ = some (.bool a1_9) := (blk_cell BK145.out 9).trans rfl
                  have hcz59_10 : wc.cell? ⟨gb145, 10, none⟩ = some (.bool a1_10) := (blk_cell BK145.out 10).trans rfl
                  have hcz59_11 : wc.cell? ⟨gb145, 11, none⟩ = some (.string a1_11) := (blk_cell BK145.out 11).trans rfl
                  have hcz59_12 : wc.cell? ⟨gb145, 12, none⟩ = some (.string a1_12) := (blk_cell BK145.out 12).trans rfl
                  have hfz59_0 := blk_frozen BK145.out 0
                  have hfz59_1 := blk_frozen BK145.out 1
                  have hfz59_2 := blk_frozen BK145.out 2
                  have hfz59_3 := blk_frozen BK145.out 3
                  have hfz59_4 := blk_frozen BK145.out 4
                  have hfz59_5 := blk_frozen BK145.out 5
                  have hfz59_6 := blk_frozen BK145.out 6
                  have hfz59_7 := blk_frozen BK145.out 7
                  have hfz59_8 := blk_frozen BK145.out 8
                  have hfz59_9 := blk_frozen BK145.out 9
                  have hfz59_10 := blk_frozen BK145.out 10
                  have hfz59_11 := blk_frozen BK145.out 11
                  have hfz59_12 := blk_frozen BK145.out 12
                  go_wp2
                  go_meet
                  case rel => exact ⟨_, (false), (by first | rfl | (simp; done) | (simp [*]; done) | (simp [Go.Proofs.YtamoggikjaoanaaDoor.G.isEmpty_ne]; done)), H', ⟨by have := HJ2.out; first | omega | exact Nat.le_refl _⟩, ⟨by (with_reducible repeat (first | refine blk_drewN ?_ _ | refine blk_drew ?_ | refine blk_alloc ?_ _)); exact BK144.out⟩, ⟨by (with_reducible repeat (first | refine blk_drewN ?_ _ | refine blk_drew ?_ | refine blk_alloc ?_ _)); exact BK145.out⟩, ⟨by repeat (first | (with_reducible first | exact HB.out | apply below_alloc | apply pw_below_drewN | apply below_drew1 | refine below_set ?_ GE144.out | refine below_set ?_ GE145.out) | exact HB.out)⟩⟩
            · rw [if_neg c40] at H
              have c40b0 : (a0_3.toList == a1_3.toList) = false := beq_eq_false_iff_ne.mpr c40
              have c40b1 : (a0_3.toList != a1_3.toList) = true := bne_iff_ne.mpr c40
              (first | rw [c40b0] | (simp only [i64_w, i32_w]; rw [c40b0]) | skip)
              have H' := Aside0.mk H
              clear H
              have hnb60 := NB144_145.out
              have hnc60 := NB145_144.out
              have hcz61_0 : wc.cell? ⟨gb144, 0, none⟩ = some (.string a0_0) := (blk_cell BK144.out 0).trans rfl
              have hcz61_1 : wc.cell? ⟨gb144, 1, none⟩ = some (.string a0_1) := (blk_cell BK144.out 1).trans rfl
              have hcz61_2 : wc.cell? ⟨gb144, 2, none⟩ = some (.string a0_2) := (blk_cell BK144.out 2).trans rfl
              have hcz61_3 : wc.cell? ⟨gb144, 3, none⟩ = some (.string a0_3) := (blk_cell BK144.out 3).trans rfl
              have hcz61_4 : wc.cell? ⟨gb144, 4, none⟩ = some (.bool true) := (blk_cell BK144.out 4).trans rfl
              have hcz61_5 : wc.cell? ⟨gb144, 5, none⟩ = some (.int .i64 a0_5) := (blk_cell BK144.out 5).trans rfl
              have hcz61_6 : wc.cell? ⟨gb144, 6, none⟩ = some (.bool a0_6) := (blk_cell BK144.out 6).trans rfl
              have hcz61_7 : wc.cell? ⟨gb144, 7, none⟩ = some (.string a0_7) := (blk_cell BK144.out 7).trans rfl
              have hcz61_8 : wc.cell? ⟨gb144, 8, none⟩ = some (.slice A0_8 l0_8.length c0_8) := (blk_cell BK144.out 8).trans rfl
              have hcz61_9 : wc.cell? ⟨gb144, 9, none⟩ = some (.bool a0_9) := (blk_cell BK144.out 9).trans rfl
              have hcz61_10 : wc.cell? ⟨gb144, 10, none⟩ = some (.bool a0_10) := (blk_cell BK144.out 10).trans rfl
              have hcz61_11 : wc.cell? ⟨gb144, 11, none⟩ = some (.string a0_11) := (blk_cell BK144.out 11).trans rfl
              have hcz61_12 : wc.cell? ⟨gb144, 12, none⟩ = some (.string a0_12) := (blk_cell BK144.out 12).trans rfl
              have hfz61_0 := blk_frozen BK144.out 0
              have hfz61_1 := blk_frozen BK144.out 1
              have hfz61_2 := blk_frozen BK144.out 2
              have hfz61_3 := blk_frozen BK144.out 3
              have hfz61_4 := blk_frozen BK144.out 4
              have hfz61_5 := blk_frozen BK144.out 5
              have hfz61_6 := blk_frozen BK144.out 6
              have hfz61_7 := blk_frozen BK144.out 7
              have hfz61_8 := blk_frozen BK144.out 8
              have hfz61_9 := blk_frozen BK144.out 9
              have hfz61_10 := blk_frozen BK144.out 10
              have hfz61_11 := blk_frozen BK144.out 11
              have hfz61_12 := blk_frozen BK144.out 12
              have hcz62_0 : wc.cell? ⟨gb145, 0, none⟩ = some (.string a1_0) := (blk_cell BK145.out 0).trans rfl
              have hcz62_1 : wc.cell? ⟨gb145, 1, none⟩ = some (.string a1_1) := (blk_cell BK145.out 1).trans rfl
              have hcz62_2 : wc.cell? ⟨gb145, 2, none⟩ = some (.string a1_2) := (blk_cell BK145.out 2).trans rfl
              have hcz62_3 : wc.cell? ⟨gb145, 3, none⟩ = some (.string a1_3) := (blk_cell BK145.out 3).trans rfl
              have hcz62_4 : wc.cell? ⟨gb145, 4, none⟩ = some (.bool a1_4) := (blk_cell BK145.out 4).trans rfl
              have hcz62_5 : wc.cell? ⟨gb145, 5, none⟩ = some (.int .i64 a1_5) := (blk_cell BK145.out 5).trans rfl
              have hcz62_6 : wc.cell? ⟨gb145, 6, none⟩ = some (.bool a1_6) := (blk_cell BK145.out 6).trans rfl
              have hcz62_7 : wc.cell? ⟨gb145, 7, none⟩ = some (.string a1_7) := (blk_cell BK145.out 7).trans rfl
              have hcz62_8 : wc.cell? ⟨gb145, 8, none⟩ = some (.slice A1_8 l1_8.length c1_8) := (blk_cell BK145.out 8).trans rfl
              have hcz62_9 : wc.cell? ⟨gb145, 9, none⟩ = some (.bool a1_9) := (blk_cell BK145.out 9).trans rfl
              have hcz62_10 : wc.cell? ⟨gb145, 10, none⟩ = some (.bool a1_10) := (blk_cell BK145.out 10).trans rfl
              have hcz62_11 : wc.cell? ⟨gb145, 11, none⟩ = some (.string a1_11) := (blk_cell BK145.out 11).trans rfl
              have hcz62_12 : wc.cell? ⟨gb145, 12, none⟩ = some (.string a1_12) := (blk_cell BK145.out 12).trans rfl
              have hfz62_0 := blk_frozen BK145.out 0
              have hfz62_1 := blk_frozen BK145.out 1
              have hfz62_2 := blk_frozen BK145.out 2
              have hfz62_3 := blk_frozen BK145.out 3
              have hfz62_4 := blk_frozen BK145.out 4
              have hfz62_5 := blk_frozen BK145.out 5
              have hfz62_6 := blk_frozen BK145.out 6
              have hfz62_7 := blk_frozen BK145.out 7
              have hfz62_8 := blk_frozen BK145.out 8
              have hfz62_9 := blk_frozen BK145.out 9
              have hfz62_10 := blk_frozen BK145.out 10
              have hfz62_11 := blk_frozen BK145.out 11
              have hfz62_12 := blk_frozen BK145.out 12
              go_wp2
              go_meet
              case rel => exact ⟨_, (true), (by first | rfl | (simp; done) | (simp [*]; done) | (simp [Go.Proofs.YtamoggikjaoanaaDoor.G.isEmpty_ne]; done)), H', ⟨by have := HJ2.out; first | omega | exact Nat.le_refl _⟩, ⟨by (with_reducible repeat (first | refine blk_drewN ?_ _ | refine blk_drew ?_ | refine blk_alloc ?_ _)); exact BK144.out⟩, ⟨by (with_reducible repeat (first | refine blk_drewN ?_ _ | refine blk_drew ?_ | refine blk_alloc ?_ _)); exact BK145.out⟩, ⟨by repeat (first | (with_reducible first | exact HB.out | apply below_alloc | apply pw_below_drewN | apply below_drew1 | refine below_set ?_ GE144.out | refine below_set ?_ GE145.out) | exact HB.out)⟩⟩
          · replace c39 := Bool.eq_false_iff.mpr c39
            subst c39
            have H1 : (if a0_9 = true then (if a0_11.toList = a1_11.toList then (if a0_10 = true then (carryallref11_Same.j1 kj2 (a0_12.toList != a1_12.toList) a0_0 a0_1 a0_2 a0_3 false a0_5 a0_6 a0_7 l0_8 a0_9 a0_10 a0_11 a0_12 a1_0 a1_1 a1_2 a1_3 a1_4 a1_5 a1_6 a1_7 l1_8 a1_9 a1_10 a1_11 a1_12) else (carryallref11_Same.j1 kj2 false a0_0 a0_1 a0_2 a0_3 false a0_5 a0_6 a0_7 l0_8 a0_9 a0_10 a0_11 a0_12 a1_0 a1_1 a1_2 a1_3 a1_4 a1_5 a1_6 a1_7 l1_8 a1_9 a1_10 a1_11 a1_12)) else (carryallref11_Same.j1 kj2 true a0_0 a0_1 a0_2 a0_3 false a0_5 a0_6 a0_7 l0_8 a0_9 a0_10 a0_11 a0_12 a1_0 a1_1 a1_2 a1_3 a1_4 a1_5 a1_6 a1_7 l1_8 a1_9 a1_10 a1_11 a1_12)) else (if a0_10 = true then (carryallref11_Same.j1 kj2 (a0_12.toList != a1_12.toList) a0_0 a0_1 a0_2 a0_3 false a0_5 a0_6 a0_7 l0_8 a0_9 a0_10 a0_11 a0_12 a1_0 a1_1 a1_2 a1_3 a1_4 a1_5 a1_6 a1_7 l1_8 a1_9 a1_10 a1_11 a1_12) else (carryallref11_Same.j1 kj2 false a0_0 a0_1 a0_2 a0_3 false a0_5 a0_6 a0_7 l0_8 a0_9 a0_10 a0_11 a0_12 a1_0 a1_1 a1_2 a1_3 a1_4 a1_5 a1_6 a1_7 l1_8 a1_9 a1_10 a1_11 a1_12))) = some r := by rw [if_neg (show ¬ (false = true) by decide)] at H; exact H
            clear H
            have H := H1
            clear H1
            by_cases c63 : a0_9 = true
            · subst c63
              have H1 : (if a0_11.toList = a1_11.toList then (if a0_10 = true then (carryallref11_Same.j1 kj2 (a0_12.toList != a1_12.toList) a0_0 a0_1 a0_2 a0_3 false a0_5 a0_6 a0_7 l0_8 true a0_10 a0_11 a0_12 a1_0 a1_1 a1_2 a1_3 a1_4 a1_5 a1_6 a1_7 l1_8 a1_9 a1_10 a1_11 a1_12) else (carryallref11_Same.j1 kj2 false a0_0 a0_1 a0_2 a0_3 false a0_5 a0_6 a0_7 l0_8 true a0_10 a0_11 a0_12 a1_0 a1_1 a1_2 a1_3 a1_4 a1_5 a1_6 a1_7 l1_8 a1_9 a1_10 a1_11 a1_12)) else (carryallref11_Same.j1 kj2 true a0_0 a0_1 a0_2 a0_3 false a0_5 a0_6 a0_7 l0_8 true a0_10 a0_11 a0_12 a1_0 a1_1 a1_2 a1_3 a1_4 a1_5 a1_6 a1_7 l1_8 a1_9 a1_10 a1_11 a1_12)) = some r := by rw [if_pos rfl] at H; exact H
              clear H
              have H := H1
              clear H1
              by_cases c64 : a0_11.toList = a1_11.toList
              · rw [if_pos c64] at H
                have c64b0 : (a0_11.toList == a1_11.toList) = true := beq_iff_eq.mpr c64
                have c64b1 : (a0_11.toList != a1_11.toList) = false := bne_eq_false_iff_eq.mpr c64
                clear c64
                by_cases c65 : a0_10 = true
                · subst c65
                  have H1 : (carryallref11_Same.j1 kj2 (a0_12.toList != a1_12.toList) a0_0 a0_1 a0_2 a0_3 false a0_5 a0_6 a0_7 l0_8 true true a0_11 a0_12 a1_0 a1_1 a1_2 a1_3 a1_4 a1_5 a1_6 a1_7 l1_8 a1_9 a1_10 a1_11 a1_12) = some r := by rw [if_pos rfl] at H; exact H
                  clear H
                  have H := H1
                  clear H1
                  have H' := Aside0.mk H
                  clear H
                  have hnb66 := NB144_145.out
                  have hnc66 := NB145_144.out
                  have hcz67_0 : wc.cell? ⟨gb144, 0, none⟩ = some (.string a0_0) := (blk_cell BK144.out 0).trans rfl
                  have hcz67_1 : wc.cell? ⟨gb144, 1, none⟩ = some (.string a0_1) := (blk_cell BK144.out 1).trans rfl
                  have hcz67_2 : wc.cell? ⟨gb144, 2, none⟩ = some (.string a0_2) := (blk_cell BK144.out 2).trans rfl
                  have hcz67_3 : wc.cell? ⟨gb144, 3, none⟩ = some (.string a0_3) := (blk_cell BK144.out 3).trans rfl
                  have hcz67_4 : wc.cell? ⟨gb144, 4, none⟩ = some (.bool false) := (blk_cell BK144.out 4).trans rfl
                  have hcz67_5 : wc.cell? ⟨gb144, 5, none⟩ = some (.int .i64 a0_5) := (blk_cell BK144.out 5).trans rfl
                  have hcz67_6 : wc.cell? ⟨gb144, 6, none⟩ = some (.bool a0_6) := (blk_cell BK144.out 6).trans rfl
                  have hcz67_7 : wc.cell? ⟨gb144, 7, none⟩ = some (.string a0_7) := (blk_cell BK144.out 7).trans rfl
                  have hcz67_8 : wc.cell? ⟨gb144, 8, none⟩ = some (.slice A0_8 l0_8.length c0_8) := (blk_cell BK144.out 8).trans rfl
                  have hcz67_9 : wc.cell? ⟨gb144, 9, none⟩ = some (.bool true) := (blk_cell BK144.out 9).trans rfl
                  have hcz67_10 : wc.cell? ⟨gb144, 10, none⟩ = some (.bool true) := (blk_cell BK144.out 10).trans rfl
                  have hcz67_11 : wc.cell? ⟨gb144, 11, none⟩ = some (.string a0_11) := (blk_cell BK144.out 11).trans rfl
                  have hcz67_12 : wc.cell? ⟨gb144, 12, none⟩ = some (.string a0_12) := (blk_cell BK144.out 12).trans rfl
                  have hfz67_0 := blk_frozen BK144.out 0
                  have hfz67_1 := blk_frozen BK144.out 1
                  have hfz67_2 := blk_frozen BK144.out 2
                  have hfz67_3 := blk_frozen BK144.out 3
                  have hfz67_4 := blk_frozen BK144.out 4
                  have hfz67_5 := blk_frozen BK144.out 5
                  have hfz67_6 := blk_frozen BK144.out 6
                  have hfz67_7 := blk_frozen BK144.out 7
                  have hfz67_8 := blk_frozen BK144.out 8
                  have hfz67_9 := blk_frozen BK144.out 9
                  have hfz67_10 := blk_frozen BK144.out 10
                  have hfz67_11 := blk_frozen BK144.out 11
                  have hfz67_12 := blk_frozen BK144.out 12
                  have hcz68_0 : wc.cell? ⟨gb145, 0, none⟩ = some (.string a1_0) := (blk_cell BK145.out 0).trans rfl
                  have hcz68_1 : wc.cell? ⟨gb145, 1, none⟩ = some (.string a1_1) := (blk_cell BK145.out 1).trans rfl
                  have hcz68_2 : wc.cell? ⟨gb145, 2, none⟩ = some (.string a1_2) := (blk_cell BK145.out 2).trans rfl
                  have hcz68_3 : wc.cell? ⟨gb145, 3, none⟩ = some (.string a1_3) := (blk_cell BK145.out 3).trans rfl
                  have hcz68_4 : wc.cell? ⟨gb145, 4, none⟩ = some (.bool a1_4) := (blk_cell BK145.out 4).trans rfl
                  have hcz68_5 : wc.cell? ⟨gb145, 5, none⟩ = some (.int .i64 a1_5) := (blk_cell BK145.out 5).trans rfl
                  have hcz68_6 : wc.cell? ⟨gb145, 6, none⟩ = some (.bool a1_6) := (blk_cell BK145.out 6).trans rfl
                  have hcz68_7 : wc.cell? ⟨gb145, 7, none⟩ = some (.string a1_7) := (blk_cell BK145.out 7).trans rfl
                  have hcz68_8 : wc.cell? ⟨gb145, 8, none⟩ = some (.slice A1_8 l1_8.length c1_8) := (blk_cell BK145.out 8).trans rfl
                  have hcz68_9 : wc.cell? ⟨gb145, 9, none⟩ = some (.bool a1_9) := (blk_cell BK145.out 9).trans rfl
                  have hcz68_10 : wc.cell? ⟨gb145, 10, none⟩ = some (.bool a1_10) := (blk_cell BK145.out 10).trans rfl
                  have hcz68_11 : wc.cell? ⟨gb145, 11, none⟩ = some (.string a1_11) := (blk_cell BK145.out 11).trans rfl
                  have hcz68_12 : wc.cell? ⟨gb145, 12, none⟩ = some (.string a1_12) := (blk_cell BK145.out 12).trans rfl
                  have hfz68_0 := blk_frozen BK145.out 0
                  have hfz68_1 := blk_frozen BK145.out 1
                  have hfz68_2 := blk_frozen BK145.out 2
                  have hfz68_3 := blk_frozen BK145.out 3
                  have hfz68_4 := blk_frozen BK145.out 4
                  have hfz68_5 := blk_frozen BK145.out 5
                  have hfz68_6 := blk_frozen BK145.out 6
                  have hfz68_7 := blk_frozen BK145.out 7
                  have hfz68_8 := blk_frozen BK145.out 8
                  have hfz68_9 := blk_frozen BK145.out 9
                  have hfz68_10 := blk_frozen BK145.out 10
                  have hfz68_11 := blk_frozen BK145.out 11
                  have hfz68_12 := blk_frozen BK145.out 12
                  go_wp2
                  go_meet
                  case rel => exact ⟨_, ((a0_12.toList != a1_12.toList)), (by first | rfl | (simp; done) | (simp [*]; done) | (simp [Go.Proofs.YtamoggikjaoanaaDoor.G.isEmpty_ne]; done)), H', ⟨by have := HJ2.out; first | omega | exact Nat.le_refl _⟩, ⟨by (with_reducible repeat (first | refine blk_drewN ?_ _ | refine blk_drew ?_ | refine blk_alloc ?_ _)); exact BK144.out⟩, ⟨by (with_reducible repeat (first | refine blk_drewN ?_ _ | refine blk_drew ?_ | refine blk_alloc ?_ _)); exact BK145.out⟩, ⟨by repeat (first | (with_reducible first | exact HB.out | apply below_alloc | apply pw_below_drewN | apply below_drew1 | refine below_set ?_ GE144.out | refine below_set ?_ GE145.out) | exact HB.out)⟩⟩
                · replace c65 := Bool.eq_false_iff.mpr c65
                  subst c65
                  have H1 : (carryallref11_Same.j1 kj2 false a0_0 a0_1 a0_2 a0_3 false a0_5 a0_6 a0_7 l0_8 true false a0_11 a0_12 a1_0 a1_1 a1_2 a1_3 a1_4 a1_5 a1_6 a1_7 l1_8 a1_9 a1_10 a1_11 a1_12) = some r := by rw [if_neg (show ¬ (false = true) by decide)] at H; exact H
                  clear H
                  have H := H1
                  clear H1
                  have H' := Aside0.mk H
                  clear H
                  have hnb69 := NB144_145.out
                  have hnc69 := NB145_144.out
                  have hcz70_0 : wc.cell? ⟨gb144, 0, none⟩ = some (.string a0_0) := (blk_cell BK144.out 0).trans rfl
                  have hcz70_1 : wc.cell? ⟨gb144, 1, none⟩ = some (.string a0_1) := (blk_cell BK144.out 1).trans rfl
                  have hcz70_2 : wc.cell? ⟨gb144, 2, none⟩ = some (.string a0_2) := (blk_cell BK144.out 2).trans rfl
                  have hcz70_3 : wc.cell? ⟨gb144, 3, none⟩ = some (.string a0_3) := (blk_cell BK144.out 3).trans rfl
                  have hcz70_4 : wc.cell? ⟨gb144, 4, none⟩ = some (.bool false) := (blk_cell BK144.out 4).trans rfl
                  have hcz70_5 : wc.cell? ⟨gb144, 5, none⟩ = some (.int .i64 a0_5) := (blk_cell BK144.out 5).trans rfl
                  have hcz70_6 : wc.cell? ⟨gb144, 6, none⟩ = some (.bool a0_6) := (blk_cell BK144.out 6).trans rfl
                  have hcz70_7 : wc.cell? ⟨gb144, 7, none⟩ = some (.string a0_7) := (blk_cell BK144.out 7).trans rfl
                  have hcz70_8 : wc.cell? ⟨gb144, 8, none⟩ = some (.slice A0_8 l0_8.length c0_8) := (blk_cell BK144.out 8).trans rfl
                  have hcz70_9 : wc.cell? ⟨gb144, 9, none⟩ = some (.bool true) := (blk_cell BK144.out 9).trans rfl
                  have hcz70_10 : wc.cell? ⟨gb144, 10, none⟩ = some (.bool false) := (blk_cell BK144.out 10).trans rfl
                  have hcz70_11 : wc.cell? ⟨gb144, 11, none⟩ = some (.string a0_11) := (blk_cell BK144.out 11).trans rfl
                  have hcz70_12 : wc.cell? ⟨gb144, 12, none⟩ = some (.string a0_12) := (blk_cell BK144.out 12).trans rfl
                  have hfz70_0 := blk_frozen BK144.out 0
                  have hfz70_1 := blk_frozen BK144.out 1
                  have hfz70_2 := blk_frozen BK144.out 2
                  have hfz70_3 := blk_frozen BK144.out 3
                  have hfz70_4 := blk_frozen BK144.out 4
                  have hfz70_5 := blk_frozen BK144.out 5
                  have hfz70_6 := blk_frozen BK144.out 6
                  have hfz70_7 := blk_frozen BK144.out 7
                  have hfz70_8 := blk_frozen BK144.out 8
                  have hfz70_9 := blk_frozen BK144.out 9
                  have hfz70_10 := blk_frozen BK144.out 10
                  have hfz70_11 := blk_frozen BK144.out 11
                  have hfz70_12 := blk_frozen BK144.out 12
                  have hcz71_0 : wc.cell? ⟨gb145, 0, none⟩ = some (.string a1_0) := (blk_cell BK145.out 0).trans rfl
                  have hcz71_1 : wc.cell? ⟨gb145, 1, none⟩ = some (.string a1_1) := (blk_cell BK145.out 1).trans rfl
                  have hcz71_2 : wc.cell? ⟨gb145, 2, none⟩ = some (.string a1_2) := (blk_cell BK145.out 2).trans rfl
                  have hcz71_3 : wc.cell? ⟨gb145, 3, none⟩ = some (.string a1_3) := (blk_cell BK145.out 3).trans rfl
                  have hcz71_4 : wc.cell? ⟨gb145, 4, none⟩ = some (.bool a1_4) := (blk_cell BK145.out 4).trans rfl
                  have hcz71_5 : wc.cell? ⟨gb145, 5, none⟩ = some (.int .i64 a1_5) := (blk_cell BK145.out 5).trans rfl
                  have hcz71_6 : wc.cell? ⟨gb145, 6, none⟩ = some (.bool a1_6) := (blk_cell BK145.out 6).trans rfl
                  have hcz71_7 : wc.cell? ⟨gb145, 7, none⟩ = some (.string a1_7) := (blk_cell BK145.out 7).trans rfl
                  have hcz71_8 : wc.cell? ⟨gb145, 8, none⟩ = some (.slice A1_8 l1_8.length c1_8) := (blk_cell BK145.out 8).trans rfl
                  have hcz71_9 : wc.cell? ⟨gb145, 9, none⟩ = some (.bool a1_9) := (blk_cell BK145.out 9).trans rfl
                  have hcz71_10 : wc.cell? ⟨gb145, 10, none⟩ = some (.bool a1_10) := (blk_cell BK145.out 10).trans rfl
                  have hcz71_11 : wc.cell? ⟨gb145, 11, none⟩ = some (.string a1_11) := (blk_cell BK145.out 11).trans rfl
                  have hcz71_12 : wc.cell? ⟨gb145, 12, none⟩ = some (.string a1_12) := (blk_cell BK145.out 12).trans rfl
                  have hfz71_0 := blk_frozen BK145.out 0
                  have hfz71_1 := blk_frozen BK145.out 1
                  have hfz71_2 := blk_frozen BK145.out 2
                  have hfz71_3 := blk_frozen BK145.out 3
                  have hfz71_4 := blk_frozen BK145.out 4
                  have hfz71_5 := blk_frozen BK145.out 5
                  have hfz71_6 := blk_frozen BK145.out 6
                  have hfz71_7 := blk_frozen BK145.out 7
                  have hfz71_8 := blk_frozen BK145.out 8
                  have hfz71_9 := blk_frozen BK145.out 9
                  have hfz71_10 := blk_frozen BK145.out 10
                  have hfz71_11 := blk_frozen BK145.out 11
                  have hfz71_12 := blk_frozen BK145.out 12
                  go_wp2
                  go_meet
                  case rel => exact ⟨_, (false), (by first | rfl | (simp; done) | (simp [*]; done) | (simp [Go.Proofs.YtamoggikjaoanaaDoor.G.isEmpty_ne]; done)), H', ⟨by have := HJ2.out; first | omega | exact Nat.le_refl _⟩, ⟨by (with_reducible repeat (first | refine blk_drewN ?_ _ | refine blk_drew ?_ | refine blk_alloc ?_ _)); exact BK144.out⟩, ⟨by (with_reducible repeat (first | refine blk_drewN ?_ _ | refine blk_drew ?_ | refine blk_alloc ?_ _)); exact BK145.out⟩, ⟨by repeat (first | (with_reducible first | exact HB.out | apply below_alloc | apply pw_below_drewN | apply below_drew1 | refine below_set ?_ GE144.out | refine below_set ?_ GE145.out) | exact HB.out)⟩⟩
              · rw [if_neg c64] at H
                have c64b0 : (a0_11.toList == a1_11.toList) = false := beq_eq_false_iff_ne.mpr c64
                have c64b1 : (a0_11.toList != a1_11.toList) = true := bne_iff_ne.mpr c64
                have H' := Aside0.mk H
                clear H
                have hnb72 := NB144_145.out
                have hnc72 := NB145_144.out
                have hcz73_0 : wc.cell? ⟨gb144, 0, none⟩ = some (.string a0_0) := (blk_cell BK144.out 0).trans rfl
                have hcz73_1 : wc.cell? ⟨gb144, 1, none⟩ = some (.string a0_1) := (blk_cell BK144.out 1).trans rfl
                have hcz73_2 : wc.cell? ⟨gb144, 2, none⟩ = some (.string a0_2) := (blk_cell BK144.out 2).trans rfl
                have hcz73_3 : wc.cell? ⟨gb144, 3, none⟩ = some (.string a0_3) := (blk_cell BK144.out 3).trans rfl
                have hcz73_4 : wc.cell? ⟨gb144, 4, none⟩ = some (.bool false) := (blk_cell BK144.out 4).trans rfl
                have hcz73_5 : wc.cell? ⟨gb144, 5, none⟩ = some (.int .i64 a0_5) := (blk_cell BK144.out 5).trans rfl
                have hcz73_6 : wc.cell? ⟨gb144, 6, none⟩ = some (.bool a0_6) := (blk_cell BK144.out 6).trans rfl
                have hcz73_7 : wc.cell? ⟨gb144, 7, none⟩ = some (.string a0_7) := (blk_cell BK144.out 7).trans rfl
                have hcz73_8 : wc.cell? ⟨gb144, 8, none⟩ = some (.slice A0_8 l0_8.length c0_8) := (blk_cell BK144.out 8).trans rfl
                have hcz73_9 : wc.cell? ⟨gb144, 9, none⟩ = some (.bool true) := (blk_cell BK144.out 9).trans rfl
                have hcz73_10 : wc.cell? ⟨gb144, 10, none⟩ = some (.bool a0_10) := (blk_cell BK144.out 10).trans rfl
                have hcz73_11 : wc.cell? ⟨gb144, 11, none⟩ = some (.string a0_11) := (blk_cell BK144.out 11).trans rfl
                have hcz73_12 : wc.cell? ⟨gb144, 12, none⟩ = some (.string a0_12) := (blk_cell BK144.out 12).trans rfl
                have hfz73_0 := blk_frozen BK144.out 0
                have hfz73_1 := blk_frozen BK144.out 1
                have hfz73_2 := blk_frozen BK144.out 2
                have hfz73_3 := blk_frozen BK144.out 3
                have hfz73_4 := blk_frozen BK144.out 4
                have hfz73_5 := blk_frozen BK144.out 5
                have hfz73_6 := blk_frozen BK144.out 6
                have hfz73_7 := blk_frozen BK144.out 7
                have hfz73_8 := blk_frozen BK144.out 8
                have hfz73_9 := blk_frozen BK144.out 9
                have hfz73_10 := blk_frozen BK144.out 10
                have hfz73_11 := blk_frozen BK144.out 11
                have hfz73_12 := blk_frozen BK144.out 12
                have hcz74_0 : wc.cell? ⟨gb145, 0, none⟩ = some (.string a1_0) := (blk_cell BK145.out 0).trans rfl
                have hcz74_1 : wc.cell? ⟨gb145, 1, none⟩ = some (.string a1_1) := (blk_cell BK145.out 1).trans rfl
                have hcz74_2 : wc.cell? ⟨gb145, 2, none⟩ = some (.string a1_2) := (blk_cell BK145.out 2).trans rfl
                have hcz74_3 : wc.cell? ⟨gb145, 3, none⟩ = some (.string a1_3) := (blk_cell BK145.out 3).trans rfl
                have hcz74_4 : wc.cell? ⟨gb145, 4, none⟩ = some (.bool a1_4) := (blk_cell BK145.out 4).trans rfl
                have hcz74_5 : wc.cell? ⟨gb145, 5, none⟩ = some (.int .i64 a1_5) := (blk_cell BK145.out 5).trans rfl
                have hcz74_6 : wc.cell? ⟨gb145, 6, none⟩ = some (.bool a1_6) := (blk_cell BK145.out 6).trans rfl
                have hcz74_7 : wc.cell? ⟨gb145, 7, none⟩ = some (.string a1_7) := (blk_cell BK145.out 7).trans rfl
                have hcz74_8 : wc.cell? ⟨gb145, 8, none⟩ = some (.slice A1_8 l1_8.length c1_8) := (blk_cell BK145.out 8).trans rfl
                have hcz74_9 : wc.cell? ⟨gb145, 9, none⟩ = some (.bool a1_9) := (blk_cell BK145.out 9).trans rfl
                have hcz74_10 : wc.cell? ⟨gb145, 10, none⟩ = some (.bool a1_10) := (blk_cell BK145.out 10).trans rfl
                have hcz74_11 : wc.cell? ⟨gb145, 11, none⟩ = some (.string a1_11) := (blk_cell BK145.out 11).trans rfl
                have hcz74_12 : wc.cell? ⟨gb145, 12, none⟩ = some (.string a1_12) := (blk_cell BK145.out 12).trans rfl
                have hfz74_0 := blk_frozen BK145.out 0
                have hfz74_1 := blk_frozen BK145.out 1
                have hfz74_2 := blk_frozen BK145.out 2
                have hfz74_3 := blk_frozen BK145.out 3
                have hfz74_4 := blk_frozen BK145.out 4
                have hfz74_5 := blk_frozen BK145.out 5
                have hfz74_6 := blk_frozen BK145.out 6
                have hfz74_7 := blk_frozen BK145.out 7
                have hfz74_8 := blk_frozen BK145.out 8
                have hfz74_9 := blk_frozen BK145.out 9
                have hfz74_10 := blk_frozen BK145.out 10
                have hfz74_11 := blk_frozen BK145.out 11
                have hfz74_12 := blk_frozen BK145.out 12
                go_wp2
                go_meet
                case rel => exact ⟨_, (true), (by first | rfl | (simp; done) | (simp [*]; done) | (simp [Go.Proofs.YtamoggikjaoanaaDoor.G.isEmpty_ne]; done)), H', ⟨by have := HJ2.out; first | omega | exact Nat.le_refl _⟩, ⟨by (with_reducible repeat (first | refine blk_drewN ?_ _ | refine blk_drew ?_ | refine blk_alloc ?_ _)); exact BK144.out⟩, ⟨by (with_reducible repeat (first | refine blk_drewN ?_ _ | refine blk_drew ?_ | refine blk_alloc ?_ _)); exact BK145.out⟩, ⟨by repeat (first | (with_reducible first | exact HB.out | apply below_alloc | apply pw_below_drewN | apply below_drew1 | refine below_set ?_ GE144.out | refine below_set ?_ GE145.out) | exact HB.out)⟩⟩
            · replace c63 := Bool.eq_false_iff.mpr c63
              subst c63
              have H1 : (if a0_10 = true then (carryallref11_Same.j1 kj2 (a0_12.toList != a1_12.toList) a0_0 a0_1 a0_2 a0_3 false a0_5 a0_6 a0_7 l0_8 false a0_10 a0_11 a0_12 a1_0 a1_1 a1_2 a1_3 a1_4 a1_5 a1_6 a1_7 l1_8 a1_9 a1_10 a1_11 a1_12) else (carryallref11_Same.j1 kj2 false a0_0 a0_1 a0_2 a0_3 false a0_5 a0_6 a0_7 l0_8 false a0_10 a0_11 a0_12 a1_0 a1_1 a1_2 a1_3 a1_4 a1_5 a1_6 a1_7 l1_8 a1_9 a1_10 a1_11 a1_12)) = some r := by rw [if_neg (show ¬ (false = true) by decide)] at H; exact H
              clear H
              have H := H1
              clear H1
              by_cases c75 : a0_10 = true
              · subst c75
                have H1 : (carryallref11_Same.j1 kj2 (a0_12.toList != a1_12.toList) a0_0 a0_1 a0_2 a0_3 false a0_5 a0_6 a0_7 l0_8 false true a0_11 a0_12 a1_0 a1_1 a1_2 a1_3 a1_4 a1_5 a1_6 a1_7 l1_8 a1_9 a1_10 a1_11 a1_12) = some r := by rw [if_pos rfl] at H; exact H
                clear H
                have H := H1
                clear H1
                have H' := Aside0.mk H
                clear H
                have hnb76 := NB144_145.out
                have hnc76 := NB145_144.out
                have hcz77_0 : wc.cell? ⟨gb144, 0, none⟩ = some (.string a0_0) := (blk_cell BK144.out 0).trans rfl
                have hcz77_1 : wc.cell? ⟨gb144, 1, none⟩ = some (.string a0_1) := (blk_cell BK144.out 1).trans rfl
                have hcz77_2 : wc.cell? ⟨gb144, 2, none⟩ = some (.string a0_2) := (blk_cell BK144.out 2).trans rfl
                have hcz77_3 : wc.cell? ⟨gb144, 3, none⟩ = some (.string a0_3) := (blk_cell BK144.out 3).trans rfl
                have hcz77_4 : wc.cell? ⟨gb144, 4, none⟩ = some (.bool false) := (blk_cell BK144.out 4).trans rfl
                have hcz77_5 : wc.cell? ⟨gb144, 5, none⟩ = some (.int .i64 a0_5) := (blk_cell BK144.out 5).trans rfl
                have hcz77_6 : wc.cell? ⟨gb144, 6, none⟩ = some (.bool a0_6) := (blk_cell BK144.out 6).trans rfl
                have hcz77_7 : wc.cell? ⟨gb144, 7, none⟩ = some (.string a0_7) := (blk_cell BK144.out 7).trans rfl
                have hcz77_8 : wc.cell? ⟨gb144, 8, none⟩ = some (.slice A0_8 l0_8.length c0_8) := (blk_cell BK144.out 8).trans rfl
                have hcz77_9 : wc.cell? ⟨gb144, 9, none⟩ = some (.bool false) := (blk_cell BK144.out 9).trans rfl
                have hcz77_10 : wc.cell? ⟨gb144, 10, none⟩ = some (.bool true) := (blk_cell BK144.out 10).trans rfl
                have hcz77_11 : wc.cell? ⟨gb144, 11, none⟩ = some (.string a0_11) := (blk_cell BK144.out 11).trans rfl
                have hcz77_12 : wc.cell? ⟨gb144, 12, none⟩ = some (.string a0_12) := (blk_cell BK144.out 12).trans rfl
                have hfz77_0 := blk_frozen BK144.out 0
                have hfz77_1 := blk_frozen BK144.out 1
                have hfz77_2 := blk_frozen BK144.out 2
                have hfz77_3 := blk_frozen BK144.out 3
                have hfz77_4 := blk_frozen BK144.out 4
                have hfz77_5 := blk_frozen BK144.out 5
                have hfz77_6 := blk_frozen BK144.out 6
                have hfz77_7 := blk_frozen BK144.out 7
                have hfz77_8 := blk_frozen BK144.out 8
                have hfz77_9 := blk_frozen BK144.out 9
                have hfz77_10 := blk_frozen BK144.out 10
                have hfz77_11 := blk_frozen BK144.out 11
                have hfz77_12 := blk_frozen BK144.out 12
                have hcz78_0 : wc.cell? ⟨gb145, 0, none⟩ = some (.string a1_0) := (blk_cell BK145.out 0).trans rfl
                have hcz78_1 : wc.cell? ⟨gb145, 1, none⟩ = some (.string a1_1) := (blk_cell BK145.out 1).trans rfl
                have hcz78_2 : wc.cell? ⟨gb145, 2, none⟩ = some (.string a1_2) := (blk_cell BK145.out 2).trans rfl
                have hcz78_3 : wc.cell? ⟨gb145, 3, none⟩ = some (.string a1_3) := (blk_cell BK145.out 3).trans rfl
                have hcz78_4 : wc.cell? ⟨gb145, 4, none⟩ = some (.bool a1_4) := (blk_cell BK145.out 4).trans rfl
                have hcz78_5 : wc.cell? ⟨gb145, 5, none⟩ = some (.int .i64 a1_5) := (blk_cell BK145.out 5).trans rfl
                have hcz78_6 : wc.cell? ⟨gb145, 6, none⟩ = some (.bool a1_6) := (blk_cell BK145.out 6).trans rfl
                have hcz78_7 : wc.cell? ⟨gb145, 7, none⟩ = some (.string a1_7) := (blk_cell BK145.out 7).trans rfl
                have hcz78_8 : wc.cell? ⟨gb145, 8, none⟩ = some (.slice A1_8 l1_8.length c1_8) := (blk_cell BK145.out 8).trans rfl
                have hcz78_9 : wc.cell? ⟨gb145, 9, none⟩ = some (.bool a1_9) := (blk_cell BK145.out 9).trans rfl
                have hcz78_10 : wc.cell? ⟨gb145, 10, none⟩ = some (.bool a1_10) := (blk_cell BK145.out 10).trans rfl
                have hcz78_11 : wc.cell? ⟨gb145, 11, none⟩ = some (.string a1_11) := (blk_cell BK145.out 11).trans rfl
                have hcz78_12 : wc.cell? ⟨gb145, 12, none⟩ = some (.string a1_12) := (blk_cell BK145.out 12).trans rfl
                have hfz78_0 := blk_frozen BK145.out 0
                have hfz78_1 := blk_frozen BK145.out 1
                have hfz78_2 := blk_frozen BK145.out 2
                have hfz78_3 := blk_frozen BK145.out 3
                have hfz78_4 := blk_frozen BK145.out 4
                have hfz78_5 := blk_frozen BK145.out 5
                have hfz78_6 := blk_frozen BK145.out 6
                have hfz78_7 := blk_frozen BK145.out 7
                have hfz78_8 := blk_frozen BK145.out 8
                have hfz78_9 := blk_frozen BK145.out 9
                have hfz78_10 := blk_frozen BK145.out 10
                have hfz78_11 := blk_frozen BK145.out 11
                have hfz78_12 := blk_frozen BK145.out 12
                go_wp2
                go_meet
                case rel => exact ⟨_, ((a0_12.toList != a1_12.toList)), (by first | rfl | (simp; done) | (simp [*]; done) | (simp [Go.Proofs.YtamoggikjaoanaaDoor.G.isEmpty_ne]; done)), H', ⟨by have := HJ2.out; first | omega | exact Nat.le_refl _⟩, ⟨by (with_reducible repeat (first | refine blk_drewN ?_ _ | refine blk_drew ?_ | refine blk_alloc ?_ _)); exact BK144.out⟩, ⟨by (with_reducible repeat (first | refine blk_drewN ?_ _ | refine blk_drew ?_ | refine blk_alloc ?_ _)); exact BK145.out⟩, ⟨by repeat (first | (with_reducible first | exact HB.out | apply below_alloc | apply pw_below_drewN | apply below_drew1 | refine below_set ?_ GE144.out | refine below_set ?_ GE145.out) | exact HB.out)⟩⟩
              · replace c75 := Bool.eq_false_iff.mpr c75
                subst c75
                have H1 : (carryallref11_Same.j1 kj2 false a0_0 a0_1 a0_2 a0_3 false a0_5 a0_6 a0_7 l0_8 false false a0_11 a0_12 a1_0 a1_1 a1_2 a1_3 a1_4 a1_5 a1_6 a1_7 l1_8 a1_9 a1_10 a1_11 a1_12) = some r := by rw [if_neg (show ¬ (false = true) by decide)] at H; exact H
                clear H
                have H := H1
                clear H1
                have H' := Aside0.mk H
                clear H
                have hnb79 := NB144_145.out
                have hnc79 := NB145_144.out
                have hcz80_0 : wc.cell? ⟨gb144, 0, none⟩ = some (.string a0_0) := (blk_cell BK144.out 0).trans rfl
                have hcz80_1 : wc.cell? ⟨gb144, 1, none⟩ = some (.string a0_1) := (blk_cell BK144.out 1).trans rfl
                have hcz80_2 : wc.cell? ⟨gb144, 2, none⟩ = some (.string a0_2) := (blk_cell BK144.out 2).trans rfl
                have hcz80_3 : wc.cell? ⟨gb144, 3, none⟩ = some (.string a0_3) := (blk_cell BK144.out 3).trans rfl
                have hcz80_4 : wc.cell? ⟨gb144, 4, none⟩ = some (.bool false) := (blk_cell BK144.out 4).trans rfl
                have hcz80_5 : wc.cell? ⟨gb144, 5, none⟩ = some (.int .i64 a0_5) := (blk_cell BK144.out 5).trans rfl
                have hcz80_6 : wc.cell? ⟨gb144, 6, none⟩ = some (.bool a0_6) := (blk_cell BK144.out 6).trans rfl
                have hcz80_7 : wc.cell? ⟨gb144, 7, none⟩ = some (.string a0_7) := (blk_cell BK144.out 7).trans rfl
                have hcz80_8 : wc.cell? ⟨gb144, 8, none⟩ = some (.slice A0_8 l0_8.length c0_8) := (blk_cell BK144.out 8).trans rfl
                have hcz80_9 : wc.cell? ⟨gb144, 9, none⟩ = some (.bool false) := (blk_cell BK144.out 9).trans rfl
                have hcz80_10 : wc.cell? ⟨gb144, 10, none⟩ = some (.bool false) := (blk_cell BK144.out 10).trans rfl
                have hcz80_11 : wc.cell? ⟨gb144, 11, none⟩ = some (.string a0_11) := (blk_cell BK144.out 11).trans rfl
                have hcz80_12 : wc.cell? ⟨gb144, 12, none⟩ = some (.string a0_12) := (blk_cell BK144.out 12).trans rfl
                have hfz80_0 := blk_frozen BK144.out 0
                have hfz80_1 := blk_frozen BK144.out 1
                have hfz80_2 := blk_frozen BK144.out 2
                have hfz80_3 := blk_frozen BK144.out 3
                have hfz80_4 := blk_frozen BK144.out 4
                have hfz80_5 := blk_frozen BK144.out 5
                have hfz80_6 := blk_frozen BK144.out 6
                have hfz80_7 := blk_frozen BK144.out 7
                have hfz80_8 := blk_frozen BK144.out 8
                have hfz80_9 := blk_frozen BK144.out 9
                have hfz80_10 := blk_frozen BK144.out 10
                have hfz80_11 := blk_frozen BK144.out 11
                have hfz80_12 := blk_frozen BK144.out 12
                go_wp2
                go_meet
                case rel => exact ⟨_, (false), (by first | rfl | (simp; done) | (simp [*]; done) | (simp [Go.Proofs.YtamoggikjaoanaaDoor.G.isEmpty_ne]; done)), H', ⟨by have := HJ2.out; first | omega | exact Nat.le_refl _⟩, ⟨by (with_reducible repeat (first | refine blk_drewN ?_ _ | refine blk_drew ?_ | refine blk_alloc ?_ _)); exact BK144.out⟩, ⟨by (with_reducible repeat (first | refine blk_drewN ?_ _ | refine blk_drew ?_ | refine blk_alloc ?_ _)); exact BK145.out⟩, ⟨by repeat (first | (with_reducible first | exact HB.out | apply below_alloc | apply pw_below_drewN | apply below_drew1 | refine below_set ?_ GE144.out | refine below_set ?_ GE145.out) | exact HB.out)⟩⟩
        case rest =>
          clear HC38
          try clear c1
          try clear p2
          try clear c3
          try clear c4
          try clear c5
          try clear c6
          try clear c7
          try clear c39
          try clear c40
          try clear c40b0
          try clear c40b1
          try clear c41
          try clear c42
          try clear c42b0
          try clear c42b1
          try clear c50
          try clear c53
          try clear c54
          try clear c57
          try clear c60
          try clear c63
          try clear c64
          try clear c64b0
          try clear c64b1
          try clear c65
          try clear c66
          try clear c69
          try clear c72
          try clear c75
          try clear c76
          try clear c79
          try clear hcz49_11
          try clear hcz49_12
          try clear hcz51_0
          try clear hcz51_1
          try clear hcz51_10
          try clear hcz51_11
          try clear hcz51_12
          try clear hcz51_2
          try clear hcz51_3
          try clear hcz51_4
          try clear hcz51_5
          try clear hcz51_6
          try clear hcz51_7
          try clear hcz51_8
          try clear hcz51_9
          try clear hcz52_0
          try clear hcz52_1
          try clear hcz52_10
          try clear hcz52_11
          try clear hcz52_12
          try clear hcz52_2
          try clear hcz52_3
          try clear hcz52_4
          try clear hcz52_5
          try clear hcz52_6
          try clear hcz52_7
          try clear hcz52_8
          try clear hcz52_9
          try clear hcz55_0
          try clear hcz55_1
          try clear hcz55_10
          try clear hcz55_11
          try clear hcz55_12
          try clear hcz55_2
          try clear hcz55_3
          try clear hcz55_4
          try clear hcz55_5
          try clear hcz55_6
          try clear hcz55_7
          try clear hcz55_8
          try clear hcz55_9
          try clear hcz56_0
          try clear hcz56_1
          try clear hcz56_10
          try clear hcz56_11
          try clear hcz56_12
          try clear hcz56_2
          try clear hcz56_3
          try clear hcz56_4
          try clear hcz56_5
          try clear hcz56_6
          try clear hcz56_7
          try clear hcz56_8
          try clear hcz56_9
          try clear hcz58_0
          try clear hcz58_1
          try clear hcz58_10
          try clear hcz58_11
          try clear hcz58_12
          try clear hcz58_2
          try clear hcz58_3
          try clear hcz58_4
          try clear hcz58_5
          try clear hcz58_6
          try clear hcz58_7
          try clear hcz58_8
          try clear hcz58_9
          try clear hcz59_0
          try clear hcz59_1
          try clear hcz59_10
          try clear hcz59_11
          try clear hcz59_12
          try clear hcz59_2
          try clear hcz59_3
          try clear hcz59_4
          try clear hcz59_5
          try clear hcz59_6
          try clear hcz59_7
          try clear hcz59_8
          try clear hcz59_9
          try clear hcz61_0
          try clear hcz61_1
          try clear hcz61_10
          try clear hcz61_11
          try clear hcz61_12
          try clear hcz61_2
          try clear hcz61_3
          try clear hcz61_4
          try clear hcz61_5
          try clear hcz61_6
          try clear hcz61_7
          try clear hcz61_8
          try clear hcz61_9
          try clear hcz62_0
          try clear hcz62_1
          try clear hcz62_10
          try clear hcz62_11
          try clear hcz62_12
          try clear hcz62_2
          try clear hcz62_3
          try clear hcz62_4
          try clear hcz62_5
          try clear hcz62_6
          try clear hcz62_7
          try clear hcz62_8
          try clear hcz62_9
          try clear hcz67_0
          try clear hcz67_1
          try clear hcz67_10
          try clear hcz67_11
          try clear hcz67_12
          try clear hcz67_2
          try clear hcz67_3
          try clear hcz67_4
          try clear hcz67_5
          try clear hcz67_6
          try clear hcz67_7
          try clear hcz67_8
          try clear hcz67_9
          try clear hcz68_0
          try clear hcz68_1
          try clear hcz68_10
          try clear hcz68_11
          try clear hcz68_12
          try clear hcz68_2
          try clear hcz68_3
          try clear hcz68_4
          try clear hcz68_5
          try clear hcz68_6
          try clear hcz68_7
          try clear hcz68_8
          try clear hcz68_9
          try clear hcz70_0
          try clear hcz70_1
          try clear hcz70_10
          try clear hcz70_11
          try clear hcz70_12
          try clear hcz70_2
          try clear hcz70_3
          try clear hcz70_4
          try clear hcz70_5
          try clear hcz70_6
          try clear hcz70_7
          try clear hcz70_8
          try clear hcz70_9
          try clear hcz71_0
          try clear hcz71_1
          try clear hcz71_10
          try clear hcz71_11
          try clear hcz71_12
          try clear hcz71_2
          try clear hcz71_3
          try clear hcz71_4
          try clear hcz71_5
          try clear hcz71_6
          try clear hcz71_7
          try clear hcz71_8
          try clear hcz71_9
          try clear hcz73_0
          try clear hcz73_1
          try clear hcz73_10
          try clear hcz73_11
          try clear hcz73_12
          try clear hcz73_2
          try clear hcz73_3
          try clear hcz73_4
          try clear hcz73_5
          try clear hcz73_6
          try clear hcz73_7
          try clear hcz73_8
          try clear hcz73_9
          try clear hcz74_0
          try clear hcz74_1
          try clear hcz74_10
          try clear hcz74_11
          try clear hcz74_12
          try clear hcz74_2
          try clear hcz74_3
          try clear hcz74_4
          try clear hcz74_5
          try clear hcz74_6
          try clear hcz74_7
          try clear hcz74_8
          try clear hcz74_9
          try clear hcz77_0
          try clear hcz77_1
          try clear hcz77_10
          try clear hcz77_11
          try clear hcz77_12
          try clear hcz77_2
          try clear hcz77_3
          try clear hcz77_4
          try clear hcz77_5
          try clear hcz77_6
          try clear hcz77_7
          try clear hcz77_8
          try clear hcz77_9
          try clear hcz78_0
          try clear hcz78_1
          try clear hcz78_10
          try clear hcz78_11
          try clear hcz78_12
          try clear hcz78_2
          try clear hcz78_3
          try clear hcz78_4
          try clear hcz78_5
          try clear hcz78_6
          try clear hcz78_7
          try clear hcz78_8
          try clear hcz78_9
          try clear hcz80_0
          try clear hcz80_1
          try clear hcz80_10
          try clear hcz80_11
          try clear hcz80_12
          try clear hcz80_2
          try clear hcz80_3
          try clear hcz80_4
          try clear hcz80_5
          try clear hcz80_6
          try clear hcz80_7
          try clear hcz80_8
          try clear hcz80_9
          try clear hfz49_0
          try clear hfz49_1
          try clear hfz49_10
          try clear hfz49_11
          try clear hfz49_12
          try clear hfz49_2
          try clear hfz49_3
          try clear hfz49_4
          try clear hfz49_5
          try clear hfz49_6
          try clear hfz49_7
          try clear hfz49_8
          try clear hfz49_9
          try clear hfz51_0
          try clear hfz51_1
          try clear hfz51_10
          try clear hfz51_11
          try clear hfz51_12
          try clear hfz51_2
          try clear hfz51_3
          try clear hfz51_4
          try clear hfz51_5
          try clear hfz51_6
          try clear hfz51_7
          try clear hfz51_8
          try clear hfz51_9
          try clear hfz52_0
          try clear hfz52_1
          try clear hfz52_10
          try clear hfz52_11
          try clear hfz52_12
          try clear hfz52_2
          try clear hfz52_3
          try clear hfz52_4
          try clear hfz52_5
          try clear hfz52_6
          try clear hfz52_7
          try clear hfz52_8
          try clear hfz52_9
          try clear hfz55_0
          try clear hfz55_1
          try clear hfz55_10
          try clear hfz55_11
          try clear hfz55_12
          try clear hfz55_2
          try clear hfz55_3
          try clear hfz55_4
          try clear hfz55_5
          try clear hfz55_6
          try clear hfz55_7
          try clear hfz55_8
          try clear hfz55_9
          try clear hfz56_0
          try clear hfz56_1
          try clear hfz56_10
          try clear hfz56_11
          try clear hfz56_12
          try clear hfz56_2
          try clear hfz56_3
          try clear hfz56_4
          try clear hfz56_5
          try clear hfz56_6
          try clear hfz56_7
          try clear hfz56_8
          try clear hfz56_9
          try clear hfz58_0
          try clear hfz58_1
          try clear hfz58_10
          try clear hfz58_11
          try clear hfz58_12
          try clear hfz58_2
          try clear hfz58_3
          try clear hfz58_4
          try clear hfz58_5
          try clear hfz58_6
          try clear hfz58_7
          try clear hfz58_8
          try clear hfz58_9
          try clear hfz59_0
          try clear hfz59_1
          try clear hfz59_10
          try clear hfz59_11
          try clear hfz59_12
          try clear hfz59_2
          try clear hfz59_3
          try clear hfz59_4
          try clear hfz59_5
          try clear hfz59_6
          try clear hfz59_7
          try clear hfz59_8
          try clear hfz59_9
          try clear hfz61_0
          try clear hfz61_1
          try clear hfz61_10
          try clear hfz61_11
          try clear hfz61_12
          try clear hfz61_2
          try clear hfz61_3
          try clear hfz61_4
          try clear hfz61_5
          try clear hfz61_6
          try clear hfz61_7
          try clear hfz61_8
          try clear hfz61_9
          try clear hfz62_0
          try clear hfz62_1
          try clear hfz62_10
          try clear hfz62_11
          try clear hfz62_12
          try clear hfz62_2
          try clear hfz62_3
          try clear hfz62_4
          try clear hfz62_5
          try clear hfz62_6
          try clear hfz62_7
          try clear hfz62_8
          try clear hfz62_9
          try clear hfz67_0
          try clear hfz67_1
          try clear hfz67_10
          try clear hfz67_11
          try clear hfz67_12
          try clear hfz67_2
          try clear hfz67_3
          try clear hfz67_4
          try clear hfz67_5
          try clear hfz67_6
          try clear hfz67_7
          try clear hfz67_8
          try clear hfz67_9
          try clear hfz68_0
          try clear hfz68_1
          try clear hfz68_10
          try clear hfz68_11
          try clear hfz68_12
          try clear hfz68_2
          try clear hfz68_3
          try clear hfz68_4
          try clear hfz68_5
          try clear hfz68_6
          try clear hfz68_7
          try clear hfz68_8
          try clear hfz68_9
          try clear hfz70_0
          try clear hfz70_1
          try clear hfz70_10
          try clear hfz70_11
          try clear hfz70_12
          try clear hfz70_2
          try clear hfz70_3
          try clear hfz70_4
          try clear hfz70_5
          try clear hfz70_6
          try clear hfz70_7
          try clear hfz70_8
          try clear hfz70_9
          try clear hfz71_0
          try clear hfz71_1
          try clear hfz71_10
          try clear hfz71_11
          try clear hfz71_12
          try clear hfz71_2
          try clear hfz71_3
          try clear hfz71_4
          try clear hfz71_5
          try clear hfz71_6
          try clear hfz71_7
          try clear hfz71_8
          try clear hfz71_9
          try clear hfz73_0
          try clear hfz73_1
          try clear hfz73_10
          try clear hfz73_11
          try clear hfz73_12
          try clear hfz73_2
          try clear hfz73_3
          try clear hfz73_4
          try clear hfz73_5
          try clear hfz73_6
          try clear hfz73_7
          try clear hfz73_8
          try clear hfz73_9
          try clear hfz74_0
          try clear hfz74_1
          try clear hfz74_10
          try clear hfz74_11
          try clear hfz74_12
          try clear hfz74_2
          try clear hfz74_3
          try clear hfz74_4
          try clear hfz74_5
          try clear hfz74_6
          try clear hfz74_7
          try clear hfz74_8
          try clear hfz74_9
          try clear hfz77_0
          try clear hfz77_1
          try clear hfz77_10
          try clear hfz77_11
          try clear hfz77_12
          try clear hfz77_2
          try clear hfz77_3
          try clear hfz77_4
          try clear hfz77_5
          try clear hfz77_6
          try clear hfz77_7
          try clear hfz77_8
          try clear hfz77_9
          try clear hfz78_0
          try clear hfz78_1
          try clear hfz78_10
          try clear hfz78_11
          try clear hfz78_12
          try clear hfz78_2
          try clear hfz78_3
          try clear hfz78_4
          try clear hfz78_5
          try clear hfz78_6
          try clear hfz78_7
          try clear hfz78_8
          try clear hfz78_9
          try clear hfz80_0
          try clear hfz80_1
          try clear hfz80_10
          try clear hfz80_11
          try clear hfz80_12
          try clear hfz80_2
          try clear hfz80_3
          try clear hfz80_4
          try clear hfz80_5
          try clear hfz80_6
          try clear hfz80_7
          try clear hfz80_8
          try clear hfz80_9
          obtain ⟨kq, x89_37, rfl, HA, HJ37, BK144, BK145, HB⟩ := hcut
          cases kq with
          | zero => exact absurd HA.out (by simp [carryallref11_Same.j1])
          | succ kj37 =>
            have H := HA.out
            clear HA
            simp only [carryallref11_Same.j1] at H
            by_cases c81 : x89_37 = true
            · subst c81
              have H1 : (some false) = some r := by rw [if_pos rfl] at H; exact H
              clear H
              have H := H1
              clear H1
              obtain rfl := Option.some.inj H
              go_wp2
              go_ret
              exact ⟨by first | rfl | (simp [errW_none, errW_some] <;> rfl) | (simp [*, errW_none, errW_some] <;> rfl) | (simp [errW_none, errW_some, Go.Proofs.YtamoggikjaoanaaDoor.G.isEmpty_ne]; done), by repeat (first | (with_reducible first | exact HB.out | apply below_alloc | apply pw_below_drewN | apply below_drew1 | refine below_set ?_ GE144.out | refine below_set ?_ GE145.out) | exact HB.out)⟩
            · replace c81 := Bool.eq_false_iff.mpr c81
              subst c81
              have H1 : (if a0_6 = true then (some (a0_7.toList == a1_7.toList)) else ((carryallref10_Same.f kj37 l0_8 l1_8).bind fun t146 => (some t146))) = some r := by rw [if_neg (show ¬ (false = true) by decide)] at H; exact H
              clear H
              have H := H1
              clear H1
              by_cases c82 : a0_6 = true
              · subst c82
                have H1 : (some (a0_7.toList == a1_7.toList)) = some r := by rw [if_pos rfl] at H; exact H
                clear H
                have H := H1
                clear H1
                obtain rfl := Option.some.inj H
                have hnb83 := NB144_145.out
                have hnc83 := NB145_144.out
                have hcz84_0 : wc.cell? ⟨gb144, 0, none⟩ = some (.string a0_0) := (blk_cell BK144.out 0).trans rfl
                have hcz84_1 : wc.cell? ⟨gb144, 1, none⟩ = some (.string a0_1) := (blk_cell BK144.out 1).trans rfl
                have hcz84_2 : wc.cell? ⟨gb144, 2, none⟩ = some (.string a0_2) := (blk_cell BK144.out 2).trans rfl
                have hcz84_3 : wc.cell? ⟨gb144, 3, none⟩ = some (.string a0_3) := (blk_cell BK144.out 3).trans rfl
                have hcz84_4 : wc.cell? ⟨gb144, 4, none⟩ = some (.bool a0_4) := (blk_cell BK144.out 4).trans rfl
                have hcz84_5 : wc.cell? ⟨gb144, 5, none⟩ = some (.int .i64 a0_5) := (blk_cell BK144.out 5).trans rfl
                have hcz84_6 : wc.cell? ⟨gb144, 6, none⟩ = some (.bool true) := (blk_cell BK144.out 6).trans rfl
                have hcz84_7 : wc.cell? ⟨gb144, 7, none⟩ = some (.string a0_7) := (blk_cell BK144.out 7).trans rfl
                have hcz84_8 : wc.cell? ⟨gb144, 8, none⟩ = some (.slice A0_8 l0_8.length c0_8) := (blk_cell BK144.out 8).trans rfl
                have hcz84_9 : wc.cell? ⟨gb144, 9, none⟩ = some (.bool a0_9) := (blk_cell BK144.out 9).trans rfl
                have hcz84_10 : wc.cell? ⟨gb144, 10, none⟩ = some (.bool a0_10) := (blk_cell BK144.out 10).trans rfl
                have hcz84_11 : wc.cell? ⟨gb144, 11, none⟩ = some (.string a0_11) := (blk_cell BK144.out 11).trans rfl
                have hcz84_12 : wc.cell? ⟨gb144, 12, none⟩ = some (.string a0_12) := (blk_cell BK144.out 12).trans rfl
                have hfz84_0 := blk_frozen BK144.out 0
                have hfz84_1 := blk_frozen BK144.out 1
                have hfz84_2 := blk_frozen BK144.out 2
                have hfz84_3 := blk_frozen BK144.out 3
                have hfz84_4 := blk_frozen BK144.out 4
                have hfz84_5 := blk_frozen BK144.out 5
                have hfz84_6 := blk_frozen BK144.out 6
                have hfz84_7 := blk_frozen BK144.out 7
                have hfz84_8 := blk_frozen BK144.out 8
                have hfz84_9 := blk_frozen BK144.out 9
                have hfz84_10 := blk_frozen BK144.out 10
                have hfz84_11 := blk_frozen BK144.out 11
                have hfz84_12 := blk_frozen BK144.out 12
                have hcz85_0 : wc.cell? ⟨gb145, 0, none⟩ = some (.string a1_0) := (blk_cell BK145.out 0).trans rfl
                have hcz85_1 : wc.cell? ⟨gb145, 1, none⟩ = some (.string a1_1) := (blk_cell BK145.out 1).trans rfl
                have hcz85_2 : wc.cell? ⟨gb145, 2, none⟩ = some (.string a1_2) := (blk_cell BK145.out 2).trans rfl
                have hcz85_3 : wc.cell? ⟨gb145, 3, none⟩ = some (.string a1_3) := (blk_cell BK145.out 3).trans rfl
                have hcz85_4 : wc.cell? ⟨gb145, 4, none⟩ = some (.bool a1_4) := (blk_cell BK145.out 4).trans rfl
                have hcz85_5 : wc.cell? ⟨gb145, 5, none⟩ = some (.int .i64 a1_5) := (blk_cell BK145.out 5).trans rfl
                have hcz85_6 : wc.cell? ⟨gb145, 6, none⟩ = some (.bool a1_6) := (blk_cell BK145.out 6).trans rfl
                have hcz85_7 : wc.cell? ⟨gb145, 7, none⟩ = some (.string a1_7) := (blk_cell BK145.out 7).trans rfl
                have hcz85_8 : wc.cell? ⟨gb145, 8, none⟩ = some (.slice A1_8 l1_8.length c1_8) := (blk_cell BK145.out 8).trans rfl
                have hcz85_9 : wc.cell? ⟨gb145, 9, none⟩ = some (.bool a1_9) := (blk_cell BK145.out 9).trans rfl
                have hcz85_10 : wc.cell? ⟨gb145, 10, none⟩ = some (.bool a1_10) := (blk_cell BK145.out 10).trans rfl
                have hcz85_11 : wc.cell? ⟨gb145, 11, none⟩ = some (.string a1_11) := (blk_cell BK145.out 11).trans rfl
                have hcz85_12 : wc.cell? ⟨gb145, 12, none⟩ = some (.string a1_12) := (blk_cell BK145.out 12).trans rfl
                have hfz85_0 := blk_frozen BK145.out 0
                have hfz85_1 := blk_frozen BK145.out 1
                have hfz85_2 := blk_frozen BK145.out 2
                have hfz85_3 := blk_frozen BK145.out 3
                have hfz85_4 := blk_frozen BK145.out 4
                have hfz85_5 := blk_frozen BK145.out 5
                have hfz85_6 := blk_frozen BK145.out 6
                have hfz85_7 := blk_frozen BK145.out 7
                have hfz85_8 := blk_frozen BK145.out 8
                have hfz85_9 := blk_frozen BK145.out 9
                have hfz85_10 := blk_frozen BK145.out 10
                have hfz85_11 := blk_frozen BK145.out 11
                have hfz85_12 := blk_frozen BK145.out 12
                go_wp2
                go_ret
                exact ⟨by first | rfl | (simp [errW_none, errW_some] <;> rfl) | (simp [*, errW_none, errW_some] <;> rfl) | (simp [errW_none, errW_some, Go.Proofs.YtamoggikjaoanaaDoor.G.isEmpty_ne]; done), by repeat (first | (with_reducible first | exact HB.out | apply below_alloc | apply pw_below_drewN | apply below_drew1 | refine below_set ?_ GE144.out | refine below_set ?_ GE145.out) | exact HB.out)⟩
              · replace c82 := Bool.eq_false_iff.mpr c82
                subst c82
                have H1 : ((carryallref10_Same.f kj37 l0_8 l1_8).bind fun t146 => (some t146)) = some r := by rw [if_neg (show ¬ (false = true) by decide)] at H; exact H
                clear H
                have H := H1
                clear H1
                replace H := Option.bind_eq_some_iff.mp H
                obtain ⟨t146, A860, H⟩ := H
                replace H : (some t146) = some r := H
                have A86 := Aside0.mk A860
                clear A860
                obtain rfl := Option.some.inj H
                have hnb87 := NB144_145.out
                have hnc87 := NB145_144.out
                have hcz88_0 : wc.cell? ⟨gb144, 0, none⟩ = some (.string a0_0) := (blk_cell BK144.out 0).trans rfl
                have hcz88_1 : wc.cell? ⟨gb144, 1, none⟩ = some (.string a0_1) := (blk_cell BK144.out 1).trans rfl
                have hcz88_2 : wc.cell? ⟨gb144, 2, none⟩ = some (.string a0_2) := (blk_cell BK144.out 2).trans rfl
                have hcz88_3 : wc.cell? ⟨gb144, 3, none⟩ = some (.string a0_3) := (blk_cell BK144.out 3).trans rfl
                have hcz88_4 : wc.cell? ⟨gb144, 4, none⟩ = some (.bool a0_4) := (blk_cell BK144.out 4).trans rfl
                have hcz88_5 : wc.cell? ⟨gb144, 5, none⟩ = some (.int .i64 a0_5) := (blk_cell BK144.out 5).trans rfl
                have hcz88_6 : wc.cell? ⟨gb144, 6, none⟩ = some (.bool false) := (blk_cell BK144.out 6).trans rfl
                have hcz88_7 : wc.cell? ⟨gb144, 7, none⟩ = some (.string a0_7) := (blk_cell BK144.out 7).trans rfl
                have hcz88_8 : wc.cell? ⟨gb144, 8, none⟩ = some (.slice A0_8 l0_8.length c0_8) := (blk_cell BK144.out 8).trans rfl
                have hcz88_9 : wc.cell? ⟨gb144, 9, none⟩ = some (.bool a0_9) := (blk_cell BK144.out 9).trans rfl
                have hcz88_10 : wc.cell? ⟨gb144, 10, none⟩ = some (.bool a0_10) := (blk_cell BK144.out 10).trans rfl
                have hcz88_11 : wc.cell? ⟨gb144, 11, none⟩ = some (.string a0_11) := (blk_cell BK144.out 11).trans rfl
                have hcz88_12 : wc.cell? ⟨gb144, 12, none⟩ = some (.string a0_12) := (blk_cell BK144.out 12).trans rfl
                have hfz88_0 := blk_frozen BK144.out 0
                have hfz88_1 := blk_frozen BK144.out 1
                have hfz88_2 := blk_frozen BK144.out 2
                have hfz88_3 := blk_frozen BK144.out 3
                have hfz88_4 := blk_frozen BK144.out 4
                have hfz88_5 := blk_frozen BK144.out 5
                have hfz88_6 := blk_frozen BK144.out 6
                have hfz88_7 := blk_frozen BK144.out 7
                have hfz88_8 := blk_frozen BK144.out 8
                have hfz88_9 := blk_frozen BK144.out 9
                have hfz88_10 := blk_frozen BK144.out 10
                have hfz88_11 := blk_frozen BK144.out 11
                have hfz88_12 := blk_frozen BK144.out 12
                have hcz89_0 : wc.cell? ⟨gb145, 0, none⟩ = some (.string a1_0) := (blk_cell BK145.out 0).trans rfl
                have hcz89_1 : wc.cell? ⟨gb145, 1, none⟩ = some (.string a1_1) := (blk_cell BK145.out 1).trans rfl
                have hcz89_2 : wc.cell? ⟨gb145, 2, none⟩ = some (.string a1_2) := (blk_cell BK145.out 2).trans rfl
                have hcz89_3 : wc.cell? ⟨gb145, 3, none⟩ = some (.string a1_3) := (blk_cell BK145.out 3).trans rfl
                have hcz89_4 : wc.cell? ⟨gb145, 4, none⟩ = some (.bool a1_4) := (blk_cell BK145.out 4).trans rfl
                have hcz89_5 : wc.cell? ⟨gb145, 5, none⟩ = some (.int .i64 a1_5) := (blk_cell BK145.out 5).trans rfl
                have hcz89_6 : wc.cell? ⟨gb145, 6, none⟩ = some (.bool a1_6) := (blk_cell BK145.out 6).trans rfl
                have hcz89_7 : wc.cell? ⟨gb145, 7, none⟩ = some (.string a1_7) := (blk_cell BK145.out 7).trans rfl
                have hcz89_8 : wc.cell? ⟨gb145, 8, none⟩ = some (.slice A1_8 l1_8.length c1_8) := (blk_cell BK145.out 8).trans rfl
                have hcz89_9 : wc.cell? ⟨gb145, 9, none⟩ = some (.bool a1_9) := (blk_cell BK145.out 9).trans rfl
                have hcz89_10 : wc.cell? ⟨gb145, 10, none⟩ = some (.bool a1_10) := (blk_cell BK145.out 10).trans rfl
                have hcz89_11 : wc.cell? ⟨gb145, 11, none⟩ = some (.string a1_11) := (blk_cell BK145.out 11).trans rfl
                have hcz89_12 : wc.cell? ⟨gb145, 12, none⟩ = some (.string a1_12) := (blk_cell BK145.out 12).trans rfl
                have hfz89_0 := blk_frozen BK145.out 0
                have hfz89_1 := blk_frozen BK145.out 1
                have hfz89_2 := blk_frozen BK145.out 2
                have hfz89_3 := blk_frozen BK145.out 3
                have hfz89_4 := blk_frozen BK145.out 4
                have hfz89_5 := blk_frozen BK145.out 5
                have hfz89_6 := blk_frozen BK145.out 6
                have hfz89_7 := blk_frozen BK145.out 7
                have hfz89_8 := blk_frozen BK145.out 8
                have hfz89_9 := blk_frozen BK145.out 9
                have hfz89_10 := blk_frozen BK145.out 10
                have hfz89_11 := blk_frozen BK145.out 11
                have hfz89_12 := blk_frozen BK145.out 12
                go_wp2_with (first | ((with_reducible refine gate_callee (f := 25) rfl ?_); refine goesL_ (some 101) rfl rfl Tryd.func25 (by kernel_rfl) rfl #[.slice A0_8 l0_8.length c0_8, .slice A1_8 l1_8.length c1_8] rfl (by (try simp only [List.map_toArray, List.map_cons, List.map_nil]); first | done | rfl | (simp only [List.length_drop, List.length_take]; rfl)) ?_; (with_reducible refine (carryallref10_Same.calls kj37 _ _ l0_8 _ _ l1_8 t146 _ ?side1 ?side2 ?side3 ?side4 A86.out).mono ?_); (case side1 => repeat (first | exact (Kd.C_below HR0_8.out HB.out) | (with_reducible refine Kd.C_alloc ?_ _) | (with_reducible refine Kd.C_drewN ?_ _) | (with_reducible refine Kd.C_drew ?_))); (case side2 => exact HC0_8.out); (case side3 => repeat (first | exact (Kd.C_below HR1_8.out HB.out) | (with_reducible refine Kd.C_alloc ?_ _) | (with_reducible refine Kd.C_drewN ?_ _) | (with_reducible refine Kd.C_drew ?_))); (case side4 => exact HC1_8.out); rintro e w' ⟨rfl, ⟨nd, rfl⟩⟩; refine ⟨_, rfl, ?_⟩))
                go_ret
                exact ⟨by first | rfl | (simp [errW_none, errW_some] <;> rfl) | (simp [*, errW_none, errW_some] <;> rfl) | (simp [errW_none, errW_some, Go.Proofs.YtamoggikjaoanaaDoor.G.isEmpty_ne]; done), by repeat (first | (with_reducible first | exact HB.out | apply below_alloc | apply pw_below_drewN | apply below_drew1 | refine below_set ?_ GE144.out | refine below_set ?_ GE145.out) | exact HB.out)⟩

end Go.Proofs.YtamoggikjaoanaaDoor.P
