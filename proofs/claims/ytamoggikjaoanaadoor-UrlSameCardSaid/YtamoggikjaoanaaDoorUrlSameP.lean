/- Chapter 11: two URLs are alike just if they are in all that counts. -/
import Derived.Test.YtamoggikjaoanaaDoorPx5
import Derived.Test.YtamoggikjaoanaaDoorUrlAwake
import Derived.Test.YtamoggikjaoanaaDoorUrlPure
import Derived.SizedLaws
namespace Go.Proofs.YtamoggikjaoanaaDoor.UrlP
open Go.RowKit Go.Proofs.YtamoggikjaoanaaDoor.P Go.Proofs.YtamoggikjaoanaaDoor.Url Go.Proofs.YtamoggikjaoanaaDoorW.PrintWords Go.Proofs.YtamoggikjaoanaaDoorW.PrintLast
set_option linter.unusedVariables false
set_option linter.unusedSimpArgs false
theorem cm (x y : List UInt8) : (x == y) = (y == x) := BEq.comm
theorem eqL_comm (x y : List ByteArray) : eqL x y = eqL y x := BEq.comm
theorem sameB_self (a0 a1 a2 a3 : ByteArray) (a4 : Bool) (a5 : Int) (a6 : Bool) (a7 : ByteArray) (la : List ByteArray) (a9 a10 : Bool) (a11 a12 : ByteArray) : sameB a0 a1 a2 a3 a4 a5 a6 a7 a9 a10 a11 a12 a0 a1 a2 a3 a4 a5 a6 a7 a9 a10 a11 a12 (eqL la la) = true := by
  unfold sameB whomB pathB flagB eqL
  cases a4 <;> cases a6 <;> cases a9 <;> cases a10 <;> simp
theorem sameB_comm (a0 a1 a2 a3 : ByteArray) (a4 : Bool) (a5 : Int) (a6 : Bool) (a7 : ByteArray) (la : List ByteArray) (a9 a10 : Bool) (a11 a12 : ByteArray) (b0 b1 b2 b3 : ByteArray) (b4 : Bool) (b5 : Int) (b6 : Bool) (b7 : ByteArray) (lb : List ByteArray) (b9 b10 : Bool) (b11 b12 : ByteArray) : sameB a0 a1 a2 a3 a4 a5 a6 a7 a9 a10 a11 a12 b0 b1 b2 b3 b4 b5 b6 b7 b9 b10 b11 b12 (eqL la lb) = sameB b0 b1 b2 b3 b4 b5 b6 b7 b9 b10 b11 b12 a0 a1 a2 a3 a4 a5 a6 a7 a9 a10 a11 a12 (eqL lb la) := by
  unfold sameB whomB pathB flagB
  rw [eqL_comm lb la, cm b0.toList a0.toList, cm b1.toList a1.toList, cm b2.toList a2.toList, cm b3.toList a3.toList, cm b7.toList a7.toList, cm b11.toList a11.toList, cm b12.toList a12.toList, show (b5 == a5) = (a5 == b5) from BEq.comm]
  generalize eqL la lb = Z
  cases a4 <;> cases b4 <;> cases a6 <;> cases b6 <;> cases a9 <;> cases b9 <;> cases a10 <;> cases b10 <;> simp
theorem uS (a0 a1 a2 a3 : ByteArray) (a4 : Bool) (a5 : Int) (a6 : Bool) (a7 : ByteArray) (la : List ByteArray) (a9 a10 : Bool) (a11 a12 : ByteArray) (b0 b1 b2 b3 : ByteArray) (b4 : Bool) (b5 : Int) (b6 : Bool) (b7 : ByteArray) (lb : List ByteArray) (b9 b10 : Bool) (b11 b12 : ByteArray) (h : la.length ≤ 1000000) : url_Same.f a0 a1 a2 a3 a4 a5 a6 a7 la a9 a10 a11 a12 b0 b1 b2 b3 b4 b5 b6 b7 lb b9 b10 b11 b12 = some (sameB a0 a1 a2 a3 a4 a5 a6 a7 a9 a10 a11 a12 b0 b1 b2 b3 b4 b5 b6 b7 b9 b10 b11 b12 (eqL la lb)) := by
  unfold url_Same.f
  rw [if_pos h]
theorem same_pure (a0 a1 a2 a3 : ByteArray) (a4 : Bool) (a5 : Int) (a6 : Bool) (a7 : ByteArray) (la : List ByteArray) (a9 a10 : Bool) (a11 a12 : ByteArray) (b0 b1 b2 b3 : ByteArray) (b4 : Bool) (b5 : Int) (b6 : Bool) (b7 : ByteArray) (lb : List ByteArray) (b9 b10 : Bool) (b11 b12 : ByteArray) (ha : la.length ≤ 1000000000000000) (hb : lb.length ≤ 1000000000000000) : ∃ k, carryalllaw11_UrlSame.f k a0 a1 a2 a3 a4 a5 a6 a7 la a9 a10 a11 a12 b0 b1 b2 b3 b4 b5 b6 b7 lb b9 b10 b11 b12 = some true := by
  obtain ⟨K, hK⟩ : ∃ K : Nat, la.length + lb.length + 40 ≤ K := ⟨_, Nat.le_refl _⟩
  refine ⟨K + 1, ?_⟩
  unfold carryalllaw11_UrlSame.f
  rw [awake_at (K + 1) (by omega), Option.bind_some, if_pos rfl, few_f a0 a1 a2 a3 a4 a5 a6 a7 la a9 a10 a11 a12 ha (K + 1) (by omega), Option.bind_some]
  generalize hX : (decide (sumw la (few0 a0 a1 a2 a3 a4 a5 a6 a7 la a9 a10 a11 a12) ≤ 1000) && decide ((la.length : Int) ≤ 50)) = X
  cases X
  · rw [if_neg Bool.false_ne_true, carryalllaw11_UrlSame.j0, if_pos rfl, awake_at K (by omega)]
    rfl
  · rw [if_pos rfl, few_f b0 b1 b2 b3 b4 b5 b6 b7 lb b9 b10 b11 b12 hb (K + 1) (by omega), Option.bind_some]
    generalize hY : (decide (sumw lb (few0 b0 b1 b2 b3 b4 b5 b6 b7 lb b9 b10 b11 b12) ≤ 1000) && decide ((lb.length : Int) ≤ 50)) = Y
    cases Y
    · rw [carryalllaw11_UrlSame.j0, if_pos (show (!false) = true from rfl), awake_at K (by omega)]
      rfl
    · have h1 : la.length ≤ 1000000 := by have := of_decide_eq_true ((Bool.and_eq_true _ _).mp hX).2; omega
      have h2 : lb.length ≤ 1000000 := by have := of_decide_eq_true ((Bool.and_eq_true _ _).mp hY).2; omega
      rw [carryalllaw11_UrlSame.j0, if_neg (by simp), uS a0 a1 a2 a3 a4 a5 a6 a7 la a9 a10 a11 a12 b0 b1 b2 b3 b4 b5 b6 b7 lb b9 b10 b11 b12 h1, Option.bind_some, same11 a0 a1 a2 a3 a4 a5 a6 a7 la a9 a10 a11 a12 b0 b1 b2 b3 b4 b5 b6 b7 lb b9 b10 b11 b12 h1 K (by omega), Option.bind_some, if_pos (by simp), uS a0 a1 a2 a3 a4 a5 a6 a7 la a9 a10 a11 a12 a0 a1 a2 a3 a4 a5 a6 a7 la a9 a10 a11 a12 h1, sameB_self a0 a1 a2 a3 a4 a5 a6 a7 la a9 a10 a11 a12, Option.bind_some, if_pos rfl, Option.bind_some, uS b0 b1 b2 b3 b4 b5 b6 b7 lb b9 b10 b11 b12 a0 a1 a2 a3 a4 a5 a6 a7 la a9 a10 a11 a12 h2, Option.bind_some, sameB_comm a0 a1 a2 a3 a4 a5 a6 a7 la a9 a10 a11 a12 b0 b1 b2 b3 b4 b5 b6 b7 lb b9 b10 b11 b12]
      simp
theorem same_row (a0 a1 a2 a3 : ByteArray) (a4 : Bool) (a5 : Int) (a6 : Bool) (a7 : ByteArray) (A8 : Option Addr) (ca : Nat) (la : List ByteArray) (a9 a10 : Bool) (a11 a12 : ByteArray) (b0 b1 b2 b3 : ByteArray) (b4 : Bool) (b5 : Int) (b6 : Bool) (b7 : ByteArray) (B8 : Option Addr) (cb : Nat) (lb : List ByteArray) (b9 b10 : Bool) (b11 b12 : ByteArray) (W : World) (rda : Kd.C Kd.string W A8 la.length la) (lca : la.length ≤ ca) (wfa : (Lit.int .i64 a5).wf = true) (za0 : a0.size ≤ reachBytes) (za1 : a1.size ≤ reachBytes) (za2 : a2.size ≤ reachBytes) (za3 : a3.size ≤ reachBytes) (za7 : a7.size ≤ reachBytes) (za11 : a11.size ≤ reachBytes) (za12 : a12.size ≤ reachBytes) (sla : ∀ s ∈ la, s.size ≤ reachBytes) (sna : la.length * 16 ≤ reachBytes) (rdb : Kd.C Kd.string W B8 lb.length lb) (lcb : lb.length ≤ cb) (wfb : (Lit.int .i64 b5).wf = true) (zb0 : b0.size ≤ reachBytes) (zb1 : b1.size ≤ reachBytes) (zb2 : b2.size ≤ reachBytes) (zb3 : b3.size ≤ reachBytes) (zb7 : b7.size ≤ reachBytes) (zb11 : b11.size ≤ reachBytes) (zb12 : b12.size ≤ reachBytes) (slb : ∀ s ∈ lb, s.size ≤ reachBytes) (snb : lb.length * 16 ≤ reachBytes) (hT : G.T W) :
    Calls Tryd.prog 5 #[.agg #[.string a0, .string a1, .string a2, .string a3, .bool a4, .int .i64 a5, .bool a6, .string a7, .slice A8 la.length ca, .bool a9, .bool a10, .string a11, .string a12], .agg #[.string b0, .string b1, .string b2, .string b3, .bool b4, .int .i64 b5, .bool b6, .string b7, .slice B8 lb.length cb, .bool b9, .bool b10, .string b11, .string b12]] W fun e W' => e = .returned (.bool true) ∧ Below W.heap.size W W' := by
  have hr : reachBytes < 2 ^ 47 := reachBytes_lt
  obtain ⟨k, hk⟩ := same_pure a0 a1 a2 a3 a4 a5 a6 a7 la a9 a10 a11 a12 b0 b1 b2 b3 b4 b5 b6 b7 lb b9 b10 b11 b12 (by omega) (by omega)
  exact carryalllaw11_UrlSame.calls k a0 a1 a2 a3 a4 a5 a6 a7 A8 ca la a9 a10 a11 a12 b0 b1 b2 b3 b4 b5 b6 b7 B8 cb lb b9 b10 b11 b12 true W rda lca rdb lcb hk hT
end Go.Proofs.YtamoggikjaoanaaDoor.UrlP
