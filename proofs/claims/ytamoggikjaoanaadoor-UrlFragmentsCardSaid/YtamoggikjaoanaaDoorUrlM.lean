/- Chapter 11: url.ports, Special and Default: a map that the call makes, and what it tells of a scheme. -/
import Derived.Test.YtamoggikjaoanaaDoorProg
import Derived.Test.YtamoggikjaoanaaDoorWMore
import Derived.Test.YtamoggikjaoanaaDoorPl
import Derived.Maps.Own
import Derived.Maps.OwnOps
import Derived.Maps.OwnSet
import Derived.Maps.Views
import Derived.StringKeys
import Derived.Below
import Derived.Tactics
import Derived.WalkKit
import Derived.KernelRfl
namespace Go.Proofs.YtamoggikjaoanaaDoor.Url
open Go.RowKit Go.WideMaps Go.Maps Go.Proofs.YtamoggikjaoanaaDoorW.PrintWords Go.Proofs.YtamoggikjaoanaaDoorW.PrintLast Go.Proofs.YtamoggikjaoanaaDoorW.PrintMore
set_option linter.unusedVariables false
set_option linter.unusedSimpArgs false
theorem klaw : Keyed Tryd.prog 9 := string_keyed Tryd.underlying9
theorem zeroI (w : World) : (zeroValue 3).run Tryd.prog w = .ok (.int .i64 0) w := by kernel_rfl
theorem wpList_insert_own {P : Program} (w : World) {ops : Array Oper} {rest : List Oper} {o : Oper} {a : Act} {Q : Exit → Act → World → Prop}
    (hg : o.guard = none) (m x v : Operand) (t : TypeId) (hop : o.op = Op.insert t m x v)
    (k e : TypeId) (K : Keyed P k) (ht : P.underlying t = some (.map k e)) (R : Value → Option (DataW Unit × List MemPlace)) (b n : Nat) (D : DataW Unit)
    (hm : a.eval m = .map (some b)) (hown : w.ownsMap P k R b n D) (hn : n < maxLen) (key val : Value) (kl : Lit) (hx : a.eval x = key) (hv : a.eval v = val) (hkey : keyOf P k key = some kl)
    (d : DataW Unit) (ps : List MemPlace) (hval : R val = some (d, ps))
    (hK : ∀ w', w'.ownsMap P k R b (n + 1) (D.put kl d) → w.grownBy w' (some b) → wpList P ops Q rest (a.put o.dst undef) w') :
    wpList P ops Q (o :: rest) a w := by
  refine wpList_plain hg fun K' hK' => ?_
  obtain ⟨w', hrun, r1, r2⟩ := hown.update K ht hn hkey hval
  unfold Oper.wp
  simp [execOp, hop, hm, hx, hv, hrun, Result.andThen]
  exact hK' _ _ (hK w' r1 r2)
def kFtp : List UInt8 := [102, 116, 112]
def kFile : List UInt8 := [102, 105, 108, 101]
def kHttp : List UInt8 := [104, 116, 116, 112]
def kHttps : List UInt8 := [104, 116, 116, 112, 115]
def kWs : List UInt8 := [119, 115]
def kWss : List UInt8 := [119, 115, 115]
def D0 : DataW Unit := .map []
def D1 : DataW Unit := D0.put (.string kFtp) (.lit (.int .i64 21))
def D2 : DataW Unit := D1.put (.string kFile) (.lit (.int .i64 (-1)))
def D3 : DataW Unit := D2.put (.string kHttp) (.lit (.int .i64 80))
def D4 : DataW Unit := D3.put (.string kHttps) (.lit (.int .i64 443))
def D5 : DataW Unit := D4.put (.string kWs) (.lit (.int .i64 80))
def D6 : DataW Unit := D5.put (.string kWss) (.lit (.int .i64 443))
theorem k_str (l : List UInt8) (h : l.length ≤ 100) : keyOf Tryd.prog 9 (.string ⟨l.toArray⟩) = some (.string l) := by
  have e : (⟨l.toArray⟩ : ByteArray).size = l.length := by simp [ByteArray.size]
  exact keyOf_string_mk (s := ⟨l.toArray⟩) Tryd.underlying9 (by rw [e]; unfold maxLen; omega)
set_option maxHeartbeats 4000000 in
set_option maxRecDepth 100000 in
theorem ports_any (w : World) : Calls Tryd.prog 23 #[] w fun e w' => ∃ b, e = .returned (.map (some b)) ∧ w'.ownsMap Tryd.prog 9 (plainElem Tryd.prog 3) b 6 D6 ∧ Below w.heap.size w w' := by
  have hmm := @run_makeMap Tryd.prog
  have H0 := Aside0.mk (show (w.alloc (.map #[] 0)).ownsMap Tryd.prog 9 (plainElem Tryd.prog 3) w.heap.size 0 D0 from World.ownsMap_made _ _ _ _)
  have B0 := Aside0.mk (show Below w.heap.size w (w.alloc (.map #[] 0)) from (Below.refl _ _).alloc (Nat.le_refl _) _)
  go_enter Tryd.func23, Tryd.ntmps23
  go_wp2_with (first
    | (refine wpList_insert_own _ rfl _ _ _ 45 rfl 9 3 klaw Tryd.underlying45 _ w.heap.size 0 D0 rfl H0.out (by decide) (.string ⟨#[102, 116, 112]⟩) (.int .i64 21) (.string kFtp) rfl rfl (k_str kFtp (by decide)) (.lit (.int .i64 21)) [] (plainElem_int Tryd.underlying3 (by decide)) ?_; intro w1 h1 g1; have H1 := Aside0.mk h1; have B1 := Aside0.mk (B0.out.grown g1 B0.out.size (fun j hj => by cases hj; exact Nat.le_refl _)); clear h1 g1)
    | (refine wpList_insert_own _ rfl _ _ _ 45 rfl 9 3 klaw Tryd.underlying45 _ w.heap.size 1 D1 rfl H1.out (by decide) (.string ⟨#[102, 105, 108, 101]⟩) (.int .i64 (-1)) (.string kFile) rfl rfl (k_str kFile (by decide)) (.lit (.int .i64 (-1))) [] (plainElem_int Tryd.underlying3 (by decide)) ?_; intro w2 h1 g1; have H2 := Aside0.mk h1; have B2 := Aside0.mk (B1.out.grown g1 B1.out.size (fun j hj => by cases hj; exact Nat.le_refl _)); clear h1 g1)
    | (refine wpList_insert_own _ rfl _ _ _ 45 rfl 9 3 klaw Tryd.underlying45 _ w.heap.size 2 D2 rfl H2.out (by decide) (.string ⟨#[104, 116, 116, 112]⟩) (.int .i64 80) (.string kHttp) rfl rfl (k_str kHttp (by decide)) (.lit (.int .i64 80)) [] (plainElem_int Tryd.underlying3 (by decide)) ?_; intro w3 h1 g1; have H3 := Aside0.mk h1; have B3 := Aside0.mk (B2.out.grown g1 B2.out.size (fun j hj => by cases hj; exact Nat.le_refl _)); clear h1 g1)
    | (refine wpList_insert_own _ rfl _ _ _ 45 rfl 9 3 klaw Tryd.underlying45 _ w.heap.size 3 D3 rfl H3.out (by decide) (.string ⟨#[104, 116, 116, 112, 115]⟩) (.int .i64 443) (.string kHttps) rfl rfl (k_str kHttps (by decide)) (.lit (.int .i64 443)) [] (plainElem_int Tryd.underlying3 (by decide)) ?_; intro w4 h1 g1; have H4 := Aside0.mk h1; have B4 := Aside0.mk (B3.out.grown g1 B3.out.size (fun j hj => by cases hj; exact Nat.le_refl _)); clear h1 g1)
    | (refine wpList_insert_own _ rfl _ _ _ 45 rfl 9 3 klaw Tryd.underlying45 _ w.heap.size 4 D4 rfl H4.out (by decide) (.string ⟨#[119, 115]⟩) (.int .i64 80) (.string kWs) rfl rfl (k_str kWs (by decide)) (.lit (.int .i64 80)) [] (plainElem_int Tryd.underlying3 (by decide)) ?_; intro w5 h1 g1; have H5 := Aside0.mk h1; have B5 := Aside0.mk (B4.out.grown g1 B4.out.size (fun j hj => by cases hj; exact Nat.le_refl _)); clear h1 g1)
    | (refine wpList_insert_own _ rfl _ _ _ 45 rfl 9 3 klaw Tryd.underlying45 _ w.heap.size 5 D5 rfl H5.out (by decide) (.string ⟨#[119, 115, 115]⟩) (.int .i64 443) (.string kWss) rfl rfl (k_str kWss (by decide)) (.lit (.int .i64 443)) [] (plainElem_int Tryd.underlying3 (by decide)) ?_; intro w6 h1 g1; have H6 := Aside0.mk h1; have B6 := Aside0.mk (B5.out.grown g1 B5.out.size (fun j hj => by cases hj; exact Nat.le_refl _)); clear h1 g1))
  go_ret
  exact ⟨_, rfl, H6.out, B6.out⟩
/-- What the map tells of a scheme. -/
def isSp (l : List UInt8) : Bool := decide (l = kWss) || (decide (l = kWs) || (decide (l = kHttps) || (decide (l = kHttp) || (decide (l = kFile) || decide (l = kFtp)))))
def port (l : List UInt8) : Int := if l = kFtp then 21 else if l = kHttp ∨ l = kWs then 80 else if l = kHttps ∨ l = kWss then 443 else -1
theorem has_put {D : DataW Unit} (hD : IsMap D) (a k : List UInt8) (d : DataW Unit) : has (D.put (.string a) d) (.string k) = (decide (k = a) || has D (.string k)) := by
  by_cases h : k = a
  · subst h
    rw [has_put_same hD (by simp [WideAt.IsKeyLit]), decide_eq_true rfl]
    rfl
  · rw [has_put_other (fun e => h (by injection e)), decide_eq_false h]
    rfl
theorem at_put {D : DataW Unit} (hD : IsMap D) (a k : List UInt8) (d z : DataW Unit) : (D.put (.string a) d).atKey (.string k) z = if k = a then d else D.atKey (.string k) z := by
  by_cases h : k = a
  · subst h
    rw [atKey_put_same hD (by simp [WideAt.IsKeyLit]), if_pos rfl]
  · rw [atKey_put_other (fun e => h (by injection e)), if_neg h]
theorem m0 : IsMap D0 := ⟨_, rfl⟩
theorem m1 : IsMap D1 := m0.put _ _
theorem m2 : IsMap D2 := m1.put _ _
theorem m3 : IsMap D3 := m2.put _ _
theorem m4 : IsMap D4 := m3.put _ _
theorem m5 : IsMap D5 := m4.put _ _
theorem has_D6 (l : List UInt8) : has D6 (.string l) = isSp l := by
  rw [show D6 = D5.put (.string kWss) (.lit (.int .i64 443)) from rfl, has_put m5, show D5 = D4.put (.string kWs) (.lit (.int .i64 80)) from rfl, has_put m4, show D4 = D3.put (.string kHttps) (.lit (.int .i64 443)) from rfl, has_put m3, show D3 = D2.put (.string kHttp) (.lit (.int .i64 80)) from rfl, has_put m2, show D2 = D1.put (.string kFile) (.lit (.int .i64 (-1))) from rfl, has_put m1, show D1 = D0.put (.string kFtp) (.lit (.int .i64 21)) from rfl, has_put m0]
  have : has D0 (.string l) = false := rfl
  rw [this]
  rw [Bool.or_false]
  rfl
theorem at_D6 (l : List UInt8) (h : isSp l = true) (z : DataW Unit) : D6.atKey (.string l) z = .lit (.int .i64 (port l)) := by
  rw [show D6 = D5.put (.string kWss) (.lit (.int .i64 443)) from rfl, at_put m5, show D5 = D4.put (.string kWs) (.lit (.int .i64 80)) from rfl, at_put m4, show D4 = D3.put (.string kHttps) (.lit (.int .i64 443)) from rfl, at_put m3, show D3 = D2.put (.string kHttp) (.lit (.int .i64 80)) from rfl, at_put m2, show D2 = D1.put (.string kFile) (.lit (.int .i64 (-1))) from rfl, at_put m1, show D1 = D0.put (.string kFtp) (.lit (.int .i64 21)) from rfl, at_put m0]
  unfold isSp at h
  simp only [Bool.or_eq_true, decide_eq_true_eq] at h
  rcases h with rfl | rfl | rfl | rfl | rfl | rfl <;> rfl
theorem key_of (s : ByteArray) (hs : s.size ≤ maxLen) : keyOf Tryd.prog 9 (.string s) = some (.string s.data.toList) := keyOf_string_mk Tryd.underlying9 hs
set_option maxHeartbeats 1000000 in
set_option maxRecDepth 100000 in
theorem special_any (s : ByteArray) (w : World) (hs : s.size ≤ maxLen) : Calls Tryd.prog 15 #[.string s] w fun e w' => e = .returned (.bool (isSp s.data.toList)) ∧ Below w.heap.size w w' := by
  have HK := Aside0.mk (key_of s hs)
  have HR := Aside0.mk (has_D6 s.data.toList)
  clear hs
  go_enter Tryd.func15, Tryd.ntmps15
  go_wp2_with (first
    | (go_at_call 23; refine (ports_any _).mono ?_; rintro e w1 ⟨b, rfl, hm, hb⟩; have HM := Aside0.mk hm; have HB := Aside0.mk hb; clear hm hb)
    | (at_lookup; refine wpList_lookup_own_ok_int _ rfl _ _ 45 rfl 9 3 .i64 klaw Tryd.underlying45 Tryd.underlying3 (zeroI _) b 6 D6 rfl HM.out (.string s) (.string s.data.toList) rfl HK.out ?_; intro c hat hwc; rw [HR.out]; clear hat hwc))
  go_ret
  exact ⟨rfl, HB.out⟩
set_option maxHeartbeats 1000000 in
set_option maxRecDepth 100000 in
theorem default_any (s : ByteArray) (w : World) (hs : s.size ≤ maxLen) : Calls Tryd.prog 16 #[.string s] w fun e w' => e = .returned (.int .i64 (port s.data.toList)) ∧ Below w.heap.size w w' := by
  have HK := Aside0.mk (key_of s hs)
  clear hs
  by_cases h : isSp s.data.toList = true
  · have HR := Aside0.mk ((has_D6 s.data.toList).trans h)
    have HA := Aside0.mk (at_D6 s.data.toList h)
    clear h
    go_enter Tryd.func16, Tryd.ntmps16
    go_wp2_with (first
      | (go_at_call 23; refine (ports_any _).mono ?_; rintro e w1 ⟨b, rfl, hm, hb⟩; have HM := Aside0.mk hm; have HB := Aside0.mk hb; clear hm hb)
      | (at_lookup; refine wpList_lookup_own_ok_int _ rfl _ _ 45 rfl 9 3 .i64 klaw Tryd.underlying45 Tryd.underlying3 (zeroI _) b 6 D6 rfl HM.out (.string s) (.string s.data.toList) rfl HK.out ?_; intro c hat hwc; rw [HR.out]; have HC := Aside0.mk hat; clear hat hwc))
    go_ret
    have e1 := (HA.out _).symm.trans HC.out
    injection e1 with e1
    injection e1 with _ e1
    exact ⟨by rw [e1]; rfl, HB.out⟩
  · have h' : isSp s.data.toList = false := by simpa using h
    have HR := Aside0.mk ((has_D6 s.data.toList).trans h')
    have HP := Aside0.mk (show port s.data.toList = -1 by
      unfold isSp at h'
      simp only [Bool.or_eq_false_iff, decide_eq_false_iff_not] at h'
      obtain ⟨h6, h5, h4, h3, h2, h1⟩ := h'
      unfold port
      rw [if_neg h1, if_neg (by rintro (h | h); exact h3 h; exact h5 h), if_neg (by rintro (h | h); exact h4 h; exact h6 h)])
    clear h h'
    go_enter Tryd.func16, Tryd.ntmps16
    go_wp2_with (first
      | (go_at_call 23; refine (ports_any _).mono ?_; rintro e w1 ⟨b, rfl, hm, hb⟩; have HM := Aside0.mk hm; have HB := Aside0.mk hb; clear hm hb)
      | (at_lookup; refine wpList_lookup_own_ok_int _ rfl _ _ 45 rfl 9 3 .i64 klaw Tryd.underlying45 Tryd.underlying3 (zeroI _) b 6 D6 rfl HM.out (.string s) (.string s.data.toList) rfl HK.out ?_; intro c hat hwc; rw [HR.out]; clear hat hwc))
    go_ret
    exact ⟨by rw [HP.out]; rfl, HB.out⟩
end Go.Proofs.YtamoggikjaoanaaDoor.Url
