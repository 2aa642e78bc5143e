/- Chapter 11: what is written of a URL, by the program and by its reference, in plain words. -/
import Derived.Test.YtamoggikjaoanaaDoorPx1
import Derived.Test.YtamoggikjaoanaaDoorPx2
import Derived.Test.YtamoggikjaoanaaDoorUrlR
import Derived.Test.YtamoggikjaoanaaDoorUrlPure
import Derived.Test.YtamoggikjaoanaaDoorUrlAwake
import Derived.Lib.ItoaNum
import Derived.SizedLaws
namespace Go.Proofs.YtamoggikjaoanaaDoor.UrlP
open Go.RowKit Go.Proofs.YtamoggikjaoanaaDoor.P Go.Proofs.YtamoggikjaoanaaDoor.Pl Go.Proofs.YtamoggikjaoanaaDoor.Url Go.Proofs.YtamoggikjaoanaaDoorW.PrintWords Go.Proofs.YtamoggikjaoanaaDoorW.PrintLast
set_option linter.unusedVariables false
set_option linter.unusedSimpArgs false
def mk (l : List UInt8) : ByteArray := ⟨l.toArray⟩
theorem mk_data (l : List UInt8) : (mk l).data.toList = l := by simp [mk]
theorem mk_size (l : List UInt8) : (mk l).size = l.length := by show l.toArray.size = _; simp
theorem mk_app (a b : List UInt8) : mk a ++ mk b = mk (a ++ b) := by
  refine ext_data ?_
  rw [ByteArray.data_append, Array.toList_append, mk_data, mk_data, mk_data]
theorem mk_of (s : ByteArray) : mk s.data.toList = s := ext_data (mk_data _)
theorem dig_str (m : Nat) (h : m < 10) : strOfNums [48 + (m : Int)] = mk [UInt8.ofNat (48 + m)] := by
  refine ext_data ?_
  rw [strOfNums_data, mk_data]
  show [UInt8.ofNat (48 + (m : Int)).toNat] = _
  have : (48 + (m : Int)).toNat = 48 + m := by omega
  rw [this]
theorem dd_len : ∀ (m n : Nat), n < 10 ^ (m + 1) → (Lib.decDigits n).length ≤ m + 1 := by
  intro m
  induction m with
  | zero => intro n h; rw [Lib.decDigits, dif_pos (by omega)]; simp
  | succ m ih =>
    intro n h
    rw [Lib.decDigits]
    split
    · simp
    · rw [List.length_append, List.length_singleton]
      have := ih (n / 10) (by rw [Nat.pow_succ] at h; omega)
      omega
theorem dec_f : ∀ (m k n : Nat), n < 10 ^ (m + 1) → m < 19 → m + 1 ≤ k → carryallref07_Decimal.f k (n : Int) = some (mk (Lib.decDigits n)) := by
  intro m
  induction m with
  | zero =>
    intro k n hn hm hk
    obtain ⟨k, rfl⟩ : ∃ j, k = j + 1 := ⟨k - 1, by omega⟩
    have h10 : n < 10 := by omega
    have e : (48 + Int.tmod (n : Int) 10 % 256) % 256 = 48 + (n : Int) := by rw [Int.tmod_eq_emod_of_nonneg (by omega)]; omega
    rw [carryallref07_Decimal.f, Option.bind_some, if_neg (by omega), e, dig_str n h10, Lib.decDigits, dif_pos h10]
  | succ m ih =>
    intro k n hn hm hk
    obtain ⟨k, rfl⟩ : ∃ j, k = j + 1 := ⟨k - 1, by omega⟩
    have e : (48 + Int.tmod (n : Int) 10 % 256) % 256 = 48 + ((n % 10 : Nat) : Int) := by rw [Int.tmod_eq_emod_of_nonneg (by omega)]; omega
    rw [carryallref07_Decimal.f, Option.bind_some, e, dig_str (n % 10) (by omega)]
    by_cases h10 : n < 10
    · have e2 : n % 10 = n := by omega
      rw [if_neg (by omega), e2, Lib.decDigits, dif_pos h10]
    · have hb : n < 10 ^ 20 := Nat.lt_of_lt_of_le hn (Nat.pow_le_pow_right (by omega) (by omega))
      have hd : IntKind.u64.wrap (Int.tdiv (n : Int) 10) = ((n / 10 : Nat) : Int) := by
        have e3 : Int.tdiv (n : Int) 10 = ((n / 10 : Nat) : Int) := rfl
        rw [e3, IntWalk.u64_in _ (by omega)]
      have h1 := ih k (n / 10) (by rw [Nat.pow_succ] at hn; omega) (by omega) (by omega)
      have hz := dd_len m (n / 10) (by rw [Nat.pow_succ] at hn; omega)
      rw [if_pos (by omega), hd, h1, Option.bind_some, mk_size, mk_size, List.length_singleton, if_pos (by omega), mk_app]
      conv => rhs; rw [Lib.decDigits, dif_neg h10]
theorem port_f (a5 : Int) (k : Nat) (hk : 20 ≤ k) (h0 : -9223372036854775808 ≤ a5) (h1 : a5 ≤ 9223372036854775807) : carryallref11_port.f k a5 = some (mk (Lib.itoa a5)) := by
  unfold carryallref11_port.f Lib.itoa
  by_cases h : a5 < 0
  · have e1 : wrap64 (a5 + 1) = a5 + 1 := wrap_in (by omega) (by omega)
    have e2 : wrap64 (-(a5 + 1)) = -(a5 + 1) := wrap_in (by omega) (by omega)
    have e3 : IntKind.u64.wrap (-(a5 + 1)) = -(a5 + 1) := IntWalk.u64_in _ (by omega)
    have e4 : IntKind.u64.wrap (-(a5 + 1) + 1) = (a5.natAbs : Int) := by rw [IntWalk.u64_in _ (by omega)]; omega
    have hn : a5.natAbs < 10 ^ (18 + 1) := by omega
    have hz := dd_len 18 a5.natAbs hn
    rw [if_pos h, if_pos h, e1, e2, e3, e4, dec_f 18 k a5.natAbs hn (by omega) (by omega), Option.bind_some, mk_size, if_pos (by omega)]
    exact congrArg some (mk_app [45] _)
  · have e4 : IntKind.u64.wrap a5 = (a5.toNat : Int) := by rw [IntWalk.u64_in _ (by omega)]; omega
    have hn : a5.toNat < 10 ^ (18 + 1) := by omega
    rw [if_neg h, if_neg h, e4, dec_f 18 k a5.toNat hn (by omega) (by omega), Option.bind_some]
theorem itoa_le (a5 : Int) (h0 : -9223372036854775808 ≤ a5) (h1 : a5 ≤ 9223372036854775807) : (mk (Lib.itoa a5)).size ≤ 100 := by
  rw [mk_size]; exact itoa_len a5 h0 h1
def tot (l : List ByteArray) : Nat := (l.map ByteArray.size).sum
theorem tot_cons (x : ByteArray) (l : List ByteArray) : tot (x :: l) = x.size + tot l := by simp [tot]
theorem path_len : ∀ l : List ByteArray, (pathL l).length = tot l + l.length := by
  intro l
  induction l with
  | nil => rfl
  | cons x l ih =>
    have : pathL (x :: l) = 47 :: x.data.toList ++ pathL l := rfl
    rw [this, List.length_append, ih, tot_cons, List.length_cons, List.length_cons, sz]
    omega
theorem sumw_tot : ∀ (l : List ByteArray) (n : Int), 0 ≤ n → n + tot l ≤ 4611686018427387904 → sumw l n = n + tot l := by
  intro l
  induction l with
  | nil => intro n h0 h1; simp [sumw, tot]
  | cons x l ih =>
    intro n h0 h1
    rw [tot_cons] at h1
    show sumw l (wrap64 (n + (x.size : Int))) = _
    rw [wrap_in (by omega) (by omega), ih _ (by omega) (by omega), tot_cons]
    omega
theorem tot_le : ∀ (l : List ByteArray) (M : Nat), (∀ s ∈ l, s.size ≤ M) → tot l ≤ l.length * M := by
  intro l M
  induction l with
  | nil => intro _; exact Nat.zero_le _
  | cons x l ih =>
    intro h
    have := ih (fun s hs => h s (List.mem_cons_of_mem _ hs))
    have := h x List.mem_cons_self
    rw [tot_cons, List.length_cons, Nat.succ_mul]
    omega
theorem le47 {n : Nat} (h : n ≤ reachBytes) : n ≤ 140737488355328 := by
  have hr : reachBytes < 2 ^ 47 := reachBytes_lt
  omega
theorem wrap_nat (n : Nat) (h : n ≤ 1000000000000000) : wrap64 (n : Int) = n := wrap_in (by omega) (by omega)
theorem few0_eq (a0 a1 a2 a3 : ByteArray) (a4 : Bool) (a5 : Int) (a6 : Bool) (a7 : ByteArray) (la : List ByteArray) (a9 a10 : Bool) (a11 a12 : ByteArray) (z0 : a0.size ≤ 140737488355328) (z1 : a1.size ≤ 140737488355328) (z2 : a2.size ≤ 140737488355328) (z3 : a3.size ≤ 140737488355328) (z7 : a7.size ≤ 140737488355328) (z11 : a11.size ≤ 140737488355328) (z12 : a12.size ≤ 140737488355328) : few0 a0 a1 a2 a3 a4 a5 a6 a7 la a9 a10 a11 a12 = ((a0.size + a1.size + a2.size + a3.size + a7.size + a11.size + a12.size : Nat) : Int) := by
  unfold few0
  rw [← Int.natCast_add, wrap_nat _ (by omega), ← Int.natCast_add, wrap_nat _ (by omega), ← Int.natCast_add, wrap_nat _ (by omega), ← Int.natCast_add, wrap_nat _ (by omega), ← Int.natCast_add, wrap_nat _ (by omega), ← Int.natCast_add, wrap_nat _ (by omega)]
/-- What Few tells of the sizes. -/
theorem few_sizes {a0 a1 a2 a3 : ByteArray} {a4 : Bool} {a5 : Int} {a6 : Bool} {a7 : ByteArray} {la : List ByteArray} {a9 a10 : Bool} {a11 a12 : ByteArray} (h : (decide (sumw la (few0 a0 a1 a2 a3 a4 a5 a6 a7 la a9 a10 a11 a12) ≤ 1000) && decide ((la.length : Int) ≤ 50)) = true)
    (z0 : a0.size ≤ reachBytes) (z1 : a1.size ≤ reachBytes) (z2 : a2.size ≤ reachBytes) (z3 : a3.size ≤ reachBytes) (z7 : a7.size ≤ reachBytes) (z11 : a11.size ≤ reachBytes) (z12 : a12.size ≤ reachBytes) (sl : ∀ s ∈ la, s.size ≤ reachBytes) :
    la.length ≤ 50 ∧ a0.size + a1.size + a2.size + a3.size + a7.size + a11.size + a12.size + tot la ≤ 1000 := by
  have hr : reachBytes < 2 ^ 47 := reachBytes_lt
  rw [Bool.and_eq_true] at h
  have h1 := of_decide_eq_true h.1
  have h2 := of_decide_eq_true h.2
  have h3 : la.length ≤ 50 := by omega
  have h4 := tot_le la 140737488355328 (fun s hs => le47 (sl s hs))
  have h5 : la.length * 140737488355328 ≤ 50 * 140737488355328 := Nat.mul_le_mul_right _ h3
  have h6 : tot la ≤ 7036874417766400 := by omega
  have y0 := le47 z0
  have y1 := le47 z1
  have y2 := le47 z2
  have y3 := le47 z3
  have y7 := le47 z7
  have y11 := le47 z11
  have y12 := le47 z12
  clear h hr z0 z1 z2 z3 z7 z11 z12 sl h4 h5
  have e0 : few0 a0 a1 a2 a3 a4 a5 a6 a7 la a9 a10 a11 a12 = ((a0.size + a1.size + a2.size + a3.size + a7.size + a11.size + a12.size : Nat) : Int) := by
    exact few0_eq a0 a1 a2 a3 a4 a5 a6 a7 la a9 a10 a11 a12 y0 y1 y2 y3 y7 y11 y12
  obtain ⟨n, hn⟩ : ∃ n : Nat, a0.size + a1.size + a2.size + a3.size + a7.size + a11.size + a12.size = n := ⟨_, rfl⟩
  rw [e0, hn] at h1
  have hn1 : n ≤ 1000000000000000 := by omega
  have h7 := sumw_tot la (n : Int) (by omega) (by omega)
  rw [h7] at h1
  rw [hn]
  refine ⟨h3, ?_⟩
  clear e0 h7 hn
  omega
def pathS (a6 : Bool) (a7 : ByteArray) (la : List ByteArray) : ByteArray := if a6 = true then a7 else mk (pathL la)
theorem rpath_l0 (a0 a1 a2 a3 : ByteArray) (a4 : Bool) (a5 : Int) (a6 : Bool) (a7 : ByteArray) (la : List ByteArray) (a9 a10 : Bool) (a11 a12 : ByteArray) (hl : (pathL la).length ≤ 1000000) : ∀ (d i k : Nat), i + d = la.length → d + 1 ≤ k → carryallref11_Path.l0 k (mk (pathL (la.take i))) (la.length : Int) (i : Int) a0 a1 a2 a3 a4 a5 a6 a7 la a9 a10 a11 a12 = some (mk (pathL la)) := by
  have hll : la.length ≤ 1000000 := by rw [path_len] at hl; omega
  intro d
  induction d with
  | zero =>
    intro i k hi hk
    obtain ⟨k, rfl⟩ : ∃ m, k = m + 1 := ⟨k - 1, by omega⟩
    unfold carryallref11_Path.l0
    rw [if_neg (by omega), List.take_of_length_le (by omega)]
  | succ d ih =>
    intro i k hi hk
    obtain ⟨k, rfl⟩ : ∃ m, k = m + 1 := ⟨k - 1, by omega⟩
    have h1 : i < la.length := by omega
    have e1 : rdOf ByteArray.empty la (i : Int) = la[i] := by unfold rdOf; rw [Int.toNat_natCast, List.getD_eq_getElem?_getD, List.getElem?_eq_getElem h1]; rfl
    have hw : wrap64 ((i : Int) + 1) = ((i + 1 : Nat) : Int) := by unfold wrap64; omega
    have hle := pathL_le la (i + 1)
    have hs := pathL_snoc la i la[i] (List.getElem?_eq_getElem h1)
    have hz : (mk (pathL (la.take i)) ++ (⟨#[47]⟩ : ByteArray)) ++ la[i] = mk (pathL (la.take (i + 1))) := by
      refine ext_data ?_
      rw [ByteArray.data_append, Array.toList_append, ByteArray.data_append, Array.toList_append, mk_data, mk_data, hs]
      simp
    rw [hs, List.length_append, List.length_cons, sz] at hle
    unfold carryallref11_Path.l0
    rw [if_pos (by omega), mk_size, if_pos (by omega), if_pos (by omega), if_pos (by omega), e1, rs, mk_size, if_pos (by have e : (⟨#[47]⟩ : ByteArray).size = 1 := rfl; omega), hw, hz]
    exact ih (i + 1) k (by omega) (by omega)
theorem rpath_f (a0 a1 a2 a3 : ByteArray) (a4 : Bool) (a5 : Int) (a6 : Bool) (a7 : ByteArray) (la : List ByteArray) (a9 a10 : Bool) (a11 a12 : ByteArray) (hl : (pathL la).length ≤ 1000000) (k : Nat) (hk : la.length + 1 ≤ k) : carryallref11_Path.f k a0 a1 a2 a3 a4 a5 a6 a7 la a9 a10 a11 a12 = some (pathS a6 a7 la) := by
  unfold carryallref11_Path.f pathS
  cases a6
  · exact rpath_l0 a0 a1 a2 a3 a4 a5 false a7 la a9 a10 a11 a12 hl la.length 0 k (by omega) hk
  · rfl
theorem upath_f (a0 a1 a2 a3 : ByteArray) (a4 : Bool) (a5 : Int) (a6 : Bool) (a7 : ByteArray) (la : List ByteArray) (a9 a10 : Bool) (a11 a12 : ByteArray) (hl : (pathL la).length ≤ 1000000) : url_Path.f a0 a1 a2 a3 a4 a5 a6 a7 la a9 a10 a11 a12 = some (pathS a6 a7 la) := by
  have hll : la.length ≤ 1000000 := by rw [path_len] at hl; omega
  unfold url_Path.f pathS
  cases a6
  · rw [if_neg Bool.false_ne_true, if_neg Bool.false_ne_true, if_pos ⟨hll, hl⟩]; rfl
  · rfl
def bareS (a0 a1 a2 a3 : ByteArray) (a4 : Bool) (a5 : Int) (a6 : Bool) (a7 : ByteArray) (la : List ByteArray) (a9 a10 : Bool) (a11 a12 : ByteArray) : ByteArray := rS4 (rS2 a0 a1 a2 a3 a4 a5 a6 la (mk (Lib.itoa a5)) ++ pathS a6 a7 la) a9 a11 63
theorem tl (s : ByteArray) : (s.toList = []) ↔ s.data.toList = [] := by rw [ByteArray.toList_eq]
theorem auth_eq (a0 a1 a2 a3 : ByteArray) (a5 : Int) : (a0 ++ (⟨#[58]⟩ : ByteArray)) ++ (⟨(authL a1.data.toList a2.data.toList a3.data.toList a5).toArray⟩ : ByteArray) = rW6 a0 a1 a2 a3 a5 (mk (Lib.itoa a5)) := by
  refine ext_data ?_
  rw [ByteArray.data_append, Array.toList_append, ByteArray.data_append, Array.toList_append]
  unfold rW6 rW5 rW4 rW3 rW2 rS1 authL mk
  have hc : ((a1 ++ a2).toList = []) ↔ (a1.data.toList = [] ∧ a2.data.toList = []) := by rw [tl, ByteArray.data_append, Array.toList_append, List.append_eq_nil_iff]
  by_cases h2 : a2.data.toList = []
  · by_cases h1 : a1.data.toList = []
    · by_cases h5 : a5 = -1
      · simp [hc, tl, h1, h2, h5, ByteArray.data_append]
      · simp [hc, tl, h1, h2, h5, ByteArray.data_append]
    · by_cases h5 : a5 = -1
      · simp [hc, tl, h1, h2, h5, ByteArray.data_append]
      · simp [hc, tl, h1, h2, h5, ByteArray.data_append]
  · by_cases h5 : a5 = -1
    · simp [hc, tl, h2, h5, ByteArray.data_append]
    · simp [hc, tl, h2, h5, ByteArray.data_append]
theorem app_nil (s : ByteArray) : s ++ (⟨#[]⟩ : ByteArray) = s := ext_data (by rw [ByteArray.data_append, Array.toList_append]; simp)
theorem authL_len (a1 a2 a3 : ByteArray) (a5 : Int) (h0 : -9223372036854775808 ≤ a5) (h1 : a5 ≤ 9223372036854775807) : (authL a1.data.toList a2.data.toList a3.data.toList a5).length ≤ a1.size + a2.size + a3.size + 110 := by
  have := itoa_len a5 h0 h1
  unfold authL
  simp only [List.length_append, List.length_cons, List.length_nil, sz]
  split <;> split <;> split <;> simp only [List.length_cons, List.length_nil, sz] <;> omega
theorem bare_j0 (x : ByteArray) (dot : Bool) (a0 a1 a2 a3 : ByteArray) (a4 : Bool) (a5 : Int) (a6 : Bool) (a7 : ByteArray) (la : List ByteArray) (a9 a10 : Bool) (a11 a12 : ByteArray) (hx : x.size ≤ 5000) (hp : (pathL la).length ≤ 2000) (h7 : a7.size ≤ 2000) (h11 : a11.size ≤ 2000) (k : Nat) (hk : 1 ≤ k) : url_Bare.j0 k x dot a0 a1 a2 a3 a4 a5 a6 a7 la a9 a10 a11 a12 = some (rS4 ((if dot = true then x ++ ⟨#[47, 46]⟩ else x) ++ pathS a6 a7 la) a9 a11 63) := by
  obtain ⟨k, rfl⟩ : ∃ m, k = m + 1 := ⟨k - 1, by omega⟩
  have hz : (pathS a6 a7 la).size ≤ 2000 := by unfold pathS; split <;> first | exact h7 | (rw [mk_size]; exact hp)
  have e2 : (⟨#[47, 46]⟩ : ByteArray).size = 2 := rfl
  have e1 : (⟨#[63]⟩ : ByteArray).size = 1 := rfl
  rw [url_Bare.j0, upath_f a0 a1 a2 a3 a4 a5 a6 a7 la a9 a10 a11 a12 (by omega), Option.bind_some, Option.bind_some]
  unfold rS4
  cases dot
  · rw [if_neg Bool.false_ne_true, if_neg Bool.false_ne_true, if_pos (by omega)]
    cases a9
    · rfl
    · rw [if_pos rfl, if_pos rfl, if_pos (by omega), if_pos (by rw [rs, rs]; omega)]
      simp only [ByteArray.append_assoc]
  · rw [if_pos rfl, if_pos rfl, if_pos (by omega), if_pos (by rw [rs]; omega)]
    cases a9
    · rfl
    · rw [if_pos rfl, if_pos rfl, if_pos (by omega), if_pos (by rw [rs, rs, rs]; omega)]
      simp only [ByteArray.append_assoc]
theorem bare_f (a0 a1 a2 a3 : ByteArray) (a4 : Bool) (a5 : Int) (a6 : Bool) (a7 : ByteArray) (la : List ByteArray) (a9 a10 : Bool) (a11 a12 : ByteArray) (h50 : -9223372036854775808 ≤ a5) (h51 : a5 ≤ 9223372036854775807) (hl : la.length ≤ 50) (hs : a0.size + a1.size + a2.size + a3.size + a7.size + a11.size + a12.size + tot la ≤ 1500) (k : Nat) (hk : 2 ≤ k) : url_Bare.f k a0 a1 a2 a3 a4 a5 a6 a7 la a9 a10 a11 a12 = some (bareS a0 a1 a2 a3 a4 a5 a6 a7 la a9 a10 a11 a12) := by
  have hp : (pathL la).length ≤ 2000 := by rw [path_len]; omega
  have e1 : (⟨#[58]⟩ : ByteArray).size = 1 := rfl
  have ha := authL_len a1 a2 a3 a5 h50 h51
  unfold url_Bare.f url_authority.f bareS rS2
  rw [if_pos (by omega)]
  cases a4
  · rw [if_neg Bool.false_ne_true, Option.bind_some, if_pos (by rw [rs]; show _ + 0 ≤ _; omega), if_neg Bool.false_ne_true, app_nil, if_neg Bool.false_ne_true]
    unfold rDot rS1
    have J := fun dot => bare_j0 (a0 ++ ⟨#[58]⟩) dot a0 a1 a2 a3 false a5 a6 a7 la a9 a10 a11 a12 (by rw [rs]; omega) hp (by omega) (by omega) k (by omega)
    cases a6
    · rw [if_neg Bool.false_ne_true]
      by_cases h1 : (la.length : Int) > 1
      · rw [if_pos h1, if_pos (by omega), decide_eq_true h1, J]
        rfl
      · rw [if_neg h1, decide_eq_false h1, J]
        rfl
    · rw [if_pos rfl, J]
      rfl
  · rw [if_pos rfl, if_pos ⟨by omega, h50, h51⟩, Option.bind_some, if_pos (by rw [rs]; show _ + (authL _ _ _ _).toArray.size ≤ _; rw [List.size_toArray]; omega), if_pos rfl, if_pos rfl, auth_eq]
    have hz := rW6_le a0 a1 a2 a3 a5 (mk (Lib.itoa a5))
    have hi := itoa_le a5 h50 h51
    rw [bare_j0 _ false a0 a1 a2 a3 true a5 a6 a7 la a9 a10 a11 a12 (by omega) hp (by omega) (by omega) k (by omega)]
    rfl
theorem bareS_le (a0 a1 a2 a3 : ByteArray) (a4 : Bool) (a5 : Int) (a6 : Bool) (a7 : ByteArray) (la : List ByteArray) (a9 a10 : Bool) (a11 a12 : ByteArray) (h50 : -9223372036854775808 ≤ a5) (h51 : a5 ≤ 9223372036854775807) (hl : la.length ≤ 50) (hs : a0.size + a1.size + a2.size + a3.size + a7.size + a11.size + a12.size + tot la ≤ 1500) : (bareS a0 a1 a2 a3 a4 a5 a6 a7 la a9 a10 a11 a12).size ≤ 5000 := by
  have hp : (pathL la).length ≤ 2000 := by rw [path_len]; omega
  have hz : (pathS a6 a7 la).size ≤ 2000 := by unfold pathS; split <;> first | omega | (rw [mk_size]; exact hp)
  have hi := itoa_le a5 h50 h51
  have h2 := rS2_le a0 a1 a2 a3 a4 a5 a6 la (mk (Lib.itoa a5))
  unfold bareS
  have h4 := rS4_le (rS2 a0 a1 a2 a3 a4 a5 a6 la (mk (Lib.itoa a5)) ++ pathS a6 a7 la) a9 a11 63
  rw [rs] at h4
  omega
theorem print_f (a0 a1 a2 a3 : ByteArray) (a4 : Bool) (a5 : Int) (a6 : Bool) (a7 : ByteArray) (la : List ByteArray) (a9 a10 : Bool) (a11 a12 : ByteArray) (h50 : -9223372036854775808 ≤ a5) (h51 : a5 ≤ 9223372036854775807) (hl : la.length ≤ 50) (hs : a0.size + a1.size + a2.size + a3.size + a7.size + a11.size + a12.size + tot la ≤ 1500) (k : Nat) (hk : 2 ≤ k) : url_Print.f k a0 a1 a2 a3 a4 a5 a6 a7 la a9 a10 a11 a12 = some (rS4 (bareS a0 a1 a2 a3 a4 a5 a6 a7 la a9 a10 a11 a12) a10 a12 35) := by
  have hz := bareS_le a0 a1 a2 a3 a4 a5 a6 a7 la a9 a10 a11 a12 h50 h51 hl hs
  have e1 : (⟨#[35]⟩ : ByteArray).size = 1 := rfl
  unfold url_Print.f
  rw [bare_f a0 a1 a2 a3 a4 a5 a6 a7 la a9 a10 a11 a12 h50 h51 hl hs k hk, Option.bind_some, Option.bind_some]
  unfold rS4
  cases a10
  · rfl
  · rw [if_pos rfl, if_pos rfl, if_pos (by omega), if_pos (by rw [rs]; omega)]
end Go.Proofs.YtamoggikjaoanaaDoor.UrlP
