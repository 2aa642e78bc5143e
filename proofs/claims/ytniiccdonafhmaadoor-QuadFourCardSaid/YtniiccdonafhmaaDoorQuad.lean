/- What quad's and its reference's printed readers compute, told by one function over lists of bytes. -/
import Derived.Test.YtniiccdonafhmaaDoorPx1
import Derived.Test.YtniiccdonafhmaaDoorPx2
import Derived.Test.YtniiccdonafhmaaDoorPx3
import Derived.Test.YtniiccdonafhmaaDoorPx4
import Derived.Test.YtniiccdonafhmaaDoorPx5
import Derived.Test.YtniiccdonafhmaaDoorSplit
import Derived.IntWalk
namespace Go.Proofs.YtniiccdonafhmaaDoor.Quad
open Go.RowKit Go.Proofs.YtniiccdonafhmaaDoor.P Go.Proofs.YtniiccdonafhmaaDoor.Pl Go.Proofs.YtniiccdonafhmaaDoor.Spl Go.Proofs.YtniiccdonafhmaaDoorW.PrintWords Go.Proofs.YtniiccdonafhmaaDoorW.PrintLast Go.Proofs.YtniiccdonafhmaaDoorW.PrintMore
set_option linter.unusedVariables false

/-! hexadecimal digits -/
def hexv (c : Int) : Int := if 48 ≤ c ∧ c ≤ 57 then c - 48 else if 97 ≤ c ∧ c ≤ 102 then c - 87 else if 65 ≤ c ∧ c ≤ 70 then c - 55 else -1
theorem hexv_range (c : Int) : -1 ≤ hexv c ∧ hexv c ≤ 15 := by
  unfold hexv
  split
  · omega
  · split
    · omega
    · split <;> omega
theorem nat_of {c : Int} (h : byte c) : ∃ n : Nat, c = n ∧ n < 256 := by
  obtain ⟨h0, h1⟩ := h
  exact ⟨c.toNat, by omega, by omega⟩
theorem hex_1 {c : Int} (hb : byte c) : utf_Hex.f 1 c = some (hexv c) := by
  obtain ⟨n, rfl, hn⟩ := nat_of hb
  have H : ∀ n : Nat, n < 256 → utf_Hex.f 1 (n : Int) = some (hexv (n : Int)) := by decide +kernel
  exact H n hn
theorem hex_f {c : Int} (hb : byte c) : ∀ k, 1 ≤ k → utf_Hex.f k c = some (hexv c) := by
  intro k hk
  induction k with
  | zero => omega
  | succ k ih =>
    rcases Nat.lt_or_ge k 1 with h | h
    · obtain rfl : k = 0 := by omega
      exact hex_1 hb
    · exact utf_Hex.mono _ k _ (ih h)
theorem rhex_f {c : Int} (hb : byte c) : ∀ k, 17 ≤ k → carryallref01_Hex.f k c = some (hexv c) := by
  intro k hk
  induction k with
  | zero => omega
  | succ k ih =>
    rcases Nat.lt_or_ge k 17 with h | h
    · obtain rfl : k = 16 := by omega
      obtain ⟨n, rfl, hn⟩ := nat_of hb
      have H : ∀ n : Nat, n < 256 → carryallref01_Hex.f 17 (n : Int) = some (hexv (n : Int)) := by decide +kernel
      exact H n hn
    · exact carryallref01_Hex.mono _ k _ (ih h)
def digB (c : Int) : Bool := decide (48 ≤ c) && decide (c ≤ 57)
theorem dig_f (c : Int) : utf_Digit.f c = some (digB c) := by
  unfold utf_Digit.f digB
  by_cases h : c ≥ 48
  · rw [if_pos h, decide_eq_true (show 48 ≤ c from h), Bool.true_and]
  · rw [if_neg h, decide_eq_false (show ¬ 48 ≤ c from h), Bool.false_and]
theorem rdig_f (c : Int) : carryallref01_Digit.f c = some (digB c) := by
  unfold carryallref01_Digit.f digB
  by_cases h : c ≥ 48
  · rw [if_pos h, decide_eq_true (show 48 ≤ c from h), Bool.true_and]
  · rw [if_neg h, decide_eq_false (show ¬ 48 ≤ c from h), Bool.false_and]

/-! a part's number -/
def valQ (b : Int) : List Int → Int → Option Int
  | [], n => some n
  | c :: t, n => if hexv c < 0 then none else if hexv c ≥ b then none else valQ b t (mn (n * b + hexv c) 4294967296)
def ansQ : Option Int → Int × Bool
  | none => (0, false)
  | some m => (m, true)
def inM (n : Int) : Prop := 0 ≤ n ∧ n ≤ 4294967296
def base (b : Int) : Prop := 8 ≤ b ∧ b ≤ 16
theorem mn_in {n : Int} (h : 0 ≤ n) : inM (mn n 4294967296) := by
  unfold mn inM
  split <;> omega
theorem mul_b {b n : Int} (hb : base b) (h0 : 0 ≤ n) : 0 ≤ n * b ∧ n * b ≤ n * 16 ∧ n ≤ n * b := by
  obtain ⟨b0, b1⟩ := hb
  refine ⟨Int.mul_nonneg h0 (by omega), Int.mul_le_mul_of_nonneg_left b1 h0, ?_⟩
  have := Int.mul_le_mul_of_nonneg_left (show (1 : Int) ≤ b by omega) h0
  omega
theorem valQ_in (b : Int) (hb : base b) : ∀ (l : List Int) (n : Int), inM n → ∀ m, valQ b l n = some m → inM m
  | [], n, h, m, e => by obtain rfl := Option.some.inj e; exact h
  | c :: t, n, h, m, e => by
    rw [valQ] at e
    split at e
    · cases e
    · split at e
      · cases e
      · refine valQ_in b hb t _ (mn_in ?_) m e
        have := (mul_b hb h.1).1
        omega
theorem num_l0 (s : ByteArray) (hs : s.size ≤ 140737488355328) (b : Int) (hb : base b) : ∀ (d i : Nat) (n : Int) (k : Nat), s.size - i = d → i ≤ s.size → d + 2 ≤ k → inM n →
    quad_number.l0 k s b n (s.size : Int) (i : Int) = some (ansQ (valQ b ((bytesOf s).drop i) n)) := by
  intro d
  induction d with
  | zero =>
    intro i n k hd hi hk hn
    obtain ⟨k, rfl⟩ : ∃ j, k = j + 1 := ⟨k - 1, by omega⟩
    rw [quad_number.l0, if_neg (by omega), drop_end s i (by omega)]
    rfl
  | succ d ih =>
    intro i n k hd hi hk hn
    obtain ⟨k, rfl⟩ : ∃ j, k = j + 1 := ⟨k - 1, by omega⟩
    have hw : wrap64 ((i : Int) + 1) = ((i + 1 : Nat) : Int) := by rw [wrap_in (by omega) (by omega)]; omega
    rw [quad_number.l0, if_pos (by omega), if_pos (by omega), if_pos (by omega), hex_f (bt_byte _ _) k (by omega), Option.bind_some, drop_bt s i (by omega), valQ]
    have hr := hexv_range (bt s (i : Int))
    by_cases h1 : hexv (bt s (i : Int)) < 0
    · rw [if_pos h1, if_pos h1]; rfl
    · rw [if_neg h1, if_neg h1]
      by_cases h2 : hexv (bt s (i : Int)) ≥ b
      · rw [if_pos h2, if_pos h2]; rfl
      · obtain ⟨m0, m1, m2⟩ := mul_b hb hn.1
        have hn1 := hn.2
        have hb1 := hb.2
        have hb0 := hb.1
        rw [if_neg h2, if_neg h2, hw, IntWalk.u64_in b (by omega), IntWalk.u64_in (n * b) (by omega), IntWalk.u64_in (hexv _) (by omega), IntWalk.u64_in _ (by omega), ih (i + 1) _ k (by omega) (by omega) (by omega) (mn_in (by omega))]
theorem rnum_l0 (s : ByteArray) (hs : s.size ≤ 140737488355328) (b : Int) (hb : base b) : ∀ (d i : Nat) (m : Int) (k : Nat), s.size - i = d → i ≤ s.size → 2 * d + 20 ≤ k → 0 ≤ m → m ≤ 17592186044432 →
    ∃ r, carryallref07_number.l0 k s b m (s.size : Int) (i : Int) = some r ∧ (match valQ b ((bytesOf s).drop i) (mn m 4294967296) with | none => r = -1 | some v => 0 ≤ r ∧ mn r 4294967296 = v) := by
  intro d
  induction d with
  | zero =>
    intro i m k hd hi hk h0 h1
    obtain ⟨k, rfl⟩ : ∃ j, k = j + 1 := ⟨k - 1, by omega⟩
    rw [carryallref07_number.l0, if_neg (by omega), drop_end s i (by omega)]
    exact ⟨m, rfl, h0, rfl⟩
  | succ d ih =>
    intro i m k hd hi hk h0 h1
    obtain ⟨k, rfl⟩ : ∃ j, k = j + 2 := ⟨k - 2, by omega⟩
    have hw : wrap64 ((i : Int) + 1) = ((i + 1 : Nat) : Int) := by rw [wrap_in (by omega) (by omega)]; omega
    rw [carryallref07_number.l0, if_pos (by omega), if_pos (by omega), if_pos (by omega), rhex_f (bt_byte _ _) (k + 1) (by omega), Option.bind_some, drop_bt s i (by omega), valQ]
    have hr := hexv_range (bt s (i : Int))
    by_cases hn : hexv (bt s (i : Int)) < 0
    · rw [if_pos hn, if_pos hn, carryallref07_number.j3, if_pos rfl]; exact ⟨-1, rfl, rfl⟩
    · rw [if_neg hn, if_neg hn, carryallref07_number.j3]
      by_cases h2 : hexv (bt s (i : Int)) ≥ b
      · rw [if_pos h2, decide_eq_true h2, if_pos rfl]; exact ⟨-1, rfl, rfl⟩
      · rw [if_neg h2, decide_eq_false h2, if_neg Bool.false_ne_true, hw]
        obtain ⟨m0, m1, m2⟩ := mul_b hb h0
        by_cases hg : m < 1099511627776
        · rw [if_pos hg, wrap_in (n := m * b) (by omega) (by omega), wrap_in (by omega) (by omega)]
          obtain ⟨r, hr1, hr2⟩ := ih (i + 1) (m * b + hexv (bt s (i : Int))) k (by omega) (by omega) (by omega) (by omega) (by omega)
          refine ⟨r, hr1, ?_⟩
          have e : mn (mn m 4294967296 * b + hexv (bt s (i : Int))) 4294967296 = mn (m * b + hexv (bt s (i : Int))) 4294967296 := by
            by_cases hc : 4294967296 < m
            · have e1 : mn m 4294967296 = 4294967296 := if_pos hc
              rw [e1]
              have := (mul_b hb (show (0 : Int) ≤ 4294967296 by omega)).2.2
              unfold mn
              split <;> split <;> omega
            · have e1 : mn m 4294967296 = m := if_neg hc
              rw [e1]
          rw [e]
          exact hr2
        · rw [if_neg hg]
          obtain ⟨r, hr1, hr2⟩ := ih (i + 1) m k (by omega) (by omega) (by omega) h0 h1
          refine ⟨r, hr1, ?_⟩
          have e : mn (mn m 4294967296 * b + hexv (bt s (i : Int))) 4294967296 = mn m 4294967296 := by
            have e1 : mn m 4294967296 = 4294967296 := if_pos (by omega)
            rw [e1]
            have := (mul_b hb (show (0 : Int) ≤ 4294967296 by omega)).2.2
            have hb0 := hb.1
            unfold mn
            split <;> omega
          rw [e]
          exact hr2
def cutB : List Int → Int × List Int
  | [] => (10, [])
  | [c] => (10, [c])
  | c :: d :: t => if c = 48 then (if d = 120 ∨ d = 88 then (16, t) else (8, d :: t)) else (10, c :: d :: t)
def numQ (l : List Int) : Option Int := if l = [] then none else valQ (cutB l).1 (cutB l).2 0
theorem cut_base (l : List Int) : base (cutB l).1 := by
  unfold base
  match l with
  | [] => simp [cutB]
  | [c] => simp [cutB]
  | c :: d :: t =>
    rw [cutB]
    split
    · split <;> simp
    · simp
theorem numQ_in {l : List Int} {m : Int} (h : numQ l = some m) : inM m := by
  unfold numQ at h
  split at h
  · cases h
  · exact valQ_in _ (cut_base l) _ 0 ⟨by omega, by omega⟩ m h
theorem nil_iff (s : ByteArray) : (s.toList = ([] : List UInt8)) ↔ bytesOf s = [] := by
  rw [ByteArray.toList_eq]
  unfold bytesOf
  rw [List.map_eq_nil_iff]
def twoB (x y : Int) : List Int → Bool
  | a :: b :: _ => decide (a = x) && decide (b = y)
  | _ => false
theorem pre2 (s : ByteArray) (x y : UInt8) : Lib.hasPrefix s.data.toList [x, y] = twoB (x.toNat : Int) (y.toNat : Int) (bytesOf s) := by
  have e : bytesOf s = toI s.data.toList := rfl
  rw [e]
  generalize s.data.toList = l
  unfold Lib.hasPrefix
  match l with
  | [] => rfl
  | [a] => simp [List.isPrefixOf, toI, twoB]
  | a :: b :: t =>
    have h1 : ∀ u v : UInt8, ((u.toNat : Int) = (v.toNat : Int)) ↔ u = v := fun u v => ⟨fun e => UInt8.toNat_inj.1 (by omega), fun e => by rw [e]⟩
    simp only [List.isPrefixOf, toI, List.map_cons, Bool.and_true, twoB, h1]
    by_cases ha : x = a
    · subst ha
      by_cases hb : y = b
      · subst hb; simp
      · simp [hb, Ne.symm hb]
    · simp [ha, Ne.symm ha]
theorem bt0 (s : ByteArray) {c : Int} {t : List Int} (h : bytesOf s = c :: t) : bt s 0 = c := by
  have hl : 0 < s.size := by have := congrArg List.length h; rw [bytesOf_length] at this; simp at this; omega
  have := drop_bt s 0 hl
  rw [List.drop_zero, h] at this
  exact (List.cons.inj this).1.symm
theorem bt1 (s : ByteArray) {c d : Int} {t : List Int} (h : bytesOf s = c :: d :: t) : bt s 1 = d := by
  have hl : 1 < s.size := by have := congrArg List.length h; rw [bytesOf_length] at this; simp at this; omega
  have := drop_bt s 1 hl
  rw [h] at this
  exact (List.cons.inj this).1.symm
theorem num_j1 (s : ByteArray) (hs : s.size ≤ 140737488355328) (b : Int) (hb : base b) (k : Nat) (hk : s.size + 3 ≤ k) : quad_number.j1 k s b = some (ansQ (valQ b (bytesOf s) 0)) := by
  obtain ⟨k, rfl⟩ : ∃ j, k = j + 1 := ⟨k - 1, by omega⟩
  rw [quad_number.j1]
  have := num_l0 s hs b hb s.size 0 0 k (by omega) (by omega) (by omega) ⟨by omega, by omega⟩
  rwa [List.drop_zero] at this
theorem ext_size (s : ByteArray) (a : Nat) : (s.extract a s.size).size = s.size - a := by rw [ByteArray.size_extract]; omega
theorem num_f (s : ByteArray) (hs : s.size ≤ 140737488355328) (k : Nat) (hk : s.size + 4 ≤ k) : quad_number.f k s = some (ansQ (numQ (bytesOf s))) := by
  obtain ⟨k, rfl⟩ : ∃ j, k = j + 1 := ⟨k - 1, by omega⟩
  unfold quad_number.f numQ strings_HasPrefix.f
  have hz := bytesOf_length s
  by_cases h0 : bytesOf s = []
  · rw [if_pos ((nil_iff s).2 h0), if_pos h0]; rfl
  · rw [if_neg (fun e => h0 ((nil_iff s).1 e)), if_neg h0, Option.bind_some, Option.bind_some]
    have p1 : Lib.hasPrefix s.data.toList (⟨#[48, 120]⟩ : ByteArray).data.toList = twoB 48 120 (bytesOf s) := pre2 s 48 120
    have p2 : Lib.hasPrefix s.data.toList (⟨#[48, 88]⟩ : ByteArray).data.toList = twoB 48 88 (bytesOf s) := pre2 s 48 88
    rw [p1, p2]
    have J : ∀ a : Nat, a ≤ s.size → ∀ b, base b → quad_number.j1 k (s.extract a s.size) b = some (ansQ (valQ b ((bytesOf s).drop a) 0)) := by
      intro a ha b hb
      rw [num_j1 _ (by rw [ext_size]; omega) b hb k (by rw [ext_size]; omega), bytes_from]
    match hm : bytesOf s with
    | [] => exact absurd hm h0
    | [c] =>
      rw [hm] at hz
      have hz1 : s.size = 1 := by simp at hz; omega
      rw [show twoB 48 120 [c] = false from rfl, show twoB 48 88 [c] = false from rfl, if_neg Bool.false_ne_true, quad_number.j0, if_neg Bool.false_ne_true, if_neg (by omega), num_j1 s hs 10 ⟨by omega, by omega⟩ k (by omega), hm]
      rfl
    | c :: d :: t =>
      have hz2 : 2 ≤ s.size := by rw [hm] at hz; simp at hz; omega
      by_cases hx : c = 48 ∧ (d = 120 ∨ d = 88)
      · obtain ⟨rfl, hd⟩ := hx
        have hj : quad_number.j0 (k + 1) s 10 true = some (ansQ (valQ 16 t 0)) := by
          rw [quad_number.j0, if_pos rfl, if_pos (by omega), J 2 hz2 16 ⟨by omega, by omega⟩, hm]
          rfl
        have hc : cutB (48 :: d :: t) = (16, t) := by rw [cutB, if_pos rfl, if_pos hd]
        rw [hc]
        rcases hd with rfl | rfl
        · rw [show twoB 48 120 (48 :: 120 :: t) = true from rfl, if_pos rfl, hj]
        · rw [show twoB 48 120 (48 :: 88 :: t) = false from rfl, if_neg Bool.false_ne_true, show twoB 48 88 (48 :: 88 :: t) = true from rfl, hj]
      · have n1 : twoB 48 120 (c :: d :: t) = false := by
          simp only [twoB, Bool.and_eq_false_iff, decide_eq_false_iff_not]
          by_cases h1 : c = 48
          · right; exact fun h2 => hx ⟨h1, .inl h2⟩
          · left; exact h1
        have n2 : twoB 48 88 (c :: d :: t) = false := by
          simp only [twoB, Bool.and_eq_false_iff, decide_eq_false_iff_not]
          by_cases h1 : c = 48
          · right; exact fun h2 => hx ⟨h1, .inr h2⟩
          · left; exact h1
        rw [n1, n2, if_neg Bool.false_ne_true, quad_number.j0, if_neg Bool.false_ne_true, if_pos (by omega), if_pos (by omega), bt0 s hm]
        by_cases hc : c = 48
        · rw [if_pos hc, if_pos (by omega), J 1 (by omega) 8 ⟨by omega, by omega⟩, hm, cutB, if_pos hc, if_neg (fun e => hx ⟨hc, e⟩)]
          rfl
        · rw [if_neg hc, num_j1 s hs 10 ⟨by omega, by omega⟩ k (by omega), hm, cutB, if_neg hc]
def relQ (r : Int) : Option Int → Prop
  | none => r = -1
  | some v => 0 ≤ r ∧ mn r 4294967296 = v
theorem rnum_j1 (s : ByteArray) (hs : s.size ≤ 140737488355328) (b : Int) (hb : base b) (k : Nat) (hk : 2 * s.size + 21 ≤ k) : ∃ r, carryallref07_number.j1 k s b = some r ∧ relQ r (valQ b (bytesOf s) 0) := by
  obtain ⟨k, rfl⟩ : ∃ j, k = j + 1 := ⟨k - 1, by omega⟩
  rw [carryallref07_number.j1]
  obtain ⟨r, h1, h2⟩ := rnum_l0 s hs b hb s.size 0 0 k (by omega) (by omega) (by omega) (by omega) (by omega)
  rw [List.drop_zero] at h2
  refine ⟨r, h1, ?_⟩
  have e : mn 0 4294967296 = 0 := rfl
  rw [e] at h2
  unfold relQ
  exact h2
theorem rnum_f (s : ByteArray) (hs : s.size ≤ 140737488355328) (k : Nat) (hk : 2 * s.size + 22 ≤ k) : ∃ r, carryallref07_number.f k s = some r ∧ relQ r (numQ (bytesOf s)) := by
  obtain ⟨k, rfl⟩ : ∃ j, k = j + 1 := ⟨k - 1, by omega⟩
  unfold carryallref07_number.f numQ
  have hz := bytesOf_length s
  by_cases h0 : bytesOf s = []
  · rw [if_pos ((nil_iff s).2 h0), if_pos h0]; exact ⟨-1, rfl, rfl⟩
  · rw [if_neg (fun e => h0 ((nil_iff s).1 e)), if_neg h0]
    have J : ∀ a : Nat, a ≤ s.size → ∀ b, base b → ∃ r, carryallref07_number.j1 k (s.extract a s.size) b = some r ∧ relQ r (valQ b ((bytesOf s).drop a) 0) := by
      intro a ha b hb
      have := rnum_j1 (s.extract a s.size) (by rw [ext_size]; omega) b hb k (by rw [ext_size]; omega)
      rwa [bytes_from] at this
    match hm : bytesOf s with
    | [] => exact absurd hm h0
    | [c] =>
      rw [hm] at hz
      have hz1 : s.size = 1 := by simp at hz; omega
      rw [if_neg (by omega), carryallref07_number.j0, if_neg Bool.false_ne_true]
      have := rnum_j1 s hs 10 ⟨by omega, by omega⟩ k (by omega)
      rwa [hm] at this
    | c :: d :: t =>
      have hz2 : 2 ≤ s.size := by rw [hm] at hz; simp at hz; omega
      rw [if_pos (by omega), if_pos (by omega), bt0 s hm, carryallref07_number.j0]
      by_cases hc : c = 48
      · rw [hc, if_pos (by decide), if_pos (by omega), bt1 s hm]
        by_cases hd : d = 120 ∨ d = 88
        · have hcut : cutB (48 :: d :: t) = (16, t) := by rw [cutB, if_pos rfl, if_pos hd]
          have := J 2 hz2 16 ⟨by omega, by omega⟩
          rw [hm] at this
          rw [hcut]
          rcases hd with rfl | rfl
          · rw [if_pos rfl, if_pos (by omega)]; exact this
          · rw [if_neg (by decide), if_pos rfl, if_pos (by omega)]; exact this
        · have hcut : cutB (48 :: d :: t) = (8, d :: t) := by rw [cutB, if_pos rfl, if_neg hd]
          have := J 1 (by omega) 8 ⟨by omega, by omega⟩
          rw [hm] at this
          rw [hcut, if_neg (fun e => hd (.inl e)), if_neg (fun e => hd (.inr e)), if_pos (by omega)]
          exact this
      · have hcut : cutB (c :: d :: t) = (10, c :: d :: t) := by rw [cutB, if_neg hc]
        rw [beq_false_of_ne hc, if_neg Bool.false_ne_true, hcut]
        have := rnum_j1 s hs 10 ⟨by omega, by omega⟩ k (by omega)
        rwa [hm] at this
end Go.Proofs.YtniiccdonafhmaaDoor.Quad
