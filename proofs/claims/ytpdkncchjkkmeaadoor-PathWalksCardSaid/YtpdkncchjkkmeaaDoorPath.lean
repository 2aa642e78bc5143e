/- What path's and its reference's printed readers of segments compute, told over lists of bytes. -/
import Derived.Test.YtpdkncchjkkmeaaDoorPx1
import Derived.Test.YtpdkncchjkkmeaaDoorPx3
import Derived.Test.YtpdkncchjkkmeaaDoorRef01
namespace Go.Proofs.YtpdkncchjkkmeaaDoor.Path
open Go.RowKit Go.Proofs.YtpdkncchjkkmeaaDoor.P Go.Proofs.YtpdkncchjkkmeaaDoor.Pl Go.Proofs.YtpdkncchjkkmeaaDoor.Ref01 Go.Proofs.YtpdkncchjkkmeaaDoorW.PrintWords Go.Proofs.YtpdkncchjkkmeaaDoorW.PrintLast Go.Proofs.YtpdkncchjkkmeaaDoorW.PrintMore
set_option linter.unusedVariables false

theorem toI_inj : ∀ {a b : List UInt8}, a.map (fun u => (u.toNat : Int)) = b.map (fun u => (u.toNat : Int)) → a = b
  | [], [], _ => rfl
  | [], y :: b, h => by simp at h
  | x :: a, [], h => by simp at h
  | x :: a, y :: b, h => by
    simp only [List.map_cons, List.cons.injEq] at h
    rw [toI_inj h.2, UInt8.toNat_inj.1 (show x.toNat = y.toNat by omega)]
theorem list_iff (s : ByteArray) (K : List UInt8) : s.toList = K ↔ bytesOf s = K.map (fun u => (u.toNat : Int)) := by
  rw [ByteArray.toList_eq]
  exact ⟨fun h => by unfold bytesOf; rw [h], fun h => toI_inj h⟩
theorem nil_iff (s : ByteArray) : (s.toList = ([] : List UInt8)) ↔ bytesOf s = [] := list_iff s []
theorem low_iff {c x : Int} (hx : x < 97 ∨ 122 < x) : Low.low c = x ↔ (c = x ∧ ¬ (65 ≤ c ∧ c ≤ 90)) := by
  unfold Low.low
  split <;> omega
theorem low46 (c : Int) : Low.low c = 46 ↔ c = 46 := by rw [low_iff (by omega)]; omega
theorem low37 (c : Int) : Low.low c = 37 ↔ c = 37 := by rw [low_iff (by omega)]; omega

/-! points -/
def isE (c a b : Int) : Prop := Low.low c = 37 ∧ Low.low a = 50 ∧ Low.low b = 101
instance (c a b : Int) : Decidable (isE c a b) := by unfold isE; infer_instance
def dl : List Int → Option Nat
  | [] => some 0
  | [c] => if c = 46 then some 1 else none
  | [c, a] => if c = 46 then (if a = 46 then some 2 else none) else none
  | c :: a :: b :: t => if c = 46 then (dl (a :: b :: t)).map (· + 1) else if isE c a b then (dl t).map (· + 1) else none
theorem dl_dot (t : List Int) : dl (46 :: t) = (dl t).map (· + 1) := by
  match t with
  | [] => rfl
  | [a] => simp [dl]
  | a :: b :: t => rw [dl, if_pos rfl]
theorem dl_no {c : Int} {t : List Int} (h : c ≠ 46) (ht : ∀ a b r, t = a :: b :: r → ¬ isE c a b) : dl (c :: t) = none := by
  match t with
  | [] => simp [dl, h]
  | [a] => simp [dl, h]
  | a :: b :: r => rw [dl, if_neg h, if_neg (ht a b r rfl)]
theorem dl_e {c a b : Int} {t : List Int} (h : isE c a b) : dl (c :: a :: b :: t) = (dl t).map (· + 1) := by
  have : c ≠ 46 := fun e => by subst e; have := h.1; rw [low37] at this; omega
  rw [dl, if_neg this, if_pos h]
def ansD (n : Nat) : Option Nat → Int
  | none => 0
  | some m => ((n + m : Nat) : Int)
theorem ext_to (s : ByteArray) (a : Nat) : bytesOf (s.extract a s.size) = (bytesOf s).drop a := bytes_from s a
theorem dots_l0 : ∀ (d : Nat) (s : ByteArray) (n k : Nat), s.size = d → d ≤ 1000000 → n ≤ 1000000 + 1000000 - d → d + 1 ≤ k → path_dots.l0 k s (n : Int) = some (ansD n (dl (bytesOf s))) := by
  intro d
  induction d using Nat.strongRecOn with
  | ind d ih =>
    intro s n k hd hb hn hk
    obtain ⟨k, rfl⟩ : ∃ j, k = j + 1 := ⟨k - 1, by omega⟩
    have hl := bytesOf_length s
    have hw : wrap64 ((n : Int) + 1) = ((n + 1 : Nat) : Int) := by rw [wrap_in (by omega) (by omega)]; omega
    rw [path_dots.l0]
    cases hs : bytesOf s with
    | nil => rw [if_pos ((nil_iff s).2 hs)]; rfl
    | cons c t =>
      rw [hs] at hl
      have hz : 1 ≤ s.size := by simp at hl; omega
      have hc : bt s 0 = c := by
        have := drop_bt s 0 (by omega)
        rw [List.drop_zero, hs] at this
        exact (List.cons.inj this).1.symm
      rw [if_neg (fun e => by rw [nil_iff, hs] at e; cases e), if_pos (by omega), hc]
      have A : ∀ m, ansD (n + 1) m = ansD n (m.map (· + 1)) := by
        intro m; cases m
        · rfl
        · simp only [ansD, Option.map_some]; congr 1; omega
      by_cases h46 : c = 46
      · subst h46
        have he : bytesOf (s.extract 1 s.size) = t := by rw [ext_to, hs]; rfl
        have hz1 : (s.extract 1 s.size).size = s.size - 1 := by rw [ByteArray.size_extract]; omega
        rw [if_pos rfl, if_pos (by omega), hw, ih (s.size - 1) (by omega) _ (n + 1) k hz1 (by omega) (by omega) (by omega), he, dl_dot, A]
      · rw [if_neg h46]
        by_cases h3 : 2 < s.size
        · obtain ⟨a, b, r, rfl⟩ : ∃ a b r, t = a :: b :: r := by
            match t, hl with
            | [], hl => simp at hl; omega
            | [a], hl => simp at hl; omega
            | a :: b :: r, _ => exact ⟨a, b, r, rfl⟩
          have hz3 : (s.extract 0 3).size = 3 := by rw [ByteArray.size_extract]; omega
          have hb3 : bytesOf (s.extract 0 3) = [c, a, b] := by rw [bytes_to, hs]; rfl
          have hlow : utf_Lower.f (s.extract 0 3) = some (strOfNums ([c, a, b].map Low.low)) := by
            unfold utf_Lower.f
            rw [if_pos (by omega), hb3]
          have hcmp : ((strOfNums ([c, a, b].map Low.low)).toList = ([37, 50, 101] : List UInt8)) ↔ isE c a b := by
            have := bytes_low (s.extract 0 3)
            rw [hb3] at this
            rw [list_iff, this]
            simp [isE]
          rw [if_pos (by omega), if_pos (by decide), if_pos (by omega), hlow, Option.bind_some]
          by_cases hE : isE c a b
          · have he : bytesOf (s.extract 3 s.size) = r := by rw [ext_to, hs]; rfl
            have hz4 : (s.extract 3 s.size).size = s.size - 3 := by rw [ByteArray.size_extract]; omega
            rw [if_pos (hcmp.2 hE), hw, ih (s.size - 3) (by omega) _ (n + 1) k hz4 (by omega) (by omega) (by omega), he, dl_e hE, A]
          · rw [if_neg (fun e => hE (hcmp.1 e)), dl_no h46 (fun a' b' r' e => by cases e; exact hE)]
            rfl
        · rw [if_neg (by omega), dl_no h46 (fun a b r e => by subst e; simp at hl; omega)]
          rfl
theorem dots_f (s : ByteArray) (hs : s.size ≤ 1000000) (k : Nat) (hk : s.size + 1 ≤ k) : path_dots.f k s = some (ansD 0 (dl (bytesOf s))) := dots_l0 s.size s 0 k rfl hs (by omega) hk
def singB (l : List Int) : Bool := dl l == some 1
def doubB (l : List Int) : Bool := dl l == some 2
theorem sing_f (s : ByteArray) (hs : s.size ≤ 1000000) (k : Nat) (hk : s.size + 1 ≤ k) : path_Single.f k s = some (singB (bytesOf s)) := by
  unfold path_Single.f singB
  rw [dots_f s hs k hk, Option.bind_some]
  cases h : dl (bytesOf s) with
  | none => rfl
  | some m =>
    simp only [ansD]
    by_cases e : m = 1
    · subst e; rfl
    · rw [beq_false_of_ne (by omega), beq_false_of_ne (fun x => e (Option.some.inj x))]
theorem doub_f (s : ByteArray) (hs : s.size ≤ 1000000) (k : Nat) (hk : s.size + 1 ≤ k) : path_Double.f k s = some (doubB (bytesOf s)) := by
  unfold path_Double.f doubB
  rw [dots_f s hs k hk, Option.bind_some]
  cases h : dl (bytesOf s) with
  | none => rfl
  | some m =>
    simp only [ansD]
    by_cases e : m = 2
    · subst e; rfl
    · rw [beq_false_of_ne (by omega), beq_false_of_ne (fun x => e (Option.some.inj x))]
theorem dl_zero {l : List Int} : dl l = some 0 ↔ l = [] := by
  constructor
  · intro h
    match l with
    | [] => rfl
    | [c] => simp [dl] at h
    | [c, a] => simp [dl] at h
    | c :: a :: b :: t =>
      rw [dl] at h
      split at h
      · cases hd : dl (a :: b :: t) <;> rw [hd] at h <;> simp at h
      · split at h
        · cases hd : dl t <;> rw [hd] at h <;> simp at h
        · cases h
  · rintro rfl; rfl
theorem succ_iff {o : Option Nat} {n : Nat} : o.map (· + 1) = some (n + 1) ↔ o = some n := by
  cases o <;> simp
theorem dl_one {l : List Int} : dl l = some 1 ↔ l.map Low.low = [46] ∨ l.map Low.low = [37, 50, 101] := by
  match l with
  | [] => simp [dl]
  | [c] => simp [dl, low46]
  | [c, a] => simp [dl]
  | c :: a :: b :: t =>
    rw [dl]
    by_cases h : c = 46
    · subst h
      rw [if_pos rfl, succ_iff, dl_zero]
      simp [Low.low]
    · rw [if_neg h]
      by_cases hE : isE c a b
      · rw [if_pos hE, succ_iff, dl_zero]
        obtain ⟨e1, e2, e3⟩ := hE
        simp [e1, e2, e3]
      · rw [if_neg hE]
        simp only [List.map_cons, List.cons.injEq, reduceCtorEq, and_false, false_or, false_iff]
        rintro ⟨e1, e2, e3, _⟩
        exact hE ⟨e1, e2, e3⟩
theorem dl_two {l : List Int} : dl l = some 2 ↔ l.map Low.low = [46, 46] ∨ l.map Low.low = [46, 37, 50, 101] ∨ l.map Low.low = [37, 50, 101, 46] ∨ l.map Low.low = [37, 50, 101, 37, 50, 101] := by
  match l with
  | [] => simp [dl]
  | [c] => simp [dl]
  | [c, a] => simp [dl, low46]
  | c :: a :: b :: t =>
    rw [dl]
    by_cases h : c = 46
    · subst h
      rw [if_pos rfl, succ_iff, dl_one]
      have e : Low.low 46 = 46 := by decide
      simp [e]
    · rw [if_neg h]
      have h' : Low.low c ≠ 46 := fun e => h ((low46 c).1 e)
      by_cases hE : isE c a b
      · rw [if_pos hE, succ_iff, dl_one]
        obtain ⟨e1, e2, e3⟩ := hE
        simp [e1, e2, e3]
      · rw [if_neg hE]
        simp only [List.map_cons, List.cons.injEq, reduceCtorEq, and_false, false_iff, h', false_and, false_or]
        rintro (⟨e1, e2, e3, _⟩ | ⟨e1, e2, e3, _⟩)
        · exact hE ⟨e1, e2, e3⟩
        · exact hE ⟨e1, e2, e3⟩
theorem rlow_cmp (s : ByteArray) (K : List UInt8) : ((strOfNums ((bytesOf s).map Low.low)).toList = K) ↔ (bytesOf s).map Low.low = K.map (fun u => (u.toNat : Int)) := by
  rw [list_iff, bytes_low]
theorem rsing_f (s : ByteArray) (hs : s.size ≤ 1000000) (k : Nat) (hk : s.size + 1 ≤ k) : carryallref10_Single.f k s = some (singB (bytesOf s)) := by
  unfold carryallref10_Single.f singB
  rw [rlow_f s hs k hk, Option.bind_some]
  by_cases h1 : (strOfNums ((bytesOf s).map Low.low)).toList = ([46] : List UInt8)
  · rw [if_pos h1, dl_one.2 (.inl ((rlow_cmp s _).1 h1))]; rfl
  · rw [if_neg h1]
    by_cases h2 : (strOfNums ((bytesOf s).map Low.low)).toList = ([37, 50, 101] : List UInt8)
    · rw [h2, dl_one.2 (.inr ((rlow_cmp s _).1 h2))]; rfl
    · rw [beq_false_of_ne h2, beq_false_of_ne]
      intro e
      rcases dl_one.1 e with e | e
      · exact h1 ((rlow_cmp s _).2 e)
      · exact h2 ((rlow_cmp s _).2 e)
theorem rdoub_f (s : ByteArray) (hs : s.size ≤ 1000000) (k : Nat) (hk : s.size + 1 ≤ k) : carryallref10_Double.f k s = some (doubB (bytesOf s)) := by
  unfold carryallref10_Double.f doubB
  rw [rlow_f s hs k hk, Option.bind_some]
  by_cases h1 : (strOfNums ((bytesOf s).map Low.low)).toList = ([46, 46] : List UInt8)
  · rw [if_pos h1, dl_two.2 (.inl ((rlow_cmp s _).1 h1))]; rfl
  · rw [if_neg h1]
    by_cases h2 : (strOfNums ((bytesOf s).map Low.low)).toList = ([46, 37, 50, 101] : List UInt8)
    · rw [if_pos h2, dl_two.2 (.inr (.inl ((rlow_cmp s _).1 h2)))]; rfl
    · rw [if_neg h2]
      by_cases h3 : (strOfNums ((bytesOf s).map Low.low)).toList = ([37, 50, 101, 46] : List UInt8)
      · rw [if_pos h3, dl_two.2 (.inr (.inr (.inl ((rlow_cmp s _).1 h3))))]; rfl
      · rw [if_neg h3]
        by_cases h4 : (strOfNums ((bytesOf s).map Low.low)).toList = ([37, 50, 101, 37, 50, 101] : List UInt8)
        · rw [h4, dl_two.2 (.inr (.inr (.inr ((rlow_cmp s _).1 h4))))]; rfl
        · rw [beq_false_of_ne h4, beq_false_of_ne]
          intro e
          rcases dl_two.1 e with e | e | e | e
          · exact h1 ((rlow_cmp s _).2 e)
          · exact h2 ((rlow_cmp s _).2 e)
          · exact h3 ((rlow_cmp s _).2 e)
          · exact h4 ((rlow_cmp s _).2 e)

/-! drives -/
def letB (c : Int) : Bool := (decide (65 ≤ c) && decide (c ≤ 90)) || (decide (97 ≤ c) && decide (c ≤ 122))
theorem nat_of {c : Int} (h : byte c) : ∃ n : Nat, c = n ∧ n < 256 := by
  obtain ⟨h0, h1⟩ := h
  exact ⟨c.toNat, by omega, by omega⟩
theorem let_f {c : Int} (hb : byte c) : utf_Letter.f c = some (letB c) := by
  obtain ⟨n, rfl, hn⟩ := nat_of hb
  have H : ∀ n : Nat, n < 256 → utf_Letter.f (n : Int) = some (letB (n : Int)) := by decide +kernel
  exact H n hn
theorem rlet_f {c : Int} (hb : byte c) : carryallref01_Letter.f c = some (letB c) := by
  obtain ⟨n, rfl, hn⟩ := nat_of hb
  have H : ∀ n : Nat, n < 256 → carryallref01_Letter.f (n : Int) = some (letB (n : Int)) := by decide +kernel
  exact H n hn
def drvB : List Int → Bool
  | [c, d] => letB c && (d == 58 || d == 124)
  | _ => false
def norB : List Int → Bool
  | [c, d] => letB c && d == 58
  | _ => false
theorem two_bt (s : ByteArray) (h : s.size = 2) : bytesOf s = [bt s 0, bt s 1] := by
  have h0 := drop_bt s 0 (by omega)
  have h1 := drop_bt s 1 (by omega)
  rw [List.drop_zero] at h0
  rw [h0, h1, drop_end s _ (by omega)]
  rfl
theorem not_two {s : ByteArray} (h : s.size ≠ 2) : drvB (bytesOf s) = false ∧ norB (bytesOf s) = false := by
  have hl := bytesOf_length s
  match hm : bytesOf s with
  | [] => exact ⟨rfl, rfl⟩
  | [c] => exact ⟨rfl, rfl⟩
  | [c, d] => rw [hm] at hl; simp at hl; omega
  | c :: d :: e :: t => exact ⟨rfl, rfl⟩
theorem drv_g (s : ByteArray) (L : Int → Option Bool) (hL : L (bt s 0) = some (letB (bt s 0))) : (if (s.size : Int) = 2 then (if 0 < (s.size : Int) then ((L (bt s 0)).bind fun t101 => (if t101 = true then (if 1 < (s.size : Int) then (if (bt s 1) = 58 then (some true) else (some ((bt s 1) == 124))) else (none)) else (some false))) else (none)) else (some false)) = some (drvB (bytesOf s)) := by
  by_cases h : s.size = 2
  · rw [if_pos (by omega), if_pos (by omega), hL, Option.bind_some, two_bt s h]
    simp only [drvB]
    cases letB (bt s 0)
    · rfl
    · rw [if_pos rfl, if_pos (by omega)]
      by_cases h5 : bt s 1 = 58
      · rw [if_pos h5, h5]; rfl
      · rw [if_neg h5, beq_false_of_ne h5, Bool.true_and, Bool.false_or]
  · rw [if_neg (by omega), (not_two h).1]
theorem drv_f (s : ByteArray) : path_Drive.f s = some (drvB (bytesOf s)) := drv_g s utf_Letter.f (let_f (bt_byte _ _))
theorem rdrv_f (s : ByteArray) : carryallref10_Drive.f s = some (drvB (bytesOf s)) := drv_g s carryallref01_Letter.f (rlet_f (bt_byte _ _))
theorem nor_g (s : ByteArray) (D : Option Bool) (hD : D = some (drvB (bytesOf s))) : (D.bind fun t102 => (if t102 = true then (if 1 < (s.size : Int) then (some ((bt s 1) == 58)) else (none)) else (some false))) = some (norB (bytesOf s)) := by
  rw [hD, Option.bind_some]
  by_cases h : s.size = 2
  · rw [two_bt s h]
    simp only [drvB, norB]
    by_cases hb : letB (bt s 0) = true
    rotate_left
    · rw [Bool.not_eq_true] at hb
      simp [hb]
    · simp only [hb, Bool.true_and]
      by_cases h5 : bt s 1 = 58
      · rw [h5]; simp; omega
      · rw [beq_false_of_ne h5, Bool.false_or]
        by_cases h6 : bt s 1 = 124
        · rw [h6]; simp; omega
        · rw [beq_false_of_ne h6]; rfl
  · rw [(not_two h).1, (not_two h).2]; rfl
theorem nor_f (s : ByteArray) : path_Normal.f s = some (norB (bytesOf s)) := nor_g s _ (drv_f s)
theorem rnor_f (s : ByteArray) : carryallref10_Normal.f s = some (norB (bytesOf s)) := nor_g s _ (rdrv_f s)
end Go.Proofs.YtpdkncchjkkmeaaDoor.Path
