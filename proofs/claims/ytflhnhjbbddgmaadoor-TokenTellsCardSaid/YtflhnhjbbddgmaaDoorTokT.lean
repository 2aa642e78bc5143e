/- The reference's tokens, texts in quotes and blanks, in plain lists: they are the program's. -/
import Derived.Test.YtflhnhjbbddgmaaDoorPx1
import Derived.Test.YtflhnhjbbddgmaaDoorPx2
import Derived.Test.YtflhnhjbbddgmaaDoorPx5
import Derived.Test.YtflhnhjbbddgmaaDoorPx6
import Derived.Test.YtflhnhjbbddgmaaDoorTok
import Derived.Test.YtflhnhjbbddgmaaDoorDecV
import Derived.Test.YtflhnhjbbddgmaaDoorQuo
namespace Go.Proofs.YtflhnhjbbddgmaaDoor.Tok
open Go.RowKit Go.Proofs.YtflhnhjbbddgmaaDoor.P Go.Proofs.YtflhnhjbbddgmaaDoor.Pl Go.Proofs.YtflhnhjbbddgmaaDoorW.PrintWords Go.Proofs.YtflhnhjbbddgmaaDoorW.PrintLast
set_option linter.unusedVariables false
def SG : ByteArray := ⟨#[33, 35, 36, 37, 38, 39, 42, 43, 45, 46, 94, 95, 96, 124, 126]⟩
def BL : ByteArray := ⟨#[9, 10, 13, 32]⟩
theorem has_l0 (S : ByteArray) (hS : S.size ≤ 1000000) (c : Int) : ∀ (d i k : Nat), S.size - i = d → i ≤ S.size → d + 1 ≤ k → carryallref01_Has.l0 k S c (S.size : Int) (i : Int) = some (decide (c ∈ (bytesOf S).drop i)) := by
  intro d
  induction d with
  | zero =>
    intro i k hd hi hk
    obtain ⟨k, rfl⟩ : ∃ j, k = j + 1 := ⟨k - 1, by omega⟩
    rw [carryallref01_Has.l0, if_neg (by omega), drop_end S i (by omega)]
    simp
  | succ d ih =>
    intro i k hd hi hk
    obtain ⟨k, rfl⟩ : ∃ j, k = j + 1 := ⟨k - 1, by omega⟩
    have hw : wrap64 ((i : Int) + 1) = ((i + 1 : Nat) : Int) := by rw [wrap_in (by omega) (by omega)]; omega
    rw [carryallref01_Has.l0, if_pos (by omega), if_pos (by omega), if_pos (by omega), hw, ih (i + 1) k (by omega) (by omega) (by omega), drop_bt S i (by omega)]
    by_cases h : bt S (i : Int) = c
    · rw [if_pos h]; simp [h]
    · rw [if_neg h]
      congr 1
      rw [decide_eq_decide]
      constructor
      · intro hh; exact List.mem_cons_of_mem _ hh
      · intro hh
        rcases List.mem_cons.1 hh with e | e
        · exact absurd e.symm h
        · exact e
theorem has_f (S : ByteArray) (hS : S.size ≤ 1000000) (c : Int) (k : Nat) (hk : S.size + 1 ≤ k) : carryallref01_Has.f k S c = some (decide (c ∈ bytesOf S)) := by
  have := has_l0 S hS c S.size 0 k (by omega) (by omega) hk
  rw [List.drop_zero] at this
  exact this
def rlet (c : Int) : Bool := (carryallref01_Letter.f c).getD false
def rdig (c : Int) : Bool := (carryallref01_Digit.f c).getD false
theorem rlet_f (c : Int) : carryallref01_Letter.f c = some (rlet c) := by
  unfold rlet carryallref01_Letter.f
  repeat' split
  all_goals rfl
theorem rdig_f (c : Int) : carryallref01_Digit.f c = some (rdig c) := by
  unfold rdig carryallref01_Digit.f
  repeat' split
  all_goals rfl
theorem tok_same {c : Int} (h : byte c) : (rlet c || rdig c || decide (c ∈ bytesOf SG)) = tokB c := by
  obtain ⟨h0, h1⟩ := h
  obtain ⟨n, rfl, hn⟩ : ∃ n : Nat, c = n ∧ n < 256 := ⟨c.toNat, by omega, by omega⟩
  have H : ∀ n : Nat, n < 256 → (rlet (n : Int) || rdig (n : Int) || decide ((n : Int) ∈ bytesOf SG)) = tokB (n : Int) := by decide +kernel
  exact H n hn
theorem ris_l0 (s : ByteArray) (hs : s.size ≤ 1000000) : ∀ (d i k : Nat), s.size - i = d → i ≤ s.size → d + 20 ≤ k →
    carryallref04_Is.l0 k s (s.size : Int) (i : Int) = some (((bytesOf s).drop i).all tokB && (s.toList != [])) := by
  intro d
  induction d with
  | zero =>
    intro i k hd hi hk
    obtain ⟨k, rfl⟩ : ∃ j, k = j + 1 := ⟨k - 1, by omega⟩
    rw [carryallref04_Is.l0, if_neg (by omega), drop_end s i (by omega)]
    simp
  | succ d ih =>
    intro i k hd hi hk
    obtain ⟨k, rfl⟩ : ∃ j, k = j + 1 := ⟨k - 1, by omega⟩
    have hw : wrap64 ((i : Int) + 1) = ((i + 1 : Nat) : Int) := by rw [wrap_in (by omega) (by omega)]; omega
    have IH := ih (i + 1) k (by omega) (by omega) (by omega)
    have hh := has_f SG (by decide) (bt s (i : Int)) k (by have : SG.size = 15 := rfl; omega)
    rw [carryallref04_Is.l0, if_pos (by omega), if_pos (by omega), if_pos (by omega), rlet_f, Option.bind_some, rdig_f, hw, IH, drop_bt s i (by omega), List.all_cons, ← tok_same (bt_byte s i)]
    show _ = _
    cases hl : rlet (bt s (i : Int)) with
    | true => simp
    | false =>
      rw [if_neg (by simp), Option.bind_some]
      cases hg : rdig (bt s (i : Int)) with
      | true => simp
      | false =>
        rw [if_neg (by simp)]
        show (carryallref01_Has.f k SG (bt s (i : Int))).bind _ = _
        rw [hh, Option.bind_some]
        by_cases h : bt s (i : Int) ∈ bytesOf SG
        · rw [decide_eq_true h]; simp
        · rw [decide_eq_false h]; simp
theorem ris_f {s : ByteArray} {k : Nat} (hs : s.size ≤ 1000000) (hk : s.size + 20 ≤ k) : carryallref04_Is.f k s = some ((bytesOf s).all tokB && (s.toList != [])) := by
  have := ris_l0 s hs s.size 0 k (by omega) (by omega) hk
  rw [List.drop_zero] at this
  exact this

/-! texts in quotes -/
def goodr (r : Int) : Bool := decide (r = 9) || (!decide (r < 32) && !decide (r = 127) && !decide (r > 255))
theorem bad_good {r : Int} (h : 0 ≤ r) : Quo.badr r.toNat = !goodr r := by
  unfold Quo.badr goodr
  by_cases h1 : r = 9
  · subst h1; rfl
  · have e1 : decide (r.toNat = 9) = false := decide_eq_false (by omega)
    rw [e1, decide_eq_false h1]
    by_cases h2 : r < 32
    · have a1 : decide (r.toNat < 32) = true := decide_eq_true (by omega)
      have a2 : decide (r.toNat < 128) = true := decide_eq_true (by omega)
      rw [a1, a2, decide_eq_true h2]; rfl
    · have a1 : decide (r.toNat < 32) = false := decide_eq_false (by omega)
      rw [a1, decide_eq_false h2]
      by_cases h3 : r = 127
      · subst h3; rfl
      · rw [decide_eq_false h3]
        by_cases h4 : r > 255
        · have b1 : decide (126 < r.toNat) = true := decide_eq_true (by omega)
          have b2 : decide (255 < r.toNat) = true := decide_eq_true (by omega)
          rw [b1, b2, decide_eq_true h4]; simp
        · have b2 : decide (255 < r.toNat) = false := decide_eq_false (by omega)
          rw [b2, decide_eq_false h4]
          by_cases h5 : 126 < r.toNat
          · have b3 : decide (r.toNat < 128) = false := decide_eq_false (by omega)
            rw [b3]; simp
          · rw [decide_eq_false h5]; simp
theorem enc_ne (r : Int) (hr : Dec.isChar r) : 1 ≤ (Dec.enc r).length := by
  obtain ⟨r0, r1, r2⟩ := hr
  by_cases h1 : r ≤ 127
  · rw [show Dec.enc r = [r] from Lib.encodeRuneZ_one r0 h1]; simp
  · by_cases h2 : r ≤ 2047
    · rw [show Dec.enc r = [192 + r / 64, 128 + r % 64] from Lib.encodeRuneZ_two (by omega) h2]; simp
    · by_cases h3 : r ≤ 65535
      · rw [show Dec.enc r = [224 + r / 4096, 128 + r / 64 % 64, 128 + r % 64] from Lib.encodeRuneZ_three (by omega)]; simp
      · rw [show Dec.enc r = [240 + r / 262144, 128 + r / 4096 % 64, 128 + r / 64 % 64, 128 + r % 64] from Lib.encodeRuneZ_four (by omega) r1]; simp
theorem good_all (s : ByteArray) : ∀ (C : List Int), (∀ r ∈ C, Dec.isChar r) → ∀ (b pos : Nat), (bytesOf s).drop pos = C.flatMap Dec.enc → (C.flatMap Dec.enc).length ≤ b → Quo.goodAt s b pos = C.all goodr := by
  intro C
  induction C with
  | nil =>
    intro _ b pos hd _
    have : s.size ≤ pos := by
      have := congrArg List.length hd
      rw [List.length_drop, bytesOf_length] at this
      simp at this
      omega
    rw [Quo.good_end s b pos (by omega)]
    rfl
  | cons r C ih =>
    intro hC b pos hd hb
    have hr := hC r List.mem_cons_self
    rw [List.flatMap_cons] at hd hb
    have h1 := enc_ne r hr
    rw [List.length_append] at hb
    obtain ⟨b, rfl⟩ : ∃ j, b = j + 1 := ⟨b - 1, by omega⟩
    have hlen := congrArg List.length hd
    rw [List.length_drop, bytesOf_length, List.length_append] at hlen
    have hp : pos < s.size := by omega
    have hdec := Dec.dec_pos hr hd
    have hd2 : (bytesOf s).drop (pos + (Dec.enc r).length) = C.flatMap Dec.enc := by rw [← List.drop_drop, hd, List.drop_left]
    have IH := ih (fun x hx => hC x (List.mem_cons_of_mem _ hx)) b (pos + (Dec.enc r).length) hd2 (by omega)
    unfold Quo.goodAt
    rw [if_pos hp, hdec]
    simp only
    rw [bad_good hr.1, IH, List.all_cons]
    cases goodr r <;> simp
theorem toU_bytes (s : ByteArray) : Dec.toU (bytesOf s) = s.data.toList := Quo.map_bytes s
theorem rquo_l0 (s : ByteArray) (L : List Int) (hL : L.length ≤ 1000000) (hs : s.size ≤ 1000000) (V : Bool) (kv : Nat) (hV : ∀ k, kv ≤ k → carryallref01_Valid.f k (bytesOf s) = some V) : ∀ (d i k : Nat), L.length - i = d → i ≤ L.length → d + kv + 1 ≤ k →
    carryallref04_Quotable.l0 k s L (L.length : Int) (i : Int) = some ((L.drop i).all goodr && V) := by
  intro d
  induction d with
  | zero =>
    intro i k hd hi hk
    obtain ⟨k, rfl⟩ : ∃ j, k = j + 1 := ⟨k - 1, by omega⟩
    rw [carryallref04_Quotable.l0, if_neg (by omega), if_pos (by omega), hV k (by omega), List.drop_eq_nil_of_le (by omega)]
    simp
  | succ d ih =>
    intro i k hd hi hk
    obtain ⟨k, rfl⟩ : ∃ j, k = j + 1 := ⟨k - 1, by omega⟩
    have hw : wrap64 ((i : Int) + 1) = ((i + 1 : Nat) : Int) := by rw [wrap_in (by omega) (by omega)]; omega
    have IH := ih (i + 1) k (by omega) (by omega) (by omega)
    rw [carryallref04_Quotable.l0, if_pos (by omega), if_pos (by omega), if_pos (by omega), hw, IH, drop_rd L i (by omega), List.all_cons]
    generalize rd L (i : Int) = r
    unfold goodr
    by_cases h1 : r = 9
    · rw [if_pos h1, decide_eq_true h1]; simp
    · rw [if_neg h1, decide_eq_false h1]
      by_cases h2 : r < 32
      · rw [if_pos h2, decide_eq_true h2]; simp
      · rw [if_neg h2, decide_eq_false h2]
        by_cases h3 : r = 127
        · rw [if_pos h3, decide_eq_true h3]; simp
        · rw [if_neg h3, decide_eq_false h3]
          by_cases h4 : r > 255
          · rw [if_pos h4, decide_eq_true h4]; simp
          · rw [if_neg h4, decide_eq_false h4]; simp
theorem quo_same (s : ByteArray) (hs : s.size ≤ 100000) : ∃ k0, ∀ k, k0 ≤ k → carryallref04_Quotable.f k s = some (Quo.quoB s) := by
  have hb := bytes_all s
  have hlen : (bytesOf s).length = s.size := bytesOf_length s
  obtain ⟨L, hE, hL, hC, hF, hV⟩ := Dec.both _ (bytesOf s) rfl hb (by omega)
  have hE0 := hE [] (by simp; omega)
  rw [List.nil_append] at hE0
  obtain ⟨kv, hv⟩ := Dec.rvalid_f hb (by omega) hL hE0 hV
  rw [toU_bytes] at hv hV
  obtain ⟨k2, h2⟩ := hE0
  refine ⟨k2 + kv + L.length + 10, fun k hk => ?_⟩
  unfold carryallref04_Quotable.f
  have hd : carryallref01_Decode.f k (bytesOf s) = some L := by unfold carryallref01_Decode.f; exact h2 k (by omega)
  have hq := rquo_l0 s L (by omega) (by omega) _ kv hv L.length 0 k (by omega) (by omega) (by omega)
  rw [List.drop_zero] at hq
  rw [if_pos (by omega), hd, Option.bind_some]
  refine hq.trans ?_
  unfold Quo.quoB
  cases e : Lib.validD s.data.toList with
  | false => simp
  | true =>
    have hf := hV.1 e
    rw [good_all s L hC s.size 0 (by rw [List.drop_zero, hf]) (by rw [hf, hlen]; exact Nat.le_refl _)]

/-! blanks -/
theorem bytes_data (s : ByteArray) : bytesOf s = s.data.toList.map fun b => (b.toNat : Int) := rfl
theorem has_bl (b : UInt8) (k : Nat) (hk : 5 ≤ k) : carryallref01_Has.f k BL (b.toNat : Int) = some (bl b) := by
  rw [has_f BL (by decide) _ k hk]
  congr 1
  have H : ∀ n : Fin 256, decide (((UInt8.ofNat n.val).toNat : Int) ∈ bytesOf BL) = bl (UInt8.ofNat n.val) := by decide +kernel
  have := H ⟨b.toNat, b.toNat_lt⟩
  simpa using this
theorem mk_of (s : ByteArray) : mkS s.data.toList = s := ext_data (mk_list _)
theorem bt_mk (l : List UInt8) (i : Nat) (b : UInt8) (h : l[i]? = some b) : bt (mkS l) (i : Int) = (b.toNat : Int) := by
  obtain ⟨hl, hx⟩ := List.getElem?_eq_some_iff.1 h
  have hl2 : i < (bytesOf (mkS l)).length := by rw [bytesOf_length, mk_size]; exact hl
  rw [bt_get _ _ hl2]
  have e : bytesOf (mkS l) = l.map fun b => (b.toNat : Int) := by rw [bytes_data, mk_list]
  simp [e, hx]
theorem mk_nil {l : List UInt8} : ((mkS l).toList = []) ↔ l = [] := by rw [ByteArray.toList_eq, mk_list]
theorem mk_extract (l : List UInt8) (a b : Nat) : (mkS l).extract a b = mkS ((l.drop a).take (b - a)) := by
  refine ext_data ?_
  rw [ByteArray.data_extract, Array.toList_extract, List.extract_eq_take_drop, mk_list, mk_list]
theorem tr_snoc (l : List UInt8) (b : UInt8) : tr (l ++ [b]) = if bl b = true then tr l else l ++ [b] := by
  unfold tr
  rw [List.reverse_append, List.reverse_singleton, List.singleton_append]
  cases h : bl b
  · rw [List.dropWhile_cons_of_neg (by simp [h])]; simp
  · rw [List.dropWhile_cons_of_pos h]; simp
theorem rright_l0 : ∀ (n : Nat) (l : List UInt8) (k : Nat), l.length = n → n ≤ 1000000 → n + 6 ≤ k → carryallref01_Right.l0 k (mkS l) BL = some (mkS (tr l)) := by
  intro n
  induction n with
  | zero =>
    intro l k hl hn hk
    obtain ⟨k, rfl⟩ : ∃ j, k = j + 1 := ⟨k - 1, by omega⟩
    obtain rfl : l = [] := List.length_eq_zero_iff.1 hl
    rw [carryallref01_Right.l0, if_pos (mk_nil.2 rfl)]
    rfl
  | succ n ih =>
    intro l k hl hn hk
    obtain ⟨k, rfl⟩ : ∃ j, k = j + 1 := ⟨k - 1, by omega⟩
    have hne : l ≠ [] := by intro e; rw [e] at hl; simp at hl
    obtain ⟨m, b, rfl⟩ : ∃ m b, l = m ++ [b] := ⟨l.dropLast, l.getLast hne, (List.dropLast_concat_getLast hne).symm⟩
    rw [List.length_append, List.length_singleton] at hl
    have hz : ((mkS (m ++ [b])).size : Int) = (m.length : Int) + 1 := by rw [mk_size, List.length_append, List.length_singleton]; omega
    have hw : wrap64 ((m.length : Int) + 1 - 1) = (m.length : Int) := by rw [wrap_in (by omega) (by omega)]; omega
    rw [carryallref01_Right.l0, if_neg (fun e => by have := mk_nil.1 e; simp at this), hz, hw, if_pos (by omega), if_pos (by omega), bt_mk (m ++ [b]) m.length b (by simp), has_bl b k (by omega), Option.bind_some, tr_snoc]
    cases h : bl b
    · rw [if_neg Bool.false_ne_true, if_neg Bool.false_ne_true]
    · rw [if_pos rfl, if_pos rfl, if_pos (by omega), Int.toNat_natCast, mk_extract]
      have e : ((m ++ [b]).drop 0).take (m.length - 0) = m := by rw [List.drop_zero, Nat.sub_zero, List.take_left]
      rw [e]
      exact ih m k (by omega) (by omega) (by omega)
theorem rright_f (l : List UInt8) (k : Nat) (hl : l.length ≤ 1000000) (hk : l.length + 6 ≤ k) : carryallref01_Right.f k (mkS l) BL = some (mkS (tr l)) := rright_l0 _ l k rfl hl hk
theorem dw_tr : ∀ l : List UInt8, dw (tr l) = tr (dw l) := by
  intro l
  induction l with
  | nil => rfl
  | cons x l ih =>
    have e := tr_front [x] l
    rw [List.singleton_append] at e
    cases hx : bl x
    · have t1 : tr [x] = [x] := by have := tr_snoc [] x; rw [List.nil_append] at this; rw [this, hx]; rfl
      have d1 : dw (x :: l) = x :: l := by unfold dw; rw [List.dropWhile_cons_of_neg (by simp [hx])]
      rw [d1, e]
      split
      · rw [t1]; unfold dw; rw [List.dropWhile_cons_of_neg (by simp [hx])]
      · show dw (x :: tr l) = _
        unfold dw; rw [List.dropWhile_cons_of_neg (by simp [hx])]; rfl
    · have t1 : tr [x] = [] := by have := tr_snoc [] x; rw [List.nil_append] at this; rw [this, hx]; rfl
      have d1 : dw (x :: l) = dw l := by unfold dw; rw [List.dropWhile_cons_of_pos hx]
      rw [d1, ← ih, e]
      split
      · rename_i h; rw [t1, h]
      · show dw (x :: tr l) = _
        unfold dw; rw [List.dropWhile_cons_of_pos hx]
theorem rtrim_l0 : ∀ (l : List UInt8) (k : Nat), l.length ≤ 1000000 → 2 * l.length + 8 ≤ k → carryallref01_Trim.l0 k (mkS l) BL = some (mkS (tr (dw l))) := by
  intro l
  induction l with
  | nil =>
    intro k hl hk
    obtain ⟨k, rfl⟩ : ∃ j, k = j + 1 := ⟨k - 1, by omega⟩
    rw [carryallref01_Trim.l0, if_pos (mk_nil.2 rfl), rright_f [] k (by simp) (by simp at hk ⊢; omega)]
    rfl
  | cons x l ih =>
    intro k hl hk
    rw [List.length_cons] at hl hk
    obtain ⟨k, rfl⟩ : ∃ j, k = j + 1 := ⟨k - 1, by omega⟩
    have hz : ((mkS (x :: l)).size : Int) = (l.length : Int) + 1 := by rw [mk_size, List.length_cons]; omega
    rw [carryallref01_Trim.l0, if_neg (fun e => by have := mk_nil.1 e; simp at this), hz, if_pos (by omega), show (0 : Int) = ((0 : Nat) : Int) from rfl, bt_mk (x :: l) 0 x rfl, has_bl x k (by omega), Option.bind_some]
    cases hx : bl x
    · have d1 : dw (x :: l) = x :: l := by unfold dw; rw [List.dropWhile_cons_of_neg (by simp [hx])]
      rw [if_neg Bool.false_ne_true, rright_f (x :: l) k (by rw [List.length_cons]; omega) (by rw [List.length_cons]; omega), d1]
      rfl
    · have d1 : dw (x :: l) = dw l := by unfold dw; rw [List.dropWhile_cons_of_pos hx]
      rw [if_pos rfl, if_pos (by omega), mk_extract, mk_size, d1]
      have e : ((x :: l).drop 1).take ((x :: l).length - 1) = l := by simp
      rw [e]
      exact ih k (by omega) (by omega)
theorem rtrim_f (l : List UInt8) (k : Nat) (hl : l.length ≤ 1000000) (hk : 2 * l.length + 8 ≤ k) : carryallref01_Trim.f k (mkS l) BL = some (mkS (dw (tr l))) := by
  rw [dw_tr]
  exact rtrim_l0 l k hl hk
theorem right_f {s : ByteArray} (hs : s.size ≤ 9223372036854775807) : token_Right.f s = some (mkS (tr s.data.toList)) := by
  unfold token_Right.f strings_TrimRight.f
  rw [if_pos ⟨hs, by decide, by decide⟩]
  rfl
end Go.Proofs.YtflhnhjbbddgmaaDoor.Tok
