/- posix: the components of a path, what is fine, a segment; posix.Url; the reference's. -/
import Derived.Test.YtbbdfamfmkcfhaaGreatDoorPx1
import Derived.Test.YtbbdfamfmkcfhaaGreatDoorPx10
import Derived.Test.YtbbdfamfmkcfhaaGreatDoorPx2
import Derived.Test.YtbbdfamfmkcfhaaGreatDoorPx4
import Derived.Test.YtbbdfamfmkcfhaaGreatDoorPx7
import Derived.Test.YtbbdfamfmkcfhaaGreatDoorPx8
import Derived.Test.YtbbdfamfmkcfhaaGreatDoorPx9
import Derived.Test.YtbbdfamfmkcfhaaGreatDoorEscE
import Derived.Test.YtbbdfamfmkcfhaaGreatDoorSplit
import Derived.Test.YtbbdfamfmkcfhaaGreatDoorDecV
namespace Go.Proofs.YtbbdfamfmkcfhaaGreatDoor.Ps
open Go.RowKit Go.Proofs.YtbbdfamfmkcfhaaGreatDoor.P Go.Proofs.YtbbdfamfmkcfhaaGreatDoor.Pl Go.Proofs.YtbbdfamfmkcfhaaGreatDoor.Spl Go.Proofs.YtbbdfamfmkcfhaaGreatDoor.EsE Go.Proofs.YtbbdfamfmkcfhaaGreatDoorW.PrintWords Go.Proofs.YtbbdfamfmkcfhaaGreatDoorW.PrintLast Go.Proofs.YtbbdfamfmkcfhaaGreatDoorW.PrintMore
set_option linter.unusedVariables false
set_option linter.unusedSimpArgs false
/-! the components -/
def lst (s : ByteArray) : List ByteArray := (splitL 47 (bytesOf s)).map strOfNums
theorem split_f (s : ByteArray) (hs : s.size ≤ 1000000) : strings_Split.f s ⟨#[47]⟩ = some (lst s) := by
  unfold strings_Split.f
  rw [if_pos ⟨by omega, by decide⟩]
  exact congrArg some (mapB (split_bytes 47 s))
theorem piece_step (s : ByteArray) (f i : Nat) (hf : f ≤ i) (hi : i < s.size) : bytesOf (s.extract f (i + 1)) = bytesOf (s.extract f i) ++ [bt s (i : Int)] := by
  rw [bytes_extract, bytes_extract]
  have h1 : i + 1 - f = (i - f) + 1 := by omega
  have hl : i - f < ((bytesOf s).drop f).length := by rw [List.length_drop, bytesOf_length]; omega
  rw [h1, List.take_succ_eq_append_getElem hl]
  congr 1
  rw [List.getElem_drop]
  have : f + (i - f) = i := by omega
  simp only [this]
  rw [bt_get s i (by rw [bytesOf_length]; exact hi)]
theorem parts_l0 (s : ByteArray) (hs : s.size ≤ 1000000) : ∀ (d i f : Nat) (out : List ByteArray) (k : Nat), s.size - i = d → f ≤ i → i ≤ s.size → d + 2 ≤ k → out.length ≤ i →
    carryallref07_Parts.l0 k s 47 out (f : Int) ((s.size + 1 : Nat) : Int) (i : Int) = some (out ++ (pre (bytesOf (s.extract f i)) (splitL 47 ((bytesOf s).drop i))).map strOfNums) := by
  intro d
  induction d with
  | zero =>
    intro i f out k hd hf hi hk ho
    obtain ⟨k, rfl⟩ : ∃ j, k = j + 2 := ⟨k - 2, by omega⟩
    obtain rfl : i = s.size := by omega
    have hw : wrap64 ((s.size : Int) + 1) = ((s.size + 1 : Nat) : Int) := by rw [wrap_in (by omega) (by omega)]; omega
    rw [carryallref07_Parts.l0, if_pos (by omega), if_pos rfl, if_pos (by omega), if_pos (by omega), if_pos (by omega), if_pos (by omega), hw, carryallref07_Parts.l0, if_neg (by omega), drop_end s _ (Nat.le_refl _), Int.toNat_natCast, Int.toNat_natCast, splitL, pre, List.append_nil, List.map_singleton, str_bytes]
  | succ d ih =>
    intro i f out k hd hf hi hk ho
    obtain ⟨k, rfl⟩ : ∃ j, k = j + 1 := ⟨k - 1, by omega⟩
    have hw : wrap64 ((i : Int) + 1) = ((i + 1 : Nat) : Int) := by rw [wrap_in (by omega) (by omega)]; omega
    rw [carryallref07_Parts.l0, if_pos (by omega), if_neg (by omega), if_pos (by omega), if_pos (by omega), drop_bt s i (by omega), splitL, hw]
    by_cases hc : bt s (i : Int) = 47
    · rw [if_pos hc, if_pos hc, if_pos (by omega), if_pos (by omega), if_pos (by omega), if_pos (by omega), Int.toNat_natCast, Int.toNat_natCast]
      rw [ih (i + 1) (i + 1) _ k (by omega) (by omega) (by omega) (by omega) (by rw [List.length_append, List.length_singleton]; omega)]
      have e0 : bytesOf (s.extract (i + 1) (i + 1)) = [] := by rw [bytes_extract, Nat.sub_self, List.take_zero]
      rw [e0, pre_nil (splitL_ne _ _), pre, List.append_nil, List.map_cons, str_bytes, List.append_assoc, List.singleton_append]
    · rw [if_neg hc, if_neg hc, ih (i + 1) f out k (by omega) (by omega) (by omega) (by omega) (by omega), piece_step s f i hf (by omega), pre_pre]
theorem Parts_f (s : ByteArray) (hs : s.size ≤ 1000000) (k : Nat) (hk : s.size + 3 ≤ k) : carryallref07_Parts.f k s 47 = some (lst s) := by
  unfold carryallref07_Parts.f
  have hw : wrap64 ((s.size : Int) + 1) = ((s.size + 1 : Nat) : Int) := by rw [wrap_in (by omega) (by omega)]; omega
  rw [hw]
  have h := parts_l0 s hs s.size 0 0 [] k (by omega) (by omega) (by omega) (by omega) (by simp)
  refine h.trans ?_
  have e0 : bytesOf (s.extract 0 0) = [] := by rw [bytes_extract, Nat.sub_self, List.take_zero]
  rw [e0, pre_nil (splitL_ne _ _), List.drop_zero, List.nil_append]
  rfl
theorem lst_len (s : ByteArray) : (lst s).length ≤ s.size + 1 ∧ 0 < (lst s).length := by
  unfold lst
  rw [List.length_map]
  have := splitL_count 47 (bytesOf s)
  rw [bytesOf_length] at this
  exact ⟨this, List.length_pos_iff.2 (splitL_ne _ _)⟩
theorem pre_length (p : List Int) : ∀ L : List (List Int), L ≠ [] → (pre p L).length = L.length
  | [], h => absurd rfl h
  | _ :: _, _ => by simp [pre]
theorem splitL_length (c : Int) : ∀ l : List Int, (splitL c l).length = (l.filter fun x => x == c).length + 1
  | [] => rfl
  | x :: t => by
    have ih := splitL_length c t
    rw [splitL]
    by_cases h : x = c
    · subst h
      rw [if_pos rfl, List.filter_cons]
      simp [ih]
    · rw [if_neg h, pre_length _ _ (splitL_ne _ _), ih, List.filter_cons]
      simp [h]
/-! a row of components -/
def rowsB : List ByteArray → Bool
  | [] => true
  | x :: t => if x.toList = ([46] : List UInt8) then false else if x.toList = ([46, 46] : List UInt8) then false else if x.toList = ([] : List UInt8) then (if t = [] then true else false) else rowsB t
theorem drop_rdOf (L : List ByteArray) (i : Nat) (h : i < L.length) : L.drop i = rdOf ByteArray.empty L (i : Int) :: L.drop (i + 1) := by
  rw [List.drop_eq_getElem_cons h]
  unfold rdOf
  rw [Int.toNat_natCast, List.getD_eq_getElem?_getD, List.getElem?_eq_getElem h]
  rfl
theorem fine_l0 (L : List ByteArray) (hL : L.length ≤ 1000000) : ∀ (d k i : Nat), i + d = L.length → d < k → posix_Fine.l0 k L L (L.length : Int) (i : Int) = some (rowsB (L.drop i)) := by
  intro d
  induction d with
  | zero =>
    intro k i hi hk
    obtain ⟨k, rfl⟩ : ∃ j, k = j + 1 := ⟨k - 1, by omega⟩
    rw [posix_Fine.l0, if_neg (by omega), List.drop_of_length_le (by omega), rowsB]
  | succ d ih =>
    intro k i hi hk
    obtain ⟨k, rfl⟩ : ∃ j, k = j + 1 := ⟨k - 1, by omega⟩
    have w1 : wrap64 ((i : Int) + 1) = ((i + 1 : Nat) : Int) := by rw [wrap_in (by omega) (by omega)]; omega
    have w2 : wrap64 ((L.length : Int) - 1) = ((L.length - 1 : Nat) : Int) := by rw [wrap_in (by omega) (by omega)]; omega
    rw [drop_rdOf L i (by omega), rowsB, posix_Fine.l0, if_pos (by omega), if_pos (by omega), if_pos (by omega), w1, w2]
    have ih1 := ih k (i + 1) (by omega) (by omega)
    by_cases h1 : (rdOf ByteArray.empty L (i : Int)).toList = ([46] : List UInt8)
    · rw [if_pos h1, if_pos h1]
    · rw [if_neg h1, if_neg h1]
      by_cases h2 : (rdOf ByteArray.empty L (i : Int)).toList = ([46, 46] : List UInt8)
      · rw [if_pos h2, if_pos h2]
      · rw [if_neg h2, if_neg h2]
        by_cases h3 : (rdOf ByteArray.empty L (i : Int)).toList = ([] : List UInt8)
        · rw [if_pos h3, if_pos h3]
          by_cases h4 : i + 1 < L.length
          · rw [if_pos (by omega), if_neg (fun e => by have := congrArg List.length e; rw [List.length_drop] at this; simp at this; omega)]
          · rw [if_neg (by omega), if_pos (List.drop_of_length_le (by omega)), ih1, List.drop_of_length_le (by omega), rowsB]
        · rw [if_neg h3, if_neg h3, ih1]
theorem rrows_l0 (L : List ByteArray) (hL : L.length ≤ 1000000) (h0 : 0 < L.length) : ∀ (d k i : Nat), i + d = L.length → d < k → carryallref15_rows.l0 k L (L.length : Int) (i : Int) = some (rowsB (L.drop i)) := by
  intro d
  induction d with
  | zero =>
    intro k i hi hk
    obtain ⟨k, rfl⟩ : ∃ j, k = j + 1 := ⟨k - 1, by omega⟩
    rw [carryallref15_rows.l0, if_neg (by omega), List.drop_of_length_le (by omega), rowsB, decide_eq_true (by omega)]
  | succ d ih =>
    intro k i hi hk
    obtain ⟨k, rfl⟩ : ∃ j, k = j + 1 := ⟨k - 1, by omega⟩
    have w1 : wrap64 ((i : Int) + 1) = ((i + 1 : Nat) : Int) := by rw [wrap_in (by omega) (by omega)]; omega
    have w2 : wrap64 ((L.length : Int) - 1) = ((L.length - 1 : Nat) : Int) := by rw [wrap_in (by omega) (by omega)]; omega
    rw [drop_rdOf L i (by omega), rowsB, carryallref15_rows.l0, if_pos (by omega), if_pos (by omega), if_pos (by omega), w1, w2]
    have ih1 := ih k (i + 1) (by omega) (by omega)
    by_cases h1 : (rdOf ByteArray.empty L (i : Int)).toList = ([46] : List UInt8)
    · rw [if_pos h1, if_pos h1]
    · rw [if_neg h1, if_neg h1]
      by_cases h2 : (rdOf ByteArray.empty L (i : Int)).toList = ([46, 46] : List UInt8)
      · rw [if_pos h2, if_pos h2]
      · rw [if_neg h2, if_neg h2]
        by_cases h3 : (rdOf ByteArray.empty L (i : Int)).toList = ([] : List UInt8)
        · rw [if_pos h3, if_pos h3]
          by_cases h4 : i + 1 < L.length
          · rw [if_pos (by omega), if_neg (fun e => by have := congrArg List.length e; rw [List.length_drop] at this; simp at this; omega)]
          · rw [if_neg (by omega), if_pos (List.drop_of_length_le (by omega)), ih1, List.drop_of_length_le (by omega), rowsB]
        · rw [if_neg h3, if_neg h3, ih1]
/-! bytes that are there -/
theorem has_l0 (s : ByteArray) (c : Int) (hs : s.size ≤ 1000000) : ∀ (d k i : Nat), i + d = s.size → d < k → carryallref01_Has.l0 k s c (s.size : Int) (i : Int) = some (decide (c ∈ (bytesOf s).drop i)) := by
  intro d
  induction d with
  | zero =>
    intro k i hi hk
    obtain ⟨k, rfl⟩ : ∃ j, k = j + 1 := ⟨k - 1, by omega⟩
    rw [carryallref01_Has.l0, if_neg (by omega), drop_end s i (by omega)]
    simp
  | succ d ih =>
    intro k i hi hk
    obtain ⟨k, rfl⟩ : ∃ j, k = j + 1 := ⟨k - 1, by omega⟩
    have w1 : wrap64 ((i : Int) + 1) = ((i + 1 : Nat) : Int) := by rw [wrap_in (by omega) (by omega)]; omega
    rw [drop_bt s i (by omega), carryallref01_Has.l0, if_pos (by omega), if_pos (by omega), if_pos (by omega), w1]
    by_cases h : bt s (i : Int) = c
    · rw [if_pos h, decide_eq_true (by rw [h]; exact List.mem_cons_self)]
    · rw [if_neg h, ih k (i + 1) (by omega) (by omega)]
      congr 1
      by_cases h2 : c ∈ (bytesOf s).drop (i + 1)
      · rw [decide_eq_true h2, decide_eq_true (List.mem_cons_of_mem _ h2)]
      · rw [decide_eq_false h2, decide_eq_false (fun hh => by
          rcases List.mem_cons.1 hh with e | e
          · exact h e.symm
          · exact h2 e)]
theorem has_f (s : ByteArray) (c : Int) (hs : s.size ≤ 1000000) (k : Nat) (hk : s.size < k) : carryallref01_Has.f k s c = some (decide (c ∈ bytesOf s)) := by
  have := has_l0 s c hs s.size k 0 (by omega) hk
  rw [List.drop_zero] at this
  exact this
theorem mem_bytes (s : ByteArray) (n : UInt8) : ((n.toNat : Nat) : Int) ∈ bytesOf s ↔ n ∈ s.data.toList := by
  unfold bytesOf
  rw [List.mem_map]
  constructor
  · rintro ⟨b, hb, e⟩
    have : b = n := UInt8.toNat_inj.1 (by omega)
    rw [← this]
    exact hb
  · intro h
    exact ⟨n, h, rfl⟩
theorem index_mem (c : UInt8) : ∀ l : List UInt8, (0 ≤ Lib.index l [c]) ↔ c ∈ l
  | [] => by simp [Lib.index]
  | b :: t => by
    have ih := index_mem c t
    rw [Lib.index]
    by_cases h : c = b
    · subst h
      simp [List.isPrefixOf]
    · have hp : ([c] : List UInt8).isPrefixOf (b :: t) = false := by simp [List.isPrefixOf, h]
      rw [hp, if_neg Bool.false_ne_true]
      by_cases h1 : (Lib.index t [c] == -1) = true
      · rw [if_pos h1]
        have : Lib.index t [c] = -1 := beq_iff_eq.1 h1
        constructor
        · intro hh; omega
        · intro hh
          rcases List.mem_cons.1 hh with e | e
          · exact absurd e h
          · have := ih.2 e; omega
      · rw [if_neg h1]
        constructor
        · intro hh
          refine List.mem_cons_of_mem _ (ih.1 ?_)
          have h2 : Lib.index t [c] ≠ -1 := fun e => h1 (by rw [e]; rfl)
          omega
        · intro hh
          rcases List.mem_cons.1 hh with e | e
          · exact absurd e h
          · have := ih.2 e; omega
theorem cont_f (s : ByteArray) (c : UInt8) (hs : s.size ≤ 1000000) : strings_Contains.f s ⟨#[c]⟩ = some (decide (((c.toNat : Nat) : Int) ∈ bytesOf s)) := by
  unfold strings_Contains.f Lib.contains
  rw [if_pos (by omega)]
  congr 1
  have h1 := index_mem c s.data.toList
  have h2 := mem_bytes s c
  exact decide_eq_decide.2 (h1.trans h2.symm)
/-! what is fine -/
def restB (s : ByteArray) : Bool := Lib.validD (Dec.toU (bytesOf s)) && !decide ((0 : Int) ∈ bytesOf s) && rowsB (lst (s.extract 1 s.size))
def headB (n : Int) (s : ByteArray) : Bool := match bytesOf s with
  | [] => false
  | c :: _ => decide (c = n)
def fineB (s : ByteArray) : Bool := headB 47 s && restB s
theorem head_nil {s : ByteArray} (n : Int) (h : bytesOf s = []) : headB n s = false := by unfold headB; rw [h]
theorem head_cons {s : ByteArray} (n : Int) {c : Int} {t : List Int} (h : bytesOf s = c :: t) : headB n s = decide (c = n) := by unfold headB; rw [h]
theorem bytes_bytes (s : ByteArray) : Dec.bytes (bytesOf s) := by
  intro x hx
  unfold bytesOf at hx
  obtain ⟨b, _, rfl⟩ := List.mem_map.1 hx
  have := b.toNat_lt
  exact ⟨by omega, by omega⟩
theorem uv_f (s : ByteArray) : utf_Valid.f (bytesOf s) = some (Lib.validD (Dec.toU (bytesOf s))) := by
  unfold utf_Valid.f utf8_Valid.f
  have H : ((bytesOf s).all fun x => decide (0 ≤ x) && decide (x ≤ 255)) = true := by
    rw [List.all_eq_true]
    intro x hx
    obtain ⟨h0, h1⟩ := bytes_bytes s x hx
    rw [decide_eq_true h0, decide_eq_true h1]
    rfl
  rw [if_pos H]
  rfl
theorem pre1 (s : ByteArray) (n : UInt8) : strings_HasPrefix.f s ⟨#[n]⟩ = some (headB ((n.toNat : Nat) : Int) s) := by
  unfold strings_HasPrefix.f headB bytesOf Lib.hasPrefix
  congr 1
  cases s.data.toList with
  | nil => rfl
  | cons b t =>
    show List.isPrefixOf [n] (b :: t) = decide (((b.toNat : Nat) : Int) = ((n.toNat : Nat) : Int))
    by_cases h : n = b
    · subst h
      simp [List.isPrefixOf]
    · have : ¬ ((b.toNat : Nat) : Int) = ((n.toNat : Nat) : Int) := fun e => h (UInt8.toNat_inj.1 (by omega))
      rw [decide_eq_false this]
      simp [List.isPrefixOf, h]
theorem fine_f (s : ByteArray) (hs : s.size ≤ 100000) (k : Nat) (hk : s.size + 10 ≤ k) : posix_Fine.f k s = some (fineB s) := by
  obtain ⟨k, rfl⟩ : ∃ j, k = j + 1 := ⟨k - 1, by omega⟩
  have jt : posix_Fine.j0 (k + 1) s true = some false := by rw [posix_Fine.j0, if_pos rfl]
  unfold posix_Fine.f fineB
  rw [pre1, Option.bind_some]
  show (if headB 47 s = true then _ else _) = _
  cases hb : bytesOf s with
  | nil =>
    rw [head_nil 47 hb, if_neg Bool.false_ne_true]
    exact jt
  | cons c t =>
    have hz : s.size = t.length + 1 := by rw [← bytesOf_length, hb]; rfl
    have hz2 : (s.extract 1 s.size).size ≤ s.size := by rw [ByteArray.size_extract]; omega
    have hl := lst_len (s.extract 1 s.size)
    rw [head_cons 47 hb, ← hb]
    by_cases hc : c = 47
    · rw [decide_eq_true hc, if_pos rfl, if_pos (by omega), uv_f, Option.bind_some]
      unfold restB
      cases hv : Lib.validD (Dec.toU (bytesOf s)) with
      | false => exact jt
      | true =>
        have hct := cont_f s 0 (by omega)
        rw [if_pos rfl, hct, Option.bind_some]
        show posix_Fine.j0 (k + 1) s (decide ((0 : Int) ∈ bytesOf s)) = _
        by_cases h0 : (0 : Int) ∈ bytesOf s
        · rw [decide_eq_true h0]
          exact jt
        · rw [decide_eq_false h0, posix_Fine.j0, if_neg Bool.false_ne_true, if_pos (by omega), split_f _ (by omega), Option.bind_some]
          have := fine_l0 (lst (s.extract 1 s.size)) (by omega) (lst (s.extract 1 s.size)).length k 0 (by omega) (by omega)
          rw [List.drop_zero] at this
          exact this
    · rw [decide_eq_false hc, if_neg Bool.false_ne_true]
      exact jt
theorem rfine_f (s : ByteArray) (hs : s.size ≤ 100000) : ∃ k0, ∀ k, k0 ≤ k → carryallref15_Fine.f k s = some (fineB s) := by
  obtain ⟨L, hR, hLl, _, _, hV⟩ := Dec.both _ (bytesOf s) rfl (bytes_bytes s) (by rw [bytesOf_length]; omega)
  have hR0 := hR [] (by rw [bytesOf_length]; simp; omega)
  rw [List.nil_append] at hR0
  obtain ⟨k0, hk0⟩ := Dec.rvalid_f (bytes_bytes s) (by rw [bytesOf_length]; omega) hLl hR0 hV
  refine ⟨k0 + s.size + 20, fun k hk => ?_⟩
  obtain ⟨k, rfl⟩ : ∃ j, k = j + 1 := ⟨k - 1, by omega⟩
  have jt : carryallref15_Fine.j0 (k + 1) s true = some false := by rw [carryallref15_Fine.j0, if_pos rfl]
  unfold carryallref15_Fine.f fineB
  cases hb : bytesOf s with
  | nil =>
    have hz : s.size = 0 := by rw [← bytesOf_length, hb]; rfl
    have he : s.toList = ([] : List UInt8) := by rw [ByteArray.toList_eq]; exact List.eq_nil_of_length_eq_zero (by rw [← Lib.size_eq]; exact hz)
    rw [if_pos he, head_nil 47 hb]
    exact jt
  | cons c t =>
    have hz : s.size = t.length + 1 := by rw [← bytesOf_length, hb]; rfl
    have hz2 : (s.extract 1 s.size).size ≤ s.size := by rw [ByteArray.size_extract]; omega
    have hl := lst_len (s.extract 1 s.size)
    have he : ¬ s.toList = ([] : List UInt8) := by
      rw [ByteArray.toList_eq]
      intro h
      have h2 : s.size = 0 := by rw [Lib.size_eq, h]; rfl
      omega
    have h0 : bt s 0 = c := by
      have := drop_bt s 0 (by omega)
      rw [List.drop_zero, hb] at this
      exact (List.cons.inj this).1.symm
    rw [if_neg he, if_pos (by omega), h0, head_cons 47 hb, ← hb]
    by_cases hc : c = 47
    · unfold restB
      rw [if_pos hc, decide_eq_true hc, has_f s 0 (by omega) (k + 1) (by omega), Option.bind_some]
      by_cases hn : (0 : Int) ∈ bytesOf s
      · rw [decide_eq_true hn, if_pos rfl, jt]
        simp
      · rw [decide_eq_false hn, if_neg Bool.false_ne_true, if_pos (by omega), hk0 (k + 1) (by omega), Option.bind_some]
        cases hv : Lib.validD (Dec.toU (bytesOf s)) with
        | false => exact jt
        | true =>
          have hrows : carryallref15_rows.f k (lst (s.extract 1 s.size)) = some (rowsB (lst (s.extract 1 s.size))) := by
            unfold carryallref15_rows.f
            have := rrows_l0 (lst (s.extract 1 s.size)) (by omega) hl.2 (lst (s.extract 1 s.size)).length k 0 (by omega) (by omega)
            rw [List.drop_zero] at this
            exact this
          show carryallref15_Fine.j0 (k + 1) s false = _
          rw [carryallref15_Fine.j0, if_neg Bool.false_ne_true, if_pos (by omega), Parts_f _ (by omega) k (by omega), Option.bind_some, hrows, Option.bind_some]
          rfl
    · rw [if_neg hc, decide_eq_false hc]
      exact jt
/-! a component's segment -/
theorem repl_new (c : UInt8) (n : List UInt8) : ∀ l : List UInt8, Lib.replaceK [c] n (Lib.count l [c]) l = l.flatMap fun b => if b = c then n else [b]
  | [] => by rw [Lib.count_one]; rfl
  | b :: l => by
    have ih := repl_new c n l
    by_cases h : b = c
    · subst h
      have hix : Lib.index (b :: l) [b] = ((0 : Nat) : Int) := by rw [Lib.index]; simp [List.isPrefixOf]
      rw [Lib.count_cons_eq, Nat.add_comm 1, Lib.replaceK_hit _ _ _ _ 0 hix, List.flatMap_cons, if_pos rfl, ← ih]
      rfl
    · rw [Lib.count_cons_ne b c l h, List.flatMap_cons, if_neg h, ← ih]
      have hp : ([c] : List UInt8).isPrefixOf (b :: l) = false := by simp [List.isPrefixOf, Ne.symm h]
      have hix : Lib.index (b :: l) [c] = if Lib.index l [c] == -1 then -1 else Lib.index l [c] + 1 := by rw [Lib.index, hp]; simp
      cases hk : Lib.count l [c] with
      | zero => rfl
      | succ k =>
        obtain ⟨j, hj⟩ := Lib.index_of_count (s := l) (old := [c]) (by omega)
        have hix' : Lib.index (b :: l) [c] = ((j + 1 : Nat) : Int) := by rw [hix, if_neg (fun e => by have := beq_iff_eq.1 e; omega), hj]; omega
        rw [Lib.replaceK_hit _ _ _ _ j hj, Lib.replaceK_hit _ _ _ _ (j + 1) hix']
        rfl
def pc (c : Int) : List Int := if c = 37 then [37, 50, 53] else [c]
theorem repl_bytes (s : ByteArray) : bytesOf (⟨(Lib.replaceAll s.data.toList [37] [37, 50, 53]).toArray⟩ : ByteArray) = (bytesOf s).flatMap pc := by
  rw [bytes_mk]
  unfold Lib.replaceAll Lib.replace Lib.replaceNum
  rw [if_neg (by decide), if_pos (.inl (by decide)), repl_new]
  show toI _ = (toI s.data.toList).flatMap pc
  generalize s.data.toList = l
  induction l with
  | nil => rfl
  | cons b t ih =>
    rw [List.flatMap_cons]
    unfold toI at ih ⊢
    rw [List.map_append, ih, List.map_cons, List.flatMap_cons]
    congr 1
    unfold pc
    by_cases h : b = 37
    · subst h; rfl
    · rw [if_neg h, if_neg]
      · rfl
      · intro e
        exact h (UInt8.toNat_inj.1 (by have : (37 : UInt8).toNat = 37 := rfl; omega))
def seg1 (c : Int) : List Int := Rpl.rep (escs 4 (pc c))
def segP (l : List Int) : List Int := l.flatMap seg1
theorem segP_eq : ∀ l : List Int, Rpl.rep (escs 4 (l.flatMap pc)) = segP l
  | [] => rfl
  | c :: t => by
    rw [List.flatMap_cons, escs_append, Rpl.rep_app, segP_eq t]
    rfl
theorem pc_len : ∀ l : List Int, (l.flatMap pc).length ≤ 3 * l.length
  | [] => Nat.le_refl _
  | c :: t => by
    have := pc_len t
    have h1 : (pc c).length ≤ 3 := by unfold pc; split <;> simp
    rw [List.flatMap_cons, List.length_append, List.length_cons]
    omega
theorem pc_byte {l : List Int} (h : ∀ x ∈ l, byte x) : ∀ x ∈ l.flatMap pc, byte x := by
  intro x hx
  obtain ⟨c, hc, hx⟩ := List.mem_flatMap.1 hx
  unfold pc at hx
  split at hx
  · simp at hx
    rcases hx with rfl | rfl | rfl <;> exact ⟨by omega, by omega⟩
  · rw [List.mem_singleton.1 hx]
    exact h c hc
def segS (s : ByteArray) : ByteArray := strOfNums (segP (bytesOf s))
theorem seg_f (s : ByteArray) (hs : s.size ≤ 100000) : posix_Segment.f s = some (segS s) := by
  unfold posix_Segment.f strings_ReplaceAll.f
  have hb := pc_byte (bytes_bytes s)
  have hl := pc_len (bytesOf s)
  rw [bytesOf_length] at hl
  have hel := escs_len 4 ((bytesOf s).flatMap pc)
  rw [if_pos ⟨by omega, by decide, by decide⟩, Option.bind_some]
  have hR := repl_bytes s
  obtain ⟨ra, hra⟩ : ∃ ra : ByteArray, (⟨(Lib.replaceAll s.data.toList [37] [37, 50, 53]).toArray⟩ : ByteArray) = ra := ⟨_, rfl⟩
  rw [hra] at hR
  have hrz : ra.size = ((bytesOf s).flatMap pc).length := by rw [← bytesOf_length, hR]
  show (if (⟨(Lib.replaceAll s.data.toList [37] [37, 50, 53]).toArray⟩ : ByteArray).size ≤ _ then _ else none) = _
  rw [hra, if_pos (by omega), hR, enc_f hb (by omega), Option.bind_some, if_pos (by rw [size_str]; omega), bytes_str _ (escs_byte 4 hb), segP_eq]
  rfl
theorem seg1_facts : ∀ n : Nat, n < 256 → (∀ x ∈ seg1 (n : Int), 0 ≤ x ∧ x ≤ 255 ∧ x ≠ 92 ∧ x ≠ 124 ∧ x ≠ 63 ∧ x ≠ 35 ∧ (x = 47 → n = 47)) ∧ ((∀ x ∈ seg1 (n : Int), x = 46) → seg1 (n : Int) = [(n : Int)]) := by decide +kernel
theorem segP_facts {l : List Int} (hb : ∀ x ∈ l, byte x) : ∀ x ∈ segP l, byte x ∧ x ≠ 92 ∧ x ≠ 124 ∧ x ≠ 63 ∧ x ≠ 35 ∧ (x = 47 → (47 : Int) ∈ l) := by
  intro x hx
  obtain ⟨c, hc, hx⟩ := List.mem_flatMap.1 hx
  obtain ⟨c0, c1⟩ := hb c hc
  obtain ⟨n, rfl⟩ := Int.eq_ofNat_of_zero_le c0
  obtain ⟨x0, x1, x2, x3, x4, x5, x6⟩ := (seg1_facts n (by omega)).1 x hx
  exact ⟨⟨x0, x1⟩, x2, x3, x4, x5, fun e => by have := x6 e; subst this; exact hc⟩
theorem segP_dots : ∀ {l : List Int}, (∀ x ∈ l, byte x) → (∀ x ∈ segP l, x = 46) → segP l = l
  | [], _, _ => rfl
  | c :: t, hb, h => by
    obtain ⟨c0, c1⟩ := hb c List.mem_cons_self
    obtain ⟨n, rfl⟩ := Int.eq_ofNat_of_zero_le c0
    have e : segP ((n : Int) :: t) = seg1 (n : Int) ++ segP t := by simp [segP]
    rw [e] at h ⊢
    have h1 := (seg1_facts n (by omega)).2 fun x hx => h x (List.mem_append_left _ hx)
    have h2 := segP_dots (fun x hx => hb x (List.mem_cons_of_mem _ hx)) fun x hx => h x (List.mem_append_right _ hx)
    rw [h1, h2]
    rfl
end Go.Proofs.YtbbdfamfmkcfhaaGreatDoor.Ps
namespace Go.Proofs.YtbbdfamfmkcfhaaGreatDoor.Ps
open Go.RowKit Go.Proofs.YtbbdfamfmkcfhaaGreatDoor.P Go.Proofs.YtbbdfamfmkcfhaaGreatDoor.Pl Go.Proofs.YtbbdfamfmkcfhaaGreatDoor.Spl Go.Proofs.YtbbdfamfmkcfhaaGreatDoor.EsE Go.Proofs.YtbbdfamfmkcfhaaGreatDoorW.PrintWords Go.Proofs.YtbbdfamfmkcfhaaGreatDoorW.PrintLast Go.Proofs.YtbbdfamfmkcfhaaGreatDoorW.PrintMore
set_option linter.unusedVariables false
theorem awake_at : ∀ (k : Nat), 80 ≤ k → carryalllaw15_awake.f k = some true := by
  intro k hk
  induction k with
  | zero => omega
  | succ k ih =>
    rcases Nat.lt_or_ge k 80 with h | h
    · obtain rfl : k = 79 := by omega
      decide +kernel
    · exact carryalllaw15_awake.mono k _ (ih h)
theorem rd_mem (L : List ByteArray) (i : Nat) (h : i < L.length) : rdOf ByteArray.empty L (i : Int) ∈ L := by
  unfold rdOf
  rw [Int.toNat_natCast, List.getD_eq_getElem?_getD, List.getElem?_eq_getElem h]
  exact List.getElem_mem h
theorem url_l0 (L : List ByteArray) (hL : L.length ≤ 1000000) (hs : ∀ x ∈ L, x.size ≤ 100000) (a b c d : ByteArray) (e : Bool) (f : Int) (g : Bool) (h : ByteArray) (m n : Bool) (o p : ByteArray) : ∀ (q k i : Nat) (acc : List ByteArray), i + q = L.length → q < k → acc.length ≤ i →
    posix_Url.l0 k L (L.length : Int) (i : Int) a b c d e f g h acc m n o p = some (a, b, c, d, e, f, g, h, acc ++ (L.drop i).map segS, m, n, o, p, 0) := by
  intro q
  induction q with
  | zero =>
    intro k i acc hi hk ha
    obtain ⟨k, rfl⟩ : ∃ j, k = j + 1 := ⟨k - 1, by omega⟩
    rw [posix_Url.l0, if_neg (by omega), List.drop_of_length_le (by omega), List.map_nil, List.append_nil]
  | succ q ih =>
    intro k i acc hi hk ha
    obtain ⟨k, rfl⟩ : ∃ j, k = j + 1 := ⟨k - 1, by omega⟩
    have w1 : wrap64 ((i : Int) + 1) = ((i + 1 : Nat) : Int) := by rw [wrap_in (by omega) (by omega)]; omega
    rw [posix_Url.l0, if_pos (by omega), if_pos (by omega), if_pos (by omega), seg_f _ (hs _ (rd_mem L i (by omega))), Option.bind_some, if_pos (by omega), w1, ih k (i + 1) _ (by omega) (by omega) (by rw [List.length_append, List.length_singleton]; omega), drop_rdOf L i (by omega), List.map_cons, List.append_assoc]
    rfl
theorem lst_size (s : ByteArray) : ∀ x ∈ lst s, x.size ≤ s.size := by
  intro x hx
  unfold lst at hx
  obtain ⟨q, hq, rfl⟩ := List.mem_map.1 hx
  have := splitL_len 47 (bytesOf s) q hq
  rw [bytesOf_length] at this
  rw [size_str]
  exact this
def emp : ByteArray := ⟨#[]⟩
theorem url_f (s : ByteArray) (hs : s.size ≤ 50000) (k : Nat) (hk : s.size + 20 ≤ k) (hf : fineB s = true) : posix_Url.f k s = some ((⟨#[102, 105, 108, 101]⟩ : ByteArray), (⟨#[]⟩ : ByteArray), (⟨#[]⟩ : ByteArray), (⟨#[]⟩ : ByteArray), true, -1, false, (⟨#[]⟩ : ByteArray), (lst (s.extract 1 s.size)).map segS, false, false, (⟨#[]⟩ : ByteArray), (⟨#[]⟩ : ByteArray), 0) := by
  have hz2 : (s.extract 1 s.size).size ≤ s.size := by rw [ByteArray.size_extract]; omega
  have hl := lst_len (s.extract 1 s.size)
  have h1 : 1 ≤ s.size := by
    rcases Nat.eq_zero_or_pos s.size with h | h
    · exfalso
      unfold fineB at hf
      rw [head_nil 47 (List.eq_nil_of_length_eq_zero (by rw [bytesOf_length]; exact h))] at hf
      cases hf
    · exact h
  unfold posix_Url.f
  rw [fine_f s (by omega) k (by omega), hf, Option.bind_some, if_pos rfl, if_pos (by omega), split_f _ (by omega), Option.bind_some]
  have := url_l0 (lst (s.extract 1 s.size)) (by omega) (fun x hx => by have := lst_size _ x hx; omega) (⟨#[102, 105, 108, 101]⟩ : ByteArray) (⟨#[]⟩ : ByteArray) (⟨#[]⟩ : ByteArray) (⟨#[]⟩ : ByteArray) true (-1) false (⟨#[]⟩ : ByteArray) false false (⟨#[]⟩ : ByteArray) (⟨#[]⟩ : ByteArray) (lst (s.extract 1 s.size)).length k 0 [] (by omega) (by omega) (by simp)
  rw [List.drop_zero, List.nil_append] at this
  exact this
theorem toList_bytes (x : ByteArray) (l : List UInt8) : x.toList = l ↔ bytesOf x = l.map fun b => (b.toNat : Int) := by
  rw [ByteArray.toList_eq]
  unfold bytesOf
  constructor
  · intro h; rw [h]
  · intro h
    generalize x.data.toList = y at h
    induction y generalizing l with
    | nil => cases l with | nil => rfl | cons _ _ => cases h
    | cons a t ih =>
      cases l with
      | nil => cases h
      | cons b r =>
        injection h with h1 h2
        have h3 : (a.toNat : Int) = (b.toNat : Int) := h1
        rw [UInt8.toNat_inj.1 (by omega : a.toNat = b.toNat), ih r h2]
theorem rows_dots : ∀ {L : List ByteArray}, rowsB L = true → ∀ x ∈ L, x.toList ≠ ([46] : List UInt8) ∧ x.toList ≠ ([46, 46] : List UInt8)
  | [], _, x, hx => by cases hx
  | y :: t, h, x, hx => by
    rw [rowsB] at h
    split at h
    · cases h
    · rename_i h1
      split at h
      · cases h
      · rename_i h2
        split at h
        · rename_i h3
          split at h
          · rename_i h4
            subst h4
            rw [List.mem_singleton.1 hx]
            exact ⟨h1, h2⟩
          · cases h
        · rcases List.mem_cons.1 hx with rfl | hx
          · exact ⟨h1, h2⟩
          · exact rows_dots h x hx
/-- What a fine path's segment is not. -/
structure Good (x : ByteArray) : Prop where
  small : x.size ≤ 500000
  h47 : (47 : Int) ∉ bytesOf x
  h92 : (92 : Int) ∉ bytesOf x
  h124 : (124 : Int) ∉ bytesOf x
  h63 : (63 : Int) ∉ bytesOf x
  h35 : (35 : Int) ∉ bytesOf x
  d1 : ¬ x.toList = ([46] : List UInt8)
  d2 : ¬ x.toList = ([46, 46] : List UInt8)
theorem segP_len (l : List Int) : (segP l).length ≤ 27 * l.length := by
  have h1 := pc_len l
  have h2 := escs_len 4 (l.flatMap pc)
  have h3 := (Rpl.rep_len (escs 4 (l.flatMap pc))).2
  rw [segP_eq] at h3
  omega
theorem good_of (r : ByteArray) (hr : r.size ≤ 10000) (hrows : rowsB (lst r) = true) : ∀ x ∈ (lst r).map segS, Good x := by
  intro x hx
  obtain ⟨p, hp, rfl⟩ := List.mem_map.1 hx
  have hd := rows_dots hrows p hp
  have hps := lst_size r p hp
  unfold lst at hp
  obtain ⟨q, hq, rfl⟩ := List.mem_map.1 hp
  have hqb : ∀ x ∈ q, byte x := splitL_all byte 47 (bytesOf r) (bytes_bytes r) q hq
  have hqn : (47 : Int) ∉ q := fun h => splitL_no 47 (bytesOf r) q hq 47 h rfl
  have hsf := segP_facts hqb
  have hbp : bytesOf (strOfNums q) = q := bytes_str q hqb
  have hbx : bytesOf (segS (strOfNums q)) = segP q := by unfold segS; rw [hbp, bytes_str _ fun x hx => (hsf x hx).1]
  have hdot : ∀ l : List UInt8, (∀ b ∈ l, b = 46) → (segS (strOfNums q)).toList = l → (strOfNums q).toList = l := by
    intro l hl h
    rw [toList_bytes, hbx] at h
    rw [toList_bytes, hbp, ← h]
    refine (segP_dots hqb fun x hx => ?_).symm
    rw [h] at hx
    obtain ⟨b, hb, rfl⟩ := List.mem_map.1 hx
    rw [hl b hb]
    rfl
  refine ⟨?_, ?_, ?_, ?_, ?_, ?_, ?_, ?_⟩
  · unfold segS
    rw [size_str, hbp]
    have := segP_len q
    rw [size_str] at hps
    omega
  · rw [hbx]; exact fun h => hqn ((hsf _ h).2.2.2.2.2 rfl)
  · rw [hbx]; exact fun h => (hsf _ h).2.1 rfl
  · rw [hbx]; exact fun h => (hsf _ h).2.2.1 rfl
  · rw [hbx]; exact fun h => (hsf _ h).2.2.2.1 rfl
  · rw [hbx]; exact fun h => (hsf _ h).2.2.2.2.1 rfl
  · exact fun h => hd.1 (hdot [46] (by simp) h)
  · exact fun h => hd.2 (hdot [46, 46] (by simp) h)
end Go.Proofs.YtbbdfamfmkcfhaaGreatDoor.Ps
namespace Go.Proofs.YtbbdfamfmkcfhaaGreatDoor.Ps
open Go.RowKit Go.Proofs.YtbbdfamfmkcfhaaGreatDoor.P Go.Proofs.YtbbdfamfmkcfhaaGreatDoor.Pl Go.Proofs.YtbbdfamfmkcfhaaGreatDoor.Spl Go.Proofs.YtbbdfamfmkcfhaaGreatDoor.EsE Go.Proofs.YtbbdfamfmkcfhaaGreatDoorW.PrintWords Go.Proofs.YtbbdfamfmkcfhaaGreatDoorW.PrintLast Go.Proofs.YtbbdfamfmkcfhaaGreatDoorW.PrintMore
set_option linter.unusedVariables false
theorem in_6 : ∀ n : Nat, n < 256 → carryallref02_In.f 6 4 (n : Int) = some (inB 4 (n : Int)) := by decide +kernel
theorem rin_f (n : Nat) (hn : n < 256) : ∀ k, 6 ≤ k → carryallref02_In.f k 4 (n : Int) = some (inB 4 (n : Int)) := by
  intro k hk
  induction k with
  | zero => omega
  | succ k ih =>
    rcases Nat.lt_or_ge k 6 with h | h
    · obtain rfl : k = 5 := by omega
      exact in_6 n hn
    · exact carryallref02_In.mono 4 (n : Int) k _ (ih h)
def oneL (n : Nat) : List Int := [37, escape_Encode.hxd ((n / 16 : Nat) : Int), escape_Encode.hxd ((n % 16 : Nat) : Int)]
theorem one_all : ∀ n : Nat, n < 256 → (carryallref02_One.f (n : Int)).map bytesOf = some (oneL n) := by decide +kernel
theorem one_f (n : Nat) (hn : n < 256) : carryallref02_One.f (n : Int) = some (strOfNums (oneL n)) := by
  have h := one_all n hn
  obtain ⟨r, hr, he⟩ := Option.map_eq_some_iff.1 h
  rw [hr, ← he, str_bytes]
theorem ref_seg : ∀ n : Nat, n < 256 → (if inB 4 (n : Int) = true then oneL n else if n = 37 then oneL n else if n = 92 then oneL n else if n = 124 then oneL n else [(n : Int)]) = seg1 (n : Int) := by decide +kernel
theorem seg1_len (n : Nat) (hn : n < 256) : (seg1 (n : Int)).length ≤ 3 := by
  rw [← ref_seg n hn]
  unfold oneL
  repeat' split
  all_goals simp
theorem ext_one (s : ByteArray) (i : Nat) (h : i < s.size) : s.extract i (i + 1) = strOfNums [bt s (i : Int)] := by
  apply bytes_inj
  rw [bytes_extract, drop_bt s i h, bytes_str _ (fun x hx => by rw [List.mem_singleton.1 hx]; exact bt_byte s _), show i + 1 - i = 1 by omega]
  rfl
theorem rseg_l0 (s : ByteArray) (hs : s.size ≤ 100000) : ∀ (d k i : Nat) (A : List Int), i + d = s.size → d + 10 ≤ k → A.length ≤ 3 * i →
    carryallref15_Segment.l0 k s (strOfNums A) (s.size : Int) (i : Int) = some (strOfNums (A ++ segP ((bytesOf s).drop i))) := by
  intro d
  induction d with
  | zero =>
    intro k i A hi hk hA
    obtain ⟨k, rfl⟩ : ∃ j, k = j + 1 := ⟨k - 1, by omega⟩
    rw [carryallref15_Segment.l0, if_neg (by omega), drop_end s i (by omega)]
    simp [segP]
  | succ d ih =>
    intro k i A hi hk hA
    obtain ⟨k, rfl⟩ : ∃ j, k = j + 1 := ⟨k - 1, by omega⟩
    have w1 : wrap64 ((i : Int) + 1) = ((i + 1 : Nat) : Int) := by rw [wrap_in (by omega) (by omega)]; omega
    obtain ⟨b0, b1⟩ := bt_byte s (i : Int)
    obtain ⟨n, hn⟩ : ∃ n : Nat, bt s (i : Int) = n := ⟨(bt s (i : Int)).toNat, by omega⟩
    have hn2 : n < 256 := by omega
    have hr := ref_seg n hn2
    have hl := seg1_len n hn2
    have hol : (oneL n).length = 3 := rfl
    have e : segP ((n : Int) :: (bytesOf s).drop (i + 1)) = seg1 (n : Int) ++ segP ((bytesOf s).drop (i + 1)) := by simp [segP]
    have key := ih k (i + 1) (A ++ seg1 (n : Int)) (by omega) (by omega) (by rw [List.length_append]; omega)
    rw [List.append_assoc] at key
    rw [drop_bt s i (by omega), hn, e, carryallref15_Segment.l0, if_pos (by omega), if_pos (by omega), if_pos (by omega), hn, rin_f n hn2 k (by omega), Option.bind_some, w1, one_f n hn2]
    by_cases h1 : inB 4 (n : Int) = true
    · rw [if_pos h1] at hr
      rw [if_pos h1, Option.bind_some, if_pos (by rw [size_str, size_str]; omega), ← str_append, hr]
      exact key
    · rw [if_neg h1] at hr
      rw [if_neg h1]
      by_cases h2 : n = 37
      · rw [if_pos h2] at hr
        rw [if_pos (by omega), Option.bind_some, if_pos (by rw [size_str, size_str]; omega), ← str_append, hr]
        exact key
      · rw [if_neg h2] at hr
        rw [if_neg (by omega)]
        by_cases h3 : n = 92
        · rw [if_pos h3] at hr
          rw [if_pos (by omega), Option.bind_some, if_pos (by rw [size_str, size_str]; omega), ← str_append, hr]
          exact key
        · rw [if_neg h3] at hr
          rw [if_neg (by omega)]
          by_cases h4 : n = 124
          · rw [if_pos h4] at hr
            rw [if_pos (by omega), Option.bind_some, if_pos (by rw [size_str, size_str]; omega), ← str_append, hr]
            exact key
          · rw [if_neg h4] at hr
            have hx := ext_one s i (by omega)
            rw [hn] at hx
            rw [if_neg (by omega), if_pos (by omega), if_pos (by omega), Int.toNat_natCast, Int.toNat_natCast, hx, if_pos (by rw [size_str, size_str]; simp; omega), ← str_append, hr]
            exact key
theorem rseg_f (s : ByteArray) (hs : s.size ≤ 100000) (k : Nat) (hk : s.size + 10 ≤ k) : carryallref15_Segment.f k s = some (segS s) := by
  unfold carryallref15_Segment.f
  have := rseg_l0 s hs s.size k 0 [] (by omega) hk (by simp)
  rw [List.drop_zero, List.nil_append] at this
  exact this
theorem rsegs_l0 (L : List ByteArray) (hL : L.length ≤ 1000000) (hs : ∀ x ∈ L, x.size ≤ 1000) : ∀ (d k i : Nat) (acc : List ByteArray), i + d = L.length → 2000 + d ≤ k → acc.length ≤ i →
    carryallref15_segments.l0 k L acc (L.length : Int) (i : Int) = some (acc ++ (L.drop i).map segS) := by
  intro d
  induction d with
  | zero =>
    intro k i acc hi hk ha
    obtain ⟨k, rfl⟩ : ∃ j, k = j + 1 := ⟨k - 1, by omega⟩
    rw [carryallref15_segments.l0, if_neg (by omega), List.drop_of_length_le (by omega), List.map_nil, List.append_nil]
  | succ d ih =>
    intro k i acc hi hk ha
    obtain ⟨k, rfl⟩ : ∃ j, k = j + 1 := ⟨k - 1, by omega⟩
    have w1 : wrap64 ((i : Int) + 1) = ((i + 1 : Nat) : Int) := by rw [wrap_in (by omega) (by omega)]; omega
    have hx := hs _ (rd_mem L i (by omega))
    rw [carryallref15_segments.l0, if_pos (by omega), if_pos (by omega), if_pos (by omega), rseg_f _ (by omega) k (by omega), Option.bind_some, if_pos (by omega), w1, ih k (i + 1) _ (by omega) (by omega) (by rw [List.length_append, List.length_singleton]; omega), drop_rdOf L i (by omega), List.map_cons, List.append_assoc]
    rfl
theorem url_no (s : ByteArray) (hs : s.size ≤ 50000) (k : Nat) (hk : s.size + 20 ≤ k) (hf : fineB s = false) : posix_Url.f k s = some ((⟨#[]⟩ : ByteArray), (⟨#[]⟩ : ByteArray), (⟨#[]⟩ : ByteArray), (⟨#[]⟩ : ByteArray), false, 0, false, (⟨#[]⟩ : ByteArray), [], false, false, (⟨#[]⟩ : ByteArray), (⟨#[]⟩ : ByteArray), 2) := by
  unfold posix_Url.f
  rw [fine_f s (by omega) k (by omega), hf, Option.bind_some, if_neg Bool.false_ne_true]
theorem rurl_f (s : ByteArray) (hs : s.size ≤ 500) (k : Nat) (hk : 5000 ≤ k) (hr : carryallref15_Fine.f k s = some (fineB s)) : carryallref15_Url.f k s = some (if fineB s = true then ((⟨#[102, 105, 108, 101]⟩ : ByteArray), (⟨#[]⟩ : ByteArray), (⟨#[]⟩ : ByteArray), (⟨#[]⟩ : ByteArray), true, -1, false, (⟨#[]⟩ : ByteArray), (lst (s.extract 1 s.size)).map segS, false, false, (⟨#[]⟩ : ByteArray), (⟨#[]⟩ : ByteArray), true) else ((⟨#[]⟩ : ByteArray), (⟨#[]⟩ : ByteArray), (⟨#[]⟩ : ByteArray), (⟨#[]⟩ : ByteArray), false, 0, false, (⟨#[]⟩ : ByteArray), [], false, false, (⟨#[]⟩ : ByteArray), (⟨#[]⟩ : ByteArray), false)) := by
  have hz2 : (s.extract 1 s.size).size ≤ s.size := by rw [ByteArray.size_extract]; omega
  have hl := lst_len (s.extract 1 s.size)
  unfold carryallref15_Url.f
  rw [hr, Option.bind_some]
  cases hf : fineB s with
  | false => rw [if_neg Bool.false_ne_true, if_neg Bool.false_ne_true]
  | true =>
    have h1 : 1 ≤ s.size := by
      rcases Nat.eq_zero_or_pos s.size with h | h
      · exfalso
        unfold fineB at hf
        rw [head_nil 47 (List.eq_nil_of_length_eq_zero (by rw [bytesOf_length]; exact h))] at hf
        cases hf
      · exact h
    have hseg : carryallref15_segments.f k (lst (s.extract 1 s.size)) = some ((lst (s.extract 1 s.size)).map segS) := by
      unfold carryallref15_segments.f
      have := rsegs_l0 (lst (s.extract 1 s.size)) (by omega) (fun x hx => by have := lst_size _ x hx; omega) (lst (s.extract 1 s.size)).length k 0 [] (by omega) (by omega) (by simp)
      rw [List.drop_zero, List.nil_append] at this
      exact this
    rw [if_pos rfl, if_pos (by omega), Parts_f _ (by omega) k (by omega), Option.bind_some, hseg, Option.bind_some, if_pos rfl]
theorem same10 (L : List ByteArray) (hL : L.length ≤ 1000000) : ∀ (d k i : Nat), i + d = L.length → d < k → carryallref10_Same.l0 k L L (L.length : Int) (i : Int) = some true := by
  intro d
  induction d with
  | zero =>
    intro k i hi hk
    obtain ⟨k, rfl⟩ : ∃ j, k = j + 1 := ⟨k - 1, by omega⟩
    rw [carryallref10_Same.l0, if_neg (by omega)]
  | succ d ih =>
    intro k i hi hk
    obtain ⟨k, rfl⟩ : ∃ j, k = j + 1 := ⟨k - 1, by omega⟩
    have w1 : wrap64 ((i : Int) + 1) = ((i + 1 : Nat) : Int) := by rw [wrap_in (by omega) (by omega)]; omega
    rw [carryallref10_Same.l0, if_pos (by omega), if_pos (by omega), if_pos (by omega), if_pos (by omega), if_pos rfl, w1]
    exact ih k (i + 1) (by omega) (by omega)
theorem same_f (a b c d : ByteArray) (e : Bool) (f : Int) (h : ByteArray) (L : List ByteArray) (hL : L.length ≤ 1000000) (o p : ByteArray) (k : Nat) (hk : L.length + 10 ≤ k) : carryallref11_Same.f k a b c d e f false h L false false o p a b c d e f false h L false false o p = some true := by
  obtain ⟨k, rfl⟩ : ∃ j, k = j + 2 := ⟨k - 2, by omega⟩
  have h10 : carryallref10_Same.f k L L = some true := by
    unfold carryallref10_Same.f
    rw [if_pos rfl]
    exact same10 L hL L.length k 0 (by omega) (by omega)
  have hj1 : ∀ k', k' = k + 1 → carryallref11_Same.j1 k' false a b c d e f false h L false false o p a b c d e f false h L false false o p = some true := by
    rintro _ rfl
    rw [carryallref11_Same.j1, if_neg Bool.false_ne_true, if_neg Bool.false_ne_true, h10]
    rfl
  unfold carryallref11_Same.f
  rw [if_pos rfl, if_pos rfl, if_pos rfl, if_neg (by simp), if_pos rfl, if_neg (by simp), if_neg (by simp), show (false != false) = false by rfl, carryallref11_Same.j0, if_neg Bool.false_ne_true]
  cases e with
  | true =>
    rw [if_pos rfl, if_pos rfl, if_neg Bool.false_ne_true, if_neg Bool.false_ne_true]
    exact hj1 _ rfl
  | false =>
    rw [if_neg Bool.false_ne_true, if_neg Bool.false_ne_true, if_neg Bool.false_ne_true]
    exact hj1 _ rfl
end Go.Proofs.YtbbdfamfmkcfhaaGreatDoor.Ps
