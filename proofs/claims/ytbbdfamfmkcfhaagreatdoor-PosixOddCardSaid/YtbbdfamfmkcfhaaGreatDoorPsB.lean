/- posix: the components of a path, what is fine, a component's segment: told on lists of bytes. -/
import Derived.Test.YtbbdfamfmkcfhaaGreatDoorPx1
import Derived.Test.YtbbdfamfmkcfhaaGreatDoorPx4
import Derived.Test.YtbbdfamfmkcfhaaGreatDoorEscE
import Derived.Test.YtbbdfamfmkcfhaaGreatDoorSplit
import Derived.Test.YtbbdfamfmkcfhaaGreatDoorDecV
namespace Go.Proofs.YtbbdfamfmkcfhaaGreatDoor.Ps
open Go.RowKit Go.Proofs.YtbbdfamfmkcfhaaGreatDoor.P Go.Proofs.YtbbdfamfmkcfhaaGreatDoor.Pl Go.Proofs.YtbbdfamfmkcfhaaGreatDoor.Spl Go.Proofs.YtbbdfamfmkcfhaaGreatDoor.EsE Go.Proofs.YtbbdfamfmkcfhaaGreatDoorW.PrintWords Go.Proofs.YtbbdfamfmkcfhaaGreatDoorW.PrintLast Go.Proofs.YtbbdfamfmkcfhaaGreatDoorW.PrintMore
set_option linter.unusedVariables false
set_option linter.unusedSimpArgs false
/-! the components -/
def lst (s : ByteArray) : List ByteArray := (splitL 47 (bytesOf s)).map strOfNums
theorem split_f (s : ByteArray) (hs : s.size ≤ 1000000) : strings_Split.f s ⟨#[47]⟩ = some (lst s) := by
  unfold strings_Split.f
  rw [if_pos ⟨by omega, by decide⟩]
  exact congrArg some (mapB (split_bytes 47 s))
theorem lst_len (s : ByteArray) : (lst s).length ≤ s.size + 1 ∧ 0 < (lst s).length := by
  unfold lst
  rw [List.length_map]
  have := splitL_count 47 (bytesOf s)
  rw [bytesOf_length] at this
  exact ⟨this, List.length_pos_iff.2 (splitL_ne _ _)⟩
theorem pre_length (p : List Int) : ∀ L : List (List Int), L ≠ [] → (pre p L).length = L.length
  | [], h => absurd rfl h
  | _ :: _, _ => by simp [pre]
theorem splitL_length (c : Int) : ∀ l : List Int, (splitL c l).length = (l.filter fun x => x == c).length + 1
  | [] => rfl
  | x :: t => by
    have ih := splitL_length c t
    rw [splitL]
    by_cases h : x = c
    · subst h
      rw [if_pos rfl, List.filter_cons]
      simp [ih]
    · rw [if_neg h, pre_length _ _ (splitL_ne _ _), ih, List.filter_cons]
      simp [h]
/-! a row of components -/
def rowsB : List ByteArray → Bool
  | [] => true
  | x :: t => if x.toList = ([46] : List UInt8) then false else if x.toList = ([46, 46] : List UInt8) then false else if x.toList = ([] : List UInt8) then (if t = [] then true else false) else rowsB t
theorem drop_rdOf (L : List ByteArray) (i : Nat) (h : i < L.length) : L.drop i = rdOf ByteArray.empty L (i : Int) :: L.drop (i + 1) := by
  rw [List.drop_eq_getElem_cons h]
  unfold rdOf
  rw [Int.toNat_natCast, List.getD_eq_getElem?_getD, List.getElem?_eq_getElem h]
  rfl
theorem fine_l0 (L : List ByteArray) (hL : L.length ≤ 1000000) : ∀ (d k i : Nat), i + d = L.length → d < k → posix_Fine.l0 k L L (L.length : Int) (i : Int) = some (rowsB (L.drop i)) := by
  intro d
  induction d with
  | zero =>
    intro k i hi hk
    obtain ⟨k, rfl⟩ : ∃ j, k = j + 1 := ⟨k - 1, by omega⟩
    rw [posix_Fine.l0, if_neg (by omega), List.drop_of_length_le (by omega), rowsB]
  | succ d ih =>
    intro k i hi hk
    obtain ⟨k, rfl⟩ : ∃ j, k = j + 1 := ⟨k - 1, by omega⟩
    have w1 : wrap64 ((i : Int) + 1) = ((i + 1 : Nat) : Int) := by rw [wrap_in (by omega) (by omega)]; omega
    have w2 : wrap64 ((L.length : Int) - 1) = ((L.length - 1 : Nat) : Int) := by rw [wrap_in (by omega) (by omega)]; omega
    rw [drop_rdOf L i (by omega), rowsB, posix_Fine.l0, if_pos (by omega), if_pos (by omega), if_pos (by omega), w1, w2]
    have ih1 := ih k (i + 1) (by omega) (by omega)
    by_cases h1 : (rdOf ByteArray.empty L (i : Int)).toList = ([46] : List UInt8)
    · rw [if_pos h1, if_pos h1]
    · rw [if_neg h1, if_neg h1]
      by_cases h2 : (rdOf ByteArray.empty L (i : Int)).toList = ([46, 46] : List UInt8)
      · rw [if_pos h2, if_pos h2]
      · rw [if_neg h2, if_neg h2]
        by_cases h3 : (rdOf ByteArray.empty L (i : Int)).toList = ([] : List UInt8)
        · rw [if_pos h3, if_pos h3]
          by_cases h4 : i + 1 < L.length
          · rw [if_pos (by omega), if_neg (fun e => by have := congrArg List.length e; rw [List.length_drop] at this; simp at this; omega)]
          · rw [if_neg (by omega), if_pos (List.drop_of_length_le (by omega)), ih1, List.drop_of_length_le (by omega), rowsB]
        · rw [if_neg h3, if_neg h3, ih1]
/-! bytes that are there -/
theorem mem_bytes (s : ByteArray) (n : UInt8) : ((n.toNat : Nat) : Int) ∈ bytesOf s ↔ n ∈ s.data.toList := by
  unfold bytesOf
  rw [List.mem_map]
  constructor
  · rintro ⟨b, hb, e⟩
    have : b = n := UInt8.toNat_inj.1 (by omega)
    rw [← this]
    exact hb
  · intro h
    exact ⟨n, h, rfl⟩
theorem index_mem (c : UInt8) : ∀ l : List UInt8, (0 ≤ Lib.index l [c]) ↔ c ∈ l
  | [] => by simp [Lib.index]
  | b :: t => by
    have ih := index_mem c t
    rw [Lib.index]
    by_cases h : c = b
    · subst h
      simp [List.isPrefixOf]
    · have hp : ([c] : List UInt8).isPrefixOf (b :: t) = false := by simp [List.isPrefixOf, h]
      rw [hp, if_neg Bool.false_ne_true]
      by_cases h1 : (Lib.index t [c] == -1) = true
      · rw [if_pos h1]
        have : Lib.index t [c] = -1 := beq_iff_eq.1 h1
        constructor
        · intro hh; omega
        · intro hh
          rcases List.mem_cons.1 hh with e | e
          · exact absurd e h
          · have := ih.2 e; omega
      · rw [if_neg h1]
        constructor
        · intro hh
          refine List.mem_cons_of_mem _ (ih.1 ?_)
          have h2 : Lib.index t [c] ≠ -1 := fun e => h1 (by rw [e]; rfl)
          omega
        · intro hh
          rcases List.mem_cons.1 hh with e | e
          · exact absurd e h
          · have := ih.2 e; omega
theorem cont_f (s : ByteArray) (c : UInt8) (hs : s.size ≤ 1000000) : strings_Contains.f s ⟨#[c]⟩ = some (decide (((c.toNat : Nat) : Int) ∈ bytesOf s)) := by
  unfold strings_Contains.f Lib.contains
  rw [if_pos (by omega)]
  congr 1
  have h1 := index_mem c s.data.toList
  have h2 := mem_bytes s c
  exact decide_eq_decide.2 (h1.trans h2.symm)
/-! what is fine -/
def restB (s : ByteArray) : Bool := Lib.validD (Dec.toU (bytesOf s)) && !decide ((0 : Int) ∈ bytesOf s) && rowsB (lst (s.extract 1 s.size))
def headB (n : Int) (s : ByteArray) : Bool := match bytesOf s with
  | [] => false
  | c :: _ => decide (c = n)
def fineB (s : ByteArray) : Bool := headB 47 s && restB s
theorem head_nil {s : ByteArray} (n : Int) (h : bytesOf s = []) : headB n s = false := by unfold headB; rw [h]
theorem head_cons {s : ByteArray} (n : Int) {c : Int} {t : List Int} (h : bytesOf s = c :: t) : headB n s = decide (c = n) := by unfold headB; rw [h]
theorem bytes_bytes (s : ByteArray) : Dec.bytes (bytesOf s) := by
  intro x hx
  unfold bytesOf at hx
  obtain ⟨b, _, rfl⟩ := List.mem_map.1 hx
  have := b.toNat_lt
  exact ⟨by omega, by omega⟩
theorem uv_f (s : ByteArray) : utf_Valid.f (bytesOf s) = some (Lib.validD (Dec.toU (bytesOf s))) := by
  unfold utf_Valid.f utf8_Valid.f
  have H : ((bytesOf s).all fun x => decide (0 ≤ x) && decide (x ≤ 255)) = true := by
    rw [List.all_eq_true]
    intro x hx
    obtain ⟨h0, h1⟩ := bytes_bytes s x hx
    rw [decide_eq_true h0, decide_eq_true h1]
    rfl
  rw [if_pos H]
  rfl
theorem pre1 (s : ByteArray) (n : UInt8) : strings_HasPrefix.f s ⟨#[n]⟩ = some (headB ((n.toNat : Nat) : Int) s) := by
  unfold strings_HasPrefix.f headB bytesOf Lib.hasPrefix
  congr 1
  cases s.data.toList with
  | nil => rfl
  | cons b t =>
    show List.isPrefixOf [n] (b :: t) = decide (((b.toNat : Nat) : Int) = ((n.toNat : Nat) : Int))
    by_cases h : n = b
    · subst h
      simp [List.isPrefixOf]
    · have : ¬ ((b.toNat : Nat) : Int) = ((n.toNat : Nat) : Int) := fun e => h (UInt8.toNat_inj.1 (by omega))
      rw [decide_eq_false this]
      simp [List.isPrefixOf, h]
theorem fine_f (s : ByteArray) (hs : s.size ≤ 100000) (k : Nat) (hk : s.size + 10 ≤ k) : posix_Fine.f k s = some (fineB s) := by
  obtain ⟨k, rfl⟩ : ∃ j, k = j + 1 := ⟨k - 1, by omega⟩
  have jt : posix_Fine.j0 (k + 1) s true = some false := by rw [posix_Fine.j0, if_pos rfl]
  unfold posix_Fine.f fineB
  rw [pre1, Option.bind_some]
  show (if headB 47 s = true then _ else _) = _
  cases hb : bytesOf s with
  | nil =>
    rw [head_nil 47 hb, if_neg Bool.false_ne_true]
    exact jt
  | cons c t =>
    have hz : s.size = t.length + 1 := by rw [← bytesOf_length, hb]; rfl
    have hz2 : (s.extract 1 s.size).size ≤ s.size := by rw [ByteArray.size_extract]; omega
    have hl := lst_len (s.extract 1 s.size)
    rw [head_cons 47 hb, ← hb]
    by_cases hc : c = 47
    · rw [decide_eq_true hc, if_pos rfl, if_pos (by omega), uv_f, Option.bind_some]
      unfold restB
      cases hv : Lib.validD (Dec.toU (bytesOf s)) with
      | false => exact jt
      | true =>
        have hct := cont_f s 0 (by omega)
        rw [if_pos rfl, hct, Option.bind_some]
        show posix_Fine.j0 (k + 1) s (decide ((0 : Int) ∈ bytesOf s)) = _
        by_cases h0 : (0 : Int) ∈ bytesOf s
        · rw [decide_eq_true h0]
          exact jt
        · rw [decide_eq_false h0, posix_Fine.j0, if_neg Bool.false_ne_true, if_pos (by omega), split_f _ (by omega), Option.bind_some]
          have := fine_l0 (lst (s.extract 1 s.size)) (by omega) (lst (s.extract 1 s.size)).length k 0 (by omega) (by omega)
          rw [List.drop_zero] at this
          exact this
    · rw [decide_eq_false hc, if_neg Bool.false_ne_true]
      exact jt
/-! a component's segment -/
theorem repl_new (c : UInt8) (n : List UInt8) : ∀ l : List UInt8, Lib.replaceK [c] n (Lib.count l [c]) l = l.flatMap fun b => if b = c then n else [b]
  | [] => by rw [Lib.count_one]; rfl
  | b :: l => by
    have ih := repl_new c n l
    by_cases h : b = c
    · subst h
      have hix : Lib.index (b :: l) [b] = ((0 : Nat) : Int) := by rw [Lib.index]; simp [List.isPrefixOf]
      rw [Lib.count_cons_eq, Nat.add_comm 1, Lib.replaceK_hit _ _ _ _ 0 hix, List.flatMap_cons, if_pos rfl, ← ih]
      rfl
    · rw [Lib.count_cons_ne b c l h, List.flatMap_cons, if_neg h, ← ih]
      have hp : ([c] : List UInt8).isPrefixOf (b :: l) = false := by simp [List.isPrefixOf, Ne.symm h]
      have hix : Lib.index (b :: l) [c] = if Lib.index l [c] == -1 then -1 else Lib.index l [c] + 1 := by rw [Lib.index, hp]; simp
      cases hk : Lib.count l [c] with
      | zero => rfl
      | succ k =>
        obtain ⟨j, hj⟩ := Lib.index_of_count (s := l) (old := [c]) (by omega)
        have hix' : Lib.index (b :: l) [c] = ((j + 1 : Nat) : Int) := by rw [hix, if_neg (fun e => by have := beq_iff_eq.1 e; omega), hj]; omega
        rw [Lib.replaceK_hit _ _ _ _ j hj, Lib.replaceK_hit _ _ _ _ (j + 1) hix']
        rfl
def pc (c : Int) : List Int := if c = 37 then [37, 50, 53] else [c]
theorem repl_bytes (s : ByteArray) : bytesOf (⟨(Lib.replaceAll s.data.toList [37] [37, 50, 53]).toArray⟩ : ByteArray) = (bytesOf s).flatMap pc := by
  rw [bytes_mk]
  unfold Lib.replaceAll Lib.replace Lib.replaceNum
  rw [if_neg (by decide), if_pos (.inl (by decide)), repl_new]
  show toI _ = (toI s.data.toList).flatMap pc
  generalize s.data.toList = l
  induction l with
  | nil => rfl
  | cons b t ih =>
    rw [List.flatMap_cons]
    unfold toI at ih ⊢
    rw [List.map_append, ih, List.map_cons, List.flatMap_cons]
    congr 1
    unfold pc
    by_cases h : b = 37
    · subst h; rfl
    · rw [if_neg h, if_neg]
      · rfl
      · intro e
        exact h (UInt8.toNat_inj.1 (by have : (37 : UInt8).toNat = 37 := rfl; omega))
def seg1 (c : Int) : List Int := Rpl.rep (escs 4 (pc c))
def segP (l : List Int) : List Int := l.flatMap seg1
theorem segP_eq : ∀ l : List Int, Rpl.rep (escs 4 (l.flatMap pc)) = segP l
  | [] => rfl
  | c :: t => by
    rw [List.flatMap_cons, escs_append, Rpl.rep_app, segP_eq t]
    rfl
theorem pc_len : ∀ l : List Int, (l.flatMap pc).length ≤ 3 * l.length
  | [] => Nat.le_refl _
  | c :: t => by
    have := pc_len t
    have h1 : (pc c).length ≤ 3 := by unfold pc; split <;> simp
    rw [List.flatMap_cons, List.length_append, List.length_cons]
    omega
theorem pc_byte {l : List Int} (h : ∀ x ∈ l, byte x) : ∀ x ∈ l.flatMap pc, byte x := by
  intro x hx
  obtain ⟨c, hc, hx⟩ := List.mem_flatMap.1 hx
  unfold pc at hx
  split at hx
  · simp at hx
    rcases hx with rfl | rfl | rfl <;> exact ⟨by omega, by omega⟩
  · rw [List.mem_singleton.1 hx]
    exact h c hc
def segS (s : ByteArray) : ByteArray := strOfNums (segP (bytesOf s))
theorem seg_f (s : ByteArray) (hs : s.size ≤ 100000) : posix_Segment.f s = some (segS s) := by
  unfold posix_Segment.f strings_ReplaceAll.f
  have hb := pc_byte (bytes_bytes s)
  have hl := pc_len (bytesOf s)
  rw [bytesOf_length] at hl
  have hel := escs_len 4 ((bytesOf s).flatMap pc)
  rw [if_pos ⟨by omega, by decide, by decide⟩, Option.bind_some]
  have hR := repl_bytes s
  obtain ⟨ra, hra⟩ : ∃ ra : ByteArray, (⟨(Lib.replaceAll s.data.toList [37] [37, 50, 53]).toArray⟩ : ByteArray) = ra := ⟨_, rfl⟩
  rw [hra] at hR
  have hrz : ra.size = ((bytesOf s).flatMap pc).length := by rw [← bytesOf_length, hR]
  show (if (⟨(Lib.replaceAll s.data.toList [37] [37, 50, 53]).toArray⟩ : ByteArray).size ≤ _ then _ else none) = _
  rw [hra, if_pos (by omega), hR, enc_f hb (by omega), Option.bind_some, if_pos (by rw [size_str]; omega), bytes_str _ (escs_byte 4 hb), segP_eq]
  rfl
theorem seg1_facts : ∀ n : Nat, n < 256 → (∀ x ∈ seg1 (n : Int), 0 ≤ x ∧ x ≤ 255 ∧ x ≠ 92 ∧ x ≠ 124 ∧ x ≠ 63 ∧ x ≠ 35 ∧ (x = 47 → n = 47)) ∧ ((∀ x ∈ seg1 (n : Int), x = 46) → seg1 (n : Int) = [(n : Int)]) := by decide +kernel
theorem segP_facts {l : List Int} (hb : ∀ x ∈ l, byte x) : ∀ x ∈ segP l, byte x ∧ x ≠ 92 ∧ x ≠ 124 ∧ x ≠ 63 ∧ x ≠ 35 ∧ (x = 47 → (47 : Int) ∈ l) := by
  intro x hx
  obtain ⟨c, hc, hx⟩ := List.mem_flatMap.1 hx
  obtain ⟨c0, c1⟩ := hb c hc
  obtain ⟨n, rfl⟩ := Int.eq_ofNat_of_zero_le c0
  obtain ⟨x0, x1, x2, x3, x4, x5, x6⟩ := (seg1_facts n (by omega)).1 x hx
  exact ⟨⟨x0, x1⟩, x2, x3, x4, x5, fun e => by have := x6 e; subst this; exact hc⟩
theorem awake_at : ∀ (k : Nat), 80 ≤ k → carryalllaw15_awake.f k = some true := by
  intro k hk
  induction k with
  | zero => omega
  | succ k ih =>
    rcases Nat.lt_or_ge k 80 with h | h
    · obtain rfl : k = 79 := by omega
      decide +kernel
    · exact carryalllaw15_awake.mono k _ (ih h)
theorem segP_len (l : List Int) : (segP l).length ≤ 27 * l.length := by
  have h1 := pc_len l
  have h2 := escs_len 4 (l.flatMap pc)
  have h3 := (Rpl.rep_len (escs 4 (l.flatMap pc))).2
  rw [segP_eq] at h3
  omega
end Go.Proofs.YtbbdfamfmkcfhaaGreatDoor.Ps
