/- What is escaped in a URL and may not stand in a path is refused: a slash, the byte 0, what is no text; no condition but that of the statement itself. -/
import Derived.Test.YtbbdfamfmkcfhaaGreatDoorPx8
import Derived.Test.YtbbdfamfmkcfhaaGreatDoorPsB
import Derived.Test.YtbbdfamfmkcfhaaGreatDoorEsc
namespace Go.Proofs.YtbbdfamfmkcfhaaGreatDoor.PsO
open Go.RowKit Go.Proofs.YtbbdfamfmkcfhaaGreatDoor.P Go.Proofs.YtbbdfamfmkcfhaaGreatDoor.Pl Go.Proofs.YtbbdfamfmkcfhaaGreatDoor.Spl Go.Proofs.YtbbdfamfmkcfhaaGreatDoor.Ps Go.Proofs.YtbbdfamfmkcfhaaGreatDoorW.PrintWords Go.Proofs.YtbbdfamfmkcfhaaGreatDoorW.PrintLast Go.Proofs.YtbbdfamfmkcfhaaGreatDoorW.PrintMore
set_option linter.unusedVariables false
def okSeg (n : Nat) : Bool := match seg1 (n : Int) with
  | [x] => decide (x = (n : Int)) && decide (n ≠ 37)
  | [p, a, b] => decide (p = 37) && decide (0 ≤ Esc.hexv a) && decide (0 ≤ Esc.hexv b) && decide (16 * Esc.hexv a + Esc.hexv b = (n : Int))
  | _ => false
theorem ok_all : ∀ n : Nat, n < 256 → okSeg n = true := by decide +kernel
theorem seg1_dec (n : Nat) (hn : n < 256) (r : List Int) : Esc.dec (seg1 (n : Int) ++ r) = (n : Int) :: Esc.dec r := by
  have h := ok_all n hn
  unfold okSeg at h
  split at h
  · rename_i x hx
    simp only [Bool.and_eq_true, decide_eq_true_eq] at h
    rw [hx, h.1, List.singleton_append, Esc.dec_ne (by omega)]
  · rename_i p a b hx
    simp only [Bool.and_eq_true, decide_eq_true_eq] at h
    obtain ⟨⟨⟨h1, h2⟩, h3⟩, h4⟩ := h
    rw [hx, h1]
    show Esc.dec (37 :: a :: b :: r) = _
    rw [Esc.dec_hex h2 h3, h4]
  · cases h
theorem segP_dec : ∀ (l r : List Int), (∀ x ∈ l, byte x) → Esc.dec (segP l ++ r) = l ++ Esc.dec r
  | [], r, _ => rfl
  | c :: t, r, hb => by
    obtain ⟨c0, c1⟩ := hb c List.mem_cons_self
    obtain ⟨n, rfl⟩ := Int.eq_ofNat_of_zero_le c0
    have e : segP ((n : Int) :: t) = seg1 (n : Int) ++ segP t := by simp [segP]
    rw [e, List.append_assoc, seg1_dec n (by omega), segP_dec t r fun x hx => hb x (List.mem_cons_of_mem _ hx)]
    rfl
theorem segP_end (l : List Int) (hb : ∀ x ∈ l, byte x) : Esc.dec (segP l) = l := by
  have := segP_dec l [] hb
  rw [List.append_nil] at this
  rw [this]
  simp [Esc.dec]
/-! texts, one behind the other -/
theorem valid_app : ∀ (n : Nat) (A t : List Int), A.length ≤ n → Dec.bytes (A ++ t) → Lib.validD (Dec.toU A) = true → Lib.validD (Dec.toU (A ++ t)) = Lib.validD (Dec.toU t)
  | _, [], t, _, _, _ => rfl
  | 0, a :: A, t, h, _, _ => by simp at h
  | n + 1, a :: A, t, hn, hb, hv => by
    have hbA : Dec.bytes (a :: A) := fun x hx => hb x (List.mem_append_left _ hx)
    obtain ⟨r, m, ok, s⟩ := Dec.step_any (a :: A) hbA (by simp)
    have hl := Dec.step_len s
    have h1 := Dec.vd_step hbA s
    cases ok with
    | false => rw [hv] at h1; exact absurd h1.symm (by simp)
    | true =>
      rw [hv, if_pos rfl] at h1
      have s2 : Dec.Step (a :: A ++ t) r m true := by
        cases s with
        | asc b u h0 h2 => exact Dec.Step.asc a (A ++ t) h0 h2
        | full b p u h0 g hm h2 =>
          have e : (a :: (p ++ u)) ++ t = (a :: p) ++ (u ++ t) := by simp [List.append_assoc]
          show Dec.Step ((a :: (p ++ u)) ++ t) _ _ true
          rw [e]
          exact Dec.Step.full a p (u ++ t) h0 g hm h2
      have h3 := Dec.vd_step hb s2
      rw [if_pos rfl, List.drop_append_of_le_length hl.2.1] at h3
      rw [h3]
      exact valid_app n ((a :: A).drop m) t (by rw [List.length_drop]; simp only [List.length_cons] at hn ⊢; omega) (fun x hx => by
        rcases List.mem_append.1 hx with h | h
        · exact hb x (List.mem_append_left _ (List.mem_of_mem_drop h))
        · exact hb x (List.mem_append_right _ h)) h1.symm
theorem bad_255 (t : List Int) (hb : Dec.bytes (255 :: t)) : Lib.validD (Dec.toU (255 :: t)) = false := by
  have := Dec.vd_step hb (Dec.Step.bad 255 t (by decide) (by decide))
  rw [if_neg Bool.false_ne_true] at this
  exact this
theorem bad_ed (t : List Int) (hb : Dec.bytes (237 :: 160 :: t)) : Lib.validD (Dec.toU (237 :: 160 :: t)) = false := by
  have := Dec.vd_step (l := [237] ++ 160 :: t) hb (Dec.Step.cut 237 [] 160 t (by decide) (Dec.Good.one 237) (by decide) (by decide))
  rw [if_neg Bool.false_ne_true] at this
  exact this
theorem rvalid (l : List Int) (hb : Dec.bytes l) (hl : l.length ≤ 100000) : ∃ k0, ∀ k, k0 ≤ k → carryallref01_Valid.f k l = some (Lib.validD (Dec.toU l)) := by
  obtain ⟨L, hR, hLl, _, _, hV⟩ := Dec.both _ l rfl hb hl
  have hR0 := hR [] (by simp; omega)
  rw [List.nil_append] at hR0
  exact Dec.rvalid_f hb hl hLl hR0 hV
/-! the path of a URL of one segment -/
def outS (D : List Int) : ByteArray := (⟨#[]⟩ : ByteArray) ++ ((⟨#[47]⟩ : ByteArray) ++ strOfNums D)
theorem bytes_out (D : List Int) (hb : ∀ x ∈ D, byte x) : bytesOf (outS D) = 47 :: D := by
  unfold outS
  rw [bytes_append, bytes_append, bytes_str D hb]
  rfl
theorem path_f (X : ByteArray) (D : List Int) (hD : Esc.dec (bytesOf X) = D) (hz : X.size ≤ 50000) (k : Nat) (hk : 200000 ≤ k) :
    ∃ e, posix_Path.f k (⟨#[102, 105, 108, 101]⟩ : ByteArray) (⟨#[]⟩ : ByteArray) (⟨#[]⟩ : ByteArray) (⟨#[]⟩ : ByteArray) true (-1) false (⟨#[]⟩ : ByteArray) [X] false false (⟨#[]⟩ : ByteArray) (⟨#[]⟩ : ByteArray) = some e ∧ ((47 : Int) ∈ D ∨ fineB (outS D) = false → e = ((⟨#[]⟩ : ByteArray), 2)) := by
  obtain ⟨k, rfl⟩ : ∃ j, k = j + 3 := ⟨k - 3, by omega⟩
  have eN : (⟨#[]⟩ : ByteArray).toList = ([] : List UInt8) := by rw [ByteArray.toList_eq]
  have eF : (⟨#[102, 105, 108, 101]⟩ : ByteArray).toList = ([102, 105, 108, 101] : List UInt8) := by rw [ByteArray.toList_eq]
  have hdl := Esc.dec_len (bytesOf X)
  rw [bytesOf_length, hD] at hdl
  have hdb : ∀ x ∈ D, byte x := by rw [← hD]; exact Esc.dec_byte _ (bytes_bytes X)
  have hdz : (strOfNums D).size ≤ 50000 := by rw [size_str]; omega
  have hw : wrap64 (0 + 1 : Int) = 1 := by decide +kernel
  have hcont := cont_f (strOfNums D) 47 (by omega)
  rw [bytes_str D hdb] at hcont
  have hz1 : ((⟨#[47]⟩ : ByteArray) ++ strOfNums D).size = 1 + (strOfNums D).size := by rw [ByteArray.size_append]; rfl
  have hz0 : (⟨#[]⟩ : ByteArray).size = 0 := rfl
  have hzo : (outS D).size ≤ 60000 := by
    unfold outS
    rw [ByteArray.size_append, hz1, hz0]
    omega
  unfold posix_Path.f
  rw [if_pos eF, posix_Path.j0, if_neg Bool.false_ne_true, if_pos eN]
  show ∃ e, posix_Path.l0 (k + 2) (⟨#[]⟩ : ByteArray) [X] 1 0 = some e ∧ _
  rw [posix_Path.l0, if_pos (by omega), if_pos (by omega), if_pos (by simp)]
  show ∃ e, ((escape_Decode.f (k + 1) X).bind _) = some e ∧ _
  rw [Esc.dec_f (by omega) (by omega), hD, Option.bind_some, hcont, Option.bind_some]
  by_cases h : (47 : Int) ∈ D
  · rw [if_pos (by rw [decide_eq_true_eq]; exact h)]
    exact ⟨_, rfl, fun _ => rfl⟩
  · rw [if_neg (by rw [decide_eq_true_eq]; exact h), if_pos (by omega), if_pos (by rw [hz1, hz0]; omega), hw]
    show ∃ e, posix_Path.l0 (k + 1) (outS D) [X] 1 1 = some e ∧ _
    rw [posix_Path.l0, if_neg (by omega), fine_f (outS D) (by omega) k (by omega), Option.bind_some]
    cases hf : fineB (outS D) with
    | true => exact ⟨_, if_pos rfl, fun hh => by rcases hh with hh | hh; exact absurd hh h; cases hh⟩
    | false => exact ⟨_, if_neg Bool.false_ne_true, fun _ => rfl⟩
theorem not_fine {D : List Int} (hb : ∀ x ∈ D, byte x) (h : (0 : Int) ∈ D ∨ Lib.validD (Dec.toU (47 :: D)) = false) : fineB (outS D) = false := by
  unfold fineB restB
  rw [bytes_out D hb]
  rcases h with h | h
  · rw [decide_eq_true (List.mem_cons_of_mem _ h)]
    simp
  · rw [h]
    simp
def litS (j : Nat) : ByteArray := rdOf ByteArray.empty ([(⟨#[37, 50, 102]⟩ : ByteArray), (⟨#[37, 50, 70]⟩ : ByteArray), (⟨#[37, 48, 48]⟩ : ByteArray), (⟨#[37, 102, 102]⟩ : ByteArray), (⟨#[37, 101, 100, 37, 97, 48, 37, 56, 48]⟩ : ByteArray)] : List ByteArray) (j : Int)
def litD (j : Nat) : List Int := ([[47], [47], [0], [255], [237, 160, 128]] : List (List Int)).getD j []
theorem lit_dec (j : Nat) (hj : j < 5) (r : List Int) : Esc.dec (bytesOf (litS j) ++ r) = litD j ++ Esc.dec r ∧ (litS j).size ≤ 9 := by
  have : j = 0 ∨ j = 1 ∨ j = 2 ∨ j = 3 ∨ j = 4 := by omega
  rcases this with rfl | rfl | rfl | rfl | rfl
  · exact ⟨Esc.dec_hex (a := 50) (b := 102) (by decide) (by decide) r, by decide⟩
  · exact ⟨Esc.dec_hex (a := 50) (b := 70) (by decide) (by decide) r, by decide⟩
  · exact ⟨Esc.dec_hex (a := 48) (b := 48) (by decide) (by decide) r, by decide⟩
  · exact ⟨Esc.dec_hex (a := 102) (b := 102) (by decide) (by decide) r, by decide⟩
  · refine ⟨?_, by decide⟩
    show Esc.dec (37 :: 101 :: 100 :: 37 :: 97 :: 48 :: 37 :: 56 :: 48 :: r) = _
    rw [Esc.dec_hex (by decide) (by decide), Esc.dec_hex (by decide) (by decide), Esc.dec_hex (by decide) (by decide)]
    rfl
end Go.Proofs.YtbbdfamfmkcfhaaGreatDoor.PsO
namespace Go.Proofs.YtbbdfamfmkcfhaaGreatDoor.Pure
open Go.RowKit Go.Proofs.YtbbdfamfmkcfhaaGreatDoor.P Go.Proofs.YtbbdfamfmkcfhaaGreatDoor.Pl Go.Proofs.YtbbdfamfmkcfhaaGreatDoor.Spl Go.Proofs.YtbbdfamfmkcfhaaGreatDoor.Ps Go.Proofs.YtbbdfamfmkcfhaaGreatDoor.PsO Go.Proofs.YtbbdfamfmkcfhaaGreatDoorW.PrintWords Go.Proofs.YtbbdfamfmkcfhaaGreatDoorW.PrintLast Go.Proofs.YtbbdfamfmkcfhaaGreatDoorW.PrintMore
theorem PosixOdd : carryalllaw15_PosixOdd.Pure := by
  intro a b x2 ha hbz hx
  obtain ⟨n, rfl, hn⟩ := u8_of hx
  have eN : (⟨#[]⟩ : ByteArray).toList = ([] : List UInt8) := by rw [ByteArray.toList_eq]
  have ww : wrap64 ((a.size : Int) + (b.size : Int)) = ((a.size + b.size : Nat) : Int) := by rw [wrap_in (by omega) (by omega)]; omega
  by_cases hl : a.size + b.size ≤ 200
  · obtain ⟨ka, hka⟩ := rvalid (bytesOf a) (bytes_bytes a) (by rw [bytesOf_length]; omega)
    obtain ⟨kb, hkb⟩ := rvalid (bytesOf b) (bytes_bytes b) (by rw [bytesOf_length]; omega)
    refine ⟨ka + kb + 300001, ?_⟩
    unfold carryalllaw15_PosixOdd.f
    have t5 : Int.tmod (n : Int) 5 = ((n % 5 : Nat) : Int) := by rw [Int.tmod_eq_emod_of_nonneg (by omega)]; omega
    obtain ⟨j, hj⟩ : ∃ j, n % 5 = j := ⟨_, rfl⟩
    have hj5 : j < 5 := by omega
    have hsa := segP_len (bytesOf a)
    have hsb := segP_len (bytesOf b)
    rw [bytesOf_length] at hsa hsb
    have za : (segS a).size ≤ 5400 := by unfold segS; rw [size_str]; omega
    have zb : (segS b).size ≤ 5400 := by unfold segS; rw [size_str]; omega
    obtain ⟨_, zl⟩ := lit_dec j hj5 []
    have hX : Esc.dec (bytesOf ((segS a ++ litS j) ++ segS b)) = bytesOf a ++ (litD j ++ bytesOf b) := by
      have e1 : ∀ s : ByteArray, bytesOf (segS s) = segP (bytesOf s) := fun s => by unfold segS; exact bytes_str _ fun x hx => (segP_facts (bytes_bytes s) x hx).1
      rw [bytes_append, bytes_append, e1, e1, List.append_assoc, segP_dec _ _ (bytes_bytes a), (lit_dec j hj5 _).1, segP_end _ (bytes_bytes b)]
    have hDb : ∀ x ∈ bytesOf a ++ (litD j ++ bytesOf b), byte x := by rw [← hX]; exact Esc.dec_byte _ (bytes_bytes _)
    obtain ⟨e, he, hee⟩ := path_f ((segS a ++ litS j) ++ segS b) _ hX (by rw [ByteArray.size_append, ByteArray.size_append]; omega) (ka + kb + 300000) (by omega)
    have hfin : (j > 2 → Lib.validD (Dec.toU (bytesOf a)) = true → Lib.validD (Dec.toU (bytesOf b)) = true → e = ((⟨#[]⟩ : ByteArray), 2)) ∧ (¬ j > 2 → e = ((⟨#[]⟩ : ByteArray), 2)) := by
      refine ⟨fun h2 va vb => hee ?_, fun h2 => hee ?_⟩
      · refine .inr (not_fine hDb (.inr ?_))
        have hb1 : Dec.bytes (47 :: (bytesOf a ++ (litD j ++ bytesOf b))) := fun x hx => by
          rcases List.mem_cons.1 hx with rfl | hx
          · exact ⟨by omega, by omega⟩
          · exact hDb x hx
        have s1 := Dec.vd_step hb1 (Dec.Step.asc 47 (bytesOf a ++ (litD j ++ bytesOf b)) (by omega) (by omega))
        rw [if_pos rfl] at s1
        rw [s1]
        show Lib.validD (Dec.toU (bytesOf a ++ (litD j ++ bytesOf b))) = false
        rw [valid_app _ (bytesOf a) _ (Nat.le_refl _) hDb va]
        have hb2 : Dec.bytes (litD j ++ bytesOf b) := fun x hx => hDb x (List.mem_append_right _ hx)
        have : j = 3 ∨ j = 4 := by omega
        rcases this with rfl | rfl
        · exact bad_255 _ hb2
        · exact bad_ed _ hb2
      · have : j = 0 ∨ j = 1 ∨ j = 2 := by omega
        rcases this with rfl | rfl | rfl
        · exact .inl (List.mem_append_right _ (List.mem_append_left _ (by decide)))
        · exact .inl (List.mem_append_right _ (List.mem_append_left _ (by decide)))
        · exact .inr (not_fine hDb (.inl (List.mem_append_right _ (List.mem_append_left _ (by decide)))))
    rw [awake_at _ (by omega), Option.bind_some, if_pos rfl, ww, decide_eq_false (by omega), carryalllaw15_PosixOdd.j0, if_neg Bool.false_ne_true, t5, hj, Option.bind_some, if_pos (by omega), if_pos (by simp only [List.length_cons, List.length_nil]; omega)]
    show ((posix_Segment.f a).bind fun t408 => if t408.size + (litS j).size ≤ 9223372036854775807 then ((posix_Segment.f b).bind fun t409 => if (t408 ++ litS j).size + t409.size ≤ 9223372036854775807 then _ else none) else none) = _
    rw [seg_f a (by omega), Option.bind_some, if_pos (by omega), seg_f b (by omega), Option.bind_some, if_pos (by rw [ByteArray.size_append]; omega)]
    show ((posix_Path.f (ka + kb + 300000) (⟨#[102, 105, 108, 101]⟩ : ByteArray) (⟨#[]⟩ : ByteArray) (⟨#[]⟩ : ByteArray) (⟨#[]⟩ : ByteArray) true (-1) false (⟨#[]⟩ : ByteArray) [(segS a ++ litS j) ++ segS b] false false (⟨#[]⟩ : ByteArray) (⟨#[]⟩ : ByteArray)).bind _) = _
    rw [he, Option.bind_some]
    by_cases h2 : j > 2
    · rw [if_pos (by omega), if_pos (by omega), hka _ (by omega), Option.bind_some]
      cases va : Lib.validD (Dec.toU (bytesOf a)) with
      | false => rw [if_neg Bool.false_ne_true]
      | true =>
        rw [if_pos rfl, if_pos (by omega), hkb _ (by omega), Option.bind_some]
        cases vb : Lib.validD (Dec.toU (bytesOf b)) with
        | false => rw [if_neg Bool.false_ne_true]
        | true =>
          rw [if_pos rfl, hfin.1 h2 va vb, if_pos eN]
          rfl
    · rw [if_neg (by omega), hfin.2 h2, if_pos eN]
      rfl
  · refine ⟨200, ?_⟩
    unfold carryalllaw15_PosixOdd.f
    rw [awake_at _ (by omega), Option.bind_some, if_pos rfl, ww, decide_eq_true (by omega), carryalllaw15_PosixOdd.j0, if_pos rfl, awake_at _ (by omega)]
    rfl
end Go.Proofs.YtbbdfamfmkcfhaaGreatDoor.Pure
