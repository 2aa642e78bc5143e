/- Nobody is a host, but of a scheme that isn't special; what begins with a byte that may not stand in one is none. -/
import Derived.Test.YtnlnkahgdmgooaaDoorPx6
import Derived.Test.YtnlnkahgdmgooaaDoorPx1
import Derived.Test.YtnlnkahgdmgooaaDoorPx4
import Derived.Test.YtnlnkahgdmgooaaDoorPx5
import Derived.Test.YtnlnkahgdmgooaaDoorEsc
namespace Go.Proofs.YtnlnkahgdmgooaaDoor.HoE
open Go.RowKit Go.Proofs.YtnlnkahgdmgooaaDoor.P Go.Proofs.YtnlnkahgdmgooaaDoor.Pl Go.Proofs.YtnlnkahgdmgooaaDoor.Esc Go.Proofs.YtnlnkahgdmgooaaDoorW.PrintWords Go.Proofs.YtnlnkahgdmgooaaDoorW.PrintLast Go.Proofs.YtnlnkahgdmgooaaDoorW.PrintMore
theorem awake_at : ∀ (k : Nat), 80 ≤ k → carryalllaw09_awake.f k = some true := by
  intro k hk
  induction k with
  | zero => omega
  | succ k ih =>
    rcases Nat.lt_or_ge k 80 with h | h
    · obtain rfl : k = 79 := by omega
      decide +kernel
    · exact carryalllaw09_awake.mono k _ (ih h)
theorem none_sp : ∀ (k : Nat), 20 ≤ k → host_Parse.f k (⟨#[]⟩ : ByteArray) true = some ((⟨#[]⟩ : ByteArray), false) := by
  intro k hk
  induction k with
  | zero => omega
  | succ k ih =>
    rcases Nat.lt_or_ge k 20 with h | h
    · obtain rfl : k = 19 := by omega
      decide +kernel
    · exact host_Parse.mono _ _ k _ (ih h)
theorem none_pl : ∀ (k : Nat), 20 ≤ k → host_Parse.f k (⟨#[]⟩ : ByteArray) false = some ((⟨#[]⟩ : ByteArray), true) := by
  intro k hk
  induction k with
  | zero => omega
  | succ k ih =>
    rcases Nat.lt_or_ge k 20 with h | h
    · obtain rfl : k = 19 := by omega
      decide +kernel
    · exact host_Parse.mono _ _ k _ (ih h)
theorem forb_all : ∀ n : Nat, n < 256 → (host_Forbidden.f (n : Int) false).isSome = true ∧ (host_Forbidden.f (n : Int) false = some true → n ≠ 37 ∧ Low.low (n : Int) = (n : Int) ∧ host_Forbidden.f (n : Int) true = some true) := by decide +kernel
theorem has_first {S : ByteArray} {c : Int} {t : List Int} {d : Bool} (hS : bytesOf S = c :: t) (hf : host_Forbidden.f c d = some true) (k : Nat) : host_has.f (k + 1) S d = some true := by
  have hz : S.size = t.length + 1 := by rw [← bytesOf_length, hS]; rfl
  have h0 : bt S 0 = c := by
    have := drop_bt S 0 (by omega)
    rw [List.drop_zero, hS] at this
    exact (List.cons.inj this).1.symm
  unfold host_has.f
  rw [host_has.l0, if_pos (by omega), if_pos (by omega), if_pos (by omega), h0, hf, Option.bind_some, if_pos rfl]
theorem pre_no {S : ByteArray} {c : Int} {t : List Int} (hS : bytesOf S = c :: t) (hc : c ≠ 91) : strings_HasPrefix.f S (⟨#[91]⟩ : ByteArray) = some false := by
  unfold strings_HasPrefix.f
  congr 1
  unfold bytesOf at hS
  obtain ⟨l, hl⟩ : ∃ l, S.data.toList = l := ⟨_, rfl⟩
  rw [hl] at hS ⊢
  cases l with
  | nil => cases hS
  | cons x r =>
    injection hS with h1 h2
    have hx : x ≠ 91 := by
      rintro rfl
      exact hc h1.symm
    rw [Bool.eq_false_iff]
    intro hp
    unfold Lib.hasPrefix at hp
    have := List.isPrefixOf_iff_prefix.1 hp
    obtain ⟨q, hq⟩ := this
    injection hq with h3 h4
    exact hx h3.symm
theorem parse_pl {S : ByteArray} {c : Int} {t : List Int} (hS : bytesOf S = c :: t) (hc : c ≠ 91) (hf : host_Forbidden.f c false = some true) (k : Nat) : host_Parse.f (k + 1) S false = some ((⟨#[]⟩ : ByteArray), false) := by
  unfold host_Parse.f
  rw [pre_no hS hc, Option.bind_some, if_neg Bool.false_ne_true, if_neg Bool.false_ne_true, has_first hS hf k, Option.bind_some, if_pos rfl]
theorem parse_sp {S : ByteArray} {c : Int} {t : List Int} (hS : bytesOf S = c :: t) (hb : ∀ x ∈ bytesOf S, byte x) (hz : S.size ≤ 1000) (hc : c ≠ 91) (h37 : c ≠ 37) (hlow : Low.low c = c) (hf : host_Forbidden.f c true = some true) (k : Nat) (hk : 3000 ≤ k) : host_Parse.f (k + 1) S true = some ((⟨#[]⟩ : ByteArray), false) := by
  obtain ⟨k, rfl⟩ : ∃ j, k = j + 1 := ⟨k - 1, by omega⟩
  have hd : dec (bytesOf S) = c :: dec t := by rw [hS, dec_ne h37]
  have hdl := dec_len (bytesOf S)
  rw [bytesOf_length] at hdl
  have hdb := dec_byte (bytesOf S) hb
  have hL : utf_Lower.f (strOfNums (dec (bytesOf S))) = some (strOfNums (c :: (dec t).map Low.low)) := by
    unfold utf_Lower.f
    rw [if_pos (by rw [size_str]; omega), bytes_str _ hdb, hd, List.map_cons, hlow]
  have hbc : ∀ x ∈ c :: (dec t).map Low.low, byte x := by
    intro x hx
    rw [hd] at hdb
    rcases List.mem_cons.1 hx with rfl | hx
    · exact hdb _ List.mem_cons_self
    · obtain ⟨y, hy, rfl⟩ := List.mem_map.1 hx
      obtain ⟨p0, p1⟩ := hdb y (List.mem_cons_of_mem _ hy)
      unfold Low.low
      split
      · exact ⟨by omega, by omega⟩
      · exact ⟨p0, p1⟩
  have hne : ¬ (strOfNums (c :: (dec t).map Low.low)).toList = ([] : List UInt8) := by
    rw [ByteArray.toList_eq, strOfNums_data]
    intro h
    cases h
  have hh := has_first (S := strOfNums (c :: (dec t).map Low.low)) (bytes_str _ hbc) hf (k + 1)
  unfold host_Parse.f
  rw [pre_no hS hc, Option.bind_some, if_neg Bool.false_ne_true, if_pos rfl]
  unfold host_domain.f
  rw [dec_f (by omega) (by omega), Option.bind_some, hL, Option.bind_some, if_neg hne, hh, Option.bind_some, host_domain.j0, if_pos rfl]
  rfl
end Go.Proofs.YtnlnkahgdmgooaaDoor.HoE
namespace Go.Proofs.YtnlnkahgdmgooaaDoor.Pure
open Go.RowKit Go.Proofs.YtnlnkahgdmgooaaDoor.P Go.Proofs.YtnlnkahgdmgooaaDoor.Pl Go.Proofs.YtnlnkahgdmgooaaDoor.Esc Go.Proofs.YtnlnkahgdmgooaaDoor.HoE Go.Proofs.YtnlnkahgdmgooaaDoorW.PrintWords Go.Proofs.YtnlnkahgdmgooaaDoorW.PrintLast Go.Proofs.YtnlnkahgdmgooaaDoorW.PrintMore
theorem HostEmpty : carryalllaw09_HostEmpty.Pure := by
  intro a s ha _
  obtain ⟨n, rfl, hn⟩ := u8_of ha
  refine ⟨5005, ?_⟩
  unfold carryalllaw09_HostEmpty.f
  rw [awake_at _ (by omega), Option.bind_some, if_pos rfl]
  by_cases hl : s.size ≤ 200
  · rw [decide_eq_false (by omega), carryalllaw09_HostEmpty.j0, if_neg Bool.false_ne_true, none_sp _ (by omega), Option.bind_some, none_pl _ (by omega), Option.bind_some]
    have eN : (⟨#[]⟩ : ByteArray).toList = ([] : List UInt8) := by rw [ByteArray.toList_eq]
    simp only [eN, ↓reduceIte, Bool.false_eq_true, Bool.not_true]
    obtain ⟨hs1, hs2⟩ := forb_all n hn
    obtain ⟨b, hb⟩ := Option.isSome_iff_exists.1 hs1
    rw [carryalllaw09_HostEmpty.j1, if_neg Bool.false_ne_true, hb, Option.bind_some]
    cases b with
    | false =>
      rw [if_neg Bool.false_ne_true, carryalllaw09_HostEmpty.j2, if_pos rfl]
    | true =>
      rw [if_pos rfl]
      by_cases h91 : n = 91
      · subst h91
        rw [carryalllaw09_HostEmpty.j2, if_pos (by decide)]
      · obtain ⟨h37, hlow, hf2⟩ := hs2 hb
        have e : ((n : Int) == 91) = false := by rw [beq_eq_false_iff_ne]; omega
        have hbn : ∀ x ∈ ([(n : Int)] : List Int), byte x := fun x hx => by rw [List.mem_singleton.1 hx]; exact ⟨by omega, by omega⟩
        have hS : bytesOf (strOfNums [(n : Int)] ++ s) = (n : Int) :: bytesOf s := by rw [bytes_append, bytes_str _ hbn]; rfl
        have hz1 : (strOfNums [(n : Int)]).size = 1 := by rw [size_str]; rfl
        have hz : (strOfNums [(n : Int)] ++ s).size ≤ 1000 := by rw [ByteArray.size_append, hz1]; omega
        have hb2 : ∀ x ∈ bytesOf (strOfNums [(n : Int)] ++ s), byte x := by
          intro x hx
          unfold bytesOf at hx
          obtain ⟨y, _, rfl⟩ := List.mem_map.1 hx
          have := y.toNat_lt
          exact ⟨by omega, by omega⟩
        rw [e, carryalllaw09_HostEmpty.j2, if_neg Bool.false_ne_true, Option.bind_some, if_pos (by rw [hz1]; omega), parse_pl hS (by omega) hb, Option.bind_some, Option.bind_some, if_pos (by rw [hz1]; omega), parse_sp hS hb2 hz (by omega) (by omega) hlow hf2 _ (by omega), Option.bind_some]
        simp only [eN, ↓reduceIte, Bool.false_eq_true, Bool.not_false]
  · rw [decide_eq_true (by omega), carryalllaw09_HostEmpty.j0, if_pos rfl, awake_at _ (by omega)]
    rfl
end Go.Proofs.YtnlnkahgdmgooaaDoor.Pure
