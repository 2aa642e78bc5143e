/- Plain facts: a text cut at a byte, told over lists of whole numbers; strings.Split of one byte, and a number's decimal digits, in these words. No program. -/
import Derived.Test.YtbbdfamfmkcfhaaGreatDoorPl
import Derived.Lib.SplitLaws
import Derived.Lib.ItoaNum
namespace Go.Proofs.YtbbdfamfmkcfhaaGreatDoor.Spl
open Go.RowKit Go.Proofs.YtbbdfamfmkcfhaaGreatDoor.Pl Go.Proofs.YtbbdfamfmkcfhaaGreatDoorW.PrintWords Go.Proofs.YtbbdfamfmkcfhaaGreatDoorW.PrintLast
set_option linter.unusedVariables false

def pre (p : List Int) : List (List Int) → List (List Int)
  | [] => [p]
  | h :: r => (p ++ h) :: r
def splitL (c : Int) : List Int → List (List Int)
  | [] => [[]]
  | b :: t => if b = c then [] :: splitL c t else pre [b] (splitL c t)
theorem pre_ne (p : List Int) (L : List (List Int)) : pre p L ≠ [] := by cases L <;> simp [pre]
theorem splitL_ne (c : Int) (l : List Int) : splitL c l ≠ [] := by
  cases l with
  | nil => simp [splitL]
  | cons b t => rw [splitL]; split; simp; exact pre_ne _ _
theorem pre_pre (p q : List Int) (L : List (List Int)) : pre p (pre q L) = pre (p ++ q) L := by cases L <;> simp [pre]
theorem pre_nil {L : List (List Int)} (h : L ≠ []) : pre [] L = L := by cases L; exact absurd rfl h; rfl
theorem splitL_pre (c : Int) : ∀ (p l : List Int), (∀ x ∈ p, x ≠ c) → splitL c (p ++ l) = pre p (splitL c l)
  | [], l, _ => by rw [List.nil_append, pre_nil (splitL_ne c l)]
  | b :: p, l, h => by
    rw [List.cons_append, splitL, if_neg (h b List.mem_cons_self), splitL_pre c p l (fun x hx => h x (List.mem_cons_of_mem _ hx)), pre_pre]
    rfl
theorem splitL_cut (c : Int) (p l : List Int) (h : ∀ x ∈ p, x ≠ c) : splitL c (p ++ c :: l) = p :: splitL c l := by
  rw [splitL_pre c p _ h, splitL, if_pos rfl]
  simp [pre]
theorem splitL_one (c : Int) (p : List Int) (h : ∀ x ∈ p, x ≠ c) : splitL c p = [p] := by
  have := splitL_pre c p [] h
  rw [List.append_nil] at this
  rw [this]
  simp [splitL, pre]

def toI (l : List UInt8) : List Int := l.map fun b => (b.toNat : Int)
theorem bytes_toI (s : ByteArray) : bytesOf s = toI s.data.toList := rfl
theorem splitK_L (c : UInt8) : ∀ l : List UInt8, (Lib.splitK [c] 0 (Lib.count l [c]) l).map toI = splitL (c.toNat : Int) (toI l)
  | [] => by rw [Lib.count_one]; rfl
  | b :: l => by
    have ih := splitK_L c l
    show _ = splitL (c.toNat : Int) ((b.toNat : Int) :: toI l)
    rw [splitL]
    by_cases h : b = c
    · subst h
      rw [if_pos rfl, Lib.count_cons_eq, Nat.add_comm 1]
      have hix : Lib.index (b :: l) [b] = 0 := by rw [Lib.index]; simp [List.isPrefixOf]
      rw [Lib.splitK, hix, if_neg (by decide), List.map_cons]
      rw [← ih]
      rfl
    · have hn : ¬ ((b.toNat : Int) = (c.toNat : Int)) := fun e => h (UInt8.toNat_inj.1 (by omega))
      rw [if_neg hn, Lib.count_cons_ne b c l h, ← ih]
      have hp : ([c] : List UInt8).isPrefixOf (b :: l) = false := by simp [List.isPrefixOf, Ne.symm h]
      have hix : Lib.index (b :: l) [c] = if Lib.index l [c] == -1 then -1 else Lib.index l [c] + 1 := by rw [Lib.index, hp]; simp
      cases hk : Lib.count l [c] with
      | zero => simp [Lib.splitK, pre, toI]
      | succ k =>
        have hm : ¬ Lib.index l [c] = -1 := fun e => by rw [Lib.count_miss e] at hk; cases hk
        have hge := Lib.index_ge l [c]
        obtain ⟨j, hj⟩ : ∃ j : Nat, Lib.index l [c] = j := ⟨(Lib.index l [c]).toNat, by omega⟩
        have hix' : Lib.index (b :: l) [c] = ((j + 1 : Nat) : Int) := by rw [hix, if_neg (fun e => hm (beq_iff_eq.1 e)), hj]; omega
        rw [Lib.splitK, Lib.splitK, hix', hj, if_neg (by rw [beq_iff_eq]; omega), if_neg (by rw [beq_iff_eq]; omega)]
        simp [pre, toI]
theorem mapB {xs : List ByteArray} {ys : List (List Int)} (h : xs.map bytesOf = ys) : xs = ys.map strOfNums := by
  subst h
  rw [List.map_map]
  exact ((List.map_congr_left (fun s _ => str_bytes s)).trans (List.map_id _)).symm
theorem split_bytes (c : UInt8) (s : ByteArray) : (Lib.splitB ⟨#[c]⟩ 0 (Lib.countB s ⟨#[c]⟩) s).map bytesOf = splitL (c.toNat : Int) (bytesOf s) := by
  have h := Lib.splitB_data ⟨#[c]⟩ 0 (Lib.countB s ⟨#[c]⟩) s
  rw [bytes_toI, ← splitK_L c]
  have hc : Lib.countB s ⟨#[c]⟩ = Lib.count s.data.toList [c] := rfl
  rw [← hc, ← show (Lib.splitB ⟨#[c]⟩ 0 (Lib.countB s ⟨#[c]⟩) s).map (·.data.toList) = Lib.splitK [c] 0 (Lib.countB s ⟨#[c]⟩) s.data.toList from h, List.map_map]
  rfl
theorem splitL_count (c : Int) : ∀ l : List Int, (splitL c l).length ≤ l.length + 1
  | [] => by simp [splitL]
  | b :: t => by
    have := splitL_count c t
    rw [splitL]
    split
    · simpa using this
    · have h := splitL_ne c t
      cases e : splitL c t with
      | nil => exact absurd e h
      | cons x y => rw [e] at this; simp [pre] at this ⊢; omega
theorem pre_mem {p h : List Int} {L : List (List Int)} (hh : h ∈ pre p L) : (∃ q, h = p ++ q ∧ (q = [] ∨ q ∈ L)) ∨ h ∈ L := by
  cases L with
  | nil => left; simp [pre] at hh; exact ⟨[], by simp [hh], .inl rfl⟩
  | cons x y =>
    simp only [pre, List.mem_cons] at hh
    rcases hh with rfl | hh
    · left; exact ⟨x, rfl, .inr List.mem_cons_self⟩
    · right; exact List.mem_cons_of_mem _ hh
theorem splitL_all (P : Int → Prop) (c : Int) : ∀ l : List Int, (∀ x ∈ l, P x) → ∀ p ∈ splitL c l, ∀ x ∈ p, P x
  | [], _, p, hp => by simp [splitL] at hp; subst hp; simp
  | b :: t, h, p, hp => by
    have ih := splitL_all P c t (fun x hx => h x (List.mem_cons_of_mem _ hx))
    rw [splitL] at hp
    split at hp
    · rcases List.mem_cons.1 hp with rfl | hp
      · simp
      · exact ih p hp
    · rcases pre_mem hp with ⟨q, rfl, hq⟩ | hp
      · intro x hx
        rcases List.mem_append.1 hx with hx | hx
        · rw [List.mem_singleton.1 hx]; exact h b List.mem_cons_self
        · rcases hq with rfl | hq
          · cases hx
          · exact ih q hq x hx
      · exact ih p hp
theorem splitL_no (c : Int) : ∀ l : List Int, ∀ p ∈ splitL c l, ∀ x ∈ p, x ≠ c
  | [], p, hp => by simp [splitL] at hp; subst hp; simp
  | b :: t, p, hp => by
    have ih := splitL_no c t
    rw [splitL] at hp
    split at hp
    · rcases List.mem_cons.1 hp with rfl | hp
      · simp
      · exact ih p hp
    · rename_i hb
      rcases pre_mem hp with ⟨q, rfl, hq⟩ | hp
      · intro x hx
        rcases List.mem_append.1 hx with hx | hx
        · rw [List.mem_singleton.1 hx]; exact hb
        · rcases hq with rfl | hq
          · cases hx
          · exact ih q hq x hx
      · exact ih p hp
theorem splitL_len (c : Int) : ∀ l : List Int, ∀ p ∈ splitL c l, p.length ≤ l.length
  | [], p, hp => by simp [splitL] at hp; subst hp; simp
  | b :: t, p, hp => by
    have ih := splitL_len c t
    rw [splitL] at hp
    split at hp
    · rcases List.mem_cons.1 hp with rfl | hp
      · simp
      · have := ih p hp; simp; omega
    · rcases pre_mem hp with ⟨q, rfl, hq⟩ | hp
      · rcases hq with rfl | hq
        · simp
        · have := ih q hq; simp; omega
      · have := ih p hp; simp; omega

theorem mem_split {c x : Int} : ∀ {l : List Int}, x ∈ l → x ≠ c → ∃ p ∈ splitL c l, x ∈ p
  | b :: t, hx, hc => by
    rw [splitL]
    by_cases h : b = c
    · rw [if_pos h]
      rcases List.mem_cons.1 hx with rfl | hx
      · exact absurd h hc
      · obtain ⟨p, hp, hxp⟩ := mem_split hx hc
        exact ⟨p, List.mem_cons_of_mem _ hp, hxp⟩
    · rw [if_neg h]
      have hne := splitL_ne c t
      cases e : splitL c t with
      | nil => exact absurd e hne
      | cons y u =>
        show ∃ p ∈ ([b] ++ y) :: u, x ∈ p
        rcases List.mem_cons.1 hx with rfl | hx
        · exact ⟨_, List.mem_cons_self, by simp⟩
        · obtain ⟨p, hp, hxp⟩ := mem_split hx hc
          rw [e] at hp
          rcases List.mem_cons.1 hp with rfl | hp
          · exact ⟨_, List.mem_cons_self, List.mem_append.2 (.inr hxp)⟩
          · exact ⟨p, List.mem_cons_of_mem _ hp, hxp⟩

/-! decimal digits -/
theorem bytes_mk (l : List UInt8) : bytesOf (⟨l.toArray⟩ : ByteArray) = toI l := by simp [bytesOf, toI]
def decI (n : Nat) : List Int := toI (Lib.decDigits n)
theorem dig_of {m : Nat} (h : m < 10) : (((UInt8.ofNat (48 + m)).toNat : Nat) : Int) = 48 + m := by
  have : ∀ m : Nat, m < 10 → (((UInt8.ofNat (48 + m)).toNat : Nat) : Int) = 48 + m := by decide +kernel
  exact this m h
theorem decI_small {n : Nat} (h : n < 10) : decI n = [48 + (n : Int)] := by
  unfold decI toI
  rw [Lib.decDigits, dif_pos h, List.map_singleton, dig_of h]
theorem decI_big {n : Nat} (h : ¬ n < 10) : decI n = decI (n / 10) ++ [48 + ((n % 10 : Nat) : Int)] := by
  unfold decI toI
  rw [Lib.decDigits, dif_neg h, List.map_append, List.map_singleton, dig_of (show n % 10 < 10 by omega)]
theorem decI_dig (n : Nat) : ∀ x ∈ decI n, 48 ≤ x ∧ x ≤ 57 := by
  induction n using Nat.strongRecOn with
  | ind n ih =>
    by_cases h : n < 10
    · rw [decI_small h]; intro x hx; rw [List.mem_singleton.1 hx]; omega
    · rw [decI_big h]
      intro x hx
      rcases List.mem_append.1 hx with hx | hx
      · exact ih (n / 10) (by omega) x hx
      · rw [List.mem_singleton.1 hx]; omega
theorem decI_head (n : Nat) : ∃ c t, decI n = c :: t ∧ 48 ≤ c ∧ c ≤ 57 ∧ (0 < n → 49 ≤ c) := by
  induction n using Nat.strongRecOn with
  | ind n ih =>
    by_cases h : n < 10
    · exact ⟨_, [], decI_small h, by omega, by omega, by omega⟩
    · obtain ⟨c, t, e, h0, h1, h2⟩ := ih (n / 10) (by omega)
      rw [decI_big h, e]
      exact ⟨c, _, rfl, h0, h1, fun _ => h2 (by omega)⟩
theorem decI_zero : decI 0 = [48] := decI_small (by omega)
theorem decI_len : ∀ (k n : Nat), n < 10 ^ (k + 1) → (decI n).length ≤ k + 1 := by
  intro k
  induction k with
  | zero => intro n hn; rw [decI_small (by omega)]; simp
  | succ k ih =>
    intro n hn
    by_cases h : n < 10
    · rw [decI_small h]; simp
    · rw [decI_big h, List.length_append, List.length_singleton]
      have := ih (n / 10) (by rw [Nat.pow_succ] at hn; omega)
      omega
theorem itoa_bytes (n : Nat) : bytesOf (⟨(Lib.itoa (n : Int)).toArray⟩ : ByteArray) = decI n := by
  rw [bytes_mk]
  unfold Lib.itoa decI
  rw [if_neg (by omega), Int.toNat_natCast]
end Go.Proofs.YtbbdfamfmkcfhaaGreatDoor.Spl
