/- What came of walking, walked again from nothing, stays; segments that are plain just follow. -/
import Derived.Test.YtpdkncchjkkmeaaDoorPathW
namespace Go.Proofs.YtpdkncchjkkmeaaDoor.Path
open Go.RowKit Go.Proofs.YtpdkncchjkkmeaaDoor.P Go.Proofs.YtpdkncchjkkmeaaDoor.Pl Go.Proofs.YtpdkncchjkkmeaaDoor.Spl Go.Proofs.YtpdkncchjkkmeaaDoor.Ref01 Go.Proofs.YtpdkncchjkkmeaaDoorW.PrintWords Go.Proofs.YtpdkncchjkkmeaaDoorW.PrintLast Go.Proofs.YtpdkncchjkkmeaaDoorW.PrintMore
set_option linter.unusedVariables false

/-- A segment that stays as it is, wherever it stands (but for a drive that stands first). -/
def good (special : Bool) (p : List Int) : Prop := (∀ x ∈ p, byte x) ∧ (∀ x ∈ p, inP x = false) ∧ (∀ x ∈ p, x ≠ 47) ∧ (special = true → ∀ x ∈ p, x ≠ 92) ∧ doubB p = false ∧ singB p = false
def headOk (file : Bool) (L : LL) : Prop := file = true → ∀ p r, L = p :: r → drvB p = true → p.take 1 ++ [58] = p
theorem good_nil (special : Bool) : good special [] := by
  refine ⟨by simp, by simp, by simp, by simp, rfl, rfl⟩
theorem encP_app (a b : List Int) : encP (a ++ b) = encP a ++ encP b := by unfold encP; rw [List.flatMap_append]
theorem encP_cons (c : Int) (t : List Int) : encP (c :: t) = enc1 c ++ encP t := rfl
theorem enc1_no {c : Int} (h : inP c = false) : enc1 c = [c] := by unfold enc1; rw [h]; rfl
theorem enc1_yes {c : Int} (h : inP c = true) : enc1 c = [37, hxd (c / 16), hxd (c % 16)] := by unfold enc1; rw [h]; rfl
theorem isE_no {c : Int} (hb : byte c) (h : inP c = true) : ¬ isE 37 (hxd (c / 16)) (hxd (c % 16)) := by
  obtain ⟨n, rfl, hn⟩ := nat_of hb
  have H : ∀ n : Nat, n < 256 → inP (n : Int) = true → ¬ isE 37 (hxd ((n : Int) / 16)) (hxd ((n : Int) % 16)) := by decide +kernel
  exact H n hn h
theorem low50 {c : Int} (h : Low.low c = 50) : c = 50 := by rw [low_iff (by omega)] at h; exact h.1
theorem low101 {c : Int} (h : Low.low c = 101) : c = 101 ∨ c = 69 := by
  unfold Low.low at h
  split at h <;> omega
/-- What is points behind the escape was it ahead of it. -/
theorem dl_enc : ∀ (d : Nat) (x : List Int), x.length = d → (∀ c ∈ x, byte c) → ∀ n, dl (encP x) = some n → encP x = x := by
  intro d
  induction d using Nat.strongRecOn with
  | ind d ih =>
    intro x hd hb n hn
    cases x with
    | nil => rfl
    | cons c t =>
      have hc := hb c List.mem_cons_self
      have ht := fun y hy => hb y (List.mem_cons_of_mem c hy)
      rw [encP_cons] at hn ⊢
      cases hi : inP c with
      | true =>
        exfalso
        rw [enc1_yes hi] at hn
        have h1 : dl (37 :: hxd (c / 16) :: hxd (c % 16) :: encP t) = none := dl_no (by omega) (fun a b r e => by cases e; exact isE_no hc hi)
        rw [List.cons_append, List.cons_append, List.cons_append, List.nil_append, h1] at hn
        cases hn
      | false =>
        rw [enc1_no hi] at hn ⊢
        rw [List.singleton_append] at hn ⊢
        by_cases h46 : c = 46
        · subst h46
          rw [dl_dot] at hn
          cases hm : dl (encP t) with
          | none => rw [hm] at hn; cases hn
          | some m => rw [ih t.length (by simp at hd; omega) t rfl ht m hm]
        · match t, ht, hd with
          | [], _, _ => rfl
          | [a], ht, _ =>
            have ha := ht a List.mem_cons_self
            cases hia : inP a with
            | false => rw [encP_cons, enc1_no hia]; rfl
            | true =>
              exfalso
              rw [encP_cons, enc1_yes hia] at hn
              have h1 : dl (c :: ([37, hxd (a / 16), hxd (a % 16)] ++ encP [])) = none := dl_no h46 (fun a' b' r' e => by
                cases e
                rintro ⟨_, e2, _⟩
                have := low50 e2
                omega)
              rw [h1] at hn
              cases hn
          | a :: b :: r, ht, hd =>
            have ha := ht a List.mem_cons_self
            have hbb := ht b (List.mem_cons_of_mem _ List.mem_cons_self)
            have hr := fun y hy => ht y (List.mem_cons_of_mem a (List.mem_cons_of_mem b hy))
            cases hia : inP a with
            | true =>
              exfalso
              rw [encP_cons, enc1_yes hia] at hn
              have h1 : dl (c :: ([37, hxd (a / 16), hxd (a % 16)] ++ encP (b :: r))) = none := dl_no h46 (fun a' b' r' e => by
                cases e
                rintro ⟨_, e2, _⟩
                have := low50 e2
                omega)
              rw [h1] at hn
              cases hn
            | false =>
              cases hib : inP b with
              | true =>
                exfalso
                rw [encP_cons, enc1_no hia, encP_cons, enc1_yes hib] at hn
                have h1 : dl (c :: ([a] ++ ([37, hxd (b / 16), hxd (b % 16)] ++ encP r))) = none := dl_no h46 (fun a' b' r' e => by
                  cases e
                  rintro ⟨_, _, e3⟩
                  have := low101 e3
                  omega)
                rw [h1] at hn
                cases hn
              | false =>
                rw [encP_cons, enc1_no hia, encP_cons, enc1_no hib] at hn ⊢
                simp only [List.singleton_append] at hn ⊢
                by_cases hE : isE c a b
                · rw [dl_e hE] at hn
                  cases hm : dl (encP r) with
                  | none => rw [hm] at hn; cases hn
                  | some m => rw [ih r.length (by simp at hd; omega) r rfl hr m hm]
                · rw [dl_no h46 (fun a' b' r' e => by cases e; exact hE)] at hn
                  cases hn
theorem dots_enc {x : List Int} (hb : ∀ c ∈ x, byte c) (h1 : doubB x = false) (h2 : singB x = false) : doubB (encP x) = false ∧ singB (encP x) = false := by
  unfold doubB singB at *
  constructor
  · cases hd : dl (encP x) with
    | none => rfl
    | some n => rw [dl_enc _ x rfl hb n hd] at hd; rw [hd] at h1; exact h1
  · cases hd : dl (encP x) with
    | none => rfl
    | some n => rw [dl_enc _ x rfl hb n hd] at hd; rw [hd] at h2; exact h2
theorem drv_shape {p : List Int} (h : drvB p = true) : ∃ c d, p = [c, d] ∧ letB c = true ∧ (d = 58 ∨ d = 124) := by
  match p with
  | [] => cases h
  | [c] => cases h
  | [c, d] =>
    simp only [drvB, Bool.and_eq_true, Bool.or_eq_true, beq_iff_eq] at h
    exact ⟨c, d, rfl, h.1, h.2⟩
  | c :: d :: e :: t => cases h
theorem let_not {c : Int} (h : letB c = true) : c ≠ 37 ∧ c ≠ 46 ∧ c ≠ 47 ∧ c ≠ 92 ∧ inP c = false ∧ byte c := by
  have h' : (65 ≤ c ∧ c ≤ 90) ∨ (97 ≤ c ∧ c ≤ 122) := by simpa [letB] using h
  refine ⟨by omega, by omega, by omega, by omega, ?_, ⟨by omega, by omega⟩⟩
  obtain ⟨n, rfl, hn⟩ := nat_of (c := c) ⟨by omega, by omega⟩
  have H : ∀ n : Nat, n < 256 → letB (n : Int) = true → inP (n : Int) = false := by decide +kernel
  exact H n hn h
theorem drv_enc {x : List Int} (hb : ∀ c ∈ x, byte c) (h : drvB (encP x) = true) : encP x = x := by
  obtain ⟨c, d, e, hc, hd⟩ := drv_shape h
  obtain ⟨h37, _⟩ := let_not hc
  cases x with
  | nil => rfl
  | cons y t =>
    rw [encP_cons] at e
    cases hy : inP y with
    | true =>
      rw [enc1_yes hy] at e
      exact absurd (List.cons.inj e).1.symm h37
    | false =>
      rw [enc1_no hy, List.singleton_append] at e
      obtain ⟨e1, e2⟩ := List.cons.inj e
      cases t with
      | nil => cases e2
      | cons z u =>
        rw [encP_cons] at e2
        cases hz : inP z with
        | true =>
          rw [enc1_yes hz] at e2
          have := congrArg List.length e2
          simp at this
        | false =>
          rw [enc1_no hz, List.singleton_append] at e2
          have h3 := (List.cons.inj e2).2
          cases u with
          | nil => rw [encP_cons, enc1_no hy, encP_cons, enc1_no hz]; rfl
          | cons v u2 =>
            exfalso
            rw [encP_cons] at h3
            cases hv : inP v with
            | true => rw [enc1_yes hv] at h3; cases h3
            | false => rw [enc1_no hv] at h3; cases h3
/-- A segment that comes in has no separator. -/
def segOk (special : Bool) (p : List Int) : Prop := (∀ x ∈ p, byte x) ∧ (∀ x ∈ p, x ≠ 47) ∧ (special = true → ∀ x ∈ p, x ≠ 92)
theorem enc_other {c y : Int} (h : byte c) (hy : y ∈ enc1 c) : y ≠ 47 ∨ y = c := by
  rcases (enc_out h).1 y hy with h1 | h1
  · exact .inl h1.2.2
  · exact .inr h1
theorem enc_92 {c y : Int} (h : byte c) (hc : c ≠ 92) (hy : y ∈ enc1 c) : y ≠ 92 := by
  obtain ⟨n, rfl, hn⟩ := nat_of h
  have H : ∀ n : Nat, n < 256 → ((enc1 (n : Int)).all fun y => decide (y ≠ 92) || decide ((n : Int) = 92)) = true := by decide +kernel
  have := List.all_eq_true.1 (H n hn) y hy
  simp only [Bool.or_eq_true, decide_eq_true_eq] at this
  exact this.resolve_right hc
theorem enc_47 {c y : Int} (h : byte c) (hc : c ≠ 47) (hy : y ∈ enc1 c) : y ≠ 47 := by
  rcases enc_other h hy with h1 | h1
  · exact h1
  · rw [h1]; exact hc
theorem good_enc {special : Bool} {x : List Int} (h : segOk special x) (h1 : doubB x = false) (h2 : singB x = false) : good special (encP x) := by
  obtain ⟨hb, h47, h92⟩ := h
  obtain ⟨d1, d2⟩ := dots_enc hb h1 h2
  refine ⟨enc_bytes hb, fun y hy => ?_, fun y hy => ?_, fun hs y hy => ?_, d1, d2⟩
  · obtain ⟨c, hc, hy⟩ := List.mem_flatMap.1 hy
    exact enc_free (hb c hc) y hy
  · obtain ⟨c, hc, hy⟩ := List.mem_flatMap.1 hy
    exact enc_47 (hb c hc) (h47 c hc) hy
  · obtain ⟨c, hc, hy⟩ := List.mem_flatMap.1 hy
    exact enc_92 (hb c hc) (h92 hs c hc) hy
theorem drv_dots {c : Int} (h : letB c = true) : doubB [c, 58] = false ∧ singB [c, 58] = false := by
  obtain ⟨_, h46, _⟩ := let_not h
  unfold doubB singB
  have : dl [c, 58] = none := by simp [dl, h46]
  rw [this]
  exact ⟨rfl, rfl⟩
theorem good_fix {file special : Bool} {L : LL} {x : List Int} (h : segOk special x) (h1 : doubB x = false) (h2 : singB x = false) : good special (encP (fixL file L x)) := by
  unfold fixL
  split
  · rename_i hh
    obtain ⟨c, d, rfl, hc, hd⟩ := drv_shape hh.2.2
    obtain ⟨n37, n46, n47, n92, nI, nb⟩ := let_not hc
    obtain ⟨d1, d2⟩ := drv_dots hc
    refine good_enc (special := special) (x := [c, 58]) ⟨?_, ?_, ?_⟩ d1 d2
    · intro y hy; simp at hy; rcases hy with rfl | rfl
      · exact nb
      · exact ⟨by omega, by omega⟩
    · intro y hy; simp at hy; rcases hy with rfl | rfl
      · exact n47
      · omega
    · intro _ y hy; simp at hy; rcases hy with rfl | rfl
      · exact n92
      · omega
  · exact good_enc h h1 h2
theorem headOk_app {file : Bool} {L M : LL} (hL : L ≠ []) (h : headOk file L) : headOk file (L ++ M) := by
  intro hf p r e hd
  cases L with
  | nil => exact absurd rfl hL
  | cons q u => exact h hf p u (by rw [List.cons_append] at e; rw [(List.cons.inj e).1]) hd
theorem headOk_take {file : Bool} {L : LL} (n : Nat) (h : headOk file L) : headOk file (L.take n) := by
  intro hf p r e hd
  cases L with
  | nil => simp at e
  | cons q u =>
    cases n with
    | zero => cases e
    | succ n =>
      rw [List.take_succ_cons] at e
      exact h hf p u (by rw [(List.cons.inj e).1]) hd
theorem headOk_one {file : Bool} {special : Bool} {x : List Int} (h : segOk special x) : headOk file [encP (fixL file [] x)] := by
  intro hf p r e hd
  obtain ⟨rfl, _⟩ := List.cons.inj e
  unfold fixL at hd ⊢
  by_cases hx : drvB x = true
  · rw [if_pos ⟨hf, rfl, hx⟩]
    obtain ⟨c, d, rfl, hc, _⟩ := drv_shape hx
    obtain ⟨_, _, _, _, nI, _⟩ := let_not hc
    have e : encP ([c, d].take 1 ++ [58]) = [c, 58] := by
      show encP [c, 58] = _
      rw [encP_cons, enc1_no nI, encP_cons, enc1_no (by decide)]
      rfl
    rw [e]
    rfl
  · rw [if_neg (fun e => hx e.2.2)] at hd
    rw [drv_enc h.1 hd] at hd
    exact absurd hd hx
def allGood (file special : Bool) (L : LL) : Prop := (∀ p ∈ L, good special p) ∧ headOk file L
theorem short_good {file special : Bool} {L : LL} (h : allGood file special L) : allGood file special (shortL file L) := by
  unfold shortL
  split
  · exact h
  · split
    · exact h
    · exact ⟨fun p hp => h.1 p (List.mem_of_mem_take hp), headOk_take _ h.2⟩
theorem app_nil_good {file special : Bool} {L : LL} (h : allGood file special L) (last : Bool) : allGood file special (L ++ (if last = true then [[]] else [])) := by
  cases last
  · simpa using h
  · rw [if_pos rfl]
    refine ⟨fun p hp => ?_, ?_⟩
    · rcases List.mem_append.1 hp with hp | hp
      · exact h.1 p hp
      · rw [List.mem_singleton.1 hp]; exact good_nil special
    · cases L with
      | nil =>
        intro _ p r e hd
        rw [List.nil_append] at e
        rw [← (List.cons.inj e).1] at hd
        cases hd
      | cons q u => exact headOk_app (by simp) h.2
theorem step_good {file special : Bool} {L : LL} {x : List Int} (h : allGood file special L) (hx : segOk special x) (last : Bool) : allGood file special (stepL file L x last) := by
  unfold stepL
  by_cases h1 : doubB x = true
  · rw [if_pos h1]; exact app_nil_good (short_good h) last
  · rw [if_neg h1]
    by_cases h2 : singB x = true
    · rw [if_pos h2]; exact app_nil_good h last
    · rw [if_neg h2]
      rw [Bool.not_eq_true] at h1 h2
      refine ⟨fun p hp => ?_, ?_⟩
      · rcases List.mem_append.1 hp with hp | hp
        · exact h.1 p hp
        · rw [List.mem_singleton.1 hp]; exact good_fix hx h1 h2
      · cases L with
        | nil => rw [List.nil_append]; exact headOk_one hx
        | cons q u => exact headOk_app (by simp) h.2
theorem walk_good {file special : Bool} : ∀ (P L : LL), allGood file special L → (∀ p ∈ P, segOk special p) → allGood file special (walkF file L P)
  | [], L, h, _ => h
  | [p], L, h, hp => step_good h (hp p List.mem_cons_self) true
  | p :: q :: r, L, h, hp => by
    rw [walkF]
    exact walk_good (q :: r) _ (step_good h (hp p List.mem_cons_self) false) (fun y hy => hp y (List.mem_cons_of_mem _ hy))
/-- A good segment just follows. -/
theorem step_stay {file special : Bool} {L : LL} {p : List Int} (h : good special p) (hd : file = true → L = [] → drvB p = true → p.take 1 ++ [58] = p) (last : Bool) : stepL file L p last = L ++ [p] := by
  obtain ⟨h1, h2, h3, h4, h5, h6⟩ := h
  unfold stepL
  rw [h5, h6, if_neg Bool.false_ne_true, if_neg Bool.false_ne_true]
  have : fixL file L p = p := by
    unfold fixL
    split
    · rename_i hh
      exact hd hh.1 (List.length_eq_zero_iff.1 hh.2.1) hh.2.2
    · rfl
  rw [this, enc_same h2]
theorem walk_stay {file special : Bool} : ∀ (P L : LL), (∀ p ∈ P, good special p) → (L = [] → headOk file P) → walkF file L P = L ++ P
  | [], L, _, _ => by rw [walkF, List.append_nil]
  | [p], L, h, hh => by
    rw [walkF]
    exact step_stay (h p List.mem_cons_self) (fun hf hL hd => hh hL hf p [] rfl hd) true
  | p :: q :: r, L, h, hh => by
    rw [walkF, step_stay (h p List.mem_cons_self) (fun hf hL hd => hh hL hf p _ rfl hd) false, walk_stay (q :: r) _ (fun y hy => h y (List.mem_cons_of_mem _ hy)) (fun e => by simp at e), List.append_assoc]
    rfl

/-! put together, and cut again -/
def joinL : LL → List Int
  | [] => []
  | [p] => p
  | p :: q :: r => p ++ 47 :: joinL (q :: r)
theorem split_join : ∀ (L : LL), L ≠ [] → (∀ p ∈ L, ∀ x ∈ p, x ≠ 47) → splitL 47 (joinL L) = L
  | [], h, _ => absurd rfl h
  | [p], _, h => splitL_one 47 p (h p List.mem_cons_self)
  | p :: q :: r, _, h => by
    rw [joinL, splitL_cut _ _ _ (h p List.mem_cons_self), split_join (q :: r) (by simp) (fun y hy => h y (List.mem_cons_of_mem _ hy))]
theorem sepm_same {special : Bool} {l : List Int} (h : special = true → ∀ x ∈ l, x ≠ 92) : sepm special l = l := by
  unfold sepm
  split
  · rename_i hs
    refine (List.map_congr_left (g := id) fun x hx => ?_).trans (List.map_id _)
    rw [if_neg (h hs x hx)]
    rfl
  · rfl
theorem join_all (P : Int → Prop) (h47 : P 47) : ∀ (L : LL), (∀ p ∈ L, ∀ x ∈ p, P x) → ∀ x ∈ joinL L, P x
  | [], _ => by simp [joinL]
  | [p], h => h p List.mem_cons_self
  | p :: q :: r, h => by
    intro x hx
    rw [joinL] at hx
    rcases List.mem_append.1 hx with hx | hx
    · exact h p List.mem_cons_self x hx
    · rcases List.mem_cons.1 hx with rfl | hx
      · exact h47
      · exact join_all P h47 (q :: r) (fun y hy => h y (List.mem_cons_of_mem _ hy)) x hx
theorem seg_ok (special : Bool) (s : ByteArray) : ∀ p ∈ splitL 47 (sepm special (bytesOf s)), segOk special p := by
  intro p hp
  have hb := splitL_all byte 47 _ (sepm_bytes (special := special) (bytes_all s)) p hp
  refine ⟨hb, splitL_no 47 _ p hp, fun hs => ?_⟩
  refine splitL_all (fun x => x ≠ 92) 47 _ (fun x hx => ?_) p hp
  unfold sepm at hx
  rw [if_pos hs] at hx
  obtain ⟨y, _, rfl⟩ := List.mem_map.1 hx
  split
  · omega
  · assumption
theorem mapBytes (L : List (List Int)) (h : ∀ p ∈ L, ∀ x ∈ p, byte x) : (L.map strOfNums).map bytesOf = L := by
  rw [List.map_map]
  refine (List.map_congr_left (g := id) ?_).trans (List.map_id _)
  intro p hp
  exact bytes_str p (h p hp)
theorem segs_map (special : Bool) (s : ByteArray) : (segs special s).map bytesOf = splitL 47 (sepm special (bytesOf s)) := mapBytes _ (fun p hp => (seg_ok special s p hp).1)
theorem join_snoc : ∀ (L : LL) (p : List Int), joinL (L ++ [p]) = if L = [] then p else joinL L ++ 47 :: p
  | [], p => rfl
  | [q], p => rfl
  | q :: r :: t, p => by
    have ih := join_snoc (r :: t) p
    rw [if_neg (by simp)] at ih ⊢
    show q ++ 47 :: joinL (r :: t ++ [p]) = q ++ 47 :: joinL (r :: t) ++ 47 :: p
    rw [ih, List.append_assoc]
    rfl
theorem fix_len {file : Bool} {L : LL} {x : List Int} : (fixL file L x).length ≤ x.length := by
  unfold fixL
  split
  · rename_i hh
    obtain ⟨c, d, rfl, _, _⟩ := drv_shape hh.2.2
    simp
  · exact Nat.le_refl _
theorem step_size {file : Bool} {X : List ByteArray} {x : ByteArray} {last : Bool} {M : Nat} (hX : ∀ y ∈ X, y.size ≤ M) (hx : 3 * x.size ≤ M) : ∀ y ∈ stepB file X x last, y.size ≤ M := by
  have he : ∀ y ∈ (if last = true then [(⟨#[]⟩ : ByteArray)] else []), y.size ≤ M := by
    intro y hy
    cases last
    · simp at hy
    · rw [if_pos rfl] at hy; rw [List.mem_singleton.1 hy]; exact Nat.zero_le _
  unfold stepB
  intro y hy
  split at hy
  · rcases List.mem_append.1 hy with hy | hy
    · unfold shortB at hy
      split at hy
      · exact hX y hy
      · split at hy
        · exact hX y hy
        · exact hX y (List.mem_of_mem_take hy)
    · exact he y hy
  · split at hy
    · rcases List.mem_append.1 hy with hy | hy
      · exact hX y hy
      · exact he y hy
    · rcases List.mem_append.1 hy with hy | hy
      · exact hX y hy
      · rw [List.mem_singleton.1 hy, size_str]
        have h1 := encP_len (fix_bytes (file := file) (L := X.map bytesOf) (bytes_all x))
        have h2 := fix_len (file := file) (L := X.map bytesOf) (x := bytesOf x)
        rw [bytesOf_length] at h2
        omega
theorem walk_size {file : Bool} {M : Nat} : ∀ (P X : List ByteArray), (∀ y ∈ X, y.size ≤ M) → (∀ x ∈ P, 3 * x.size ≤ M) → (∀ y ∈ walkB file X P, y.size ≤ M) ∧ (walkB file X P).length ≤ X.length + P.length
  | [], X, hX, _ => ⟨hX, by simp [walkB]⟩
  | [p], X, hX, hP => ⟨step_size hX (hP p List.mem_cons_self), step_len file X p true⟩
  | p :: q :: r, X, hX, hP => by
    rw [walkB]
    obtain ⟨h1, h2⟩ := walk_size (file := file) (q :: r) (stepB file X p false) (step_size hX (hP p List.mem_cons_self)) (fun x hx => hP x (List.mem_cons_of_mem _ hx))
    refine ⟨h1, ?_⟩
    have := step_len file X p false
    simp at h2 ⊢
    omega
theorem walk_again (file special : Bool) (s a : ByteArray) (hne : walkB file [] (segs special s) ≠ []) (ha : bytesOf a = joinL ((walkB file [] (segs special s)).map bytesOf)) : walkB file [] (segs special a) = walkB file [] (segs special s) := by
  have hL : (walkB file [] (segs special s)).map bytesOf = walkF file [] (splitL 47 (sepm special (bytesOf s))) := by rw [walk_map, segs_map]; rfl
  have hg : allGood file special ((walkB file [] (segs special s)).map bytesOf) := by
    rw [hL]
    exact walk_good _ _ ⟨by simp, by intro _ p r e; cases e⟩ (seg_ok special s)
  generalize walkB file [] (segs special s) = X at *
  have hX : X.map bytesOf ≠ [] := fun e => hne (List.map_eq_nil_iff.1 e)
  refine map_inj ?_
  rw [walk_map, segs_map, ha]
  have h1 : sepm special (joinL (X.map bytesOf)) = joinL (X.map bytesOf) := sepm_same fun hs => join_all (fun x => x ≠ 92) (by decide) _ (fun p hp => (hg.1 p hp).2.2.2.1 hs)
  rw [h1, split_join _ hX (fun p hp => (hg.1 p hp).2.2.1)]
  have := walk_stay (file := file) (X.map bytesOf) [] hg.1 (fun _ => hg.2)
  rw [List.nil_append] at this
  exact this
end Go.Proofs.YtpdkncchjkkmeaaDoor.Path
