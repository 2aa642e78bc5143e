/- What path's walk and its reference's compute, told by one function over lists of bytes; what came of walking stays. -/
import Derived.Test.YtpdkncchjkkmeaaDoorPx1
import Derived.Test.YtpdkncchjkkmeaaDoorPx2
import Derived.Test.YtpdkncchjkkmeaaDoorPx3
import Derived.Test.YtpdkncchjkkmeaaDoorPx4
import Derived.Test.YtpdkncchjkkmeaaDoorPx5
import Derived.Test.YtpdkncchjkkmeaaDoorPx6
import Derived.Test.YtpdkncchjkkmeaaDoorPx7
import Derived.Test.YtpdkncchjkkmeaaDoorPath
import Derived.Test.YtpdkncchjkkmeaaDoorSplit
namespace Go.Proofs.YtpdkncchjkkmeaaDoor.Path
open Go.RowKit Go.Proofs.YtpdkncchjkkmeaaDoor.P Go.Proofs.YtpdkncchjkkmeaaDoor.Pl Go.Proofs.YtpdkncchjkkmeaaDoor.Spl Go.Proofs.YtpdkncchjkkmeaaDoor.Ref01 Go.Proofs.YtpdkncchjkkmeaaDoorW.PrintWords Go.Proofs.YtpdkncchjkkmeaaDoorW.PrintLast Go.Proofs.YtpdkncchjkkmeaaDoorW.PrintMore
set_option linter.unusedVariables false

/-! what is escaped -/
def inP (c : Int) : Bool := decide (c < 32) || decide (126 < c) || ([32, 34, 35, 60, 62, 63, 94, 96, 123, 125] : List Int).contains c
def hxd (n : Int) : Int := if n < 10 then 48 + n else 55 + n
def enc1 (c : Int) : List Int := if inP c = true then [37, hxd (c / 16), hxd (c % 16)] else [c]
def encP (l : List Int) : List Int := l.flatMap enc1
theorem in_3 {c : Int} (h : byte c) : escape_In.f 3 4 c = some (inP c) := by
  obtain ⟨n, rfl, hn⟩ := nat_of h
  have H : ∀ n : Nat, n < 256 → escape_In.f 3 4 (n : Int) = some (inP (n : Int)) := by decide +kernel
  exact H n hn
theorem rin_f {c : Int} (h : byte c) : ∀ k, 8 ≤ k → carryallref02_In.f k 4 c = some (inP c) := by
  intro k hk
  induction k with
  | zero => omega
  | succ k ih =>
    rcases Nat.lt_or_ge k 8 with g | g
    · obtain rfl : k = 7 := by omega
      obtain ⟨n, rfl, hn⟩ := nat_of h
      have H : ∀ n : Nat, n < 256 → carryallref02_In.f 8 4 (n : Int) = some (inP (n : Int)) := by decide +kernel
      exact H n hn
    · exact carryallref02_In.mono _ _ k _ (ih g)
theorem one_f {c : Int} (h : byte c) : carryallref02_One.f c = some (strOfNums [37, hxd (c / 16), hxd (c % 16)]) := by
  obtain ⟨n, rfl, hn⟩ := nat_of h
  have H : ∀ n : Nat, n < 256 → carryallref02_One.f (n : Int) = some (strOfNums [37, hxd ((n : Int) / 16), hxd ((n : Int) % 16)]) := by decide +kernel
  exact H n hn
theorem enc_out {c : Int} (h : byte c) : (∀ y ∈ enc1 c, inP y = false ∧ byte y ∧ y ≠ 47 ∨ y = c) ∧ (enc1 c).length ≤ 3 := by
  obtain ⟨n, rfl, hn⟩ := nat_of h
  have H : ∀ n : Nat, n < 256 → ((enc1 (n : Int)).all fun y => (!inP y && decide (0 ≤ y) && decide (y ≤ 255) && decide (y ≠ 47)) || decide (y = (n : Int))) = true ∧ (enc1 (n : Int)).length ≤ 3 := by decide +kernel
  obtain ⟨h1, h2⟩ := H n hn
  refine ⟨fun y hy => ?_, h2⟩
  have := List.all_eq_true.1 h1 y hy
  simp only [Bool.or_eq_true, Bool.and_eq_true, Bool.not_eq_true', decide_eq_true_eq] at this
  rcases this with ⟨⟨⟨a, b⟩, c⟩, d⟩ | e
  · exact .inl ⟨a, ⟨b, c⟩, d⟩
  · exact .inr e
theorem enc_free {c : Int} (h : byte c) : ∀ y ∈ enc1 c, inP y = false := by
  obtain ⟨n, rfl, hn⟩ := nat_of h
  have H : ∀ n : Nat, n < 256 → ((enc1 (n : Int)).all fun y => !inP y) = true := by decide +kernel
  intro y hy
  simpa using List.all_eq_true.1 (H n hn) y hy
theorem enc_bytes {l : List Int} (h : ∀ x ∈ l, byte x) : ∀ y ∈ encP l, byte y := by
  intro y hy
  obtain ⟨x, hx, hy⟩ := List.mem_flatMap.1 hy
  rcases (enc_out (h x hx)).1 y hy with h1 | rfl
  · exact h1.2.1
  · exact h _ hx
theorem encP_len {l : List Int} (h : ∀ x ∈ l, byte x) : (encP l).length ≤ 3 * l.length := by
  unfold encP
  induction l with
  | nil => simp
  | cons c t ih =>
    rw [List.flatMap_cons, List.length_append, List.length_cons]
    have h1 := ih (fun x hx => h x (List.mem_cons_of_mem _ hx))
    have h2 := (enc_out (h c List.mem_cons_self)).2
    omega
theorem enc_same {l : List Int} (h : ∀ x ∈ l, inP x = false) : encP l = l := by
  unfold encP
  induction l with
  | nil => rfl
  | cons c t ih =>
    have e : enc1 c = [c] := by unfold enc1; rw [h c List.mem_cons_self]; rfl
    rw [List.flatMap_cons, ih (fun x hx => h x (List.mem_cons_of_mem _ hx)), e]
    rfl
theorem enc_enc {l : List Int} (h : ∀ x ∈ l, byte x) : encP (encP l) = encP l := by
  refine enc_same fun y hy => ?_
  obtain ⟨x, hx, hy⟩ := List.mem_flatMap.1 hy
  exact enc_free (h x hx) y hy
theorem go_f : ∀ {l : List Int}, (∀ x ∈ l, byte x) → escape_Encode.go 4 l = some (encP l)
  | [], _ => rfl
  | c :: t, h => by
    have hc := h c List.mem_cons_self
    rw [escape_Encode.go, if_pos (show 0 ≤ c ∧ c ≤ 255 from hc), in_3 hc, Option.bind_some, go_f (fun x hx => h x (List.mem_cons_of_mem _ hx))]
    show some (escape_Encode.enc1 (inP c) c ++ encP t) = some (enc1 c ++ encP t)
    rfl
theorem enc_f (s : ByteArray) (hs : s.size ≤ 1000000) : escape_Encode.f 4 (bytesOf s) = some (strOfNums (encP (bytesOf s))) := by
  unfold escape_Encode.f
  rw [if_pos (by rw [bytesOf_length]; omega), go_f (bytes_all s)]
  rfl
theorem renc_l0 (s : ByteArray) (hs : s.size ≤ 1000000) : ∀ (d i : Nat) (out : ByteArray) (k : Nat), s.size - i = d → i ≤ s.size → d + 10 ≤ k → out.size ≤ 3 * i →
    carryallref02_Encode.l0 k 4 s out (s.size : Int) (i : Int) = some (out ++ strOfNums (encP ((bytesOf s).drop i))) := by
  intro d
  induction d with
  | zero =>
    intro i out k hd hi hk ho
    obtain ⟨k, rfl⟩ : ∃ j, k = j + 1 := ⟨k - 1, by omega⟩
    rw [carryallref02_Encode.l0, if_neg (by omega), drop_end s i (by omega)]
    have : out ++ strOfNums (encP []) = out := by
      refine bytes_inj ?_
      rw [bytes_append]
      show bytesOf out ++ [] = _
      rw [List.append_nil]
    rw [this]
  | succ d ih =>
    intro i out k hd hi hk ho
    obtain ⟨k, rfl⟩ : ∃ j, k = j + 1 := ⟨k - 1, by omega⟩
    have hw : wrap64 ((i : Int) + 1) = ((i + 1 : Nat) : Int) := by rw [wrap_in (by omega) (by omega)]; omega
    have hb := bt_byte s (i : Int)
    have hS : ∀ (o : ByteArray), bytesOf o = enc1 (bt s (i : Int)) → out ++ o ++ strOfNums (encP ((bytesOf s).drop (i + 1))) = out ++ strOfNums (encP ((bytesOf s).drop i)) := by
      intro o hbo
      have e : encP ((bytesOf s).drop i) = enc1 (bt s (i : Int)) ++ encP ((bytesOf s).drop (i + 1)) := by rw [drop_bt s i (by omega)]; rfl
      rw [e, str_append, ← hbo, str_bytes, ByteArray.append_assoc]
    rw [carryallref02_Encode.l0, if_pos (by omega), if_pos (by omega), if_pos (by omega), rin_f hb k (by omega), Option.bind_some, hw]
    cases hc : inP (bt s (i : Int)) with
    | true =>
      have e1 : enc1 (bt s (i : Int)) = [37, hxd (bt s (i : Int) / 16), hxd (bt s (i : Int) % 16)] := by unfold enc1; rw [hc]; rfl
      have hbo : bytesOf (strOfNums [37, hxd (bt s (i : Int) / 16), hxd (bt s (i : Int) % 16)]) = enc1 (bt s (i : Int)) := by
        rw [← e1]
        refine bytes_str _ fun y hy => ?_
        rcases (enc_out hb).1 y hy with h1 | h1
        · exact h1.2.1
        · rw [h1]; exact hb
      have hz : (strOfNums [37, hxd (bt s (i : Int) / 16), hxd (bt s (i : Int) % 16)]).size = 3 := by rw [size_str]; rfl
      rw [if_pos rfl, one_f hb, Option.bind_some, hz, if_pos (by omega), ih (i + 1) _ k (by omega) (by omega) (by omega) (by rw [ByteArray.size_append, hz]; omega), hS _ hbo]
    | false =>
      have e1 : enc1 (bt s (i : Int)) = [bt s (i : Int)] := by unfold enc1; rw [hc]; rfl
      have hbo : bytesOf (s.extract i (i + 1)) = enc1 (bt s (i : Int)) := by
        rw [bytes_extract, drop_bt s i (by omega), e1]
        have : i + 1 - i = 1 := by omega
        rw [this]
        rfl
      have hz : (s.extract i (i + 1)).size = 1 := by rw [ByteArray.size_extract]; omega
      rw [if_neg Bool.false_ne_true, if_pos (by omega), if_pos (by omega), Int.toNat_natCast, Int.toNat_natCast, hz, if_pos (by omega), ih (i + 1) _ k (by omega) (by omega) (by omega) (by rw [ByteArray.size_append, hz]; omega), hS _ hbo]
theorem renc_f (s : ByteArray) (hs : s.size ≤ 1000000) (k : Nat) (hk : s.size + 10 ≤ k) : carryallref02_Encode.f k 4 s = some (strOfNums (encP (bytesOf s))) := by
  unfold carryallref02_Encode.f
  have := renc_l0 s hs s.size 0 ⟨#[]⟩ k (by omega) (by omega) (by omega) (by decide)
  rw [List.drop_zero] at this
  refine this.trans ?_
  congr 1

/-! one step; the walk -/
abbrev LL := List (List Int)
def shortL (file : Bool) (L : LL) : LL := if L.length = 0 then L else if file = true ∧ L.length = 1 ∧ norB (L.headD []) = true then L else L.take (L.length - 1)
def fixL (file : Bool) (L : LL) (x : List Int) : List Int := if file = true ∧ L.length = 0 ∧ drvB x = true then x.take 1 ++ [58] else x
def stepL (file : Bool) (L : LL) (x : List Int) (last : Bool) : LL :=
  if doubB x = true then shortL file L ++ (if last = true then [[]] else [])
  else if singB x = true then L ++ (if last = true then [[]] else [])
  else L ++ [encP (fixL file L x)]
def walkF (file : Bool) : LL → LL → LL
  | L, [] => L
  | L, [p] => stepL file L p true
  | L, p :: q :: r => walkF file (stepL file L p false) (q :: r)
def shortB (file : Bool) (X : List ByteArray) : List ByteArray := if X.length = 0 then X else if file = true ∧ X.length = 1 ∧ norB (bytesOf (X.headD ByteArray.empty)) = true then X else X.take (X.length - 1)
def stepB (file : Bool) (X : List ByteArray) (x : ByteArray) (last : Bool) : List ByteArray :=
  if doubB (bytesOf x) = true then shortB file X ++ (if last = true then [⟨#[]⟩] else [])
  else if singB (bytesOf x) = true then X ++ (if last = true then [⟨#[]⟩] else [])
  else X ++ [strOfNums (encP (fixL file (X.map bytesOf) (bytesOf x)))]
def walkB (file : Bool) : List ByteArray → List ByteArray → List ByteArray
  | X, [] => X
  | X, [p] => stepB file X p true
  | X, p :: q :: r => walkB file (stepB file X p false) (q :: r)
theorem head_map (X : List ByteArray) : bytesOf (X.headD ByteArray.empty) = (X.map bytesOf).headD [] := by cases X <;> rfl
theorem short_map (file : Bool) (X : List ByteArray) : (shortB file X).map bytesOf = shortL file (X.map bytesOf) := by
  unfold shortB shortL
  rw [List.length_map, head_map]
  split
  · rfl
  · split
    · rfl
    · rw [List.map_take]
theorem fix_bytes {file : Bool} {L : LL} {x : List Int} (h : ∀ c ∈ x, byte c) : ∀ c ∈ fixL file L x, byte c := by
  unfold fixL
  split
  · intro c hc
    rcases List.mem_append.1 hc with hc | hc
    · exact h c (List.mem_of_mem_take hc)
    · rw [List.mem_singleton.1 hc]; exact ⟨by omega, by omega⟩
  · exact h
theorem step_map (file : Bool) (X : List ByteArray) (x : ByteArray) (last : Bool) : (stepB file X x last).map bytesOf = stepL file (X.map bytesOf) (bytesOf x) last := by
  unfold stepB stepL
  split
  · rw [List.map_append, short_map]; congr 1; cases last <;> rfl
  · split
    · rw [List.map_append]; congr 1; cases last <;> rfl
    · rw [List.map_append, List.map_singleton, bytes_str _ (enc_bytes (fix_bytes (bytes_all x)))]
theorem walk_map (file : Bool) : ∀ (P X : List ByteArray), (walkB file X P).map bytesOf = walkF file (X.map bytesOf) (P.map bytesOf)
  | [], X => rfl
  | [p], X => by show (stepB file X p true).map bytesOf = _; rw [step_map]; rfl
  | p :: q :: r, X => by
    rw [walkB, walk_map file (q :: r), step_map]
    rfl
theorem short_len (file : Bool) (X : List ByteArray) : (shortB file X).length ≤ X.length := by
  unfold shortB
  split
  · exact Nat.le_refl _
  · split
    · exact Nat.le_refl _
    · rw [List.length_take]; omega
theorem step_len (file : Bool) (X : List ByteArray) (x : ByteArray) (last : Bool) : (stepB file X x last).length ≤ X.length + 1 := by
  unfold stepB
  have := short_len file X
  split
  · cases last <;> simp <;> omega
  · split
    · cases last <;> simp
    · simp
theorem head_rd (X : List ByteArray) : rdOf ByteArray.empty X 0 = X.headD ByteArray.empty := by cases X <;> rfl
theorem clone_f (X : List ByteArray) (h : X.length ≤ 2000000) : slices_Clone_string_string.f X = some X := by
  unfold slices_Clone_string_string.f
  rw [if_pos (by omega)]
theorem short_j (X : List ByteArray) (h : X.length ≤ 2000000) (h0 : 0 < X.length) (k : Nat) : path_Shorten.j0 (k + 1) X false = some (X.take (X.length - 1)) := by
  have hw : wrap64 ((X.length : Int) - 1) = ((X.length - 1 : Nat) : Int) := by rw [wrap_in (by omega) (by omega)]; omega
  rw [path_Shorten.j0, if_neg Bool.false_ne_true, hw, if_pos (by omega), if_pos (by omega), Int.toNat_natCast, clone_f _ (by rw [List.length_take]; omega)]
  rfl
theorem short_jt (X : List ByteArray) (h : X.length ≤ 2000000) (k : Nat) : path_Shorten.j0 (k + 1) X true = some X := by
  rw [path_Shorten.j0, if_pos rfl, clone_f X h]
  rfl
theorem short_f (file : Bool) (X : List ByteArray) (h : X.length ≤ 2000000) (k : Nat) (hk : 1 ≤ k) : path_Shorten.f k file X = some (shortB file X) := by
  obtain ⟨k, rfl⟩ : ∃ j, k = j + 1 := ⟨k - 1, by omega⟩
  unfold path_Shorten.f shortB
  by_cases h0 : X.length = 0
  · rw [if_pos (by omega), if_pos h0, short_jt X h]
  · rw [if_neg (by omega), if_neg h0]
    cases file
    · rw [if_neg Bool.false_ne_true, if_neg (fun e => Bool.false_ne_true e.1), short_j X h (by omega)]
    · rw [if_pos rfl]
      by_cases h1 : X.length = 1
      · rw [if_pos (by omega), if_pos (by omega), nor_f, Option.bind_some, head_rd]
        cases hn : norB (bytesOf (X.headD ByteArray.empty))
        · rw [if_neg (fun e => Bool.false_ne_true e.2.2), short_j X h (by omega)]
        · rw [if_pos ⟨rfl, h1, rfl⟩, short_jt X h]
      · rw [if_neg (by omega), if_neg (fun e => h1 e.2.1), short_j X h (by omega)]
theorem rshort_t (X : List ByteArray) (h : X.length ≤ 2000000) (h0 : 0 < X.length) : ((some (([] : List ByteArray) : List ByteArray)).bind fun y213 => (if 0 ≤ (wrap64 ((X.length : Int) - 1)) then (if (wrap64 ((X.length : Int) - 1)) ≤ (X.length : Int) then ((some (X.take ((wrap64 ((X.length : Int) - 1)) : Int).toNat : List ByteArray)).bind fun y216 => (if y213.length + y216.length < 8796093022208 then (some (y213 ++ y216)) else (none))) else (none)) else (none))) = some (X.take (X.length - 1)) := by
  have hw : wrap64 ((X.length : Int) - 1) = ((X.length - 1 : Nat) : Int) := by rw [wrap_in (by omega) (by omega)]; omega
  rw [Option.bind_some, hw, if_pos (by omega), if_pos (by omega), Option.bind_some, Int.toNat_natCast, if_pos (by rw [List.length_take]; simp; omega), List.nil_append]
theorem rshort_f (file : Bool) (X : List ByteArray) (h : X.length ≤ 2000000) : carryallref10_Shorten.f file X = some (shortB file X) := by
  unfold carryallref10_Shorten.f shortB
  by_cases h0 : X.length = 0
  · rw [if_pos (by omega), if_pos h0]
  · rw [if_neg (by omega), if_neg h0]
    cases file
    · rw [if_neg Bool.false_ne_true, if_neg (fun e => Bool.false_ne_true e.1)]
      exact rshort_t X h (by omega)
    · rw [if_pos rfl]
      by_cases h1 : X.length = 1
      · rw [if_pos (by omega), if_pos (by omega), rnor_f, Option.bind_some, head_rd]
        cases hn : norB (bytesOf (X.headD ByteArray.empty))
        · rw [if_neg Bool.false_ne_true, if_neg (fun e => Bool.false_ne_true e.2.2)]
          exact rshort_t X h (by omega)
        · rw [if_pos rfl, if_pos ⟨rfl, h1, rfl⟩]
      · rw [if_neg (by omega), if_neg (fun e => h1 e.2.1)]
        exact rshort_t X h (by omega)
theorem fix_no {file : Bool} {X : List ByteArray} {x : List Int} (h : ¬ (file = true ∧ X.length = 0 ∧ drvB x = true)) : fixL file (X.map bytesOf) x = x := by
  unfold fixL
  rw [List.length_map, if_neg h]
theorem drv_size {s : ByteArray} (h : drvB (bytesOf s) = true) : s.size = 2 := by
  rcases Nat.lt_trichotomy s.size 2 with g | g | g
  · rw [(not_two (by omega)).1] at h; cases h
  · exact g
  · rw [(not_two (by omega)).1] at h; cases h
theorem fix_yes {file : Bool} {X : List ByteArray} {s : ByteArray} (h1 : file = true) (h2 : X.length = 0) (h3 : drvB (bytesOf s) = true) : bytesOf (s.extract 0 1 ++ (⟨#[58]⟩ : ByteArray)) = fixL file (X.map bytesOf) (bytesOf s) := by
  unfold fixL
  rw [List.length_map, if_pos ⟨h1, h2, h3⟩, bytes_append, bytes_to]
  rfl
theorem fix_size {s : ByteArray} (h3 : drvB (bytesOf s) = true) : (s.extract 0 1 ++ (⟨#[58]⟩ : ByteArray)).size = 2 := by
  have := drv_size h3
  rw [ByteArray.size_append, ByteArray.size_extract]
  have e : (⟨#[58]⟩ : ByteArray).size = 1 := rfl
  omega
theorem step_f (file : Bool) (X : List ByteArray) (h : X.length ≤ 1000000) (x : ByteArray) (hx : x.size ≤ 1000000) (last : Bool) (k : Nat) (hk : x.size + 2 ≤ k) : path_step.f k file X x last = some (stepB file X x last) := by
  unfold path_step.f stepB
  rw [doub_f x hx k (by omega), Option.bind_some]
  cases hd : doubB (bytesOf x)
  · rw [if_neg Bool.false_ne_true, if_neg Bool.false_ne_true, sing_f x hx k (by omega), Option.bind_some]
    cases hs : singB (bytesOf x)
    · rw [if_neg Bool.false_ne_true, if_neg Bool.false_ne_true]
      by_cases h1 : file = true
      · rw [if_pos h1]
        by_cases h2 : X.length = 0
        · rw [if_pos (by omega), drv_f, Option.bind_some]
          cases h3 : drvB (bytesOf x)
          · rw [if_neg Bool.false_ne_true, if_pos (by omega), enc_f x hx, Option.bind_some, if_pos (by omega), fix_no (by rw [h3]; simp)]
          · have hz := drv_size h3
            have hz2 := fix_size h3
            have he : (x.extract 0 1).size = 1 := by rw [ByteArray.size_extract]; omega
            rw [if_pos rfl, if_pos (by decide), if_pos (by omega), if_pos (by omega), if_pos (by omega), enc_f _ (by omega), Option.bind_some, if_pos (by omega), fix_yes h1 h2 h3]
        · rw [if_neg (by omega), if_pos (by omega), enc_f x hx, Option.bind_some, if_pos (by omega), fix_no (fun e => h2 e.2.1)]
      · rw [if_neg h1, if_pos (by omega), enc_f x hx, Option.bind_some, if_pos (by omega), fix_no (fun e => h1 e.1)]
    · rw [if_pos rfl, if_pos rfl]
      cases last
      · simp
      · rw [if_pos rfl, if_pos (by omega), if_pos rfl]
  · have hl := short_len file X
    rw [if_pos rfl, if_pos rfl, short_f file X (by omega) k (by omega), Option.bind_some]
    cases last
    · simp
    · rw [if_pos rfl, if_pos (by omega), if_pos rfl]
theorem drop_P (L : List ByteArray) (k : Nat) (h : k < L.length) : L.drop k = rdOf ByteArray.empty L (k : Int) :: L.drop (k + 1) := by
  rw [List.drop_eq_getElem_cons h]
  congr 1
  unfold rdOf
  rw [Int.toNat_natCast, List.getD_eq_getElem?_getD, List.getElem?_eq_getElem h]
  rfl
theorem walk_l0 (file : Bool) (P : List ByteArray) (B : Nat) (hB : B ≤ 900000) (hP : P.length ≤ 600000) (hz : ∀ x ∈ P, x.size ≤ B) : ∀ (d i : Nat) (X : List ByteArray) (k : Nat), P.length - i = d → i ≤ P.length → d + B + 4 ≤ k → X.length ≤ 100000 + i →
    path_Walk.l0 k file X P P (P.length : Int) (i : Int) = some (walkB file X (P.drop i)) := by
  intro d
  induction d with
  | zero =>
    intro i X k hd hi hk hX
    obtain ⟨k, rfl⟩ : ∃ j, k = j + 1 := ⟨k - 1, by omega⟩
    rw [path_Walk.l0, if_neg (by omega), List.drop_eq_nil_of_le (by omega), walkB]
  | succ d ih =>
    intro i X k hd hi hk hX
    obtain ⟨k, rfl⟩ : ∃ j, k = j + 1 := ⟨k - 1, by omega⟩
    have hw : wrap64 ((i : Int) + 1) = ((i + 1 : Nat) : Int) := by rw [wrap_in (by omega) (by omega)]; omega
    have hlen : wrap64 ((P.length : Int) - 1) = ((P.length - 1 : Nat) : Int) := by rw [wrap_in (by omega) (by omega)]; omega
    have hmem : rdOf ByteArray.empty P (i : Int) ∈ P := by
      have := drop_P P i (by omega)
      exact List.mem_of_mem_drop (i := i) (by rw [this]; exact List.mem_cons_self)
    have hsz := hz _ hmem
    have hsl := step_len file X (rdOf ByteArray.empty P (i : Int)) ((i : Int) == ((P.length - 1 : Nat) : Int))
    rw [path_Walk.l0, if_pos (by omega), if_pos (by omega), if_pos (by omega), hlen, step_f file X (by omega) _ (by omega) _ k (by omega), Option.bind_some, hw, ih (i + 1) _ k (by omega) (by omega) (by omega) (by omega), drop_P P i (by omega)]
    by_cases hl : i + 1 = P.length
    · rw [List.drop_eq_nil_of_le (show P.length ≤ i + 1 by omega), walkB, beq_iff_eq.2 (show (i : Int) = ((P.length - 1 : Nat) : Int) by omega), walkB]
    · rw [drop_P P (i + 1) (by omega), beq_false_of_ne (show ¬ (i : Int) = ((P.length - 1 : Nat) : Int) by omega)]
      show _ = some (walkB file X (rdOf ByteArray.empty P (i : Int) :: rdOf ByteArray.empty P ((i + 1 : Nat) : Int) :: P.drop (i + 1 + 1)))
      rw [walkB]

/-! the pieces -/
def sepm (special : Bool) (l : List Int) : List Int := if special = true then l.map fun c => if c = 92 then 47 else c else l
def segs (special : Bool) (s : ByteArray) : List ByteArray := (splitL 47 (sepm special (bytesOf s))).map strOfNums
theorem repl_one (c d : UInt8) : ∀ l : List UInt8, Lib.replaceK [c] [d] (Lib.count l [c]) l = l.map fun b => if b = c then d else b
  | [] => by rw [Lib.count_one]; rfl
  | b :: l => by
    have ih := repl_one c d l
    by_cases h : b = c
    · subst h
      have hix : Lib.index (b :: l) [b] = ((0 : Nat) : Int) := by rw [Lib.index]; simp [List.isPrefixOf]
      rw [Lib.count_cons_eq, Nat.add_comm 1, Lib.replaceK_hit _ _ _ _ 0 hix, List.map_cons, if_pos rfl, ← ih]
      rfl
    · rw [Lib.count_cons_ne b c l h, List.map_cons, if_neg h, ← ih]
      have hp : ([c] : List UInt8).isPrefixOf (b :: l) = false := by simp [List.isPrefixOf, Ne.symm h]
      have hix : Lib.index (b :: l) [c] = if Lib.index l [c] == -1 then -1 else Lib.index l [c] + 1 := by rw [Lib.index, hp]; simp
      cases hk : Lib.count l [c] with
      | zero => rfl
      | succ k =>
        obtain ⟨j, hj⟩ := Lib.index_of_count (s := l) (old := [c]) (by omega)
        have hix' : Lib.index (b :: l) [c] = ((j + 1 : Nat) : Int) := by rw [hix, if_neg (fun e => by have := beq_iff_eq.1 e; omega), hj]; omega
        rw [Lib.replaceK_hit _ _ _ _ j hj, Lib.replaceK_hit _ _ _ _ (j + 1) hix']
        rfl
theorem repl_bytes (s : ByteArray) : bytesOf (⟨(Lib.replaceAll s.data.toList [92] [47]).toArray⟩ : ByteArray) = (bytesOf s).map fun c => if c = 92 then 47 else c := by
  rw [bytes_mk]
  unfold Lib.replaceAll Lib.replace Lib.replaceNum
  rw [if_neg (by decide), if_pos (.inl (by decide)), repl_one]
  show toI _ = (toI s.data.toList).map _
  unfold toI
  rw [List.map_map, List.map_map]
  refine List.map_congr_left fun b _ => ?_
  show ((if b = 92 then (47 : UInt8) else b).toNat : Int) = if (b.toNat : Int) = 92 then 47 else (b.toNat : Int)
  by_cases h : b = 92
  · subst h; rfl
  · rw [if_neg h, if_neg]
    intro e
    exact h (UInt8.toNat_inj.1 (by have : (92 : UInt8).toNat = 92 := rfl; omega))
theorem segs_len (special : Bool) (s : ByteArray) : (segs special s).length ≤ s.size + 1 := by
  unfold segs sepm
  rw [List.length_map]
  have h := splitL_count 47 (if special = true then (bytesOf s).map fun c => if c = 92 then 47 else c else bytesOf s)
  have e : (if special = true then (bytesOf s).map fun c => if c = 92 then 47 else c else bytesOf s).length = s.size := by
    split
    · rw [List.length_map, bytesOf_length]
    · exact bytesOf_length s
  omega
theorem sepm_len (special : Bool) (l : List Int) : (sepm special l).length = l.length := by
  unfold sepm
  split
  · rw [List.length_map]
  · rfl
theorem sepm_bytes {special : Bool} {l : List Int} (h : ∀ x ∈ l, byte x) : ∀ x ∈ sepm special l, byte x := by
  unfold sepm
  split
  · intro x hx
    obtain ⟨y, hy, rfl⟩ := List.mem_map.1 hx
    split
    · exact ⟨by omega, by omega⟩
    · exact h y hy
  · exact h
theorem segs_size (special : Bool) (s : ByteArray) : ∀ x ∈ segs special s, x.size ≤ s.size := by
  intro x hx
  obtain ⟨p, hp, rfl⟩ := List.mem_map.1 hx
  rw [size_str]
  have := splitL_len 47 _ p hp
  rw [sepm_len, bytesOf_length] at this
  exact this
theorem split_f (s : ByteArray) (hs : s.size ≤ 1000000) : strings_Split.f s ⟨#[47]⟩ = some ((splitL 47 (bytesOf s)).map strOfNums) := by
  unfold strings_Split.f
  rw [if_pos ⟨by omega, by decide⟩]
  exact congrArg some (mapB (split_bytes 47 s))
theorem walk_j0 (file : Bool) (X : List ByteArray) (hX : X.length ≤ 100000) (s t : ByteArray) (special : Bool) (hs : s.size ≤ 590000) (ht : bytesOf t = sepm special (bytesOf s)) (k : Nat) (hk : 2 * s.size + 10 ≤ k) : path_Walk.j0 k file t X = some (walkB file X (segs special s)) := by
  obtain ⟨k, rfl⟩ : ∃ j, k = j + 1 := ⟨k - 1, by omega⟩
  have hz : t.size = s.size := by rw [← bytesOf_length, ht, sepm_len, bytesOf_length]
  have hsg : (splitL 47 (bytesOf t)).map strOfNums = segs special s := by rw [ht]; rfl
  have hl := segs_len special s
  rw [path_Walk.j0, split_f t (by omega), Option.bind_some, hsg]
  have := walk_l0 file (segs special s) s.size (by omega) (by omega) (segs_size special s) _ 0 X k rfl (by omega) (by omega) (by omega)
  rwa [List.drop_zero] at this
theorem walk_f (file special : Bool) (X : List ByteArray) (hX : X.length ≤ 100000) (s : ByteArray) (hs : s.size ≤ 590000) (k : Nat) (hk : 2 * s.size + 20 ≤ k) : path_Walk.f k file special X s = some (walkB file X (segs special s)) := by
  unfold path_Walk.f
  rw [clone_f X (by omega), Option.bind_some]
  cases special
  · rw [if_neg Bool.false_ne_true]
    exact walk_j0 file X hX s s false hs rfl k (by omega)
  · rw [if_pos rfl]
    unfold strings_ReplaceAll.f
    rw [if_pos ⟨by omega, by decide, by decide⟩, Option.bind_some]
    exact walk_j0 file X hX s _ true hs (repl_bytes s) k (by omega)
theorem same_l0 (X : List ByteArray) (hX : X.length ≤ 1000000) : ∀ (d i k : Nat), X.length - i = d → i ≤ X.length → d + 1 ≤ k → carryallref10_Same.l0 k X X (X.length : Int) (i : Int) = some true := by
  intro d
  induction d with
  | zero =>
    intro i k hd hi hk
    obtain ⟨k, rfl⟩ : ∃ j, k = j + 1 := ⟨k - 1, by omega⟩
    rw [carryallref10_Same.l0, if_neg (by omega)]
  | succ d ih =>
    intro i k hd hi hk
    obtain ⟨k, rfl⟩ : ∃ j, k = j + 1 := ⟨k - 1, by omega⟩
    have hw : wrap64 ((i : Int) + 1) = ((i + 1 : Nat) : Int) := by rw [wrap_in (by omega) (by omega)]; omega
    rw [carryallref10_Same.l0, if_pos (by omega), if_pos (by omega), if_pos (by omega), if_pos (by omega), if_pos rfl, hw, ih (i + 1) k (by omega) (by omega) (by omega)]
theorem same_f (X : List ByteArray) (hX : X.length ≤ 1000000) (k : Nat) (hk : X.length + 1 ≤ k) : carryallref10_Same.f k X X = some true := by
  unfold carryallref10_Same.f
  rw [if_pos rfl]
  exact same_l0 X hX _ 0 k rfl (by omega) (by omega)
theorem map_inj {X Y : List ByteArray} (h : X.map bytesOf = Y.map bytesOf) : X = Y := by
  exact (mapB (xs := X) rfl).trans ((congrArg (List.map strOfNums) h).trans (mapB (xs := Y) rfl).symm)
end Go.Proofs.YtpdkncchjkkmeaaDoor.Path
