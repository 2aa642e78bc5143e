/- Segments that are neither points, nor drives, nor have anything to be escaped, just follow: what the law computes, and its walk. -/
import Derived.Test.YtpdkncchjkkmeaaDoorPx4
import Derived.Test.YtpdkncchjkkmeaaDoorPx8
import Derived.Test.YtpdkncchjkkmeaaDoorPathS
import Derived.Test.YtpdkncchjkkmeaaDoorPathAwake
namespace Go.Proofs.YtpdkncchjkkmeaaDoor.Path
open Go.RowKit Go.Proofs.YtpdkncchjkkmeaaDoor.P Go.Proofs.YtpdkncchjkkmeaaDoor.Pl Go.Proofs.YtpdkncchjkkmeaaDoor.Spl Go.Proofs.YtpdkncchjkkmeaaDoorW.PrintWords Go.Proofs.YtpdkncchjkkmeaaDoorW.PrintLast Go.Proofs.YtpdkncchjkkmeaaDoorW.PrintMore
set_option linter.unusedVariables false
theorem few_l0 (X : List ByteArray) (hX : X.length ≤ 9223372036854775807) : ∀ (d i k : Nat), X.length - i = d → i ≤ X.length → d + 1 ≤ k → ∃ b, carryalllaw10_few.l0 k X (X.length : Int) (i : Int) = some b ∧ (b = true → X.length ≤ 20) := by
  intro d
  induction d with
  | zero =>
    intro i k hd hi hk
    obtain ⟨k, rfl⟩ : ∃ j, k = j + 1 := ⟨k - 1, by omega⟩
    rw [carryalllaw10_few.l0, if_neg (by omega)]
    exact ⟨_, rfl, fun h => by have := of_decide_eq_true h; omega⟩
  | succ d ih =>
    intro i k hd hi hk
    obtain ⟨k, rfl⟩ : ∃ j, k = j + 1 := ⟨k - 1, by omega⟩
    have hw : wrap64 ((i : Int) + 1) = ((i + 1 : Nat) : Int) := by rw [wrap_in (by omega) (by omega)]; omega
    rw [carryalllaw10_few.l0, if_pos (by omega), if_pos (by omega), if_pos (by omega)]
    split
    · exact ⟨false, rfl, fun h => by cases h⟩
    · rw [hw]; exact ih (i + 1) k (by omega) (by omega) (by omega)
theorem splitL_app (c : Int) : ∀ (a b : List Int), splitL c (a ++ c :: b) = splitL c a ++ splitL c b
  | [], b => splitL_cut c [] b (by simp)
  | x :: a, b => by
    have ih := splitL_app c a b
    rw [List.cons_append, splitL, splitL, ih]
    by_cases h : x = c
    · rw [if_pos h, if_pos h]; rfl
    · rw [if_neg h, if_neg h]
      have hne := splitL_ne c a
      cases e : splitL c a with
      | nil => exact absurd e hne
      | cons y t => rfl
def plainSeg (p : List Int) : Prop := (∀ sp, good sp p) ∧ drvB p = false
theorem plain_of {a b : Int} (ha : byte a ∧ inP a = false ∧ a ≠ 47 ∧ a ≠ 92 ∧ a ≠ 46) (hb : byte b ∧ inP b = false ∧ b ≠ 47 ∧ b ≠ 92 ∧ b ≠ 58 ∧ b ≠ 124) : plainSeg [a, b] := by
  have hd : dl [a, b] = none := by simp [dl, ha.2.2.2.2]
  refine ⟨fun sp => ⟨?_, ?_, ?_, ?_, ?_, ?_⟩, ?_⟩
  · intro x hx; simp at hx; rcases hx with rfl | rfl
    · exact ha.1
    · exact hb.1
  · intro x hx; simp at hx; rcases hx with rfl | rfl
    · exact ha.2.1
    · exact hb.2.1
  · intro x hx; simp at hx; rcases hx with rfl | rfl
    · exact ha.2.2.1
    · exact hb.2.2.1
  · intro _ x hx; simp at hx; rcases hx with rfl | rfl
    · exact ha.2.2.2.1
    · exact hb.2.2.2.1
  · unfold doubB; rw [hd]; rfl
  · unfold singB; rw [hd]; rfl
  · simp [drvB, hb.2.2.2.2.1, hb.2.2.2.2.2]
theorem plain_x0 : plainSeg [120, 48] := plain_of (by unfold byte; decide) (by unfold byte; decide)
theorem plain_y (i : Nat) (h : i < 20) : plainSeg [121, 97 + (i : Int)] := by
  have H : ∀ i : Nat, i < 20 → inP (97 + (i : Int)) = false := by decide
  exact plain_of (by unfold byte; decide) ⟨⟨by omega, by omega⟩, H i h, by omega, by omega, by omega, by omega⟩
theorem plain_l0 (file special : Bool) (X : List ByteArray) (hX : X.length ≤ 20) (n : Nat) (hn : n ≤ 20) : ∀ (d i : Nat) (s : ByteArray) (Wn : List ByteArray) (L : LL) (k : Nat), n - i = d → i ≤ n → d + 1000 ≤ k → Wn = X ++ L.map strOfNums → splitL 47 (bytesOf s) = L → (∀ p ∈ L, plainSeg p) → s.size ≤ 3 * i + 2 → L.length = i + 1 →
    carryalllaw10_PathPlain.l0 k file special X s Wn (n : Int) (i : Int) = some true := by
  intro d
  induction d with
  | zero =>
    intro i s Wn L k hd hi hk hW hs hL hz hlen
    obtain ⟨k, rfl⟩ : ∃ j, k = j + 1 := ⟨k - 1, by omega⟩
    have hsep : sepm special (bytesOf s) = bytesOf s := by
      refine sepm_same fun hsp => ?_
      intro x hx e
      subst e
      have : ∃ p ∈ splitL 47 (bytesOf s), (92 : Int) ∈ p := mem_split hx (by decide)
      obtain ⟨p, hp, h92⟩ := this
      rw [hs] at hp
      exact ((hL p hp).1 true).2.2.2.1 rfl 92 h92 rfl
    have hwalk : walkB file X (segs special s) = Wn := by
      refine map_inj ?_
      rw [walk_map, segs_map, hsep, hs, hW, List.map_append, mapBytes L (fun p hp => ((hL p hp).1 special).1)]
      refine walk_stay (special := special) L _ (fun p hp => (hL p hp).1 special) (fun _ hf p r e hd => ?_)
      rw [(hL p (by rw [e]; exact List.mem_cons_self)).2] at hd
      cases hd
    rw [carryalllaw10_PathPlain.l0, if_neg (by omega), walk_f file special X (by omega) s (by omega) k (by omega), Option.bind_some, hwalk, same_f Wn (by rw [hW, List.length_append, List.length_map]; omega) k (by rw [hW, List.length_append, List.length_map]; omega)]
    rfl
  | succ d ih =>
    intro i s Wn L k hd hi hk hW hs hL hz hlen
    obtain ⟨k, rfl⟩ : ∃ j, k = j + 1 := ⟨k - 1, by omega⟩
    have hw : wrap64 ((i : Int) + 1) = ((i + 1 : Nat) : Int) := by rw [wrap_in (by omega) (by omega)]; omega
    have hm : (97 + ((i : Int)) % 256) % 256 = 97 + (i : Int) := by omega
    have hb : bytesOf (strOfNums [97 + (i : Int)]) = [97 + (i : Int)] := bytes_str _ (by intro x hx; rw [List.mem_singleton.1 hx]; exact ⟨by omega, by omega⟩)
    have hz1 : (strOfNums [97 + (i : Int)]).size = 1 := by rw [size_str]; rfl
    have l1 : (⟨#[47]⟩ : ByteArray).size = 1 := rfl
    have l2 : (⟨#[121]⟩ : ByteArray).size = 1 := rfl
    have e1 : bytesOf (⟨#[47]⟩ : ByteArray) = [47] := rfl
    have e2 : bytesOf (⟨#[121]⟩ : ByteArray) = [121] := rfl
    have sz1 : (s ++ (⟨#[47]⟩ : ByteArray)).size = s.size + 1 := by rw [ByteArray.size_append, l1]
    have sz2 : ((⟨#[121]⟩ : ByteArray) ++ strOfNums [97 + (i : Int)]).size = 2 := by rw [ByteArray.size_append, l2, hz1]
    have hy : bytesOf ((⟨#[121]⟩ : ByteArray) ++ strOfNums [97 + (i : Int)]) = [121, 97 + (i : Int)] := by rw [bytes_append, e2, hb]; rfl
    have hWl : Wn.length ≤ 1000 := by rw [hW, List.length_append, List.length_map]; omega
    have hyn := (plain_y i (by omega)).1 false
    rw [carryalllaw10_PathPlain.l0, if_pos (by omega), Option.bind_some, hm, hz1, if_pos (by omega), if_pos (by omega), if_pos (by omega), if_pos (by omega), hw]
    refine ih (i + 1) _ _ (L ++ [[121, 97 + (i : Int)]]) k (by omega) (by omega) (by omega) ?_ ?_ ?_ (by rw [ByteArray.size_append]; omega) (by rw [List.length_append, List.length_singleton]; omega)
    · rw [hW, List.map_append, List.append_assoc, List.map_singleton]
      have : strOfNums [121, 97 + (i : Int)] = (⟨#[121]⟩ : ByteArray) ++ strOfNums [97 + (i : Int)] := by rw [← hy, str_bytes]
      rw [this]
    · rw [bytes_append, bytes_append, e1, hy, List.append_assoc, List.singleton_append, splitL_app, hs, splitL_one 47 _ hyn.2.2.1]
    · intro p hp
      rcases List.mem_append.1 hp with hp | hp
      · exact hL p hp
      · rw [List.mem_singleton.1 hp]; exact plain_y i (by omega)
theorem plain_pure (file special : Bool) (X : List ByteArray) (c : Int) (hX : X.length ≤ maxLen) (hc : (Lit.int .u8 c).wf = true) : ∃ k, carryalllaw10_PathPlain.f k file special X c = some true := by
  obtain ⟨n, rfl, hn⟩ := u8_of hc
  have hm : maxLen = 9223372036854775807 := rfl
  obtain ⟨K, hK⟩ : ∃ K : Nat, 10000 + X.length ≤ K := ⟨10000 + X.length, Nat.le_refl _⟩
  refine ⟨K + 1, ?_⟩
  obtain ⟨b, hb, hb2⟩ := few_l0 X (by omega) _ 0 (K + 1) rfl (by omega) (by omega)
  unfold carryalllaw10_PathPlain.f
  rw [awake_at (K + 1) (by omega), Option.bind_some, if_pos rfl]
  unfold carryalllaw10_few.f
  have hb' : carryalllaw10_few.l0 (K + 1) X (X.length : Int) 0 = some b := hb
  rw [hb', Option.bind_some, carryalllaw10_PathPlain.j0]
  cases b with
  | false => rw [if_pos (by decide), awake_at K (by omega)]; rfl
  | true =>
    have h20 := hb2 rfl
    have hmod : wrap64 (Int.tmod (n : Int) 20) = ((n % 20 : Nat) : Int) := by
      have : Int.tmod (n : Int) 20 = ((n % 20 : Nat) : Int) := rfl
      rw [this, wrap_in (by omega) (by omega)]
    rw [if_neg (by decide), Option.bind_some, if_pos (by simp; omega), Option.bind_some, if_pos (by simp; omega), hmod]
    have := plain_l0 file special X h20 (n % 20) (by omega) _ 0 ⟨#[120, 48]⟩ ([] ++ X ++ [⟨#[120, 48]⟩]) [[120, 48]] K rfl (by omega) (by omega) (by rw [List.nil_append]; rfl) (by decide) (by intro p hp; rw [List.mem_singleton.1 hp]; exact plain_x0) (by decide) rfl
    exact this
theorem plain_walk (a0 a1 : Bool) (A2 : Option Addr) (c2 : Nat) (l2 : List ByteArray) (a3 : Int) (W : World) (rd : Kd.C Kd.string W A2 l2.length l2) (lc : l2.length ≤ c2) (lm : l2.length ≤ maxLen) (w3 : (Lit.int .u8 a3).wf = true) (hT : G.T W) :
    Calls Tryd.prog 5 #[.bool a0, .bool a1, .slice A2 l2.length c2, .int .u8 a3] W fun e w' => e = .returned (.bool true) ∧ Below W.heap.size W w' := by
  obtain ⟨k, h⟩ := plain_pure a0 a1 l2 a3 lm w3
  exact carryalllaw10_PathPlain.calls k a0 a1 A2 c2 l2 a3 true W rd lc h hT
end Go.Proofs.YtpdkncchjkkmeaaDoor.Path
