/- Chapter 22: as many as there is room for are there; one more only when one went: the law's walk. -/
import Derived.Test.YtbpdbgpnlcbdiaaTabC
import Derived.Test.YtbpdbgpnlcbdiaaTabN
namespace Go.Proofs.Ytbpdbgpnlcbdiaa.Tab
open Go.RowKit Go.Proofs.YtbpdbgpnlcbdiaaW.PrintWords Go.Proofs.YtbpdbgpnlcbdiaaW.PrintLast Go.Proofs.YtbpdbgpnlcbdiaaW.PrintMore
set_option linter.unusedVariables false
set_option linter.unusedSimpArgs false
/-- The things that the law puts in lie in blocks of their own: block D k holds the number k. -/
def Things (f : Nat → Nat) (k : Nat) : List (Int × Value) := (List.range k).map fun (j : Nat) => ((j : Int) + 1, Value.slice (some ⟨f j, 0, none⟩) 1 1)
def Lie (f : Nat → Nat) (k : Nat) (w : World) : Prop := ∀ j, j < k → w.heap[f j]? = some (.cells #[.int .i64 (j : Int)] 3 (0, 0))
theorem things_len (f : Nat → Nat) (k : Nat) : (Things f k).length = k := by unfold Things; simp
theorem things_at (f : Nat → Nat) (k j : Nat) (hj : j < k) : (Things f k)[j]? = some ((j : Int) + 1, Value.slice (some ⟨f j, 0, none⟩) 1 1) := by
  unfold Things
  simp [hj]
theorem things_ty (f : Nat → Nat) (k : Nat) : All_ints (Things f k) := by
  intro p hp
  unfold Things at hp
  obtain ⟨j, _, rfl⟩ := List.mem_map.1 hp
  exact ⟨_, _, _, rfl⟩
theorem things_succ (f g : Nat → Nat) (k D : Nat) (hg : ∀ j, j < k → g j = f j) (hD : g k = D) : Things g (k + 1) = Things f k ++ [((k : Int) + 1, Value.slice (some ⟨D, 0, none⟩) 1 1)] := by
  unfold Things
  rw [List.range_succ, List.map_append]
  congr 1
  · refine List.map_congr_left fun j hj => ?_
    rw [hg j (List.mem_range.1 hj)]
  · simp [hD]
theorem things_pos (f : Nat → Nat) (k j : Nat) (hj : j < k) : posI (Things f k) ((j : Int) + 1) = (j : Int) := by
  refine posI_at _ _ j _ (things_at f k j hj) rfl (fun i q hi hq => ?_)
  rw [things_at f k i (by omega)] at hq
  injection hq with hq
  rw [← hq]
  show (i : Int) + 1 ≠ (j : Int) + 1
  omega
theorem Lie.keeps {f : Nat → Nat} {k : Nat} {w w' : World} (h : Lie f k w) (hk : Keeps 64 66 w w') : Lie f k w' := fun j hj => hk _ _ _ _ (h j hj) (by decide) (by decide)
theorem Lie.below {f : Nat → Nat} {k : Nat} {w w' : World} (h : Lie f k w) (hb : Below w.heap.size w w') : Lie f k w' := fun j hj => (hb.block _ (Array.getElem?_eq_some_iff.1 (h j hj)).1).trans (h j hj)
theorem Lie.cell {f : Nat → Nat} {k : Nat} {w : World} (h : Lie f k w) (j : Nat) (hj : j < k) : w.cell? ⟨f j, 0, none⟩ = some (.int .i64 (j : Int)) := by
  unfold World.cell?
  rw [h j hj]
  rfl
theorem erase_ty {l : List (Int × Value)} (h : All_ints l) (k : Nat) : All_ints (l.eraseIdx k) := fun p hp => h p (List.mem_of_mem_eraseIdx hp)
theorem snoc_ty {l : List (Int × Value)} (h : All_ints l) (a : Int) (xa : Option Addr) (xn xc : Nat) : All_ints (l ++ [(a, Value.slice xa xn xc)]) := by
  intro p hp
  rcases List.mem_append.1 hp with hp | hp
  · exact h p hp
  · simp at hp; subst hp; exact ⟨_, _, _, rfl⟩
/-- The handle that came last is where it was put. -/
theorem last_pos (f : Nat → Nat) (n g : Nat) (hg : g < n) (v : Value) : posI ((Things f n).eraseIdx g ++ [((n : Int) + 1, v)]) ((n : Int) + 1) = ((n - 1 : Nat) : Int) ∧ ((Things f n).eraseIdx g ++ [((n : Int) + 1, v)])[n - 1]? = some ((n : Int) + 1, v) := by
  have hel : ((Things f n).eraseIdx g).length = n - 1 := by rw [List.length_eraseIdx, things_len, if_pos hg]
  have hat : ((Things f n).eraseIdx g ++ [((n : Int) + 1, v)])[n - 1]? = some ((n : Int) + 1, v) := by
    rw [List.getElem?_append_right (by omega), hel]
    simp
  refine ⟨posI_at _ _ (n - 1) _ hat rfl (fun j q hj hq => ?_), hat⟩
  rw [List.getElem?_append_left (by omega)] at hq
  have hm := List.mem_of_mem_eraseIdx (List.mem_of_getElem? hq)
  unfold Things at hm
  obtain ⟨i, hi, rfl⟩ := List.mem_map.1 hm
  have := List.mem_range.1 hi
  show (i : Int) + 1 ≠ (n : Int) + 1
  omega
set_option maxHeartbeats 1000000 in
set_option maxRecDepth 100000 in
theorem full_walk (r s : Int) (hr : 0 ≤ r ∧ r ≤ 255) (hs : 0 ≤ s ∧ s ≤ 255) (w : World) :
    Calls Try.prog 4 #[.int .u8 r, .int .u8 s] w fun e w' => e = .returned (.bool true) ∧ Below w.heap.size w w' := by
  have HA := Aside0.mk awake_walk
  have hr0 := hr.1
  have hr1 := hr.2
  have hs0 := hs.1
  have hs1 := hs.2
  clear hr hs
  obtain ⟨n, hn, hn1, hn64⟩ : ∃ n : Nat, 1 + r % 64 = (n : Int) ∧ 1 ≤ n ∧ n ≤ 64 := ⟨(1 + r % 64).toNat, by omega, by omega, by omega⟩
  obtain ⟨g, hg, hgn⟩ : ∃ g : Nat, s % (n : Int) = (g : Int) ∧ g < n := ⟨(s % (n : Int)).toNat, by
    have := Int.emod_nonneg s (show (n : Int) ≠ 0 by omega)
    omega, by
    have h1 := Int.emod_nonneg s (show (n : Int) ≠ 0 by omega)
    have h2 := Int.emod_lt_of_pos s (show (0 : Int) < n by omega)
    omega⟩
  have HNW := Aside0.mk (fun w => new_ints n hn1 hn64 w)
  go_enter Try.func4, Try.ntmps4
  go_wp2_with (first
    | (go_at_call 7; refine (HA.out _).mono ?_; rintro e w0 ⟨rfl, hb0⟩; have B0 := Aside0.mk hb0; clear hb0)
    | (go_at_call 13; refine (HNW.out _).mono ?_; rintro e w1 ⟨B, rfl, hm1, hb1⟩; have M1 := Aside0.mk hm1; have B1 := Aside0.mk hb1; clear hm1 hb1))
  go_loopw [32] (fun i wr => ∃ (k : Nat) (f : Nat → Nat), k ≤ n ∧ i = .int .i64 k ∧ TabAt 64 66 w0.heap.size B n k (Things f k) wr ∧ Lie f k wr ∧ Below w0.heap.size w0 wr) (fun i _ => n - (intOf i).toNat)
  case atStart => exact ⟨0, fun _ => 0, Nat.zero_le _, rfl, M1.out, fun j hj => absurd hj (Nat.not_lt_zero _), B1.out⟩
  case round =>
    obtain ⟨k, f, hk, rfl, hM, hL, hB⟩ := hrel
    have HM := Aside0.mk hM
    have HL := Aside0.mk hL
    have HB := Aside0.mk hB
    clear hM hL hB
    by_cases hlt : k < n
    · have hw : IntKind.i64.wrap ((k : Int) + 1) = (k : Int) + 1 := IntWalk.i64_in _ (by omega)
      have HMA := Aside0.mk (HM.out.kept (below_alloc (Below.refl wr.heap.size wr) (.cells #[.int .i64 (k : Int)] 3)))
      have HLA := Aside0.mk (HL.out.below (below_alloc (Below.refl wr.heap.size wr) (.cells #[.int .i64 (k : Int)] 3)))
      have HBA := Aside0.mk (HB.out.alloc HB.out.size (.cells #[.int .i64 (k : Int)] 3))
      have HDA := Aside0.mk (show (wr.alloc (.cells #[.int .i64 (k : Int)] 3)).heap[wr.heap.size]? = some (.cells #[.int .i64 (k : Int)] 3 (0, 0)) by show (wr.heap.push _)[wr.heap.size]? = _; simp)
      have HLN := Aside0.mk (show (Things f k).length < n by rw [things_len]; exact hlt)
      have HFS := Aside0.mk (fun j (hj : j < k) => (Array.getElem?_eq_some_iff.1 (HL.out j hj)).1)
      go_wp2_with (go_at_call 14
                   refine (putK_ints (some ⟨wr.heap.size, 0, none⟩) 1 1 _ HMA.out HLN.out hn64 (by omega)).mono ?_
                   rintro e w2 ⟨rfl, hm2, hb2, hk2⟩
                   have M2 := Aside0.mk hm2
                   have B2 := Aside0.mk (HBA.out.trans hb2)
                   have K2 := Aside0.mk hk2
                   clear hm2 hb2 hk2)
      go_roundw
      case rel =>
        refine ⟨k + 1, fun j => if j < k then f j else wr.heap.size, hlt, by go_num, ?_, ?_, B2.out⟩
        · rw [things_succ f _ k wr.heap.size (fun j hj => by simp [hj]) (by simp)]
          exact M2.out
        · intro j hj
          by_cases hjk : j < k
          · simp only [if_pos hjk]
            exact K2.out _ _ _ _ (HLA.out j hjk) (by decide) (by decide)
          · obtain rfl : j = k := by omega
            simp only [if_neg hjk]
            exact K2.out _ _ _ _ HDA.out (by decide) (by decide)
      case measure => simp [intOf]; omega
    · have hke : n = k := by omega
      subst hke
      have hg2 : Int.tmod s (n : Int) = (g : Int) := by rw [Int.tmod_eq_emod_of_nonneg hs0]; exact hg
      have hw1 : IntKind.i64.wrap ((g : Int) + 1) = (g : Int) + 1 := IntWalk.i64_in _ (by omega)
      have hw2 : IntKind.i64.wrap ((n : Int) + 1) = (n : Int) + 1 := IntWalk.i64_in _ (by omega)
      have hw3 : IntKind.i64.wrap ((g : Int) + 1 - 1) = (g : Int) := by rw [IntWalk.i64_in _ (by omega)]; omega
      have hn0 : ((n : Int) == 0) = false := by simp; omega
      have HFL := Aside0.mk (things_len f n)
      have HEL := Aside0.mk (show ((Things f n).eraseIdx g).length < n by rw [List.length_eraseIdx, things_len, if_pos hgn]; omega)
      have HLL := Aside0.mk (show ∀ v, (((Things f n).eraseIdx g ++ [((n : Int) + 1, v)]).length : Int) = (n : Int) by intro v; rw [List.length_append, List.length_eraseIdx, things_len, if_pos hgn]; simp; omega)
      have HL6 := Aside0.mk (show ∀ v, ((Things f n).eraseIdx g ++ [((n : Int) + 1, v)]).length ≤ 1000000 by intro v; have := HLL.out v; omega)
      have HL5 := Aside0.mk (show (Things f n).length ≤ 1000000 by rw [things_len]; omega)
      go_wp2_with (first
        | (go_at_call 14
           (with_reducible refine (put_full_ints none 0 0 _ HM.out HFL.out).mono ?_)
           rintro e w2 ⟨rfl, nd, hw2'⟩
           have b2 : Below wr.heap.size wr w2 := by rw [hw2']; exact pw_below_drewN (Below.refl _ _) nd
           have M2 := Aside0.mk (HM.out.kept b2)
           have L2 := Aside0.mk (HL.out.below b2)
           have B2 := Aside0.mk (HB.out.trans (b2.mono HB.out.size))
           clear hw2' b2)
        | (go_at_call 15
           (with_reducible refine (delK_ints ((g : Int) + 1) (some ⟨f g, 0, none⟩) 1 1 _ M2.out (things_ty f n) HL5.out g (things_at f n g hgn) (things_pos f n g hgn)).mono ?_)
           rintro e w3 ⟨rfl, hm3, hb3, hk3⟩
           have M3 := Aside0.mk (hm3.kept (below_alloc (Below.refl w3.heap.size w3) (.cells #[.int .i64 100] 3)))
           have B3a := B2.out.trans hb3
           have B3 := Aside0.mk (B3a.alloc B3a.size (.cells #[.int .i64 100] 3))
           have L3 := Aside0.mk ((L2.out.keeps hk3).below (below_alloc (Below.refl w3.heap.size w3) (.cells #[.int .i64 100] 3)))
           have D3 := Aside0.mk (show (w3.alloc (.cells #[.int .i64 100] 3)).heap[w3.heap.size]? = some (.cells #[.int .i64 100] 3 (0, 0)) by show (w3.heap.push _)[w3.heap.size]? = _; simp)
           clear hm3 hb3 hk3 B3a)
        | (go_at_call 14
           (with_reducible refine (putK_ints (some ⟨w3.heap.size, 0, none⟩) 1 1 _ M3.out HEL.out hn64 (by omega)).mono ?_)
           rintro e w4 ⟨rfl, hm4, hb4, hk4⟩
           have M4 := Aside0.mk hm4
           have B4 := Aside0.mk (B3.out.trans hb4)
           have L4 := Aside0.mk (L3.out.keeps hk4)
           have D4 := Aside0.mk (hk4 _ _ _ _ D3.out (by decide) (by decide))
           clear hm4 hb4 hk4)
        | (go_at_call 16
           (with_reducible refine (get_ints ((n : Int) + 1) (some ⟨w3.heap.size, 0, none⟩) 1 1 _ M4.out (snoc_ty (erase_ty (things_ty f n) g) _ _ _ _) (HL6.out _) (n - 1) (last_pos f n g hgn _).2 (last_pos f n g hgn _).1).mono ?_)
           rintro e w5 ⟨rfl, hb5⟩
           have M5 := Aside0.mk (M4.out.kept hb5)
           have B5 := Aside0.mk (B4.out.trans (hb5.mono B4.out.size))
           have x5 := (L4.out.below hb5).cell g hgn
           have y5 : w5.cell? ⟨w3.heap.size, 0, none⟩ = some (.int .i64 100) := by
             have := (hb5.block _ (Array.getElem?_eq_some_iff.1 D4.out).1).trans D4.out
             unfold World.cell?
             rw [this]
             rfl
           clear hb5)
        | (go_at_call 17
           (with_reducible refine (len_ints _ M5.out).mono ?_)
           rintro e w6 ⟨rfl, rfl⟩
           rw [HLL.out]))
      go_ret
      exact ⟨rfl, B0.out.trans (B5.out.mono B0.out.size)⟩
theorem full_row (a0 a1 : Int) (W : World) (w0 : (Lit.int .u8 a0).wf = true) (w1 : (Lit.int .u8 a1).wf = true) : Calls Try.prog 4 #[.int .u8 a0, .int .u8 a1] W fun e w' => e = .returned (.bool true) ∧ Below W.heap.size W w' :=
  full_walk a0 a1 (by simpa [Lit.wf, IntKind.min, IntKind.max, IntKind.bits, IntKind.signed] using w0) (by simpa [Lit.wf, IntKind.min, IntKind.max, IntKind.bits, IntKind.signed] using w1) W
end Go.Proofs.Ytbpdbgpnlcbdiaa.Tab
