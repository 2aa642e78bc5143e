/- Chapter 22: a handle that was told never tells anything else: the law's walk. -/
import Derived.Test.YtbpdbgpnlcbdiaaTabC
import Derived.Test.YtbpdbgpnlcbdiaaTabN
import Derived.Test.YtbpdbgpnlcbdiaaRowV
namespace Go.Proofs.Ytbpdbgpnlcbdiaa.Tab
open Go.RowKit Go.Proofs.YtbpdbgpnlcbdiaaW.PrintWords Go.Proofs.YtbpdbgpnlcbdiaaW.PrintLast Go.Proofs.YtbpdbgpnlcbdiaaW.PrintMore Go.Proofs.Ytbpdbgpnlcbdiaa.Row
set_option linter.unusedVariables false
set_option linter.unusedSimpArgs false
theorem reads_at {w w' : World} {A : Option Addr} {n : Nat} {l : List ByteArray} (h : Reads w A n (l.map Value.string)) (hb : Below w.heap.size w w') (k : Nat) (hk : k < n) (s : ByteArray) (hs : l[k]? = some s) (ad : Addr) (hA : A = some ad) : w'.cell? (ad.add k) = some (.string s) := by
  obtain ⟨ad2, h2, hc⟩ := (h.below hb).2 (by omega)
  rw [hA] at h2
  cases h2
  have := hc k hk
  simpa [List.getD, hs] using this
set_option maxHeartbeats 1000000 in
set_option maxRecDepth 100000 in
theorem never_walk (A1 : Option Addr) (c1 : Nat) (l : List ByteArray) (n1 : Nat) (hn1 : l.length = n1) (r : Int) (hr : 0 ≤ r ∧ r ≤ 255) (w : World) (h1 : Reads w A1 n1 (l.map Value.string)) (hc1 : n1 ≤ c1) :
    Calls Try.prog 3 #[.slice A1 n1 c1, .int .u8 r] w fun e w' => e = .returned (.bool true) ∧ Below w.heap.size w w' := by
  have HA := Aside0.mk awake_walk
  have H1 := Aside0.mk h1
  have HL1 := Aside0.mk hn1
  clear h1 hn1
  have hr0 := hr.1
  have hr1 := hr.2
  clear hr
  by_cases hb1 : 60 < n1
  · have hd : decide ((60 : Int) < (n1 : Int)) = true := decide_eq_true (by omega)
    go_enter Try.func3, Try.ntmps3
    go_wp2_with (first
      | (go_at_call 7; with_reducible refine (HA.out w).mono ?_; rintro e w0 ⟨rfl, hb0⟩; have B0 := Aside0.mk hb0; clear hb0)
      | (go_at_call 7; with_reducible refine (HA.out w0).mono ?_; rintro e w00 ⟨rfl, hb00⟩; have B00 := Aside0.mk hb00; clear hb00))
    go_ret
    exact ⟨rfl, B0.out.trans (B00.out.mono B0.out.size)⟩
  · have hd : decide ((60 : Int) < (n1 : Int)) = false := decide_eq_false (by omega)
    have h60 : n1 ≤ 60 := by omega
    clear hb1
    obtain ⟨N, hN, hN1, hN64⟩ : ∃ N : Nat, 1 + r % 64 = (N : Int) ∧ 1 ≤ N ∧ N ≤ 64 := ⟨(1 + r % 64).toNat, by omega, by omega, by omega⟩
    have HNW := Aside0.mk (fun w => new_str N hN1 hN64 w)
    have HTY1 := Aside0.mk (show ∀ (h : Int) (s : ByteArray), All_str [(h, Value.string s)] from fun h s p hp => ⟨s, by simp at hp; rw [hp]⟩)
    have HTY0 := Aside0.mk (show All_str [] from fun p hp => by simp at hp)
    have HP0 := Aside0.mk (show ∀ (h : Int) (s : ByteArray), posI [(h, Value.string s)] h = ((0 : Nat) : Int) from fun h s => posI_at _ h 0 _ rfl rfl (fun j q hj => absurd hj (Nat.not_lt_zero _)))
    go_enter Try.func3, Try.ntmps3
    go_wp2_with (first
      | (go_at_call 7; refine (HA.out _).mono ?_; rintro e w0 ⟨rfl, hb0⟩; have B0 := Aside0.mk hb0; clear hb0)
      | (go_at_call 8; refine (HNW.out _).mono ?_; rintro e w1 ⟨B, rfl, hm1, hb1⟩; have M1 := Aside0.mk hm1; have B1 := Aside0.mk hb1; clear hm1 hb1))
    go_loopw [33] (fun i wr => ∃ k : Nat, k ≤ n1 ∧ i = .int .i64 k ∧ TabAt 57 59 w0.heap.size B N k [] wr ∧ Below w0.heap.size w0 wr) (fun i _ => n1 - (intOf i).toNat)
    case atStart => exact ⟨0, Nat.zero_le _, rfl, M1.out, B1.out⟩
    case round =>
      obtain ⟨k, hk, rfl, hM, hB⟩ := hrel
      have HM := Aside0.mk hM
      have HB := Aside0.mk hB
      clear hM hB
      by_cases hlt : k < n1
      · obtain ⟨ad1, hA1, hr1'⟩ := (H1.out.below (B0.out.trans (HB.out.mono B0.out.size))).2 (by omega)
        subst hA1
        obtain ⟨s, hs⟩ : ∃ s, l[k]? = some s := ⟨_, List.getElem?_eq_getElem (by rw [HL1.out]; exact hlt)⟩
        have hg1 := reads_at H1.out (B0.out.trans (HB.out.mono B0.out.size)) k hlt s hs ad1 rfl
        have HS := Aside0.mk hs
        clear hr1' hs
        have hw : IntKind.i64.wrap ((k : Int) + 1) = (k : Int) + 1 := IntWalk.i64_in _ (by omega)
        have HR0 := Aside0.mk (show ([] : List (Int × Value)).length < N by simp; omega)
        go_wp2_with (first
          | (go_at_call 9
             refine (put_str s _ HM.out HR0.out hN64 (by omega)).mono ?_
             rintro e w2 ⟨rfl, hm2, hb2⟩
             have M2 := Aside0.mk hm2
             have B2 := Aside0.mk (HB.out.trans hb2)
             clear hm2 hb2)
          | (go_at_call 10
             refine (del_str ((k : Int) + 1) s _ M2.out (HTY1.out _ _) (by simp) 0 rfl (HP0.out _ _)).mono ?_
             rintro e w3 ⟨rfl, hm3, hb3⟩
             have M3 := Aside0.mk hm3
             have B3 := Aside0.mk (B2.out.trans hb3)
             have hg3 := reads_at H1.out (B0.out.trans (B3.out.mono B0.out.size)) k hlt s HS.out ad1 rfl
             clear hm3 hb3 hg1))
        clear hg3
        go_loopw [71] (fun jv wk => ∃ j : Nat, j ≤ k + 1 ∧ jv = .int .i64 j ∧ TabAt 57 59 w0.heap.size B N (k + 1) [] wk ∧ Below w0.heap.size w0 wk) (fun jv _ => (k + 1) - (intOf jv).toNat)
        case atStart => exact ⟨0, Nat.zero_le _, rfl, M3.out, B3.out⟩
        case round =>
          obtain ⟨j, hj, rfl, hMk, hBk⟩ := hrel
          have HMk := Aside0.mk hMk
          have HBk := Aside0.mk hBk
          clear hMk hBk
          by_cases hjl : j < k + 1
          · have hw2 : IntKind.i64.wrap ((j : Int) + 1) = (j : Int) + 1 := IntWalk.i64_in _ (by omega)
            have hjl2 : (j : Int) < (k : Int) + 1 := by omega
            go_wp2_with (go_at_call 11
                         refine (get_none_str _ _ HMk.out HTY0.out (by decide) rfl).mono ?_
                         rintro e w5 ⟨rfl, hb5⟩
                         have M5 := Aside0.mk (HMk.out.kept hb5)
                         have B5 := Aside0.mk (HBk.out.trans (hb5.mono HBk.out.size))
                         clear hb5)
            go_roundw
            case rel => exact ⟨j + 1, by omega, by go_num, M5.out, B5.out⟩
            case measure => simp [intOf]; omega
          · have hje : j = k + 1 := by omega
            subst hje
            have hjl2 : ((((k + 1 : Nat) : Int)) < (k : Int) + 1) = False := by simp
            go_wp2
            go_roundw
            case rel => exact ⟨k + 1, hlt, by go_num, HMk.out, HBk.out⟩
            case measure => simp [intOf]; omega
      · have hke : n1 = k := by omega
        subst hke
        go_wp2_with (go_at_call 12; refine (len_str _ HM.out).mono ?_; rintro e w6 ⟨rfl, rfl⟩)
        go_ret
        exact ⟨rfl, B0.out.trans (HB.out.mono B0.out.size)⟩
theorem never_row (A0 : Option Addr) (c0 : Nat) (l0 : List ByteArray) (a1 : Int) (W : World) (rd0 : Reads W A0 l0.length (l0.map Value.string)) (lc0 : l0.length ≤ c0) (lm0 : l0.length ≤ maxLen) (w1 : (Lit.int .u8 a1).wf = true) :
    Calls Try.prog 3 #[.slice A0 l0.length c0, .int .u8 a1] W fun e w' => e = .returned (.bool true) ∧ Below W.heap.size W w' :=
  never_walk A0 c0 l0 _ rfl a1 (by simpa [Lit.wf, IntKind.min, IntKind.max, IntKind.bits, IntKind.signed] using w1) W rd0 lc0
end Go.Proofs.Ytbpdbgpnlcbdiaa.Tab
