/- unicode/utf8.Valid of whatever bytes, walked: it tells Lib.validD; what was there has not turned. Under the two tables as they are laid. -/
import Derived.Test.YtbbdfamfmkcfhaaGreatDoorProg
import Derived.Test.YtbbdfamfmkcfhaaGreatDoorWMore
import Derived.Test.YtbbdfamfmkcfhaaGreatDoorPl
import Derived.Shelf.Unicode.DecodeSlow
import Derived.Lib.ValidAsc
import Derived.Lib.Endian
import Derived.Lib.EndianBits
import Derived.Laws.BitsAllLaws
import Derived.RegionTactic
import Derived.Deep.Draws
import Derived.Deep.QuietTactic
import Derived.BigQuiet
import Derived.Deep.LoopGhost
import Derived.Deep.CutBlock
import Derived.Deep.DeepCutAuto
import Derived.Below
import Derived.WalkKit
import Derived.KernelRfl
namespace Go.Proofs.YtbbdfamfmkcfhaaGreatDoor.Val
open Go.RowKit Go.Proofs.YtbbdfamfmkcfhaaGreatDoorW.PrintWords Go.Proofs.YtbbdfamfmkcfhaaGreatDoorW.PrintLast Go.Proofs.YtbbdfamfmkcfhaaGreatDoorW.PrintMore
set_option linter.unusedVariables false
set_option linter.unusedSimpArgs false
/-- From this place on block b holds these bytes. -/
def At (b o : Nat) (t : List UInt8) (w : World) : Prop := ∀ (j : Nat) (u : UInt8), t[j]? = some u → w.cell? ⟨b, o + j, none⟩ = some (.int .u8 (u.toNat : Int))
theorem At.below {b o n : Nat} {t : List UInt8} {w w' : World} (h : At b o t w) (hb : Below n w w') (hn : b < n) : At b o t w' := fun j u hj => (hb.cell (p := ⟨b, o + j, none⟩) hn).trans (h j u hj)
theorem At.drop {b o : Nat} {t : List UInt8} {w : World} (h : At b o t w) (k o' : Nat) (ho : o + k = o') : At b o' (t.drop k) w := by
  intro j u hj
  subst ho
  rw [List.getElem?_drop] at hj
  rw [Nat.add_assoc]
  exact h (k + j) u hj
theorem At.get {b o : Nat} {t : List UInt8} {w : World} (h : At b o t w) (k : Nat) (hk : k < t.length) : w.cell? ⟨b, o + k, none⟩ = some (.int .u8 ((t.getD k 0).toNat : Int)) :=
  h k _ (by rw [List.getD_eq_getElem?_getD, List.getElem?_eq_getElem hk]; rfl)
def Asc (t : List UInt8) (k : Nat) : Prop := ∀ b ∈ t.take k, b.toNat < 128
theorem asc_add {t : List UInt8} {a b : Nat} (ha : Asc t a) (hb : Asc (t.drop a) b) : Asc t (a + b) := by
  unfold Asc at *
  rw [List.take_add]
  intro x hx
  rcases List.mem_append.1 hx with h | h
  · exact ha x h
  · exact hb x h
/-- The word of the first eight bytes. -/
def wd (t : List UInt8) : Nat := Lib.leNat (t.take 8)
theorem wd_lt (t : List UInt8) (h : 8 ≤ t.length) : wd t < 18446744073709551616 := by
  have := Lib.leNat_lt (t.take 8)
  rw [List.length_take, Nat.min_eq_left h] at this
  simpa [wd] using this
theorem wd_asc (t : List UInt8) (h : 8 ≤ t.length) : (wd t &&& 9259542123273814144 = 0) ↔ Asc t 8 := by
  have := Lib.leNat_mask (t.take 8)
  rw [List.length_take, Nat.min_eq_left h, Lib.maskN8] at this
  exact this
theorem wd_eq (t : List UInt8) (h : 8 ≤ t.length) : wd t = Lib.leNat [t.getD 0 0, t.getD 1 0, t.getD 2 0, t.getD 3 0, t.getD 4 0, t.getD 5 0, t.getD 6 0, t.getD 7 0] := by
  unfold wd
  match t, h with
  | a0 :: a1 :: a2 :: a3 :: a4 :: a5 :: a6 :: a7 :: r, _ => simp
set_option maxRecDepth 100000 in
theorem and7 : ∀ X : Fin 256, bits .and .u8 ((X.val : Nat) : Int) 7 = ((X.val % 8 : Nat) : Int) := by decide
set_option maxHeartbeats 8000000 in
set_option maxRecDepth 100000 in
theorem word_at (b o n c : Nat) (t : List UInt8) (w : World) (h8 : 8 ≤ t.length) (hn : 8 ≤ n) (hc : At b o t w) :
    Calls Tryz.prog 55 #[.slice (some ⟨b, o, none⟩) n c] w fun e w' => e = .returned (.int .u64 (wd t : Nat)) ∧ ∃ q, w' = w.drewN q := by
  rw [wd_eq t h8]
  have hc0 := hc.get 0 (by omega)
  obtain ⟨x0, hx0⟩ : ∃ x0, t.getD 0 0 = x0 := ⟨_, rfl⟩
  rw [hx0] at hc0 ⊢
  have h0 : x0.toNat < 256 := x0.toNat_lt
  have q0 : (0 : Int) < (n : Int) := by omega
  clear hx0
  have hc1 := hc.get 1 (by omega)
  obtain ⟨x1, hx1⟩ : ∃ x1, t.getD 1 0 = x1 := ⟨_, rfl⟩
  rw [hx1] at hc1 ⊢
  have h1 : x1.toNat < 256 := x1.toNat_lt
  have q1 : (1 : Int) < (n : Int) := by omega
  clear hx1
  have hc2 := hc.get 2 (by omega)
  obtain ⟨x2, hx2⟩ : ∃ x2, t.getD 2 0 = x2 := ⟨_, rfl⟩
  rw [hx2] at hc2 ⊢
  have h2 : x2.toNat < 256 := x2.toNat_lt
  have q2 : (2 : Int) < (n : Int) := by omega
  clear hx2
  have hc3 := hc.get 3 (by omega)
  obtain ⟨x3, hx3⟩ : ∃ x3, t.getD 3 0 = x3 := ⟨_, rfl⟩
  rw [hx3] at hc3 ⊢
  have h3 : x3.toNat < 256 := x3.toNat_lt
  have q3 : (3 : Int) < (n : Int) := by omega
  clear hx3
  have hc4 := hc.get 4 (by omega)
  obtain ⟨x4, hx4⟩ : ∃ x4, t.getD 4 0 = x4 := ⟨_, rfl⟩
  rw [hx4] at hc4 ⊢
  have h4 : x4.toNat < 256 := x4.toNat_lt
  have q4 : (4 : Int) < (n : Int) := by omega
  clear hx4
  have hc5 := hc.get 5 (by omega)
  obtain ⟨x5, hx5⟩ : ∃ x5, t.getD 5 0 = x5 := ⟨_, rfl⟩
  rw [hx5] at hc5 ⊢
  have h5 : x5.toNat < 256 := x5.toNat_lt
  have q5 : (5 : Int) < (n : Int) := by omega
  clear hx5
  have hc6 := hc.get 6 (by omega)
  obtain ⟨x6, hx6⟩ : ∃ x6, t.getD 6 0 = x6 := ⟨_, rfl⟩
  rw [hx6] at hc6 ⊢
  have h6 : x6.toNat < 256 := x6.toNat_lt
  have q6 : (6 : Int) < (n : Int) := by omega
  clear hx6
  have hc7 := hc.get 7 (by omega)
  obtain ⟨x7, hx7⟩ : ∃ x7, t.getD 7 0 = x7 := ⟨_, rfl⟩
  rw [hx7] at hc7 ⊢
  have h7 : x7.toNat < 256 := x7.toNat_lt
  have q7 : (7 : Int) < (n : Int) := by omega
  clear hx7
  rw [Nat.add_zero] at hc0
  have hv : ((Lib.leNat [x0, x1, x2, x3, x4, x5, x6, x7] : Nat) : Int) = (x0.toNat : Int) + (x1.toNat : Int) * 256 + (x2.toNat : Int) * 65536 + (x3.toNat : Int) * 16777216 + (x4.toNat : Int) * 4294967296 + (x5.toNat : Int) * 1099511627776 + (x6.toNat : Int) * 281474976710656 + (x7.toNat : Int) * 72057594037927936 := by
    simp only [Lib.leNat]
    push_cast
    omega
  have HV := Aside0.mk hv
  have H8 := Aside0.mk h8
  clear hv hc h8
  go_enter Tryz.func55, Tryz.ntmps55
  go_wp2
  go_quiet (fail)
  go_wp2
  go_ret
  refine ⟨?_, _, rfl⟩
  simp (disch := omega) only [u64_wrap_id, u64_or8, u64_or16, u64_or24, u64_or32, u64_or40, u64_or48, u64_or56]
  rw [HV.out]
  rfl
set_option maxHeartbeats 16000000 in
set_option maxRecDepth 1000000 in
theorem valid_at (b o c : Nat) (s : List UInt8) (w : World) (hlt : b < w.heap.size) (hs : s.length ≤ 9223372036854775807) (hsc : s.length ≤ c) (hc : At b o s w) (hT : Lib.Utf8Tabs 0 1 w) :
    Calls Tryz.prog 38 #[.slice (some ⟨b, o, none⟩) s.length c] w fun e w' => e = .returned (.bool (Lib.validD s)) ∧ Below w.heap.size w w' := by
  obtain ⟨ANS, hANS⟩ : ∃ ANS, Lib.validD s = ANS := ⟨_, rfl⟩
  rw [hANS]
  obtain ⟨N, hN⟩ : ∃ N, s.length = N := ⟨_, rfl⟩
  have HN := Aside0.mk hN
  rw [hN] at hs hsc
  rw [hN]
  have HC := Aside0.mk hc
  have HT := Aside0.mk hT
  have HA := Aside0.mk hANS
  clear hc hT hANS hN
  have hsz : (N : Int) ≤ (c : Int) := by omega
  have hsz0 : (0 : Int) ≤ (N : Int) := by omega
  go_enter Tryz.func38, Tryz.ntmps38
  go_wp2
  go_loopg [0] (N + 1) (fun gk s0 wx => Below w.heap.size w wx ∧ ∃ (A : Option Addr) (o' n : Nat) (t : List UInt8), s0 = .slice A n n ∧ t.length = n ∧ (0 < n → A = some ⟨b, o', none⟩) ∧ At b o' t w ∧ Lib.validD t = ANS ∧ n < gk ∧ n ≤ N)
  case atStart => exact ⟨Below.refl _ _, ⟨some ⟨b, o, none⟩, o, N, s, by rfl, HN.out, fun _ => rfl, HC.out, HA.out, by omega, Nat.le_refl _⟩⟩
  case round =>
    obtain ⟨hbw, A, o', n, t, rfl, htn, hA, hat, hv, hg, hnN⟩ := hrel
    have HTR := Aside0.mk (Utf8Tabs_below HT.out hbw)
    have HAT := Aside0.mk (hat.below hbw hlt)
    have HAT0 := Aside0.mk hat
    have HTN := Aside0.mk htn
    have HV := Aside0.mk hv
    have HB := Aside0.mk hbw
    clear htn hat hv hbw HC HA
    by_cases h0 : 0 < n
    · obtain rfl := hA h0
      clear hA
      obtain ⟨m, rfl⟩ : ∃ m, n = m + 1 := ⟨n - 1, by omega⟩
      obtain ⟨g', rfl⟩ : ∃ g', gk = g' + 1 := ⟨gk - 1, by omega⟩
      have h0z : (0 : Int) < (m : Int) + 1 := by omega
      obtain ⟨x0, hx0⟩ : ∃ x0, t.getD 0 0 = x0 := ⟨_, rfl⟩
      have hc0 := HAT.out.get 0 (by rw [HTN.out]; omega)
      rw [hx0, Nat.add_zero] at hc0
      have hx0lt : x0.toNat < 256 := x0.toNat_lt
      by_cases hasc : x0.toNat < 128
      · as_aux_lemma =>
        have hascz : (x0.toNat : Int) < 128 := by omega
        have HX1 := Aside0.mk (show Asc t 1 from fun u hu => by
          have hl := HTN.out
          match t, hx0, hu, hl with
          | y :: r, hx0, hu, _ =>
            simp at hu hx0
            subst hu hx0
            exact hasc)
        obtain ⟨t1, ht1⟩ : ∃ t1, t.drop 1 = t1 := ⟨_, rfl⟩
        obtain ⟨o1, ho1⟩ : ∃ o1, o' + 1 = o1 := ⟨_, rfl⟩
        have L1 := Aside0.mk (show t1.length = m by rw [← ht1, List.length_drop, HTN.out]; omega)
        have V1 := Aside0.mk (show Lib.validD t1 = ANS by rw [← ht1, ← Lib.validD_ascii 1 t HX1.out]; exact HV.out)
        have A1 := Aside0.mk (show At b o1 t1 wr by rw [← ht1]; exact HAT.out.drop 1 o1 ho1)
        have A10 := Aside0.mk (show At b o1 t1 w by rw [← ht1]; exact HAT0.out.drop 1 o1 ho1)
        clear hx0 ht1 hx0lt HX1 HTR HAT HAT0 HTN HV
        by_cases c8 : 8 < m
        · obtain ⟨m2, rfl⟩ : ∃ m2, m = m2 + 8 := ⟨m - 8, by omega⟩
          have c8z : (8 : Int) < (m2 : Int) + 8 := by omega
          have hz2 : ¬ m2 = 0 := by omega
          have W1 := Aside0.mk (word_at b o1 (m2 + 8) (m2 + 8) t1 wr (by rw [L1.out]; omega) (by omega) A1.out)
          obtain ⟨B1, hB1⟩ : ∃ B1, wd t1 = B1 := ⟨_, rfl⟩
          have lB1 : B1 < 18446744073709551616 := hB1 ▸ wd_lt t1 (by rw [L1.out]; omega)
          have kB1 := wd_asc t1 (by rw [L1.out]; omega)
          rw [hB1] at W1 kB1
          have hand1 : bits .and .u64 (B1 : Int) 9259542123273814144 = ((B1 &&& 9259542123273814144 : Nat) : Int) := u64_and_nat B1 9259542123273814144 lB1 (by omega)
          obtain ⟨Z1, hZ1⟩ : ∃ Z1, B1 &&& 9259542123273814144 = Z1 := ⟨_, rfl⟩
          rw [hZ1] at hand1 kB1
          have KB1 := Aside0.mk kB1
          clear hB1 hZ1 kB1
          by_cases hz1 : Z1 = 0
          · have hz1b : ((Z1 : Int) == 0) = true := by simp [hz1]
            obtain ⟨t2, ht2⟩ : ∃ t2, t1.drop 8 = t2 := ⟨_, rfl⟩
            obtain ⟨o2, ho2⟩ : ∃ o2, o1 + 8 = o2 := ⟨_, rfl⟩
            have L2 := Aside0.mk (show t2.length = m2 by rw [← ht2, List.length_drop, L1.out]; omega)
            have V2 := Aside0.mk (show Lib.validD t2 = ANS by rw [← ht2, ← Lib.validD_ascii 8 t1 (KB1.out.1 hz1)]; exact V1.out)
            have A2 := Aside0.mk (show At b o2 t2 wr by rw [← ht2]; exact A1.out.drop 8 o2 ho2)
            have A20 := Aside0.mk (show At b o2 t2 w by rw [← ht2]; exact A10.out.drop 8 o2 ho2)
            clear ht2 KB1 L1 V1 A1 A10
            go_wp2_with (go_at_call 55; (with_reducible refine W1.out.mono ?_); rintro e w1 ⟨rfl, q1, rfl⟩)
            have HB1 := Aside0.mk (pw_below_drewN HB.out q1)
            have A2q := Aside0.mk (A2.out.below (pw_below_drewN (Below.refl wr.heap.size wr) q1) (Nat.lt_of_lt_of_le hlt HB.out.size))
            generalize wr.drewN q1 = wq at HB1 A2q ⊢
            clear W1 HB A2 hand1 lB1 hz1b ho1 ho2 hz1
            by_cases c16 : 16 < m2
            · obtain ⟨m3, rfl⟩ : ∃ m3, m2 = m3 + 16 := ⟨m2 - 16, by omega⟩
              have c16z : (16 : Int) < (m3 : Int) + 16 := by omega
              have s8z : (8 : Int) ≤ (m3 : Int) + 16 := by omega
              have hz3 : ¬ m3 = 0 := by omega
              obtain ⟨o2b, ho2b⟩ : ∃ o2b, o2 + 8 = o2b := ⟨_, rfl⟩
              have hWq : b < wq.heap.size := Nat.lt_of_lt_of_le hlt HB1.out.size
              have W2 := Aside0.mk (fun q => word_at b o2 (m3 + 16) (m3 + 16) t2 (wq.drewN q) (by rw [L2.out]; omega) (by omega) (A2q.out.below (pw_below_drewN (Below.refl wq.heap.size wq) q) hWq))
              have W3 := Aside0.mk (fun q => word_at b o2b (m3 + 8) (m3 + 8) (t2.drop 8) (wq.drewN q) (by rw [List.length_drop, L2.out]; omega) (by omega) ((A2q.out.drop 8 o2b ho2b).below (pw_below_drewN (Below.refl wq.heap.size wq) q) hWq))
              obtain ⟨B2, hB2⟩ : ∃ B2, wd t2 = B2 := ⟨_, rfl⟩
              obtain ⟨B3, hB3⟩ : ∃ B3, wd (t2.drop 8) = B3 := ⟨_, rfl⟩
              have lB2 : B2 < 18446744073709551616 := hB2 ▸ wd_lt t2 (by rw [L2.out]; omega)
              have lB3 : B3 < 18446744073709551616 := hB3 ▸ wd_lt (t2.drop 8) (by rw [List.length_drop, L2.out]; omega)
              have kB2 := wd_asc t2 (by rw [L2.out]; omega)
              have kB3 := wd_asc (t2.drop 8) (by rw [List.length_drop, L2.out]; omega)
              rw [hB2] at W2 kB2
              rw [hB3] at W3 kB3
              have hor2 : bits .or .u64 (B2 : Int) (B3 : Int) = ((B2 ||| B3 : Nat) : Int) := u64_or_nat B2 B3 lB2 lB3
              have lor2 : B2 ||| B3 < 18446744073709551616 := Nat.or_lt_two_pow (n := 64) lB2 lB3
              have hand2 : bits .and .u64 ((B2 ||| B3 : Nat) : Int) 9259542123273814144 = (((B2 ||| B3) &&& 9259542123273814144 : Nat) : Int) := u64_and_nat _ 9259542123273814144 lor2 (by omega)
              have k2 : (B2 ||| B3) &&& 9259542123273814144 = 0 → Asc t2 16 := fun h0' => by
                obtain ⟨e1, e2⟩ := (Lib.or_mask B2 B3 _).1 h0'
                exact asc_add (kB2.1 e1) (kB3.1 e2)
              obtain ⟨O2, hO2⟩ : ∃ O2, B2 ||| B3 = O2 := ⟨_, rfl⟩
              rw [hO2] at hor2 hand2 k2
              obtain ⟨Z2, hZ2⟩ : ∃ Z2, O2 &&& 9259542123273814144 = Z2 := ⟨_, rfl⟩
              rw [hZ2] at hand2 k2
              have K2 := Aside0.mk k2
              clear kB2 kB3 lor2 hO2 hZ2 hB2 hB3 k2
              by_cases hz2 : Z2 = 0
              · have hz2b : ((Z2 : Int) == 0) = true := by simp [hz2]
                obtain ⟨t3, ht3⟩ : ∃ t3, t2.drop 16 = t3 := ⟨_, rfl⟩
                obtain ⟨o3, ho3⟩ : ∃ o3, o2 + 16 = o3 := ⟨_, rfl⟩
                have L3 := Aside0.mk (show t3.length = m3 by rw [← ht3, List.length_drop, L2.out]; omega)
                have V3 := Aside0.mk (show Lib.validD t3 = ANS by rw [← ht3, ← Lib.validD_ascii 16 t2 (K2.out hz2)]; exact V2.out)
                have A30 := Aside0.mk (show At b o3 t3 w by rw [← ht3]; exact A20.out.drop 16 o3 ho3)
                clear ht3 K2 V2 A20 hz2
                go_quiet ((first | (go_at_call 55; with_reducible exact Calls.quiet_of (W2.out _)) | (go_at_call 55; with_reducible exact Calls.quiet_of (W3.out _)) | (go_at_call 55; with_reducible exact Calls.quiet_of (W2.out 0)) | (go_at_call 55; with_reducible exact Calls.quiet_of (W3.out 0))))
                have HB2 := Aside0.mk (pw_below_drewN HB1.out nq)
                generalize wq.drewN nq = wq2 at HB2 ⊢
                clear W2 W3 HB1 A2q hand2 hor2 lB2 lB3 hz2b L2
                go_wp2
                go_loopg [0] (m3 + 1) (fun g2 s0 wx => Below w.heap.size w wx ∧ ∃ (o' n : Nat) (u : List UInt8), s0 = .slice (some ⟨b, o', none⟩) n n ∧ u.length = n ∧ 0 < n ∧ At b o' u w ∧ Lib.validD u = ANS ∧ n < g2 ∧ n ≤ m3)
                case atStart => exact ⟨HB2.out, o3, m3, t3, rfl, L3.out, by omega, A30.out, V3.out, by omega, Nat.le_refl _⟩
                case round =>
                  obtain ⟨hbu, ou, n2, u, rfl, hul, hu0, hau, vu, hgu, hut⟩ := hrel
                  have LU := Aside0.mk hul
                  have VU := Aside0.mk vu
                  have AU0 := Aside0.mk hau
                  have AU := Aside0.mk (hau.below hbu hlt)
                  have HBU := Aside0.mk hbu
                  have hWu : b < wr.heap.size := Nat.lt_of_lt_of_le hlt hbu.size
                  clear hul vu hau hbu
                  by_cases c32 : 32 < n2
                  · obtain ⟨m4, rfl⟩ : ∃ m4, n2 = m4 + 32 := ⟨n2 - 32, by omega⟩
                    obtain ⟨g3, rfl⟩ : ∃ g3, gk = g3 + 1 := ⟨gk - 1, by omega⟩
                    have c32z : (32 : Int) < (m4 : Int) + 32 := by omega
                    have s8u : (8 : Int) ≤ (m4 : Int) + 32 := by omega
                    have s16u : (16 : Int) ≤ (m4 : Int) + 32 := by omega
                    have s24u : (24 : Int) ≤ (m4 : Int) + 32 := by omega
                    have hz4 : ¬ m4 = 0 := by omega
                    obtain ⟨oub, houb⟩ : ∃ x, ou + 8 = x := ⟨_, rfl⟩
                    obtain ⟨ouc, houc⟩ : ∃ x, ou + 16 = x := ⟨_, rfl⟩
                    obtain ⟨oud, houd⟩ : ∃ x, ou + 24 = x := ⟨_, rfl⟩
                    obtain ⟨oue, houe⟩ : ∃ x, ou + 32 = x := ⟨_, rfl⟩
                    have W4 := Aside0.mk (fun q => word_at b ou (m4 + 32) (m4 + 32) u (wr.drewN q) (by rw [LU.out]; omega) (by omega) (AU.out.below (pw_below_drewN (Below.refl wr.heap.size wr) q) hWu))
                    have W5 := Aside0.mk (fun q => word_at b oub (m4 + 24) (m4 + 24) (u.drop 8) (wr.drewN q) (by rw [List.length_drop, LU.out]; omega) (by omega) ((AU.out.drop 8 oub houb).below (pw_below_drewN (Below.refl wr.heap.size wr) q) hWu))
                    have W6 := Aside0.mk (fun q => word_at b ouc (m4 + 16) (m4 + 16) (u.drop 16) (wr.drewN q) (by rw [List.length_drop, LU.out]; omega) (by omega) ((AU.out.drop 16 ouc houc).below (pw_below_drewN (Below.refl wr.heap.size wr) q) hWu))
                    have W7 := Aside0.mk (fun q => word_at b oud (m4 + 8) (m4 + 8) (u.drop 24) (wr.drewN q) (by rw [List.length_drop, LU.out]; omega) (by omega) ((AU.out.drop 24 oud houd).below (pw_below_drewN (Below.refl wr.heap.size wr) q) hWu))
                    obtain ⟨B4, hB4⟩ : ∃ B4, wd u = B4 := ⟨_, rfl⟩
                    have lB4 : B4 < 18446744073709551616 := hB4 ▸ wd_lt u (by rw [LU.out]; omega)
                    have kB4 := wd_asc u (by rw [LU.out]; omega)
                    rw [hB4] at W4 kB4
                    clear hB4
                    obtain ⟨B5, hB5⟩ : ∃ B5, wd (u.drop 8) = B5 := ⟨_, rfl⟩
                    have lB5 : B5 < 18446744073709551616 := hB5 ▸ wd_lt (u.drop 8) (by rw [List.length_drop, LU.out]; omega)
                    have kB5 := wd_asc (u.drop 8) (by rw [List.length_drop, LU.out]; omega)
                    rw [hB5] at W5 kB5
                    clear hB5
                    obtain ⟨B6, hB6⟩ : ∃ B6, wd (u.drop 16) = B6 := ⟨_, rfl⟩
                    have lB6 : B6 < 18446744073709551616 := hB6 ▸ wd_lt (u.drop 16) (by rw [List.length_drop, LU.out]; omega)
                    have kB6 := wd_asc (u.drop 16) (by rw [List.length_drop, LU.out]; omega)
                    rw [hB6] at W6 kB6
                    clear hB6
                    obtain ⟨B7, hB7⟩ : ∃ B7, wd (u.drop 24) = B7 := ⟨_, rfl⟩
                    have lB7 : B7 < 18446744073709551616 := hB7 ▸ wd_lt (u.drop 24) (by rw [List.length_drop, LU.out]; omega)
                    have kB7 := wd_asc (u.drop 24) (by rw [List.length_drop, LU.out]; omega)
                    rw [hB7] at W7 kB7
                    clear hB7
                    have ho1' : bits .or .u64 (B4 : Int) (B5 : Int) = ((B4 ||| B5 : Nat) : Int) := u64_or_nat B4 B5 lB4 lB5
                    have ho2' : bits .or .u64 (B6 : Int) (B7 : Int) = ((B6 ||| B7 : Nat) : Int) := u64_or_nat B6 B7 lB6 lB7
                    have lo1 : B4 ||| B5 < 18446744073709551616 := Nat.or_lt_two_pow (n := 64) lB4 lB5
                    have lo2 : B6 ||| B7 < 18446744073709551616 := Nat.or_lt_two_pow (n := 64) lB6 lB7
                    have ho3' : bits .or .u64 ((B4 ||| B5 : Nat) : Int) ((B6 ||| B7 : Nat) : Int) = (((B4 ||| B5) ||| (B6 ||| B7) : Nat) : Int) := u64_or_nat _ _ lo1 lo2
                    have lo3 : (B4 ||| B5) ||| (B6 ||| B7) < 18446744073709551616 := Nat.or_lt_two_pow (n := 64) lo1 lo2
                    have hand3 : bits .and .u64 (((B4 ||| B5) ||| (B6 ||| B7) : Nat) : Int) 9259542123273814144 = ((((B4 ||| B5) ||| (B6 ||| B7)) &&& 9259542123273814144 : Nat) : Int) := u64_and_nat _ 9259542123273814144 lo3 (by omega)
                    have k3 : ((B4 ||| B5) ||| (B6 ||| B7)) &&& 9259542123273814144 = 0 → Asc u 32 := fun h0' => by
                      obtain ⟨e01, e23⟩ := (Lib.or_mask _ _ _).1 h0'
                      obtain ⟨e0, e1⟩ := (Lib.or_mask _ _ _).1 e01
                      obtain ⟨e2, e3⟩ := (Lib.or_mask _ _ _).1 e23
                      exact asc_add (a := 24) (asc_add (a := 16) (asc_add (a := 8) (kB4.1 e0) (kB5.1 e1)) (kB6.1 e2)) (kB7.1 e3)
                    obtain ⟨P1, hP1⟩ : ∃ P1, B4 ||| B5 = P1 := ⟨_, rfl⟩
                    obtain ⟨P2, hP2⟩ : ∃ P2, B6 ||| B7 = P2 := ⟨_, rfl⟩
                    rw [hP1, hP2] at ho3' hand3 k3
                    rw [hP1] at ho1'
                    rw [hP2] at ho2'
                    obtain ⟨P3, hP3⟩ : ∃ P3, P1 ||| P2 = P3 := ⟨_, rfl⟩
                    rw [hP3] at ho3' hand3 k3
                    obtain ⟨Z3, hZ3⟩ : ∃ Z3, P3 &&& 9259542123273814144 = Z3 := ⟨_, rfl⟩
                    rw [hZ3] at hand3 k3
                    have K3 := Aside0.mk k3
                    clear kB4 kB5 kB6 kB7 lo1 lo2 lo3 hP1 hP2 hP3 hZ3 k3
                    by_cases hz3' : Z3 = 0
                    · have hz3b : ((Z3 : Int) == 0) = true := by simp [hz3']
                      have VU2 := Aside0.mk (show Lib.validD (u.drop 32) = ANS by rw [← Lib.validD_ascii 32 u (K3.out hz3')]; exact VU.out)
                      clear hz3' K3
                      go_wp2_with fail
                      go_quiet ((first | (go_at_call 55; with_reducible exact Calls.quiet_of (W4.out _)) | (go_at_call 55; with_reducible exact Calls.quiet_of (W4.out 0)) | (go_at_call 55; with_reducible exact Calls.quiet_of (W5.out _)) | (go_at_call 55; with_reducible exact Calls.quiet_of (W5.out 0)) | (go_at_call 55; with_reducible exact Calls.quiet_of (W6.out _)) | (go_at_call 55; with_reducible exact Calls.quiet_of (W6.out 0)) | (go_at_call 55; with_reducible exact Calls.quiet_of (W7.out _)) | (go_at_call 55; with_reducible exact Calls.quiet_of (W7.out 0))))
                      go_wp2
                      go_roundg g3
                      case measure => omega
                      case rel => exact ⟨pw_below_drewN HBU.out nq, oue, m4, u.drop 32, by rfl, by rw [List.length_drop, LU.out]; omega, by omega, AU0.out.drop 32 oue houe, VU2.out, by omega, by omega⟩
                    · have hz3b : ((Z3 : Int) == 0) = false := by simp; omega
                      clear hz3' K3
                      go_wp2_with fail
                      go_quiet ((first | (go_at_call 55; with_reducible exact Calls.quiet_of (W4.out _)) | (go_at_call 55; with_reducible exact Calls.quiet_of (W4.out 0)) | (go_at_call 55; with_reducible exact Calls.quiet_of (W5.out _)) | (go_at_call 55; with_reducible exact Calls.quiet_of (W5.out 0)) | (go_at_call 55; with_reducible exact Calls.quiet_of (W6.out _)) | (go_at_call 55; with_reducible exact Calls.quiet_of (W6.out 0)) | (go_at_call 55; with_reducible exact Calls.quiet_of (W7.out _)) | (go_at_call 55; with_reducible exact Calls.quiet_of (W7.out 0))))
                      go_wp2
                      go_roundg g'
                      case measure => omega
                      case rel => exact ⟨pw_below_drewN HBU.out nq, some ⟨b, ou, none⟩, ou, m4 + 32, u, by rfl, LU.out, fun _ => rfl, AU0.out, VU.out, by omega, by omega⟩
                  · have c32z : ¬ ((32 : Int) < (n2 : Int)) := by omega
                    have c32b : decide ((32 : Int) < (n2 : Int)) = false := decide_eq_false c32z
                    go_wp2_with fail
                    go_quiet (fail)
                    go_wp2
                    go_roundg g'
                    case measure => omega
                    case rel => exact ⟨pw_below_drewN HBU.out nq, some ⟨b, ou, none⟩, ou, n2, u, by rfl, LU.out, fun _ => rfl, AU0.out, VU.out, by omega, by omega⟩
              · have hz2b : ((Z2 : Int) == 0) = false := by simp; omega
                clear hz2 K2
                go_quiet ((first | (go_at_call 55; with_reducible exact Calls.quiet_of (W2.out _)) | (go_at_call 55; with_reducible exact Calls.quiet_of (W3.out _)) | (go_at_call 55; with_reducible exact Calls.quiet_of (W2.out 0)) | (go_at_call 55; with_reducible exact Calls.quiet_of (W3.out 0))))
                go_wp2
                go_roundg g'
                case measure => omega
                case rel => exact ⟨pw_below_drewN HB1.out nq, some ⟨b, o2, none⟩, o2, m3 + 16, t2, by rfl, L2.out, fun _ => rfl, A20.out, V2.out, by omega, by omega⟩
            · have c16z : ¬ ((16 : Int) < (m2 : Int)) := by omega
              have c16b : decide ((16 : Int) < (m2 : Int)) = false := decide_eq_false c16z
              go_quiet (fail)
              go_wp2
              go_roundg g'
              case measure => omega
              case rel => exact ⟨pw_below_drewN HB1.out nq, some ⟨b, o2, none⟩, o2, m2, t2, by rfl, L2.out, fun _ => rfl, A20.out, V2.out, by omega, by omega⟩
          · have hz1b : ((Z1 : Int) == 0) = false := by simp; omega
            clear hz1 KB1
            go_wp2_with (go_at_call 55; (with_reducible refine W1.out.mono ?_); rintro e w1 ⟨rfl, q1, rfl⟩)
            go_roundg g'
            case measure => omega
            case rel => exact ⟨pw_below_drewN HB.out q1, some ⟨b, o1, none⟩, o1, m2 + 8, t1, by rfl, L1.out, fun _ => rfl, A10.out, V1.out, by omega, by omega⟩
        · have c8z : ¬ ((8 : Int) < (m : Int)) := by omega
          by_cases hm0 : m = 0
          · subst hm0
            go_wp2
            go_roundg g'
            case measure => omega
            case rel => exact ⟨HB.out, _, o1, 0, t1, by rfl, L1.out, fun h => absurd h (by omega), A10.out, V1.out, by omega, by omega⟩
          · go_wp2
            go_roundg g'
            case measure => omega
            case rel => exact ⟨HB.out, some ⟨b, o1, none⟩, o1, m, t1, by rfl, L1.out, fun _ => rfl, A10.out, V1.out, by omega, by omega⟩
      · have hge : 128 ≤ x0.toNat := by omega
        have hascz : ¬ ((x0.toNat : Int) < 128) := by omega
        obtain ⟨x1, hx1⟩ : ∃ x1, t.getD 1 0 = x1 := ⟨_, rfl⟩
        obtain ⟨x2, hx2⟩ : ∃ x2, t.getD 2 0 = x2 := ⟨_, rfl⟩
        obtain ⟨x3, hx3⟩ : ∃ x3, t.getD 3 0 = x3 := ⟨_, rfl⟩
        have l1 := x1.toNat_lt
        have l2 := x2.toNat_lt
        have l3 := x3.toNat_lt
        have hne : t ≠ [] := fun h => by have := HTN.out; rw [h] at this; simp at this
        have hlead := Lib.validD_lead t hne (by rw [hx0]; exact hge)
        rw [hx0, hx1, hx2, hx3, HTN.out, HV.out] at hlead
        have hcf := HTR.out.1 x0.toNat hx0lt
        have hXlt : Lib.firstT x0.toNat < 256 := by rcases Lib.firstT_cases x0.toNat with h | h | h | h | h | h | h | h | h <;> omega
        obtain ⟨X, hX⟩ : ∃ X, Lib.firstT x0.toNat = X := ⟨_, rfl⟩
        rw [hX] at hcf hXlt hlead
        have h7 := and7 ⟨X, hXlt⟩
        simp only at h7
        have ha0 : wr.cell? ⟨1, X / 16 * 2, none⟩ = some (.int .u8 (Lib.accLo (X / 16))) := by rw [Nat.mul_comm]; exact (HTR.out.2 (X / 16) (by omega)).1
        have ha1 : wr.cell? ⟨1, X / 16 * 2 + 1, none⟩ = some (.int .u8 (Lib.accHi (X / 16))) := by rw [Nat.mul_comm]; exact (HTR.out.2 (X / 16) (by omega)).2
        obtain ⟨LO, hLO⟩ : ∃ LO, Lib.accLo (X / 16) = LO := ⟨_, rfl⟩
        obtain ⟨HI, hHI⟩ : ∃ HI, Lib.accHi (X / 16) = HI := ⟨_, rfl⟩
        rw [hLO] at ha0 hlead
        rw [hHI] at ha1 hlead
        obtain ⟨SZ, hSZ⟩ : ∃ SZ, X % 8 = SZ := ⟨_, rfl⟩
        rw [hSZ] at hlead
        have hc1 : 1 < m + 1 → wr.cell? ⟨b, o' + 1, none⟩ = some (.int .u8 (x1.toNat : Int)) := fun h => by rw [← hx1]; exact HAT.out.get 1 (by rw [HTN.out]; exact h)
        have hc2 : 2 < m + 1 → wr.cell? ⟨b, o' + 2, none⟩ = some (.int .u8 (x2.toNat : Int)) := fun h => by rw [← hx2]; exact HAT.out.get 2 (by rw [HTN.out]; exact h)
        have hc3 : 3 < m + 1 → wr.cell? ⟨b, o' + 3, none⟩ = some (.int .u8 (x3.toNat : Int)) := fun h => by rw [← hx3]; exact HAT.out.get 3 (by rw [HTN.out]; exact h)
        have hWr : b < wr.heap.size := Nat.lt_of_lt_of_le hlt HB.out.size
        have hne1 : ¬ b = wr.heap.size := by omega
        have hne2 : ¬ wr.heap.size = b := by omega
        have HC1 := Aside0.mk hc1
        have HC2 := Aside0.mk hc2
        have HC3 := Aside0.mk hc3
        have HL := Aside0.mk hlead
        clear hX hLO hHI hne hx0 hx1 hx2 hx3 hc1 hc2 hc3 hlead HTR HAT HV
        by_cases s2 : SZ = 2
        · subst s2
          have hSZz : (X : Int) % 8 = 2 := by omega
          have hlead := HL.out
          simp only [Lib.checkN, Nat.reduceEqDiff, if_true, if_false] at hlead
          have HLD := Aside0.mk hlead
          clear hlead
          go_upto_region 18 with fail
          have HBA := Aside0.mk (HB.out.alloc HB.out.size (.cells #[.int .u8 (LO : Int), .int .u8 (HI : Int)] 96))
          have ga0 : (wr.alloc (.cells #[.int .u8 (LO : Int), .int .u8 (HI : Int)] 96)).cell? ⟨wr.heap.size, 0, none⟩ = some (.int .u8 (LO : Int)) := by simp
          have ga1 : (wr.alloc (.cells #[.int .u8 (LO : Int), .int .u8 (HI : Int)] 96)).cell? ⟨wr.heap.size, 1, none⟩ = some (.int .u8 (HI : Int)) := by simp
          have GP1 := Aside0.mk (fun h : 1 < m + 1 => (World.cell?_alloc_past (w := wr) (.cells #[.int .u8 (LO : Int), .int .u8 (HI : Int)] 96) b (o' + 1) hWr).trans (HC1.out h))
          generalize wr.alloc (.cells #[.int .u8 (LO : Int), .int .u8 (HI : Int)] 96) = wa at HBA ga0 ga1 GP1 ⊢
          go_cut [103] from 85 to 103 (fun c wx => c = .bool (decide (m + 1 < 2 ∨ x1.toNat < LO ∨ HI < x1.toNat)) ∧ Below w.heap.size w wx)
          case first =>
            as_aux_lemma =>
            by_cases q0 : m + 1 < 2
            · have q0z : decide ((m : Int) + 1 < 2) = true := decide_eq_true (by omega)
              go_quiet (fail)
              go_wp2
              go_meet
              exact ⟨congrArg Value.bool (decide_eq_true (p := m + 1 < 2 ∨ x1.toNat < LO ∨ HI < x1.toNat) (by omega)).symm, pw_below_drewN HBA.out _⟩
            · have q0z : decide ((m : Int) + 1 < 2) = false := decide_eq_false (by omega)
              have hz1 : (1 : Int) < (m : Int) + 1 := by omega
              have hy1 : 1 < m + 1 := by omega
              have hx1 : 0 < m := by omega
              have hw1 : (0 : Int) < (m : Int) := by omega
              have hp1 := GP1.out (by omega)
              by_cases r0 : x1.toNat < LO
              · have r0z : decide ((x1.toNat : Int) < (LO : Int)) = true := decide_eq_true (by omega)
                go_quiet (fail)
                go_wp2
                go_meet
                exact ⟨congrArg Value.bool (decide_eq_true (p := m + 1 < 2 ∨ x1.toNat < LO ∨ HI < x1.toNat) (by omega)).symm, pw_below_drewN HBA.out _⟩
              · have r0z : decide ((x1.toNat : Int) < (LO : Int)) = false := decide_eq_false (by omega)
                by_cases r1 : HI < x1.toNat
                · have r1z : decide ((HI : Int) < (x1.toNat : Int)) = true := decide_eq_true (by omega)
                  go_quiet (fail)
                  go_wp2
                  go_meet
                  exact ⟨congrArg Value.bool (decide_eq_true (p := m + 1 < 2 ∨ x1.toNat < LO ∨ HI < x1.toNat) (by omega)).symm, pw_below_drewN HBA.out _⟩
                · have r1z : decide ((HI : Int) < (x1.toNat : Int)) = false := decide_eq_false (by omega)
                  go_quiet (fail)
                  go_wp2
                  go_meet
                  exact ⟨congrArg Value.bool (decide_eq_false (p := m + 1 < 2 ∨ x1.toNat < LO ∨ HI < x1.toNat) (by omega)).symm, pw_below_drewN HBA.out _⟩
          case rest =>
            as_aux_lemma =>
            obtain ⟨rfl, hbc⟩ := hcut
            have HBC := Aside0.mk hbc
            clear hbc HC1 HC2 HC3
            by_cases hb : m + 1 < 2 ∨ x1.toNat < LO ∨ HI < x1.toNat
            · have hbd : decide (m + 1 < 2 ∨ x1.toNat < LO ∨ HI < x1.toNat) = true := decide_eq_true hb
              have hl2 := HLD.out
              rw [if_pos hb] at hl2
              have HL2 := Aside0.mk hl2
              clear hl2
              go_wp2
              all_goals (go_ret; exact ⟨by rw [HL2.out]; rfl, HBC.out⟩)
            · have hbd : decide (m + 1 < 2 ∨ x1.toNat < LO ∨ HI < x1.toNat) = false := decide_eq_false hb
              have hl2 := HLD.out
              rw [if_neg hb] at hl2
              have HL2 := Aside0.mk hl2
              clear hl2 HL HLD
              obtain ⟨m', rfl⟩ : ∃ m', m = m' + 1 := ⟨m - 1, by omega⟩
              have sz' : (2 : Int) ≤ (m' : Int) + 2 := by omega
              by_cases hm0 : m' = 0
              · subst hm0
                go_wp2
                go_roundg g'
                case measure => omega
                case rel => exact ⟨HBC.out, _, o' + 2, 0, t.drop 2, by rfl, by rw [List.length_drop, HTN.out], fun h => absurd h (by omega), HAT0.out.drop 2 _ rfl, HL2.out.symm, by omega, by omega⟩
              · go_wp2
                go_roundg g'
                case measure => omega
                case rel => exact ⟨HBC.out, _, o' + 2, m', t.drop 2, by rfl, by rw [List.length_drop, HTN.out]; omega, fun _ => by rfl, HAT0.out.drop 2 _ rfl, HL2.out.symm, by omega, by omega⟩
        by_cases s3 : SZ = 3
        · subst s3
          have hSZz : (X : Int) % 8 = 3 := by omega
          have hlead := HL.out
          simp only [Lib.checkN, Nat.reduceEqDiff, if_true, if_false] at hlead
          have HLD := Aside0.mk hlead
          clear hlead
          go_upto_region 22 with fail
          have HBA := Aside0.mk (HB.out.alloc HB.out.size (.cells #[.int .u8 (LO : Int), .int .u8 (HI : Int)] 96))
          have ga0 : (wr.alloc (.cells #[.int .u8 (LO : Int), .int .u8 (HI : Int)] 96)).cell? ⟨wr.heap.size, 0, none⟩ = some (.int .u8 (LO : Int)) := by simp
          have ga1 : (wr.alloc (.cells #[.int .u8 (LO : Int), .int .u8 (HI : Int)] 96)).cell? ⟨wr.heap.size, 1, none⟩ = some (.int .u8 (HI : Int)) := by simp
          have GP1 := Aside0.mk (fun h : 1 < m + 1 => (World.cell?_alloc_past (w := wr) (.cells #[.int .u8 (LO : Int), .int .u8 (HI : Int)] 96) b (o' + 1) hWr).trans (HC1.out h))
          have GP2 := Aside0.mk (fun h : 2 < m + 1 => (World.cell?_alloc_past (w := wr) (.cells #[.int .u8 (LO : Int), .int .u8 (HI : Int)] 96) b (o' + 2) hWr).trans (HC2.out h))
          generalize wr.alloc (.cells #[.int .u8 (LO : Int), .int .u8 (HI : Int)] 96) = wa at HBA ga0 ga1 GP1 GP2 ⊢
          go_cut [138] from 108 to 138 (fun c wx => c = .bool (decide (m + 1 < 3 ∨ x1.toNat < LO ∨ HI < x1.toNat ∨ x2.toNat < 128 ∨ 191 < x2.toNat)) ∧ Below w.heap.size w wx)
          case first =>
            as_aux_lemma =>
            by_cases q0 : m + 1 < 3
            · have q0z : decide ((m : Int) + 1 < 3) = true := decide_eq_true (by omega)
              go_quiet (fail)
              go_wp2
              go_meet
              exact ⟨congrArg Value.bool (decide_eq_true (p := m + 1 < 3 ∨ x1.toNat < LO ∨ HI < x1.toNat ∨ x2.toNat < 128 ∨ 191 < x2.toNat) (by omega)).symm, pw_below_drewN HBA.out _⟩
            · have q0z : decide ((m : Int) + 1 < 3) = false := decide_eq_false (by omega)
              have hz1 : (1 : Int) < (m : Int) + 1 := by omega
              have hy1 : 1 < m + 1 := by omega
              have hx1 : 0 < m := by omega
              have hw1 : (0 : Int) < (m : Int) := by omega
              have hp1 := GP1.out (by omega)
              have hz2 : (2 : Int) < (m : Int) + 1 := by omega
              have hy2 : 2 < m + 1 := by omega
              have hx2 : 1 < m := by omega
              have hw2 : (1 : Int) < (m : Int) := by omega
              have hp2 := GP2.out (by omega)
              by_cases r0 : x1.toNat < LO
              · have r0z : decide ((x1.toNat : Int) < (LO : Int)) = true := decide_eq_true (by omega)
                go_quiet (fail)
                go_wp2
                go_meet
                exact ⟨congrArg Value.bool (decide_eq_true (p := m + 1 < 3 ∨ x1.toNat < LO ∨ HI < x1.toNat ∨ x2.toNat < 128 ∨ 191 < x2.toNat) (by omega)).symm, pw_below_drewN HBA.out _⟩
              · have r0z : decide ((x1.toNat : Int) < (LO : Int)) = false := decide_eq_false (by omega)
                by_cases r1 : HI < x1.toNat
                · have r1z : decide ((HI : Int) < (x1.toNat : Int)) = true := decide_eq_true (by omega)
                  go_quiet (fail)
                  go_wp2
                  go_meet
                  exact ⟨congrArg Value.bool (decide_eq_true (p := m + 1 < 3 ∨ x1.toNat < LO ∨ HI < x1.toNat ∨ x2.toNat < 128 ∨ 191 < x2.toNat) (by omega)).symm, pw_below_drewN HBA.out _⟩
                · have r1z : decide ((HI : Int) < (x1.toNat : Int)) = false := decide_eq_false (by omega)
                  by_cases r2 : x2.toNat < 128
                  · have r2z : decide ((x2.toNat : Int) < 128) = true := decide_eq_true (by omega)
                    go_quiet (fail)
                    go_wp2
                    go_meet
                    exact ⟨congrArg Value.bool (decide_eq_true (p := m + 1 < 3 ∨ x1.toNat < LO ∨ HI < x1.toNat ∨ x2.toNat < 128 ∨ 191 < x2.toNat) (by omega)).symm, pw_below_drewN HBA.out _⟩
                  · have r2z : decide ((x2.toNat : Int) < 128) = false := decide_eq_false (by omega)
                    by_cases r3 : 191 < x2.toNat
                    · have r3z : decide ((191 : Int) < (x2.toNat : Int)) = true := decide_eq_true (by omega)
                      go_quiet (fail)
                      go_wp2
                      go_meet
                      exact ⟨congrArg Value.bool (decide_eq_true (p := m + 1 < 3 ∨ x1.toNat < LO ∨ HI < x1.toNat ∨ x2.toNat < 128 ∨ 191 < x2.toNat) (by omega)).symm, pw_below_drewN HBA.out _⟩
                    · have r3z : decide ((191 : Int) < (x2.toNat : Int)) = false := decide_eq_false (by omega)
                      go_quiet (fail)
                      go_wp2
                      go_meet
                      exact ⟨congrArg Value.bool (decide_eq_false (p := m + 1 < 3 ∨ x1.toNat < LO ∨ HI < x1.toNat ∨ x2.toNat < 128 ∨ 191 < x2.toNat) (by omega)).symm, pw_below_drewN HBA.out _⟩
          case rest =>
            as_aux_lemma =>
            obtain ⟨rfl, hbc⟩ := hcut
            have HBC := Aside0.mk hbc
            clear hbc HC1 HC2 HC3
            by_cases hb : m + 1 < 3 ∨ x1.toNat < LO ∨ HI < x1.toNat ∨ x2.toNat < 128 ∨ 191 < x2.toNat
            · have hbd : decide (m + 1 < 3 ∨ x1.toNat < LO ∨ HI < x1.toNat ∨ x2.toNat < 128 ∨ 191 < x2.toNat) = true := decide_eq_true hb
              have hl2 := HLD.out
              rw [if_pos hb] at hl2
              have HL2 := Aside0.mk hl2
              clear hl2
              go_wp2
              all_goals (go_ret; exact ⟨by rw [HL2.out]; rfl, HBC.out⟩)
            · have hbd : decide (m + 1 < 3 ∨ x1.toNat < LO ∨ HI < x1.toNat ∨ x2.toNat < 128 ∨ 191 < x2.toNat) = false := decide_eq_false hb
              have hl2 := HLD.out
              rw [if_neg hb] at hl2
              have HL2 := Aside0.mk hl2
              clear hl2 HL HLD
              obtain ⟨m', rfl⟩ : ∃ m', m = m' + 2 := ⟨m - 2, by omega⟩
              have sz' : (3 : Int) ≤ (m' : Int) + 3 := by omega
              by_cases hm0 : m' = 0
              · subst hm0
                go_wp2
                go_roundg g'
                case measure => omega
                case rel => exact ⟨HBC.out, _, o' + 3, 0, t.drop 3, by rfl, by rw [List.length_drop, HTN.out], fun h => absurd h (by omega), HAT0.out.drop 3 _ rfl, HL2.out.symm, by omega, by omega⟩
              · go_wp2
                go_roundg g'
                case measure => omega
                case rel => exact ⟨HBC.out, _, o' + 3, m', t.drop 3, by rfl, by rw [List.length_drop, HTN.out]; omega, fun _ => by rfl, HAT0.out.drop 3 _ rfl, HL2.out.symm, by omega, by omega⟩
        by_cases s4 : SZ = 4
        · subst s4
          have hSZz : (X : Int) % 8 = 4 := by omega
          have hlead := HL.out
          simp only [Lib.checkN, Nat.reduceEqDiff, if_true, if_false] at hlead
          have HLD := Aside0.mk hlead
          clear hlead
          go_upto_region 26 with fail
          have HBA := Aside0.mk (HB.out.alloc HB.out.size (.cells #[.int .u8 (LO : Int), .int .u8 (HI : Int)] 96))
          have ga0 : (wr.alloc (.cells #[.int .u8 (LO : Int), .int .u8 (HI : Int)] 96)).cell? ⟨wr.heap.size, 0, none⟩ = some (.int .u8 (LO : Int)) := by simp
          have ga1 : (wr.alloc (.cells #[.int .u8 (LO : Int), .int .u8 (HI : Int)] 96)).cell? ⟨wr.heap.size, 1, none⟩ = some (.int .u8 (HI : Int)) := by simp
          have GP1 := Aside0.mk (fun h : 1 < m + 1 => (World.cell?_alloc_past (w := wr) (.cells #[.int .u8 (LO : Int), .int .u8 (HI : Int)] 96) b (o' + 1) hWr).trans (HC1.out h))
          have GP2 := Aside0.mk (fun h : 2 < m + 1 => (World.cell?_alloc_past (w := wr) (.cells #[.int .u8 (LO : Int), .int .u8 (HI : Int)] 96) b (o' + 2) hWr).trans (HC2.out h))
          have GP3 := Aside0.mk (fun h : 3 < m + 1 => (World.cell?_alloc_past (w := wr) (.cells #[.int .u8 (LO : Int), .int .u8 (HI : Int)] 96) b (o' + 3) hWr).trans (HC3.out h))
          generalize wr.alloc (.cells #[.int .u8 (LO : Int), .int .u8 (HI : Int)] 96) = wa at HBA ga0 ga1 GP1 GP2 GP3 ⊢
          go_cut [185] from 143 to 185 (fun c wx => c = .bool (decide (m + 1 < 4 ∨ x1.toNat < LO ∨ HI < x1.toNat ∨ x2.toNat < 128 ∨ 191 < x2.toNat ∨ x3.toNat < 128 ∨ 191 < x3.toNat)) ∧ Below w.heap.size w wx)
          case first =>
            as_aux_lemma =>
            by_cases q0 : m + 1 < 4
            · have q0z : decide ((m : Int) + 1 < 4) = true := decide_eq_true (by omega)
              go_quiet (fail)
              go_wp2
              go_meet
              exact ⟨congrArg Value.bool (decide_eq_true (p := m + 1 < 4 ∨ x1.toNat < LO ∨ HI < x1.toNat ∨ x2.toNat < 128 ∨ 191 < x2.toNat ∨ x3.toNat < 128 ∨ 191 < x3.toNat) (by omega)).symm, pw_below_drewN HBA.out _⟩
            · have q0z : decide ((m : Int) + 1 < 4) = false := decide_eq_false (by omega)
              have hz1 : (1 : Int) < (m : Int) + 1 := by omega
              have hy1 : 1 < m + 1 := by omega
              have hx1 : 0 < m := by omega
              have hw1 : (0 : Int) < (m : Int) := by omega
              have hp1 := GP1.out (by omega)
              have hz2 : (2 : Int) < (m : Int) + 1 := by omega
              have hy2 : 2 < m + 1 := by omega
              have hx2 : 1 < m := by omega
              have hw2 : (1 : Int) < (m : Int) := by omega
              have hp2 := GP2.out (by omega)
              have hz3 : (3 : Int) < (m : Int) + 1 := by omega
              have hy3 : 3 < m + 1 := by omega
              have hx3 : 2 < m := by omega
              have hw3 : (2 : Int) < (m : Int) := by omega
              have hp3 := GP3.out (by omega)
              by_cases r0 : x1.toNat < LO
              · have r0z : decide ((x1.toNat : Int) < (LO : Int)) = true := decide_eq_true (by omega)
                go_quiet (fail)
                go_wp2
                go_meet
                exact ⟨congrArg Value.bool (decide_eq_true (p := m + 1 < 4 ∨ x1.toNat < LO ∨ HI < x1.toNat ∨ x2.toNat < 128 ∨ 191 < x2.toNat ∨ x3.toNat < 128 ∨ 191 < x3.toNat) (by omega)).symm, pw_below_drewN HBA.out _⟩
              · have r0z : decide ((x1.toNat : Int) < (LO : Int)) = false := decide_eq_false (by omega)
                by_cases r1 : HI < x1.toNat
                · have r1z : decide ((HI : Int) < (x1.toNat : Int)) = true := decide_eq_true (by omega)
                  go_quiet (fail)
                  go_wp2
                  go_meet
                  exact ⟨congrArg Value.bool (decide_eq_true (p := m + 1 < 4 ∨ x1.toNat < LO ∨ HI < x1.toNat ∨ x2.toNat < 128 ∨ 191 < x2.toNat ∨ x3.toNat < 128 ∨ 191 < x3.toNat) (by omega)).symm, pw_below_drewN HBA.out _⟩
                · have r1z : decide ((HI : Int) < (x1.toNat : Int)) = false := decide_eq_false (by omega)
                  by_cases r2 : x2.toNat < 128
                  · have r2z : decide ((x2.toNat : Int) < 128) = true := decide_eq_true (by omega)
                    go_quiet (fail)
                    go_wp2
                    go_meet
                    exact ⟨congrArg Value.bool (decide_eq_true (p := m + 1 < 4 ∨ x1.toNat < LO ∨ HI < x1.toNat ∨ x2.toNat < 128 ∨ 191 < x2.toNat ∨ x3.toNat < 128 ∨ 191 < x3.toNat) (by omega)).symm, pw_below_drewN HBA.out _⟩
                  · have r2z : decide ((x2.toNat : Int) < 128) = false := decide_eq_false (by omega)
                    by_cases r3 : 191 < x2.toNat
                    · have r3z : decide ((191 : Int) < (x2.toNat : Int)) = true := decide_eq_true (by omega)
                      go_quiet (fail)
                      go_wp2
                      go_meet
                      exact ⟨congrArg Value.bool (decide_eq_true (p := m + 1 < 4 ∨ x1.toNat < LO ∨ HI < x1.toNat ∨ x2.toNat < 128 ∨ 191 < x2.toNat ∨ x3.toNat < 128 ∨ 191 < x3.toNat) (by omega)).symm, pw_below_drewN HBA.out _⟩
                    · have r3z : decide ((191 : Int) < (x2.toNat : Int)) = false := decide_eq_false (by omega)
                      by_cases r4 : x3.toNat < 128
                      · have r4z : decide ((x3.toNat : Int) < 128) = true := decide_eq_true (by omega)
                        go_quiet (fail)
                        go_wp2
                        go_meet
                        exact ⟨congrArg Value.bool (decide_eq_true (p := m + 1 < 4 ∨ x1.toNat < LO ∨ HI < x1.toNat ∨ x2.toNat < 128 ∨ 191 < x2.toNat ∨ x3.toNat < 128 ∨ 191 < x3.toNat) (by omega)).symm, pw_below_drewN HBA.out _⟩
                      · have r4z : decide ((x3.toNat : Int) < 128) = false := decide_eq_false (by omega)
                        by_cases r5 : 191 < x3.toNat
                        · have r5z : decide ((191 : Int) < (x3.toNat : Int)) = true := decide_eq_true (by omega)
                          go_quiet (fail)
                          go_wp2
                          go_meet
                          exact ⟨congrArg Value.bool (decide_eq_true (p := m + 1 < 4 ∨ x1.toNat < LO ∨ HI < x1.toNat ∨ x2.toNat < 128 ∨ 191 < x2.toNat ∨ x3.toNat < 128 ∨ 191 < x3.toNat) (by omega)).symm, pw_below_drewN HBA.out _⟩
                        · have r5z : decide ((191 : Int) < (x3.toNat : Int)) = false := decide_eq_false (by omega)
                          go_quiet (fail)
                          go_wp2
                          go_meet
                          exact ⟨congrArg Value.bool (decide_eq_false (p := m + 1 < 4 ∨ x1.toNat < LO ∨ HI < x1.toNat ∨ x2.toNat < 128 ∨ 191 < x2.toNat ∨ x3.toNat < 128 ∨ 191 < x3.toNat) (by omega)).symm, pw_below_drewN HBA.out _⟩
          case rest =>
            as_aux_lemma =>
            obtain ⟨rfl, hbc⟩ := hcut
            have HBC := Aside0.mk hbc
            clear hbc HC1 HC2 HC3
            by_cases hb : m + 1 < 4 ∨ x1.toNat < LO ∨ HI < x1.toNat ∨ x2.toNat < 128 ∨ 191 < x2.toNat ∨ x3.toNat < 128 ∨ 191 < x3.toNat
            · have hbd : decide (m + 1 < 4 ∨ x1.toNat < LO ∨ HI < x1.toNat ∨ x2.toNat < 128 ∨ 191 < x2.toNat ∨ x3.toNat < 128 ∨ 191 < x3.toNat) = true := decide_eq_true hb
              have hl2 := HLD.out
              rw [if_pos hb] at hl2
              have HL2 := Aside0.mk hl2
              clear hl2
              go_wp2
              all_goals (go_ret; exact ⟨by rw [HL2.out]; rfl, HBC.out⟩)
            · have hbd : decide (m + 1 < 4 ∨ x1.toNat < LO ∨ HI < x1.toNat ∨ x2.toNat < 128 ∨ 191 < x2.toNat ∨ x3.toNat < 128 ∨ 191 < x3.toNat) = false := decide_eq_false hb
              have hl2 := HLD.out
              rw [if_neg hb] at hl2
              have HL2 := Aside0.mk hl2
              clear hl2 HL HLD
              obtain ⟨m', rfl⟩ : ∃ m', m = m' + 3 := ⟨m - 3, by omega⟩
              have sz' : (4 : Int) ≤ (m' : Int) + 4 := by omega
              by_cases hm0 : m' = 0
              · subst hm0
                go_wp2
                go_roundg g'
                case measure => omega
                case rel => exact ⟨HBC.out, _, o' + 4, 0, t.drop 4, by rfl, by rw [List.length_drop, HTN.out], fun h => absurd h (by omega), HAT0.out.drop 4 _ rfl, HL2.out.symm, by omega, by omega⟩
              · go_wp2
                go_roundg g'
                case measure => omega
                case rel => exact ⟨HBC.out, _, o' + 4, m', t.drop 4, by rfl, by rw [List.length_drop, HTN.out]; omega, fun _ => by rfl, HAT0.out.drop 4 _ rfl, HL2.out.symm, by omega, by omega⟩
        have e2 : ¬ ((X : Int) % 8 = 2) := by omega
        have e3 : ¬ ((X : Int) % 8 = 3) := by omega
        have e4 : ¬ ((X : Int) % 8 = 4) := by omega
        have e2b : (((X : Int) % 8) == 2) = false := by simp; omega
        have e3b : (((X : Int) % 8) == 3) = false := by simp; omega
        have e4b : (((X : Int) % 8) == 4) = false := by simp; omega
        have hlead := HL.out
        simp only [Lib.checkN, s2, s3, s4, if_false] at hlead
        have HLD := Aside0.mk hlead
        clear hlead HC1 HC2 HC3 HL
        go_wp2
        all_goals (go_ret; exact ⟨by rw [HLD.out]; rfl, HB.out.alloc HB.out.size _⟩)
    · obtain rfl : n = 0 := by omega
      have hnil : t = [] := List.eq_nil_of_length_eq_zero HTN.out
      have hv := HV.out
      rw [hnil, Lib.validD_nil] at hv
      have HV2 := Aside0.mk hv
      clear hv hA hnil
      go_wp2
      go_ret
      exact ⟨by rw [HV2.out]; rfl, HB.out⟩
end Go.Proofs.YtbbdfamfmkcfhaaGreatDoor.Val
