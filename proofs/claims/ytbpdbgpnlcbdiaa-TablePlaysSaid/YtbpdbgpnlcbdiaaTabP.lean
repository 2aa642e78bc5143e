/- Chapter 22: whatever is put in and taken out, its handles, and what they tell: the law's walk. -/
import Derived.Test.YtbpdbgpnlcbdiaaTabG
import Derived.Test.YtbpdbgpnlcbdiaaRowV
import Derived.Deep.Cut
import Derived.Deep.CutBlock
import Derived.Deep.DeepCutAuto
namespace Go.Proofs.Ytbpdbgpnlcbdiaa.Tab
open Go.RowKit Go.Proofs.YtbpdbgpnlcbdiaaW.PrintWords Go.Proofs.YtbpdbgpnlcbdiaaW.PrintLast Go.Proofs.YtbpdbgpnlcbdiaaW.PrintMore Go.Proofs.Ytbpdbgpnlcbdiaa.Row
set_option linter.unusedVariables false
set_option linter.unusedSimpArgs false
theorem handles_nil_int (w : World) : Calls Try.prog 21 #[.pointer none] w fun e w' => e = .returned (.slice none 0 0) ∧ w = w' := by
  go_enter Try.func21, Try.ntmps21
  go_wp2
  go_ret
  exact ⟨rfl, rfl⟩
theorem own_cap {w : World} {base : Nat} {e : TypeId} {A : Option Addr} {n cap size : Nat} {xs : List Value} (h : w.ownsRow base e size (.slice A n cap) n xs) : n ≤ cap := by
  rcases h.2 with ⟨h1, h2⟩ | ⟨g, c, cur, h1, _, _, h4, _⟩
  · omega
  · injection h1 with _ _ h3
    omega
theorem own_base {w : World} {base base' : Nat} {e : TypeId} {size : Nat} {v : Value} {n : Nat} {xs : List Value} (h : w.ownsRow base e size v n xs) (hb : base' ≤ base) : w.ownsRow base' e size v n xs := by
  refine ⟨h.1, ?_⟩
  rcases h.2 with h2 | ⟨g, c, cur, h1, h2, h3⟩
  · exact Or.inl h2
  · exact Or.inr ⟨g, c, cur, h1, Nat.le_trans hb h2, h3⟩
theorem own_empty (w : World) (e : TypeId) : ((w.alloc (.cells #[] e)).drew).ownsRow w.heap.size e 1 (.slice (some ⟨w.heap.size, 0, none⟩) 0 0) 0 [] := by
  refine ⟨rfl, Or.inr ⟨w.heap.size, 0, #[], rfl, Nat.le_refl _, ?_, Nat.le_refl _, Nat.zero_le _, rfl, rfl⟩⟩
  show (w.heap.push _)[w.heap.size]? = _
  simp
theorem row_head {w : World} {base g cap n : Nat} {e : TypeId} {xs : List Value} (h : w.ownsRow base e 1 (.slice (some ⟨g, 0, none⟩) n cap) n xs) (k : Nat) : ∀ j u, (xs.take k)[j]? = some u → w.cell? ((⟨g, 0, none⟩ : Addr).add j) = some u := by
  intro j u hj
  rw [List.getElem?_take] at hj
  split at hj
  · exact h.cells (g := g) rfl _ _ hj
  · cases hj
theorem row_tail {w : World} {base g cap n : Nat} {e : TypeId} {xs : List Value} (h : w.ownsRow base e 1 (.slice (some ⟨g, 0, none⟩) n cap) n xs) (k : Nat) : ∀ j u, (xs.drop k)[j]? = some u → w.cell? ((⟨g, k, none⟩ : Addr).add j) = some u := by
  intro j u hj
  rw [List.getElem?_drop] at hj
  have := own_at h (k + j) u hj
  have ha : (⟨g, k, none⟩ : Addr).add j = ⟨g, k + j, none⟩ := by unfold Addr.add; split <;> simp_all
  rw [ha]
  exact this
theorem handL_one (l : List (Int × Value)) : ∀ u ∈ handL l, u.oneCell' = true := by
  intro u hu
  obtain ⟨p, _, rfl⟩ := List.mem_map.1 hu
  rfl
theorem thingL_one (l : List (Int × Value)) (h : All_int l) : ∀ u ∈ thingL l, u.oneCell' = true := by
  intro u hu
  obtain ⟨p, hp, rfl⟩ := List.mem_map.1 hu
  exact all1_int l h p hp
/-- What a delete leaves: a row of the call's own, the old ones as they were. -/
def DelRow (w0 : World) (e : TypeId) (n : Nat) (xs : List Value) (h : Value) (w : World) : Prop := ∃ A c, h = .slice A n c ∧ w.ownsRow w0.heap.size e 1 (.slice A n c) n xs ∧ Below w0.heap.size w0 w
/-- What the switch leaves: some table of the same room, and the law's own two rows beside it. -/
def Mid (T E base B cap k : Nat) (w0 : World) (h t s : Value) (w : World) : Prop :=
  ∃ (last : Nat) (l : List (Int × Value)) (hv tv : Value), hv = h ∧ tv = t ∧ .int .i64 (last : Int) = s ∧ TabAt T E base B cap last l w ∧ w.ownsRow base 2 1 hv l.length (handL l) ∧ w.ownsRow base 3 1 tv l.length (thingL l) ∧ All_int l ∧ Inc l last ∧ last ≤ k + 1 ∧ l.length ≤ cap ∧ Below base w0 w
theorem mid_mk {T E base B cap k last : Nat} {l : List (Int × Value)} {w0 w : World} {h t s hv tv : Value} (h1 : last ≤ k + 1) (h2 : hv = h) (h3 : tv = t) (h4 : Value.int .i64 (last : Int) = s) (h5 : TabAt T E base B cap last l w) (h6 : w.ownsRow base 2 1 hv l.length (handL l)) (h7 : w.ownsRow base 3 1 tv l.length (thingL l)) (h8 : All_int l) (h9 : Inc l last) (h10 : l.length ≤ cap) (h11 : Below base w0 w) : Mid T E base B cap k w0 h t s w :=
  ⟨last, l, hv, tv, h2, h3, h4, h5, h6, h7, h8, h9, h1, h10, h11⟩
set_option maxHeartbeats 16000000 in
set_option maxRecDepth 100000 in
theorem plays_walk (room : Int) (A1 A2 : Option Addr) (c1 c2 : Nat) (l1 l2 : List Int) (n1 n2 : Nat) (hn1 : l1.length = n1) (hn2 : l2.length = n2) (w : World) (h1 : Reads w A1 n1 (l1.map (Value.int .u8))) (h2 : Reads w A2 n2 (l2.map (Value.int .i8))) (hc1 : n1 ≤ c1) (hc2 : n2 ≤ c2)
    (hw1 : ∀ x ∈ l1, 0 ≤ x ∧ x ≤ 255) (hw2 : ∀ x ∈ l2, -128 ≤ x ∧ x ≤ 127) :
    Calls Try.prog 5 #[.int .i64 room, .slice A1 n1 c1, .slice A2 n2 c2] w fun e w' => e = .returned (.bool true) ∧ Below w.heap.size w w' := by
  have HA := Aside0.mk awake_walk
  have H1 := Aside0.mk h1
  have H2 := Aside0.mk h2
  have HL1 := Aside0.mk hn1
  have HL2 := Aside0.mk hn2
  have HW1 := Aside0.mk hw1
  have HW2 := Aside0.mk hw2
  clear h1 h2 hn1 hn2 hw1 hw2
  by_cases hbig : 150 < n1 ∨ n2 < n1
  · by_cases hb1 : 150 < n1
    · have hd : decide ((150 : Int) < (n1 : Int)) = true := decide_eq_true (by omega)
      clear hbig
      go_enter Try.func5, Try.ntmps5
      go_wp2_with (first
        | (go_at_call 7; with_reducible refine (HA.out w).mono ?_; rintro e w0 ⟨rfl, hb0⟩; have B0 := Aside0.mk hb0; clear hb0)
        | (go_at_call 7; with_reducible refine (HA.out w0).mono ?_; rintro e w00 ⟨rfl, hb00⟩; have B00 := Aside0.mk hb00; clear hb00))
      go_ret
      exact ⟨rfl, B0.out.trans (B00.out.mono B0.out.size)⟩
    · have hd : decide ((150 : Int) < (n1 : Int)) = false := decide_eq_false (by omega)
      have hd2 : decide (n2 < n1) = true := decide_eq_true (by omega)
      clear hbig
      go_enter Try.func5, Try.ntmps5
      go_wp2_with (first
        | (go_at_call 7; with_reducible refine (HA.out w).mono ?_; rintro e w0 ⟨rfl, hb0⟩; have B0 := Aside0.mk hb0; clear hb0)
        | (go_at_call 7; with_reducible refine (HA.out w0).mono ?_; rintro e w00 ⟨rfl, hb00⟩; have B00 := Aside0.mk hb00; clear hb00))
      go_ret
      exact ⟨rfl, B0.out.trans (B00.out.mono B0.out.size)⟩
  · have hd : decide ((150 : Int) < (n1 : Int)) = false := decide_eq_false (by omega)
    have hd2 : decide (n2 < n1) = false := decide_eq_false (by omega)
    have h150 : n1 ≤ 150 := by omega
    have h12 : n1 ≤ n2 := by omega
    clear hbig
    by_cases hroom : room < 1 ∨ 64 < room
    · have HN := Aside0.mk (fun w => new_none_int room hroom w)
      by_cases hr1 : room < 1
      · have hd3 : decide (room < 1) = true := decide_eq_true hr1
        clear hroom
        go_enter Try.func5, Try.ntmps5
        go_wp2_with (first
          | (go_at_call 7; refine (HA.out _).mono ?_; rintro e w0 ⟨rfl, hb0⟩; have B0 := Aside0.mk hb0; clear hb0)
          | (go_at_call 18; refine (HN.out _).mono ?_; rintro e w1 ⟨rfl, rfl⟩)
          | (go_at_call 19; refine (put_nil_int _ _).mono ?_; rintro e w2 ⟨rfl, rfl⟩)
          | (go_at_call 21; refine (handles_nil_int _).mono ?_; rintro e w5 ⟨rfl, rfl⟩)
          | (go_at_call 20; refine (len_nil_int _).mono ?_; rintro e w6 ⟨rfl, rfl⟩))
        go_ret
        exact ⟨rfl, B0.out⟩
      · have hd3 : decide (room < 1) = false := decide_eq_false hr1
        have hd4 : decide (64 < room) = true := decide_eq_true (by omega)
        clear hroom
        go_enter Try.func5, Try.ntmps5
        go_wp2_with (first
          | (go_at_call 7; refine (HA.out _).mono ?_; rintro e w0 ⟨rfl, hb0⟩; have B0 := Aside0.mk hb0; clear hb0)
          | (go_at_call 18; refine (HN.out _).mono ?_; rintro e w1 ⟨rfl, rfl⟩)
          | (go_at_call 19; refine (put_nil_int _ _).mono ?_; rintro e w2 ⟨rfl, rfl⟩)
          | (go_at_call 21; refine (handles_nil_int _).mono ?_; rintro e w5 ⟨rfl, rfl⟩)
          | (go_at_call 20; refine (len_nil_int _).mono ?_; rintro e w6 ⟨rfl, rfl⟩))
        go_ret
        exact ⟨rfl, B0.out⟩
    · obtain ⟨cap, hcapn⟩ : ∃ cap : Nat, room = (cap : Int) := ⟨room.toNat, by omega⟩
      have hcap1 : 1 ≤ cap := by omega
      have hcap64 : cap ≤ 64 := by omega
      subst hcapn
      have hd3 : decide ((cap : Int) < 1) = false := decide_eq_false (by omega)
      have hd4 : decide (64 < (cap : Int)) = false := decide_eq_false (by omega)
      clear hroom
      have HN := Aside0.mk (fun w => new_int cap hcap1 hcap64 w)
      obtain ⟨i0, hi, hz0, hz1, hz2⟩ := info_parts (show (Try.prog.info? 3).map (fun i => (i.zero, i.size, i.bytes)) = some (some (.int .i64 0), 1, 8) by kernel_rfl)
      obtain ⟨j0, hj, hy0, hy1, hy2⟩ := info_parts (show (Try.prog.info? 2).map (fun i => (i.zero, i.size, i.bytes)) = some (some (.int .i64 0), 1, 8) by kernel_rfl)
      go_enter Try.func5, Try.ntmps5
      go_wp2_with (first
        | (go_at_call 7; refine (HA.out _).mono ?_; rintro e w0 ⟨rfl, hb0⟩; have B0 := Aside0.mk hb0; clear hb0)
        | (go_at_call 18; refine (HN.out _).mono ?_; rintro e w1 ⟨B, rfl, hm1, hb1⟩; have M1 := Aside0.mk hm1; have B1 := Aside0.mk hb1; clear hm1 hb1))
      go_loopw [82, 11, 12, 13] (fun i v t s wr => ∃ (k last : Nat) (l : List (Int × Value)) (hv tv : Value), k ≤ n1 ∧ i = .int .i64 k ∧ hv = v ∧ tv = t ∧ .int .i64 (last : Int) = s ∧ TabAt 70 72 w0.heap.size B cap last l wr ∧ wr.ownsRow w0.heap.size 2 1 hv l.length (handL l) ∧ wr.ownsRow w0.heap.size 3 1 tv l.length (thingL l) ∧ All_int l ∧ Inc l last ∧ last ≤ k ∧ l.length ≤ cap ∧ Below w0.heap.size w0 wr) (fun i _ _ _ _ => n1 - (intOf i).toNat)
      case atStart => exact ⟨0, 0, [], _, _, Nat.zero_le _, rfl, rfl, rfl, rfl, M1.out, own_nil _ _ _ _, own_nil _ _ _ _, fun p hp => absurd hp (by simp), inc_nil, Nat.le_refl _, Nat.zero_le _, B1.out⟩
      case round =>
        obtain ⟨k, last, l, hv, tv, hk, rfl, rfl, rfl, rfl, hM, hO1, hO2, hty, hinc, hlast, hlen, hB⟩ := hrel
        have HM := Aside0.mk hM
        have HO1 := Aside0.mk hO1
        have HO2 := Aside0.mk hO2
        have HTY := Aside0.mk hty
        have HINC := Aside0.mk hinc
        have HLEN := Aside0.mk hlen
        have HB := Aside0.mk hB
        obtain ⟨A11, c11, hA11⟩ := own_slice hO1
        obtain ⟨A12, c12, hA12⟩ := own_slice hO2
        clear hM hO1 hO2 hty hinc hlen hB
        subst hA11
        subst hA12
        by_cases hlt : k < n1
        · have hBw := B0.out.trans (HB.out.mono B0.out.size)
          obtain ⟨ad1, hA1, hr1⟩ := (H1.out.below hBw).2 (by omega)
          obtain ⟨ad2, hA2, hr2⟩ := (H2.out.below hBw).2 (by omega)
          have HBW := Aside0.mk hBw
          subst hA1
          subst hA2
          have hk2 : k < n2 := by omega
          obtain ⟨a, ha⟩ : ∃ a, l1[k]? = some a := ⟨_, List.getElem?_eq_getElem (by rw [HL1.out]; exact hlt)⟩
          obtain ⟨v, hv⟩ : ∃ v, l2[k]? = some v := ⟨_, List.getElem?_eq_getElem (by rw [HL2.out]; exact hk2)⟩
          have e1 : (l1.map (Value.int .u8)).getD k undef = .int .u8 a := by simp [List.getD, ha]
          have e2 : (l2.map (Value.int .i8)).getD k undef = .int .i8 v := by simp [List.getD, hv]
          have hg1 := hr1 k hlt
          have hg2 := hr2 k hk2
          rw [e1] at hg1
          rw [e2] at hg2
          have hab := HW1.out a (List.mem_of_getElem? ha)
          have hvb := HW2.out v (List.mem_of_getElem? hv)
          have ha0 := hab.1
          have ha1 := hab.2
          have hv0 := hvb.1
          have hv1 := hvb.2
          have hwv : IntKind.i64.wrap v = v := IntWalk.i64_in _ (by omega)
          clear hr1 hr2 hBw ha hv e1 e2 hab hvb
          obtain ⟨nl, hnl⟩ : ∃ nl, l.length = nl := ⟨_, rfl⟩
          have HNL := Aside0.mk hnl
          rw [hnl] at HLEN HO1 HO2
          rw [hnl]
          clear hnl
          have hnl64 : nl ≤ 64 := Nat.le_trans HLEN.out hcap64
          go_wp2
          go_loopw [92, 16] (fun i at' wk => ∃ j : Nat, j ≤ nl ∧ i = .int .i64 j ∧ .int .i64 (posI (l.take j) v) = at' ∧ wr = wk) (fun i _ _ => nl - (intOf i).toNat)
          case atStart => exact ⟨0, Nat.zero_le _, rfl, rfl, rfl⟩
          case round =>
            obtain ⟨j, hjn, rfl, rfl, rfl⟩ := hrel
            by_cases hlt2 : j < nl
            · obtain ⟨p, hp⟩ : ∃ p, l[j]? = some p := ⟨_, List.getElem?_eq_getElem (by rw [HNL.out]; exact hlt2)⟩
              obtain ⟨g, hg⟩ := own_some HO1.out (by omega)
              subst hg
              have hc := own_at HO1.out j _ (handL_at hp)
              by_cases heq : p.1 = v
              · have HS := Aside0.mk (show posI (l.take (j + 1)) v = (j : Int) by rw [← heq]; exact pos_hit HINC.out hp)
                rw [heq] at hc
                clear hp heq
                go_wp2
                go_roundw
                case rel => exact ⟨j + 1, hlt2, by go_num, by rw [HS.out], trivial⟩
                case measure => simp [intOf]; omega
              · have HS := Aside0.mk (pos_miss hp heq)
                have hd : (p.1 == v) = false := by simpa using heq
                obtain ⟨h2, hh2⟩ : ∃ h2, p.1 = h2 := ⟨_, rfl⟩
                rw [hh2] at hc hd
                obtain ⟨q, hq⟩ : ∃ q, posI (l.take j) v = q := ⟨_, rfl⟩
                have HS2 := Aside0.mk (HS.out.trans hq)
                rw [hq]
                clear hp heq hh2 HS hq
                go_wp2
                go_roundw
                case rel => exact ⟨j + 1, hlt2, by go_num, by rw [HS2.out], trivial⟩
                case measure => simp [intOf]; omega
            · obtain rfl : nl = j := by omega
              have hfull : l.take nl = l := List.take_of_length_le (by rw [HNL.out]; exact Nat.le_refl _)
              rw [hfull]
              clear hfull
              obtain ⟨ps, hps⟩ : ∃ ps, posI l v = ps := ⟨_, rfl⟩
              have HPS := Aside0.mk hps
              rw [hps]
              clear hps
              have ht : a.tmod 4 = a % 4 := Int.tmod_eq_emod_of_nonneg ha0
              go_upto_block 4 with fail
              go_cut [6, 11, 12, 13, 18, 19, 20, 21, 22, 23] from 107 to 224 (fun _ h t s _ _ _ _ _ _ wc => Mid 70 72 w0.heap.size B cap k w0 h t s wc)
              case first =>
                obtain h4 | h4 | h4 | h4 : a % 4 = 0 ∨ a % 4 = 1 ∨ a % 4 = 2 ∨ a % 4 = 3 := by omega
                · rw [h4] at ht
                  by_cases hfull : nl = cap
                  · as_aux_lemma =>
                      have hfl : l.length = cap := by rw [HNL.out]; exact hfull
                      have HPF := Aside0.mk (put_full_int v wr HM.out hfl)
                      have hd5 : ((nl : Int) == (cap : Int)) = true := by rw [hfull]; simp
                      have HFULL := Aside0.mk hfull
                      clear hfl hfull
                      go_wp2_with (first
                        | (go_at_call 19
                           (with_reducible refine HPF.out.mono ?_)
                           rintro e w4 ⟨rfl, hdn⟩
                           have B4 := Aside0.mk (show Below wr.heap.size wr w4 by obtain ⟨nd, rfl⟩ := hdn; exact pw_below_drewN (Below.refl _ _) nd)
                           have M4 := Aside0.mk (HM.out.kept B4.out)
                           clear hdn))
                      go_meet
                      exact mid_mk (Nat.le_succ_of_le hlast) rfl rfl rfl M4.out (by rw [HNL.out]; exact own_below HO1.out B4.out) (by rw [HNL.out]; exact own_below HO2.out B4.out) HTY.out HINC.out (by rw [HNL.out]; exact HLEN.out) (HB.out.trans (B4.out.mono HB.out.size))
                  · as_aux_lemma =>
                      have hlt6 : nl < cap := by have := HLEN.out; omega
                      have TYL := Aside0.mk (show All_int (l ++ [((last : Int) + 1, Value.int .i64 v)]) from fun p hp => by rw [List.mem_append, List.mem_singleton] at hp; rcases hp with hp | rfl; exact HTY.out p hp; exact ⟨v, rfl⟩)
                      have LEN2 := Aside0.mk (show (l ++ [((last : Int) + 1, Value.int .i64 v)]).length = nl + 1 by rw [List.length_append, HNL.out]; rfl)
                      have INCL := Aside0.mk (inc_snoc HINC.out (.int .i64 v))
                      have HPF := Aside0.mk (putK_int v wr HM.out (by rw [HNL.out]; exact hlt6) hcap64 (by omega))
                      have hd5 : ((nl : Int) == (cap : Int)) = false := by
                        have : (nl : Int) ≠ (cap : Int) := by omega
                        simpa using this
                      have hwl : IntKind.i64.wrap ((last : Int) + 1) = (last : Int) + 1 := IntWalk.i64_in _ (by omega)
                      have HFULL := Aside0.mk hfull
                      clear hfull
                      go_wp2_with (first
                        | (go_at_call 19
                           (with_reducible refine HPF.out.mono ?_)
                           rintro e w3 ⟨rfl, hm3, hb3, hk3⟩
                           have OV1 := Aside0.mk (own_below (own_keeps HO1.out hk3 (by decide) (by decide)) (below_alloc (Below.refl w3.heap.size w3) (.cells #[.int .i64 ((last : Int) + 1)] 2)))
                           have OV2 := Aside0.mk (own_below (own_keeps HO2.out hk3 (by decide) (by decide)) (below_alloc (Below.refl w3.heap.size w3) (.cells #[.int .i64 ((last : Int) + 1)] 2)))
                           have MV := Aside0.mk (hm3.kept (below_alloc (Below.refl w3.heap.size w3) (.cells #[.int .i64 ((last : Int) + 1)] 2)))
                           have BV := Aside0.mk (show Below w0.heap.size w0 (w3.alloc (.cells #[.int .i64 ((last : Int) + 1)] 2)) from below_alloc (HB.out.trans hb3) _)
                           clear hm3 hb3 hk3)
                        | (at_builtin
                           refine wpList_append_own _ rfl _ _ 48 rfl w0.heap.size 2 j0 (.int .i64 0) 1 8 Try.underlying48 hj hy0 hy1 hy2 rfl (by decide) (.slice A11 nl c11) nl (handL l) rfl OV1.out ⟨w3.heap.size, 0, none⟩ 1 1 [.int .i64 ((last : Int) + 1)] rfl rfl (one_cell w3 _ _) (by simp [Value.oneCell']) (by simp only [maxLen]; omega) (by omega) BV.out.size ?_
                           intro vA wA hown hgrow hnil
                           obtain ⟨AA, cA, rfl⟩ := own_slice hown
                           have OA1 := Aside0.mk (own_below hown (below_alloc (Below.refl wA.heap.size wA) (.cells #[.int .i64 v] 3)))
                           have OA2 := Aside0.mk (own_below (own_other OV2.out OV1.out (by decide) hgrow) (below_alloc (Below.refl wA.heap.size wA) (.cells #[.int .i64 v] 3)))
                           have MA := Aside0.mk ((tab_other MV.out OV1.out (by decide) (by decide) hgrow).kept (below_alloc (Below.refl wA.heap.size wA) (.cells #[.int .i64 v] 3)))
                           have BA := Aside0.mk (show Below w0.heap.size w0 (wA.alloc (.cells #[.int .i64 v] 3)) from below_alloc (BV.out.grown hgrow BV.out.size (fun j hj => (OV1.out.lt j hj).1)) _)
                           clear hown hgrow hnil)
                        | (at_builtin
                           refine wpList_append_own _ rfl _ _ 37 rfl w0.heap.size 3 i0 (.int .i64 0) 1 8 Try.underlying37 hi hz0 hz1 hz2 rfl (by decide) (.slice A12 nl c12) nl (thingL l) rfl OA2.out ⟨wA.heap.size, 0, none⟩ 1 1 [.int .i64 v] rfl rfl (one_cell wA _ _) (by simp [Value.oneCell']) (by simp only [maxLen]; omega) (by omega) BA.out.size ?_
                           intro vB w4 hown hgrow hnil
                           obtain ⟨AB, cB, rfl⟩ := own_slice hown
                           have O2X := Aside0.mk (show w4.ownsRow w0.heap.size 3 1 (.slice AB (nl + 1) cB) (nl + 1) (thingL (l ++ [((last : Int) + 1, Value.int .i64 v)])) by rw [thingL_add]; exact hown)
                           have O1X := Aside0.mk (show w4.ownsRow w0.heap.size 2 1 (.slice AA (nl + 1) cA) (nl + 1) (handL (l ++ [((last : Int) + 1, Value.int .i64 v)])) by rw [handL_add]; exact own_other OA1.out OA2.out (by decide) hgrow)
                           have M4 := Aside0.mk (tab_other MA.out OA2.out (by decide) (by decide) hgrow)
                           have BX := Aside0.mk (BA.out.grown hgrow BA.out.size (fun j hj => (OA2.out.lt j hj).1))
                           clear hown hgrow hnil))
                      go_meet
                      exact mid_mk (Nat.succ_le_succ hlast) rfl rfl (by go_num) M4.out (by rw [LEN2.out]; exact O1X.out) (by rw [LEN2.out]; exact O2X.out) TYL.out INCL.out (by rw [LEN2.out]; exact hlt6) BX.out
                · rw [h4] at ht
                  by_cases hfull : nl = cap
                  · as_aux_lemma =>
                      have hfl : l.length = cap := by rw [HNL.out]; exact hfull
                      have HPF := Aside0.mk (put_full_int v wr HM.out hfl)
                      have hd5 : ((nl : Int) == (cap : Int)) = true := by rw [hfull]; simp
                      have HFULL := Aside0.mk hfull
                      clear hfl hfull
                      go_wp2_with (first
                        | (go_at_call 19
                           (with_reducible refine HPF.out.mono ?_)
                           rintro e w4 ⟨rfl, hdn⟩
                           have B4 := Aside0.mk (show Below wr.heap.size wr w4 by obtain ⟨nd, rfl⟩ := hdn; exact pw_below_drewN (Below.refl _ _) nd)
                           have M4 := Aside0.mk (HM.out.kept B4.out)
                           clear hdn))
                      go_meet
                      exact mid_mk (Nat.le_succ_of_le hlast) rfl rfl rfl M4.out (by rw [HNL.out]; exact own_below HO1.out B4.out) (by rw [HNL.out]; exact own_below HO2.out B4.out) HTY.out HINC.out (by rw [HNL.out]; exact HLEN.out) (HB.out.trans (B4.out.mono HB.out.size))
                  · as_aux_lemma =>
                      have hlt6 : nl < cap := by have := HLEN.out; omega
                      have TYL := Aside0.mk (show All_int (l ++ [((last : Int) + 1, Value.int .i64 v)]) from fun p hp => by rw [List.mem_append, List.mem_singleton] at hp; rcases hp with hp | rfl; exact HTY.out p hp; exact ⟨v, rfl⟩)
                      have LEN2 := Aside0.mk (show (l ++ [((last : Int) + 1, Value.int .i64 v)]).length = nl + 1 by rw [List.length_append, HNL.out]; rfl)
                      have INCL := Aside0.mk (inc_snoc HINC.out (.int .i64 v))
                      have HPF := Aside0.mk (putK_int v wr HM.out (by rw [HNL.out]; exact hlt6) hcap64 (by omega))
                      have hd5 : ((nl : Int) == (cap : Int)) = false := by
                        have : (nl : Int) ≠ (cap : Int) := by omega
                        simpa using this
                      have hwl : IntKind.i64.wrap ((last : Int) + 1) = (last : Int) + 1 := IntWalk.i64_in _ (by omega)
                      have HFULL := Aside0.mk hfull
                      clear hfull
                      go_wp2_with (first
                        | (go_at_call 19
                           (with_reducible refine HPF.out.mono ?_)
                           rintro e w3 ⟨rfl, hm3, hb3, hk3⟩
                           have OV1 := Aside0.mk (own_below (own_keeps HO1.out hk3 (by decide) (by decide)) (below_alloc (Below.refl w3.heap.size w3) (.cells #[.int .i64 ((last : Int) + 1)] 2)))
                           have OV2 := Aside0.mk (own_below (own_keeps HO2.out hk3 (by decide) (by decide)) (below_alloc (Below.refl w3.heap.size w3) (.cells #[.int .i64 ((last : Int) + 1)] 2)))
                           have MV := Aside0.mk (hm3.kept (below_alloc (Below.refl w3.heap.size w3) (.cells #[.int .i64 ((last : Int) + 1)] 2)))
                           have BV := Aside0.mk (show Below w0.heap.size w0 (w3.alloc (.cells #[.int .i64 ((last : Int) + 1)] 2)) from below_alloc (HB.out.trans hb3) _)
                           clear hm3 hb3 hk3)
                        | (at_builtin
                           refine wpList_append_own _ rfl _ _ 48 rfl w0.heap.size 2 j0 (.int .i64 0) 1 8 Try.underlying48 hj hy0 hy1 hy2 rfl (by decide) (.slice A11 nl c11) nl (handL l) rfl OV1.out ⟨w3.heap.size, 0, none⟩ 1 1 [.int .i64 ((last : Int) + 1)] rfl rfl (one_cell w3 _ _) (by simp [Value.oneCell']) (by simp only [maxLen]; omega) (by omega) BV.out.size ?_
                           intro vA wA hown hgrow hnil
                           obtain ⟨AA, cA, rfl⟩ := own_slice hown
                           have OA1 := Aside0.mk (own_below hown (below_alloc (Below.refl wA.heap.size wA) (.cells #[.int .i64 v] 3)))
                           have OA2 := Aside0.mk (own_below (own_other OV2.out OV1.out (by decide) hgrow) (below_alloc (Below.refl wA.heap.size wA) (.cells #[.int .i64 v] 3)))
                           have MA := Aside0.mk ((tab_other MV.out OV1.out (by decide) (by decide) hgrow).kept (below_alloc (Below.refl wA.heap.size wA) (.cells #[.int .i64 v] 3)))
                           have BA := Aside0.mk (show Below w0.heap.size w0 (wA.alloc (.cells #[.int .i64 v] 3)) from below_alloc (BV.out.grown hgrow BV.out.size (fun j hj => (OV1.out.lt j hj).1)) _)
                           clear hown hgrow hnil)
                        | (at_builtin
                           refine wpList_append_own _ rfl _ _ 37 rfl w0.heap.size 3 i0 (.int .i64 0) 1 8 Try.underlying37 hi hz0 hz1 hz2 rfl (by decide) (.slice A12 nl c12) nl (thingL l) rfl OA2.out ⟨wA.heap.size, 0, none⟩ 1 1 [.int .i64 v] rfl rfl (one_cell wA _ _) (by simp [Value.oneCell']) (by simp only [maxLen]; omega) (by omega) BA.out.size ?_
                           intro vB w4 hown hgrow hnil
                           obtain ⟨AB, cB, rfl⟩ := own_slice hown
                           have O2X := Aside0.mk (show w4.ownsRow w0.heap.size 3 1 (.slice AB (nl + 1) cB) (nl + 1) (thingL (l ++ [((last : Int) + 1, Value.int .i64 v)])) by rw [thingL_add]; exact hown)
                           have O1X := Aside0.mk (show w4.ownsRow w0.heap.size 2 1 (.slice AA (nl + 1) cA) (nl + 1) (handL (l ++ [((last : Int) + 1, Value.int .i64 v)])) by rw [handL_add]; exact own_other OA1.out OA2.out (by decide) hgrow)
                           have M4 := Aside0.mk (tab_other MA.out OA2.out (by decide) (by decide) hgrow)
                           have BX := Aside0.mk (BA.out.grown hgrow BA.out.size (fun j hj => (OA2.out.lt j hj).1))
                           clear hown hgrow hnil))
                      go_meet
                      exact mid_mk (Nat.succ_le_succ hlast) rfl rfl (by go_num) M4.out (by rw [LEN2.out]; exact O1X.out) (by rw [LEN2.out]; exact O2X.out) TYL.out INCL.out (by rw [LEN2.out]; exact hlt6) BX.out
                · rw [h4] at ht
                  rcases pos_cases l v with hpn | ⟨kk, p, hp, hpv, hpk⟩
                  · have hps1 : ps = -1 := HPS.out.symm.trans hpn
                    as_aux_lemma =>
                      have HG := Aside0.mk (del_none_int v wr HM.out HTY.out (by rw [HNL.out]; omega) hpn)
                      subst hps1
                      have hgn : decide ((0 : Int) ≤ -1) = false := by decide
                      go_wp2_with (first
                        | (go_at_call 22
                           (with_reducible refine HG.out.mono ?_)
                           rintro e w4 ⟨rfl, h4'⟩
                           have B4 := Aside0.mk h4'
                           have M4 := Aside0.mk (HM.out.kept B4.out)
                           clear h4'))
                      go_meet
                      exact mid_mk (Nat.le_succ_of_le hlast) rfl rfl rfl M4.out (by rw [HNL.out]; exact own_below HO1.out B4.out) (by rw [HNL.out]; exact own_below HO2.out B4.out) HTY.out HINC.out (by rw [HNL.out]; exact HLEN.out) (HB.out.trans (B4.out.mono HB.out.size))
                  · obtain ⟨x, hx⟩ := HTY.out p (List.mem_of_getElem? hp)
                    have hpp : p = (v, .int .i64 x) := by rw [← hpv, ← hx]
                    subst hpp
                    have hkl : kk < nl := by have := (List.getElem?_eq_some_iff.1 hp).1; have := HNL.out; omega
                    have hps2 : ps = (kk : Int) := HPS.out.symm.trans hpk
                    have hge : decide ((0 : Int) ≤ (kk : Int)) = true := decide_eq_true (by omega)
                    obtain ⟨g2, hg2'⟩ := own_some HO2.out (by omega)
                    subst hg2'
                    
                    obtain ⟨g1, hg1'⟩ := own_some HO1.out (by omega)
                    subst hg1'
                    have HG := Aside0.mk (delK_int v x wr HM.out HTY.out (by rw [HNL.out]; omega) kk hp hpk)
                    have HC2 := Aside0.mk (fun w7 (h7 : Keeps 70 72 wr w7) => own_at (own_keeps HO2.out h7 (by decide) (by decide)) kk _ (thingL_at hp))
                    have TYL := Aside0.mk (show All_int (l.eraseIdx kk) from fun p hp => HTY.out p ((List.eraseIdx_sublist l kk).subset hp))
                    have LEN2 := Aside0.mk (show (l.eraseIdx kk).length = nl - 1 by rw [List.length_eraseIdx, HNL.out, if_pos hkl])
                    have INCL := Aside0.mk (inc_erase HINC.out kk)
                    subst hps2
                    clear hp hx hpv hpk
                    have hwk : IntKind.i64.wrap ((kk : Int) + 1) = (kk : Int) + 1 := IntWalk.i64_in _ (by omega)
                    have hwk0 : (0 : Int) ≤ (kk : Int) + 1 := by omega
                    have hwk1 : ((kk : Int) + 1).toNat = kk + 1 := by omega
                    go_wp2_with (first
                      | (go_at_call 22
                         (with_reducible refine HG.out.mono ?_)
                         rintro e w4 ⟨rfl, hm4, hb4, hk4⟩
                         have hd2 := HC2.out w4 hk4
                         have B4 := Aside0.mk hb4
                         have M4 := Aside0.mk hm4
                         have OD1 := Aside0.mk (own_keeps HO1.out hk4 (by decide) (by decide))
                         have OD2 := Aside0.mk (own_keeps HO2.out hk4 (by decide) (by decide))
                         clear hm4 hb4 hk4))
                    obtain ⟨hcp1, hcp2⟩ : nl ≤ c11 ∧ nl ≤ c12 := ⟨own_cap OD1.out, own_cap OD2.out⟩
                    have hk11 : kk ≤ c11 := by omega
                    have hk12 : kk ≤ c12 := by omega
                    have hk13 : kk + 1 ≤ nl := hkl
                    have hk14 : (kk : Int) + 1 ≤ (nl : Int) := by omega
                    clear hd2
                    have HEa := Aside0.mk (own_empty w4 2)
                    have HTa := Aside0.mk (show ((handL l).take kk).length = kk * 1 by rw [List.length_take, handL_len, HNL.out]; omega)
                    have HDa := Aside0.mk (below_drew (below_alloc (Below.refl w4.heap.size w4) (.cells #[] 2)))
                    have HCa := Aside0.mk (row_head (own_below OD1.out HDa.out) kk)
                    have H1a := Aside0.mk (handL_one l)
                    have HZa := Aside0.mk HDa.out.size
                    go_cut [11] from 205 to 214 (fun h wc => DelRow w4 2 (nl - 1) (handL (l.eraseIdx kk)) h wc)
                    case first =>
                      by_cases hq : c11 = kk + 1
                      · subst hq
                        obtain rfl : nl = kk + 1 := by omega
                        have hkz : (kk : Int) ≤ (kk : Int) + 1 := by omega
                        have HNa := Aside0.mk (show ((handL l).drop (kk + 1)).length = 0 * 1 by rw [List.length_drop, handL_len, HNL.out]; omega)
                        go_region_law (first
                          | (refine step_append_ownX rfl (.tmp 205) (.tmp 208) 48 rfl w4.heap.size 2 j0 (.int .i64 0) 1 8 Try.underlying48 hj hy0 hy1 hy2 rfl (by decide) (.slice (some ⟨w4.heap.size, 0, none⟩) 0 0) 0 [] (by simp [Act.eval, Act.put]) HEa.out ⟨g1, 0, none⟩ kk (kk + 1) ((handL l).take kk) (by simp [Act.eval, Act.put]) HTa.out HCa.out (fun u hu => H1a.out u (List.mem_of_mem_take hu)) (by simp only [maxLen]; omega) (by omega) HZa.out ?_; intro v' wq hown hgrow; rw [Nat.zero_add, List.nil_append] at hown; obtain ⟨AQ, cQ, rfl⟩ := own_slice hown; have BQ := Aside0.mk (HDa.out.grown hgrow HZa.out (fun j hj => (HEa.out.lt j hj).1)); have OQ := Aside0.mk hown; have HK := Aside0.mk (fun j u (hj : ((handL l).drop (kk + 1))[j]? = some u) => (show (⟨g1, 0, none⟩ : Addr).add j = (⟨g1, 0, none⟩ : Addr).add j → wq.cell? ((⟨g1, 0, none⟩ : Addr).add j) = some u from fun _ => absurd hj (by rw [List.getElem?_eq_none (by have := HNa.out; omega)]; simp)) rfl); clear hown hgrow)
                          | (refine step_append_ownX rfl (.tmp 209) (.tmp 213) 48 rfl w4.heap.size 2 j0 (.int .i64 0) 1 8 Try.underlying48 hj hy0 hy1 hy2 rfl (by decide) (.slice AQ kk cQ) kk ((handL l).take kk) (by simp [Act.eval, Act.put]) OQ.out ⟨g1, 0, none⟩ 0 0 ((handL l).drop (kk + 1)) (by simp [Act.eval, Act.put]) HNa.out HK.out (fun u hu => H1a.out u (List.mem_of_mem_drop hu)) (by simp only [maxLen]; omega) (by omega) BQ.out.size ?_; intro v' wz hown hgrow; rw [show kk + 0 = kk from rfl, ← handL_erase] at hown; obtain ⟨AZ, cZ, rfl⟩ := own_slice hown; have BZ := Aside0.mk (BQ.out.grown hgrow BQ.out.size (fun j hj => (OQ.out.lt j hj).1)); have OZ := Aside0.mk hown; clear hown hgrow))
                        all_goals (go_wp2_with fail; go_meet; exact ⟨_, _, rfl, OZ.out, BZ.out⟩)
                      · have HNa := Aside0.mk (show ((handL l).drop (kk + 1)).length = (nl - (kk + 1)) * 1 by rw [List.length_drop, handL_len, HNL.out]; omega)
                        go_region_law (first
                          | (refine step_append_ownX rfl (.tmp 205) (.tmp 208) 48 rfl w4.heap.size 2 j0 (.int .i64 0) 1 8 Try.underlying48 hj hy0 hy1 hy2 rfl (by decide) (.slice (some ⟨w4.heap.size, 0, none⟩) 0 0) 0 [] (by simp [Act.eval, Act.put]) HEa.out ⟨g1, 0, none⟩ kk c11 ((handL l).take kk) (by simp [Act.eval, Act.put]) HTa.out HCa.out (fun u hu => H1a.out u (List.mem_of_mem_take hu)) (by simp only [maxLen]; omega) (by omega) HZa.out ?_; intro v' wq hown hgrow; rw [Nat.zero_add, List.nil_append] at hown; obtain ⟨AQ, cQ, rfl⟩ := own_slice hown; have BQ := Aside0.mk (HDa.out.grown hgrow HZa.out (fun j hj => (HEa.out.lt j hj).1)); have OQ := Aside0.mk hown; have HK := Aside0.mk (row_tail (own_below OD1.out BQ.out) (kk + 1)); clear hown hgrow)
                          | (refine step_append_ownX rfl (.tmp 209) (.tmp 213) 48 rfl w4.heap.size 2 j0 (.int .i64 0) 1 8 Try.underlying48 hj hy0 hy1 hy2 rfl (by decide) (.slice AQ kk cQ) kk ((handL l).take kk) (by simp [Act.eval, Act.put]) OQ.out ⟨g1, kk + 1, none⟩ (nl - (kk + 1)) (c11 - (kk + 1)) ((handL l).drop (kk + 1)) (by simp [Act.eval, Act.put]) HNa.out HK.out (fun u hu => H1a.out u (List.mem_of_mem_drop hu)) (by simp only [maxLen]; omega) (by omega) BQ.out.size ?_; intro v' wz hown hgrow; rw [show kk + (nl - (kk + 1)) = nl - 1 by omega, ← handL_erase] at hown; obtain ⟨AZ, cZ, rfl⟩ := own_slice hown; have BZ := Aside0.mk (BQ.out.grown hgrow BQ.out.size (fun j hj => (OQ.out.lt j hj).1)); have OZ := Aside0.mk hown; clear hown hgrow))
                        all_goals (go_wp2_with fail; go_meet; exact ⟨_, _, rfl, OZ.out, BZ.out⟩)
                    case rest =>
                      obtain ⟨AZa, cZa, rfl, oza, bza⟩ := hcut
                      have OZa := Aside0.mk oza
                      have BZa := Aside0.mk bza
                      clear oza bza
                      have OD3 := Aside0.mk (own_below OD2.out BZa.out)
                      obtain ⟨w6, hw6⟩ : ∃ w6, w6 = wc := ⟨_, rfl⟩
                      subst hw6
                      go_upto_region 41 with fail
                      have HEb := Aside0.mk (own_empty w6 3)
                      have HTb := Aside0.mk (show ((thingL l).take kk).length = kk * 1 by rw [List.length_take, thingL_len, HNL.out]; omega)
                      have HDb := Aside0.mk (below_drew (below_alloc (Below.refl w6.heap.size w6) (.cells #[] 3)))
                      have HCb := Aside0.mk (row_head (own_below OD3.out HDb.out) kk)
                      have H1b := Aside0.mk (thingL_one l HTY.out)
                      have HZb := Aside0.mk HDb.out.size
                      by_cases hq : c12 = kk + 1
                      · subst hq
                        obtain rfl : nl = kk + 1 := by omega
                        have hkz : (kk : Int) ≤ (kk : Int) + 1 := by omega
                        have HNb := Aside0.mk (show ((thingL l).drop (kk + 1)).length = 0 * 1 by rw [List.length_drop, thingL_len, HNL.out]; omega)
                        go_region_law (first
                          | (refine step_append_ownX rfl (.tmp 215) (.tmp 218) 37 rfl w6.heap.size 3 i0 (.int .i64 0) 1 8 Try.underlying37 hi hz0 hz1 hz2 rfl (by decide) (.slice (some ⟨w6.heap.size, 0, none⟩) 0 0) 0 [] (by simp [Act.eval, Act.put]) HEb.out ⟨g2, 0, none⟩ kk (kk + 1) ((thingL l).take kk) (by simp [Act.eval, Act.put]) HTb.out HCb.out (fun u hu => H1b.out u (List.mem_of_mem_take hu)) (by simp only [maxLen]; omega) (by omega) HZb.out ?_; intro v' wq hown hgrow; rw [Nat.zero_add, List.nil_append] at hown; obtain ⟨AQ, cQ, rfl⟩ := own_slice hown; have BQ := Aside0.mk (HDb.out.grown hgrow HZb.out (fun j hj => (HEb.out.lt j hj).1)); have OQ := Aside0.mk hown; have HK := Aside0.mk (fun j u (hj : ((thingL l).drop (kk + 1))[j]? = some u) => (show (⟨g2, 0, none⟩ : Addr).add j = (⟨g2, 0, none⟩ : Addr).add j → wq.cell? ((⟨g2, 0, none⟩ : Addr).add j) = some u from fun _ => absurd hj (by rw [List.getElem?_eq_none (by have := HNb.out; omega)]; simp)) rfl); clear hown hgrow)
                          | (refine step_append_ownX rfl (.tmp 219) (.tmp 223) 37 rfl w6.heap.size 3 i0 (.int .i64 0) 1 8 Try.underlying37 hi hz0 hz1 hz2 rfl (by decide) (.slice AQ kk cQ) kk ((thingL l).take kk) (by simp [Act.eval, Act.put]) OQ.out ⟨g2, 0, none⟩ 0 0 ((thingL l).drop (kk + 1)) (by simp [Act.eval, Act.put]) HNb.out HK.out (fun u hu => H1b.out u (List.mem_of_mem_drop hu)) (by simp only [maxLen]; omega) (by omega) BQ.out.size ?_; intro v' wz hown hgrow; rw [show kk + 0 = kk from rfl, ← thingL_erase] at hown; obtain ⟨AZ, cZ, rfl⟩ := own_slice hown; have BZ := Aside0.mk (BQ.out.grown hgrow BQ.out.size (fun j hj => (OQ.out.lt j hj).1)); have OZ := Aside0.mk hown; clear hown hgrow))
                        all_goals (have B7 := Aside0.mk (BZa.out.trans (BZ.out.mono BZa.out.size)); go_wp2_with fail; go_meet; exact mid_mk (Nat.le_succ_of_le hlast) rfl rfl rfl (M4.out.kept B7.out) (by rw [LEN2.out]; exact own_base (own_below OZa.out BZ.out) (Nat.le_trans HB.out.size B4.out.size)) (by rw [LEN2.out]; exact own_base OZ.out (Nat.le_trans (Nat.le_trans HB.out.size B4.out.size) BZa.out.size)) TYL.out INCL.out (by rw [LEN2.out]; have := HLEN.out; omega) ((HB.out.trans B4.out).trans (B7.out.mono (Nat.le_trans HB.out.size B4.out.size))))
                      · have HNb := Aside0.mk (show ((thingL l).drop (kk + 1)).length = (nl - (kk + 1)) * 1 by rw [List.length_drop, thingL_len, HNL.out]; omega)
                        go_region_law (first
                          | (refine step_append_ownX rfl (.tmp 215) (.tmp 218) 37 rfl w6.heap.size 3 i0 (.int .i64 0) 1 8 Try.underlying37 hi hz0 hz1 hz2 rfl (by decide) (.slice (some ⟨w6.heap.size, 0, none⟩) 0 0) 0 [] (by simp [Act.eval, Act.put]) HEb.out ⟨g2, 0, none⟩ kk c12 ((thingL l).take kk) (by simp [Act.eval, Act.put]) HTb.out HCb.out (fun u hu => H1b.out u (List.mem_of_mem_take hu)) (by simp only [maxLen]; omega) (by omega) HZb.out ?_; intro v' wq hown hgrow; rw [Nat.zero_add, List.nil_append] at hown; obtain ⟨AQ, cQ, rfl⟩ := own_slice hown; have BQ := Aside0.mk (HDb.out.grown hgrow HZb.out (fun j hj => (HEb.out.lt j hj).1)); have OQ := Aside0.mk hown; have HK := Aside0.mk (row_tail (own_below OD3.out BQ.out) (kk + 1)); clear hown hgrow)
                          | (refine step_append_ownX rfl (.tmp 219) (.tmp 223) 37 rfl w6.heap.size 3 i0 (.int .i64 0) 1 8 Try.underlying37 hi hz0 hz1 hz2 rfl (by decide) (.slice AQ kk cQ) kk ((thingL l).take kk) (by simp [Act.eval, Act.put]) OQ.out ⟨g2, kk + 1, none⟩ (nl - (kk + 1)) (c12 - (kk + 1)) ((thingL l).drop (kk + 1)) (by simp [Act.eval, Act.put]) HNb.out HK.out (fun u hu => H1b.out u (List.mem_of_mem_drop hu)) (by simp only [maxLen]; omega) (by omega) BQ.out.size ?_; intro v' wz hown hgrow; rw [show kk + (nl - (kk + 1)) = nl - 1 by omega, ← thingL_erase] at hown; obtain ⟨AZ, cZ, rfl⟩ := own_slice hown; have BZ := Aside0.mk (BQ.out.grown hgrow BQ.out.size (fun j hj => (OQ.out.lt j hj).1)); have OZ := Aside0.mk hown; clear hown hgrow))
                        all_goals (have B7 := Aside0.mk (BZa.out.trans (BZ.out.mono BZa.out.size)); go_wp2_with fail; go_meet; exact mid_mk (Nat.le_succ_of_le hlast) rfl rfl rfl (M4.out.kept B7.out) (by rw [LEN2.out]; exact own_base (own_below OZa.out BZ.out) (Nat.le_trans HB.out.size B4.out.size)) (by rw [LEN2.out]; exact own_base OZ.out (Nat.le_trans (Nat.le_trans HB.out.size B4.out.size) BZa.out.size)) TYL.out INCL.out (by rw [LEN2.out]; have := HLEN.out; omega) ((HB.out.trans B4.out).trans (B7.out.mono (Nat.le_trans HB.out.size B4.out.size))))
                · rw [h4] at ht
                  rcases pos_cases l v with hpn | ⟨kk, p, hp, hpv, hpk⟩
                  · have hps1 : ps = -1 := HPS.out.symm.trans hpn
                    as_aux_lemma =>
                      have HG := Aside0.mk (get_none_int v wr HM.out HTY.out (by rw [HNL.out]; omega) hpn)
                      subst hps1
                      have hgn : decide ((0 : Int) ≤ -1) = false := by decide
                      go_wp2_with (first
                        | (go_at_call 23
                           (with_reducible refine HG.out.mono ?_)
                           rintro e w4 ⟨rfl, h4'⟩
                           have B4 := Aside0.mk h4'
                           have M4 := Aside0.mk (HM.out.kept B4.out)
                           clear h4'))
                      go_meet
                      exact mid_mk (Nat.le_succ_of_le hlast) rfl rfl rfl M4.out (by rw [HNL.out]; exact own_below HO1.out B4.out) (by rw [HNL.out]; exact own_below HO2.out B4.out) HTY.out HINC.out (by rw [HNL.out]; exact HLEN.out) (HB.out.trans (B4.out.mono HB.out.size))
                  · as_aux_lemma =>
                      obtain ⟨x, hx⟩ := HTY.out p (List.mem_of_getElem? hp)
                      have hpp : p = (v, .int .i64 x) := by rw [← hpv, ← hx]
                      subst hpp
                      have hkl : kk < nl := by have := (List.getElem?_eq_some_iff.1 hp).1; have := HNL.out; omega
                      have hps2 : ps = (kk : Int) := HPS.out.symm.trans hpk
                      have hge : decide ((0 : Int) ≤ (kk : Int)) = true := decide_eq_true (by omega)
                      obtain ⟨g2, hg2'⟩ := own_some HO2.out (by omega)
                      subst hg2'
                      
                      have HG := Aside0.mk (get_int v x wr HM.out HTY.out (by rw [HNL.out]; omega) kk hp hpk)
                      have HC2 := Aside0.mk (fun w7 (h7 : Below wr.heap.size wr w7) => own_at (own_below HO2.out h7) kk _ (thingL_at hp))
                      subst hps2
                      clear hp hx hpv hpk
                      go_wp2_with (first
                        | (go_at_call 23
                           (with_reducible refine HG.out.mono ?_)
                           rintro e w4 ⟨rfl, h4'⟩
                           have hd2 := HC2.out w4 h4'
                           have B4 := Aside0.mk h4'
                           have M4 := Aside0.mk (HM.out.kept B4.out)
                           clear h4'))
                      go_meet
                      exact mid_mk (Nat.le_succ_of_le hlast) rfl rfl rfl M4.out (by rw [HNL.out]; exact own_below HO1.out B4.out) (by rw [HNL.out]; exact own_below HO2.out B4.out) HTY.out HINC.out (by rw [HNL.out]; exact HLEN.out) (HB.out.trans (B4.out.mono HB.out.size))
              case rest =>
                as_aux_lemma =>
                  obtain ⟨last2, l2', hv2, tv2, rfl, rfl, rfl, hM2, hO12, hO22, hty2, hinc2, hlast2, hlen2, hB2⟩ := hcut
                  clear hlt2 hlast
                  obtain ⟨m, hm⟩ : ∃ m, l2'.length = m := ⟨_, rfl⟩
                  have LEN2 := Aside0.mk hm
                  rw [hm] at hO12 hO22 hlen2
                  obtain ⟨A21, c21, hA21⟩ := own_slice hO12
                  obtain ⟨A22, c22, hA22⟩ := own_slice hO22
                  subst hA21
                  subst hA22
                  have hm64 : m ≤ 64 := Nat.le_trans hlen2 hcap64
                  have MX := Aside0.mk hM2
                  have O1Y := Aside0.mk hO12
                  have O2Y := Aside0.mk hO22
                  have TYL := Aside0.mk hty2
                  have INCL := Aside0.mk hinc2
                  have HLE2 := Aside0.mk hlen2
                  have BX := Aside0.mk hB2
                  clear hm hM2 hO12 hO22 hty2 hinc2 hlen2 hB2
                  have HH := Aside0.mk (fun wx (hx : TabAt 70 72 w0.heap.size B cap last2 l2' wx) => handles_int wx hx TYL.out (by rw [LEN2.out]; omega))
                  have HLN := Aside0.mk (show ∀ wx, TabAt 70 72 w0.heap.size B cap last2 l2' wx → Calls Try.prog 20 #[.pointer (some ⟨B, 0, none⟩)] wx fun e w' => e = .returned (.int .i64 (m : Int)) ∧ wx = w' from fun wx hx => by have h := len_int wx hx; rw [LEN2.out] at h; exact h)
                  go_wp2_with (first
                    | (go_at_call 21
                       (with_reducible refine (HH.out _ MX.out).mono ?_)
                       rintro e w5 ⟨v5, rfl, ho5, hb5⟩
                       obtain ⟨A5, c5, rfl⟩ := own_slice ho5
                       rw [LEN2.out] at ho5
                       rw [LEN2.out]
                       have O5 := Aside0.mk ho5
                       have B5 := Aside0.mk hb5
                       have M5 := Aside0.mk (MX.out.kept hb5)
                       have O1X := Aside0.mk (own_below O1Y.out hb5)
                       have O2X := Aside0.mk (own_below O2Y.out hb5)
                       have BXX := Aside0.mk (BX.out.trans (hb5.mono BX.out.size))
                       clear ho5 hb5)
                    | (go_at_call 20; (with_reducible refine (HLN.out w5 M5.out).mono ?_); rintro e w6 ⟨rfl, rfl⟩))
                  go_loopw [241] (fun i wk => ∃ j : Nat, j ≤ m ∧ i = .int .i64 j ∧ Below w5.heap.size w5 wk) (fun i _ => m - (intOf i).toNat)
                  case atStart => exact ⟨0, Nat.zero_le _, rfl, Below.refl _ _⟩
                  case round =>
                    obtain ⟨j, hj5, rfl, hbk⟩ := hrel
                    have HBK := Aside0.mk hbk
                    clear hbk
                    by_cases hlt5 : j < m
                    · obtain ⟨p, hp⟩ : ∃ p, l2'[j]? = some p := ⟨_, List.getElem?_eq_getElem (by rw [LEN2.out]; exact hlt5)⟩
                      obtain ⟨x, hx⟩ := TYL.out p (List.mem_of_getElem? hp)
                      have hpos := pos_of INCL.out hp
                      obtain ⟨h2, hh2⟩ : ∃ h2, p.1 = h2 := ⟨_, rfl⟩
                      have hpp : p = (h2, .int .i64 x) := by rw [← hh2, ← hx]
                      rw [hh2] at hpos
                      subst hpp
                      obtain ⟨g5, hg5⟩ := own_some O5.out (by omega)
                      obtain ⟨g1, hg1'⟩ := own_some O1X.out (by omega)
                      obtain ⟨g2, hg2'⟩ := own_some O2X.out (by omega)
                      subst hg5
                      subst hg1'
                      subst hg2'
                      have hc5 := own_at (own_below O5.out HBK.out) j _ (handL_at hp)
                      have HG := Aside0.mk (get_int h2 x wr (M5.out.kept HBK.out) TYL.out (by rw [LEN2.out]; omega) j hp hpos)
                      have HC5 := Aside0.mk (fun w7 (h7 : Below wr.heap.size wr w7) => own_at (own_below (own_below O5.out HBK.out) h7) j _ (handL_at hp))
                      have HC1 := Aside0.mk (fun w7 (h7 : Below wr.heap.size wr w7) => own_at (own_below (own_below O1X.out HBK.out) h7) j _ (handL_at hp))
                      have HC2 := Aside0.mk (fun w7 (h7 : Below wr.heap.size wr w7) => own_at (own_below (own_below O2X.out HBK.out) h7) j _ (thingL_at hp))
                      clear hp hx hh2 hpos
                      go_wp2_with (go_at_call 23
                                   (with_reducible refine HG.out.mono ?_)
                                   rintro e w7 ⟨rfl, h7⟩
                                   have hd5 := HC5.out w7 h7
                                   have hd1 := HC1.out w7 h7
                                   have hd2 := HC2.out w7 h7
                                   have B7 := Aside0.mk h7
                                   clear h7)
                      go_quiet (fail)
                      go_wp2
                      go_roundw
                      case rel => exact ⟨j + 1, hlt5, by go_num, pw_below_drewN (HBK.out.trans (B7.out.mono HBK.out.size)) nq⟩
                      case measure => simp [intOf]; omega
                    · obtain rfl : m = j := by omega
                      go_wp2
                      go_roundw
                      case rel => exact ⟨k + 1, last2, l2', _, _, hlt, by go_num, rfl, rfl, rfl, (M5.out.kept HBK.out), by rw [LEN2.out]; exact own_below O1X.out HBK.out, by rw [LEN2.out]; exact own_below O2X.out HBK.out, TYL.out, INCL.out, hlast2, by rw [LEN2.out]; exact HLE2.out, BXX.out.trans (HBK.out.mono BXX.out.size)⟩
                      case measure => simp [intOf]; omega
        · obtain rfl : k = n1 := by omega
          go_wp2
          go_ret
          exact ⟨rfl, B0.out.trans (HB.out.mono B0.out.size)⟩
theorem plays_row (a0 : Int) (A1 : Option Addr) (c1 : Nat) (l1 : List Int) (A2 : Option Addr) (c2 : Nat) (l2 : List Int) (W : World) (w0 : (Lit.int .i64 a0).wf = true)
    (rd1 : Reads W A1 l1.length (l1.map (Value.int .u8))) (lc1 : l1.length ≤ c1) (lm1 : l1.length ≤ maxLen) (wf1 : ∀ n ∈ l1, (Lit.int .u8 n).wf = true) (rd2 : Reads W A2 l2.length (l2.map (Value.int .i8))) (lc2 : l2.length ≤ c2) (lm2 : l2.length ≤ maxLen) (wf2 : ∀ n ∈ l2, (Lit.int .i8 n).wf = true) :
    Calls Try.prog 5 #[.int .i64 a0, .slice A1 l1.length c1, .slice A2 l2.length c2] W fun e w' => e = .returned (.bool true) ∧ Below W.heap.size W w' :=
  plays_walk a0 A1 A2 c1 c2 l1 l2 _ _ rfl rfl W rd1 rd2 lc1 lc2 (fun x hx => by have := wf1 x hx; simpa [Lit.wf, IntKind.min, IntKind.max, IntKind.bits, IntKind.signed] using this) (fun x hx => by have := wf2 x hx; simpa [Lit.wf, IntKind.min, IntKind.max, IntKind.bits, IntKind.signed] using this)
end Go.Proofs.Ytbpdbgpnlcbdiaa.Tab
