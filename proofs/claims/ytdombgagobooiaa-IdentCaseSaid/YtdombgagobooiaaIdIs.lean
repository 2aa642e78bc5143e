/- Is a text a name: the program's walk. -/
import Derived.Test.YtdombgagobooiaaIdNm
import Derived.Test.YtdombgagobooiaaPx
import Derived.BigQuiet
namespace Go.Proofs.Ytdombgagobooiaa.Id
open Go.RowKit Go.Proofs.YtdombgagobooiaaW.PrintWords Go.Proofs.YtdombgagobooiaaW.PrintLast Go.Proofs.YtdombgagobooiaaW.PrintMore Go.Proofs.Ytdombgagobooiaa.Pl Go.Proofs.Ytdombgagobooiaa.G Go.Proofs.Ytdombgagobooiaa.P
set_option linter.unusedVariables false
set_option linter.unusedSimpArgs false
def hxv (c : Int) : Int := if 48 ≤ c ∧ c ≤ 57 then c - 48 else if 97 ≤ c ∧ c ≤ 102 then c - 87 else if 65 ≤ c ∧ c ≤ 70 then c - 55 else -1
theorem hex_f (c : Int) (h : byte c) : utf_Hex.f 2 c = some (hxv c) := by
  obtain ⟨n, rfl⟩ := Int.eq_ofNat_of_zero_le h.1
  have hn : n < 256 := by have := h.2; omega
  have H : ∀ n : Nat, n < 256 → utf_Hex.f 2 (n : Int) = some (hxv (n : Int)) := by decide +kernel
  exact H n hn
theorem hex_call (c : Int) (h : byte c) (w : World) : Calls Try.prog 12 #[.int .u8 c] w fun e w' => e = .returned (.int .i64 (hxv c)) ∧ Drawn0 w w' := utf_Hex.calls 2 c _ w (hex_f c h)
theorem hxv_le (c : Int) : -1 ≤ hxv c ∧ hxv c ≤ 15 := by unfold hxv; split; omega; split; omega; split <;> omega
def dc (k : Nat) : Nat := (if 4 < k then 1 else 0) + (if 6 < k then 1 else 0) + (if 8 < k then 1 else 0) + (if 10 < k then 1 else 0)
def posd (k : Nat) : Nat := 2 * k + dc (k + 1)
theorem dc_step (k : Nat) (hk : k < 16) : dc (k + 1) = dc k + (if dashB k = true then 1 else 0) := by
  have H : ∀ k : Nat, k < 16 → dc (k + 1) = dc k + (if dashB k = true then 1 else 0) := by decide +kernel
  exact H k hk
theorem posd_lt (k : Nat) (hk : k < 16) : posd k + 1 < 36 := by
  have H : ∀ k : Nat, k < 16 → posd k + 1 < 36 := by decide +kernel
  exact H k hk
def hi4 (S : ByteArray) (k : Nat) : Int := hxv (bt S (posd k : Nat))
def lo4 (S : ByteArray) (k : Nat) : Int := hxv (bt S ((posd k + 1 : Nat) : Int))
def okk (S : ByteArray) (k : Nat) : Prop := 0 ≤ hi4 S k ∧ 0 ≤ lo4 S k
instance (S : ByteArray) (k : Nat) : Decidable (okk S k) := inferInstanceAs (Decidable (_ ∧ _))
def vals (S : ByteArray) : List Int := (List.range 16).map fun k => 16 * hi4 S k + lo4 S k
def isQ (S : ByteArray) : Bool := decide (S.size = 36) && (List.range 16).all (fun k => decide (okk S k)) && ((strOfNums (ofL (vals S))).toList == S.toList)
theorem at_str (S : ByteArray) (p : Nat) (hp : p < S.size) (W : World) : (Instr.index 9 (.string S) (.int .i64 (p : Int))).run Try.prog W = .ok (.int .u8 (bt S (p : Int))) W := by
  have hn : 0 ≤ (p : Int) ∧ (p : Int) < (S.size : Int) := by omega
  have hb := bt_at S (p : Int) (by omega)
  have hb2 : S[p]? = some (S[p]'hp) := getElem?_pos S p hp
  simp [Instr.index, run_underlying Try.underlying9, asIntOf, hb2]
  exact hb
theorem cmb (a b : Int) (ha : 0 ≤ a) (ha2 : a ≤ 15) (hb : 0 ≤ b) (hb2 : b ≤ 15) : Go.bits .or .i64 (a * 16) b = 16 * a + b := by
  obtain ⟨n, rfl⟩ := Int.eq_ofNat_of_zero_le ha
  obtain ⟨m, rfl⟩ := Int.eq_ofNat_of_zero_le hb
  have H : ∀ n : Nat, n < 16 → ∀ m : Nat, m < 16 → Go.bits .or .i64 ((n : Int) * 16) (m : Int) = 16 * (n : Int) + (m : Int) := by decide +kernel
  exact H n (by omega) m (by omega)
theorem notQ (S : ByteArray) (k : Nat) (hk : k < 16) (h : ¬ okk S k) : isQ S = false := by
  have : (List.range 16).all (fun k => decide (okk S k)) = false := by
    rw [List.all_eq_false]
    exact ⟨k, List.mem_range.2 hk, by simp [h]⟩
  unfold isQ
  rw [this]
  simp
set_option maxHeartbeats 400000 in
set_option maxRecDepth 100000 in
theorem is_walk (S : ByteArray) (w : World) :
    Calls Try.prog 9 #[.string S] w fun e w' => e = .returned (.bool (isQ S)) ∧ Below w.heap.size w w' := by
  by_cases hS : S.size = 36
  · have hs36 : (S.size : Int) = 36 := by omega
    have hs1 : ((S.size : Int) != 36) = false := bne_eq_false_iff_eq.2 hs36
    have hz0 : (Try.prog.info? 22).bind (·.zero) = some (.agg ((List.replicate 16 (0 : Int)).map (Value.int .u8)).toArray) := by kernel_rfl
    go_enter Try.func9, Try.ntmps9
    go_wp2
    go_loopw [11, 4] (fun i a wr => ∃ (k : Nat) (xs : List Int), k ≤ 16 ∧ i = .int .i64 k ∧ .int .i64 ((2 * k + dc k : Nat) : Int) = a ∧ xs.length = 16 ∧ Arr w.heap.size xs wr ∧ (∀ j, j < k → xs.getD j 0 = 16 * hi4 S j + lo4 S j ∧ okk S j) ∧ Below w.heap.size w wr) (fun i _ _ => 16 - (intOf i).toNat)
    case atStart => exact ⟨0, _, Nat.zero_le _, rfl, rfl, rfl, arr_new w (List.replicate 16 0), fun j hj => absurd hj (Nat.not_lt_zero _), (Below.refl _ _).alloc (Nat.le_refl _) _⟩
    case round =>
      rename_i wr
      obtain ⟨k, xs, hk, rfl, rfl, hxl, hA, hv, hB⟩ := hrel
      have HA := Aside0.mk hA
      have HV := Aside0.mk hv
      have HB := Aside0.mk hB
      clear hA hB hv
      by_cases hlt : k < 16
      · have hadr := fun W => adr w.heap.size k hlt W
        have hc := HA.out.cell k (by omega)
        have hf := HA.out.free k
        have hps := posd_lt k hlt
        obtain ⟨p, hp⟩ : ∃ p, posd k = p := ⟨_, rfl⟩
        obtain ⟨x, hx⟩ : ∃ x, xs.getD k 0 = x := ⟨_, rfl⟩
        rw [hp] at hps
        rw [hx] at hc
        have hh : hxv (bt S (p : Int)) = hi4 S k := by rw [hi4, hp]
        have hl : hxv (bt S ((p : Int) + 1)) = lo4 S k := by rw [lo4, hp]; rfl
        obtain ⟨h, hhe⟩ : ∃ h, hi4 S k = h := ⟨_, rfl⟩
        obtain ⟨l, hle⟩ : ∃ l, lo4 S k = l := ⟨_, rfl⟩
        rw [hhe] at hh
        rw [hle] at hl
        have s1 := fun W => at_str S p (by omega) W
        have s2 := fun W => at_str S (p + 1) (by omega) W
        have hcp : ((p + 1 : Nat) : Int) = (p : Int) + 1 := by omega
        rw [hcp] at s2
        have c1 := fun W => hex_call (bt S (p : Int)) (bt_byte S _) W
        have c2 := fun W => hex_call (bt S ((p : Int) + 1)) (bt_byte S _) W
        rw [hh] at c1
        rw [hl] at c2
        clear hh hl
        obtain ⟨ca, hca⟩ : ∃ c, bt S (p : Int) = c := ⟨_, rfl⟩
        obtain ⟨cb, hcb⟩ : ∃ c, bt S ((p : Int) + 1) = c := ⟨_, rfl⟩
        rw [hca] at s1 c1
        rw [hcb] at s2 c2
        clear hca hcb
        have hw1 : IntKind.i64.wrap ((p : Int) + 1) = (p : Int) + 1 := IntWalk.i64_in _ (by omega)
        have hdc := fun W => dash_call k hlt W
        have hds := dc_step k hlt
        obtain ⟨d, hd⟩ : ∃ d, dashB k = d := ⟨_, rfl⟩
        rw [hd] at hdc hds
        cases d
        · obtain ⟨q, hq⟩ : ∃ q, 2 * k + dc k = q := ⟨_, rfl⟩
          have hpe : q = p := by rw [← hp, posd, hds, ← hq]; rfl
          rw [hq]
          subst hpe
          have hpq : ((2 * k + dc k : Nat) : Int) = (q : Int) := by rw [hq]
          have C1 := Aside0.mk (show ∀ W : World, Calls Try.prog 12 #[.int .u8 ca] W fun e w' => e = .returned (.int .i64 h) ∧ ∃ m, w' = W.drewN m from fun W => (c1 W).mono (by rintro e w' ⟨h1, nd, rfl⟩; exact ⟨h1, nd, rfl⟩))
          have C2 := Aside0.mk (show ∀ W : World, Calls Try.prog 12 #[.int .u8 cb] W fun e w' => e = .returned (.int .i64 l) ∧ ∃ m, w' = W.drewN m from fun W => (c2 W).mono (by rintro e w' ⟨h1, nd, rfl⟩; exact ⟨h1, nd, rfl⟩))
          clear c1 c2
          go_wp2_with (go_at_call 11; refine (hdc _).mono ?_; rintro e w3 ⟨rfl, hd3⟩)
          have HA3 := Aside0.mk (show Arr w.heap.size xs w3 by obtain ⟨nd, rfl⟩ := hd3; exact HA.out)
          have HB3 := Aside0.mk (show Below w.heap.size w w3 by obtain ⟨nd, rfl⟩ := hd3; exact pw_below_drewN HB.out nd)
          have hc3 := HA3.out.cell k (by omega)
          have hf3 := HA3.out.free k
          rw [hx] at hc3
          clear hd3 hc hf
          go_quiet (first
            | (go_at_call 12; with_reducible refine Calls.quiet_of (C1.out _))
            | (go_at_call 12; with_reducible refine Calls.quiet_of (C2.out _)))
          by_cases n1 : h < 0
          · have n1b : decide (h < 0) = true := decide_eq_true n1
            go_wp2
            go_ret
            exact ⟨(notQ S k hlt (fun hk => by have := hk.1; omega)).symm ▸ rfl, pw_below_drewN HB3.out _⟩
          · have n1b : decide (h < 0) = false := decide_eq_false n1
            by_cases n2 : l < 0
            · have n2b : decide (l < 0) = true := decide_eq_true n2
              go_wp2
              go_ret
              exact ⟨(notQ S k hlt (fun hk => by have := hk.2; omega)).symm ▸ rfl, pw_below_drewN HB3.out _⟩
            · have n2b : decide (l < 0) = false := decide_eq_false n2
              have hh15 : h ≤ 15 := by rw [← hhe]; exact (hxv_le _).2
              have hl15 : l ≤ 15 := by rw [← hle]; exact (hxv_le _).2
              have hcm := cmb h l (by omega) hh15 (by omega) hl15
              go_wp2
              have hB4 : Below w.heap.size w ((w3.drewN nq).setCell ⟨w.heap.size, k, none⟩ (.int .u8 (16 * h + l))) := (pw_below_drewN HB3.out _).setCell (Nat.le_refl _) _
              have hA4 : Arr w.heap.size (xs.set k (16 * h + l)) ((w3.drewN nq).setCell ⟨w.heap.size, k, none⟩ (.int .u8 (16 * h + l))) := Arr.set (show Arr w.heap.size xs (w3.drewN nq) from HA3.out) k _
              refine ⟨⟨k + 1, xs.set k (16 * h + l), hlt, rfl, ?_, by rw [List.length_set]; exact hxl, hA4, ?_, hB4⟩, by simp [intOf]; omega⟩
              · rw [hds, ← hpq]; show Value.int .i64 ((2 * (k + 1) + (dc k + 0) : Nat) : Int) = _; congr 1; omega
              · intro j hj
                rw [List.getD_eq_getElem?_getD, List.getElem?_set]
                by_cases hjk : k = j
                · subst hjk
                  rw [if_pos rfl, if_pos (by omega)]
                  exact ⟨by rw [hhe, hle]; rfl, by rw [okk, hhe, hle]; omega⟩
                · rw [if_neg hjk, ← List.getD_eq_getElem?_getD]
                  exact HV.out j (by omega)
        · obtain ⟨q, hq⟩ : ∃ q, 2 * k + dc k = q := ⟨_, rfl⟩
          have hpe : ((q : Nat) : Int) + 1 = ((p : Nat) : Int) := by rw [← hp, posd, hds, ← hq]; simp; omega
          rw [hq]
          have C1 := Aside0.mk (show ∀ W : World, Calls Try.prog 12 #[.int .u8 ca] W fun e w' => e = .returned (.int .i64 h) ∧ ∃ m, w' = W.drewN m from fun W => (c1 W).mono (by rintro e w' ⟨h1, nd, rfl⟩; exact ⟨h1, nd, rfl⟩))
          have C2 := Aside0.mk (show ∀ W : World, Calls Try.prog 12 #[.int .u8 cb] W fun e w' => e = .returned (.int .i64 l) ∧ ∃ m, w' = W.drewN m from fun W => (c2 W).mono (by rintro e w' ⟨h1, nd, rfl⟩; exact ⟨h1, nd, rfl⟩))
          clear c1 c2
          go_wp2_with (go_at_call 11; refine (hdc _).mono ?_; rintro e w3 ⟨rfl, hd3⟩)
          have HA3 := Aside0.mk (show Arr w.heap.size xs w3 by obtain ⟨nd, rfl⟩ := hd3; exact HA.out)
          have HB3 := Aside0.mk (show Below w.heap.size w w3 by obtain ⟨nd, rfl⟩ := hd3; exact pw_below_drewN HB.out nd)
          have hc3 := HA3.out.cell k (by omega)
          have hf3 := HA3.out.free k
          rw [hx] at hc3
          clear hd3 hc hf
          go_quiet (first
            | (go_at_call 12; with_reducible refine Calls.quiet_of (C1.out _))
            | (go_at_call 12; with_reducible refine Calls.quiet_of (C2.out _)))
          by_cases n1 : h < 0
          · have n1b : decide (h < 0) = true := decide_eq_true n1
            go_wp2
            go_ret
            exact ⟨(notQ S k hlt (fun hk => by have := hk.1; omega)).symm ▸ rfl, pw_below_drewN HB3.out _⟩
          · have n1b : decide (h < 0) = false := decide_eq_false n1
            by_cases n2 : l < 0
            · have n2b : decide (l < 0) = true := decide_eq_true n2
              go_wp2
              go_ret
              exact ⟨(notQ S k hlt (fun hk => by have := hk.2; omega)).symm ▸ rfl, pw_below_drewN HB3.out _⟩
            · have n2b : decide (l < 0) = false := decide_eq_false n2
              have hh15 : h ≤ 15 := by rw [← hhe]; exact (hxv_le _).2
              have hl15 : l ≤ 15 := by rw [← hle]; exact (hxv_le _).2
              have hcm := cmb h l (by omega) hh15 (by omega) hl15
              go_wp2
              have hB4 : Below w.heap.size w ((w3.drewN nq).setCell ⟨w.heap.size, k, none⟩ (.int .u8 (16 * h + l))) := (pw_below_drewN HB3.out _).setCell (Nat.le_refl _) _
              have hA4 : Arr w.heap.size (xs.set k (16 * h + l)) ((w3.drewN nq).setCell ⟨w.heap.size, k, none⟩ (.int .u8 (16 * h + l))) := Arr.set (show Arr w.heap.size xs (w3.drewN nq) from HA3.out) k _
              refine ⟨⟨k + 1, xs.set k (16 * h + l), hlt, rfl, ?_, by rw [List.length_set]; exact hxl, hA4, ?_, hB4⟩, by simp [intOf]; omega⟩
              · rw [hds, ← hpe]; show Value.int .i64 ((2 * (k + 1) + (dc k + 1) : Nat) : Int) = _; congr 1; omega
              · intro j hj
                rw [List.getD_eq_getElem?_getD, List.getElem?_set]
                by_cases hjk : k = j
                · subst hjk
                  rw [if_pos rfl, if_pos (by omega)]
                  exact ⟨by rw [hhe, hle]; rfl, by rw [okk, hhe, hle]; omega⟩
                · rw [if_neg hjk, ← List.getD_eq_getElem?_getD]
                  exact HV.out j (by omega)
      · have hke : k = 16 := by omega
        subst hke
        have hvx : vals S = xs := by
          refine List.ext_getElem (by simp [vals, hxl]) fun j h1 h2 => ?_
          have hj : j < 16 := by omega
          have := (HV.out j hj).1
          rw [List.getD_eq_getElem?_getD, List.getElem?_eq_getElem h2] at this
          simp only [vals, List.getElem_map, List.getElem_range]
          exact this.symm
        have hxb : ∀ y ∈ xs, byte y := by
          intro y hy
          rw [← hvx] at hy
          obtain ⟨j, hj, rfl⟩ := List.mem_map.1 hy
          have hj' := List.mem_range.1 hj
          have hok := (HV.out j hj').2
          have u1 := (hxv_le (bt S (posd j : Nat))).2
          have u2 := (hxv_le (bt S ((posd j + 1 : Nat) : Int))).2
          have e1 : hi4 S j ≤ 15 := u1
          have e2 : lo4 S j ≤ 15 := u2
          have := hok.1
          have := hok.2
          exact ⟨by omega, by omega⟩
        have hall : (List.range 16).all (fun k => decide (okk S k)) = true := by
          rw [List.all_eq_true]
          intro j hj
          exact decide_eq_true (HV.out j (List.mem_range.1 hj)).2
        have hof := fun W => of_walk xs hxl hxb W
        have hsz : (Try.prog.info? 22).map (·.size) = some (xs.map (Value.int .u8)).toArray.size := by
          have h0 : (Try.prog.info? 22).map (·.size) = some 16 := by kernel_rfl
          rw [h0]
          simp [hxl]
        go_wp2_with (first
          | (go_at_call 7; refine (hof _).mono ?_; rintro e w4 ⟨rfl, h4⟩)
          | (refine wpList_load_row rfl 22 _ rfl w.heap.size rfl 22 _ (0, 0) _ HA.out Try.underlying22 rfl hsz ?_))
        go_ret
        refine ⟨?_, HB.out.trans (h4.mono HB.out.size)⟩
        show Ending.returned (Value.bool ((strOfNums (ofL xs)).toList == S.toList)) = Ending.returned (Value.bool (isQ S))
        unfold isQ
        rw [hall, hvx]
        simp [hS]
  · have hs1 : ((S.size : Int) != 36) = true := bne_iff_ne.2 (by omega)
    go_enter Try.func9, Try.ntmps9
    go_wp2
    go_ret
    exact ⟨by unfold isQ; simp [hS], Below.refl _ _⟩
end Go.Proofs.Ytdombgagobooiaa.Id
