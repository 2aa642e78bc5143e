/- strings.Map with squeeze's function: walked, after the kit's own walk of strings.Map at whatever function. -/
import Derived.Test.YtbobbbpjphkooaaDoorMapB
import Derived.Test.YtbobbbpjphkooaaDoorShelfS
import Derived.Test.YtbobbbpjphkooaaDoorTab03
import Derived.Lib.MapLaws
import Derived.Lib.OthersKept
import Derived.Laws.DeepStrings4
import Derived.Deep.LoopGhost
import Derived.Deep.DeepCutAuto
import Derived.Deep.DeepFit
import Derived.Deep.DeepMust
namespace Go.Proofs.YtbobbbpjphkooaaDoor.Mp
open Go.RowKit Go.Shelf Go.Proofs.YtbobbbpjphkooaaDoor.Pa Go.Proofs.YtbobbbpjphkooaaDoor.Pl Go.Proofs.YtbobbbpjphkooaaDoorW.PrintWords Go.Proofs.YtbobbbpjphkooaaDoorW.PrintLast Go.Proofs.YtbobbbpjphkooaaDoorW.PrintMore
set_option linter.unusedVariables false
set_option linter.unusedSimpArgs false
def ofB (l : List UInt8) : List Int := l.map fun b => (b.toNat : Int)
theorem cells_ofB (l : List UInt8) : Lib.byteCells l = (ofB l).map (Value.int .u8) := by
  unfold ofB Lib.byteCells
  rw [List.map_map]
  rfl
theorem ofB_append (a b : List UInt8) : ofB (a ++ b) = ofB a ++ ofB b := List.map_append
theorem ofB_enc (r : Int) : ofB (Lib.encodeRune r) = enc r := by
  unfold ofB Lib.encodeRune enc
  rw [List.map_map]
  refine (List.map_congr_left (g := id) fun x hx => ?_).trans (List.map_id _)
  obtain ⟨h0, h1⟩ := Lib.encodeRuneZ_byte r x hx
  simp
  omega
theorem ofB_length (l : List UInt8) : (ofB l).length = l.length := List.length_map ..
abbrev Bl (B b : Nat) (l : List UInt8) (w : World) : Prop := Bd B b (ofB l) w
def Room (b : Nat) (w : World) : Prop := ∃ p n c, w.cell? ⟨b, 1, none⟩ = some (.slice p n c) ∧ 1 ≤ c
theorem bytesOf_data (s : ByteArray) : bytesOf s = ofB s.data.toList := rfl
theorem dec_good (s : ByteArray) (pos : Nat) : Utf8.valid ((Utf8.decode s pos).1 : Int) = true := by
  rw [Lib.decode_at]
  have k0 := (s.get! pos).toNat_lt
  unfold Utf8.valid
  rcases Lib.decodeN_shape (s.size - pos) (s.get! pos).toNat (s.get! (pos + 1)).toNat (s.get! (pos + 2)).toNat (s.get! (pos + 3)).toNat with ⟨c, e⟩ | ⟨c1, c2, c3, cv, e⟩ | ⟨c1, c2, c3, c4, cv, cs, e⟩ | ⟨c1, c2, c3, c4, c5, cv, cw, e⟩ | e
  all_goals (rw [e]; simp <;> omega)
theorem ext_go (s : ByteArray) (pos : Nat) (h : pos < s.size) : Lib.decodeGo (s.extract pos s.size) = Utf8.decode s pos := by
  have hx : (s.extract pos s.size).data.toList = s.data.toList.drop pos := by
    rw [Lib.extract_data, List.take_of_length_le (by rw [List.length_drop, ← Lib.size_eq]; omega)]
  have hsz : (s.extract pos s.size).size ≠ 0 := by rw [Lib.size_eq, hx, List.length_drop, ← Lib.size_eq]; omega
  unfold Lib.decodeGo
  rw [if_neg hsz, ← Lib.decodeL_drop s pos, ← hx]
  rfl
theorem ws_cap (B b cap n0 : Nat) (p : Option Addr) (s : ByteArray) (w : World) (h : Bd B b [] w) (hc : w.cell? ⟨b, 1, none⟩ = some (.slice p n0 cap)) (h1 : 1 ≤ cap) (hs : s.size ≤ 100000000) (hBw : B ≤ w.heap.size) :
    Calls Tryd.prog 29 #[.pointer (some ⟨b, 0, none⟩), .string s] w fun e w' => (∃ x y, e = .returned (.tuple #[x, y])) ∧ Bd B b (bytesOf s) w' ∧ Below B w w' ∧ Room b w' := by
  by_cases hz : s.size = 0
  · obtain rfl : s = ⟨#[]⟩ := by
      apply ByteArray.ext
      exact Array.eq_empty_of_size_eq_zero hz
    obtain ⟨p', c', hc', _⟩ := h.cell
    have hn : n0 = 0 := by
      rw [hc] at hc'
      simp only [Option.some.injEq, Value.slice.injEq] at hc'
      exact hc'.2.1
    subst hn
    refine (ws_nil B b cap p w h hc h1 hBw).mono ?_
    rintro e w' ⟨rfl, h2, h3, h4⟩
    exact ⟨⟨_, _, rfl⟩, h2, h3, p, 0, cap, h4, h1⟩
  · refine (ws_any B b [] s w h (by simp; omega) hBw).mono ?_
    rintro e w' ⟨rfl, h2, h3⟩
    rw [List.nil_append] at h2
    obtain ⟨p', c', hc', hl⟩ := h2.cell
    have : (bytesOf s).length = s.size := by rw [bytesOf_data, ofB_length, ← Lib.size_eq]
    exact ⟨⟨_, _, rfl⟩, h2, h3, p', _, c', hc', by omega⟩
theorem wr_bl (w0 : World) (b n : Nat) (l : List UInt8) (w : World) (h : Bl w0.heap.size b l w) (hB : Below w0.heap.size w0 w) (h0 : 128 ≤ n) (hv : Utf8.valid (n : Int) = true) (hl : l.length ≤ 10000000) :
    Calls Tryd.prog 30 #[.pointer (some ⟨b, 0, none⟩), .int .i32 (n : Int)] w fun e w' => (∃ x y, e = .returned (.tuple #[x, y])) ∧ Bl w0.heap.size b (l ++ Lib.encodeRune (n : Int)) w' ∧ Below w0.heap.size w w' ∧ ItK w w' ∧ Room b w' := by
  have hv' : (n : Int) ≤ 1114111 ∧ ((n : Int) < 55296 ∨ 57343 < (n : Int)) := by unfold Utf8.valid at hv; simp at hv; omega
  refine (wr_high w0 b n (ofB l) w h hB h0 hv' (by rw [ofB_length]; exact hl)).mono ?_
  rintro e w' ⟨he, h2, h3, h4⟩
  have h5 : Bl w0.heap.size b (l ++ Lib.encodeRune (n : Int)) w' := by
    unfold Bl
    rw [ofB_append, ofB_enc]
    exact h2
  obtain ⟨p', c', hc', hl'⟩ := h5.cell
  have h6 := (enc_high (by omega) hv').1
  have h7 : 1 ≤ (enc (n : Int)).length := List.length_pos_iff.2 h6
  have h8 : (ofB (l ++ Lib.encodeRune (n : Int))).length = l.length + (enc (n : Int)).length := by rw [ofB_append, ofB_enc, List.length_append, ofB_length]
  exact ⟨he, h5, h3, h4, p', _, c', hc', by omega⟩
theorem wr_err (w0 : World) (b : Nat) (l : List UInt8) (w : World) (h : Bl w0.heap.size b l w) (hB : Below w0.heap.size w0 w) (hl : l.length ≤ 10000000) :
    Calls Tryd.prog 30 #[.pointer (some ⟨b, 0, none⟩), .int .i32 65533] w fun e w' => (∃ x y, e = .returned (.tuple #[x, y])) ∧ Bl w0.heap.size b (l ++ Lib.encodeRune 65533) w' ∧ Below w0.heap.size w w' ∧ ItK w w' ∧ Room b w' := wr_bl w0 b 65533 l w h hB (by decide) (by decide) hl
theorem wb_bl (B b : Nat) (l : List UInt8) (n : Nat) (w : World) (h : Bl B b l w) (hn : n < 128) (hlen : l.length ≤ 10000000) (hBw : B ≤ w.heap.size) :
    Calls Tryd.prog 13 #[.pointer (some ⟨b, 0, none⟩), .int .u8 (n : Int)] w fun e w' => e = .returned .nilIface ∧ Bl B b (l ++ Lib.encodeRune (n : Int)) w' ∧ Below B w w' ∧ ItK w w' := by
  refine (wb_any B b (ofB l) (n : Int) w h (by rw [ofB_length]; omega) hBw).mono ?_
  rintro e w' ⟨he, h2, h3, h4⟩
  refine ⟨he, ?_, h3, h4⟩
  unfold Bl
  rw [ofB_append, ofB_enc, enc, Lib.encodeRuneZ_one (by omega) (by omega)]
  exact h2
theorem Bl.iter {B b : Nat} {l : List UInt8} {w : World} (h : Bl B b l w) {k : Nat} {s : ByteArray} {pos : Nat} (hk : w.heap[k]? = some (.stringIter s pos)) (pos' : Nat) : Bl B b l (w.iterAt k s pos') := by
  obtain ⟨hB, v, hb, hown, hne⟩ := h
  have hkb : b ≠ k := by
    intro e1
    rw [e1, hk] at hb
    cases hb
  refine ⟨hB, v, (Lib.iterAt_other w k b s pos' hkb).trans hb, ⟨hown.1, ?_⟩, hne⟩
  rcases hown.2 with hn | ⟨g, cap, cur, hv, hbg, hg, rest⟩
  · exact .inl hn
  · have hkg : g ≠ k := by
      intro e1
      rw [e1, hk] at hg
      cases hg
    exact .inr ⟨g, cap, cur, hv, hbg, (Lib.iterAt_other w k g s pos' hkg).trans hg, rest⟩
theorem map_of (n : Nat) : (mapf (n : Int) = -1 ∧ n ≤ 32) ∨ mapf (n : Int) = (n : Int) := by
  unfold mapf
  by_cases h : blank (n : Int) = true
  · rw [if_pos h]
    left
    refine ⟨rfl, ?_⟩
    unfold blank at h
    simp at h
    omega
  · rw [if_neg h]
    exact .inr rfl
def MapPost (s : ByteArray) (w : World) (e : Ending) (w' : World) : Prop := e = .returned (.string ⟨(Lib.mapD mapf s.data.toList).toArray⟩) ∧ Below w.heap.size w w'
set_option maxHeartbeats 8000000 in
set_option maxRecDepth 100000 in
theorem map_any (s : ByteArray) (w : World) (hs : s.size ≤ 100000) (hT : G.T w) :
    Calls Tryd.prog 20 #[.func (.func 21) #[] #[], .string s] w (MapPost s w) := by
  have hT : Lib.Utf8Tabs 1 2 w := hT
  have HT := Aside0.mk hT
  clear hT
  unfold MapPost
  obtain ⟨ANS, hANS⟩ : ∃ ANS, Lib.mapD mapf s.data.toList = ANS := ⟨_, rfl⟩
  rw [hANS]
  have hlen : s.data.toList.length = s.size := (Lib.size_eq s).symm
  go_enter Tryd.func20, Tryd.ntmps20
  go_wp2
  go_loopg [1] s.size (fun gk s1 wx => s1 = .string s ∧ ∃ pos : Nat, wx.heap[w.heap.size]? = some (.cells #[.pointer none, .slice none 0 0] 36 (0, 0)) ∧ wx.heap[w.heap.size + 1]? = some (.stringIter s pos) ∧ Below w.heap.size w wx ∧
    s.data.toList.take pos ++ Lib.mapD mapf (s.data.toList.drop pos) = ANS ∧ s.size ≤ pos + gk ∧ pos ≤ s.size)
  case atStart =>
    refine ⟨rfl, 0, ?_, ?_, ((Below.refl _ w).alloc (Nat.le_refl _) _).alloc (by simp) _, by simpa using hANS, by omega, by omega⟩
    · have h1 := heap_alloc_new w (.cells #[.pointer none, .slice none 0 0] 36)
      exact (Below.heap_alloc _ _ _ (by simp)).trans h1
    · have := World.iter_heap (w.alloc (.cells #[.pointer none, .slice none 0 0] 36)) s 0
      simpa using this
  case round =>
    obtain ⟨rfl, pos, hfr, hit, hbw, hsp, hfu, hps⟩ := hrel
    by_cases hlt : pos < s.size
    · obtain ⟨g', rfl⟩ : ∃ g', gk = g' + 1 := ⟨gk - 1, by omega⟩
      have hnx : ∀ ty, (Instr.next (.pointer (some ⟨w.heap.size + 1, 0, none⟩)) true ty).run Tryd.prog wr = _ := fun ty => Lib.run_next_any_at wr (w.heap.size + 1) s pos ty hit hlt
      have hne : s.data.toList.drop pos ≠ [] := by
        intro h0
        have := congrArg List.length h0
        rw [List.length_drop, hlen] at this
        simp at this
        omega
      have hwd := Lib.width_pos s pos
      have hwn : pos + (Utf8.decode s pos).2 ≤ s.size := by
        have := Lib.decodeL_le _ hne
        rw [Lib.decodeL_drop, List.length_drop, hlen] at this
        omega
      have hgd := dec_good s pos
      have hstep := Lib.mapD_step mapf _ hne
      have hsame := Lib.mapD_same mapf _ hne
      have hrlen := Lib.runeLen_decode (s.data.toList.drop pos)
      have hdg := ext_go s pos hlt
      rw [Lib.decodeL_drop] at hstep hsame hrlen
      obtain ⟨R, hR⟩ : ∃ R, (Utf8.decode s pos).1 = R := ⟨_, rfl⟩
      obtain ⟨K, hK⟩ : ∃ K, (Utf8.decode s pos).2 = K := ⟨_, rfl⟩
      have hdg2 : (Lib.decodeGo (s.extract pos s.size)).1 = R ∧ (Lib.decodeGo (s.extract pos s.size)).2 = K := by rw [hdg]; exact ⟨hR, hK⟩
      rw [hR, hK] at hnx hstep hsame hrlen
      rw [hK] at hwd hwn
      rw [hR] at hgd
      rw [List.drop_drop] at hstep hsame
      have hit2 := Lib.iterAt_heap wr (w.heap.size + 1) s pos (pos + K) hit
      have hbw2 := Lib.below_iterAt hbw (k := w.heap.size + 1) (by omega) s (pos + K)
      have hfr2 : (wr.iterAt (w.heap.size + 1) s (pos + K)).heap[w.heap.size]? = _ := (Lib.iterAt_other wr (w.heap.size + 1) w.heap.size s (pos + K) (by omega)).trans hfr
      obtain ⟨W, hWd⟩ : ∃ W, wr.iterAt (w.heap.size + 1) s (pos + K) = W := ⟨_, rfl⟩
      rw [hWd] at hnx hit2 hbw2 hfr2
      have cS := fn_any R hgd W
      have hMo := map_of R
      obtain ⟨M, hM⟩ : ∃ M, mapf (R : Int) = M := ⟨_, rfl⟩
      rw [hM] at cS hMo hstep hsame
      obtain ⟨E, hE⟩ : ∃ E, (if 0 ≤ M then Lib.encodeRune M else []) = E := ⟨_, rfl⟩
      rw [hE] at hstep
      have hszW : w.heap.size + 1 < W.heap.size := (Array.getElem?_eq_some_iff.1 hit2).1
      have CS := Aside0.mk cS
      have HIT := Aside0.mk hit2
      have HFR := Aside0.mk hfr2
      have HBW := Aside0.mk hbw2
      have HE := Aside0.mk hE
      have HGD := Aside0.mk hgd
      have HDG := Aside0.mk hdg2
      clear hit hbw hfr hWd hR hK hM hdg hdg2 cS hit2 hfr2 hbw2 hE hgd
      by_cases hc : M = (R : Int) ∧ R ≠ 65533
      · obtain ⟨hc1, hc2⟩ := hc
        have hc2' : ¬ ((R : Int) = 65533) := by omega
        subst hc1
        have HS := Aside0.mk (show s.data.toList.take (pos + K) ++ Lib.mapD mapf (s.data.toList.drop (pos + K)) = ANS by
          rw [← hsp, hsame rfl (fun h => hc2 h.1), ← List.append_assoc, ← List.take_add])
        clear hsame hstep hrlen hsp hANS hMo
        go_wp2_with (go_at_call 21; (with_reducible refine CS.out.mono ?_); rintro e W' ⟨rfl, hbc⟩; have HBC := Aside0.mk hbc; clear hbc)
        go_roundg g'
        case measure => omega
        case rel => exact ⟨rfl, pos + K, (HBC.out.block _ (by omega)).trans HFR.out, (HBC.out.block _ (by omega)).trans HIT.out, HBW.out.trans (HBC.out.mono HBW.out.size), HS.out, by omega, hwn⟩
      · have HS := Aside0.mk (show s.data.toList.take pos ++ (E ++ Lib.mapD mapf (s.data.toList.drop (pos + K))) = ANS by rw [← hsp, hstep])
        have HSame := Aside0.mk (show M = (R : Int) → ¬ (R = 65533 ∧ K = 1) → s.data.toList.take (pos + K) ++ Lib.mapD mapf (s.data.toList.drop (pos + K)) = ANS from fun h1 h2 => by rw [← hsp, hsame h1 h2, ← List.append_assoc, ← List.take_add])
        have HLen := Aside0.mk hrlen
        clear hsame hstep hrlen hsp hANS
        by_cases hMR : M = (R : Int)
        · have hR5 : R = 65533 := Classical.byContradiction fun h => hc ⟨hMR, h⟩
          subst hR5
          have hM5 : M = 65533 := hMR
          subst hM5
          have hE := HE.out
          rw [if_pos (by decide)] at hE
          subst hE
          clear hc hMR hMo HLen HE
          have CS : Aside0 (Calls Tryd.prog 21 #[.int .i32 65533] W fun e w' => e = .returned (.int .i32 65533) ∧ Below W.heap.size W w') := ⟨CS.out⟩
          by_cases hk : K = 1
          · subst hk
            clear HSame
            go_upto_if 30 with (go_at_call 21; (with_reducible refine CS.out.mono ?_); rintro e W' ⟨rfl, hbc⟩; have HBC := Aside0.mk hbc; clear hbc)
            go_cut [7, 8, 9, 15] (fun s7 s8 s9 s15 wx => s8 = .int .i32 (65533) ∧ s9 = .int .i64 (1 : Int) ∧ wx.heap[w.heap.size]? = some (.cells #[.pointer none, .slice none 0 0] 36 (0, 0)) ∧ Below w.heap.size w wx)
            case first =>
              have HD := Aside0.mk (Tryd.utf8_DecodeRuneInString (s.extract pos s.size) W' (Utf8Tabs_below HT.out (HBW.out.trans (HBC.out.mono HBW.out.size))))
              rw [HDG.out.1, HDG.out.2] at HD
              go_wp2_with (go_at_call 26; (with_reducible refine HD.out.mono ?_); rintro e W3 ⟨rfl, hb3⟩; have HB3 := Aside0.mk hb3; clear hb3)
              all_goals (go_meet; exact ⟨rfl, rfl, (HB3.out.block _ (by have := HBC.out.size; omega)).trans ((HBC.out.block _ (by omega)).trans HFR.out), (HBW.out.trans (HBC.out.mono HBW.out.size)).trans (HB3.out.mono (by have := HBC.out.size; have := HBW.out.size; omega))⟩)
            case rest =>
              clear CS HIT HFR HBW HDG hnx HT
              obtain ⟨rfl, rfl, hfrC, hbC⟩ := hcut
              have hxs : (s.extract 0 pos).size = pos := by rw [Lib.size_eq, Lib.extract_data, List.length_take, List.length_drop, hlen]; omega
              have hxd : (s.extract 0 pos).data.toList = s.data.toList.take pos := by rw [Lib.extract_data]; simp
              have HXD := Aside0.mk hxd
              have HBC := Aside0.mk hbC
              have HG : Aside0 (Calls Tryd.prog 28 #[.pointer (some ⟨w.heap.size, 0, none⟩), .int .i64 ((s.size : Int) + 4)] wc (GrowPost w.heap.size w.heap.size (s.size + 4) wc)) := ⟨grow_any w.heap.size w.heap.size (s.size + 4) wc (Nat.le_refl _) hfrC hbC.size (by omega) (by omega)⟩
              clear hfrC hbC hxd
              obtain ⟨s2, hs2⟩ : ∃ s2, s.extract (pos + 1) s.size = s2 := ⟨_, rfl⟩
              have hl2 : s2.data.toList = s.data.toList.drop (pos + 1) := by rw [← hs2, Lib.extract_data, List.take_of_length_le (by rw [List.length_drop, hlen]; omega)]
              have hz2 : s2.size = s.size - (pos + 1) := by rw [Lib.size_eq, hl2, List.length_drop, hlen]
              have HL2 := Aside0.mk hl2
              have hpk : ((pos : Int) + (1 : Int)).toNat = pos + 1 := by omega
              clear hl2
              go_wp2_with (first | (go_at_call 28; (with_reducible refine HG.out.mono ?_); rintro e w4 ⟨rfl, hb4, hB4, p4, cap4, hc4, hcap4⟩; have HWS := Aside0.mk (ws_cap w.heap.size w.heap.size cap4 0 p4 (s.extract 0 pos) w4 hb4 hc4 (by omega) (by omega) (Nat.le_trans HBC.out.size hB4.size)); have HB4 := Aside0.mk (HBC.out.trans hB4); clear hb4 hB4 hc4 hcap4) | (go_at_call 29; (with_reducible refine HWS.out.mono ?_); rintro e w5 ⟨⟨x5, y5, rfl⟩, hb5, hB5, hr5⟩; rw [bytesOf_data, HXD.out] at hb5; have HWR := Aside0.mk (wr_err w w.heap.size (s.data.toList.take pos) w5 hb5 (HB4.out.trans hB5) (by rw [List.length_take]; omega)); have HB5 := Aside0.mk (HB4.out.trans hB5); clear hb5 hB5 hr5) | (go_at_call 30; (with_reducible refine HWR.out.mono ?_); rintro e w6 ⟨⟨x6, y6, rfl⟩, hb6, hB6, _, p6, n6, c6, hc6, hcap6⟩; have H6 := Aside0.mk hb6; have HB6 := Aside0.mk (HB5.out.trans hB6); have hcb : ((c6 : Int) == 0) = false := (by simp; omega); have HC := Aside0.mk (cap_any w.heap.size c6 p6 n6 w6 hc6); clear hb6 hB6 hc6) | (go_at_call 31; (with_reducible refine HC.out.mono ?_); rintro e W6 ⟨rfl, rfl⟩))
              go_loopg [] s2.size (fun gk wx => ∃ (p2 : Nat) (acc : List UInt8), Bl w.heap.size w.heap.size acc wx ∧ wx.heap[w6.heap.size]? = some (.stringIter s2 p2) ∧ Below w.heap.size w wx ∧
                acc ++ Lib.mapD mapf (s2.data.toList.drop p2) = ANS ∧ s2.size ≤ p2 + gk ∧ p2 ≤ s2.size ∧ acc.length ≤ 4 * (pos + 1 + p2) + 4)
              case atStart =>
                have hr4 : (Lib.encodeRune 65533 : List UInt8).length ≤ 4 := by decide
                refine ⟨0, s.data.toList.take pos ++ Lib.encodeRune 65533, H6.out.below ((Below.refl _ _).alloc (Nat.le_refl _) _), World.iter_heap w6 s2 0, HB6.out.alloc HB6.out.size _, ?_, by omega, by omega, ?_⟩
                · rw [List.drop_zero, HL2.out, List.append_assoc]; exact HS.out
                · rw [List.length_append, List.length_take, hlen]; omega
              case round =>
                obtain ⟨p2, acc, hI, hit, hbw, hacc, hfu2, hp2, hal⟩ := hrel
                have hszI : w6.heap.size < wr.heap.size := (Array.getElem?_eq_some_iff.1 hit).1
                have hBI : w.heap.size ≤ w6.heap.size := HB6.out.size
                have hBlt : w.heap.size < w6.heap.size := H6.out.lt
                by_cases hlt2 : p2 < s2.size
                · obtain ⟨g2, rfl⟩ : ∃ g2, gk = g2 + 1 := ⟨gk - 1, by omega⟩
                  have hnx : ∀ ty, (Instr.next (.pointer (some ⟨w6.heap.size, 0, none⟩)) true ty).run Tryd.prog wr = _ := fun ty => Lib.run_next_any_at wr w6.heap.size s2 p2 ty hit hlt2
                  have hne2 : s2.data.toList.drop p2 ≠ [] := by
                    intro h0
                    have := congrArg List.length h0
                    rw [List.length_drop, ← Lib.size_eq] at this
                    simp at this
                    omega
                  have hwd2 := Lib.width_pos s2 p2
                  have hwn2 : p2 + (Utf8.decode s2 p2).2 ≤ s2.size := by
                    have := Lib.decodeL_le _ hne2
                    rw [Lib.decodeL_drop, List.length_drop, ← Lib.size_eq] at this
                    omega
                  have hgd2 := dec_good s2 p2
                  have hstep2 := Lib.mapD_step mapf _ hne2
                  rw [Lib.decodeL_drop, List.drop_drop] at hstep2
                  obtain ⟨R2, hR2⟩ : ∃ R2, (Utf8.decode s2 p2).1 = R2 := ⟨_, rfl⟩
                  obtain ⟨K2, hK2⟩ : ∃ K2, (Utf8.decode s2 p2).2 = K2 := ⟨_, rfl⟩
                  rw [hR2, hK2] at hnx hstep2
                  rw [hK2] at hwd2 hwn2
                  rw [hR2] at hgd2
                  have hI2 := hI.iter hit (p2 + K2)
                  have hit2 := Lib.iterAt_heap wr w6.heap.size s2 p2 (p2 + K2) hit
                  have hbw2 := Lib.below_iterAt hbw (k := w6.heap.size) hBI s2 (p2 + K2)
                  have hsz2 : w.heap.size ≤ (wr.iterAt w6.heap.size s2 (p2 + K2)).heap.size := by rw [Lib.iterAt_size]; omega
                  obtain ⟨Wa, hWa⟩ : ∃ Wa, wr.iterAt w6.heap.size s2 (p2 + K2) = Wa := ⟨_, rfl⟩
                  rw [hWa] at hnx hI2 hit2 hbw2 hsz2
                  have cS2 := fn_any R2 hgd2 Wa
                  have hMo2 := map_of R2
                  obtain ⟨M2, hM2⟩ : ∃ M2, mapf (R2 : Int) = M2 := ⟨_, rfl⟩
                  rw [hM2] at cS2 hMo2 hstep2
                  obtain ⟨E2, hE2⟩ : ∃ E2, (if 0 ≤ M2 then Lib.encodeRune M2 else []) = E2 := ⟨_, rfl⟩
                  rw [hE2] at hstep2
                  have HS2 := Aside0.mk (show (acc ++ E2) ++ Lib.mapD mapf (s2.data.toList.drop (p2 + K2)) = ANS by rw [← hacc, hstep2, List.append_assoc])
                  have hszA : w6.heap.size < Wa.heap.size := (Array.getElem?_eq_some_iff.1 hit2).1
                  have hq4 : (Lib.encodeRune (R2 : Int)).length ≤ 4 := by
                    unfold Lib.encodeRune
                    rw [List.length_map]
                    exact (Lib.encodeRuneZ_length _).2
                  have CS2 := Aside0.mk cS2
                  have HI2 := Aside0.mk hI2
                  have HIT2 := Aside0.mk hit2
                  have HBW2 := Aside0.mk hbw2
                  have HGD2 := Aside0.mk hgd2
                  clear hit hbw hI hWa hstep2 hacc cS2 hI2 hit2 hbw2 hgd2 hR2 hK2 hM2 hne2
                  rcases hMo2 with ⟨rfl, h32⟩ | rfl
                  · have hE20 : E2 = [] := by rw [← hE2]; rfl
                    subst hE20
                    clear hE2
                    go_wp2_with (go_at_call 21; (with_reducible refine CS2.out.mono ?_); rintro e W' ⟨rfl, hbc⟩; have HBC2 := Aside0.mk hbc; clear hbc)
                    go_roundg g2
                    case measure => omega
                    case rel =>
                      refine ⟨p2 + K2, acc, HI2.out.below HBC2.out, (HBC2.out.block _ hszA).trans HIT2.out, HBW2.out.trans (HBC2.out.mono HBW2.out.size), ?_, by omega, hwn2, by omega⟩
                      have := HS2.out
                      rwa [List.append_nil] at this
                  · have hE2e : E2 = Lib.encodeRune (R2 : Int) := by rw [← hE2, if_pos (by omega)]
                    subst hE2e
                    clear hE2
                    have dn : decide (0 ≤ (R2 : Int)) = true := decide_eq_true (by omega)
                    by_cases h128 : R2 < 128
                    · have dl : decide ((R2 : Int) < 128) = true := decide_eq_true (by omega)
                      have hm8 : (R2 : Int) % 256 = (R2 : Int) := by omega
                      go_wp2_with (first | (go_at_call 21; (with_reducible refine CS2.out.mono ?_); rintro e W' ⟨rfl, hbc⟩; have HBC2 := Aside0.mk hbc; have HWB := Aside0.mk (wb_bl w.heap.size w.heap.size acc R2 W' (HI2.out.below hbc) h128 (by omega) (Nat.le_trans hsz2 hbc.size)); clear hbc) | (go_at_call 13; (with_reducible refine HWB.out.mono ?_); rintro e W7 ⟨rfl, h7, b7, k7⟩; have H7 := Aside0.mk (And.intro h7 (And.intro b7 k7)); clear h7 b7 k7))
                      go_roundg g2
                      case measure => omega
                      case rel =>
                        obtain ⟨h7, b7, k7⟩ := H7.out
                        exact ⟨p2 + K2, _, h7, k7 _ _ _ ((HBC2.out.block _ hszA).trans HIT2.out), (HBW2.out.trans (HBC2.out.mono HBW2.out.size)).trans b7, HS2.out, by omega, hwn2, by rw [List.length_append]; omega⟩
                    · have dl : decide ((R2 : Int) < 128) = false := decide_eq_false (by omega)
                      go_wp2_with (first | (go_at_call 21; (with_reducible refine CS2.out.mono ?_); rintro e W' ⟨rfl, hbc⟩; have HBC2 := Aside0.mk hbc; have HWB := Aside0.mk (wr_bl w w.heap.size R2 acc W' (HI2.out.below hbc) (HBW2.out.trans (hbc.mono HBW2.out.size)) (by omega) HGD2.out (by omega)); clear hbc) | (go_at_call 30; (with_reducible refine HWB.out.mono ?_); rintro e W7 ⟨⟨x7, y7, rfl⟩, h7, b7, k7, _⟩; have H7 := Aside0.mk (And.intro h7 (And.intro b7 k7)); clear h7 b7 k7))
                      go_roundg g2
                      case measure => omega
                      case rel =>
                        obtain ⟨h7, b7, k7⟩ := H7.out
                        exact ⟨p2 + K2, _, h7, k7 _ _ _ ((HBC2.out.block _ hszA).trans HIT2.out), (HBW2.out.trans (HBC2.out.mono HBW2.out.size)).trans b7, HS2.out, by omega, hwn2, by rw [List.length_append]; omega⟩
                · obtain rfl : p2 = s2.size := by omega
                  have hnx : ∀ ty, (Instr.next (.pointer (some ⟨w6.heap.size, 0, none⟩)) true ty).run Tryd.prog wr = _ := fun ty => Lib.run_next_end_at wr w6.heap.size s2 s2.size ty hit hlt2
                  have HST := Aside0.mk (Tryd.Builder_String_any w.heap.size w.heap.size acc wr (by rw [cells_ofB]; exact Or.inr hI) (by omega))
                  have HBW2 := Aside0.mk hbw
                  have HACC := Aside0.mk hacc
                  clear hbw hacc hI hit
                  go_wp2_with (go_at_call 14; (with_reducible refine HST.out.mono ?_); rintro e W8 ⟨rfl, hb8⟩; have HB8 := Aside0.mk hb8; clear hb8)
                  go_ret
                  refine ⟨?_, HBW2.out.trans HB8.out⟩
                  have hacc := HACC.out
                  rw [Lib.size_eq, List.drop_length, Lib.mapD_nil, List.append_nil] at hacc
                  rw [hacc]
                  rfl
          · have hkb : ((K : Int) != 1) = true := by rw [bne_iff_ne]; omega
            have hs3 := Aside0.mk (HSame.out rfl (fun h => hk h.2))
            have HDx := Aside0.mk fun W' h => Tryd.utf8_DecodeRuneInString (s.extract pos s.size) W' h
            clear HSame HS
            go_upto_if 30 with (go_at_call 21; (with_reducible refine CS.out.mono ?_); rintro e W' ⟨rfl, hbc⟩; have HBC := Aside0.mk hbc; clear hbc)
            have HD := Aside0.mk (HDx.out W' (Utf8Tabs_below HT.out (HBW.out.trans (HBC.out.mono HBW.out.size))))
            rw [HDG.out.1, HDG.out.2] at HD
            go_wp2_with (go_at_call 26; (with_reducible refine HD.out.mono ?_); rintro e W3 ⟨rfl, hb3⟩; have HB3 := Aside0.mk hb3; clear hb3)
            go_roundg g'
            case measure => omega
            case rel => exact ⟨rfl, pos + K, (HB3.out.block _ (by have := HBC.out.size; omega)).trans ((HBC.out.block _ (by omega)).trans HFR.out), (HB3.out.block _ (by have := HBC.out.size; omega)).trans ((HBC.out.block _ (by omega)).trans HIT.out), (HBW.out.trans (HBC.out.mono HBW.out.size)).trans (HB3.out.mono (by have := HBC.out.size; have := HBW.out.size; omega)), hs3.out, by omega, hwn⟩
        · obtain ⟨rfl, h32⟩ : M = -1 ∧ R ≤ 32 := by
            rcases hMo with h | h
            · exact h
            · exact absurd h hMR
          have hE := HE.out
          rw [if_neg (by decide)] at hE
          subst hE
          have hne1 : ((-1 : Int) == (R : Int)) = false := by rw [beq_eq_false_iff_ne]; omega
          have hR5 : ((R : Int) == 65533) = false := by rw [beq_eq_false_iff_ne]; omega
          have hrl := HLen.out (by omega)
          clear hc hMR hMo HLen HE HSame
          go_upto_if 30 with (go_at_call 21; (with_reducible refine CS.out.mono ?_); rintro e W' ⟨rfl, hbc⟩; have HBC := Aside0.mk hbc; clear hbc)
          go_cut [7, 8, 9, 15] (fun s7 s8 s9 s15 wx => s8 = .int .i32 (-1) ∧ s9 = .int .i64 (K : Int) ∧ wx.heap[w.heap.size]? = some (.cells #[.pointer none, .slice none 0 0] 36 (0, 0)) ∧ Below w.heap.size w wx)
          case first =>
            have HD := Aside0.mk (Tryd.utf8_RuneLen (R : Int) W')
            rw [hrl] at HD
            go_wp2_with (go_at_call 27; (with_reducible refine HD.out.mono ?_); rintro e W3 ⟨rfl, rfl⟩)
            all_goals (go_meet; exact ⟨rfl, rfl, (HBC.out.block _ (by omega)).trans HFR.out, HBW.out.trans (HBC.out.mono HBW.out.size)⟩)
          case rest =>
            clear CS HIT HFR HBW HDG hnx HT hrl
            obtain ⟨rfl, rfl, hfrC, hbC⟩ := hcut
            have hxs : (s.extract 0 pos).size = pos := by rw [Lib.size_eq, Lib.extract_data, List.length_take, List.length_drop, hlen]; omega
            have hxd : (s.extract 0 pos).data.toList = s.data.toList.take pos := by rw [Lib.extract_data]; simp
            have HXD := Aside0.mk hxd
            have HBC := Aside0.mk hbC
            have HG : Aside0 (Calls Tryd.prog 28 #[.pointer (some ⟨w.heap.size, 0, none⟩), .int .i64 ((s.size : Int) + 4)] wc (GrowPost w.heap.size w.heap.size (s.size + 4) wc)) := ⟨grow_any w.heap.size w.heap.size (s.size + 4) wc (Nat.le_refl _) hfrC hbC.size (by omega) (by omega)⟩
            clear hfrC hbC hxd
            obtain ⟨s2, hs2⟩ : ∃ s2, s.extract (pos + K) s.size = s2 := ⟨_, rfl⟩
            have hl2 : s2.data.toList = s.data.toList.drop (pos + K) := by rw [← hs2, Lib.extract_data, List.take_of_length_le (by rw [List.length_drop, hlen]; omega)]
            have hz2 : s2.size = s.size - (pos + K) := by rw [Lib.size_eq, hl2, List.length_drop, hlen]
            have HL2 := Aside0.mk hl2
            have hpk : ((pos : Int) + (K : Int)).toNat = pos + K := by omega
            clear hl2
            go_wp2_with (first | (go_at_call 28; (with_reducible refine HG.out.mono ?_); rintro e w4 ⟨rfl, hb4, hB4, p4, cap4, hc4, hcap4⟩; have HWS := Aside0.mk (ws_cap w.heap.size w.heap.size cap4 0 p4 (s.extract 0 pos) w4 hb4 hc4 (by omega) (by omega) (Nat.le_trans HBC.out.size hB4.size)); have HB4 := Aside0.mk (HBC.out.trans hB4); clear hb4 hB4 hc4 hcap4) | (go_at_call 29; (with_reducible refine HWS.out.mono ?_); rintro e w6 ⟨⟨x5, y5, rfl⟩, hb5, hB5, hr5⟩; rw [bytesOf_data, HXD.out] at hb5; obtain ⟨p6, n6, c6, hc6, hcap6⟩ := hr5; have H6 : Aside0 (Bl w.heap.size w.heap.size (s.data.toList.take pos ++ []) w6) := (by rw [List.append_nil]; exact Aside0.mk hb5); have HB6 := Aside0.mk (HB4.out.trans hB5); have hcb : ((c6 : Int) == 0) = false := (by simp; omega); have HC := Aside0.mk (cap_any w.heap.size c6 p6 n6 w6 hc6); clear hb5 hB5 hc6) | (go_at_call 31; (with_reducible refine HC.out.mono ?_); rintro e W6 ⟨rfl, rfl⟩))
            go_loopg [] s2.size (fun gk wx => ∃ (p2 : Nat) (acc : List UInt8), Bl w.heap.size w.heap.size acc wx ∧ wx.heap[w6.heap.size]? = some (.stringIter s2 p2) ∧ Below w.heap.size w wx ∧
              acc ++ Lib.mapD mapf (s2.data.toList.drop p2) = ANS ∧ s2.size ≤ p2 + gk ∧ p2 ≤ s2.size ∧ acc.length ≤ 4 * (pos + K + p2) + 4)
            case atStart =>
              have hr4 : ([] : List UInt8).length ≤ 4 := by simp
              refine ⟨0, s.data.toList.take pos ++ [], H6.out.below ((Below.refl _ _).alloc (Nat.le_refl _) _), World.iter_heap w6 s2 0, HB6.out.alloc HB6.out.size _, ?_, by omega, by omega, ?_⟩
              · rw [List.drop_zero, HL2.out, List.append_assoc]; exact HS.out
              · rw [List.length_append, List.length_take, hlen]; omega
            case round =>
              obtain ⟨p2, acc, hI, hit, hbw, hacc, hfu2, hp2, hal⟩ := hrel
              have hszI : w6.heap.size < wr.heap.size := (Array.getElem?_eq_some_iff.1 hit).1
              have hBI : w.heap.size ≤ w6.heap.size := HB6.out.size
              have hBlt : w.heap.size < w6.heap.size := H6.out.lt
              by_cases hlt2 : p2 < s2.size
              · obtain ⟨g2, rfl⟩ : ∃ g2, gk = g2 + 1 := ⟨gk - 1, by omega⟩
                have hnx : ∀ ty, (Instr.next (.pointer (some ⟨w6.heap.size, 0, none⟩)) true ty).run Tryd.prog wr = _ := fun ty => Lib.run_next_any_at wr w6.heap.size s2 p2 ty hit hlt2
                have hne2 : s2.data.toList.drop p2 ≠ [] := by
                  intro h0
                  have := congrArg List.length h0
                  rw [List.length_drop, ← Lib.size_eq] at this
                  simp at this
                  omega
                have hwd2 := Lib.width_pos s2 p2
                have hwn2 : p2 + (Utf8.decode s2 p2).2 ≤ s2.size := by
                  have := Lib.decodeL_le _ hne2
                  rw [Lib.decodeL_drop, List.length_drop, ← Lib.size_eq] at this
                  omega
                have hgd2 := dec_good s2 p2
                have hstep2 := Lib.mapD_step mapf _ hne2
                rw [Lib.decodeL_drop, List.drop_drop] at hstep2
                obtain ⟨R2, hR2⟩ : ∃ R2, (Utf8.decode s2 p2).1 = R2 := ⟨_, rfl⟩
                obtain ⟨K2, hK2⟩ : ∃ K2, (Utf8.decode s2 p2).2 = K2 := ⟨_, rfl⟩
                rw [hR2, hK2] at hnx hstep2
                rw [hK2] at hwd2 hwn2
                rw [hR2] at hgd2
                have hI2 := hI.iter hit (p2 + K2)
                have hit2 := Lib.iterAt_heap wr w6.heap.size s2 p2 (p2 + K2) hit
                have hbw2 := Lib.below_iterAt hbw (k := w6.heap.size) hBI s2 (p2 + K2)
                have hsz2 : w.heap.size ≤ (wr.iterAt w6.heap.size s2 (p2 + K2)).heap.size := by rw [Lib.iterAt_size]; omega
                obtain ⟨Wa, hWa⟩ : ∃ Wa, wr.iterAt w6.heap.size s2 (p2 + K2) = Wa := ⟨_, rfl⟩
                rw [hWa] at hnx hI2 hit2 hbw2 hsz2
                have cS2 := fn_any R2 hgd2 Wa
                have hMo2 := map_of R2
                obtain ⟨M2, hM2⟩ : ∃ M2, mapf (R2 : Int) = M2 := ⟨_, rfl⟩
                rw [hM2] at cS2 hMo2 hstep2
                obtain ⟨E2, hE2⟩ : ∃ E2, (if 0 ≤ M2 then Lib.encodeRune M2 else []) = E2 := ⟨_, rfl⟩
                rw [hE2] at hstep2
                have HS2 := Aside0.mk (show (acc ++ E2) ++ Lib.mapD mapf (s2.data.toList.drop (p2 + K2)) = ANS by rw [← hacc, hstep2, List.append_assoc])
                have hszA : w6.heap.size < Wa.heap.size := (Array.getElem?_eq_some_iff.1 hit2).1
                have hq4 : (Lib.encodeRune (R2 : Int)).length ≤ 4 := by
                  unfold Lib.encodeRune
                  rw [List.length_map]
                  exact (Lib.encodeRuneZ_length _).2
                have CS2 := Aside0.mk cS2
                have HI2 := Aside0.mk hI2
                have HIT2 := Aside0.mk hit2
                have HBW2 := Aside0.mk hbw2
                have HGD2 := Aside0.mk hgd2
                clear hit hbw hI hWa hstep2 hacc cS2 hI2 hit2 hbw2 hgd2 hR2 hK2 hM2 hne2
                rcases hMo2 with ⟨rfl, h32⟩ | rfl
                · have hE20 : E2 = [] := by rw [← hE2]; rfl
                  subst hE20
                  clear hE2
                  go_wp2_with (go_at_call 21; (with_reducible refine CS2.out.mono ?_); rintro e W' ⟨rfl, hbc⟩; have HBC2 := Aside0.mk hbc; clear hbc)
                  go_roundg g2
                  case measure => omega
                  case rel =>
                    refine ⟨p2 + K2, acc, HI2.out.below HBC2.out, (HBC2.out.block _ hszA).trans HIT2.out, HBW2.out.trans (HBC2.out.mono HBW2.out.size), ?_, by omega, hwn2, by omega⟩
                    have := HS2.out
                    rwa [List.append_nil] at this
                · have hE2e : E2 = Lib.encodeRune (R2 : Int) := by rw [← hE2, if_pos (by omega)]
                  subst hE2e
                  clear hE2
                  have dn : decide (0 ≤ (R2 : Int)) = true := decide_eq_true (by omega)
                  by_cases h128 : R2 < 128
                  · have dl : decide ((R2 : Int) < 128) = true := decide_eq_true (by omega)
                    have hm8 : (R2 : Int) % 256 = (R2 : Int) := by omega
                    go_wp2_with (first | (go_at_call 21; (with_reducible refine CS2.out.mono ?_); rintro e W' ⟨rfl, hbc⟩; have HBC2 := Aside0.mk hbc; have HWB := Aside0.mk (wb_bl w.heap.size w.heap.size acc R2 W' (HI2.out.below hbc) h128 (by omega) (Nat.le_trans hsz2 hbc.size)); clear hbc) | (go_at_call 13; (with_reducible refine HWB.out.mono ?_); rintro e W7 ⟨rfl, h7, b7, k7⟩; have H7 := Aside0.mk (And.intro h7 (And.intro b7 k7)); clear h7 b7 k7))
                    go_roundg g2
                    case measure => omega
                    case rel =>
                      obtain ⟨h7, b7, k7⟩ := H7.out
                      exact ⟨p2 + K2, _, h7, k7 _ _ _ ((HBC2.out.block _ hszA).trans HIT2.out), (HBW2.out.trans (HBC2.out.mono HBW2.out.size)).trans b7, HS2.out, by omega, hwn2, by rw [List.length_append]; omega⟩
                  · have dl : decide ((R2 : Int) < 128) = false := decide_eq_false (by omega)
                    go_wp2_with (first | (go_at_call 21; (with_reducible refine CS2.out.mono ?_); rintro e W' ⟨rfl, hbc⟩; have HBC2 := Aside0.mk hbc; have HWB := Aside0.mk (wr_bl w w.heap.size R2 acc W' (HI2.out.below hbc) (HBW2.out.trans (hbc.mono HBW2.out.size)) (by omega) HGD2.out (by omega)); clear hbc) | (go_at_call 30; (with_reducible refine HWB.out.mono ?_); rintro e W7 ⟨⟨x7, y7, rfl⟩, h7, b7, k7, _⟩; have H7 := Aside0.mk (And.intro h7 (And.intro b7 k7)); clear h7 b7 k7))
                    go_roundg g2
                    case measure => omega
                    case rel =>
                      obtain ⟨h7, b7, k7⟩ := H7.out
                      exact ⟨p2 + K2, _, h7, k7 _ _ _ ((HBC2.out.block _ hszA).trans HIT2.out), (HBW2.out.trans (HBC2.out.mono HBW2.out.size)).trans b7, HS2.out, by omega, hwn2, by rw [List.length_append]; omega⟩
              · obtain rfl : p2 = s2.size := by omega
                have hnx : ∀ ty, (Instr.next (.pointer (some ⟨w6.heap.size, 0, none⟩)) true ty).run Tryd.prog wr = _ := fun ty => Lib.run_next_end_at wr w6.heap.size s2 s2.size ty hit hlt2
                have HST := Aside0.mk (Tryd.Builder_String_any w.heap.size w.heap.size acc wr (by rw [cells_ofB]; exact Or.inr hI) (by omega))
                have HBW2 := Aside0.mk hbw
                have HACC := Aside0.mk hacc
                clear hbw hacc hI hit
                go_wp2_with (go_at_call 14; (with_reducible refine HST.out.mono ?_); rintro e W8 ⟨rfl, hb8⟩; have HB8 := Aside0.mk hb8; clear hb8)
                go_ret
                refine ⟨?_, HBW2.out.trans HB8.out⟩
                have hacc := HACC.out
                rw [Lib.size_eq, List.drop_length, Lib.mapD_nil, List.append_nil] at hacc
                rw [hacc]
                rfl
    · obtain rfl : pos = s.size := by omega
      have hnx : ∀ ty, (Instr.next (.pointer (some ⟨w.heap.size + 1, 0, none⟩)) true ty).run Tryd.prog wr = _ := fun ty => Lib.run_next_end_at wr (w.heap.size + 1) s s.size ty hit hlt
      have HC := Aside0.mk (cap_any w.heap.size 0 none 0 wr (by rw [Lib.cell_of_heap hfr]; rfl))
      have HBW := Aside0.mk hbw
      have HSP := Aside0.mk hsp
      clear hbw hsp hANS hfr hit
      go_wp2_with (go_at_call 31; (with_reducible refine HC.out.mono ?_); rintro e W' ⟨rfl, rfl⟩)
      go_ret
      refine ⟨?_, HBW.out⟩
      rw [← HSP.out, ← hlen, List.drop_length, List.take_length, Lib.mapD_nil, List.append_nil]
      rfl
end Go.Proofs.YtbobbbpjphkooaaDoor.Mp
