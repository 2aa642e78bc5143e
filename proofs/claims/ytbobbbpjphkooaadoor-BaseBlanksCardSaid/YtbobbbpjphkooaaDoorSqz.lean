/- base.squeeze, walked: strings.Map, then at most two = from the end. -/
import Derived.Test.YtbobbbpjphkooaaDoorMapC
namespace Go.Proofs.YtbobbbpjphkooaaDoor.Mp
open Go.RowKit Go.Shelf Go.Proofs.YtbobbbpjphkooaaDoor.Pa Go.Proofs.YtbobbbpjphkooaaDoor.Pl Go.Proofs.YtbobbbpjphkooaaDoorW.PrintWords Go.Proofs.YtbobbbpjphkooaaDoorW.PrintLast Go.Proofs.YtbobbbpjphkooaaDoorW.PrintMore
set_option linter.unusedVariables false
set_option linter.unusedSimpArgs false
def blankless (s : ByteArray) : ByteArray := ⟨(Lib.mapD mapf s.data.toList).toArray⟩
def eqEnd (t : ByteArray) : Bool := Lib.hasSuffix t.data.toList (⟨#[61]⟩ : ByteArray).data.toList
def cut1 (t : ByteArray) : ByteArray := t.extract 0 (t.size - 1)
def trimEq (t : ByteArray) : ByteArray := if t.size % 4 = 0 ∧ eqEnd t = true then (if eqEnd (cut1 t) = true then cut1 (cut1 t) else cut1 t) else t
def sqz (s : ByteArray) : ByteArray := trimEq (blankless s)
theorem eqEnd_pos {t : ByteArray} (h : eqEnd t = true) : 1 ≤ t.size := by
  unfold eqEnd at h
  rcases Nat.eq_zero_or_pos t.size with h0 | h0
  · exfalso
    rw [Lib.size_eq] at h0
    have := List.eq_nil_of_length_eq_zero h0
    rw [this] at h
    revert h
    decide
  · exact h0
theorem cut1_size (t : ByteArray) (h : 1 ≤ t.size) : (cut1 t).size = t.size - 1 := by
  unfold cut1
  rw [Lib.size_eq, Lib.extract_data, List.length_take, List.length_drop, ← Lib.size_eq]
  omega
set_option maxHeartbeats 8000000 in
set_option maxRecDepth 100000 in
theorem sqz_any (s : ByteArray) (w : World) (hs : s.size ≤ 100000) (hl : (blankless s).size ≤ 400000) (hT : G.T w) :
    Calls Tryd.prog 15 #[.string s] w fun e w' => e = .returned (.string (sqz s)) ∧ Below w.heap.size w w' := by
  have HM := Aside0.mk (show Calls Tryd.prog 20 #[.func (.func 21) #[] #[], .string s] w fun e w' => e = .returned (.string (blankless s)) ∧ Below w.heap.size w w' from map_any s w hs hT)
  unfold sqz
  obtain ⟨t, ht⟩ : ∃ t, blankless s = t := ⟨_, rfl⟩
  rw [ht] at HM hl ⊢
  have HS := Aside0.mk fun (x : ByteArray) (h : x.size ≤ 400000) (W : World) => (Tryd.strings_HasSuffix x ⟨#[61]⟩ W (by omega))
  clear hT hs ht
  go_enter Tryd.func15, Tryd.ntmps15
  go_wp2_with (go_at_call 20; (with_reducible refine HM.out.mono ?_); rintro e w1 ⟨rfl, hb⟩; have HB := Aside0.mk hb; clear hb)
  go_loopg [0, 3] 2 (fun gk s1 n wx => wx = w1 ∧ ((gk = 2 ∧ n = .int .i64 0 ∧ s1 = .string t) ∨ (gk = 1 ∧ n = .int .i64 1 ∧ s1 = .string (cut1 t) ∧ t.size % 4 = 0 ∧ eqEnd t = true) ∨ (gk = 0 ∧ n = .int .i64 2 ∧ s1 = .string (cut1 (cut1 t)) ∧ t.size % 4 = 0 ∧ eqEnd t = true ∧ eqEnd (cut1 t) = true)))
  case atStart => exact ⟨rfl, .inl ⟨rfl, rfl, rfl⟩⟩
  case round =>
    obtain ⟨rfl, hr⟩ := hrel
    rcases hr with ⟨rfl, rfl, rfl⟩ | ⟨rfl, rfl, rfl, h4, hq⟩ | ⟨rfl, rfl, rfl, h4, hq, hq2⟩
    · by_cases h4 : t.size % 4 = 0
      · obtain ⟨q, hq⟩ : ∃ q, eqEnd t = q := ⟨_, rfl⟩
        have HX := Aside0.mk (show Calls Tryd.prog 23 #[.string t, .string ⟨#[61]⟩] wr fun e w' => e = .returned (.bool q) ∧ wr = w' from (HS.out t hl wr).mono fun e w' hh => ⟨hq ▸ hh.1, hh.2.symm⟩)
        have hm : ((t.size : Int) % 4 == 0) = true := by rw [beq_iff_eq]; omega
        have hm2 : ((t.size : Int).tmod 4 == 0) = true := by rw [beq_iff_eq, Int.tmod_eq_emod_of_nonneg (by omega)]; omega
        cases q
        · have HR := Aside0.mk (show trimEq t = t by unfold trimEq; rw [if_neg (by rw [hq]; simp)])
          clear hq h4
          go_wp2_with (go_at_call 23; (with_reducible refine HX.out.mono ?_); rintro e w2 ⟨rfl, rfl⟩)
          go_ret
          exact ⟨by rw [HR.out]; rfl, HB.out⟩
        · have hp := eqEnd_pos hq
          have hx : ((t.size : Int) - 1).toNat = t.size - 1 := by omega
          have HQ := Aside0.mk (And.intro h4 hq)
          clear hq h4
          go_wp2_with (go_at_call 23; (with_reducible refine HX.out.mono ?_); rintro e w2 ⟨rfl, rfl⟩)
          go_roundg 1
          case measure => omega
          case rel => exact ⟨rfl, .inr (.inl ⟨rfl, rfl, rfl, HQ.out.1, HQ.out.2⟩)⟩
      · have hm : ((t.size : Int) % 4 == 0) = false := by rw [beq_eq_false_iff_ne]; omega
        have hm2 : ((t.size : Int).tmod 4 == 0) = false := by rw [beq_eq_false_iff_ne, Int.tmod_eq_emod_of_nonneg (by omega)]; omega
        have HR := Aside0.mk (show trimEq t = t by unfold trimEq; rw [if_neg (fun h => h4 h.1)])
        clear h4
        go_wp2
        go_ret
        exact ⟨by rw [HR.out]; rfl, HB.out⟩
    · have hp := eqEnd_pos hq
      have hz := cut1_size t hp
      obtain ⟨u, hu⟩ : ∃ u, cut1 t = u := ⟨_, rfl⟩
      have HT := Aside0.mk (show trimEq t = if eqEnd u = true then cut1 u else u by unfold trimEq; rw [if_pos ⟨h4, hq⟩, hu])
      have HU := Aside0.mk hu
      have HQ := Aside0.mk (And.intro h4 hq)
      rw [hu] at hz ⊢
      have hm : ((u.size : Int) % 4 == 3) = true := by rw [beq_iff_eq]; omega
      have hm2 : ((u.size : Int).tmod 4 == 3) = true := by rw [beq_iff_eq, Int.tmod_eq_emod_of_nonneg (by omega)]; omega
      obtain ⟨q, hq⟩ : ∃ q, eqEnd u = q := ⟨_, rfl⟩
      rw [hq] at HT
      have HX := Aside0.mk (show Calls Tryd.prog 23 #[.string u, .string ⟨#[61]⟩] wr fun e w' => e = .returned (.bool q) ∧ wr = w' from (HS.out u (by omega) wr).mono fun e w' hh => ⟨hq ▸ hh.1, hh.2.symm⟩)
      have hlu : u.size ≤ 400000 := by omega
      cases q
      · clear hq h4 hz hp hu hl
        go_wp2_with (go_at_call 23; (with_reducible refine HX.out.mono ?_); rintro e w2 ⟨rfl, rfl⟩)
        go_ret
        exact ⟨by rw [HT.out]; rfl, HB.out⟩
      · have hp2 := eqEnd_pos hq
        have hx : ((u.size : Int) - 1).toNat = u.size - 1 := by omega
        have HQ2 := Aside0.mk hq
        clear hq h4 hz hp hu hl
        go_wp2_with (go_at_call 23; (with_reducible refine HX.out.mono ?_); rintro e w2 ⟨rfl, rfl⟩)
        go_roundg 0
        case measure => omega
        case rel => exact ⟨rfl, .inr (.inr ⟨rfl, rfl, by rw [HU.out]; rfl, HQ.out.1, HQ.out.2, by rw [HU.out]; exact HQ2.out⟩)⟩
    · have HR := Aside0.mk (show trimEq t = cut1 (cut1 t) by unfold trimEq; rw [if_pos ⟨h4, hq⟩, if_pos hq2])
      obtain ⟨u, hu⟩ : ∃ u, cut1 (cut1 t) = u := ⟨_, rfl⟩
      rw [hu] at HR ⊢
      clear h4 hq hq2 hu
      go_wp2
      go_ret
      exact ⟨by rw [HR.out]; rfl, HB.out⟩
end Go.Proofs.YtbobbbpjphkooaaDoor.Mp
