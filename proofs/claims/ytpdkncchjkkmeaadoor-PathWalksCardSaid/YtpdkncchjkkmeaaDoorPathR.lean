/- The path that comes of any path and any segments, and a shortened one, are what the reference says: the walks. -/
import Derived.Test.YtpdkncchjkkmeaaDoorPx1
import Derived.Test.YtpdkncchjkkmeaaDoorPx2
import Derived.Test.YtpdkncchjkkmeaaDoorPx3
import Derived.Test.YtpdkncchjkkmeaaDoorPx4
import Derived.Test.YtpdkncchjkkmeaaDoorPx7
import Derived.Test.YtpdkncchjkkmeaaDoorPathPlain
import Derived.OwnWalk
import Derived.Laws.OwnMore
import Derived.Deep.LoopGhost
namespace Go.Proofs.YtpdkncchjkkmeaaDoor.Path
open Go.RowKit Go.Proofs.YtpdkncchjkkmeaaDoor.P Go.Proofs.YtpdkncchjkkmeaaDoor.Pl Go.Proofs.YtpdkncchjkkmeaaDoor.Spl Go.Proofs.YtpdkncchjkkmeaaDoorW.PrintWords Go.Proofs.YtpdkncchjkkmeaaDoorW.PrintLast Go.Proofs.YtpdkncchjkkmeaaDoorW.PrintMore Go.Proofs.YtpdkncchjkkmeaaDoor.G
set_option linter.unusedVariables false
theorem r_reads {w : World} {b : Nat} {v : Value} {l : List ByteArray} (h : w.ownsRow b 9 1 v l.length (l.map Value.string)) : ∃ A c, v = .slice A l.length c ∧ l.length ≤ c ∧ Kd.C Kd.string w A l.length l := Kd.R_reads (R_of_own h)
set_option maxHeartbeats 2000000 in
set_option maxRecDepth 100000 in
theorem rshort_nil (file : Bool) (A : Option Addr) (c : Nat) (w : World) (hC : Kd.C Kd.string w A 0 []) :
    Calls Tryd.prog 13 #[.bool file, .slice A 0 c] w fun e w' => ∃ A' c', e = .returned (.slice A' 0 c') ∧ Kd.C Kd.string w' A' 0 [] ∧ Below w.heap.size w w' := by
  have HC := Aside0.mk hC
  clear hC
  go_enter Tryd.func13, Tryd.ntmps13
  go_wp2
  go_ret
  exact ⟨_, _, rfl, HC.out, Below.refl _ _⟩
set_option maxHeartbeats 4000000 in
set_option maxRecDepth 100000 in
theorem rshort_cut (file : Bool) (b o c m : Nat) (l : List ByteArray) (w : World) (hl : l.length = m + 1) (hm : m ≤ 20) (hc : m + 1 ≤ c) (hC : ∀ j, j < l.length → w.cell? ⟨b, o + j, none⟩ = some (.string (l.getD j ByteArray.empty))) (hn : ¬ (file = true ∧ m = 0)) :
    Calls Tryd.prog 13 #[.bool file, .slice (some ⟨b, o, none⟩) (m + 1) c] w fun e w' => ∃ A' c', e = .returned (.slice A' m c') ∧ m ≤ c' ∧ Kd.C Kd.string w' A' m (l.take m) ∧ Below w.heap.size w w' := by
  have HC := Aside0.mk hC
  clear hC
  obtain ⟨i0, hi, hz0, hz1, hz2⟩ := info_parts info9
  have e0 : ((m : Int) + 1 == 0) = false := beq_false_of_ne (by omega)
  cases file
  · clear hn
    go_enter Tryd.func13, Tryd.ntmps13
    go_wp2_with (at_builtin; refine wpList_append_own _ rfl _ _ 22 rfl w.heap.size 9 i0 (.string { data := #[] }) 1 16 Tryd.underlying22 hi hz0 hz1 hz2 rfl (by decide) _ _ _ rfl (World.ownsRow_made w #[] 0 (Nat.le_refl _) (Nat.zero_le _) rfl) ⟨b, o, none⟩ m c ((l.take m).map Value.string) rfl ?qc1 ?qc2 ?qc3 ?qc4 ?qc5 ?qc6 ?_)
    case qc1 => rw [List.length_map, List.length_take]; omega
    case qc2 =>
      intro j u hj
      have hjn : j < m := by
        have := (List.getElem?_eq_some_iff.1 hj).1
        rw [List.length_map, List.length_take] at this
        omega
      rw [Addr.add_lit]
      refine Lib.cell?_alloc_some _ ?_
      rw [HC.out j (by omega)]
      have e : ((l.take m).map (Value.string))[j]? = some (Value.string (l.getD j ByteArray.empty)) := by simp [List.getD, hjn, List.getElem?_eq_getElem (show j < l.length by omega)]
      rw [e] at hj
      exact hj
    case qc3 => intro u hu; obtain ⟨x, _, rfl⟩ := List.mem_map.1 hu; rfl
    case qc4 => unfold maxLen; omega
    case qc5 => omega
    case qc6 => simp
    intro v' w1 hown hgrow hnil
    go_wp2
    go_ret
    have hown' : w1.ownsRow w.heap.size 9 1 v' (l.take m).length ((l.take m).map Value.string) := by
      have hlen : (l.take m).length = m := by rw [List.length_take]; omega
      rw [hlen]
      simpa using hown
    obtain ⟨A', c', rfl, h1, h2⟩ := r_reads hown'
    have hlen : (l.take m).length = m := by rw [List.length_take]; omega
    rw [hlen] at h1 h2
    exact ⟨A', c', by rw [hlen]; rfl, h1, h2, ((Below.refl _ w).alloc (Nat.le_refl _) _).grown hgrow (by simp) (by intro k hk; simp [Value.ownBlock] at hk; omega)⟩
  · have e1 : ((m : Int) + 1 == 1) = false := beq_false_of_ne (fun e => hn ⟨rfl, by omega⟩)
    clear hn
    go_enter Tryd.func13, Tryd.ntmps13
    go_wp2_with (at_builtin; refine wpList_append_own _ rfl _ _ 22 rfl w.heap.size 9 i0 (.string { data := #[] }) 1 16 Tryd.underlying22 hi hz0 hz1 hz2 rfl (by decide) _ _ _ rfl (World.ownsRow_made w #[] 0 (Nat.le_refl _) (Nat.zero_le _) rfl) ⟨b, o, none⟩ m c ((l.take m).map Value.string) rfl ?qc1 ?qc2 ?qc3 ?qc4 ?qc5 ?qc6 ?_)
    case qc1 => rw [List.length_map, List.length_take]; omega
    case qc2 =>
      intro j u hj
      have hjn : j < m := by
        have := (List.getElem?_eq_some_iff.1 hj).1
        rw [List.length_map, List.length_take] at this
        omega
      rw [Addr.add_lit]
      refine Lib.cell?_alloc_some _ ?_
      rw [HC.out j (by omega)]
      have e : ((l.take m).map (Value.string))[j]? = some (Value.string (l.getD j ByteArray.empty)) := by simp [List.getD, hjn, List.getElem?_eq_getElem (show j < l.length by omega)]
      rw [e] at hj
      exact hj
    case qc3 => intro u hu; obtain ⟨x, _, rfl⟩ := List.mem_map.1 hu; rfl
    case qc4 => unfold maxLen; omega
    case qc5 => omega
    case qc6 => simp
    intro v' w1 hown hgrow hnil
    go_wp2
    go_ret
    have hown' : w1.ownsRow w.heap.size 9 1 v' (l.take m).length ((l.take m).map Value.string) := by
      have hlen : (l.take m).length = m := by rw [List.length_take]; omega
      rw [hlen]
      simpa using hown
    obtain ⟨A', c', rfl, h1, h2⟩ := r_reads hown'
    have hlen : (l.take m).length = m := by rw [List.length_take]; omega
    rw [hlen] at h1 h2
    exact ⟨A', c', by rw [hlen]; rfl, h1, h2, ((Below.refl _ w).alloc (Nat.le_refl _) _).grown hgrow (by simp) (by intro k hk; simp [Value.ownBlock] at hk; omega)⟩
set_option maxHeartbeats 4000000 in
set_option maxRecDepth 100000 in
theorem rshort_one (b o c : Nat) (x : ByteArray) (w : World) (hc : 1 ≤ c) (hx : w.cell? ⟨b, o, none⟩ = some (.string x)) (q : Bool) (hq : norB (bytesOf x) = q) :
    Calls Tryd.prog 13 #[.bool true, .slice (some ⟨b, o, none⟩) 1 c] w fun e w' => ∃ A' c', e = .returned (.slice A' (if q = true then 1 else 0) c') ∧ (if q = true then 1 else 0) ≤ c' ∧ (if q = true then A' = some ⟨b, o, none⟩ else Kd.C Kd.string w' A' 0 []) ∧ Below w.heap.size w w' := by
  obtain ⟨i0, hi, hz0, hz1, hz2⟩ := info_parts info9
  have hN := Aside0.mk (show carryallref10_Normal.f x = some q by rw [← hq]; exact rnor_f x)
  have HC := Aside0.mk hc
  clear hq hc
  cases q
  · go_enter Tryd.func13, Tryd.ntmps13
    go_wp2_with (go_at_call 21; refine (carryallref10_Normal.calls x false _ hN.out).mono ?_; rintro e w2 ⟨rfl, hw2⟩; have HB := Aside0.mk (show Below w.heap.size w w2 by obtain ⟨nd, rfl⟩ := hw2; exact pw_below_drewN (Below.refl _ w) nd); clear hw2)
    go_ret
    exact ⟨_, ⟨_, rfl⟩, Kd.C_of_reads (enc := Value.string) (d := ByteArray.empty) (h1 := fun _ => rfl) ⟨rfl, Nat.zero_le _, fun h => absurd h (by simp)⟩, HB.out.alloc HB.out.size _⟩
  · go_enter Tryd.func13, Tryd.ntmps13
    go_wp2_with (go_at_call 21; refine (carryallref10_Normal.calls x true _ hN.out).mono ?_; rintro e w2 ⟨rfl, hw2⟩; have HB := Aside0.mk (show Below w.heap.size w w2 by obtain ⟨nd, rfl⟩ := hw2; exact pw_below_drewN (Below.refl _ w) nd); clear hw2)
    go_ret
    exact ⟨_, _, rfl, HC.out, rfl, HB.out⟩
/-- The reference's Shorten, of a slice that is only read. -/
theorem rshort_call (file : Bool) (A : Option Addr) (c n : Nat) (l : List ByteArray) (w : World) (hn : (shortB file l).length = n) (hC : Kd.C Kd.string w A l.length l) (hc : l.length ≤ c) (hl : l.length ≤ 20) :
    Calls Tryd.prog 13 #[.bool file, .slice A l.length c] w fun e w' => ∃ A' c', e = .returned (.slice A' n c') ∧ n ≤ c' ∧ Kd.C Kd.string w' A' n (shortB file l) ∧ Below w.heap.size w w' := by
  subst hn
  cases l with
  | nil =>
    refine (rshort_nil file A c w hC).mono ?_
    rintro e w' ⟨A', c', rfl, h1, h2⟩
    exact ⟨A', c', rfl, Nat.zero_le _, h1, h2⟩
  | cons x t =>
    obtain ⟨b, o, rfl, hcell⟩ := G.cells_of hC (by simp)
    by_cases h1 : file = true ∧ t.length = 0
    · obtain ⟨rfl, ht⟩ := h1
      obtain rfl := List.length_eq_zero_iff.1 ht
      refine (rshort_one b o c x w hc (hcell 0 (by simp)) (norB (bytesOf x)) rfl).mono ?_
      rintro e w' ⟨A', c', rfl, g1, g2, g3⟩
      have hs : shortB true [x] = if norB (bytesOf x) = true then [x] else [] := by
        unfold shortB
        rw [if_neg (by simp)]
        by_cases hN : norB (bytesOf x) = true
        · rw [if_pos ⟨rfl, rfl, hN⟩, if_pos hN]
        · rw [if_neg (fun e => hN e.2.2), if_neg hN]; rfl
      rw [hs]
      by_cases hN : norB (bytesOf x) = true
      · rw [if_pos hN] at g1 g2 ⊢
        rw [if_pos hN]
        subst g2
        exact ⟨_, c', rfl, g1, Kd.C_below hC g3, g3⟩
      · rw [if_neg hN] at g1 g2 ⊢
        rw [if_neg hN]
        exact ⟨A', c', rfl, g1, g2, g3⟩
    · have hs : shortB file (x :: t) = (x :: t).take t.length := by
        unfold shortB
        rw [if_neg (by simp), if_neg]
        · rfl
        · rintro ⟨e1, e2, _⟩
          exact h1 ⟨e1, by simpa using e2⟩
      have hlen : ((x :: t).take t.length).length = t.length := by rw [List.length_take, List.length_cons]; omega
      rw [hs, hlen]
      exact rshort_cut file b o c t.length (x :: t) w rfl (by simp at hl; omega) hc hcell h1
end Go.Proofs.YtpdkncchjkkmeaaDoor.Path
