/- Chapter 22: all handles of a table of numbers: the contract of Handles. -/
import Derived.Test.YtbpdbgpnlcbdiaaTabC
import Derived.Test.YtbpdbgpnlcbdiaaTabN
namespace Go.Proofs.Ytbpdbgpnlcbdiaa.Tab
open Go.RowKit Go.Proofs.YtbpdbgpnlcbdiaaW.PrintWords Go.Proofs.YtbpdbgpnlcbdiaaW.PrintLast Go.Proofs.YtbpdbgpnlcbdiaaW.PrintMore
set_option linter.unusedVariables false
set_option linter.unusedSimpArgs false
theorem one_cell (W : World) (p : Value) (e : TypeId) : ∀ j u, [p][j]? = some u → (W.alloc (.cells #[p] e)).cell? ((⟨W.heap.size, 0, none⟩ : Addr).add j) = some u := by
  intro j u hj
  have hb : (W.alloc (.cells #[p] e)).heap[W.heap.size]? = some (.cells #[p] e) := by
    show (W.heap.push _)[W.heap.size]? = _
    simp
  have ha : (⟨W.heap.size, 0, none⟩ : Addr).add j = ⟨W.heap.size, j, none⟩ := by unfold Addr.add; split <;> simp_all
  rw [ha]
  unfold World.cell?
  rw [hb]
  rcases j with _ | j
  · simpa using hj
  · simp at hj
def handL (l : List (Int × Value)) : List Value := l.map fun p => .int .i64 p.1
theorem handL_len (l : List (Int × Value)) : (handL l).length = l.length := by simp [handL]
theorem handL_snoc (l : List (Int × Value)) (k : Nat) (p : Int × Value) (h : l[k]? = some p) : handL (l.take (k + 1)) = handL (l.take k) ++ [.int .i64 p.1] := by
  have : l.take (k + 1) = l.take k ++ [p] := by rw [List.take_add_one, h]; rfl
  rw [this]
  simp [handL]
set_option maxHeartbeats 1000000 in
set_option maxRecDepth 100000 in
theorem handles_int {base B room last : Nat} {l : List (Int × Value)} (w : World) (hT : TabAt 70 72 base B room last l w) (hty : All_int l) (hnm : l.length ≤ 1000000) :
    Calls Try.prog 21 #[.pointer (some ⟨B, 0, none⟩)] w fun e w' => ∃ v, e = .returned v ∧ w'.ownsRow w.heap.size 2 1 v l.length (handL l) ∧ Below w.heap.size w w' := by
  have hlt := hT.lt
  obtain ⟨A, cap, hb, ho, hbase, hne⟩ := hT
  obtain ⟨hc0, hc1, hc2, hf⟩ := three_cells hb
  obtain ⟨n, hn⟩ : ∃ n, l.length = n := ⟨_, rfl⟩
  rw [hn] at hc0 ho hnm
  obtain ⟨i0, hi, hz0, hz1, hz2⟩ := info_parts (show (Try.prog.info? 2).map (fun i => (i.zero, i.size, i.bytes)) = some (some (.int .i64 0), 1, 8) by kernel_rfl)
  have HO := Aside0.mk ho
  have HN := Aside0.mk hn
  have HTY := Aside0.mk hty
  rw [hn]
  clear ho hn hty hb hne hc1 hc2 hf
  go_enter Try.func21, Try.ntmps21
  go_wp2
  go_loopw [13, 3] (fun i v wr => ∃ (k : Nat) (vv : Value), k ≤ n ∧ i = .int .i64 k ∧ vv = v ∧ wr.ownsRow w.heap.size 2 1 vv k (handL (l.take k)) ∧ Below w.heap.size w wr) (fun i _ _ => n - (intOf i).toNat)
  case atStart => exact ⟨0, _, Nat.zero_le _, rfl, rfl, own_nil _ _ _ _, Below.refl _ _⟩
  case round =>
    obtain ⟨k, vv, hk, rfl, rfl, hV, hB⟩ := hrel
    have HV := Aside0.mk hV
    have HB := Aside0.mk hB
    clear hV hB
    by_cases hlt : k < n
    · have hor := own_below HO.out HB.out
      obtain ⟨g, hg⟩ := own_some hor (by omega)
      subst hg
      obtain ⟨p, hp⟩ : ∃ p, l[k]? = some p := ⟨_, List.getElem?_eq_getElem (by rw [HN.out]; exact hlt)⟩
      obtain ⟨q0, q1⟩ := own_two hor k p hp
      obtain ⟨x, hx⟩ := HTY.out p (List.mem_of_getElem? hp)
      rw [hx] at q1
      have HS := Aside0.mk (handL_snoc l k p hp)
      obtain ⟨h2, hh2⟩ : ∃ h2, p.1 = h2 := ⟨_, rfl⟩
      rw [hh2] at q0 HS
      have hE := Aside0.mk (show (handL (l.take k)).length = k by rw [handL_len, List.length_take]; have := HN.out; omega)
      clear hp hh2 hx hor
      obtain ⟨wz, hwz⟩ : ∃ wz, (wr.alloc (.cells #[.int .i64 h2, .int .i64 x] 72)).alloc (.cells #[.int .i64 h2] 2) = wz := ⟨_, rfl⟩
      have BZ := Aside0.mk (show Below wr.heap.size wr wz by rw [← hwz]; exact below_alloc (below_alloc (Below.refl _ _) _) _)
      have HVZ := Aside0.mk (own_below HV.out BZ.out)
      have hbz := Aside0.mk (show w.heap.size ≤ wz.heap.size from Nat.le_trans HB.out.size BZ.out.size)
      have HCZ := Aside0.mk (show ∀ j u, [Value.int .i64 h2][j]? = some u → wz.cell? ((⟨wr.heap.size + 1, 0, none⟩ : Addr).add j) = some u from by
        intro j u hj
        rw [← hwz]
        rcases j with _ | j
        · have := one_cell (wr.alloc (.cells #[.int .i64 h2, .int .i64 x] 72)) (.int .i64 h2) 2 0 u hj
          simpa using this
        · simp at hj)
      go_wp2_with (at_builtin; refine wpList_append_own _ rfl _ _ 48 rfl w.heap.size 2 i0 (.int .i64 0) 1 8 Try.underlying48 hi hz0 hz1 hz2 rfl (by decide) vv k (handL (l.take k)) rfl HVZ.out ⟨wr.heap.size + 1, 0, none⟩ 1 1 [.int .i64 h2] rfl rfl HCZ.out (by simp [Value.oneCell']) (by simp only [maxLen]; omega) (by omega) hbz.out ?_)
      intro v4 w4 hown4 hgrow4 hnil4
      have HB4 := Aside0.mk (show Below w.heap.size w w4 from (HB.out.trans (BZ.out.mono HB.out.size)).grown hgrow4 hbz.out (fun j hj => (HVZ.out.lt j hj).1))
      have HO4 := Aside0.mk hown4
      clear hown4 hgrow4 hnil4
      go_wp2
      refine ⟨⟨k + 1, _, hlt, by go_num, rfl, ?_, HB4.out⟩, by simp [intOf]; omega⟩
      rw [HS.out]
      exact HO4.out
    · obtain rfl : k = n := by omega
      go_wp2
      go_ret
      refine ⟨_, rfl, ?_, HB.out⟩
      have := HV.out
      rw [List.take_of_length_le (by rw [HN.out]; exact Nat.le_refl _)] at this
      exact this
end Go.Proofs.Ytbpdbgpnlcbdiaa.Tab
