/- Chapter 22: a table: the contracts of slices.Delete and Del. -/
import Derived.Test.YtbpdbgpnlcbdiaaTabB
import Derived.Lib.SliceRun
namespace Go.Proofs.Ytbpdbgpnlcbdiaa.Tab
open Go.RowKit Go.Proofs.YtbpdbgpnlcbdiaaW.PrintWords Go.Proofs.YtbpdbgpnlcbdiaaW.PrintLast Go.Proofs.YtbpdbgpnlcbdiaaW.PrintMore
set_option linter.unusedVariables false
set_option linter.unusedSimpArgs false
theorem step_append_row {P : Program} {ops : Array Oper} {o : Oper} {a : Act} {w : World} {K : Act → World → Prop} {Q : Exit → Act → World → Prop} {E : Prop}
    (hg : o.guard = none) (s x : Operand) (t : TypeId) (hop : o.op = Op.call { callee := Callee.builtin Builtin.append, args := #[s, x], argTypes := #[t, t] })
    (e : TypeId) (i : TypeInfo) (size : Nat) (h1 : P.underlying t = some (.slice e)) (h2 : P.info? e = some i) (h4 : i.size = size)
    (g sLen sCap : Nat) (cur : Array Value) (hgb : w.heap[g]? = some (.cells cur e (0, 0))) (hs : a.eval s = .slice (some ⟨g, 0, none⟩) sLen sCap)
    (ad : Addr) (m c k : Nat) (news : List Value) (hx : a.eval x = .slice (some ad) m c) (hl : news.length = m * size) (hnews : ∀ j u, news[j]? = some u → w.cell? (ad.add j) = some u) (h1c : ∀ u ∈ news, u.oneCell' = true)
    (hroom : sLen + m ≤ sCap) (hfit : sLen * size + news.length ≤ cur.size) (hk : sLen + m = k)
    (hK : K (a.put o.dst (.slice (some ⟨g, 0, none⟩) k sCap)) (w.setRow g (cur.toList.take (sLen * size) ++ news ++ cur.toList.drop (sLen * size + news.length)).toArray)) :
    if Region.wanted o (yielded ops a.tmps) = true then Oper.wp P o a w K Q else E := by
  have hw : Region.wanted o (yielded ops a.tmps) = true := by simp [Region.wanted, hg]
  rw [if_pos hw]
  subst h4
  subst hk
  have hrun := run_append_room (P := P) w t o.type e i h1 h2 g sLen sCap cur hgb ad m c news hl hnews h1c hroom hfit
  unfold Oper.wp
  rw [List.append_assoc] at hK
  simp [execOp, hop, resolve, invoke, builtin, hs, hx, hrun, Result.andThen]
  exact hK
theorem run_clear_two {P : Program} (w : World) (t e ty : TypeId) (z1 z2 : Value) (ht : P.underlying t = some (.slice e)) (hv : ∀ w, (zeroValue e).run P w = .ok (.agg #[z1, z2]) w) (h1 : z1.oneCell' = true) (h2 : z2.oneCell' = true)
    (g off c : Nat) (cur : Array Value) (hgb : w.heap[g]? = some (.cells cur e (0, 0))) (hfit : off + 2 ≤ cur.size) :
    (Builtin.clear_ #[t] ty #[.slice (some ⟨g, off, none⟩) 1 c]).run P w = .ok (.tuple #[]) (w.setRow g (cur.toList.take off ++ [z1, z2] ++ cur.toList.drop (off + 2)).toArray) := by
  have hst := run_storeCells_at P g off e [z1, z2] 0 cur w hgb (by simpa using hfit) (by intro u hu; simp at hu; rcases hu with rfl | rfl <;> assumption)
  simp only [Nat.add_zero] at hst
  have hz : (Builtin.zeroCells (Value.agg #[z1, z2]).cells 1).toList = [z1, z2] := by
    simp [Builtin.zeroCells, Value.cells, List.range_succ]
  simp [Builtin.clear_, run_underlying ht, hv, hz, hst]
theorem flat_split (l : List (Int × Value)) (i : Nat) : flat l = flat (l.take i) ++ flat (l.drop i) := by
  unfold flat
  rw [← List.flatMap_append, List.take_append_drop]
theorem flat_take (l : List (Int × Value)) (i : Nat) (hi : i ≤ l.length) : (flat l).take (i * 2) = flat (l.take i) := by
  rw [flat_split l i, List.take_append_of_le_length (by rw [flat_len, List.length_take]; omega), List.take_of_length_le (by rw [flat_len, List.length_take]; omega)]
theorem flat_drop (l : List (Int × Value)) (i : Nat) (hi : i ≤ l.length) : (flat l).drop (i * 2) = flat (l.drop i) := by
  have h : (flat (l.take i)).length = i * 2 := by rw [flat_len, List.length_take]; omega
  rw [flat_split l i, List.drop_append, h, List.drop_of_length_le (by omega)]
  simp
theorem flat_erase (l : List (Int × Value)) (i : Nat) (hi : i < l.length) : flat (l.eraseIdx i) = (flat l).take (i * 2) ++ (flat l).drop ((i + 1) * 2) := by
  rw [flat_take l i (by omega), flat_drop l (i + 1) (by omega), List.eraseIdx_eq_take_drop_succ]
  unfold flat
  rw [List.flatMap_append]
theorem one_flat (l : List (Int × Value)) (h : ∀ p ∈ l, p.2.oneCell' = true) : ∀ u ∈ flat l, u.oneCell' = true := by
  intro u hu
  unfold flat at hu
  obtain ⟨p, hp, hu⟩ := List.mem_flatMap.1 hu
  simp at hu
  rcases hu with rfl | rfl
  · rfl
  · exact h p hp
theorem own_tail {w : World} {base g cap n q : Nat} {e : TypeId} {size : Nat} {xs : List Value} (h : w.ownsRow base e size (.slice (some ⟨g, 0, none⟩) n cap) n xs) : ∀ j u, (xs.drop q)[j]? = some u → w.drew.cell? ((⟨g, q, none⟩ : Addr).add j) = some u := by
  intro j u hu
  rw [List.getElem?_drop] at hu
  have c := h.cells (g := g) rfl (q + j) u hu
  have ha : ∀ p r, (⟨g, p, none⟩ : Addr).add r = ⟨g, p + r, none⟩ := by intro p r; unfold Addr.add; split <;> simp_all
  rw [ha, Nat.zero_add] at c
  rw [ha]
  exact c
/-- What Delete leaves: the row's block, shifted; all else as it was. -/
def Shift (E base g m cap : Nat) (l : List (Int × Value)) (w w' : World) : Prop := w'.ownsRow base E 2 (.slice (some ⟨g, 0, none⟩) m cap) m (flat l) ∧ w.grownBy w' (some g)
theorem shift_done {E base g m cap i : Nat} {cur : Array Value} {l : List (Int × Value)} {w : World} {z1 z2 : Value} (hb : base ≤ g) (hcap : cap ≤ maxLen) (hm : m + 1 ≤ cap) (hc : cur.size = cap * 2) (hl : l.length = m + 1) (ht : cur.toList.take ((m + 1) * 2) = flat l) (hi : i ≤ m)
    (hg : w.heap[g]? = some (.cells cur E (0, 0))) :
    Shift E base g m cap (l.eraseIdx i) w ((w.drew.setRow g (cur.toList.take (i * 2) ++ (flat l).drop ((i + 1) * 2) ++ cur.toList.drop (i * 2 + ((flat l).drop ((i + 1) * 2)).length)).toArray).setRow g
      (((cur.toList.take (i * 2) ++ (flat l).drop ((i + 1) * 2) ++ cur.toList.drop (i * 2 + ((flat l).drop ((i + 1) * 2)).length)).take (m * 2) ++ [z1, z2] ++ (cur.toList.take (i * 2) ++ (flat l).drop ((i + 1) * 2) ++ cur.toList.drop (i * 2 + ((flat l).drop ((i + 1) * 2)).length)).drop (m * 2 + 2))).toArray) := by
  have hcl : cur.toList.length = cap * 2 := by rw [Array.length_toList, hc]
  have hfl : (flat l).length = (m + 1) * 2 := by rw [flat_len, hl]
  have hnl : ((flat l).drop ((i + 1) * 2)).length = (m - i) * 2 := by rw [List.length_drop, hfl]; omega
  have hel : (l.eraseIdx i).length = m := by rw [List.length_eraseIdx, hl, if_pos (by omega)]; omega
  have hpre : cur.toList.take (i * 2) = (flat l).take (i * 2) := by rw [← ht, List.take_take, Nat.min_eq_left (by omega)]
  have h0 : w.drew.heap[g]? = some (.cells cur E (0, 0)) := hg
  have hA : (cur.toList.take (i * 2) ++ (flat l).drop ((i + 1) * 2) ++ cur.toList.drop (i * 2 + ((flat l).drop ((i + 1) * 2)).length)).take (m * 2) = flat (l.eraseIdx i) := by
    have hlen : (cur.toList.take (i * 2) ++ (flat l).drop ((i + 1) * 2)).length = m * 2 := by
      rw [List.length_append, hnl, List.length_take, hcl]; omega
    rw [List.take_append_of_le_length (by omega), List.take_of_length_le (by omega), flat_erase l i (by omega), hpre]
  rw [hA]
  have h1 := setRow_heap w.drew g cur (cur.toList.take (i * 2) ++ (flat l).drop ((i + 1) * 2) ++ cur.toList.drop (i * 2 + ((flat l).drop ((i + 1) * 2)).length)).toArray E (0, 0) h0
  have h2 := setRow_heap _ g _ (flat (l.eraseIdx i) ++ [z1, z2] ++ (cur.toList.take (i * 2) ++ (flat l).drop ((i + 1) * 2) ++ cur.toList.drop (i * 2 + ((flat l).drop ((i + 1) * 2)).length)).drop (m * 2 + 2)).toArray E (0, 0) h1
  have hfe : (flat (l.eraseIdx i)).length = m * 2 := by rw [flat_len, hel]
  refine ⟨⟨hfe, Or.inr ⟨g, cap, _, rfl, hb, h2, by omega, hcap, ?_, ?_⟩⟩, ⟨rfl, rfl, rfl, by rw [size_setRow, size_setRow]; exact Nat.le_refl _, fun k hk hne => ?_⟩⟩
  · simp only [List.size_toArray, List.length_append, List.length_drop, List.length_take, List.length_cons, List.length_nil]
    rw [hfe, hcl, hfl]
    omega
  · rw [List.append_assoc, List.take_append_of_le_length (by omega), List.take_of_length_le (by omega)]
  · have hkg : k ≠ g := fun he => hne (by rw [he])
    rw [setRow_other _ _ _ _ hkg, setRow_other _ _ _ _ hkg]
    rfl
theorem all1_int (l : List (Int × Value)) (h : All_int l) : ∀ p ∈ l, p.2.oneCell' = true := by
  intro p hp
  have := h p hp
  obtain ⟨x, hx⟩ := this; rw [hx]; rfl
theorem zv_int (w : World) : (zeroValue 72).run Try.prog w = .ok (.agg #[.int .i64 0, .int .i64 0]) w := by
  obtain ⟨i0, hi, hz0, hz1, hz2⟩ := info_parts (show (Try.prog.info? 72).map (fun i => (i.zero, i.size, i.bytes)) = some (some (.agg #[.int .i64 0, .int .i64 0]), 2, 16) by kernel_rfl)
  simp [zeroValue, typeInfo, hi, hz0]
set_option maxHeartbeats 1000000 in
set_option maxRecDepth 100000 in
theorem delete_lt_int {base g m cap i : Nat} {l : List (Int × Value)} (w : World) (ho : w.ownsRow base 72 2 (.slice (some ⟨g, 0, none⟩) (m + 1) cap) (m + 1) (flat l)) (hl : l.length = m + 1) (hi : i ≤ m) (hlt : i + 1 < cap) (hm : m ≤ 1000000) (hty : All_int l) :
    Calls Try.prog 30 #[.slice (some ⟨g, 0, none⟩) (m + 1) cap, .int .i64 (i : Int), .int .i64 ((i : Int) + 1)] w fun e w' => e = .returned (.slice (some ⟨g, 0, none⟩) m cap) ∧ Shift 72 base g m cap (l.eraseIdx i) w w' := by
  obtain ⟨i0, hi0, hz0, hz1, hz2⟩ := info_parts (show (Try.prog.info? 72).map (fun i => (i.zero, i.size, i.bytes)) = some (some (.agg #[.int .i64 0, .int .i64 0]), 2, 16) by kernel_rfl)
  obtain ⟨hb, hcap, hmc, cur, hcs, hct, hgb⟩ : base ≤ g ∧ cap ≤ maxLen ∧ m + 1 ≤ cap ∧ ∃ cur : Array Value, cur.size = cap * 2 ∧ cur.toList.take ((m + 1) * 2) = flat l ∧ w.heap[g]? = some (.cells cur 72 (0, 0)) := by
    rcases ho.2 with ⟨h1, _⟩ | ⟨g', cap', cur, h1, h2, h3, h4, h5, h6, h7⟩
    · cases h1
    · cases h1
      exact ⟨h2, h5, h4, cur, h6, h7, h3⟩
  have hone := one_flat l (all1_int l hty)
  have hfl : (flat l).length = (m + 1) * 2 := by rw [flat_len, hl]
  have hnews : ((flat l).drop ((i + 1) * 2)).length = (m - i) * 2 := by rw [List.length_drop, hfl]; omega
  have HN1 := Aside0.mk hnews
  have HOC := Aside0.mk (fun (u : Value) (hu : u ∈ (flat l).drop ((i + 1) * 2)) => hone u (List.mem_of_mem_drop hu))
  have HCS := Aside0.mk hcs
  have HGB := Aside0.mk (show w.drew.heap[g]? = some (.cells cur 72 (0, 0)) from hgb)
  have HCC := Aside0.mk (own_tail (q := (i + 1) * 2) ho)
  have HSD := Aside0.mk (shift_done (z1 := .int .i64 0) (z2 := .int .i64 0) hb hcap hmc hcs hl hct hi hgb)
  obtain ⟨R1, hR1⟩ : ∃ R1, (cur.toList.take (i * 2) ++ (flat l).drop ((i + 1) * 2) ++ cur.toList.drop (i * 2 + ((flat l).drop ((i + 1) * 2)).length)) = R1 := ⟨_, rfl⟩
  have HR1 := Aside0.mk hR1
  have hR1s : R1.length = cap * 2 := by
    rw [← hR1]
    simp only [List.length_append, List.length_take, List.length_drop, Array.length_toList, hcs, hfl]
    omega
  have HR1s := Aside0.mk hR1s
  rw [hR1] at HSD
  have hcap' : cap ≤ 9223372036854775807 := hcap
  clear hR1 hR1s hb hcap hcs hct hgb hone hfl hnews ho hl hty
  have f1 : i ≤ cap := by omega
  have f2 : ¬ cap = i + 1 := by omega
  have f3 : (i : Int) ≤ (m : Int) := by omega
  have f4 : (i : Int) + 1 ≤ (m : Int) + 1 := by omega
  have f5 : (0 : Int) ≤ (i : Int) + 1 := by omega
  have f6 : (i : Int) ≤ (i : Int) + 1 := by omega
  go_enter Try.func30, Try.ntmps30
  go_wp2
  go_region_law (refine step_append_row rfl (.tmp 22) (.tmp 25) 68 rfl 72 i0 2 Try.underlying68 hi0 hz1 g i cap cur HGB.out (by simp [Act.eval, Act.put]) ⟨g, (i + 1) * 2, none⟩ (m - i) (cap - (i + 1)) m ((flat l).drop ((i + 1) * 2)) (by simp [Act.eval, Act.put]) HN1.out HCC.out HOC.out (by omega) (by rw [HN1.out, HCS.out]; omega) (by omega) ?_; rw [HR1.out])
  obtain ⟨W1, hW1⟩ : ∃ W1, w.drew.setRow g R1.toArray = W1 := ⟨_, rfl⟩
  have hb1 := setRow_heap w.drew g cur R1.toArray 72 (0, 0) HGB.out
  rw [hW1] at hb1 ⊢
  have hclear : ∀ ty c, (Builtin.clear_ #[68] ty #[.slice (some ⟨g, m * 2, none⟩) 1 c]).run Try.prog W1 = .ok (.tuple #[]) (W1.setRow g (R1.take (m * 2) ++ ([.int .i64 0, .int .i64 0] : List Value) ++ R1.drop (m * 2 + 2)).toArray) := by
    intro ty c
    exact run_clear_two W1 68 72 ty (.int .i64 0) (.int .i64 0) Try.underlying68 zv_int rfl rfl g (m * 2) c R1.toArray hb1 (by rw [List.size_toArray, HR1s.out]; omega)
  have HSD2 := Aside0.mk HSD.out
  rw [hW1] at HSD2
  obtain ⟨W2, hW2⟩ : ∃ W2, W1.setRow g (R1.take (m * 2) ++ ([.int .i64 0, .int .i64 0] : List Value) ++ R1.drop (m * 2 + 2)).toArray = W2 := ⟨_, rfl⟩
  rw [hW2] at HSD2
  rw [hW2] at hclear
  clear hW1 hb1 hW2 HSD
  have f7 : (m : Int) ≤ (m : Int) + 1 := by omega
  have f8 : (m : Int) + 1 ≤ ((cap : Nat) : Int) := by omega
  have f9 : ¬ cap = m := by omega
  have f10 : m ≤ cap := by omega
  have f11 : m + 1 ≤ cap := by omega
  go_wp2
  go_ret
  exact ⟨rfl, HSD2.out⟩
set_option maxHeartbeats 1000000 in
set_option maxRecDepth 100000 in
theorem delete_eq_int {base g i : Nat} {l : List (Int × Value)} (w : World) (ho : w.ownsRow base 72 2 (.slice (some ⟨g, 0, none⟩) (i + 1) (i + 1)) (i + 1) (flat l)) (hl : l.length = i + 1) (hm : i ≤ 1000000) (hty : All_int l) :
    Calls Try.prog 30 #[.slice (some ⟨g, 0, none⟩) (i + 1) (i + 1), .int .i64 (i : Int), .int .i64 ((i : Int) + 1)] w fun e w' => e = .returned (.slice (some ⟨g, 0, none⟩) i (i + 1)) ∧ Shift 72 base g i (i + 1) (l.eraseIdx i) w w' := by
  obtain ⟨i0, hi0, hz0, hz1, hz2⟩ := info_parts (show (Try.prog.info? 72).map (fun i => (i.zero, i.size, i.bytes)) = some (some (.agg #[.int .i64 0, .int .i64 0]), 2, 16) by kernel_rfl)
  obtain ⟨hb, hcap, hmc, cur, hcs, hct, hgb⟩ : base ≤ g ∧ (i + 1) ≤ maxLen ∧ i + 1 ≤ (i + 1) ∧ ∃ cur : Array Value, cur.size = (i + 1) * 2 ∧ cur.toList.take ((i + 1) * 2) = flat l ∧ w.heap[g]? = some (.cells cur 72 (0, 0)) := by
    rcases ho.2 with ⟨h1, _⟩ | ⟨g', cap', cur, h1, h2, h3, h4, h5, h6, h7⟩
    · cases h1
    · cases h1
      exact ⟨h2, h5, h4, cur, h6, h7, h3⟩
  have hone := one_flat l (all1_int l hty)
  have hfl : (flat l).length = (i + 1) * 2 := by rw [flat_len, hl]
  have hnews : ((flat l).drop ((i + 1) * 2)).length = (i - i) * 2 := by rw [List.length_drop, hfl]; omega
  have HN1 := Aside0.mk hnews
  have HOC := Aside0.mk (fun (u : Value) (hu : u ∈ (flat l).drop ((i + 1) * 2)) => hone u (List.mem_of_mem_drop hu))
  have HCS := Aside0.mk hcs
  have HGB := Aside0.mk (show w.drew.heap[g]? = some (.cells cur 72 (0, 0)) from hgb)
  have HCC := Aside0.mk (show ∀ j u, ((flat l).drop ((i + 1) * 2))[j]? = some u → w.drew.cell? ((⟨g, 0, none⟩ : Addr).add j) = some u from fun j u hu => by
    have := (List.getElem?_eq_some_iff.1 hu).1
    rw [hnews] at this
    omega)
  have HSD := Aside0.mk (shift_done (z1 := .int .i64 0) (z2 := .int .i64 0) hb hcap hmc hcs hl hct (Nat.le_refl i) hgb)
  obtain ⟨R1, hR1⟩ : ∃ R1, (cur.toList.take (i * 2) ++ (flat l).drop ((i + 1) * 2) ++ cur.toList.drop (i * 2 + ((flat l).drop ((i + 1) * 2)).length)) = R1 := ⟨_, rfl⟩
  have HR1 := Aside0.mk hR1
  have hR1s : R1.length = (i + 1) * 2 := by
    rw [← hR1]
    simp only [List.length_append, List.length_take, List.length_drop, Array.length_toList, hcs, hfl]
    omega
  have HR1s := Aside0.mk hR1s
  rw [hR1] at HSD
  have hcap' : (i + 1) ≤ 9223372036854775807 := hcap
  clear hR1 hR1s hb hcap hcs hct hgb hone hfl hnews ho hl hty
  have f1 : i ≤ (i + 1) := by omega
  have f4 : (i : Int) + 1 ≤ (i : Int) + 1 := by omega
  have f5 : (0 : Int) ≤ (i : Int) + 1 := by omega
  have f6 : (i : Int) ≤ (i : Int) + 1 := by omega
  go_enter Try.func30, Try.ntmps30
  go_wp2
  go_region_law (refine step_append_row rfl (.tmp 22) (.tmp 25) 68 rfl 72 i0 2 Try.underlying68 hi0 hz1 g i (i + 1) cur HGB.out (by simp [Act.eval, Act.put]) ⟨g, 0, none⟩ 0 0 i ((flat l).drop ((i + 1) * 2)) (by simp [Act.eval, Act.put]) (by rw [HN1.out]; omega) HCC.out HOC.out (by omega) (by rw [HN1.out, HCS.out]; omega) (by omega) ?_; rw [HR1.out])
  obtain ⟨W1, hW1⟩ : ∃ W1, w.drew.setRow g R1.toArray = W1 := ⟨_, rfl⟩
  have hb1 := setRow_heap w.drew g cur R1.toArray 72 (0, 0) HGB.out
  rw [hW1] at hb1 ⊢
  have hclear : ∀ ty c, (Builtin.clear_ #[68] ty #[.slice (some ⟨g, i * 2, none⟩) 1 c]).run Try.prog W1 = .ok (.tuple #[]) (W1.setRow g (R1.take (i * 2) ++ ([.int .i64 0, .int .i64 0] : List Value) ++ R1.drop (i * 2 + 2)).toArray) := by
    intro ty c
    exact run_clear_two W1 68 72 ty (.int .i64 0) (.int .i64 0) Try.underlying68 zv_int rfl rfl g (i * 2) c R1.toArray hb1 (by rw [List.size_toArray, HR1s.out]; omega)
  have HSD2 := Aside0.mk HSD.out
  rw [hW1] at HSD2
  obtain ⟨W2, hW2⟩ : ∃ W2, W1.setRow g (R1.take (i * 2) ++ ([.int .i64 0, .int .i64 0] : List Value) ++ R1.drop (i * 2 + 2)).toArray = W2 := ⟨_, rfl⟩
  rw [hW2] at HSD2
  rw [hW2] at hclear
  clear hW1 hb1 hW2 HSD
  have f7 : (i : Int) ≤ (i : Int) + 1 := by omega
  have f8 : (i : Int) + 1 ≤ (((i + 1) : Nat) : Int) := by omega
  have f9 : ¬ (i + 1) = i := by omega
  have f10 : i ≤ (i + 1) := by omega
  have f11 : i + 1 ≤ (i + 1) := by omega
  go_wp2
  go_ret
  exact ⟨rfl, HSD2.out⟩
theorem delete_int {base g n cap i : Nat} {l : List (Int × Value)} (w : World) (ho : w.ownsRow base 72 2 (.slice (some ⟨g, 0, none⟩) n cap) n (flat l)) (hl : l.length = n) (hi : i < n) (hm : n ≤ 1000000) (hty : All_int l) :
    Calls Try.prog 30 #[.slice (some ⟨g, 0, none⟩) n cap, .int .i64 (i : Int), .int .i64 ((i : Int) + 1)] w fun e w' => e = .returned (.slice (some ⟨g, 0, none⟩) (n - 1) cap) ∧ Shift 72 base g (n - 1) cap (l.eraseIdx i) w w' := by
  have hnc : n ≤ cap := by
    rcases ho.2 with ⟨h1, _⟩ | ⟨g', cap', cur, h1, h2, h3, h4, h5, h6, h7⟩
    · cases h1
    · cases h1; exact h4
  obtain ⟨m, rfl⟩ : ∃ m, n = m + 1 := ⟨n - 1, by omega⟩
  by_cases hc : i + 1 < cap
  · exact delete_lt_int w ho hl (by omega) hc (by omega) hty
  · obtain rfl : cap = i + 1 := by omega
    obtain rfl : m = i := by omega
    exact delete_eq_int w ho hl (by omega) hty
theorem del_none_int {base B room last : Nat} {l : List (Int × Value)} (h : Int) (w : World) (hT : TabAt 70 72 base B room last l w) (hty : All_int l) (hnm : l.length ≤ 1000000) (hpos : posI l h = -1) :
    Calls Try.prog 22 #[.pointer (some ⟨B, 0, none⟩), .int .i64 h] w fun e w' => e = .returned (.tuple #[.int .i64 0, .bool false]) ∧ Below w.heap.size w w' := by
  have HF := Aside0.mk (get_none_int h w hT hty hnm hpos)
  clear hT hpos
  go_enter Try.func22, Try.ntmps22
  go_wp2_with (go_at_call 23; refine HF.out.mono ?_; rintro e w1 ⟨rfl, h1⟩)
  go_ret2
  exact ⟨rfl, h1⟩
set_option maxHeartbeats 1000000 in
theorem delK_int {base B room last : Nat} {l : List (Int × Value)} (h : Int) (x : Int) (w : World) (hT : TabAt 70 72 base B room last l w) (hty : All_int l) (hnm : l.length ≤ 1000000) (k : Nat) (hp : l[k]? = some (h, .int .i64 x)) (hpos : posI l h = (k : Int)) :
    Calls Try.prog 22 #[.pointer (some ⟨B, 0, none⟩), .int .i64 h] w fun e w' => e = .returned (.tuple #[.int .i64 x, .bool true]) ∧ TabAt 70 72 base B room last (l.eraseIdx k) w' ∧ Below base w w' ∧ Keeps 70 72 w w' := by
  have HG := Aside0.mk (get_int h x w hT hty hnm k hp hpos)
  have HF := Aside0.mk (fun w hT => find_int (base := base) (B := B) (room := room) (last := last) h w hT hty hnm)
  rw [hpos] at HF
  have HTY := Aside0.mk hty
  have HT := Aside0.mk hT
  have hkl : k < l.length := (List.getElem?_eq_some_iff.1 hp).1
  have hbw : base ≤ w.heap.size := by obtain ⟨A, cap, hb, ho, hbase, hne⟩ := hT; exact Nat.le_trans hbase (Nat.le_of_lt (Array.getElem?_eq_some_iff.1 hb).1)
  have HBW := Aside0.mk hbw
  obtain ⟨n, hn⟩ : ∃ n, l.length = n := ⟨_, rfl⟩
  rw [hn] at hkl hnm
  have HN := Aside0.mk hn
  have hw : IntKind.i64.wrap ((k : Int) + 1) = (k : Int) + 1 := IntWalk.i64_in _ (by omega)
  clear hT hpos hp hty hn hbw
  go_enter Try.func22, Try.ntmps22
  go_wp2_with (first
    | (go_at_call 23
       refine HG.out.mono ?_
       rintro e w1 ⟨rfl, h1⟩
       have T1 := Aside0.mk (HT.out.kept h1)
       have H1 := Aside0.mk h1
       clear h1)
    | (go_at_call 29
       refine (HF.out _ T1.out).mono ?_
       rintro e w2 ⟨rfl, h2⟩
       have T2 := Aside0.mk (T1.out.kept h2)
       have H2 := Aside0.mk h2
       clear h2
       obtain ⟨A, cap, hb, ho, hbase, hne⟩ := T2.out
       obtain ⟨hc0, hc1, hc2, hf⟩ := three_cells hb
       obtain ⟨g, hg⟩ := own_some ho (by rw [HN.out]; omega)
       subst hg
       have hf0 := hf 0
       rw [HN.out] at hc0 hb ho hne
       have HB := Aside0.mk hb
       have HO := Aside0.mk ho
       have HNE := Aside0.mk hne
       have HBS := Aside0.mk hbase
       clear hb ho hbase hne hc1 hc2 hf)
    | (go_at_call 30
       refine (delete_int (i := k) _ HO.out HN.out hkl hnm HTY.out).mono ?_
       rintro e w3 ⟨rfl, h3⟩
       have hgb : B ≠ g := fun he => HNE.out (by rw [he]; rfl)
       have hb3 := (h3.2.block B (Array.getElem?_eq_some_iff.1 HB.out).1 (fun he => hgb (Option.some.inj he))).trans HB.out
       obtain ⟨d0, d1, d2, df⟩ := three_cells hb3
       have df0 := df 0
       have HB3 := Aside0.mk hb3
       have H3 := Aside0.mk h3
       have HGB := Aside0.mk hgb
       clear hb3 h3 hgb df d1 d2 hc0 hf0))
  go_ret2
  have hel : (l.eraseIdx k).length = n - 1 := by rw [List.length_eraseIdx, HN.out, if_pos hkl]
  have hgg : base ≤ g := (HO.out.lt g rfl).1
  refine ⟨rfl, ⟨some ⟨g, 0, none⟩, cap, ?_, ?_, HBS.out, ?_⟩, ?_, ?_⟩
  · rw [hel]
    exact heap_set _ B 0 _ _ _ _ HB3.out
  · rw [hel]
    refine H3.out.1.kept (row := some B) ⟨rfl, rfl, rfl, ?_, fun k hk hne => heap_set_ne _ B k 0 _ (fun he => hne (by rw [he]))⟩ (Or.inr ?_)
    · simp [World.setCell]
    · intro he
      exact HGB.out (Option.some.inj he).symm
  · rw [hel]
    intro he
    exact HGB.out (Option.some.inj he).symm
  · have b2 := (H1.out.trans (H2.out.mono H1.out.size)).mono HBW.out
    have b3 : Below base _ _ := b2.grown H3.out.2 (Nat.le_trans HBW.out b2.size) (fun j hj => by
      have : g = j := Option.some.inj hj
      rw [← this]; exact hgg)
    exact b3.setCell HBS.out _
  · intro k cs t fr hk ht he
    have k2 := (Keeps.of (T := 70) (E := 72) (H1.out.trans (H2.out.mono H1.out.size))) k cs t fr hk ht he
    have kB : k ≠ B := by
      rintro rfl
      have := k2.symm.trans HB.out
      injection this with this
      injection this with _ h2
      exact ht h2
    have k3 := (H3.out.2.block k (Array.getElem?_eq_some_iff.1 k2).1 (fun hq => own_ne HO.out k2 he (by rw [hq]; rfl))).trans k2
    exact (heap_set_ne _ B k 0 _ kB).trans k3
theorem del_int {base B room last : Nat} {l : List (Int × Value)} (h : Int) (x : Int) (w : World) (hT : TabAt 70 72 base B room last l w) (hty : All_int l) (hnm : l.length ≤ 1000000) (k : Nat) (hp : l[k]? = some (h, .int .i64 x)) (hpos : posI l h = (k : Int)) :
    Calls Try.prog 22 #[.pointer (some ⟨B, 0, none⟩), .int .i64 h] w fun e w' => e = .returned (.tuple #[.int .i64 x, .bool true]) ∧ TabAt 70 72 base B room last (l.eraseIdx k) w' ∧ Below base w w' :=
  (delK_int h x w hT hty hnm k hp hpos).mono fun _ _ h => ⟨h.1, h.2.1, h.2.2.1⟩
theorem all1_str (l : List (Int × Value)) (h : All_str l) : ∀ p ∈ l, p.2.oneCell' = true := by
  intro p hp
  have := h p hp
  obtain ⟨x, hx⟩ := this; rw [hx]; rfl
theorem zv_str (w : World) : (zeroValue 59).run Try.prog w = .ok (.agg #[.int .i64 0, .string ⟨#[]⟩]) w := by
  obtain ⟨i0, hi, hz0, hz1, hz2⟩ := info_parts (show (Try.prog.info? 59).map (fun i => (i.zero, i.size, i.bytes)) = some (some (.agg #[.int .i64 0, .string ⟨#[]⟩]), 2, 24) by kernel_rfl)
  simp [zeroValue, typeInfo, hi, hz0]
set_option maxHeartbeats 1000000 in
set_option maxRecDepth 100000 in
theorem delete_lt_str {base g m cap i : Nat} {l : List (Int × Value)} (w : World) (ho : w.ownsRow base 59 2 (.slice (some ⟨g, 0, none⟩) (m + 1) cap) (m + 1) (flat l)) (hl : l.length = m + 1) (hi : i ≤ m) (hlt : i + 1 < cap) (hm : m ≤ 1000000) (hty : All_str l) :
    Calls Try.prog 26 #[.slice (some ⟨g, 0, none⟩) (m + 1) cap, .int .i64 (i : Int), .int .i64 ((i : Int) + 1)] w fun e w' => e = .returned (.slice (some ⟨g, 0, none⟩) m cap) ∧ Shift 59 base g m cap (l.eraseIdx i) w w' := by
  obtain ⟨i0, hi0, hz0, hz1, hz2⟩ := info_parts (show (Try.prog.info? 59).map (fun i => (i.zero, i.size, i.bytes)) = some (some (.agg #[.int .i64 0, .string ⟨#[]⟩]), 2, 24) by kernel_rfl)
  obtain ⟨hb, hcap, hmc, cur, hcs, hct, hgb⟩ : base ≤ g ∧ cap ≤ maxLen ∧ m + 1 ≤ cap ∧ ∃ cur : Array Value, cur.size = cap * 2 ∧ cur.toList.take ((m + 1) * 2) = flat l ∧ w.heap[g]? = some (.cells cur 59 (0, 0)) := by
    rcases ho.2 with ⟨h1, _⟩ | ⟨g', cap', cur, h1, h2, h3, h4, h5, h6, h7⟩
    · cases h1
    · cases h1
      exact ⟨h2, h5, h4, cur, h6, h7, h3⟩
  have hone := one_flat l (all1_str l hty)
  have hfl : (flat l).length = (m + 1) * 2 := by rw [flat_len, hl]
  have hnews : ((flat l).drop ((i + 1) * 2)).length = (m - i) * 2 := by rw [List.length_drop, hfl]; omega
  have HN1 := Aside0.mk hnews
  have HOC := Aside0.mk (fun (u : Value) (hu : u ∈ (flat l).drop ((i + 1) * 2)) => hone u (List.mem_of_mem_drop hu))
  have HCS := Aside0.mk hcs
  have HGB := Aside0.mk (show w.drew.heap[g]? = some (.cells cur 59 (0, 0)) from hgb)
  have HCC := Aside0.mk (own_tail (q := (i + 1) * 2) ho)
  have HSD := Aside0.mk (shift_done (z1 := .int .i64 0) (z2 := .string ⟨#[]⟩) hb hcap hmc hcs hl hct hi hgb)
  obtain ⟨R1, hR1⟩ : ∃ R1, (cur.toList.take (i * 2) ++ (flat l).drop ((i + 1) * 2) ++ cur.toList.drop (i * 2 + ((flat l).drop ((i + 1) * 2)).length)) = R1 := ⟨_, rfl⟩
  have HR1 := Aside0.mk hR1
  have hR1s : R1.length = cap * 2 := by
    rw [← hR1]
    simp only [List.length_append, List.length_take, List.length_drop, Array.length_toList, hcs, hfl]
    omega
  have HR1s := Aside0.mk hR1s
  rw [hR1] at HSD
  have hcap' : cap ≤ 9223372036854775807 := hcap
  clear hR1 hR1s hb hcap hcs hct hgb hone hfl hnews ho hl hty
  have f1 : i ≤ cap := by omega
  have f2 : ¬ cap = i + 1 := by omega
  have f3 : (i : Int) ≤ (m : Int) := by omega
  have f4 : (i : Int) + 1 ≤ (m : Int) + 1 := by omega
  have f5 : (0 : Int) ≤ (i : Int) + 1 := by omega
  have f6 : (i : Int) ≤ (i : Int) + 1 := by omega
  go_enter Try.func26, Try.ntmps26
  go_wp2
  go_region_law (refine step_append_row rfl (.tmp 22) (.tmp 25) 55 rfl 59 i0 2 Try.underlying55 hi0 hz1 g i cap cur HGB.out (by simp [Act.eval, Act.put]) ⟨g, (i + 1) * 2, none⟩ (m - i) (cap - (i + 1)) m ((flat l).drop ((i + 1) * 2)) (by simp [Act.eval, Act.put]) HN1.out HCC.out HOC.out (by omega) (by rw [HN1.out, HCS.out]; omega) (by omega) ?_; rw [HR1.out])
  obtain ⟨W1, hW1⟩ : ∃ W1, w.drew.setRow g R1.toArray = W1 := ⟨_, rfl⟩
  have hb1 := setRow_heap w.drew g cur R1.toArray 59 (0, 0) HGB.out
  rw [hW1] at hb1 ⊢
  have hclear : ∀ ty c, (Builtin.clear_ #[55] ty #[.slice (some ⟨g, m * 2, none⟩) 1 c]).run Try.prog W1 = .ok (.tuple #[]) (W1.setRow g (R1.take (m * 2) ++ ([.int .i64 0, .string ⟨#[]⟩] : List Value) ++ R1.drop (m * 2 + 2)).toArray) := by
    intro ty c
    exact run_clear_two W1 55 59 ty (.int .i64 0) (.string ⟨#[]⟩) Try.underlying55 zv_str rfl rfl g (m * 2) c R1.toArray hb1 (by rw [List.size_toArray, HR1s.out]; omega)
  have HSD2 := Aside0.mk HSD.out
  rw [hW1] at HSD2
  obtain ⟨W2, hW2⟩ : ∃ W2, W1.setRow g (R1.take (m * 2) ++ ([.int .i64 0, .string ⟨#[]⟩] : List Value) ++ R1.drop (m * 2 + 2)).toArray = W2 := ⟨_, rfl⟩
  rw [hW2] at HSD2
  rw [hW2] at hclear
  clear hW1 hb1 hW2 HSD
  have f7 : (m : Int) ≤ (m : Int) + 1 := by omega
  have f8 : (m : Int) + 1 ≤ ((cap : Nat) : Int) := by omega
  have f9 : ¬ cap = m := by omega
  have f10 : m ≤ cap := by omega
  have f11 : m + 1 ≤ cap := by omega
  go_wp2
  go_ret
  exact ⟨rfl, HSD2.out⟩
set_option maxHeartbeats 1000000 in
set_option maxRecDepth 100000 in
theorem delete_eq_str {base g i : Nat} {l : List (Int × Value)} (w : World) (ho : w.ownsRow base 59 2 (.slice (some ⟨g, 0, none⟩) (i + 1) (i + 1)) (i + 1) (flat l)) (hl : l.length = i + 1) (hm : i ≤ 1000000) (hty : All_str l) :
    Calls Try.prog 26 #[.slice (some ⟨g, 0, none⟩) (i + 1) (i + 1), .int .i64 (i : Int), .int .i64 ((i : Int) + 1)] w fun e w' => e = .returned (.slice (some ⟨g, 0, none⟩) i (i + 1)) ∧ Shift 59 base g i (i + 1) (l.eraseIdx i) w w' := by
  obtain ⟨i0, hi0, hz0, hz1, hz2⟩ := info_parts (show (Try.prog.info? 59).map (fun i => (i.zero, i.size, i.bytes)) = some (some (.agg #[.int .i64 0, .string ⟨#[]⟩]), 2, 24) by kernel_rfl)
  obtain ⟨hb, hcap, hmc, cur, hcs, hct, hgb⟩ : base ≤ g ∧ (i + 1) ≤ maxLen ∧ i + 1 ≤ (i + 1) ∧ ∃ cur : Array Value, cur.size = (i + 1) * 2 ∧ cur.toList.take ((i + 1) * 2) = flat l ∧ w.heap[g]? = some (.cells cur 59 (0, 0)) := by
    rcases ho.2 with ⟨h1, _⟩ | ⟨g', cap', cur, h1, h2, h3, h4, h5, h6, h7⟩
    · cases h1
    · cases h1
      exact ⟨h2, h5, h4, cur, h6, h7, h3⟩
  have hone := one_flat l (all1_str l hty)
  have hfl : (flat l).length = (i + 1) * 2 := by rw [flat_len, hl]
  have hnews : ((flat l).drop ((i + 1) * 2)).length = (i - i) * 2 := by rw [List.length_drop, hfl]; omega
  have HN1 := Aside0.mk hnews
  have HOC := Aside0.mk (fun (u : Value) (hu : u ∈ (flat l).drop ((i + 1) * 2)) => hone u (List.mem_of_mem_drop hu))
  have HCS := Aside0.mk hcs
  have HGB := Aside0.mk (show w.drew.heap[g]? = some (.cells cur 59 (0, 0)) from hgb)
  have HCC := Aside0.mk (show ∀ j u, ((flat l).drop ((i + 1) * 2))[j]? = some u → w.drew.cell? ((⟨g, 0, none⟩ : Addr).add j) = some u from fun j u hu => by
    have := (List.getElem?_eq_some_iff.1 hu).1
    rw [hnews] at this
    omega)
  have HSD := Aside0.mk (shift_done (z1 := .int .i64 0) (z2 := .string ⟨#[]⟩) hb hcap hmc hcs hl hct (Nat.le_refl i) hgb)
  obtain ⟨R1, hR1⟩ : ∃ R1, (cur.toList.take (i * 2) ++ (flat l).drop ((i + 1) * 2) ++ cur.toList.drop (i * 2 + ((flat l).drop ((i + 1) * 2)).length)) = R1 := ⟨_, rfl⟩
  have HR1 := Aside0.mk hR1
  have hR1s : R1.length = (i + 1) * 2 := by
    rw [← hR1]
    simp only [List.length_append, List.length_take, List.length_drop, Array.length_toList, hcs, hfl]
    omega
  have HR1s := Aside0.mk hR1s
  rw [hR1] at HSD
  have hcap' : (i + 1) ≤ 9223372036854775807 := hcap
  clear hR1 hR1s hb hcap hcs hct hgb hone hfl hnews ho hl hty
  have f1 : i ≤ (i + 1) := by omega
  have f4 : (i : Int) + 1 ≤ (i : Int) + 1 := by omega
  have f5 : (0 : Int) ≤ (i : Int) + 1 := by omega
  have f6 : (i : Int) ≤ (i : Int) + 1 := by omega
  go_enter Try.func26, Try.ntmps26
  go_wp2
  go_region_law (refine step_append_row rfl (.tmp 22) (.tmp 25) 55 rfl 59 i0 2 Try.underlying55 hi0 hz1 g i (i + 1) cur HGB.out (by simp [Act.eval, Act.put]) ⟨g, 0, none⟩ 0 0 i ((flat l).drop ((i + 1) * 2)) (by simp [Act.eval, Act.put]) (by rw [HN1.out]; omega) HCC.out HOC.out (by omega) (by rw [HN1.out, HCS.out]; omega) (by omega) ?_; rw [HR1.out])
  obtain ⟨W1, hW1⟩ : ∃ W1, w.drew.setRow g R1.toArray = W1 := ⟨_, rfl⟩
  have hb1 := setRow_heap w.drew g cur R1.toArray 59 (0, 0) HGB.out
  rw [hW1] at hb1 ⊢
  have hclear : ∀ ty c, (Builtin.clear_ #[55] ty #[.slice (some ⟨g, i * 2, none⟩) 1 c]).run Try.prog W1 = .ok (.tuple #[]) (W1.setRow g (R1.take (i * 2) ++ ([.int .i64 0, .string ⟨#[]⟩] : List Value) ++ R1.drop (i * 2 + 2)).toArray) := by
    intro ty c
    exact run_clear_two W1 55 59 ty (.int .i64 0) (.string ⟨#[]⟩) Try.underlying55 zv_str rfl rfl g (i * 2) c R1.toArray hb1 (by rw [List.size_toArray, HR1s.out]; omega)
  have HSD2 := Aside0.mk HSD.out
  rw [hW1] at HSD2
  obtain ⟨W2, hW2⟩ : ∃ W2, W1.setRow g (R1.take (i * 2) ++ ([.int .i64 0, .string ⟨#[]⟩] : List Value) ++ R1.drop (i * 2 + 2)).toArray = W2 := ⟨_, rfl⟩
  rw [hW2] at HSD2
  rw [hW2] at hclear
  clear hW1 hb1 hW2 HSD
  have f7 : (i : Int) ≤ (i : Int) + 1 := by omega
  have f8 : (i : Int) + 1 ≤ (((i + 1) : Nat) : Int) := by omega
  have f9 : ¬ (i + 1) = i := by omega
  have f10 : i ≤ (i + 1) := by omega
  have f11 : i + 1 ≤ (i + 1) := by omega
  go_wp2
  go_ret
  exact ⟨rfl, HSD2.out⟩
theorem delete_str {base g n cap i : Nat} {l : List (Int × Value)} (w : World) (ho : w.ownsRow base 59 2 (.slice (some ⟨g, 0, none⟩) n cap) n (flat l)) (hl : l.length = n) (hi : i < n) (hm : n ≤ 1000000) (hty : All_str l) :
    Calls Try.prog 26 #[.slice (some ⟨g, 0, none⟩) n cap, .int .i64 (i : Int), .int .i64 ((i : Int) + 1)] w fun e w' => e = .returned (.slice (some ⟨g, 0, none⟩) (n - 1) cap) ∧ Shift 59 base g (n - 1) cap (l.eraseIdx i) w w' := by
  have hnc : n ≤ cap := by
    rcases ho.2 with ⟨h1, _⟩ | ⟨g', cap', cur, h1, h2, h3, h4, h5, h6, h7⟩
    · cases h1
    · cases h1; exact h4
  obtain ⟨m, rfl⟩ : ∃ m, n = m + 1 := ⟨n - 1, by omega⟩
  by_cases hc : i + 1 < cap
  · exact delete_lt_str w ho hl (by omega) hc (by omega) hty
  · obtain rfl : cap = i + 1 := by omega
    obtain rfl : m = i := by omega
    exact delete_eq_str w ho hl (by omega) hty
theorem del_none_str {base B room last : Nat} {l : List (Int × Value)} (h : Int) (w : World) (hT : TabAt 57 59 base B room last l w) (hty : All_str l) (hnm : l.length ≤ 1000000) (hpos : posI l h = -1) :
    Calls Try.prog 10 #[.pointer (some ⟨B, 0, none⟩), .int .i64 h] w fun e w' => e = .returned (.tuple #[.string ⟨#[]⟩, .bool false]) ∧ Below w.heap.size w w' := by
  have HF := Aside0.mk (get_none_str h w hT hty hnm hpos)
  clear hT hpos
  go_enter Try.func10, Try.ntmps10
  go_wp2_with (go_at_call 11; refine HF.out.mono ?_; rintro e w1 ⟨rfl, h1⟩)
  go_ret2
  exact ⟨rfl, h1⟩
set_option maxHeartbeats 1000000 in
theorem delK_str {base B room last : Nat} {l : List (Int × Value)} (h : Int) (x : ByteArray) (w : World) (hT : TabAt 57 59 base B room last l w) (hty : All_str l) (hnm : l.length ≤ 1000000) (k : Nat) (hp : l[k]? = some (h, .string x)) (hpos : posI l h = (k : Int)) :
    Calls Try.prog 10 #[.pointer (some ⟨B, 0, none⟩), .int .i64 h] w fun e w' => e = .returned (.tuple #[.string x, .bool true]) ∧ TabAt 57 59 base B room last (l.eraseIdx k) w' ∧ Below base w w' ∧ Keeps 57 59 w w' := by
  have HG := Aside0.mk (get_str h x w hT hty hnm k hp hpos)
  have HF := Aside0.mk (fun w hT => find_str (base := base) (B := B) (room := room) (last := last) h w hT hty hnm)
  rw [hpos] at HF
  have HTY := Aside0.mk hty
  have HT := Aside0.mk hT
  have hkl : k < l.length := (List.getElem?_eq_some_iff.1 hp).1
  have hbw : base ≤ w.heap.size := by obtain ⟨A, cap, hb, ho, hbase, hne⟩ := hT; exact Nat.le_trans hbase (Nat.le_of_lt (Array.getElem?_eq_some_iff.1 hb).1)
  have HBW := Aside0.mk hbw
  obtain ⟨n, hn⟩ : ∃ n, l.length = n := ⟨_, rfl⟩
  rw [hn] at hkl hnm
  have HN := Aside0.mk hn
  have hw : IntKind.i64.wrap ((k : Int) + 1) = (k : Int) + 1 := IntWalk.i64_in _ (by omega)
  clear hT hpos hp hty hn hbw
  go_enter Try.func10, Try.ntmps10
  go_wp2_with (first
    | (go_at_call 11
       refine HG.out.mono ?_
       rintro e w1 ⟨rfl, h1⟩
       have T1 := Aside0.mk (HT.out.kept h1)
       have H1 := Aside0.mk h1
       clear h1)
    | (go_at_call 25
       refine (HF.out _ T1.out).mono ?_
       rintro e w2 ⟨rfl, h2⟩
       have T2 := Aside0.mk (T1.out.kept h2)
       have H2 := Aside0.mk h2
       clear h2
       obtain ⟨A, cap, hb, ho, hbase, hne⟩ := T2.out
       obtain ⟨hc0, hc1, hc2, hf⟩ := three_cells hb
       obtain ⟨g, hg⟩ := own_some ho (by rw [HN.out]; omega)
       subst hg
       have hf0 := hf 0
       rw [HN.out] at hc0 hb ho hne
       have HB := Aside0.mk hb
       have HO := Aside0.mk ho
       have HNE := Aside0.mk hne
       have HBS := Aside0.mk hbase
       clear hb ho hbase hne hc1 hc2 hf)
    | (go_at_call 26
       refine (delete_str (i := k) _ HO.out HN.out hkl hnm HTY.out).mono ?_
       rintro e w3 ⟨rfl, h3⟩
       have hgb : B ≠ g := fun he => HNE.out (by rw [he]; rfl)
       have hb3 := (h3.2.block B (Array.getElem?_eq_some_iff.1 HB.out).1 (fun he => hgb (Option.some.inj he))).trans HB.out
       obtain ⟨d0, d1, d2, df⟩ := three_cells hb3
       have df0 := df 0
       have HB3 := Aside0.mk hb3
       have H3 := Aside0.mk h3
       have HGB := Aside0.mk hgb
       clear hb3 h3 hgb df d1 d2 hc0 hf0))
  go_ret2
  have hel : (l.eraseIdx k).length = n - 1 := by rw [List.length_eraseIdx, HN.out, if_pos hkl]
  have hgg : base ≤ g := (HO.out.lt g rfl).1
  refine ⟨rfl, ⟨some ⟨g, 0, none⟩, cap, ?_, ?_, HBS.out, ?_⟩, ?_, ?_⟩
  · rw [hel]
    exact heap_set _ B 0 _ _ _ _ HB3.out
  · rw [hel]
    refine H3.out.1.kept (row := some B) ⟨rfl, rfl, rfl, ?_, fun k hk hne => heap_set_ne _ B k 0 _ (fun he => hne (by rw [he]))⟩ (Or.inr ?_)
    · simp [World.setCell]
    · intro he
      exact HGB.out (Option.some.inj he).symm
  · rw [hel]
    intro he
    exact HGB.out (Option.some.inj he).symm
  · have b2 := (H1.out.trans (H2.out.mono H1.out.size)).mono HBW.out
    have b3 : Below base _ _ := b2.grown H3.out.2 (Nat.le_trans HBW.out b2.size) (fun j hj => by
      have : g = j := Option.some.inj hj
      rw [← this]; exact hgg)
    exact b3.setCell HBS.out _
  · intro k cs t fr hk ht he
    have k2 := (Keeps.of (T := 57) (E := 59) (H1.out.trans (H2.out.mono H1.out.size))) k cs t fr hk ht he
    have kB : k ≠ B := by
      rintro rfl
      have := k2.symm.trans HB.out
      injection this with this
      injection this with _ h2
      exact ht h2
    have k3 := (H3.out.2.block k (Array.getElem?_eq_some_iff.1 k2).1 (fun hq => own_ne HO.out k2 he (by rw [hq]; rfl))).trans k2
    exact (heap_set_ne _ B k 0 _ kB).trans k3
theorem del_str {base B room last : Nat} {l : List (Int × Value)} (h : Int) (x : ByteArray) (w : World) (hT : TabAt 57 59 base B room last l w) (hty : All_str l) (hnm : l.length ≤ 1000000) (k : Nat) (hp : l[k]? = some (h, .string x)) (hpos : posI l h = (k : Int)) :
    Calls Try.prog 10 #[.pointer (some ⟨B, 0, none⟩), .int .i64 h] w fun e w' => e = .returned (.tuple #[.string x, .bool true]) ∧ TabAt 57 59 base B room last (l.eraseIdx k) w' ∧ Below base w w' :=
  (delK_str h x w hT hty hnm k hp hpos).mono fun _ _ h => ⟨h.1, h.2.1, h.2.2.1⟩
theorem all1_ints (l : List (Int × Value)) (h : All_ints l) : ∀ p ∈ l, p.2.oneCell' = true := by
  intro p hp
  have := h p hp
  obtain ⟨xa, xn, xc, hx⟩ := this; rw [hx]; rfl
theorem zv_ints (w : World) : (zeroValue 66).run Try.prog w = .ok (.agg #[.int .i64 0, .slice none 0 0]) w := by
  obtain ⟨i0, hi, hz0, hz1, hz2⟩ := info_parts (show (Try.prog.info? 66).map (fun i => (i.zero, i.size, i.bytes)) = some (some (.agg #[.int .i64 0, .slice none 0 0]), 2, 32) by kernel_rfl)
  simp [zeroValue, typeInfo, hi, hz0]
set_option maxHeartbeats 1000000 in
set_option maxRecDepth 100000 in
theorem delete_lt_ints {base g m cap i : Nat} {l : List (Int × Value)} (w : World) (ho : w.ownsRow base 66 2 (.slice (some ⟨g, 0, none⟩) (m + 1) cap) (m + 1) (flat l)) (hl : l.length = m + 1) (hi : i ≤ m) (hlt : i + 1 < cap) (hm : m ≤ 1000000) (hty : All_ints l) :
    Calls Try.prog 28 #[.slice (some ⟨g, 0, none⟩) (m + 1) cap, .int .i64 (i : Int), .int .i64 ((i : Int) + 1)] w fun e w' => e = .returned (.slice (some ⟨g, 0, none⟩) m cap) ∧ Shift 66 base g m cap (l.eraseIdx i) w w' := by
  obtain ⟨i0, hi0, hz0, hz1, hz2⟩ := info_parts (show (Try.prog.info? 66).map (fun i => (i.zero, i.size, i.bytes)) = some (some (.agg #[.int .i64 0, .slice none 0 0]), 2, 32) by kernel_rfl)
  obtain ⟨hb, hcap, hmc, cur, hcs, hct, hgb⟩ : base ≤ g ∧ cap ≤ maxLen ∧ m + 1 ≤ cap ∧ ∃ cur : Array Value, cur.size = cap * 2 ∧ cur.toList.take ((m + 1) * 2) = flat l ∧ w.heap[g]? = some (.cells cur 66 (0, 0)) := by
    rcases ho.2 with ⟨h1, _⟩ | ⟨g', cap', cur, h1, h2, h3, h4, h5, h6, h7⟩
    · cases h1
    · cases h1
      exact ⟨h2, h5, h4, cur, h6, h7, h3⟩
  have hone := one_flat l (all1_ints l hty)
  have hfl : (flat l).length = (m + 1) * 2 := by rw [flat_len, hl]
  have hnews : ((flat l).drop ((i + 1) * 2)).length = (m - i) * 2 := by rw [List.length_drop, hfl]; omega
  have HN1 := Aside0.mk hnews
  have HOC := Aside0.mk (fun (u : Value) (hu : u ∈ (flat l).drop ((i + 1) * 2)) => hone u (List.mem_of_mem_drop hu))
  have HCS := Aside0.mk hcs
  have HGB := Aside0.mk (show w.drew.heap[g]? = some (.cells cur 66 (0, 0)) from hgb)
  have HCC := Aside0.mk (own_tail (q := (i + 1) * 2) ho)
  have HSD := Aside0.mk (shift_done (z1 := .int .i64 0) (z2 := .slice none 0 0) hb hcap hmc hcs hl hct hi hgb)
  obtain ⟨R1, hR1⟩ : ∃ R1, (cur.toList.take (i * 2) ++ (flat l).drop ((i + 1) * 2) ++ cur.toList.drop (i * 2 + ((flat l).drop ((i + 1) * 2)).length)) = R1 := ⟨_, rfl⟩
  have HR1 := Aside0.mk hR1
  have hR1s : R1.length = cap * 2 := by
    rw [← hR1]
    simp only [List.length_append, List.length_take, List.length_drop, Array.length_toList, hcs, hfl]
    omega
  have HR1s := Aside0.mk hR1s
  rw [hR1] at HSD
  have hcap' : cap ≤ 9223372036854775807 := hcap
  clear hR1 hR1s hb hcap hcs hct hgb hone hfl hnews ho hl hty
  have f1 : i ≤ cap := by omega
  have f2 : ¬ cap = i + 1 := by omega
  have f3 : (i : Int) ≤ (m : Int) := by omega
  have f4 : (i : Int) + 1 ≤ (m : Int) + 1 := by omega
  have f5 : (0 : Int) ≤ (i : Int) + 1 := by omega
  have f6 : (i : Int) ≤ (i : Int) + 1 := by omega
  go_enter Try.func28, Try.ntmps28
  go_wp2
  go_region_law (refine step_append_row rfl (.tmp 22) (.tmp 25) 62 rfl 66 i0 2 Try.underlying62 hi0 hz1 g i cap cur HGB.out (by simp [Act.eval, Act.put]) ⟨g, (i + 1) * 2, none⟩ (m - i) (cap - (i + 1)) m ((flat l).drop ((i + 1) * 2)) (by simp [Act.eval, Act.put]) HN1.out HCC.out HOC.out (by omega) (by rw [HN1.out, HCS.out]; omega) (by omega) ?_; rw [HR1.out])
  obtain ⟨W1, hW1⟩ : ∃ W1, w.drew.setRow g R1.toArray = W1 := ⟨_, rfl⟩
  have hb1 := setRow_heap w.drew g cur R1.toArray 66 (0, 0) HGB.out
  rw [hW1] at hb1 ⊢
  have hclear : ∀ ty c, (Builtin.clear_ #[62] ty #[.slice (some ⟨g, m * 2, none⟩) 1 c]).run Try.prog W1 = .ok (.tuple #[]) (W1.setRow g (R1.take (m * 2) ++ ([.int .i64 0, .slice none 0 0] : List Value) ++ R1.drop (m * 2 + 2)).toArray) := by
    intro ty c
    exact run_clear_two W1 62 66 ty (.int .i64 0) (.slice none 0 0) Try.underlying62 zv_ints rfl rfl g (m * 2) c R1.toArray hb1 (by rw [List.size_toArray, HR1s.out]; omega)
  have HSD2 := Aside0.mk HSD.out
  rw [hW1] at HSD2
  obtain ⟨W2, hW2⟩ : ∃ W2, W1.setRow g (R1.take (m * 2) ++ ([.int .i64 0, .slice none 0 0] : List Value) ++ R1.drop (m * 2 + 2)).toArray = W2 := ⟨_, rfl⟩
  rw [hW2] at HSD2
  rw [hW2] at hclear
  clear hW1 hb1 hW2 HSD
  have f7 : (m : Int) ≤ (m : Int) + 1 := by omega
  have f8 : (m : Int) + 1 ≤ ((cap : Nat) : Int) := by omega
  have f9 : ¬ cap = m := by omega
  have f10 : m ≤ cap := by omega
  have f11 : m + 1 ≤ cap := by omega
  go_wp2
  go_ret
  exact ⟨rfl, HSD2.out⟩
set_option maxHeartbeats 1000000 in
set_option maxRecDepth 100000 in
theorem delete_eq_ints {base g i : Nat} {l : List (Int × Value)} (w : World) (ho : w.ownsRow base 66 2 (.slice (some ⟨g, 0, none⟩) (i + 1) (i + 1)) (i + 1) (flat l)) (hl : l.length = i + 1) (hm : i ≤ 1000000) (hty : All_ints l) :
    Calls Try.prog 28 #[.slice (some ⟨g, 0, none⟩) (i + 1) (i + 1), .int .i64 (i : Int), .int .i64 ((i : Int) + 1)] w fun e w' => e = .returned (.slice (some ⟨g, 0, none⟩) i (i + 1)) ∧ Shift 66 base g i (i + 1) (l.eraseIdx i) w w' := by
  obtain ⟨i0, hi0, hz0, hz1, hz2⟩ := info_parts (show (Try.prog.info? 66).map (fun i => (i.zero, i.size, i.bytes)) = some (some (.agg #[.int .i64 0, .slice none 0 0]), 2, 32) by kernel_rfl)
  obtain ⟨hb, hcap, hmc, cur, hcs, hct, hgb⟩ : base ≤ g ∧ (i + 1) ≤ maxLen ∧ i + 1 ≤ (i + 1) ∧ ∃ cur : Array Value, cur.size = (i + 1) * 2 ∧ cur.toList.take ((i + 1) * 2) = flat l ∧ w.heap[g]? = some (.cells cur 66 (0, 0)) := by
    rcases ho.2 with ⟨h1, _⟩ | ⟨g', cap', cur, h1, h2, h3, h4, h5, h6, h7⟩
    · cases h1
    · cases h1
      exact ⟨h2, h5, h4, cur, h6, h7, h3⟩
  have hone := one_flat l (all1_ints l hty)
  have hfl : (flat l).length = (i + 1) * 2 := by rw [flat_len, hl]
  have hnews : ((flat l).drop ((i + 1) * 2)).length = (i - i) * 2 := by rw [List.length_drop, hfl]; omega
  have HN1 := Aside0.mk hnews
  have HOC := Aside0.mk (fun (u : Value) (hu : u ∈ (flat l).drop ((i + 1) * 2)) => hone u (List.mem_of_mem_drop hu))
  have HCS := Aside0.mk hcs
  have HGB := Aside0.mk (show w.drew.heap[g]? = some (.cells cur 66 (0, 0)) from hgb)
  have HCC := Aside0.mk (show ∀ j u, ((flat l).drop ((i + 1) * 2))[j]? = some u → w.drew.cell? ((⟨g, 0, none⟩ : Addr).add j) = some u from fun j u hu => by
    have := (List.getElem?_eq_some_iff.1 hu).1
    rw [hnews] at this
    omega)
  have HSD := Aside0.mk (shift_done (z1 := .int .i64 0) (z2 := .slice none 0 0) hb hcap hmc hcs hl hct (Nat.le_refl i) hgb)
  obtain ⟨R1, hR1⟩ : ∃ R1, (cur.toList.take (i * 2) ++ (flat l).drop ((i + 1) * 2) ++ cur.toList.drop (i * 2 + ((flat l).drop ((i + 1) * 2)).length)) = R1 := ⟨_, rfl⟩
  have HR1 := Aside0.mk hR1
  have hR1s : R1.length = (i + 1) * 2 := by
    rw [← hR1]
    simp only [List.length_append, List.length_take, List.length_drop, Array.length_toList, hcs, hfl]
    omega
  have HR1s := Aside0.mk hR1s
  rw [hR1] at HSD
  have hcap' : (i + 1) ≤ 9223372036854775807 := hcap
  clear hR1 hR1s hb hcap hcs hct hgb hone hfl hnews ho hl hty
  have f1 : i ≤ (i + 1) := by omega
  have f4 : (i : Int) + 1 ≤ (i : Int) + 1 := by omega
  have f5 : (0 : Int) ≤ (i : Int) + 1 := by omega
  have f6 : (i : Int) ≤ (i : Int) + 1 := by omega
  go_enter Try.func28, Try.ntmps28
  go_wp2
  go_region_law (refine step_append_row rfl (.tmp 22) (.tmp 25) 62 rfl 66 i0 2 Try.underlying62 hi0 hz1 g i (i + 1) cur HGB.out (by simp [Act.eval, Act.put]) ⟨g, 0, none⟩ 0 0 i ((flat l).drop ((i + 1) * 2)) (by simp [Act.eval, Act.put]) (by rw [HN1.out]; omega) HCC.out HOC.out (by omega) (by rw [HN1.out, HCS.out]; omega) (by omega) ?_; rw [HR1.out])
  obtain ⟨W1, hW1⟩ : ∃ W1, w.drew.setRow g R1.toArray = W1 := ⟨_, rfl⟩
  have hb1 := setRow_heap w.drew g cur R1.toArray 66 (0, 0) HGB.out
  rw [hW1] at hb1 ⊢
  have hclear : ∀ ty c, (Builtin.clear_ #[62] ty #[.slice (some ⟨g, i * 2, none⟩) 1 c]).run Try.prog W1 = .ok (.tuple #[]) (W1.setRow g (R1.take (i * 2) ++ ([.int .i64 0, .slice none 0 0] : List Value) ++ R1.drop (i * 2 + 2)).toArray) := by
    intro ty c
    exact run_clear_two W1 62 66 ty (.int .i64 0) (.slice none 0 0) Try.underlying62 zv_ints rfl rfl g (i * 2) c R1.toArray hb1 (by rw [List.size_toArray, HR1s.out]; omega)
  have HSD2 := Aside0.mk HSD.out
  rw [hW1] at HSD2
  obtain ⟨W2, hW2⟩ : ∃ W2, W1.setRow g (R1.take (i * 2) ++ ([.int .i64 0, .slice none 0 0] : List Value) ++ R1.drop (i * 2 + 2)).toArray = W2 := ⟨_, rfl⟩
  rw [hW2] at HSD2
  rw [hW2] at hclear
  clear hW1 hb1 hW2 HSD
  have f7 : (i : Int) ≤ (i : Int) + 1 := by omega
  have f8 : (i : Int) + 1 ≤ (((i + 1) : Nat) : Int) := by omega
  have f9 : ¬ (i + 1) = i := by omega
  have f10 : i ≤ (i + 1) := by omega
  have f11 : i + 1 ≤ (i + 1) := by omega
  go_wp2
  go_ret
  exact ⟨rfl, HSD2.out⟩
theorem delete_ints {base g n cap i : Nat} {l : List (Int × Value)} (w : World) (ho : w.ownsRow base 66 2 (.slice (some ⟨g, 0, none⟩) n cap) n (flat l)) (hl : l.length = n) (hi : i < n) (hm : n ≤ 1000000) (hty : All_ints l) :
    Calls Try.prog 28 #[.slice (some ⟨g, 0, none⟩) n cap, .int .i64 (i : Int), .int .i64 ((i : Int) + 1)] w fun e w' => e = .returned (.slice (some ⟨g, 0, none⟩) (n - 1) cap) ∧ Shift 66 base g (n - 1) cap (l.eraseIdx i) w w' := by
  have hnc : n ≤ cap := by
    rcases ho.2 with ⟨h1, _⟩ | ⟨g', cap', cur, h1, h2, h3, h4, h5, h6, h7⟩
    · cases h1
    · cases h1; exact h4
  obtain ⟨m, rfl⟩ : ∃ m, n = m + 1 := ⟨n - 1, by omega⟩
  by_cases hc : i + 1 < cap
  · exact delete_lt_ints w ho hl (by omega) hc (by omega) hty
  · obtain rfl : cap = i + 1 := by omega
    obtain rfl : m = i := by omega
    exact delete_eq_ints w ho hl (by omega) hty
theorem del_none_ints {base B room last : Nat} {l : List (Int × Value)} (h : Int) (w : World) (hT : TabAt 64 66 base B room last l w) (hty : All_ints l) (hnm : l.length ≤ 1000000) (hpos : posI l h = -1) :
    Calls Try.prog 15 #[.pointer (some ⟨B, 0, none⟩), .int .i64 h] w fun e w' => e = .returned (.tuple #[.slice none 0 0, .bool false]) ∧ Below w.heap.size w w' := by
  have HF := Aside0.mk (get_none_ints h w hT hty hnm hpos)
  clear hT hpos
  go_enter Try.func15, Try.ntmps15
  go_wp2_with (go_at_call 16; refine HF.out.mono ?_; rintro e w1 ⟨rfl, h1⟩)
  go_ret2
  exact ⟨rfl, h1⟩
set_option maxHeartbeats 1000000 in
theorem delK_ints {base B room last : Nat} {l : List (Int × Value)} (h : Int) (xa : Option Addr) (xn xc : Nat) (w : World) (hT : TabAt 64 66 base B room last l w) (hty : All_ints l) (hnm : l.length ≤ 1000000) (k : Nat) (hp : l[k]? = some (h, .slice xa xn xc)) (hpos : posI l h = (k : Int)) :
    Calls Try.prog 15 #[.pointer (some ⟨B, 0, none⟩), .int .i64 h] w fun e w' => e = .returned (.tuple #[.slice xa xn xc, .bool true]) ∧ TabAt 64 66 base B room last (l.eraseIdx k) w' ∧ Below base w w' ∧ Keeps 64 66 w w' := by
  have HG := Aside0.mk (get_ints h xa xn xc w hT hty hnm k hp hpos)
  have HF := Aside0.mk (fun w hT => find_ints (base := base) (B := B) (room := room) (last := last) h w hT hty hnm)
  rw [hpos] at HF
  have HTY := Aside0.mk hty
  have HT := Aside0.mk hT
  have hkl : k < l.length := (List.getElem?_eq_some_iff.1 hp).1
  have hbw : base ≤ w.heap.size := by obtain ⟨A, cap, hb, ho, hbase, hne⟩ := hT; exact Nat.le_trans hbase (Nat.le_of_lt (Array.getElem?_eq_some_iff.1 hb).1)
  have HBW := Aside0.mk hbw
  obtain ⟨n, hn⟩ : ∃ n, l.length = n := ⟨_, rfl⟩
  rw [hn] at hkl hnm
  have HN := Aside0.mk hn
  have hw : IntKind.i64.wrap ((k : Int) + 1) = (k : Int) + 1 := IntWalk.i64_in _ (by omega)
  clear hT hpos hp hty hn hbw
  go_enter Try.func15, Try.ntmps15
  go_wp2_with (first
    | (go_at_call 16
       refine HG.out.mono ?_
       rintro e w1 ⟨rfl, h1⟩
       have T1 := Aside0.mk (HT.out.kept h1)
       have H1 := Aside0.mk h1
       clear h1)
    | (go_at_call 27
       refine (HF.out _ T1.out).mono ?_
       rintro e w2 ⟨rfl, h2⟩
       have T2 := Aside0.mk (T1.out.kept h2)
       have H2 := Aside0.mk h2
       clear h2
       obtain ⟨A, cap, hb, ho, hbase, hne⟩ := T2.out
       obtain ⟨hc0, hc1, hc2, hf⟩ := three_cells hb
       obtain ⟨g, hg⟩ := own_some ho (by rw [HN.out]; omega)
       subst hg
       have hf0 := hf 0
       rw [HN.out] at hc0 hb ho hne
       have HB := Aside0.mk hb
       have HO := Aside0.mk ho
       have HNE := Aside0.mk hne
       have HBS := Aside0.mk hbase
       clear hb ho hbase hne hc1 hc2 hf)
    | (go_at_call 28
       refine (delete_ints (i := k) _ HO.out HN.out hkl hnm HTY.out).mono ?_
       rintro e w3 ⟨rfl, h3⟩
       have hgb : B ≠ g := fun he => HNE.out (by rw [he]; rfl)
       have hb3 := (h3.2.block B (Array.getElem?_eq_some_iff.1 HB.out).1 (fun he => hgb (Option.some.inj he))).trans HB.out
       obtain ⟨d0, d1, d2, df⟩ := three_cells hb3
       have df0 := df 0
       have HB3 := Aside0.mk hb3
       have H3 := Aside0.mk h3
       have HGB := Aside0.mk hgb
       clear hb3 h3 hgb df d1 d2 hc0 hf0))
  go_ret2
  have hel : (l.eraseIdx k).length = n - 1 := by rw [List.length_eraseIdx, HN.out, if_pos hkl]
  have hgg : base ≤ g := (HO.out.lt g rfl).1
  refine ⟨rfl, ⟨some ⟨g, 0, none⟩, cap, ?_, ?_, HBS.out, ?_⟩, ?_, ?_⟩
  · rw [hel]
    exact heap_set _ B 0 _ _ _ _ HB3.out
  · rw [hel]
    refine H3.out.1.kept (row := some B) ⟨rfl, rfl, rfl, ?_, fun k hk hne => heap_set_ne _ B k 0 _ (fun he => hne (by rw [he]))⟩ (Or.inr ?_)
    · simp [World.setCell]
    · intro he
      exact HGB.out (Option.some.inj he).symm
  · rw [hel]
    intro he
    exact HGB.out (Option.some.inj he).symm
  · have b2 := (H1.out.trans (H2.out.mono H1.out.size)).mono HBW.out
    have b3 : Below base _ _ := b2.grown H3.out.2 (Nat.le_trans HBW.out b2.size) (fun j hj => by
      have : g = j := Option.some.inj hj
      rw [← this]; exact hgg)
    exact b3.setCell HBS.out _
  · intro k cs t fr hk ht he
    have k2 := (Keeps.of (T := 64) (E := 66) (H1.out.trans (H2.out.mono H1.out.size))) k cs t fr hk ht he
    have kB : k ≠ B := by
      rintro rfl
      have := k2.symm.trans HB.out
      injection this with this
      injection this with _ h2
      exact ht h2
    have k3 := (H3.out.2.block k (Array.getElem?_eq_some_iff.1 k2).1 (fun hq => own_ne HO.out k2 he (by rw [hq]; rfl))).trans k2
    exact (heap_set_ne _ B k 0 _ kB).trans k3
theorem del_ints {base B room last : Nat} {l : List (Int × Value)} (h : Int) (xa : Option Addr) (xn xc : Nat) (w : World) (hT : TabAt 64 66 base B room last l w) (hty : All_ints l) (hnm : l.length ≤ 1000000) (k : Nat) (hp : l[k]? = some (h, .slice xa xn xc)) (hpos : posI l h = (k : Int)) :
    Calls Try.prog 15 #[.pointer (some ⟨B, 0, none⟩), .int .i64 h] w fun e w' => e = .returned (.tuple #[.slice xa xn xc, .bool true]) ∧ TabAt 64 66 base B room last (l.eraseIdx k) w' ∧ Below base w w' :=
  (delK_ints h xa xn xc w hT hty hnm k hp hpos).mono fun _ _ h => ⟨h.1, h.2.1, h.2.2.1⟩
end Go.Proofs.Ytbpdbgpnlcbdiaa.Tab
