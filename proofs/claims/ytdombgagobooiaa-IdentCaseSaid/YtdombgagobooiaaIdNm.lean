/- The document's name of sixteen bytes: the walk. -/
import Derived.Test.YtdombgagobooiaaIdOf
namespace Go.Proofs.Ytdombgagobooiaa.Id
open Go.RowKit Go.Proofs.YtdombgagobooiaaW.PrintWords Go.Proofs.YtdombgagobooiaaW.PrintLast Go.Proofs.YtdombgagobooiaaW.PrintMore Go.Proofs.Ytdombgagobooiaa.Pl Go.Proofs.Ytdombgagobooiaa.G
set_option linter.unusedVariables false
set_option linter.unusedSimpArgs false
theorem adr (B k : Nat) (hk : k < 16) (W : World) : (Instr.indexAt 22 (.pointer (some ⟨B, 0, none⟩)) (.int .i64 (k : Int))).run Try.prog W = .ok (.pointer (some ⟨B, k, none⟩)) W := by
  have hn : 0 ≤ (k : Int) ∧ (k : Int) < ((16 : Nat) : Int) := by omega
  have hs := Try.sizeOf5 W
  simp [Instr.indexAt, Instr.sureAddr, run_underlying Try.underlying22, asIntOf, hn, hs, Addr.add_lit]
  intro hc
  exact absurd hk (by omega)
theorem wrap_quo (y : Int) (h0 : 0 ≤ y) (h1 : y ≤ 255) : IntKind.u8.wrap (Int.tdiv y 16) = y / 16 := by
  rw [Int.tdiv_eq_ediv_of_nonneg h0]
  exact IntWalk.u8_in _ (by omega)
theorem wrap_rem (y : Int) (h0 : 0 ≤ y) (h1 : y ≤ 255) : Int.tmod y 16 = y % 16 := Int.tmod_eq_emod_of_nonneg h0
def nmC (l : List Int) (k : Nat) : Int := if k = 6 then v6 (l.getD 6 0) else if k = 8 then v8 (l.getD 8 0) else l.getD k 0
theorem nmC_set (l : List Int) (hl : l.length = 16) (k : Nat) (hk : k < 16) : (setL l).getD k 0 = nmC l k := by
  unfold setL nmC
  rw [List.getD_eq_getElem?_getD, List.getElem?_set, List.getElem?_set, List.length_set, hl]
  by_cases h8 : k = 8
  · subst h8; simp
  · by_cases h6 : k = 6
    · subst h6; simp
    · simp [h8, h6, Ne.symm h8, Ne.symm h6, List.getD_eq_getElem?_getD]
set_option maxHeartbeats 4000000 in
set_option maxRecDepth 100000 in
theorem name_walk (l : List Int) (hl : l.length = 16) (hb : ∀ x ∈ l, byte x) (w : World) :
    Calls Try.prog 8 #[.agg (l.map (Value.int .u8)).toArray] w fun e w' => e = .returned (.string (strOfNums (ofL l))) ∧ Below w.heap.size w w' := by
  obtain ⟨wb, hwb⟩ : ∃ wb, w.alloc (.cells (l.map (Value.int .u8)).toArray 22) = wb := ⟨_, rfl⟩
  have A0 := Aside0.mk (show Arr w.heap.size l wb from hwb ▸ arr_new w l)
  have B0 := Aside0.mk (show Below w.heap.size w wb by rw [← hwb]; exact (Below.refl _ _).alloc (Nat.le_refl _) _)
  have hbs : w.heap.size + 1 = wb.heap.size := by rw [← hwb]; simp
  have hbs' := Aside0.mk hbs
  clear hbs
  obtain ⟨i0, hi, hz0, hz1, hz2⟩ := info_parts (show (Try.prog.info? 5).map (fun i => (i.zero, i.size, i.bytes)) = some (some (.int .u8 0), 1, 1) by kernel_rfl)
  go_enter Try.func8, Try.ntmps8
  go_wp2
  clear hwb
  go_loopw [6, 3] (fun i v wr => ∃ (k : Nat) (vv : Value), k ≤ 16 ∧ i = .int .i64 k ∧ vv = v ∧ wr.ownsRow (w.heap.size + 1) 5 1 vv (outL (setL l) k).length (nums .u8 (outL (setL l) k)) ∧ Below (w.heap.size + 1) wb wr) (fun i _ _ => 16 - (intOf i).toNat)
  case atStart => exact ⟨0, _, Nat.zero_le _, rfl, rfl, own_nil _ _ _ _, Below.refl _ _⟩
  case round =>
    rename_i wr
    obtain ⟨k, vv, hk, rfl, rfl, hO, hB⟩ := hrel
    have HO := Aside0.mk hO
    have HB := Aside0.mk hB
    clear hO hB
    by_cases hlt : k < 16
    · have A1 := A0.out.mono (HB.out.block w.heap.size (by omega))
      have hadr := fun W => adr w.heap.size k hlt W
      obtain ⟨x, hx⟩ : ∃ x, l.getD k 0 = x := ⟨_, rfl⟩
      have hc := A1.cell k (by omega)
      rw [hx] at hc
      clear A1
      have hbx : byte x := by
        rw [← hx, List.getD_eq_getElem?_getD, List.getElem?_eq_getElem (by omega)]
        exact hb _ (List.getElem_mem _)
      have hx0 := hbx.1
      have hx1 := hbx.2
      have hsx := nmC_set l hl k hlt
      by_cases k6 : k = 6
      · subst k6
        obtain ⟨y, hy⟩ : ∃ y, x % 16 + 64 = y := ⟨_, rfl⟩
        have hy0 : 0 ≤ y := by omega
        have hy1 : y ≤ 255 := by omega
        have hsx : (setL l).getD 6 0 = y := by rw [hsx, ← hy, ← hx]; show v6 _ = _; unfold v6; omega
        have hol := out_len (setL l) 6
        have HO1 := Aside0.mk (show (wr.alloc (.cells #[.int .u8 45] 5)).ownsRow (w.heap.size + 1) 5 1 vv (outL (setL l) 6).length (nums .u8 (outL (setL l) 6)) from pw_own_below HO.out ((Below.refl _ _).alloc (Nat.le_refl _) _))
        have hb1 := Aside0.mk (show w.heap.size + 1 ≤ (wr.alloc (.cells #[.int .u8 45] 5)).heap.size from (by have := HB.out.size; have := hbs'.out; simp; omega))
        go_wp2_with (at_builtin; refine wpList_append_own _ rfl _ _ 28 rfl (w.heap.size + 1) 5 i0 (.int .u8 0) 1 1 Try.underlying28 hi hz0 hz1 hz2 rfl (by decide) vv (outL (setL l) 6).length (nums .u8 (outL (setL l) 6)) rfl HO1.out ⟨wr.heap.size, 0, none⟩ 1 1 [.int .u8 45] rfl rfl ?qc2 (by simp [Value.oneCell']) (by simp only [maxLen]; omega) (by omega) hb1.out ?_)
        case qc2 =>
          intro j u hj
          rcases j with _ | j
          · exact one_cell wr _ _ 0 u hj
          · simp at hj
        intro v4 w4 hown4 hgrow4 hnil4
        have HB4 := Aside0.mk (show Below (w.heap.size + 1) wb w4 from (HB.out.alloc (by have := HB.out.size; have := hbs'.out; omega) _).grown hgrow4 hb1.out (fun j hj => (HO1.out.lt j hj).1))
        have HO4 := Aside0.mk hown4
        clear hown4 hgrow4 hnil4
        have a1 : IntKind.u8.wrap (Int.tdiv y 16) = y / 16 := wrap_quo y hy0 hy1
        have a2 : Int.tmod y 16 = y % 16 := wrap_rem y hy0 hy1
        have s1 := fun wx => dig_at (y / 16) (by omega) (by omega) wx
        have s2 := fun wx => dig_at (y % 16) (by omega) (by omega) wx
        have HOD := Aside0.mk (show ((w4.alloc (.cells #[.int .u8 (dg (y / 16)), .int .u8 (dg (y % 16))] 5)).drew).ownsRow (w.heap.size + 1) 5 1 v4 ((outL (setL l) 6).length + 1) (nums .u8 (outL (setL l) 6) ++ [.int .u8 45]) from pw_own_below HO4.out (below_drew (below_alloc (Below.refl _ _) _)))
        have HCD := Aside0.mk (show ∀ j u, [Value.int .u8 (dg (y / 16)), .int .u8 (dg (y % 16))][j]? = some u → ((w4.alloc (.cells #[.int .u8 (dg (y / 16)), .int .u8 (dg (y % 16))] 5)).drew).cell? ((⟨w4.heap.size, 0, none⟩ : Addr).add j) = some u from fun j u h => two_cells w4 _ _ _ j u h)
        have HBD := Aside0.mk (show Below (w.heap.size + 1) wb ((w4.alloc (.cells #[.int .u8 (dg (y / 16)), .int .u8 (dg (y % 16))] 5)).drew) from (HB4.out.alloc (by have := HB4.out.size; have := hbs'.out; omega) _).drew)
        have hbase := HBD.out.size
        have hbs := hbs'.out
        rw [← hbs] at hbase
        clear hbs
        have hbase2 := Aside0.mk hbase
        clear hbase
        go_wp2
        go_region_law (refine step_append_ownX rfl (.tmp 39) (.tmp 46) 28 rfl (w.heap.size + 1) 5 i0 (.int .u8 0) 1 1 Try.underlying28 hi hz0 hz1 hz2 rfl (by decide) v4 ((outL (setL l) 6).length + 1) (nums .u8 (outL (setL l) 6) ++ [.int .u8 45]) (by simp [Act.eval, Act.put]) HOD.out ⟨w4.heap.size, 0, none⟩ 2 2 [.int .u8 (dg (y / 16)), .int .u8 (dg (y % 16))] (by simp [Act.eval, Act.put]) rfl HCD.out (by simp [Value.oneCell']) (by simp only [maxLen]; omega) (by omega) hbase2.out ?_; intro v' w' hown hgrow)
        all_goals (go_wp2; refine ⟨⟨6 + 1, _, by omega, rfl, rfl, ?_, ?_⟩, by simp [intOf]; try omega⟩)
        all_goals first
          | (rw [show outL (setL l) (6 + 1) = outL (setL l) 6 ++ oneL 6 y from by rw [outL, hsx], oneL, show dashB 6 = true from rfl]; simpa [nums] using hown)
          | exact HBD.out.grown hgrow (by have := hbase2.out; have := HBD.out.size; omega) (fun j hj => (HOD.out.lt j hj).1)
      ·
        by_cases k8 : k = 8
        · subst k8
          obtain ⟨y, hy⟩ : ∃ y, x % 64 + 128 = y := ⟨_, rfl⟩
          have hy0 : 0 ≤ y := by omega
          have hy1 : y ≤ 255 := by omega
          have hsx : (setL l).getD 8 0 = y := by rw [hsx, ← hy, ← hx]; show v8 _ = _; unfold v8; omega
          have hol := out_len (setL l) 8
          have HO1 := Aside0.mk (show (wr.alloc (.cells #[.int .u8 45] 5)).ownsRow (w.heap.size + 1) 5 1 vv (outL (setL l) 8).length (nums .u8 (outL (setL l) 8)) from pw_own_below HO.out ((Below.refl _ _).alloc (Nat.le_refl _) _))
          have hb1 := Aside0.mk (show w.heap.size + 1 ≤ (wr.alloc (.cells #[.int .u8 45] 5)).heap.size from (by have := HB.out.size; have := hbs'.out; simp; omega))
          go_wp2_with (at_builtin; refine wpList_append_own _ rfl _ _ 28 rfl (w.heap.size + 1) 5 i0 (.int .u8 0) 1 1 Try.underlying28 hi hz0 hz1 hz2 rfl (by decide) vv (outL (setL l) 8).length (nums .u8 (outL (setL l) 8)) rfl HO1.out ⟨wr.heap.size, 0, none⟩ 1 1 [.int .u8 45] rfl rfl ?qc2 (by simp [Value.oneCell']) (by simp only [maxLen]; omega) (by omega) hb1.out ?_)
          case qc2 =>
            intro j u hj
            rcases j with _ | j
            · exact one_cell wr _ _ 0 u hj
            · simp at hj
          intro v4 w4 hown4 hgrow4 hnil4
          have HB4 := Aside0.mk (show Below (w.heap.size + 1) wb w4 from (HB.out.alloc (by have := HB.out.size; have := hbs'.out; omega) _).grown hgrow4 hb1.out (fun j hj => (HO1.out.lt j hj).1))
          have HO4 := Aside0.mk hown4
          clear hown4 hgrow4 hnil4
          have a1 : IntKind.u8.wrap (Int.tdiv y 16) = y / 16 := wrap_quo y hy0 hy1
          have a2 : Int.tmod y 16 = y % 16 := wrap_rem y hy0 hy1
          have s1 := fun wx => dig_at (y / 16) (by omega) (by omega) wx
          have s2 := fun wx => dig_at (y % 16) (by omega) (by omega) wx
          have HOD := Aside0.mk (show ((w4.alloc (.cells #[.int .u8 (dg (y / 16)), .int .u8 (dg (y % 16))] 5)).drew).ownsRow (w.heap.size + 1) 5 1 v4 ((outL (setL l) 8).length + 1) (nums .u8 (outL (setL l) 8) ++ [.int .u8 45]) from pw_own_below HO4.out (below_drew (below_alloc (Below.refl _ _) _)))
          have HCD := Aside0.mk (show ∀ j u, [Value.int .u8 (dg (y / 16)), .int .u8 (dg (y % 16))][j]? = some u → ((w4.alloc (.cells #[.int .u8 (dg (y / 16)), .int .u8 (dg (y % 16))] 5)).drew).cell? ((⟨w4.heap.size, 0, none⟩ : Addr).add j) = some u from fun j u h => two_cells w4 _ _ _ j u h)
          have HBD := Aside0.mk (show Below (w.heap.size + 1) wb ((w4.alloc (.cells #[.int .u8 (dg (y / 16)), .int .u8 (dg (y % 16))] 5)).drew) from (HB4.out.alloc (by have := HB4.out.size; have := hbs'.out; omega) _).drew)
          have hbase := HBD.out.size
          have hbs := hbs'.out
          rw [← hbs] at hbase
          clear hbs
          have hbase2 := Aside0.mk hbase
          clear hbase
          go_wp2
          go_region_law (refine step_append_ownX rfl (.tmp 39) (.tmp 46) 28 rfl (w.heap.size + 1) 5 i0 (.int .u8 0) 1 1 Try.underlying28 hi hz0 hz1 hz2 rfl (by decide) v4 ((outL (setL l) 8).length + 1) (nums .u8 (outL (setL l) 8) ++ [.int .u8 45]) (by simp [Act.eval, Act.put]) HOD.out ⟨w4.heap.size, 0, none⟩ 2 2 [.int .u8 (dg (y / 16)), .int .u8 (dg (y % 16))] (by simp [Act.eval, Act.put]) rfl HCD.out (by simp [Value.oneCell']) (by simp only [maxLen]; omega) (by omega) hbase2.out ?_; intro v' w' hown hgrow)
          all_goals (go_wp2; refine ⟨⟨8 + 1, _, by omega, rfl, rfl, ?_, ?_⟩, by simp [intOf]; try omega⟩)
          all_goals first
            | (rw [show outL (setL l) (8 + 1) = outL (setL l) 8 ++ oneL 8 y from by rw [outL, hsx], oneL, show dashB 8 = true from rfl]; simpa [nums] using hown)
            | exact HBD.out.grown hgrow (by have := hbase2.out; have := HBD.out.size; omega) (fun j hj => (HOD.out.lt j hj).1)
        ·
          by_cases k4 : k = 4
          · subst k4
            obtain ⟨y, hy⟩ : ∃ y, x = y := ⟨_, rfl⟩
            subst hy
            have hy0 := hx0
            have hy1 := hx1
            have hsx : (setL l).getD 4 0 = x := by rw [hsx, ← hx]; rfl
            have hol := out_len (setL l) 4
            have HO1 := Aside0.mk (show (wr.alloc (.cells #[.int .u8 45] 5)).ownsRow (w.heap.size + 1) 5 1 vv (outL (setL l) 4).length (nums .u8 (outL (setL l) 4)) from pw_own_below HO.out ((Below.refl _ _).alloc (Nat.le_refl _) _))
            have hb1 := Aside0.mk (show w.heap.size + 1 ≤ (wr.alloc (.cells #[.int .u8 45] 5)).heap.size from (by have := HB.out.size; have := hbs'.out; simp; omega))
            go_wp2_with (at_builtin; refine wpList_append_own _ rfl _ _ 28 rfl (w.heap.size + 1) 5 i0 (.int .u8 0) 1 1 Try.underlying28 hi hz0 hz1 hz2 rfl (by decide) vv (outL (setL l) 4).length (nums .u8 (outL (setL l) 4)) rfl HO1.out ⟨wr.heap.size, 0, none⟩ 1 1 [.int .u8 45] rfl rfl ?qc2 (by simp [Value.oneCell']) (by simp only [maxLen]; omega) (by omega) hb1.out ?_)
            case qc2 =>
              intro j u hj
              rcases j with _ | j
              · exact one_cell wr _ _ 0 u hj
              · simp at hj
            intro v4 w4 hown4 hgrow4 hnil4
            have HB4 := Aside0.mk (show Below (w.heap.size + 1) wb w4 from (HB.out.alloc (by have := HB.out.size; have := hbs'.out; omega) _).grown hgrow4 hb1.out (fun j hj => (HO1.out.lt j hj).1))
            have HO4 := Aside0.mk hown4
            clear hown4 hgrow4 hnil4
            have a1 : IntKind.u8.wrap (Int.tdiv x 16) = x / 16 := wrap_quo x hy0 hy1
            have a2 : Int.tmod x 16 = x % 16 := wrap_rem x hy0 hy1
            have s1 := fun wx => dig_at (x / 16) (by omega) (by omega) wx
            have s2 := fun wx => dig_at (x % 16) (by omega) (by omega) wx
            have HOD := Aside0.mk (show ((w4.alloc (.cells #[.int .u8 (dg (x / 16)), .int .u8 (dg (x % 16))] 5)).drew).ownsRow (w.heap.size + 1) 5 1 v4 ((outL (setL l) 4).length + 1) (nums .u8 (outL (setL l) 4) ++ [.int .u8 45]) from pw_own_below HO4.out (below_drew (below_alloc (Below.refl _ _) _)))
            have HCD := Aside0.mk (show ∀ j u, [Value.int .u8 (dg (x / 16)), .int .u8 (dg (x % 16))][j]? = some u → ((w4.alloc (.cells #[.int .u8 (dg (x / 16)), .int .u8 (dg (x % 16))] 5)).drew).cell? ((⟨w4.heap.size, 0, none⟩ : Addr).add j) = some u from fun j u h => two_cells w4 _ _ _ j u h)
            have HBD := Aside0.mk (show Below (w.heap.size + 1) wb ((w4.alloc (.cells #[.int .u8 (dg (x / 16)), .int .u8 (dg (x % 16))] 5)).drew) from (HB4.out.alloc (by have := HB4.out.size; have := hbs'.out; omega) _).drew)
            have hbase := HBD.out.size
            have hbs := hbs'.out
            rw [← hbs] at hbase
            clear hbs
            have hbase2 := Aside0.mk hbase
            clear hbase
            go_wp2
            go_region_law (refine step_append_ownX rfl (.tmp 39) (.tmp 46) 28 rfl (w.heap.size + 1) 5 i0 (.int .u8 0) 1 1 Try.underlying28 hi hz0 hz1 hz2 rfl (by decide) v4 ((outL (setL l) 4).length + 1) (nums .u8 (outL (setL l) 4) ++ [.int .u8 45]) (by simp [Act.eval, Act.put]) HOD.out ⟨w4.heap.size, 0, none⟩ 2 2 [.int .u8 (dg (x / 16)), .int .u8 (dg (x % 16))] (by simp [Act.eval, Act.put]) rfl HCD.out (by simp [Value.oneCell']) (by simp only [maxLen]; omega) (by omega) hbase2.out ?_; intro v' w' hown hgrow)
            all_goals (go_wp2; refine ⟨⟨4 + 1, _, by omega, rfl, rfl, ?_, ?_⟩, by simp [intOf]; try omega⟩)
            all_goals first
              | (rw [show outL (setL l) (4 + 1) = outL (setL l) 4 ++ oneL 4 x from by rw [outL, hsx], oneL, show dashB 4 = true from rfl]; simpa [nums] using hown)
              | exact HBD.out.grown hgrow (by have := hbase2.out; have := HBD.out.size; omega) (fun j hj => (HOD.out.lt j hj).1)
          ·
            by_cases k10 : k = 10
            · subst k10
              obtain ⟨y, hy⟩ : ∃ y, x = y := ⟨_, rfl⟩
              subst hy
              have hy0 := hx0
              have hy1 := hx1
              have hsx : (setL l).getD 10 0 = x := by rw [hsx, ← hx]; rfl
              have hol := out_len (setL l) 10
              have HO1 := Aside0.mk (show (wr.alloc (.cells #[.int .u8 45] 5)).ownsRow (w.heap.size + 1) 5 1 vv (outL (setL l) 10).length (nums .u8 (outL (setL l) 10)) from pw_own_below HO.out ((Below.refl _ _).alloc (Nat.le_refl _) _))
              have hb1 := Aside0.mk (show w.heap.size + 1 ≤ (wr.alloc (.cells #[.int .u8 45] 5)).heap.size from (by have := HB.out.size; have := hbs'.out; simp; omega))
              go_wp2_with (at_builtin; refine wpList_append_own _ rfl _ _ 28 rfl (w.heap.size + 1) 5 i0 (.int .u8 0) 1 1 Try.underlying28 hi hz0 hz1 hz2 rfl (by decide) vv (outL (setL l) 10).length (nums .u8 (outL (setL l) 10)) rfl HO1.out ⟨wr.heap.size, 0, none⟩ 1 1 [.int .u8 45] rfl rfl ?qc2 (by simp [Value.oneCell']) (by simp only [maxLen]; omega) (by omega) hb1.out ?_)
              case qc2 =>
                intro j u hj
                rcases j with _ | j
                · exact one_cell wr _ _ 0 u hj
                · simp at hj
              intro v4 w4 hown4 hgrow4 hnil4
              have HB4 := Aside0.mk (show Below (w.heap.size + 1) wb w4 from (HB.out.alloc (by have := HB.out.size; have := hbs'.out; omega) _).grown hgrow4 hb1.out (fun j hj => (HO1.out.lt j hj).1))
              have HO4 := Aside0.mk hown4
              clear hown4 hgrow4 hnil4
              have a1 : IntKind.u8.wrap (Int.tdiv x 16) = x / 16 := wrap_quo x hy0 hy1
              have a2 : Int.tmod x 16 = x % 16 := wrap_rem x hy0 hy1
              have s1 := fun wx => dig_at (x / 16) (by omega) (by omega) wx
              have s2 := fun wx => dig_at (x % 16) (by omega) (by omega) wx
              have HOD := Aside0.mk (show ((w4.alloc (.cells #[.int .u8 (dg (x / 16)), .int .u8 (dg (x % 16))] 5)).drew).ownsRow (w.heap.size + 1) 5 1 v4 ((outL (setL l) 10).length + 1) (nums .u8 (outL (setL l) 10) ++ [.int .u8 45]) from pw_own_below HO4.out (below_drew (below_alloc (Below.refl _ _) _)))
              have HCD := Aside0.mk (show ∀ j u, [Value.int .u8 (dg (x / 16)), .int .u8 (dg (x % 16))][j]? = some u → ((w4.alloc (.cells #[.int .u8 (dg (x / 16)), .int .u8 (dg (x % 16))] 5)).drew).cell? ((⟨w4.heap.size, 0, none⟩ : Addr).add j) = some u from fun j u h => two_cells w4 _ _ _ j u h)
              have HBD := Aside0.mk (show Below (w.heap.size + 1) wb ((w4.alloc (.cells #[.int .u8 (dg (x / 16)), .int .u8 (dg (x % 16))] 5)).drew) from (HB4.out.alloc (by have := HB4.out.size; have := hbs'.out; omega) _).drew)
              have hbase := HBD.out.size
              have hbs := hbs'.out
              rw [← hbs] at hbase
              clear hbs
              have hbase2 := Aside0.mk hbase
              clear hbase
              go_wp2
              go_region_law (refine step_append_ownX rfl (.tmp 39) (.tmp 46) 28 rfl (w.heap.size + 1) 5 i0 (.int .u8 0) 1 1 Try.underlying28 hi hz0 hz1 hz2 rfl (by decide) v4 ((outL (setL l) 10).length + 1) (nums .u8 (outL (setL l) 10) ++ [.int .u8 45]) (by simp [Act.eval, Act.put]) HOD.out ⟨w4.heap.size, 0, none⟩ 2 2 [.int .u8 (dg (x / 16)), .int .u8 (dg (x % 16))] (by simp [Act.eval, Act.put]) rfl HCD.out (by simp [Value.oneCell']) (by simp only [maxLen]; omega) (by omega) hbase2.out ?_; intro v' w' hown hgrow)
              all_goals (go_wp2; refine ⟨⟨10 + 1, _, by omega, rfl, rfl, ?_, ?_⟩, by simp [intOf]; try omega⟩)
              all_goals first
                | (rw [show outL (setL l) (10 + 1) = outL (setL l) 10 ++ oneL 10 x from by rw [outL, hsx], oneL, show dashB 10 = true from rfl]; simpa [nums] using hown)
                | exact HBD.out.grown hgrow (by have := hbase2.out; have := HBD.out.size; omega) (fun j hj => (HOD.out.lt j hj).1)
            ·
              have hdf : dashB k = false := by simp [dashB, k4, k6, k8, k10]
              have e4 : ((k : Int) == 4) = false := beq_false_of_ne (by omega)
              have e6 : ((k : Int) == 6) = false := beq_false_of_ne (by omega)
              have e8 : ((k : Int) == 8) = false := beq_false_of_ne (by omega)
              have e10 : ((k : Int) == 10) = false := beq_false_of_ne (by omega)
              have hy0 := hx0
              have hy1 := hx1
              have hsx : (setL l).getD k 0 = x := by rw [hsx, ← hx]; unfold nmC; rw [if_neg k6, if_neg k8]
              have hol := out_len (setL l) k
              have HO4 := HO
              have HB4 := HB
              have a1 : IntKind.u8.wrap (Int.tdiv x 16) = x / 16 := wrap_quo x hy0 hy1
              have a2 : Int.tmod x 16 = x % 16 := wrap_rem x hy0 hy1
              have s1 := fun wx => dig_at (x / 16) (by omega) (by omega) wx
              have s2 := fun wx => dig_at (x % 16) (by omega) (by omega) wx
              have HOD := Aside0.mk (show ((wr.alloc (.cells #[.int .u8 (dg (x / 16)), .int .u8 (dg (x % 16))] 5)).drew).ownsRow (w.heap.size + 1) 5 1 vv (outL (setL l) k).length (nums .u8 (outL (setL l) k)) from pw_own_below HO4.out (below_drew (below_alloc (Below.refl _ _) _)))
              have HCD := Aside0.mk (show ∀ j u, [Value.int .u8 (dg (x / 16)), .int .u8 (dg (x % 16))][j]? = some u → ((wr.alloc (.cells #[.int .u8 (dg (x / 16)), .int .u8 (dg (x % 16))] 5)).drew).cell? ((⟨wr.heap.size, 0, none⟩ : Addr).add j) = some u from fun j u h => two_cells wr _ _ _ j u h)
              have HBD := Aside0.mk (show Below (w.heap.size + 1) wb ((wr.alloc (.cells #[.int .u8 (dg (x / 16)), .int .u8 (dg (x % 16))] 5)).drew) from (HB4.out.alloc (by have := HB4.out.size; have := hbs'.out; omega) _).drew)
              have hbase := HBD.out.size
              have hbs := hbs'.out
              rw [← hbs] at hbase
              clear hbs
              have hbase2 := Aside0.mk hbase
              clear hbase
              go_wp2
              go_region_law (refine step_append_ownX rfl (.tmp 39) (.tmp 46) 28 rfl (w.heap.size + 1) 5 i0 (.int .u8 0) 1 1 Try.underlying28 hi hz0 hz1 hz2 rfl (by decide) vv (outL (setL l) k).length (nums .u8 (outL (setL l) k)) (by simp [Act.eval, Act.put]) HOD.out ⟨wr.heap.size, 0, none⟩ 2 2 [.int .u8 (dg (x / 16)), .int .u8 (dg (x % 16))] (by simp [Act.eval, Act.put]) rfl HCD.out (by simp [Value.oneCell']) (by simp only [maxLen]; omega) (by omega) hbase2.out ?_; intro v' w' hown hgrow)
              all_goals (go_wp2; refine ⟨⟨k + 1, _, by omega, rfl, rfl, ?_, ?_⟩, by simp [intOf]; try omega⟩)
              all_goals first
                | (rw [show outL (setL l) (k + 1) = outL (setL l) k ++ oneL k x from by rw [outL, hsx], oneL, show dashB k = false from hdf]; simpa [nums] using hown)
                | exact HBD.out.grown hgrow (by have := hbase2.out; have := HBD.out.size; omega) (fun j hj => (HOD.out.lt j hj).1)
    · have hke : k = 16 := by omega
      subst hke
      have hst := own_string Try.underlying28 Try.underlying5 Try.underlying9 HO.out
      go_wp2
      go_ret
      exact ⟨rfl, B0.out.trans (HB.out.mono (Nat.le_succ _))⟩
end Go.Proofs.Ytdombgagobooiaa.Id
