/- Two names are the same just if their bytes are, but for the six bits that are given: the law's walk. -/
import Derived.Test.YtdombgagobooiaaIdNames
import Derived.BigRegion
import Derived.Laws.StructEq
namespace Go.Proofs.Ytdombgagobooiaa.Id
open Go.RowKit Go.Proofs.YtdombgagobooiaaW.PrintWords Go.Proofs.YtdombgagobooiaaW.PrintLast Go.Proofs.YtdombgagobooiaaW.PrintMore Go.Proofs.Ytdombgagobooiaa.Pl Go.Proofs.Ytdombgagobooiaa.G Go.Proofs.Ytdombgagobooiaa.P
set_option linter.unusedVariables false
set_option linter.unusedSimpArgs false
theorem Arr.other {B D : Nat} {xs : List Int} {w : World} (h : Arr B xs w) (hne : D ≠ B) (j : Nat) (v : Value) : Arr B xs (w.setCell ⟨D, j, none⟩ v) := by
  unfold Arr at *
  simp [World.setCell, Array.getElem?_modify, h, hne]
/-- The class of worlds in which the law's two arrays stand as they were. -/
def Cls2 (B D : Nat) (l m : List Int) (W : World) (w : World) : Prop := Arr B l w ∧ Arr D m w ∧ Below B W w
theorem Cls2.step {B D : Nat} {l m : List Int} {W w w' : World} (h : Cls2 B D l m W w) (hb : Below w.heap.size w w') : Cls2 B D l m W w' := by
  have hlt : B < w.heap.size := (Array.getElem?_eq_some_iff.1 h.1).1
  have hlt2 : D < w.heap.size := (Array.getElem?_eq_some_iff.1 h.2.1).1
  exact ⟨h.1.mono (hb.block B hlt), h.2.1.mono (hb.block D hlt2), h.2.2.trans (hb.mono (Nat.le_of_lt hlt))⟩
theorem Arr.row {B : Nat} {l : List Int} (hl : l.length = 16) {w : World} (h : Arr B l w) : (loadVar 22 ⟨B, 0, none⟩).run Try.prog w = .ok (.agg (l.map (Value.int .u8)).toArray) w := by
  have hsz : (Try.prog.info? 22).map (·.size) = some (l.map (Value.int .u8)).toArray.size := by
    have h0 : (Try.prog.info? 22).map (·.size) = some 16 := by kernel_rfl
    rw [h0]
    simp [hl]
  exact run_loadVar_row w B _ _ _ _ _ h Try.underlying22 rfl hsz
theorem bits63 {x : Int} (h : byte x) : Go.bits .and .u8 x 63 = x % 64 := by
  obtain ⟨n, rfl, hn⟩ : ∃ n : Nat, x = n ∧ n < 256 := ⟨x.toNat, by have := h.1; omega, by have := h.2; omega⟩
  have H : ∀ n : Nat, n < 256 → Go.bits .and .u8 (n : Int) 63 = (n : Int) % 64 := by decide +kernel
  exact H n hn
theorem wpList_load_rowG {P : Program} {ops : Array Oper} {rest : List Oper} {o : Oper} {a : Act} {w : World} {Q : Exit → Act → World → Prop} (hw : Region.wanted o (yielded ops a.tmps) = true) (ty : TypeId) (x : Operand) (ho : o.op = .load ty x)
    (g : Nat) (hx : a.eval x = .pointer (some ⟨g, 0, none⟩)) (t : TypeId) (cs : Array Value) (fr : Nat × Nat) (d : TypeDesc) (hg : w.heap[g]? = some (.cells cs t fr))
    (hu : P.underlying ty = some d) (hd : (match d with | .struct _ | .array _ _ => true | _ => false) = true) (hi : (P.info? ty).map (·.size) = some cs.size)
    (h : wpList P ops Q rest (a.put o.dst (.agg cs)) w) : wpList P ops Q (o :: rest) a w := by
  simp only [wpList, hw, if_true]
  exact Or.inl (wp_load_row ty x ho g hx t cs fr d hg hu hd hi h)
theorem all_range (xs ys : List Int) (h : xs.length = ys.length) : ((List.range xs.length).all fun i => xs.getD i 0 == ys.getD i 0) = (xs == ys) := by
  induction xs generalizing ys with
  | nil => cases ys with
    | nil => rfl
    | cons y ys => simp at h
  | cons x xs ih => cases ys with
    | nil => simp at h
    | cons y ys =>
      have := ih ys (by simpa using h)
      rw [List.length_cons, List.range_succ_eq_map, List.all_cons, List.all_map]
      simp only [List.getD_cons_zero, Function.comp_def, List.getD_cons_succ, this]
      simp [List.cons_beq_cons]
/-- Two arrays of numbers are one just if their lists are. -/
theorem eql_iarr {P : Program} (w : World) (t e : TypeId) (n : Nat) (k : IntKind) (ht : P.underlying t = some (.array n e)) (he : P.underlying e = some (.int k)) (hsz : ∀ w, (sizeOf e).run P w = .ok 1 w)
    (xs ys : List Int) (hx : xs.length = n) (hy : ys.length = n) : (binOp .eql t (.agg (xs.map (Value.int k)).toArray) (.agg (ys.map (Value.int k)).toArray)).run P w = .ok (.bool (xs == ys)) w := by
  have main : (Op.equalIn (9998 + 2) t (.agg (xs.map (Value.int k)).toArray) (.agg (ys.map (Value.int k)).toArray)).run P w = .ok (xs == ys) w := by
    rw [← all_range xs ys (hx.trans hy.symm), hx, List.range_eq_range', Op.equalIn]
    simp only [Sem.run_bind, run_underlying ht, Result.andThen_ok, hsz, Std.Legacy.Range.forIn_eq_forIn_range', Std.Legacy.Range.size, Nat.sub_zero, Nat.add_sub_cancel, Nat.div_one]
    have hl : ∀ i ∈ List.range' 0 n 1, i < n := fun i hi => by simpa using (List.mem_range'_1.1 hi).2
    generalize List.range' 0 n 1 = l at hl ⊢
    induction l with
    | nil => simp
    | cons i l ih =>
      have hi : i < n := hl i (by simp)
      have px : (part e (xs.map (Value.int k)).toArray (i * 1)).run P w = .ok (.int k (xs.getD i 0)) w := by
        simp [part, isAgg, run_underlying he, List.getD, List.getElem?_eq_getElem (show i < xs.length by omega)]
      have py : (part e (ys.map (Value.int k)).toArray (i * 1)).run P w = .ok (.int k (ys.getD i 0)) w := by
        simp [part, isAgg, run_underlying he, List.getD, List.getElem?_eq_getElem (show i < ys.length by omega)]
      have pe : (Op.equalIn (9998 + 1) e (.int k (xs.getD i 0)) (.int k (ys.getD i 0))).run P w = .ok (xs.getD i 0 == ys.getD i 0) w := run_equalIn_int w 9998 e k k _ _ he
      simp only [List.forIn_cons, Sem.run_bind, px, py, pe, Result.andThen_ok, List.all_cons]
      cases hb : (xs.getD i 0 == ys.getD i 0)
      · simp
      · simp only [Bool.not_true, Bool.false_eq_true, if_false, Sem.run_pure, Result.andThen_ok, Bool.true_and]
        exact ih fun j hj => hl j (by simp [hj])
  rw [run_eql_struct, main]
  rfl
def maskL (l : List Int) : List Int := (l.set 6 (l.getD 6 0 % 16)).set 8 (l.getD 8 0 % 64)
theorem mask_len (l : List Int) : (maskL l).length = l.length := by unfold maskL; simp
theorem mask_at (l : List Int) (hl : l.length = 16) (k : Nat) (hk : k < 16) : (maskL l).getD k 0 = if k = 6 then l.getD 6 0 % 16 else if k = 8 then l.getD 8 0 % 64 else l.getD k 0 := by
  unfold maskL
  rw [List.getD_eq_getElem?_getD, List.getElem?_set, List.getElem?_set, List.length_set, hl]
  by_cases h8 : k = 8
  · subst h8; simp
  · by_cases h6 : k = 6
    · subst h6; simp
    · simp [h8, h6, Ne.symm h8, Ne.symm h6, List.getD_eq_getElem?_getD]
theorem ext16 {a b : List Int} (ha : a.length = 16) (hb : b.length = 16) (h : ∀ k, k < 16 → a.getD k 0 = b.getD k 0) : a = b := by
  refine List.ext_getElem (by omega) fun k h1 h2 => ?_
  have := h k (by omega)
  rwa [List.getD_eq_getElem?_getD, List.getD_eq_getElem?_getD, List.getElem?_eq_getElem h1, List.getElem?_eq_getElem h2] at this
theorem dg_inj {a b : Int} (ha : 0 ≤ a ∧ a < 16) (hb : 0 ≤ b ∧ b < 16) (h : dg a = dg b) : a = b := by
  have := congrArg hxv h
  rwa [hxv_dg a ha.1 ha.2, hxv_dg b hb.1 hb.2] at this
def nib (j : Nat) : Nat := posd j
set_option maxHeartbeats 1000000 in
theorem of_dig (m : List Int) (j : Nat) (hj : j < 16) : (outL m 16).getD (posd j) 0 = dg (m.getD j 0 / 16) ∧ (outL m 16).getD (posd j + 1) 0 = dg (m.getD j 0 % 16) := by
  rw [out_36]
  have : j = 0 ∨ j = 1 ∨ j = 2 ∨ j = 3 ∨ j = 4 ∨ j = 5 ∨ j = 6 ∨ j = 7 ∨ j = 8 ∨ j = 9 ∨ j = 10 ∨ j = 11 ∨ j = 12 ∨ j = 13 ∨ j = 14 ∨ j = 15 := by omega
  rcases this with rfl | rfl | rfl | rfl | rfl | rfl | rfl | rfl | rfl | rfl | rfl | rfl | rfl | rfl | rfl | rfl <;> exact ⟨rfl, rfl⟩
theorem of_inj {a b : List Int} (ha : a.length = 16) (hb : b.length = 16) (ba : ∀ x ∈ a, byte x) (bb : ∀ x ∈ b, byte x) (h : ofL a = ofL b) : setL a = setL b := by
  refine ext16 (by rw [set_len, ha]) (by rw [set_len, hb]) fun k hk => ?_
  have pa := set_byte a ha ba k hk
  have pb := set_byte b hb bb k hk
  unfold ofL at h
  have h1 := of_dig (setL a) k hk
  have h2 := of_dig (setL b) k hk
  rw [h] at h1
  have e1 := dg_inj (by have := pa.1; have := pa.2; omega) (by have := pb.1; have := pb.2; omega) (h1.1.symm.trans h2.1)
  have e2 := dg_inj (by omega) (by omega) (h1.2.symm.trans h2.2)
  have := pa.1; have := pb.1
  omega
theorem set_mask {a b : List Int} (ha : a.length = 16) (hb : b.length = 16) (ba : ∀ x ∈ a, byte x) (bb : ∀ x ∈ b, byte x) : setL a = setL b ↔ maskL a = maskL b := by
  have ga : ∀ k, k < 16 → byte (a.getD k 0) := fun k hk => by
    rw [List.getD_eq_getElem?_getD, List.getElem?_eq_getElem (by omega)]; exact ba _ (List.getElem_mem _)
  have gb : ∀ k, k < 16 → byte (b.getD k 0) := fun k hk => by
    rw [List.getD_eq_getElem?_getD, List.getElem?_eq_getElem (by omega)]; exact bb _ (List.getElem_mem _)
  have key : ∀ k, k < 16 → ((setL a).getD k 0 = (setL b).getD k 0 ↔ (maskL a).getD k 0 = (maskL b).getD k 0) := by
    intro k hk
    rw [set_at a ha k hk, set_at b hb k hk, mask_at a ha k hk, mask_at b hb k hk]
    unfold nmC
    split
    · unfold v6; constructor <;> intro h <;> omega
    · split
      · unfold v8; constructor <;> intro h <;> omega
      · exact Iff.rfl
  constructor
  · intro h
    exact ext16 (by rw [mask_len, ha]) (by rw [mask_len, hb]) fun k hk => (key k hk).1 (by rw [h])
  · intro h
    exact ext16 (by rw [set_len, ha]) (by rw [set_len, hb]) fun k hk => (key k hk).2 (by rw [h])
theorem apart {a b : List Int} (ha : a.length = 16) (hb : b.length = 16) (ba : ∀ x ∈ a, byte x) (bb : ∀ x ∈ b, byte x) : ((nm a).toList == (nm b).toList) = decide (maskL a = maskL b) := by
  rw [beq_iff, nm_bytes a ha ba, nm_bytes b hb bb]
  have : ofL a = ofL b ↔ maskL a = maskL b := by
    rw [← set_mask ha hb ba bb]
    exact ⟨fun h => of_inj ha hb ba bb h, fun h => by unfold ofL; rw [h]⟩
  exact decide_eq_decide.2 this
set_option maxHeartbeats 400000 in
set_option maxRecDepth 100000 in
theorem apart_walk (l m : List Int) (hl : l.length = 16) (hm : m.length = 16) (hb : ∀ x ∈ l, byte x) (hc : ∀ x ∈ m, byte x) (W : World) :
    Calls Try.prog 4 #[.agg (l.map (Value.int .u8)).toArray, .agg (m.map (Value.int .u8)).toArray] W fun e w' => e = .returned (.bool true) ∧ Below W.heap.size W w' := by
  obtain ⟨wb, hwb⟩ : ∃ wb, (W.alloc (.cells (l.map (Value.int .u8)).toArray 22)).alloc (.cells (m.map (Value.int .u8)).toArray 22) = wb := ⟨_, rfl⟩
  have c0 : Cls2 W.heap.size (W.heap.size + 1) l m W wb := by
    rw [← hwb]
    have a1 := arr_new W l
    have a2 := arr_new (W.alloc (.cells (l.map (Value.int .u8)).toArray 22)) m
    have hs : (W.alloc (.cells (l.map (Value.int .u8)).toArray 22)).heap.size = W.heap.size + 1 := by simp
    rw [hs] at a2
    have b1 := (Below.refl W.heap.size W).alloc (Nat.le_refl _) (.cells (l.map (Value.int .u8)).toArray 22)
    have b2 := below_alloc (Below.refl (W.alloc (.cells (l.map (Value.int .u8)).toArray 22)).heap.size (W.alloc (.cells (l.map (Value.int .u8)).toArray 22))) (.cells (m.map (Value.int .u8)).toArray 22)
    rw [hs] at b2
    exact ⟨a1.mono (b2.block _ (Nat.lt_succ_self _)), a2, b1.trans (b2.mono (Nat.le_succ _))⟩
  obtain ⟨C, hC⟩ : ∃ C, C = Cls2 W.heap.size (W.heap.size + 1) l m W := ⟨_, rfl⟩
  have C0 := Aside0.mk c0
  clear c0
  have HA := Aside0.mk awake_walk
  go_enter Try.func4, Try.ntmps4
  go_wp2
  have c1 : C wb := by rw [hC]; exact C0.out
  have hC0 : C wb.drew := by rw [hC] at c1 ⊢; exact c1.step (below_drew (Below.refl _ _))
  have hinh : ∀ p : Prop, (∀ w, C w → p) = p := fun p => propext ⟨fun h => h _ c1, fun h _ _ => h⟩
  have hrow : ∀ w, C w → (loadVar 22 ⟨W.heap.size, 0, none⟩).run Try.prog w = .ok (.agg (l.map (Value.int .u8)).toArray) w := by
    intro w hw
    rw [hC] at hw
    exact hw.1.row hl
  have hrow2 : ∀ w, C w → (loadVar 22 ⟨W.heap.size + 1, 0, none⟩).run Try.prog w = .ok (.agg (m.map (Value.int .u8)).toArray) w := by
    intro w hw
    rw [hC] at hw
    exact hw.2.1.row hm
  have hOf : ∀ w, C w → Calls Try.prog 7 #[.agg (l.map (Value.int .u8)).toArray] w fun e w' => e = .returned (.string (nm l)) ∧ C w' := by
    intro w hw
    rw [hC] at hw ⊢
    exact (of_walk l hl hb w).mono (fun e w' h => ⟨h.1, hw.step h.2⟩)
  have hOf2 : ∀ w, C w → Calls Try.prog 7 #[.agg (m.map (Value.int .u8)).toArray] w fun e w' => e = .returned (.string (nm m)) ∧ C w' := by
    intro w hw
    rw [hC] at hw ⊢
    exact (of_walk m hm hc w).mono (fun e w' h => ⟨h.1, hw.step h.2⟩)
  obtain ⟨q, hq⟩ : ∃ q, ((nm l).toList == (nm m).toList) = q := ⟨_, rfl⟩
  have O1 := Aside0.mk hOf
  have O2 := Aside0.mk hOf2
  have O6 := Aside0.mk hrow
  have O9 := Aside0.mk hrow2
  have O7 := Aside0.mk hC
  have O8 := Aside0.mk c1
  clear hOf hOf2 hrow hrow2 hC c1 C0 hwb
  refine region_cls (C := C) (by kernel_rfl) (by kernel_rfl) hC0 ?_
  clear hC0
  repeat (first
    | go_big_quiet_skip
    | (go_big_quiet_want; first
        | (refine quiet_row 22 (.tmp 2) ⟨W.heap.size, 0, none⟩ (.agg (l.map (Value.int .u8)).toArray) rfl rfl O6.out ?_
           simp only [Act.put, List.setIfInBounds_toArray, List.set_cons_zero, List.set_cons_succ]
           go_big_quiet_on)
        | (refine quiet_row 22 (.tmp 3) ⟨W.heap.size + 1, 0, none⟩ (.agg (m.map (Value.int .u8)).toArray) rfl rfl O9.out ?_
           simp only [Act.put, List.setIfInBounds_toArray, List.set_cons_zero, List.set_cons_succ]
           go_big_quiet_on)
        | (go_big_quiet_op; first
            | go_big_quiet_on
            | go_big_quiet_call (first
                | with_reducible exact O1.out _
                | with_reducible exact O2.out _))))
  refine wpQuiet_nil ?_
  intro w2 hw2
  rw [O7.out] at hw2
  clear hinh
  have HW := Aside0.mk hw2
  have ga : ∀ k, k < 16 → byte (l.getD k 0) := fun k hk => by
    rw [List.getD_eq_getElem?_getD, List.getElem?_eq_getElem (by omega)]; exact hb _ (List.getElem_mem _)
  have gb : ∀ k, k < 16 → byte (m.getD k 0) := fun k hk => by
    rw [List.getD_eq_getElem?_getD, List.getElem?_eq_getElem (by omega)]; exact hc _ (List.getElem_mem _)
  have q1 := hw2.1.cell 6 (by omega)
  have q2 := hw2.1.cell 8 (by omega)
  have q3 := hw2.2.1.cell 6 (by omega)
  have q4 := hw2.2.1.cell 8 (by omega)
  have r1 := hw2.1.free 6
  have r2 := hw2.1.free 8
  have r3 := hw2.2.1.free 6
  have r4 := hw2.2.1.free 8
  have b1 : Go.bits .and .u8 (l.getD 6 0) 15 = l.getD 6 0 % 16 := u8_and15 _ (ga 6 (by omega)).1 (by have := (ga 6 (by omega)).2; omega)
  have b2 : Go.bits .and .u8 (m.getD 6 0) 15 = m.getD 6 0 % 16 := u8_and15 _ (gb 6 (by omega)).1 (by have := (gb 6 (by omega)).2; omega)
  have b3 : Go.bits .and .u8 (l.getD 8 0) 63 = l.getD 8 0 % 64 := bits63 (ga 8 (by omega))
  have b4 : Go.bits .and .u8 (m.getD 8 0) 63 = m.getD 8 0 % 64 := bits63 (gb 8 (by omega))
  obtain ⟨x1, e1⟩ : ∃ x, l.getD 6 0 = x := ⟨_, rfl⟩
  obtain ⟨x2, e2⟩ : ∃ x, l.getD 8 0 = x := ⟨_, rfl⟩
  obtain ⟨x3, e3⟩ : ∃ x, m.getD 6 0 = x := ⟨_, rfl⟩
  obtain ⟨x4, e4⟩ : ∃ x, m.getD 8 0 = x := ⟨_, rfl⟩
  rw [e1] at q1 b1
  rw [e2] at q2 b3
  rw [e3] at q3 b2
  rw [e4] at q4 b4
  have E1 := Aside0.mk e1
  have E2 := Aside0.mk e2
  have E3 := Aside0.mk e3
  have E4 := Aside0.mk e4
  clear e1 e2 e3 e4 hw2 ga gb
  go_wp2
  go_region
  have A1 := HW.out.1.set 6 (x1 % 16)
  have A2 := HW.out.2.1.set 6 (x3 % 16)
  obtain ⟨w3, hw3⟩ : ∃ w3, ((((w2.setCell ⟨W.heap.size, 6, none⟩ (.int .u8 (x1 % 16))).setCell ⟨W.heap.size + 1, 6, none⟩ (.int .u8 (x3 % 16))).setCell ⟨W.heap.size, 8, none⟩ (.int .u8 (x2 % 64))).setCell ⟨W.heap.size + 1, 8, none⟩ (.int .u8 (x4 % 64))).drew = w3 := ⟨_, rfl⟩
  rw [hw3]
  have k3 : Cls2 W.heap.size (W.heap.size + 1) (maskL l) (maskL m) W w3 := by
    have g1 : l.getD 6 0 % 16 = x1 % 16 := by rw [E1.out]
    have g2 : l.getD 8 0 % 64 = x2 % 64 := by rw [E2.out]
    have g3 : m.getD 6 0 % 16 = x3 % 16 := by rw [E3.out]
    have g4 : m.getD 8 0 % 64 = x4 % 64 := by rw [E4.out]
    have ne1 : W.heap.size + 1 ≠ W.heap.size := by omega
    have ne2 : W.heap.size ≠ W.heap.size + 1 := by omega
    have u1 := (((A1.other ne1 6 (.int .u8 (x3 % 16))).set 8 (x2 % 64)).other ne1 8 (.int .u8 (x4 % 64)))
    have u2 := ((((HW.out.2.1.other ne2 6 (.int .u8 (x1 % 16))).set 6 (x3 % 16)).other ne2 8 (.int .u8 (x2 % 64))).set 8 (x4 % 64))
    have d := below_drew (Below.refl ((((w2.setCell ⟨W.heap.size, 6, none⟩ (.int .u8 (x1 % 16))).setCell ⟨W.heap.size + 1, 6, none⟩ (.int .u8 (x3 % 16))).setCell ⟨W.heap.size, 8, none⟩ (.int .u8 (x2 % 64))).setCell ⟨W.heap.size + 1, 8, none⟩ (.int .u8 (x4 % 64))).heap.size ((((w2.setCell ⟨W.heap.size, 6, none⟩ (.int .u8 (x1 % 16))).setCell ⟨W.heap.size + 1, 6, none⟩ (.int .u8 (x3 % 16))).setCell ⟨W.heap.size, 8, none⟩ (.int .u8 (x2 % 64))).setCell ⟨W.heap.size + 1, 8, none⟩ (.int .u8 (x4 % 64))))
    have f : Cls2 W.heap.size (W.heap.size + 1) (maskL l) (maskL m) W ((((w2.setCell ⟨W.heap.size, 6, none⟩ (.int .u8 (x1 % 16))).setCell ⟨W.heap.size + 1, 6, none⟩ (.int .u8 (x3 % 16))).setCell ⟨W.heap.size, 8, none⟩ (.int .u8 (x2 % 64))).setCell ⟨W.heap.size + 1, 8, none⟩ (.int .u8 (x4 % 64))) := by
      refine ⟨?_, ?_, (((HW.out.2.2.setCell (Nat.le_refl _) _).setCell (Nat.le_succ _) _).setCell (Nat.le_refl _) _).setCell (Nat.le_succ _) _⟩
      · unfold maskL; rw [g1, g2]; exact u1
      · unfold maskL; rw [g3, g4]; exact u2
    rw [← hw3]
    exact f.step d
  have K3 := Aside0.mk k3
  clear k3 hw3
  have hE : ∀ W, (binOp .eql 22 (.agg ((maskL l).map (Value.int .u8)).toArray) (.agg ((maskL m).map (Value.int .u8)).toArray)).run Try.prog W = .ok (.bool q) W := by
    intro V
    rw [eql_iarr V 22 5 16 .u8 Try.underlying22 Try.underlying5 Try.sizeOf5 _ _ (by rw [mask_len, hl]) (by rw [mask_len, hm]), ← hq, apart hl hm hb hc]
    congr 2
    by_cases h : maskL l = maskL m
    · simp [h]
    · simp [h]
  have s1 : (Try.prog.info? 22).map (·.size) = some ((maskL l).map (Value.int .u8)).toArray.size := by
    have h0 : (Try.prog.info? 22).map (·.size) = some 16 := by kernel_rfl
    rw [h0]
    simp [mask_len, hl]
  have s2 : (Try.prog.info? 22).map (·.size) = some ((maskL m).map (Value.int .u8)).toArray.size := by
    have h0 : (Try.prog.info? 22).map (·.size) = some 16 := by kernel_rfl
    rw [h0]
    simp [mask_len, hm]
  have S1 := Aside0.mk s1
  have S2 := Aside0.mk s2
  clear s1 s2 hl hm hb hc
  clear q1 q2 q3 q4 r1 r2 r3 r4 A1 A2
  go_wp2_with (first
    | (go_at_call 6; refine (HA.out _).mono ?_; rintro e w4 ⟨rfl, h4⟩; have K4 := Aside0.mk (K3.out.step h4); clear h4)
    | (refine wpList_load_rowG (by simp [Region.wanted, yielded, go_sem]) 22 (.tmp 2) rfl W.heap.size rfl 22 _ (0, 0) _ K4.out.1 Try.underlying22 rfl S1.out ?_)
    | (refine wpList_load_rowG (by simp [Region.wanted, yielded, go_sem]) 22 (.tmp 3) rfl (W.heap.size + 1) rfl 22 _ (0, 0) _ K4.out.2.1 Try.underlying22 rfl S2.out ?_))
  go_ret
  exact ⟨rfl, K4.out.2.2⟩
theorem apart_row (a0 a1 : List Int) (W : World) (l0 : a0.length = 16) (w0 : ∀ z ∈ a0, (Lit.int .u8 z).wf = true) (l1 : a1.length = 16) (w1 : ∀ z ∈ a1, (Lit.int .u8 z).wf = true) :
    Calls Try.prog 4 #[.agg (a0.map (Value.int .u8)).toArray, .agg (a1.map (Value.int .u8)).toArray] W fun e w' => e = .returned (.bool true) ∧ Below W.heap.size W w' :=
  apart_walk a0 a1 l0 l1 (fun x hx => byte_of (w0 x hx)) (fun x hx => byte_of (w1 x hx)) W
end Go.Proofs.Ytdombgagobooiaa.Id
