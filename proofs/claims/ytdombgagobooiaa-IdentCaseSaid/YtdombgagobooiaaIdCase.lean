/- A name with a letter that is a capital one is none; nor is one with anything ahead or behind: the law's walk. -/
import Derived.Test.YtdombgagobooiaaIdNames
import Derived.Lib.ConvBytes
namespace Go.Proofs.Ytdombgagobooiaa.Id
open Go.RowKit Go.Proofs.YtdombgagobooiaaW.PrintWords Go.Proofs.YtdombgagobooiaaW.PrintLast Go.Proofs.YtdombgagobooiaaW.PrintMore Go.Proofs.Ytdombgagobooiaa.Pl Go.Proofs.Ytdombgagobooiaa.G Go.Proofs.Ytdombgagobooiaa.P
set_option linter.unusedVariables false
set_option linter.unusedSimpArgs false
/-- Block X holds these bytes, none of them frozen. -/
def Byt (X : Nat) (y : List Int) (w : World) : Prop := ∃ cs fz, w.heap[X]? = some (.cells cs 5 fz) ∧ y.length ≤ fz.1 ∧ ∀ j, j < y.length → cs[j]? = some (.int .u8 (y.getD j 0))
theorem Byt.mono {X : Nat} {y : List Int} {w w' : World} (h : Byt X y w) (hb : w'.heap[X]? = w.heap[X]?) : Byt X y w' := by
  obtain ⟨cs, fz, h1, h2⟩ := h
  exact ⟨cs, fz, hb.trans h1, h2⟩
theorem Byt.cell {X : Nat} {y : List Int} {w : World} (h : Byt X y w) (j : Nat) (hj : j < y.length) : w.cell? ⟨X, j, none⟩ = some (.int .u8 (y.getD j 0)) := by
  obtain ⟨cs, fz, h1, h2, h3⟩ := h
  unfold World.cell?
  rw [h1]
  simpa using h3 j hj
theorem Byt.free {X : Nat} {y : List Int} {w : World} (h : Byt X y w) (j : Nat) (hj : j < y.length) : w.frozen? ⟨X, j, none⟩ = false := by
  obtain ⟨cs, fz, h1, h2, h3⟩ := h
  unfold World.frozen?
  rw [h1]
  simp
  intro h
  omega
theorem Byt.set {X : Nat} {y : List Int} {w : World} (h : Byt X y w) (j : Nat) (x : Int) : Byt X (y.set j x) (w.setCell ⟨X, j, none⟩ (.int .u8 x)) := by
  obtain ⟨cs, fz, h1, h2, h3⟩ := h
  refine ⟨cs.setIfInBounds j (.int .u8 x), fz, by simp [World.setCell, Array.getElem?_modify, h1], by simpa using h2, fun i hi => ?_⟩
  rw [List.length_set] at hi
  have h4 := h3 i hi
  have hlt : i < cs.size := (Array.getElem?_eq_some_iff.1 h4).1
  rw [Array.getElem?_setIfInBounds]
  by_cases hij : j = i
  · subst hij
    simp [hlt, hi, List.getD]
  · rw [if_neg hij, h4]
    simp [List.getD, List.getElem?_set, hij]
theorem Byt.conv {X : Nat} {y : List Int} {w : World} (h : Byt X y w) (n cap : Nat) (hn : y.length = n) : (convert 28 9 (.slice (some ⟨X, 0, none⟩) n cap)).run Try.prog w = .ok (.string (strOfNums y)) w := by
  refine run_convert_bytes_arg w 28 5 Try.underlying28 Try.underlying5 X 0 n cap y hn (fun i hi => ?_) 9 Try.underlying9
  rw [Nat.zero_add]
  exact h.cell i (by omega)
theorem conv_run_n {P : Program} {a : Act} {o : Oper} {W : World} (n : Nat) (e src dst : Nat) (x : Operand) (ho : o.op = .convert src dst x) (s : ByteArray) (hx : a.eval x = .string s)
    (hs : P.underlying src = some .string) (hd : P.underlying dst = some (.slice e)) (he : P.underlying e = some (.int .u8)) (hn : s.size = n) :
    (execOp a.eval o).run P W = .ok (.value (.slice (some ⟨W.heap.size, 0, none⟩) n (grownCap W n 0 e))) (Lib.bytesWorld W e s) := by
  subst hn
  exact conv_run e src dst x ho s hx hs hd he
theorem byt_new (w : World) (s : ByteArray) : Byt w.heap.size (bytesOf s) (Lib.bytesWorld w 5 s) := by
  refine ⟨_, _, Lib.bytesWorld_at_new w 5 s, ?_, fun j hj => ?_⟩
  · rw [bytesOf_length]
    simp [Lib.bytesCells]
  · rw [bytesOf_length] at hj
    have := Lib.bytesWorld_cell w 5 s j hj
    unfold World.cell? at this
    rw [Lib.bytesWorld_at_new] at this
    simp only [Option.isSome_none, Bool.false_eq_true, if_false] at this
    rw [this]
    simp [bytesOf, List.getD, hj]
theorem quiet_conv {P : Program} {C : World → Prop} {o : Oper} {a : Act} {K : Act → Prop} (src dst : TypeId) (x : Operand) (v u : Value) (ho : o.op = .convert src dst x) (hx : a.eval x = v)
    (hr : ∀ w, C w → (convert src dst v).run P w = .ok u w) (h : K (a.put o.dst u)) : o.quiet P a C K := by
  refine ⟨u, fun w hw => ?_, h⟩
  unfold Oper.quietAt execOp
  simp only [ho]
  simp [hx, hr w hw, Oper.quietUpon, Result.andThen]
/-- The class of worlds in which the law's array and its bytes stand. -/
def Cls3 (B X : Nat) (l y : List Int) (W : World) (w : World) : Prop := Arr B l w ∧ Byt X y w ∧ Below B W w
theorem Cls3.step {B X : Nat} {l y : List Int} {W w w' : World} (h : Cls3 B X l y W w) (hb : Below w.heap.size w w') : Cls3 B X l y W w' := by
  have hlt : B < w.heap.size := (Array.getElem?_eq_some_iff.1 h.1).1
  obtain ⟨cs, fz, h1, h2⟩ := h.2.1
  have hlt2 : X < w.heap.size := (Array.getElem?_eq_some_iff.1 h1).1
  exact ⟨h.1.mono (hb.block B hlt), h.2.1.mono (hb.block X hlt2), h.2.2.trans (hb.mono (Nat.le_of_lt hlt))⟩
theorem Arr.other' {B X k : Nat} {l y : List Int} {w : World} (h : Arr B l w) (hx : Byt X y w) (hne : X ≠ B) (v : Value) : Arr B l (w.setCell ⟨X, k, none⟩ v) := by
  unfold Arr at *
  simp [World.setCell, Array.getElem?_modify, h, hne]
theorem case_same (l : List Int) (hl : l.length = 16) (hb : ∀ x ∈ l, byte x) : isQ (strOfNums (bytesOf (nm l))) = ((strOfNums (bytesOf (nm l))).toList == (nm l).toList) := by
  rw [str_bytes, fit_iff, nm_is l hl hb]
  exact (beq_self_eq_true _).symm
theorem case_cap (l : List Int) (hl : l.length = 16) (hb : ∀ x ∈ l, byte x) (k : Nat) (hk : k < 36) (c : Int) (h0 : 97 ≤ c) (h1 : c ≤ 102) (hc : (bytesOf (nm l)).getD k 0 = c) :
    isQ (strOfNums ((bytesOf (nm l)).set k (c - 32))) = ((strOfNums ((bytesOf (nm l)).set k (c - 32))).toList == (nm l).toList) := by
  have hby : ∀ x ∈ (bytesOf (nm l)).set k (c - 32), byte x := by
    intro x hx
    rcases List.mem_or_eq_of_mem_set hx with hx | rfl
    · exact bytes_all _ x hx
    · exact ⟨by omega, by omega⟩
  have hlen : (bytesOf (nm l)).length = 36 := by rw [bytesOf_length]; exact nm_size l
  have e2 : ((strOfNums ((bytesOf (nm l)).set k (c - 32))).toList == (nm l).toList) = false := by
    rw [beq_iff, bytes_str _ hby]
    apply decide_eq_false
    intro he
    have := congrArg (fun z => z.getD k 0) he
    simp only [hc] at this
    rw [List.getD_eq_getElem?_getD, List.getElem?_set_self (by omega)] at this
    simp only [Option.getD_some] at this
    omega
  rw [e2, fit_iff]
  have hby' := hby
  rw [nm_bytes l hl hb] at hby' ⊢
  exact cap_is l k hk (c - 32) hby' (by omega) (by omega)
set_option maxHeartbeats 400000 in
set_option maxRecDepth 100000 in
theorem case_walk (l : List Int) (hl : l.length = 16) (hb : ∀ x ∈ l, byte x) (t : Int) (ht : 0 ≤ t ∧ t ≤ 255) (S : ByteArray) (hz : S.size ≤ 140737488351232) (W : World) :
    Calls Try.prog 5 #[.agg (l.map (Value.int .u8)).toArray, .int .u8 t, .string S] W fun e w' => e = .returned (.bool true) ∧ Below W.heap.size W w' := by
  obtain ⟨wb, hwb⟩ : ∃ wb, W.alloc (.cells (l.map (Value.int .u8)).toArray 22) = wb := ⟨_, rfl⟩
  have c0 : Cls W.heap.size l W wb := by
    rw [← hwb]
    exact ⟨arr_new W l, (Below.refl _ _).alloc (Nat.le_refl _) _, Nat.le_refl _⟩
  have HA := Aside0.mk awake_walk
  by_cases hS : S.size > 100
  · have hd : decide ((100 : Int) < (S.size : Int)) = true := decide_eq_true (by omega)
    have C0 := Aside0.mk c0
    clear c0
    go_enter Try.func5, Try.ntmps5
    go_wp2_with (go_at_call 6; refine (HA.out _).mono ?_; rintro e w1 ⟨rfl, h1⟩)
    go_ret
    exact ⟨rfl, by have k1 : Below wb.heap.size wb _ := (by assumption); exact (Cls.step (C0.out.step k1) h1).2.1⟩
  · have hd : decide ((100 : Int) < (S.size : Int)) = false := decide_eq_false (by omega)
    obtain ⟨N, hN⟩ : ∃ N, nm l = N := ⟨_, rfl⟩
    have hsz : (Try.prog.info? 22).map (·.size) = some (l.map (Value.int .u8)).toArray.size := by
      have h0 : (Try.prog.info? 22).map (·.size) = some 16 := by kernel_rfl
      rw [h0]
      simp [hl]
    have hOf : ∀ w, Calls Try.prog 7 #[.agg (l.map (Value.int .u8)).toArray] w fun e w' => e = .returned (.string N) ∧ Below w.heap.size w w' := by
      intro w
      rw [← hN]
      exact of_walk l hl hb w
    have hNs : N.size = 36 := by rw [← hN]; exact nm_size l
    have O1 := Aside0.mk hOf
    have O2 := Aside0.mk hsz
    have O3 := Aside0.mk hNs
    have O4 := Aside0.mk hN
    have C0 := Aside0.mk c0
    clear c0 hOf hsz hNs hN
    have ht0 := ht.1
    have ht1 := ht.2
    obtain ⟨k, hk, hk36⟩ : ∃ k : Nat, t % 36 = (k : Int) ∧ k < 36 := ⟨(t % 36).toNat, by omega, by omega⟩
    obtain ⟨c, hcv⟩ : ∃ c, (bytesOf N).getD k 0 = c := ⟨_, rfl⟩
    have hbc : byte c := by
      have hl36 : (bytesOf N).length = 36 := by rw [bytesOf_length]; exact O3.out
      rw [← hcv, List.getD_eq_getElem?_getD, List.getElem?_eq_getElem (by omega)]
      exact bytes_all N _ (List.getElem_mem _)
    have hc0 := hbc.1
    have hc1 := hbc.2
    have HCV := Aside0.mk hcv
    have HBC := Aside0.mk hbc
    clear hcv hbc
    have hcls : ∀ w2, Cls W.heap.size l W w2 → Cls3 W.heap.size w2.heap.size l (bytesOf N) W (Lib.bytesWorld w2 5 N) := by
      intro w2 h
      have b := bytesWorld_below w2 5 N
      have h' := h.step b
      exact ⟨h'.1, byt_new w2 N, h'.2.1⟩
    have O5 := Aside0.mk hcls
    clear hcls
    have hS1 : S.size ≤ 100 := by omega
    have three : (97 ≤ c ∧ c ≤ 102) ∨ ¬ 97 ≤ c ∨ (97 ≤ c ∧ ¬ c ≤ 102) := by omega
    obtain ⟨H3, hH3⟩ : ∃ H3, H3 = ((97 ≤ c ∧ c ≤ 102) ∨ ¬ 97 ≤ c ∨ (97 ≤ c ∧ ¬ c ≤ 102)) := ⟨_, rfl⟩
    clear hH3 H3
    rcases three with ⟨hlo, hhi⟩ | hlo | ⟨hlo, hhi⟩
    all_goals go_enter Try.func5, Try.ntmps5
    all_goals go_wp2_with (first
      | (go_at_call 6; refine (HA.out _).mono ?_; rintro e w1 ⟨rfl, h1⟩; have C1 := Aside0.mk (C0.out.step h1); clear h1 hwb)
      | (refine wpList_load_row rfl 22 (.tmp 3) rfl W.heap.size rfl 22 _ (0, 0) _ C1.out.1 Try.underlying22 rfl O2.out ?_)
      | (go_at_call 7; refine (O1.out _).mono ?_; rintro e w2 ⟨rfl, h2⟩; have C2 := Aside0.mk (C1.out.step h2); clear h2)
      | (refine Kd.event_run rfl (conv_run_n 36 5 9 28 (.tmp 18) rfl N rfl Try.underlying9 Try.underlying28 Try.underlying5 O3.out) ?_
         have k3 := O5.out w2 C2.out
         have HXB := Aside0.mk (show w2.heap.size ≠ W.heap.size from Nat.ne_of_gt (Array.getElem?_eq_some_iff.1 C2.out.1).1)
         have HXG := Aside0.mk (show W.heap.size ≤ w2.heap.size from Nat.le_of_lt (Array.getElem?_eq_some_iff.1 C2.out.1).1)
         obtain ⟨w3, hw3⟩ : ∃ w3, Lib.bytesWorld w2 5 N = w3 := ⟨_, rfl⟩
         rw [hw3] at k3 ⊢
         clear hw3
         obtain ⟨X, hX⟩ : ∃ X, w2.heap.size = X := ⟨_, rfl⟩
         obtain ⟨cap, hcap⟩ : ∃ cap, grownCap w2 36 0 5 = cap := ⟨_, rfl⟩
         rw [hX] at k3 HXB HXG ⊢
         rw [hcap]
         clear hX hcap
         have hl36 : (bytesOf N).length = 36 := by rw [bytesOf_length]; exact O3.out
         have hcell := k3.2.1.cell k (by omega)
         rw [HCV.out] at hcell
         have hfree := k3.2.1.free k (by omega)
         have C3 := Aside0.mk k3
         have HL36 := Aside0.mk hl36
         clear k3 hl36))
    all_goals first
     | (
      have hq := case_cap l hl hb k hk36 c hlo hhi (by rw [← O4.out] at HCV; exact HCV.out)
      have ky : Cls3 W.heap.size X l ((bytesOf N).set k (c - 32)) W (w3.setCell ⟨X, k, none⟩ (.int .u8 (c - 32))) :=
        ⟨C3.out.1.other' C3.out.2.1 HXB.out _, C3.out.2.1.set k (c - 32), C3.out.2.2.setCell (Nat.le_of_lt (Nat.lt_of_le_of_ne HXG.out (Ne.symm HXB.out))) _⟩
      obtain ⟨wc, hwc⟩ : ∃ wc, w3.setCell ⟨X, k, none⟩ (.int .u8 (c - 32)) = wc := ⟨_, rfl⟩
      rw [hwc] at ky ⊢
      rw [O4.out] at hq
      obtain ⟨y, hy⟩ : ∃ y, (bytesOf N).set k (c - 32) = y := ⟨_, rfl⟩
      have hyl : y.length = 36 := by rw [← hy, List.length_set]; exact HL36.out
      rw [hy] at ky hq
      clear hy hwc)
     | (
      have ky := C3.out
      obtain ⟨wc, hwc⟩ : ∃ wc, w3 = wc := ⟨_, rfl⟩
      rw [hwc] at ky ⊢
      have hq := case_same l hl hb
      rw [O4.out] at hq
      obtain ⟨y, hy⟩ : ∃ y, bytesOf N = y := ⟨_, rfl⟩
      have hyl : y.length = 36 := by rw [← hy]; exact HL36.out
      rw [hy] at ky hq
      clear hy hwc)
    all_goals (
      clear hcell hfree HCV
      obtain ⟨Y, hY⟩ : ∃ Y, strOfNums y = Y := ⟨_, rfl⟩
      rw [hY] at hq
      obtain ⟨C, hC⟩ : ∃ C, C = Cls3 W.heap.size X l y W := ⟨_, rfl⟩
      have c1 : C wc := by rw [hC]; exact ky
      have hC0 : C wc.drew := by rw [hC] at c1 ⊢; exact c1.step (below_drew (Below.refl _ _))
      have hinh : ∀ p : Prop, (∀ w, C w → p) = p := fun p => propext ⟨fun h => h _ c1, fun h _ _ => h⟩
      have hrow : ∀ w, C w → (loadVar 22 ⟨W.heap.size, 0, none⟩).run Try.prog w = .ok (.agg (l.map (Value.int .u8)).toArray) w := by
        intro w hw
        rw [hC] at hw
        exact run_loadVar_row w W.heap.size _ _ _ _ _ hw.1 Try.underlying22 rfl O2.out
      have hcnv : ∀ w, C w → (convert 28 9 (.slice (some ⟨X, 0, none⟩) 36 cap)).run Try.prog w = .ok (.string Y) w := by
        intro w hw
        rw [hC] at hw
        rw [← hY]
        exact hw.2.1.conv 36 cap hyl
      have hOf : ∀ w, C w → Calls Try.prog 7 #[.agg (l.map (Value.int .u8)).toArray] w fun e w' => e = .returned (.string N) ∧ C w' := by
        intro w hw
        rw [hC] at hw ⊢
        exact (O1.out w).mono (fun e w' h => ⟨h.1, hw.step h.2⟩)
      obtain ⟨q, hqq⟩ : ∃ q, (Y.toList == N.toList) = q := ⟨_, rfl⟩
      rw [hqq] at hq
      have hIs : ∀ w, C w → Calls Try.prog 9 #[.string Y] w fun e w' => e = .returned (.bool q) ∧ C w' := by
        intro w hw
        rw [hC] at hw ⊢
        rw [← hq]
        exact (is_walk Y w).mono (fun e w' h => ⟨h.1, hw.step h.2⟩)
      obtain ⟨r, hr⟩ : ∃ r, S.toList.isEmpty = r := ⟨_, rfl⟩
      have hr1 : isQ (S ++ N) = r := by rw [← hr, ← O4.out, fit_iff]; exact is_ahead S l hl hb
      have hr2 : isQ (N ++ S) = r := by rw [← hr, ← O4.out, fit_iff]; exact is_behind S l hl hb
      have hI1 : ∀ w, C w → Calls Try.prog 9 #[.string (S ++ N)] w fun e w' => e = .returned (.bool r) ∧ C w' := by
        intro w hw
        rw [hC] at hw ⊢
        rw [← hr1]
        exact (is_walk (S ++ N) w).mono (fun e w' h => ⟨h.1, hw.step h.2⟩)
      have hI2 : ∀ w, C w → Calls Try.prog 9 #[.string (N ++ S)] w fun e w' => e = .returned (.bool r) ∧ C w' := by
        intro w hw
        rw [hC] at hw ⊢
        rw [← hr2]
        exact (is_walk (N ++ S) w).mono (fun e w' h => ⟨h.1, hw.step h.2⟩)
      have hcat1 : ¬ (9223372036854775807 < S.size + N.size) := by have := O3.out; omega
      have hcat2 : ¬ (9223372036854775807 < N.size + S.size) := by have := O3.out; omega
      have P1 := Aside0.mk hrow
      have P2 := Aside0.mk hcnv
      have P3 := Aside0.mk hOf
      have P4 := Aside0.mk hIs
      have P5 := Aside0.mk hI1
      have P6 := Aside0.mk hI2
      have P7 := Aside0.mk hC
      clear hrow hcnv hOf hIs hI1 hI2 hC hr1 hr2 hq ky hY c1
      refine region_cls (C := C) (by kernel_rfl) (by kernel_rfl) hC0 ?_
      clear hC0
      repeat (first
        | go_big_quiet_skip
        | (go_big_quiet_want; first
            | (refine quiet_row 22 (.tmp 3) ⟨W.heap.size, 0, none⟩ (.agg (l.map (Value.int .u8)).toArray) rfl rfl P1.out ?_
               simp only [Act.put, List.setIfInBounds_toArray, List.set_cons_zero, List.set_cons_succ]
               go_big_quiet_on)
            | (refine quiet_conv 28 9 (.tmp 46) (.slice (some ⟨X, 0, none⟩) 36 cap) (.string Y) rfl rfl P2.out ?_
               simp only [Act.put, List.setIfInBounds_toArray, List.set_cons_zero, List.set_cons_succ]
               go_big_quiet_on)
            | (refine quiet_conv 28 9 (.tmp 49) (.slice (some ⟨X, 0, none⟩) 36 cap) (.string Y) rfl rfl P2.out ?_
               simp only [Act.put, List.setIfInBounds_toArray, List.set_cons_zero, List.set_cons_succ]
               go_big_quiet_on)
            | (go_big_quiet_op; first
                | go_big_quiet_on
                | go_big_quiet_call (first
                    | with_reducible exact P3.out _
                    | with_reducible exact P4.out _
                    | with_reducible exact P5.out _
                    | with_reducible exact P6.out _)))))
    all_goals (
      refine wpQuiet_nil ?_
      intro w' hw'
      go_wp2
      go_ret
      rw [P7.out] at hw'
      exact ⟨rfl, hw'.2.2⟩)
theorem case_row (a0 : List Int) (a1 : Int) (a2 : ByteArray) (W : World) (l0 : a0.length = 16) (w0 : ∀ z ∈ a0, (Lit.int .u8 z).wf = true) (w1 : (Lit.int .u8 a1).wf = true) (w2 : a2.size ≤ 140737488351232) :
    Calls Try.prog 5 #[.agg (a0.map (Value.int .u8)).toArray, .int .u8 a1, .string a2] W fun e w' => e = .returned (.bool true) ∧ Below W.heap.size W w' :=
  case_walk a0 l0 (fun x hx => byte_of (w0 x hx)) a1 (byte_of w1) a2 w2 W
end Go.Proofs.Ytdombgagobooiaa.Id
