/- The name of any bytes, and whether any text is one, is what the document says: the law's walk. -/
import Derived.Test.YtdombgagobooiaaIdQ
namespace Go.Proofs.Ytdombgagobooiaa.Id
open Go.RowKit Go.Proofs.YtdombgagobooiaaW.PrintWords Go.Proofs.YtdombgagobooiaaW.PrintLast Go.Proofs.YtdombgagobooiaaW.PrintMore Go.Proofs.Ytdombgagobooiaa.Pl Go.Proofs.Ytdombgagobooiaa.G Go.Proofs.Ytdombgagobooiaa.P
set_option linter.unusedVariables false
set_option linter.unusedSimpArgs false
/-- The class of worlds in which the law's own array stands as it was. -/
def Cls (B : Nat) (l : List Int) (W : World) (w : World) : Prop := Arr B l w ∧ Below B W w ∧ W.heap.size ≤ B
theorem Cls.step {B : Nat} {l : List Int} {W w w' : World} (h : Cls B l W w) (hb : Below w.heap.size w w') : Cls B l W w' := by
  have hlt : B < w.heap.size := (Array.getElem?_eq_some_iff.1 h.1).1
  exact ⟨h.1.mono (hb.block B hlt), h.2.1.trans (hb.mono (Nat.le_of_lt hlt)), h.2.2⟩
theorem Cls.row {B : Nat} {l : List Int} (hl : l.length = 16) {W w : World} (h : Cls B l W w) : (loadVar 22 ⟨B, 0, none⟩).run Try.prog w = .ok (.agg (l.map (Value.int .u8)).toArray) w := by
  have hsz : (Try.prog.info? 22).map (·.size) = some (l.map (Value.int .u8)).toArray.size := by
    have h0 : (Try.prog.info? 22).map (·.size) = some 16 := by kernel_rfl
    rw [h0]
    simp [hl]
  exact run_loadVar_row w B _ _ _ _ _ h.1 Try.underlying22 rfl hsz
set_option maxHeartbeats 400000 in
set_option maxRecDepth 100000 in
theorem names_walk (l : List Int) (hl : l.length = 16) (hb : ∀ x ∈ l, byte x) (S : ByteArray) (hz : S.size ≤ 140737488351232) (W : World) :
    Calls Try.prog 3 #[.agg (l.map (Value.int .u8)).toArray, .string S] W fun e w' => e = .returned (.bool true) ∧ Below W.heap.size W w' := by
  obtain ⟨wb, hwb⟩ : ∃ wb, W.alloc (.cells (l.map (Value.int .u8)).toArray 22) = wb := ⟨_, rfl⟩
  have c0 : Cls W.heap.size l W wb := by
    rw [← hwb]
    exact ⟨arr_new W l, (Below.refl _ _).alloc (Nat.le_refl _) _, Nat.le_refl _⟩
  have HA := Aside0.mk awake_walk
  by_cases hS : S.size > 100
  · have hd : decide ((100 : Int) < (S.size : Int)) = true := decide_eq_true (by omega)
    have C0 := Aside0.mk c0
    clear c0
    go_enter Try.func3, Try.ntmps3
    go_wp2_with (go_at_call 6; refine (HA.out _).mono ?_; rintro e w1 ⟨rfl, h1⟩)
    go_ret
    exact ⟨rfl, by have k1 : Below wb.heap.size wb _ := (by assumption); exact (Cls.step (C0.out.step k1) h1).2.1⟩
  · have hd : decide ((100 : Int) < (S.size : Int)) = false := decide_eq_false (by omega)
    obtain ⟨C, hC⟩ : ∃ C, C = Cls W.heap.size l W := ⟨_, rfl⟩
    have C0 := Aside0.mk c0
    clear c0
    go_enter Try.func3, Try.ntmps3
    go_wp2_with (go_at_call 6; refine (HA.out _).mono ?_; rintro e w1 ⟨rfl, h1⟩)
    have c1 : C w1 := by rw [hC]; exact C0.out.step h1
    have hC0 : C w1.drew := by rw [hC] at c1 ⊢; exact c1.step (below_drew (Below.refl _ _))
    have hinh : ∀ p : Prop, (∀ w, C w → p) = p := fun p => propext ⟨fun h => h _ c1, fun h _ _ => h⟩
    have hrow : ∀ w, C w → (loadVar 22 ⟨W.heap.size, 0, none⟩).run Try.prog w = .ok (.agg (l.map (Value.int .u8)).toArray) w := by
      intro w hw
      rw [hC] at hw
      exact Cls.row hl hw
    obtain ⟨N, hN⟩ : ∃ N, strOfNums (ofL l) = N := ⟨_, rfl⟩
    obtain ⟨q, hq⟩ : ∃ q, isQ S = q := ⟨_, rfl⟩
    have hOf : ∀ w, C w → Calls Try.prog 7 #[.agg (l.map (Value.int .u8)).toArray] w fun e w' => e = .returned (.string N) ∧ C w' := by
      intro w hw
      rw [hC] at hw ⊢
      rw [← hN]
      exact (of_walk l hl hb w).mono (fun e w' h => ⟨h.1, hw.step h.2⟩)
    have hNm : ∀ w, C w → Calls Try.prog 8 #[.agg (l.map (Value.int .u8)).toArray] w fun e w' => e = .returned (.string N) ∧ C w' := by
      intro w hw
      rw [hC] at hw ⊢
      rw [← hN]
      exact (name_walk l hl hb w).mono (fun e w' h => ⟨h.1, hw.step h.2⟩)
    have hIsS : ∀ w, C w → Calls Try.prog 9 #[.string S] w fun e w' => e = .returned (.bool q) ∧ C w' := by
      intro w hw
      rw [hC] at hw ⊢
      rw [← hq]
      exact (is_walk S w).mono (fun e w' h => ⟨h.1, hw.step h.2⟩)
    have hisS : ∀ w, C w → Calls Try.prog 10 #[.string S] w fun e w' => e = .returned (.bool q) ∧ C w' := by
      intro w hw
      rw [hC] at hw ⊢
      rw [← hq, fit_iff]
      exact (is_call S w).mono (fun e w' h => ⟨h.1, hw.step (by obtain ⟨nd, rfl⟩ := h.2; exact pw_below_drewN (Below.refl _ _) nd)⟩)
    have hIsN : ∀ w, C w → Calls Try.prog 9 #[.string N] w fun e w' => e = .returned (.bool true) ∧ C w' := by
      intro w hw
      rw [hC] at hw ⊢
      have : isQ N = true := by rw [← hN, fit_iff]; exact nm_is l hl hb
      rw [← this]
      exact (is_walk N w).mono (fun e w' h => ⟨h.1, hw.step h.2⟩)
    have O1 := Aside0.mk hOf
    have O2 := Aside0.mk hNm
    have O3 := Aside0.mk hIsS
    have O4 := Aside0.mk hisS
    have O5 := Aside0.mk hIsN
    have O6 := Aside0.mk hrow
    have O7 := Aside0.mk hC
    have O8 := Aside0.mk c1
    clear hOf hNm hIsS hisS hIsN hrow hC c1 h1 C0 hwb
    refine region_cls (C := C) (by kernel_rfl) (by kernel_rfl) hC0 ?_
    clear hC0
    repeat (first
      | go_big_quiet_skip
      | (go_big_quiet_want; first
          | (refine quiet_row 22 (.tmp 2) ⟨W.heap.size, 0, none⟩ (.agg (l.map (Value.int .u8)).toArray) rfl rfl O6.out ?_
             simp only [Act.put, List.setIfInBounds_toArray, List.set_cons_zero, List.set_cons_succ]
             go_big_quiet_on)
          | (go_big_quiet_op; first
              | go_big_quiet_on
              | go_big_quiet_call (first
                  | with_reducible exact O1.out _
                  | with_reducible exact O2.out _
                  | with_reducible exact O3.out _
                  | with_reducible exact O4.out _
                  | with_reducible exact O5.out _))))
    refine wpQuiet_nil ?_
    intro w' hw'
    go_wp2
    go_ret
    rw [O7.out] at hw'
    exact ⟨rfl, hw'.2.1⟩
theorem names_row (a0 : List Int) (a1 : ByteArray) (W : World) (l0 : a0.length = 16) (w0 : ∀ z ∈ a0, (Lit.int .u8 z).wf = true) (w1 : a1.size ≤ 140737488351232) :
    Calls Try.prog 3 #[.agg (a0.map (Value.int .u8)).toArray, .string a1] W fun e w' => e = .returned (.bool true) ∧ Below W.heap.size W w' :=
  names_walk a0 l0 (fun x hx => byte_of (w0 x hx)) a1 w1 W
end Go.Proofs.Ytdombgagobooiaa.Id
