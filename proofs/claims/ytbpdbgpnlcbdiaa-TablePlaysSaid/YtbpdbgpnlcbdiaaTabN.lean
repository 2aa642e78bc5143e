/- Chapter 22: a table: awake; nobody's table: the laws' walks. -/
import Derived.Test.YtbpdbgpnlcbdiaaTabB
namespace Go.Proofs.Ytbpdbgpnlcbdiaa.Tab
open Go.RowKit Go.Proofs.YtbpdbgpnlcbdiaaW.PrintWords Go.Proofs.YtbpdbgpnlcbdiaaW.PrintLast Go.Proofs.YtbpdbgpnlcbdiaaW.PrintMore
set_option linter.unusedVariables false
set_option linter.unusedSimpArgs false
set_option maxRecDepth 100000 in
theorem awake_walk (w : World) : Calls Try.prog 7 #[] w fun e w' => e = .returned (.bool true) ∧ Below w.heap.size w w' := by
  have HN := Aside0.mk (show ∀ w, Calls Try.prog 18 #[.int .i64 2] w (NewPost 70 72 2 w) from fun w => new_int 2 (by decide) (by decide) w)
  have HP := Aside0.mk (show ∀ base B w, TabAt 70 72 base B 2 0 [] w → Calls Try.prog 19 #[.pointer (some ⟨B, 0, none⟩), .int .i64 5] w fun e w' => e = .returned (.tuple #[.int .i64 1, .int .i64 0]) ∧ TabAt 70 72 base B 2 1 [(1, .int .i64 5)] w' ∧ Below base w w' from fun base B w h => put_int 5 w h (by decide) (by decide) (by decide))
  have HG := Aside0.mk (show ∀ base B w, TabAt 70 72 base B 2 1 [(1, .int .i64 5)] w → Calls Try.prog 23 #[.pointer (some ⟨B, 0, none⟩), .int .i64 1] w fun e w' => e = .returned (.tuple #[.int .i64 5, .bool true]) ∧ Below w.heap.size w w' from fun base B w h => get_int 1 5 w h (by intro p hp; simp at hp; exact ⟨5, by rw [hp]⟩) (by decide) 0 rfl (by decide))
  go_enter Try.func7, Try.ntmps7
  go_wp2_with (first
    | (go_at_call 18; refine (HN.out _).mono ?_; rintro e w1 ⟨B, rfl, hm1, hb1⟩; have M1 := Aside0.mk hm1; have B1 := Aside0.mk hb1; clear hm1 hb1)
    | (go_at_call 19; refine (HP.out _ _ _ M1.out).mono ?_; rintro e w2 ⟨rfl, hm2, hb2⟩; have M2 := Aside0.mk hm2; have B2 := Aside0.mk hb2; clear hm2 hb2)
    | (go_at_call 23; refine (HG.out _ _ _ M2.out).mono ?_; rintro e w3 ⟨rfl, hb3⟩; have B3 := Aside0.mk hb3; clear hb3))
  go_ret
  exact ⟨rfl, (B1.out.trans B2.out).trans (B3.out.mono (B1.out.trans B2.out).size)⟩
theorem del_nil_str (h : Int) (w : World) : Calls Try.prog 10 #[.pointer none, .int .i64 h] w fun e w' => e = .returned (.tuple #[.string ⟨#[]⟩, .bool false]) ∧ Below w.heap.size w w' := by
  have HF := Aside0.mk (get_nil_str h w)
  go_enter Try.func10, Try.ntmps10
  go_wp2_with (go_at_call 11; refine HF.out.mono ?_; rintro e w1 ⟨rfl, h1⟩)
  go_ret2
  exact ⟨rfl, h1⟩
theorem handles_nil_str (w : World) : Calls Try.prog 24 #[.pointer none] w fun e w' => e = .returned (.slice none 0 0) ∧ w = w' := by
  go_enter Try.func24, Try.ntmps24
  go_wp2
  go_ret
  exact ⟨rfl, rfl⟩
set_option maxRecDepth 100000 in
theorem nil_walk (h : Int) (x : ByteArray) (w : World) : Calls Try.prog 6 #[.int .i64 h, .string x] w fun e w' => e = .returned (.bool true) ∧ Below w.heap.size w w' := by
  have HA := Aside0.mk awake_walk
  go_enter Try.func6, Try.ntmps6
  go_wp2_with (first
    | (go_at_call 9; refine (put_nil_str _ _).mono ?_; rintro e w0 ⟨rfl, rfl⟩)
    | (go_at_call 11; refine (get_nil_str _ _).mono ?_; rintro e w1 ⟨rfl, hb1⟩; have B1 := Aside0.mk hb1; clear hb1)
    | (go_at_call 10; refine (del_nil_str _ _).mono ?_; rintro e w2 ⟨rfl, hb2⟩; have B2 := Aside0.mk hb2; clear hb2)
    | (go_at_call 7; refine (HA.out _).mono ?_; rintro e w3 ⟨rfl, hb3⟩; have B3 := Aside0.mk hb3; clear hb3)
    | (go_at_call 12; refine (len_nil_str _).mono ?_; rintro e w4 ⟨rfl, rfl⟩)
    | (go_at_call 24; refine (handles_nil_str _).mono ?_; rintro e w5 ⟨rfl, rfl⟩))
  go_ret
  have b2 := B1.out.trans (B2.out.mono B1.out.size)
  exact ⟨rfl, b2.trans (B3.out.mono b2.size)⟩
theorem nil_row (a0 : Int) (a1 : ByteArray) (W : World) (w0 : (Lit.int .i64 a0).wf = true) (w1 : a1.size ≤ 140737488351232) : Calls Try.prog 6 #[.int .i64 a0, .string a1] W fun e w' => e = .returned (.bool true) ∧ Below W.heap.size W w' :=
  nil_walk a0 a1 W
end Go.Proofs.Ytbpdbgpnlcbdiaa.Tab
