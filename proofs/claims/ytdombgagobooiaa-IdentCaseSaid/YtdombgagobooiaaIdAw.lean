/- Chapter 21: awake, and the laws' walks: what they have in common. -/
import Derived.Test.YtdombgagobooiaaIdIs
import Derived.Deep.Quiet
namespace Go.Proofs.Ytdombgagobooiaa.Id
open Go.RowKit Go.Proofs.YtdombgagobooiaaW.PrintWords Go.Proofs.YtdombgagobooiaaW.PrintLast Go.Proofs.YtdombgagobooiaaW.PrintMore Go.Proofs.Ytdombgagobooiaa.Pl Go.Proofs.Ytdombgagobooiaa.G Go.Proofs.Ytdombgagobooiaa.P
set_option linter.unusedVariables false
set_option linter.unusedSimpArgs false
def zeroS : ByteArray := ⟨#[48, 48, 48, 48, 48, 48, 48, 48, 45, 48, 48, 48, 48, 45, 52, 48, 48, 48, 45, 56, 48, 48, 48, 45, 48, 48, 48, 48, 48, 48, 48, 48, 48, 48, 48, 48]⟩
theorem zero_name : strOfNums (ofL (List.replicate 16 0)) = zeroS := by decide +kernel
theorem zero_is : isQ zeroS = true := by decide +kernel
set_option maxHeartbeats 400000 in
set_option maxRecDepth 100000 in
theorem awake_walk (w : World) : Calls Try.prog 6 #[] w fun e w' => e = .returned (.bool true) ∧ Below w.heap.size w w' := by
  have hof := fun W => of_walk (List.replicate 16 0) rfl (fun x hx => by rw [List.eq_of_mem_replicate hx]; exact ⟨by decide, by decide⟩) W
  rw [zero_name] at hof
  have his := fun W => is_walk zeroS W
  rw [zero_is] at his
  unfold zeroS at hof his
  have HO := Aside0.mk hof
  have HI := Aside0.mk his
  clear hof his
  go_enter Try.func6, Try.ntmps6
  go_wp2_with (first
    | (go_at_call 7; refine (HO.out _).mono ?_; rintro e w1 ⟨rfl, h1⟩)
    | (go_at_call 9; refine (HI.out _).mono ?_; rintro e w2 ⟨rfl, h2⟩))
  go_ret
  exact ⟨rfl, h1.trans (h2.mono h1.size)⟩

/-! a region that draws its order, walked once, over a class of worlds of our own -/
theorem region_cls {P : Program} {C : World → Prop} {id : Nat} {Q : Exit → Act → World → Prop} {a : Act} {w : World} {l : List Oper} (hm : P.follows .mixedOrders = true) (hB : Region.lexB .any l.toArray = true) (hC : C w.drew)
    (h : wpQuiet P l.toArray C (fun a' => ∀ w', C w' → Q .normal a' w') l a) : (Code.region id l.toArray true).wp P Q a w :=
  wp_region_quiet (C := C) hm hB hC (by simpa using h)
theorem quiet_row {P : Program} {C : World → Prop} {o : Oper} {a : Act} {K : Act → Prop} (t : TypeId) (x : Operand) (p : Addr) (u : Value) (ho : o.op = .load t x) (hx : a.eval x = .pointer (some p))
    (hr : ∀ w, C w → (loadVar t p).run P w = .ok u w) (h : K (a.put o.dst u)) : o.quiet P a C K := by
  refine ⟨u, fun w hw => ?_, h⟩
  unfold Oper.quietAt execOp
  simp only [ho]
  simp [Instr.loadAt, Instr.sureAddr, hx, hr w hw, Oper.quietUpon, Result.andThen]
end Go.Proofs.Ytdombgagobooiaa.Id
