/- awake of the law package of base, walked (over the printed base.Decode of the first print, PRE=Q). -/
import Derived.Test.YtbobbbpjphkooaaDoorEnc
import Derived.Test.YtbobbbpjphkooaaDoorQx
namespace Go.Proofs.YtbobbbpjphkooaaDoor.Aw
open Go.RowKit Go.Shelf Go.Proofs.YtbobbbpjphkooaaDoor.Q Go.Proofs.YtbobbbpjphkooaaDoor.Pl Go.Proofs.YtbobbbpjphkooaaDoorW.PrintWords Go.Proofs.YtbobbbpjphkooaaDoorW.PrintLast Go.Proofs.YtbobbbpjphkooaaDoorW.PrintMore
set_option linter.unusedVariables false
set_option linter.unusedSimpArgs false
set_option maxRecDepth 100000 in
theorem dec_yq : base_Decode.f 20 (⟨#[32, 89, 32, 81, 32]⟩ : ByteArray) = some ([97], true) := by decide +kernel
theorem enc_a : strOfNums (En.encL [97]) = (⟨#[89, 81, 61, 61]⟩ : ByteArray) := by decide +kernel
theorem enc_one (W : World) : Calls Tryd.prog 9 #[.slice (some ⟨W.heap.size, 0, none⟩) 1 1] (W.alloc (.cells #[.int .u8 97] 5 (1, 2))) fun e w' => e = .returned (.string ⟨#[89, 81, 61, 61]⟩) ∧ Below W.heap.size W w' := by
  have hC : Kd.C (Kd.int .u8) (W.alloc (.cells #[.int .u8 97] 5 (1, 2))) (some ⟨W.heap.size, 0, none⟩) ([97] : List Int).length [97] := Kd.C_of_reads (enc := Value.int .u8) (d := (0 : Int)) (h1 := fun _ => rfl) ⟨rfl, by decide, fun _ => ⟨_, rfl, fun j hj => by
    obtain rfl : j = 0 := by simp at hj; exact hj
    have h1 := heap_alloc_new W (.cells #[.int .u8 97] 5 (1, 2))
    show World.cell? _ ⟨W.heap.size, 0, none⟩ = _
    unfold World.cell?
    rw [h1]
    rfl⟩⟩
  refine (En.enc_any (some ⟨W.heap.size, 0, none⟩) 1 [97] _ hC (Nat.le_refl _) (fun x hx => by simp at hx; subst hx; exact ⟨by decide, by decide⟩) (by decide)).mono ?_
  rintro e w' ⟨rfl, hb⟩
  exact ⟨by rw [enc_a], ((Below.refl W.heap.size W).alloc (Nat.le_refl _) _).trans (hb.mono (by simp))⟩
set_option maxHeartbeats 1000000 in
set_option maxRecDepth 100000 in
theorem awake_any (w : World) (hT : G.T w) : Calls Tryd.prog 8 #[] w fun e w' => e = .returned (.bool true) ∧ Below w.heap.size w w' := by
  have HD := Aside0.mk (show Calls Tryd.prog 10 #[.string ⟨#[32, 89, 32, 81, 32]⟩] w fun e w' => ∃ A c, e = .returned (.tuple #[.slice A 1 c, .bool true]) ∧ (convert 22 9 (.slice A 1 c)).run Tryd.prog w' = .ok (.string ⟨#[97]⟩) w' ∧ Below w.heap.size w w' from (base_Decode.calls 20 _ [97] true w dec_yq hT).mono fun e w' hh => by
    obtain ⟨v0, rfl, hR, hB⟩ := hh
    obtain ⟨A, c, rfl, hl, hC⟩ := Kd.R_reads hR
    exact ⟨A, c, rfl, Kd.C_string (P := Tryd.prog) (A := A) (c := c) Tryd.underlying22 Tryd.underlying5 Tryd.underlying9 hC, hB⟩)
  have HE := Aside0.mk enc_one
  have hcs := fun W => Lib.run_convert_bytes_const (P := Tryd.prog) W 22 5 #[.int .u8 97] 1 1 Tryd.underlying22 Tryd.underlying5
  clear hT
  go_enter Tryd.func8, Tryd.ntmps8
  go_wp2_with (first | (go_at_call 10; (with_reducible refine HD.out.mono ?_); rintro e w1 ⟨A, c, rfl, hcv, hb⟩; have HB := Aside0.mk hb; clear hb) | (go_at_call 9; (with_reducible refine (HE.out _).mono ?_); rintro e w2 ⟨rfl, hb⟩; have HB2 := Aside0.mk hb; clear hb))
  go_ret
  exact ⟨rfl, HB.out.trans (HB2.out.mono HB.out.size)⟩
end Go.Proofs.YtbobbbpjphkooaaDoor.Aw
