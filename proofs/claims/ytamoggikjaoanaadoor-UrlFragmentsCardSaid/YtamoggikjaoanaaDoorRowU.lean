/- Arguments opened: an api.Url by value. -/
import Derived.Test.YtamoggikjaoanaaDoorProg
import Derived.Test.YtamoggikjaoanaaDoorWMore
import Derived.SliceStrings
import Derived.WalkKit
import Derived.ProofKit
import Derived.OpenShut
import Derived.SizedLaws
import Derived.Lib.SmallJoins
import Derived.KernelRfl
namespace Go.Proofs.YtamoggikjaoanaaDoor.Row
open Go.ChangeShapes Go.WideShapes Go.ChangeAt Go.RowKit Go.Joins Go.Proofs.YtamoggikjaoanaaDoorW.PrintWords Go.Proofs.YtamoggikjaoanaaDoorW.PrintLast
theorem array13 {α : Type} {cs : Array α} (h : cs.size = 13) : ∃ c0 c1 c2 c3 c4 c5 c6 c7 c8 c9 c10 c11 c12, cs = #[c0, c1, c2, c3, c4, c5, c6, c7, c8, c9, c10, c11, c12] := by
  obtain ⟨l⟩ := cs
  match l, h with
  | [c0, c1, c2, c3, c4, c5, c6, c7, c8, c9, c10, c11, c12], _ => exact ⟨c0, c1, c2, c3, c4, c5, c6, c7, c8, c9, c10, c11, c12, rfl⟩
theorem list13 {α : Type} {xs : List α} (h : xs.length = 13) : ∃ y0 y1 y2 y3 y4 y5 y6 y7 y8 y9 y10 y11 y12, xs = [y0, y1, y2, y3, y4, y5, y6, y7, y8, y9, y10, y11, y12] := by
  match xs, h with
  | [y0, y1, y2, y3, y4, y5, y6, y7, y8, y9, y10, y11, y12], _ => exact ⟨y0, y1, y2, y3, y4, y5, y6, y7, y8, y9, y10, y11, y12, rfl⟩
theorem k9 : Tryd.prog.cellsOf 9 = 1 := by kernel_rfl
theorem k4 : Tryd.prog.cellsOf 4 = 1 := by kernel_rfl
theorem k3 : Tryd.prog.cellsOf 3 = 1 := by kernel_rfl
theorem k22 : Tryd.prog.cellsOf 22 = 1 := by kernel_rfl
theorem k24 : Tryd.prog.cellsOf 24 = 13 := by kernel_rfl
section
variable {H : Type} {enc : TypeId × Value → H} {w : World} {base : Nat} {spare : Nat → Bool} {held : Bool} {r : Reach} {b0 : Nat} {v : Value} {d : DataW H} {p : List MemPlace}
theorem w_all {l : List ByteArray} {t : TypeId} {s : ByteArray} (hs : s ∈ l) : s.size ∈ DataW.weightsAll Tryd.prog t (strs l : List (DataW H)) := by
  induction l with
  | nil => cases hs
  | cons x l ih =>
    rcases List.mem_cons.1 hs with rfl | h
    · simp [strs, DataW.weightsAll, DataW.weights]
    · have := ih h
      simp only [strs, List.map_cons, DataW.weightsAll, List.mem_append] at this ⊢
      exact .inr this
theorem open_url (hv : Value.okWide Tryd.prog w r b0 24 v) (h : DataW.Trod enc Tryd.prog w base spare held 24 v d p) (hz : ∀ n ∈ DataW.weights Tryd.prog 24 d, n ≤ reachBytes) :
    ∃ (a0 a1 a2 a3 : ByteArray) (a4 : Bool) (a5 : Int) (a6 : Bool) (a7 : ByteArray) (A8 : Option Addr) (c8 : Nat) (l8 : List ByteArray) (a9 a10 : Bool) (a11 a12 : ByteArray),
      v = .agg #[.string a0, .string a1, .string a2, .string a3, .bool a4, .int .i64 a5, .bool a6, .string a7, .slice A8 l8.length c8, .bool a9, .bool a10, .string a11, .string a12] ∧ l8.length ≤ c8 ∧ Kd.C Kd.string w A8 l8.length l8 ∧ (Lit.int .i64 a5).wf = true ∧
      a0.size ≤ reachBytes ∧ a1.size ≤ reachBytes ∧ a2.size ≤ reachBytes ∧ a3.size ≤ reachBytes ∧ a7.size ≤ reachBytes ∧ a11.size ≤ reachBytes ∧ a12.size ≤ reachBytes ∧ (∀ s ∈ l8, s.size ≤ reachBytes) ∧ l8.length * 16 ≤ reachBytes := by
  obtain ⟨cs, rfl, hsz⟩ := okWide_struct Tryd.underlying24 hv
  obtain ⟨c0, c1, c2, c3, c4, c5, c6, c7, c8, c9, c10, c11, c12, rfl⟩ := array13 (hsz.trans k24)
  obtain ⟨fuel, hf⟩ := h
  obtain ⟨xs, n, _, hx, _, hlen, hfd⟩ := DataW.trod_struct Tryd.underlying24 hf
  obtain ⟨y0, y1, y2, y3, y4, y5, y6, y7, y8, y9, y10, y11, y12, rfl⟩ := list13 (hlen.trans rfl)
  have g0 : DataW.trod enc Tryd.prog w base spare held n 9 [c0] = some y0 := by simpa [Value.cells, k9, k4, k3, k22] using hfd 0 _ rfl
  have g1 : DataW.trod enc Tryd.prog w base spare held n 9 [c1] = some y1 := by simpa [Value.cells, k9, k4, k3, k22] using hfd 1 _ rfl
  have g2 : DataW.trod enc Tryd.prog w base spare held n 9 [c2] = some y2 := by simpa [Value.cells, k9, k4, k3, k22] using hfd 2 _ rfl
  have g3 : DataW.trod enc Tryd.prog w base spare held n 9 [c3] = some y3 := by simpa [Value.cells, k9, k4, k3, k22] using hfd 3 _ rfl
  have g4 : DataW.trod enc Tryd.prog w base spare held n 4 [c4] = some y4 := by simpa [Value.cells, k9, k4, k3, k22] using hfd 4 _ rfl
  have g5 : DataW.trod enc Tryd.prog w base spare held n 3 [c5] = some y5 := by simpa [Value.cells, k9, k4, k3, k22] using hfd 5 _ rfl
  have g6 : DataW.trod enc Tryd.prog w base spare held n 4 [c6] = some y6 := by simpa [Value.cells, k9, k4, k3, k22] using hfd 6 _ rfl
  have g7 : DataW.trod enc Tryd.prog w base spare held n 9 [c7] = some y7 := by simpa [Value.cells, k9, k4, k3, k22] using hfd 7 _ rfl
  have g8 : DataW.trod enc Tryd.prog w base spare held n 22 [c8] = some y8 := by simpa [Value.cells, k9, k4, k3, k22] using hfd 8 _ rfl
  have g9 : DataW.trod enc Tryd.prog w base spare held n 4 [c9] = some y9 := by simpa [Value.cells, k9, k4, k3, k22] using hfd 9 _ rfl
  have g10 : DataW.trod enc Tryd.prog w base spare held n 4 [c10] = some y10 := by simpa [Value.cells, k9, k4, k3, k22] using hfd 10 _ rfl
  have g11 : DataW.trod enc Tryd.prog w base spare held n 9 [c11] = some y11 := by simpa [Value.cells, k9, k4, k3, k22] using hfd 11 _ rfl
  have g12 : DataW.trod enc Tryd.prog w base spare held n 9 [c12] = some y12 := by simpa [Value.cells, k9, k4, k3, k22] using hfd 12 _ rfl
  clear hfd
  obtain ⟨a0, e0, z0, _⟩ := DataW.trod_string Tryd.underlying9 g0
  obtain rfl := (List.cons.inj e0).1
  subst z0
  obtain ⟨a1, e1, z1, _⟩ := DataW.trod_string Tryd.underlying9 g1
  obtain rfl := (List.cons.inj e1).1
  subst z1
  obtain ⟨a2, e2, z2, _⟩ := DataW.trod_string Tryd.underlying9 g2
  obtain rfl := (List.cons.inj e2).1
  subst z2
  obtain ⟨a3, e3, z3, _⟩ := DataW.trod_string Tryd.underlying9 g3
  obtain rfl := (List.cons.inj e3).1
  subst z3
  obtain ⟨a4, e4, z4⟩ := DataW.trod_bool Tryd.underlying4 g4
  obtain rfl := (List.cons.inj e4).1
  subst z4
  obtain ⟨a5, e5, z5, wf5⟩ := DataW.trod_int Tryd.underlying3 g5
  obtain rfl := (List.cons.inj e5).1
  subst z5
  obtain ⟨a6, e6, z6⟩ := DataW.trod_bool Tryd.underlying4 g6
  obtain rfl := (List.cons.inj e6).1
  subst z6
  obtain ⟨a7, e7, z7, _⟩ := DataW.trod_string Tryd.underlying9 g7
  obtain rfl := (List.cons.inj e7).1
  subst z7
  obtain ⟨a9, e9, z9⟩ := DataW.trod_bool Tryd.underlying4 g9
  obtain rfl := (List.cons.inj e9).1
  subst z9
  obtain ⟨a10, e10, z10⟩ := DataW.trod_bool Tryd.underlying4 g10
  obtain rfl := (List.cons.inj e10).1
  subst z10
  obtain ⟨a11, e11, z11, _⟩ := DataW.trod_string Tryd.underlying9 g11
  obtain rfl := (List.cons.inj e11).1
  subst z11
  obtain ⟨a12, e12, z12, _⟩ := DataW.trod_string Tryd.underlying9 g12
  obtain rfl := (List.cons.inj e12).1
  subst z12
  simp only [Prod.mk.injEq] at hx
  obtain ⟨rfl, _⟩ := hx
  have HZ : ∀ m, m = a0.size ∨ m = a1.size ∨ m = a2.size ∨ m = a3.size ∨ m = a7.size ∨ m = a11.size ∨ m = a12.size ∨ m ∈ DataW.weights Tryd.prog 22 y8.1 → m ≤ reachBytes := by
    intro m hm
    apply hz m
    rw [DataW.weights, Tryd.underlying24]
    simp only [List.map_cons, List.map_nil, DataW.weightsEach, DataW.weights, List.mem_append, List.mem_cons, List.not_mem_nil, or_false, false_or, Array.length_toList]
    rcases hm with h | h | h | h | h | h | h | h
    all_goals first | (subst h; simp only [ByteArray.size, true_or, or_true]; done) | (exact by simp only [h, true_or, or_true])
  clear hz
  rcases open_strings Tryd.underlying22 Tryd.underlying9 k9 g8 with ⟨hcs, _⟩ | ⟨x, len, cap, ss, hcs, _, hl, hm, hzz, hy, hcell, _⟩
  · obtain rfl := (List.cons.inj hcs).1
    exact ⟨a0, a1, a2, a3, a4, a5, a6, a7, none, 0, [], a9, a10, a11, a12, rfl, Nat.le_refl _, Kd.C_of_reads (enc := Value.string) (d := ByteArray.empty) (h1 := fun _ => rfl) ⟨rfl, Nat.zero_le _, fun h => absurd h (by simp)⟩, wf5, HZ _ (by simp), HZ _ (by simp), HZ _ (by simp), HZ _ (by simp), HZ _ (by simp), HZ _ (by simp), HZ _ (by simp), fun s hs => absurd hs (by simp), Nat.zero_le _⟩
  · obtain rfl := (List.cons.inj hcs).1
    subst hy
    have hle : len ≤ ss.length := by rw [hzz]; split <;> omega
    have hlen2 : (ss.take len).length = len := by rw [List.length_take]; omega
    refine ⟨a0, a1, a2, a3, a4, a5, a6, a7, some x, cap, ss.take len, a9, a10, a11, a12, by rw [hlen2], by rw [hlen2]; exact hl, ?_, wf5, HZ _ (by simp), HZ _ (by simp), HZ _ (by simp), HZ _ (by simp), HZ _ (by simp), HZ _ (by simp), HZ _ (by simp), fun s hs => ?_, ?_⟩
    · refine Kd.C_of_reads (enc := Value.string) (d := ByteArray.empty) (h1 := fun _ => rfl) ⟨rfl, ?_, fun _ => ⟨_, rfl, fun j hj => ?_⟩⟩
      · rw [hlen2]; have : maxLen = 9223372036854775807 := rfl; omega
      · rw [hlen2] at hj
        rw [hcell j (by omega)]
        simp [List.getD, hj]
    · refine HZ _ (Or.inr (Or.inr (Or.inr (Or.inr (Or.inr (Or.inr (Or.inr ?_)))))))
      rw [DataW.weights, Tryd.underlying22]
      exact List.mem_cons_of_mem _ (List.mem_append_left _ (w_all hs))
    · have := HZ (((strs (ss.take len) : List (DataW H)).length + (strs (ss.drop len) : List (DataW H)).length) * Tryd.prog.bytesOf 9) (Or.inr (Or.inr (Or.inr (Or.inr (Or.inr (Or.inr (Or.inr (by rw [DataW.weights, Tryd.underlying22]; exact List.mem_cons_self))))))))
      rw [show Tryd.prog.bytesOf 9 = 16 by kernel_rfl] at this
      simp only [strs, List.length_map] at this
      omega
end
end Go.Proofs.YtamoggikjaoanaaDoor.Row
