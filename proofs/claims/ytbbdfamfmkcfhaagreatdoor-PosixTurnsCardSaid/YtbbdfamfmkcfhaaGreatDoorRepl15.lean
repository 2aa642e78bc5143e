/- strings.NewReplacer of two bytes, and what its Replace makes of a text: walked (1): the replacer that is built. -/
import Derived.Test.YtbbdfamfmkcfhaaGreatDoorProg
import Derived.Test.YtbbdfamfmkcfhaaGreatDoorGWords
import Derived.Test.YtbbdfamfmkcfhaaGreatDoorPl
import Derived.Lib.Builder
import Derived.Lib.BufferMore
import Derived.Tactics
import Derived.Tactics2
import Derived.Defers
import Derived.Laws.Pointers
import Derived.Laws.LoneSync
import Derived.Laws.NewBlocks
import Derived.RegionTactic
import Derived.RegionCalls
import Derived.ChangeAlike
import Derived.IntWalk
import Derived.OwnWalk
import Derived.Deep.LoopGhost
import Derived.Deep.DeepCutAuto
import Derived.Deep.CutBlock
import Derived.Deep.WholeRow
import Derived.WalkKit
import Derived.KernelRfl
namespace Go.Proofs.YtbbdfamfmkcfhaaGreatDoor.Rpl
open Go.RowKit Go.Proofs.YtbbdfamfmkcfhaaGreatDoorW.PrintWords Go.Proofs.YtbbdfamfmkcfhaaGreatDoorW.PrintLast Go.Proofs.YtbbdfamfmkcfhaaGreatDoorW.PrintMore Go.Proofs.YtbbdfamfmkcfhaaGreatDoor.Pl
set_option linter.unusedVariables false
set_option linter.unusedSimpArgs false
theorem sinfo : (Tryz.prog.info? 9).map (fun i => (i.zero, i.size, i.bytes)) = some (some (.string ⟨#[]⟩), 1, 16) := by kernel_rfl
theorem rinfo : (Tryz.prog.info? 123).map (·.size) = some 257 := by kernel_rfl
theorem madeL (z : Value) (n : Nat) : madeCells #[z] n = (List.replicate n z).toArray := by rw [← toList_madeCells_one]
theorem mk02 (w : World) : (Instr.makeSlice 23 (.int .i64 0) (.int .i64 2)).run Tryz.prog w = .ok (.slice (some ⟨w.heap.size, 0, none⟩) 0 2) (w.alloc (.cells #[.string ⟨#[]⟩, .string ⟨#[]⟩] 9)) := by
  obtain ⟨i, hi, hz0, hz1, hz2⟩ := info_parts sinfo
  have h := run_make (P := Tryz.prog) w 23 9 i (.string ⟨#[]⟩) Tryz.underlying23 hi hz0 .i64 .i64 0 2 (by decide) (by decide) (by rw [hz2]; decide) (by decide)
  rw [hz1] at h
  rw [h]
  have e : madeCells (Value.string ⟨#[]⟩).cells (Int.toNat 2 * 1) = #[.string ⟨#[]⟩, .string ⟨#[]⟩] := madeL _ _
  rw [e]
  rfl
/-- The 257 cells of a new replacer: its table, empty, and its row. -/
noncomputable def rc (v : Value) : Array Value := Tryz.zeroCells123.setIfInBounds 256 v
theorem zc_all : (Tryz.zeroCells123.toList.all fun v => v.oneCell') = true := by kernel_rfl
theorem zc_rep : Tryz.zeroCells123.toList = List.replicate 257 (.slice none 0 0) := by kernel_rfl
theorem zc_at : ∀ i, i < 256 → Tryz.zeroCells123[i]? = some (.slice none 0 0) := by
  intro i hi
  rw [← Array.getElem?_toList, zc_rep, List.getElem?_replicate, if_pos (by omega)]
theorem zc_size : Tryz.zeroCells123.size = 257 := by kernel_rfl
theorem rc_size (v : Value) : (rc v).size = 257 := by unfold rc; rw [Array.size_setIfInBounds, zc_size]
theorem st95 (w : World) (a : Option Addr) (n c : Nat) : (storeCells ⟨w.heap.size, 0, none⟩ (Tryz.zeroCells123.toList.set 256 (.slice a n c))).run Tryz.prog (w.alloc (.cells Tryz.zeroCells123 123)) = .ok () (w.alloc (.cells (rc (.slice a n c)) 123)) := by
  have e : (rc (.slice a n c)).toList = Tryz.zeroCells123.toList.set 256 (.slice a n c) := by unfold rc; rw [Array.toList_setIfInBounds]
  rw [← e]
  refine run_storeCells_new (P := Tryz.prog) w 123 Tryz.zeroCells123 (rc (.slice a n c)) (by rw [rc_size]; exact rinfo) (by rw [rc_size, zc_size]) ?_
  rw [← Array.all_toList, e]
  refine List.all_eq_true.2 fun x hx => ?_
  rcases List.mem_or_eq_of_mem_set hx with h | h
  · exact List.all_eq_true.1 zc_all x h
  · subst h; rfl
/-- Block B is a replacer whose cells are these. -/
def Arr (B : Nat) (f : Nat → Value) (w : World) : Prop := ∃ cs, w.heap[B]? = some (.cells cs 123 (0, 0)) ∧ cs.size = 257 ∧ ∀ i, i < 257 → cs[i]? = some (f i)
def upd (f : Nat → Value) (i : Nat) (v : Value) : Nat → Value := fun j => if j = i then v else f j
theorem Arr.cell {B : Nat} {f : Nat → Value} {w : World} (h : Arr B f w) (i : Nat) (hi : i < 257) : w.cell? ⟨B, i, none⟩ = some (f i) := by
  obtain ⟨cs, h1, h2, h3⟩ := h
  simp [World.cell?, h1, h3 i hi]
theorem Arr.free {B : Nat} {f : Nat → Value} {w : World} (h : Arr B f w) (i : Nat) : w.frozen? ⟨B, i, none⟩ = false := by
  obtain ⟨cs, h1, h2, h3⟩ := h
  simp [World.frozen?, h1]
theorem Arr.keep {B : Nat} {f : Nat → Value} {w w' : World} (h : Arr B f w) (hb : w'.heap[B]? = w.heap[B]?) : Arr B f w' := by
  obtain ⟨cs, h1, h2, h3⟩ := h
  exact ⟨cs, hb.trans h1, h2, h3⟩
theorem Arr.set {B : Nat} {f : Nat → Value} {w : World} (h : Arr B f w) (i : Nat) (hi : i < 257) (v : Value) : Arr B (upd f i v) (w.setCell ⟨B, i, none⟩ v) := by
  obtain ⟨cs, h1, h2, h3⟩ := h
  refine ⟨cs.setIfInBounds i v, by simp [World.setCell, Array.getElem?_modify, h1], by simpa using h2, fun j hj => ?_⟩
  unfold upd
  rw [Array.getElem?_setIfInBounds]
  by_cases e : i = j
  · subst e; simp; omega
  · rw [if_neg e, if_neg (fun e' => e e'.symm)]; exact h3 j hj
theorem Arr.lt {B : Nat} {f : Nat → Value} {w : World} (h : Arr B f w) : B < w.heap.size := by
  obtain ⟨cs, h1, _⟩ := h
  exact (Array.getElem?_eq_some_iff.1 h1).1
/-- A row of bytes that V names, in a block of bytes. -/
def Bts (V : Value) (xs : List Int) (w : World) : Prop := ∃ (g c : Nat) (cur : Array Value) (m : Nat × Nat), V = .slice (some ⟨g, 0, none⟩) xs.length c ∧ xs.length ≤ c ∧ w.heap[g]? = some (.cells cur 5 m) ∧ ∀ (j : Nat) (x : Int), xs[j]? = some x → (cur : Array Value)[j]? = some (Value.int .u8 x)
theorem Bts.keep {V : Value} {xs : List Int} {w w' : World} {row : Option Nat} (h : Bts V xs w) (hg : ∀ (g : Nat) (cs : Array Value) (m : Nat × Nat), w.heap[g]? = some (Obj.cells cs 5 m) → w'.heap[g]? = w.heap[g]?) : Bts V xs w' := by
  obtain ⟨g, c, cur, m, h1, h2, h3, h4⟩ := h
  exact ⟨g, c, cur, m, h1, h2, (hg g cur m h3).trans h3, h4⟩
theorem bts_new (w : World) (s : ByteArray) : Bts (.slice (some ⟨w.heap.size, 0, none⟩) s.size (grownCap w s.size 0 5)) (bytesOf s) (Lib.bytesWorld w 5 s) := by
  have hl := bytesOf_length s
  refine ⟨w.heap.size, _, _, _, by rw [hl], by rw [hl]; exact G.grownCap_le _ _ _, Lib.bytesWorld_at_new w 5 s, fun j x hj => ?_⟩
  obtain ⟨hlt, hx⟩ := List.getElem?_eq_some_iff.1 hj
  have hj2 : j < s.data.size := by rw [hl] at hlt; exact hlt
  simp only [Lib.bytesCells, Array.getElem?_append, Array.size_map]
  rw [if_pos hj2, Array.getElem?_map, Array.getElem?_eq_getElem hj2]
  rw [← hx]
  first | rfl | simp [bytesOf]
theorem st95' (w : World) : (storeCells ⟨w.heap.size + 1, 0, none⟩ (Tryz.zeroCells123.toList.set 256 (.slice (some ⟨w.heap.size, 0, none⟩) 0 2))).run Tryz.prog ((w.alloc (.cells #[.string ⟨#[]⟩, .string ⟨#[]⟩] 9)).alloc (.cells Tryz.zeroCells123 123)) = .ok () ((w.alloc (.cells #[.string ⟨#[]⟩, .string ⟨#[]⟩] 9)).alloc (.cells (rc (.slice (some ⟨w.heap.size, 0, none⟩) 0 2)) 123)) := by
  have h := st95 (w.alloc (.cells #[.string ⟨#[]⟩, .string ⟨#[]⟩] 9)) (some ⟨w.heap.size, 0, none⟩) 0 2
  have e : (w.alloc (.cells #[.string ⟨#[]⟩, .string ⟨#[]⟩] 9)).heap.size = w.heap.size + 1 := by simp
  rw [e] at h
  exact h
def f0 (v : Value) : Nat → Value := fun i => if i = 256 then v else .slice none 0 0
theorem rc_arr (w : World) (v : Value) : Arr w.heap.size (f0 v) (w.alloc (.cells (rc v) 123)) := by
  refine ⟨rc v, by show (w.heap.push _)[w.heap.size]? = _; simp, rc_size v, fun i hi => ?_⟩
  unfold rc f0
  rw [Array.getElem?_setIfInBounds]
  by_cases e : i = 256
  · subst e; rw [if_pos rfl, if_pos (by rw [zc_size]; decide), if_pos rfl]
  · rw [if_neg (fun e' => e e'.symm), if_neg e, zc_at i (by omega)]
/-- What stands behind each round: the table, the row of the bytes, and what was there. -/
def Rnd (w : World) (f : Nat → Value) (xs : List Value) (wr : World) : Prop := Arr (w.heap.size + 1) f wr ∧ wr.ownsRow w.heap.size 9 1 (f 256) xs.length xs ∧ Below w.heap.size w wr
theorem set_below {B b i : Nat} {w w' : World} (h : Below B w w') (hb : B ≤ b) (v : Value) : Below B w (w'.setCell ⟨b, i, none⟩ v) := h.setCell (p := ⟨b, i, none⟩) hb v
/-- A byte's string, out of a row of one byte. -/
theorem one_str (W : World) (x : Int) (h0 : 0 ≤ x ∧ x ≤ 255) (s : ByteArray) (hs : s = strOfNums [x]) : (convert 38 9 (.slice (some ⟨W.heap.size, 0, none⟩) 1 1)).run Tryz.prog (W.alloc (.cells #[.int .u8 x] 5)) = .ok (.string s) (W.alloc (.cells #[.int .u8 x] 5)) := by
  subst hs
  have hC : Kd.C (Kd.int .u8) (W.alloc (.cells #[.int .u8 x] 5)) (some ⟨W.heap.size, 0, none⟩) 1 [x] := by
    refine Kd.C_of_reads (enc := Value.int .u8) (d := (0 : Int)) (h1 := fun _ => rfl) ⟨rfl, by decide, fun _ => ⟨_, rfl, fun j hj => ?_⟩⟩
    have hj0 : j = 0 := by simp at hj; omega
    subst hj0
    have ha : (⟨W.heap.size, 0, none⟩ : Addr).add 0 = ⟨W.heap.size, 0, none⟩ := by unfold Addr.add; split <;> simp_all
    rw [ha]
    simp
  exact Kd.C_string (P := Tryz.prog) (A := some ⟨W.heap.size, 0, none⟩) (c := 1) Tryz.underlying38 Tryz.underlying5 Tryz.underlying9 hC

def Two (w : World) (wr : World) : Prop := ∃ f, Rnd w f [] wr ∧ ∀ i, i < 256 → f i = .slice none 0 0
def One (w : World) (wr : World) : Prop := ∃ f, Rnd w f [.string (⟨#[124]⟩ : ByteArray)] wr ∧ (∀ i, i < 256 → i ≠ 124 → f i = .slice none 0 0) ∧ Bts (f 124) ([37, 55, 67] : List Int) wr
def Nil (w : World) (wr : World) : Prop := ∃ f, Rnd w f [.string (⟨#[124]⟩ : ByteArray), .string (⟨#[92]⟩ : ByteArray)] wr ∧ (∀ i, i < 256 → i ≠ 124 → i ≠ 92 → f i = .slice none 0 0) ∧ Bts (f 124) ([37, 55, 67] : List Int) wr ∧ Bts (f 92) ([37, 53, 67] : List Int) wr
theorem two_start (w : World) : Two w ((w.alloc (.cells #[.string ⟨#[]⟩, .string ⟨#[]⟩] 9)).alloc (.cells (rc (.slice (some ⟨w.heap.size, 0, none⟩) 0 2)) 123)) := by
  have e : (w.alloc (.cells #[.string ⟨#[]⟩, .string ⟨#[]⟩] 9)).heap.size = w.heap.size + 1 := by simp
  refine ⟨f0 (.slice (some ⟨w.heap.size, 0, none⟩) 0 2), ⟨?_, ?_, ((Below.refl _ _).alloc (Nat.le_refl _) _).alloc (by simp) _⟩, fun i hi => by unfold f0; rw [if_neg (by omega)]⟩
  · have h := rc_arr (w.alloc (.cells #[.string ⟨#[]⟩, .string ⟨#[]⟩] 9)) (.slice (some ⟨w.heap.size, 0, none⟩) 0 2)
    rw [e] at h
    exact h
  · refine ⟨rfl, .inr ⟨w.heap.size, 2, #[.string ⟨#[]⟩, .string ⟨#[]⟩], rfl, Nat.le_refl _, ?_, Nat.zero_le _, by decide, rfl, rfl⟩⟩
    show ((w.heap.push _).push _)[w.heap.size]? = _
    simp [Array.getElem?_push]
theorem bts_app {V : Value} {xs : List Int} {w w' : World} {v : Value} {n : Nat} {ys : List Value} {base : Nat} (h : Bts V xs w) (hown : w.ownsRow base 9 1 v n ys) (hg : w.grownBy w' v.ownBlock) : Bts V xs w' := by
  refine h.keep (row := none) fun g cs m hb => hg.block g (Array.getElem?_eq_some_iff.1 hb).1 (fun e => ?_)
  exact Lib.ownBlock_ne hown hb (by decide) e.symm
theorem arr_app {B : Nat} {f : Nat → Value} {w w' : World} {v : Value} {n : Nat} {ys : List Value} {base : Nat} (h : Arr B f w) (hown : w.ownsRow base 9 1 v n ys) (hg : w.grownBy w' v.ownBlock) : Arr B f w' := by
  obtain ⟨cs, h1, _⟩ := id h
  exact h.keep (hg.block B h.lt (fun e => Lib.ownBlock_ne hown h1 (by decide) e.symm))
theorem bts_set {V : Value} {xs : List Int} {w : World} {B i : Nat} {f : Nat → Value} (hA : Arr B f w) (h : Bts V xs w) (v : Value) : Bts V xs (w.setCell ⟨B, i, none⟩ v) := by
  obtain ⟨cs, h1, _⟩ := hA
  refine h.keep (row := none) fun g cs' m hb => ?_
  have hne : B ≠ g := by
    intro e
    subst e
    rw [h1] at hb
    simp at hb
  simp [World.setCell, Array.getElem?_modify, hne]
theorem own_set {v : Value} {n : Nat} {ys : List Value} {w : World} {B i base : Nat} {f : Nat → Value} (hA : Arr B f w) (h : w.ownsRow base 9 1 v n ys) (u : Value) : (w.setCell ⟨B, i, none⟩ u).ownsRow base 9 1 v n ys := by
  obtain ⟨cs, h1, _⟩ := hA
  have hne := Lib.ownBlock_ne h h1 (by decide)
  exact h.kept (row := some B) ⟨rfl, rfl, rfl, by simp [World.setCell], fun k _ hk => Below.heap_setCell _ _ _ _ (fun e => hk (by simp [e]))⟩ (Or.inr hne)

theorem Arr.below {B : Nat} {f : Nat → Value} {w w' : World} (h : Arr B f w) (hb : Below w.heap.size w w') : Arr B f w' := h.keep (hb.block B h.lt)
theorem Arr.alloc {B : Nat} {f : Nat → Value} {w : World} (h : Arr B f w) (o : Obj) : Arr B f (w.alloc o) := h.below ((Below.refl _ _).alloc (Nat.le_refl _) _)
theorem Bts.below {V : Value} {xs : List Int} {w w' : World} (h : Bts V xs w) (hb : Below w.heap.size w w') : Bts V xs w' := h.keep (row := none) fun g cs m hg => hb.block g (Array.getElem?_eq_some_iff.1 hg).1
theorem Bts.alloc {V : Value} {xs : List Int} {w : World} (h : Bts V xs w) (o : Obj) : Bts V xs (w.alloc o) := h.below ((Below.refl _ _).alloc (Nat.le_refl _) _)
end Go.Proofs.YtbbdfamfmkcfhaaGreatDoor.Rpl
