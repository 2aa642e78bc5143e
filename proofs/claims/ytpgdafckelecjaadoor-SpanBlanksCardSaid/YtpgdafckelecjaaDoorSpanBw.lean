/- Blanks around = and around - make no difference; behind all, and ahead of all, they do: the law's walk. -/
import Derived.Test.YtpgdafckelecjaaDoorSpanBl
import Derived.Test.YtpgdafckelecjaaDoorSpanDg
import Derived.Test.YtpgdafckelecjaaDoorTab20
import Derived.Deep.LoopGhost
import Derived.Laws.StructEq
namespace Go.Proofs.YtpgdafckelecjaaDoor.Span
open Go.RowKit Go.Proofs.YtpgdafckelecjaaDoor.P Go.Proofs.YtpgdafckelecjaaDoor.Pl Go.Proofs.YtpgdafckelecjaaDoorW.PrintWords Go.Proofs.YtpgdafckelecjaaDoorW.PrintLast Go.Proofs.YtpgdafckelecjaaDoorW.PrintMore
set_option linter.unusedVariables false
set_option linter.unusedSimpArgs false
def lS (i : Nat) : ByteArray := if i = 0 then ⟨#[]⟩ else if i = 1 then ⟨#[32]⟩ else if i = 2 then ⟨#[9]⟩ else ⟨#[32, 32, 9]⟩
theorem lS_bytes (i : Nat) : bytesOf (lS i) = bl i := by
  unfold lS bl
  split
  · rfl
  · split
    · rfl
    · split <;> rfl
theorem lS_size (i : Nat) : (lS i).size ≤ 3 := by
  unfold lS
  split
  · decide
  · split
    · decide
    · split <;> decide
theorem dS_bytes (n : Nat) : bytesOf (dS n) = decI n := by
  unfold dS decI
  rw [bytes_mk]
def gS (s : ByteArray) (j k : Nat) : ByteArray := if j < k then s else ⟨#[]⟩
theorem lit_at {w : World} {L : Nat} {t : TypeId} {fr : Nat × Nat} (h : w.heap[L]? = some (.cells #[.string ⟨#[]⟩, .string ⟨#[32]⟩, .string ⟨#[9]⟩, .string ⟨#[32, 32, 9]⟩] t fr)) (i : Nat) (hi : i < 4) : w.cell? ⟨L, i, none⟩ = some (.string (lS i)) := by
  unfold World.cell?
  rw [h]
  have : i = 0 ∨ i = 1 ∨ i = 2 ∨ i = 3 := by omega
  rcases this with rfl | rfl | rfl | rfl <;> rfl
theorem four_at {w : World} {B : Nat} {t : TypeId} {a b c d : Value} (h : w.heap[B]? = some (.cells #[a, b, c, d] t (0, 0))) : w.cell? ⟨B, 0, none⟩ = some a ∧ w.cell? ⟨B, 1, none⟩ = some b ∧ w.cell? ⟨B, 2, none⟩ = some c ∧ w.cell? ⟨B, 3, none⟩ = some d ∧ ∀ j, w.frozen? ⟨B, j, none⟩ = false := by
  refine ⟨?_, ?_, ?_, ?_, fun j => ?_⟩
  · unfold World.cell?; rw [h]; rfl
  · unfold World.cell?; rw [h]; rfl
  · unfold World.cell?; rw [h]; rfl
  · unfold World.cell?; rw [h]; rfl
  · unfold World.frozen?; rw [h]; simp
theorem heap_set (w : World) (B j : Nat) (u : Value) (cs : Array Value) (t : TypeId) (fr : Nat × Nat) (h : w.heap[B]? = some (.cells cs t fr)) : (w.setCell ⟨B, j, none⟩ u).heap[B]? = some (.cells (cs.setIfInBounds j u) t fr) := by
  simp [World.setCell, Array.getElem?_modify, h]
theorem heap_set_ne (w : World) (B k j : Nat) (u : Value) (hne : k ≠ B) : (w.setCell ⟨B, j, none⟩ u).heap[k]? = w.heap[k]? := by
  simp [World.setCell, Array.getElem?_modify, Ne.symm hne]
theorem early_walk (K : Nat) (hK : 40 ≤ K) (fr un : Nat) (hf ht : Bool) (he : (hf = false ∧ ht = false) ∨ (hf = true ∧ ht = true ∧ un < fr)) (v : Array Value) (w : World) (hT : G.T w) :
    Calls Tryd.prog 8 #[.int .u16 (fr : Int), .int .u16 (un : Int), .bool hf, .bool ht, .agg v] w fun e w' => e = .returned (.bool true) ∧ Below w.heap.size w w' := by
  have HAW := Aside0.mk (fun w (hT : G.T w) => carryalllaw20_awake.calls K true w (awake_at K hK) hT)
  obtain ⟨wb, hwb⟩ : ∃ wb, w.alloc (.cells v 39) = wb := ⟨_, rfl⟩
  have B0 := Aside0.mk (show Below w.heap.size w wb by rw [← hwb]; exact below_alloc (Below.refl _ _) _)
  have HT0 := Aside0.mk (G.T_below hT B0.out)
  clear hT
  rcases he with ⟨rfl, rfl⟩ | ⟨rfl, rfl, hlt⟩
  · go_enter Tryd.func8, Tryd.ntmps8
    go_wp2_with (first
      | (go_at_call 9; with_reducible refine (HAW.out wb HT0.out).mono ?_; rintro e w1 ⟨rfl, h1⟩; have B1 := Aside0.mk h1; clear h1)
      | (go_at_call 9; with_reducible refine (HAW.out w1 (G.T_below HT0.out B1.out)).mono ?_; rintro e w2 ⟨rfl, h2⟩; have B2 := Aside0.mk h2; clear h2))
    go_ret
    have b1 := B0.out.trans (B1.out.mono B0.out.size)
    exact ⟨rfl, b1.trans (B2.out.mono b1.size)⟩
  · have hd : decide ((un : Int) < (fr : Int)) = true := decide_eq_true (by omega)
    go_enter Tryd.func8, Tryd.ntmps8
    go_wp2_with (first
      | (go_at_call 9; with_reducible refine (HAW.out wb HT0.out).mono ?_; rintro e w1 ⟨rfl, h1⟩; have B1 := Aside0.mk h1; clear h1)
      | (go_at_call 9; with_reducible refine (HAW.out w1 (G.T_below HT0.out B1.out)).mono ?_; rintro e w2 ⟨rfl, h2⟩; have B2 := Aside0.mk h2; clear h2))
    go_ret
    have b1 := B0.out.trans (B1.out.mono B0.out.size)
    exact ⟨rfl, b1.trans (B2.out.mono b1.size)⟩
theorem push_last (a : Array Obj) (o : Obj) (i : Nat) (h : i = a.size) : (a.push o)[i]? = some o := by subst h; simp
theorem at_lt {w : World} {k : Nat} {o : Obj} (h : w.heap[k]? = some o) : k < w.heap.size := (Array.getElem?_eq_some_iff.1 h).1
theorem at_below {w w' : World} {k : Nat} {o : Obj} (h : Below w.heap.size w w') (hw : w.heap[k]? = some o) : w'.heap[k]? = some o := (h.block k (at_lt hw)).trans hw
theorem alloc_at (w : World) (o : Obj) : (w.alloc o).heap[w.heap.size]? = some o := push_last _ _ _ rfl
theorem alloc_old {w : World} {k : Nat} {o : Obj} (o' : Obj) (h : w.heap[k]? = some o) : (w.alloc o').heap[k]? = some o := (Below.heap_alloc w o' k (at_lt h)).trans h
theorem set_size (w : World) (a : Addr) (u : Value) : (w.setCell a u).heap.size = w.heap.size := by simp [World.setCell]
theorem alloc_size (w : World) (o : Obj) : (w.alloc o).heap.size = w.heap.size + 1 := by show (w.heap.push o).size = _; simp
theorem parse_at (S : ByteArray) (hs : S.size ≤ 1000) {r1 r2 : Int} {r3 r4 r5 : Bool} (h : parseL S = (r1, r2, r3, r4, r5)) (w : World) :
    Calls Tryd.prog 10 #[.string S] w fun e w' => e = .returned (.tuple #[.agg #[.int .i64 r1, .int .i64 r2, .bool r3, .bool r4], .bool r5]) ∧ Below w.heap.size w w' :=
  span_Parse.calls 2003 S r1 r2 r3 r4 r5 w ((parse_f (by omega) (by omega)).trans (congrArg some h))
def textS (i0 i1 i2 i3 : Nat) (s t : ByteArray) : ByteArray := (((((((⟨#[98, 89, 116, 69, 115]⟩ : ByteArray) ++ lS i0) ++ ⟨#[61]⟩) ++ lS i1) ++ s) ++ lS i2) ++ ⟨#[45]⟩) ++ lS i3 ++ t
def gD (n : Nat) (h : Bool) : ByteArray := if h then dS n else ⟨#[]⟩
theorem gD_bytes (n : Nat) (h : Bool) : bytesOf (gD n h) = digs (if h then (n : Int) else 0) h := by
  cases h
  · rfl
  · show bytesOf (dS n) = decI (n : Int).toNat
    rw [dS_bytes]
    rfl
theorem textS_bytes (i0 i1 i2 i3 n m : Nat) (hf ht : Bool) : bytesOf (textS i0 i1 i2 i3 (gD n hf) (gD m ht)) = textL i0 i1 i2 i3 (if hf then (n : Int) else 0) (if ht then (m : Int) else 0) hf ht := by
  unfold textS textL
  have e1 : bytesOf ⟨#[98, 89, 116, 69, 115]⟩ = [98, 89, 116, 69, 115] := by rfl
  have e2 : bytesOf ⟨#[61]⟩ = [61] := by rfl
  have e3 : bytesOf ⟨#[45]⟩ = [45] := by rfl
  simp only [bytes_append, lS_bytes, gD_bytes, e1, e2, e3, List.append_assoc, List.cons_append, List.nil_append]
theorem gD_size (n : Nat) (hn : n ≤ 65535) (h : Bool) : (gD n h).size ≤ 5 := by
  cases h
  · exact Nat.zero_le _
  · exact dS_size n hn
theorem textS_size (i0 i1 i2 i3 : Nat) (s t : ByteArray) (hs : s.size ≤ 5) (ht : t.size ≤ 5) : (textS i0 i1 i2 i3 s t).size ≤ 40 := by
  have := lS_size i0
  have := lS_size i1
  have := lS_size i2
  have := lS_size i3
  unfold textS
  simp only [ByteArray.size_append]
  have e1 : (⟨#[98, 89, 116, 69, 115]⟩ : ByteArray).size = 5 := by rfl
  have e2 : (⟨#[61]⟩ : ByteArray).size = 1 := by rfl
  have e3 : (⟨#[45]⟩ : ByteArray).size = 1 := by rfl
  omega
theorem num16 (n : Nat) (hn : n ≤ 65535) (h : Bool) : inM (if h then (n : Int) else 0) := by
  unfold inM
  cases h
  · simp
  · simp only [if_true]
    omega
theorem num_not (n : Nat) (h : Bool) (e : h = false) : (if h then (n : Int) else 0) = 0 := by rw [e]; rfl
theorem three (i0 i1 i2 i3 n m : Nat) (hn : n ≤ 65535) (hm : m ≤ 65535) (hf ht : Bool) (hor : hf = true ∨ ht = true) (hle : hf = true → ht = true → n ≤ m) :
    ∀ w : World, (Calls Tryd.prog 10 #[.string (textS i0 i1 i2 i3 (gD n hf) (gD m ht))] w fun e w' => e = .returned (.tuple #[.agg #[.int .i64 (if hf then (n : Int) else 0), .int .i64 (if ht then (m : Int) else 0), .bool hf, .bool ht], .bool true]) ∧ Below w.heap.size w w')
    ∧ (Calls Tryd.prog 10 #[.string ((⟨#[32]⟩ : ByteArray) ++ textS i0 i1 i2 i3 (gD n hf) (gD m ht))] w fun e w' => e = .returned (.tuple #[.agg #[.int .i64 0, .int .i64 0, .bool false, .bool false], .bool false]) ∧ Below w.heap.size w w')
    ∧ (Calls Tryd.prog 10 #[.string (textS i0 i1 i2 i3 (gD n hf) (gD m ht) ++ ⟨#[120]⟩)] w fun e w' => e = .returned (.tuple #[.agg #[.int .i64 0, .int .i64 0, .bool false, .bool false], .bool false]) ∧ Below w.heap.size w w') := by
  intro w
  have hz := textS_size i0 i1 i2 i3 (gD n hf) (gD m ht) (gD_size n hn hf) (gD_size m hm ht)
  have hb := textS_bytes i0 i1 i2 i3 n m hf ht
  have e1 : (⟨#[32]⟩ : ByteArray).size = 1 := by rfl
  have e2 : (⟨#[120]⟩ : ByteArray).size = 1 := by rfl
  refine ⟨parse_at _ (by omega) ?_ w, parse_at _ (by rw [ByteArray.size_append]; omega) ?_ w, parse_at _ (by rw [ByteArray.size_append]; omega) ?_ w⟩
  · refine text_ok (num16 n hn hf) (num16 m hm ht) (num_not n hf) (num_not m ht) hor ?_ hb
    intro h1 h2
    rw [h1, h2]
    have := hle h1 h2
    simp only [if_true]
    omega
  · refine text_ahead (b0 := i0) (b1 := i1) (b2 := i2) (b3 := i3) (n := if hf then (n : Int) else 0) (m := if ht then (m : Int) else 0) (hf := hf) (ht := ht) ?_
    rw [bytes_append, hb]
    rfl
  · refine text_behind (b0 := i0) (b1 := i1) (b2 := i2) (b3 := i3) (num16 n hn hf) (num16 m hm ht) (num_not n hf) (num_not m ht) ?_
    rw [bytes_append, hb]
    rfl
theorem step_ {B : Nat} {w w' w'' : World} (h : Below B w w') (h2 : Below w'.heap.size w' w'') (hB : B ≤ w.heap.size := by omega) : Below B w w'' := h.trans (h2.mono (Nat.le_trans hB h.size))
theorem byte4 (c : Int) (hc : 0 ≤ c ∧ c ≤ 255) : ∃ i : Nat, i < 4 ∧ c % 4 = (i : Int) := ⟨(c % 4).toNat, by omega, by omega⟩
set_option maxHeartbeats 1000000 in
set_option maxRecDepth 100000 in
theorem main_tf (K : Nat) (hK : 40 ≤ K) (fr un : Nat) (hfr : fr ≤ 65535) (hun : un ≤ 65535) (v0 v1 v2 v3 : Int) (h0 : 0 ≤ v0 ∧ v0 ≤ 255) (h1 : 0 ≤ v1 ∧ v1 ≤ 255) (h2 : 0 ≤ v2 ∧ v2 ≤ 255) (h3 : 0 ≤ v3 ∧ v3 ≤ 255) (w : World) (hT : G.T w) :
    Calls Tryd.prog 8 #[.int .u16 (fr : Int), .int .u16 (un : Int), .bool true, .bool false, .agg #[.int .u8 v0, .int .u8 v1, .int .u8 v2, .int .u8 v3]] w fun e w' => e = .returned (.bool true) ∧ Below w.heap.size w w' := by
  have HAW := Aside0.mk (fun w (hT : G.T w) => carryalllaw20_awake.calls K true w (awake_at K hK) hT)
  obtain ⟨i0, b0, e0⟩ := byte4 v0 h0
  obtain ⟨i1, b1, e1⟩ := byte4 v1 h1
  obtain ⟨i2, b2, e2⟩ := byte4 v2 h2
  obtain ⟨i3, b3, e3⟩ := byte4 v3 h3
  obtain ⟨wb, hwb⟩ : ∃ wb, w.alloc (.cells #[.int .u8 v0, .int .u8 v1, .int .u8 v2, .int .u8 v3] 39) = wb := ⟨_, rfl⟩
  have B0 := Aside0.mk (show Below w.heap.size w wb by rw [← hwb]; exact below_alloc (Below.refl _ _) _)
  have P0 := Aside0.mk (show wb.heap[w.heap.size]? = some (.cells #[.int .u8 v0, .int .u8 v1, .int .u8 v2, .int .u8 v3] 39) ∧ w.heap.size < wb.heap.size by
    rw [← hwb]
    constructor
    · show (w.heap.push _)[w.heap.size]? = _
      simp
    · show _ < (w.heap.push _).size
      simp)
  have HT0 := Aside0.mk (G.T_below hT B0.out)
  clear hT
  go_enter Tryd.func8, Tryd.ntmps8
  go_wp2_with (first
    | (go_at_call 9; with_reducible refine (HAW.out wb HT0.out).mono ?_; rintro e w1 ⟨rfl, h1⟩; have B1 := Aside0.mk h1; clear h1))
  have hPw1 : w.heap.size < w1.heap.size := Nat.lt_of_lt_of_le P0.out.2 B1.out.size
  go_loopw [47] (fun i wr => ∃ k : Nat, k ≤ 4 ∧ i = .int .i64 k ∧ wr.heap[w1.heap.size + 1]? = some (.cells (#[.string (gS (lS i0) 0 k), .string (gS (lS i1) 1 k), .string (gS (lS i2) 2 k), .string (gS (lS i3) 3 k)] : Array Value) 41 (0, 0)) ∧ wr.heap[w.heap.size]? = some (.cells (#[.int .u8 v0, .int .u8 v1, .int .u8 v2, .int .u8 v3] : Array Value) 39 (0, 0)) ∧ wr.heap[w1.heap.size]? = some (.cells (#[.string ⟨#[]⟩, .string ⟨#[32]⟩, .string ⟨#[9]⟩, .string ⟨#[32, 32, 9]⟩] : Array Value) 9 (0, 0)) ∧ Below w1.heap.size w1 wr) (fun i _ => 4 - (intOf i).toNat)
  case atStart =>
    refine ⟨0, by omega, rfl, ?_, ?_, ?_, ?_⟩
    · show ((w1.heap.push _).push _)[w1.heap.size + 1]? = _
      exact (push_last _ _ _ (by simp)).trans rfl
    · show ((w1.heap.push _).push _)[w.heap.size]? = _
      rw [Array.getElem?_push_lt (by simp; omega), Array.getElem_push_lt hPw1, ← Array.getElem?_eq_getElem hPw1, B1.out.block _ P0.out.2, P0.out.1]
    · show ((w1.heap.push _).push _)[w1.heap.size]? = _
      rw [Array.getElem?_push_lt (by simp)]
      simp
    · exact below_alloc (below_alloc (Below.refl _ _) _) _
  case round =>
    obtain ⟨k, hk, rfl, hb, hp, hl, hB⟩ := hrel
    have HB := Aside0.mk hB
    clear hB
    by_cases hlt : k < 4
    · have hk4 : k = 0 ∨ k = 1 ∨ k = 2 ∨ k = 3 := by omega
      rcases hk4 with rfl | rfl | rfl | rfl
      · have hc := (four_at hp).1
        have hf := (four_at hb).2.2.2.2 0
        have hcb := (four_at hb).1
        have hcl := lit_at hl i0 b0
        have hm : v0.tmod 4 = (i0 : Int) := by rw [Int.tmod_eq_emod_of_nonneg h0.1, e0]
        have HH := Aside0.mk (And.intro hb (And.intro hp hl))
        clear hb hp hl
        go_wp2
        go_roundw
        case rel =>
          refine ⟨1, by omega, by go_num, ?_, ?_, ?_, ?_⟩
          · exact (heap_set _ _ 0 _ _ _ _ HH.out.1).trans rfl
          · exact (heap_set_ne _ _ _ _ _ (by omega)).trans HH.out.2.1
          · exact (heap_set_ne _ _ _ _ _ (by omega)).trans HH.out.2.2
          · exact below_set HB.out (by omega)
        case measure => simp [intOf]
      · have hc := (four_at hp).2.1
        have hf := (four_at hb).2.2.2.2 1
        have hcb := (four_at hb).2.1
        have hcl := lit_at hl i1 b1
        have hm : v1.tmod 4 = (i1 : Int) := by rw [Int.tmod_eq_emod_of_nonneg h1.1, e1]
        have HH := Aside0.mk (And.intro hb (And.intro hp hl))
        clear hb hp hl
        go_wp2
        go_roundw
        case rel =>
          refine ⟨2, by omega, by go_num, ?_, ?_, ?_, ?_⟩
          · exact (heap_set _ _ 1 _ _ _ _ HH.out.1).trans rfl
          · exact (heap_set_ne _ _ _ _ _ (by omega)).trans HH.out.2.1
          · exact (heap_set_ne _ _ _ _ _ (by omega)).trans HH.out.2.2
          · exact below_set HB.out (by omega)
        case measure => simp [intOf]
      · have hc := (four_at hp).2.2.1
        have hf := (four_at hb).2.2.2.2 2
        have hcb := (four_at hb).2.2.1
        have hcl := lit_at hl i2 b2
        have hm : v2.tmod 4 = (i2 : Int) := by rw [Int.tmod_eq_emod_of_nonneg h2.1, e2]
        have HH := Aside0.mk (And.intro hb (And.intro hp hl))
        clear hb hp hl
        go_wp2
        go_roundw
        case rel =>
          refine ⟨3, by omega, by go_num, ?_, ?_, ?_, ?_⟩
          · exact (heap_set _ _ 2 _ _ _ _ HH.out.1).trans rfl
          · exact (heap_set_ne _ _ _ _ _ (by omega)).trans HH.out.2.1
          · exact (heap_set_ne _ _ _ _ _ (by omega)).trans HH.out.2.2
          · exact below_set HB.out (by omega)
        case measure => simp [intOf]
      · have hc := (four_at hp).2.2.2.1
        have hf := (four_at hb).2.2.2.2 3
        have hcb := (four_at hb).2.2.2.1
        have hcl := lit_at hl i3 b3
        have hm : v3.tmod 4 = (i3 : Int) := by rw [Int.tmod_eq_emod_of_nonneg h3.1, e3]
        have HH := Aside0.mk (And.intro hb (And.intro hp hl))
        clear hb hp hl
        go_wp2
        go_roundw
        case rel =>
          refine ⟨4, by omega, by go_num, ?_, ?_, ?_, ?_⟩
          · exact (heap_set _ _ 3 _ _ _ _ HH.out.1).trans rfl
          · exact (heap_set_ne _ _ _ _ _ (by omega)).trans HH.out.2.1
          · exact (heap_set_ne _ _ _ _ _ (by omega)).trans HH.out.2.2
          · exact below_set HB.out (by omega)
        case measure => simp [intOf]
    · obtain rfl : k = 4 := by omega
      have HC := Aside0.mk (show wr.heap[w1.heap.size + 1]? = some (.cells (#[.string (lS i0), .string (lS i1), .string (lS i2), .string (lS i3)] : Array Value) 41 (0, 0)) from hb)
      have HDF := Aside0.mk (digits_walk fr hfr)
      have HDU := Aside0.mk (digits_walk un hun)
      have hwf : IntKind.i64.wrap (fr : Int) = (fr : Int) := IntWalk.i64_in _ (by omega)
      have hwu : IntKind.i64.wrap (un : Int) = (un : Int) := IntWalk.i64_in _ (by omega)
      clear hb hp hl
      have TH := three i0 i1 i2 i3 fr un hfr hun true false (Or.inl rfl) (fun _ h => absurd h (by decide))
      have HP1 := Aside0.mk (show ∀ w : World, Calls Tryd.prog 10 #[.string ((((((((⟨#[98, 89, 116, 69, 115]⟩ : ByteArray) ++ lS i0) ++ ⟨#[61]⟩) ++ lS i1) ++ dS fr) ++ lS i2) ++ ⟨#[45]⟩) ++ lS i3 ++ ⟨#[]⟩)] w fun e w' => e = .returned (.tuple #[.agg #[.int .i64 (fr : Int), .int .i64 0, .bool true, .bool false], .bool true]) ∧ Below w.heap.size w w' from fun w => (TH w).1)
      have HP2 := Aside0.mk (show ∀ w : World, Calls Tryd.prog 10 #[.string ((⟨#[32]⟩ : ByteArray) ++ ((((((((⟨#[98, 89, 116, 69, 115]⟩ : ByteArray) ++ lS i0) ++ ⟨#[61]⟩) ++ lS i1) ++ dS fr) ++ lS i2) ++ ⟨#[45]⟩) ++ lS i3 ++ ⟨#[]⟩))] w fun e w' => e = .returned (.tuple #[.agg #[.int .i64 0, .int .i64 0, .bool false, .bool false], .bool false]) ∧ Below w.heap.size w w' from fun w => (TH w).2.1)
      have HP3 := Aside0.mk (show ∀ w : World, Calls Tryd.prog 10 #[.string (((((((((⟨#[98, 89, 116, 69, 115]⟩ : ByteArray) ++ lS i0) ++ ⟨#[61]⟩) ++ lS i1) ++ dS fr) ++ lS i2) ++ ⟨#[45]⟩) ++ lS i3 ++ ⟨#[]⟩) ++ ⟨#[120]⟩)] w fun e w' => e = .returned (.tuple #[.agg #[.int .i64 0, .int .i64 0, .bool false, .bool false], .bool false]) ∧ Below w.heap.size w w' from fun w => (TH w).2.2)
      clear TH
      have z0 := lS_size i0
      have z1 := lS_size i1
      have z2 := lS_size i2
      have z3 := lS_size i3
      have zs := dS_size fr hfr
      have zt := dS_size un hun
      have g0 : ¬ (9223372036854775807 < 5 + (lS i0).size) := by omega
      have g1 : ¬ (9223372036854775807 < 5 + (lS i0).size + 1) := by omega
      have g2 : ¬ (9223372036854775807 < 5 + (lS i0).size + 1 + (lS i1).size) := by omega
      have g3 : ¬ (9223372036854775807 < 5 + (lS i0).size + 1 + (lS i1).size + (dS fr).size) := by omega
      have g4 : ¬ (9223372036854775807 < 5 + (lS i0).size + 1 + (lS i1).size + (dS fr).size + (lS i2).size) := by omega
      have g5 : ¬ (9223372036854775807 < 5 + (lS i0).size + 1 + (lS i1).size + (dS fr).size + (lS i2).size + 1) := by omega
      have g6 : ¬ (9223372036854775807 < 5 + (lS i0).size + 1 + (lS i1).size + (dS fr).size + (lS i2).size + 1 + (lS i3).size) := by omega
      have g7 : ¬ (9223372036854775807 < 1 + (5 + (lS i0).size + 1 + (lS i1).size + (dS fr).size + (lS i2).size + 1 + (lS i3).size)) := by omega
      have g8 : ¬ (9223372036854775807 < 5 + (lS i0).size + 1 + (lS i1).size + (dS fr).size + (lS i2).size + 1 + (lS i3).size + 1) := by omega
      clear z0 z1 z2 z3 zs zt
      go_wp2_with (first
        | (go_at_call 15; with_reducible refine (HDF.out _).mono ?_; rintro e w20 ⟨rfl, h2⟩
           have X2 : w20.heap[wr.heap.size]? = some (.cells (#[.int .i64 0, .int .i64 0, .bool true, .bool false] : Array Value) 24 (0, 0)) := at_below h2 (alloc_at _ _)
           have Y2 : w20.heap[w1.heap.size + 1]? = some (.cells (#[.string (lS i0), .string (lS i1), .string (lS i2), .string (lS i3)] : Array Value) 41 (0, 0)) := at_below h2 (alloc_old _ HC.out)
           have hcx0 := (four_at X2).1
           have hfx0 := (four_at X2).2.2.2.2 0
           have X30 := Aside0.mk (show (w20.setCell ⟨wr.heap.size, 0, none⟩ (.int .i64 (fr : Int))).heap[wr.heap.size]? = some (.cells (#[.int .i64 (fr : Int), .int .i64 0, .bool true, .bool false] : Array Value) 24 (0, 0)) from heap_set _ _ 0 _ _ _ _ X2)
           have Y30 := Aside0.mk (show (w20.setCell ⟨wr.heap.size, 0, none⟩ (.int .i64 (fr : Int))).heap[w1.heap.size + 1]? = some (.cells (#[.string (lS i0), .string (lS i1), .string (lS i2), .string (lS i3)] : Array Value) 41 (0, 0)) from (heap_set_ne _ _ _ _ _ (by have := at_lt HC.out; omega)).trans Y2)
           have D30 := Aside0.mk (show Below w1.heap.size w1 (w20.setCell ⟨wr.heap.size, 0, none⟩ (.int .i64 (fr : Int))) from below_set (step_ (below_alloc HB.out _) h2) HB.out.size)
           obtain ⟨y0, y1, y2, y3, _⟩ := four_at Y30.out
           clear h2 X2 Y2)
        | (go_at_call 10; with_reducible refine (HP1.out _).mono ?_; rintro e w3 ⟨rfl, h3⟩; have B3 := Aside0.mk h3; clear h3)
        | (go_at_call 10; with_reducible refine (HP2.out _).mono ?_; rintro e w4 ⟨rfl, h4⟩; have B4 := Aside0.mk h4; clear h4)
        | (go_at_call 10; with_reducible refine (HP3.out _).mono ?_; rintro e w5 ⟨rfl, h5⟩
           have R6 : (w5.alloc (.cells #[.int .i64 0, .int .i64 0, .bool false, .bool false] 24)).heap[w3.heap.size]? = some (.cells (#[.int .i64 (fr : Int), .int .i64 0, .bool true, .bool false] : Array Value) 24 (0, 0)) := alloc_old _ (at_below h5 (alloc_old _ (at_below B4.out (alloc_at _ _))))
           have X6 : (w5.alloc (.cells #[.int .i64 0, .int .i64 0, .bool false, .bool false] 24)).heap[wr.heap.size]? = some (.cells (#[.int .i64 (fr : Int), .int .i64 0, .bool true, .bool false] : Array Value) 24 (0, 0)) := alloc_old _ (at_below h5 (alloc_old _ (at_below B4.out (alloc_old _ (at_below B3.out X30.out)))))
           have D6 := Aside0.mk (show Below w1.heap.size w1 (w5.alloc (.cells #[.int .i64 0, .int .i64 0, .bool false, .bool false] 24)) from below_alloc (step_ (below_alloc (step_ (below_alloc (step_ D30.out B3.out) _) B4.out) _) h5) _)
           obtain ⟨p0, p1, p2, p3, _⟩ := four_at R6
           obtain ⟨q0, q1, q2, q3, _⟩ := four_at X6
           clear h5 R6 X6))
      go_ret
      have b1 := B0.out.trans (B1.out.mono B0.out.size)
      exact ⟨rfl, b1.trans (D6.out.mono b1.size)⟩
set_option maxHeartbeats 1000000 in
set_option maxRecDepth 100000 in
theorem main_ft (K : Nat) (hK : 40 ≤ K) (fr un : Nat) (hfr : fr ≤ 65535) (hun : un ≤ 65535) (v0 v1 v2 v3 : Int) (h0 : 0 ≤ v0 ∧ v0 ≤ 255) (h1 : 0 ≤ v1 ∧ v1 ≤ 255) (h2 : 0 ≤ v2 ∧ v2 ≤ 255) (h3 : 0 ≤ v3 ∧ v3 ≤ 255) (w : World) (hT : G.T w) :
    Calls Tryd.prog 8 #[.int .u16 (fr : Int), .int .u16 (un : Int), .bool false, .bool true, .agg #[.int .u8 v0, .int .u8 v1, .int .u8 v2, .int .u8 v3]] w fun e w' => e = .returned (.bool true) ∧ Below w.heap.size w w' := by
  have HAW := Aside0.mk (fun w (hT : G.T w) => carryalllaw20_awake.calls K true w (awake_at K hK) hT)
  obtain ⟨i0, b0, e0⟩ := byte4 v0 h0
  obtain ⟨i1, b1, e1⟩ := byte4 v1 h1
  obtain ⟨i2, b2, e2⟩ := byte4 v2 h2
  obtain ⟨i3, b3, e3⟩ := byte4 v3 h3
  obtain ⟨wb, hwb⟩ : ∃ wb, w.alloc (.cells #[.int .u8 v0, .int .u8 v1, .int .u8 v2, .int .u8 v3] 39) = wb := ⟨_, rfl⟩
  have B0 := Aside0.mk (show Below w.heap.size w wb by rw [← hwb]; exact below_alloc (Below.refl _ _) _)
  have P0 := Aside0.mk (show wb.heap[w.heap.size]? = some (.cells #[.int .u8 v0, .int .u8 v1, .int .u8 v2, .int .u8 v3] 39) ∧ w.heap.size < wb.heap.size by
    rw [← hwb]
    constructor
    · show (w.heap.push _)[w.heap.size]? = _
      simp
    · show _ < (w.heap.push _).size
      simp)
  have HT0 := Aside0.mk (G.T_below hT B0.out)
  clear hT
  go_enter Tryd.func8, Tryd.ntmps8
  go_wp2_with (first
    | (go_at_call 9; with_reducible refine (HAW.out wb HT0.out).mono ?_; rintro e w1 ⟨rfl, h1⟩; have B1 := Aside0.mk h1; clear h1))
  have hPw1 : w.heap.size < w1.heap.size := Nat.lt_of_lt_of_le P0.out.2 B1.out.size
  go_loopw [47] (fun i wr => ∃ k : Nat, k ≤ 4 ∧ i = .int .i64 k ∧ wr.heap[w1.heap.size + 1]? = some (.cells (#[.string (gS (lS i0) 0 k), .string (gS (lS i1) 1 k), .string (gS (lS i2) 2 k), .string (gS (lS i3) 3 k)] : Array Value) 41 (0, 0)) ∧ wr.heap[w.heap.size]? = some (.cells (#[.int .u8 v0, .int .u8 v1, .int .u8 v2, .int .u8 v3] : Array Value) 39 (0, 0)) ∧ wr.heap[w1.heap.size]? = some (.cells (#[.string ⟨#[]⟩, .string ⟨#[32]⟩, .string ⟨#[9]⟩, .string ⟨#[32, 32, 9]⟩] : Array Value) 9 (0, 0)) ∧ Below w1.heap.size w1 wr) (fun i _ => 4 - (intOf i).toNat)
  case atStart =>
    refine ⟨0, by omega, rfl, ?_, ?_, ?_, ?_⟩
    · show ((w1.heap.push _).push _)[w1.heap.size + 1]? = _
      exact (push_last _ _ _ (by simp)).trans rfl
    · show ((w1.heap.push _).push _)[w.heap.size]? = _
      rw [Array.getElem?_push_lt (by simp; omega), Array.getElem_push_lt hPw1, ← Array.getElem?_eq_getElem hPw1, B1.out.block _ P0.out.2, P0.out.1]
    · show ((w1.heap.push _).push _)[w1.heap.size]? = _
      rw [Array.getElem?_push_lt (by simp)]
      simp
    · exact below_alloc (below_alloc (Below.refl _ _) _) _
  case round =>
    obtain ⟨k, hk, rfl, hb, hp, hl, hB⟩ := hrel
    have HB := Aside0.mk hB
    clear hB
    by_cases hlt : k < 4
    · have hk4 : k = 0 ∨ k = 1 ∨ k = 2 ∨ k = 3 := by omega
      rcases hk4 with rfl | rfl | rfl | rfl
      · have hc := (four_at hp).1
        have hf := (four_at hb).2.2.2.2 0
        have hcb := (four_at hb).1
        have hcl := lit_at hl i0 b0
        have hm : v0.tmod 4 = (i0 : Int) := by rw [Int.tmod_eq_emod_of_nonneg h0.1, e0]
        have HH := Aside0.mk (And.intro hb (And.intro hp hl))
        clear hb hp hl
        go_wp2
        go_roundw
        case rel =>
          refine ⟨1, by omega, by go_num, ?_, ?_, ?_, ?_⟩
          · exact (heap_set _ _ 0 _ _ _ _ HH.out.1).trans rfl
          · exact (heap_set_ne _ _ _ _ _ (by omega)).trans HH.out.2.1
          · exact (heap_set_ne _ _ _ _ _ (by omega)).trans HH.out.2.2
          · exact below_set HB.out (by omega)
        case measure => simp [intOf]
      · have hc := (four_at hp).2.1
        have hf := (four_at hb).2.2.2.2 1
        have hcb := (four_at hb).2.1
        have hcl := lit_at hl i1 b1
        have hm : v1.tmod 4 = (i1 : Int) := by rw [Int.tmod_eq_emod_of_nonneg h1.1, e1]
        have HH := Aside0.mk (And.intro hb (And.intro hp hl))
        clear hb hp hl
        go_wp2
        go_roundw
        case rel =>
          refine ⟨2, by omega, by go_num, ?_, ?_, ?_, ?_⟩
          · exact (heap_set _ _ 1 _ _ _ _ HH.out.1).trans rfl
          · exact (heap_set_ne _ _ _ _ _ (by omega)).trans HH.out.2.1
          · exact (heap_set_ne _ _ _ _ _ (by omega)).trans HH.out.2.2
          · exact below_set HB.out (by omega)
        case measure => simp [intOf]
      · have hc := (four_at hp).2.2.1
        have hf := (four_at hb).2.2.2.2 2
        have hcb := (four_at hb).2.2.1
        have hcl := lit_at hl i2 b2
        have hm : v2.tmod 4 = (i2 : Int) := by rw [Int.tmod_eq_emod_of_nonneg h2.1, e2]
        have HH := Aside0.mk (And.intro hb (And.intro hp hl))
        clear hb hp hl
        go_wp2
        go_roundw
        case rel =>
          refine ⟨3, by omega, by go_num, ?_, ?_, ?_, ?_⟩
          · exact (heap_set _ _ 2 _ _ _ _ HH.out.1).trans rfl
          · exact (heap_set_ne _ _ _ _ _ (by omega)).trans HH.out.2.1
          · exact (heap_set_ne _ _ _ _ _ (by omega)).trans HH.out.2.2
          · exact below_set HB.out (by omega)
        case measure => simp [intOf]
      · have hc := (four_at hp).2.2.2.1
        have hf := (four_at hb).2.2.2.2 3
        have hcb := (four_at hb).2.2.2.1
        have hcl := lit_at hl i3 b3
        have hm : v3.tmod 4 = (i3 : Int) := by rw [Int.tmod_eq_emod_of_nonneg h3.1, e3]
        have HH := Aside0.mk (And.intro hb (And.intro hp hl))
        clear hb hp hl
        go_wp2
        go_roundw
        case rel =>
          refine ⟨4, by omega, by go_num, ?_, ?_, ?_, ?_⟩
          · exact (heap_set _ _ 3 _ _ _ _ HH.out.1).trans rfl
          · exact (heap_set_ne _ _ _ _ _ (by omega)).trans HH.out.2.1
          · exact (heap_set_ne _ _ _ _ _ (by omega)).trans HH.out.2.2
          · exact below_set HB.out (by omega)
        case measure => simp [intOf]
    · obtain rfl : k = 4 := by omega
      have HC := Aside0.mk (show wr.heap[w1.heap.size + 1]? = some (.cells (#[.string (lS i0), .string (lS i1), .string (lS i2), .string (lS i3)] : Array Value) 41 (0, 0)) from hb)
      have HDF := Aside0.mk (digits_walk fr hfr)
      have HDU := Aside0.mk (digits_walk un hun)
      have hwf : IntKind.i64.wrap (fr : Int) = (fr : Int) := IntWalk.i64_in _ (by omega)
      have hwu : IntKind.i64.wrap (un : Int) = (un : Int) := IntWalk.i64_in _ (by omega)
      clear hb hp hl
      have TH := three i0 i1 i2 i3 fr un hfr hun false true (Or.inr rfl) (fun h _ => absurd h (by decide))
      have HP1 := Aside0.mk (show ∀ w : World, Calls Tryd.prog 10 #[.string ((((((((⟨#[98, 89, 116, 69, 115]⟩ : ByteArray) ++ lS i0) ++ ⟨#[61]⟩) ++ lS i1) ++ ⟨#[]⟩) ++ lS i2) ++ ⟨#[45]⟩) ++ lS i3 ++ dS un)] w fun e w' => e = .returned (.tuple #[.agg #[.int .i64 0, .int .i64 (un : Int), .bool false, .bool true], .bool true]) ∧ Below w.heap.size w w' from fun w => (TH w).1)
      have HP2 := Aside0.mk (show ∀ w : World, Calls Tryd.prog 10 #[.string ((⟨#[32]⟩ : ByteArray) ++ ((((((((⟨#[98, 89, 116, 69, 115]⟩ : ByteArray) ++ lS i0) ++ ⟨#[61]⟩) ++ lS i1) ++ ⟨#[]⟩) ++ lS i2) ++ ⟨#[45]⟩) ++ lS i3 ++ dS un))] w fun e w' => e = .returned (.tuple #[.agg #[.int .i64 0, .int .i64 0, .bool false, .bool false], .bool false]) ∧ Below w.heap.size w w' from fun w => (TH w).2.1)
      have HP3 := Aside0.mk (show ∀ w : World, Calls Tryd.prog 10 #[.string (((((((((⟨#[98, 89, 116, 69, 115]⟩ : ByteArray) ++ lS i0) ++ ⟨#[61]⟩) ++ lS i1) ++ ⟨#[]⟩) ++ lS i2) ++ ⟨#[45]⟩) ++ lS i3 ++ dS un) ++ ⟨#[120]⟩)] w fun e w' => e = .returned (.tuple #[.agg #[.int .i64 0, .int .i64 0, .bool false, .bool false], .bool false]) ∧ Below w.heap.size w w' from fun w => (TH w).2.2)
      clear TH
      have z0 := lS_size i0
      have z1 := lS_size i1
      have z2 := lS_size i2
      have z3 := lS_size i3
      have zs := dS_size fr hfr
      have zt := dS_size un hun
      have g0 : ¬ (9223372036854775807 < 5 + (lS i0).size) := by omega
      have g1 : ¬ (9223372036854775807 < 5 + (lS i0).size + 1) := by omega
      have g2 : ¬ (9223372036854775807 < 5 + (lS i0).size + 1 + (lS i1).size) := by omega
      have g3 : ¬ (9223372036854775807 < 5 + (lS i0).size + 1 + (lS i1).size + (lS i2).size) := by omega
      have g4 : ¬ (9223372036854775807 < 5 + (lS i0).size + 1 + (lS i1).size + (lS i2).size + 1) := by omega
      have g5 : ¬ (9223372036854775807 < 5 + (lS i0).size + 1 + (lS i1).size + (lS i2).size + 1 + (lS i3).size) := by omega
      have g6 : ¬ (9223372036854775807 < 5 + (lS i0).size + 1 + (lS i1).size + (lS i2).size + 1 + (lS i3).size + (dS un).size) := by omega
      have g7 : ¬ (9223372036854775807 < 1 + (5 + (lS i0).size + 1 + (lS i1).size + (lS i2).size + 1 + (lS i3).size + (dS un).size)) := by omega
      have g8 : ¬ (9223372036854775807 < 5 + (lS i0).size + 1 + (lS i1).size + (lS i2).size + 1 + (lS i3).size + (dS un).size + 1) := by omega
      clear z0 z1 z2 z3 zs zt
      go_wp2_with (first
        | (go_at_call 15; with_reducible refine (HDU.out _).mono ?_; rintro e w20 ⟨rfl, h2⟩
           have X2 : w20.heap[wr.heap.size]? = some (.cells (#[.int .i64 0, .int .i64 0, .bool false, .bool true] : Array Value) 24 (0, 0)) := at_below h2 (alloc_at _ _)
           have Y2 : w20.heap[w1.heap.size + 1]? = some (.cells (#[.string (lS i0), .string (lS i1), .string (lS i2), .string (lS i3)] : Array Value) 41 (0, 0)) := at_below h2 (alloc_old _ HC.out)
           have hcx0 := (four_at X2).2.1
           have hfx0 := (four_at X2).2.2.2.2 1
           have X30 := Aside0.mk (show (w20.setCell ⟨wr.heap.size, 1, none⟩ (.int .i64 (un : Int))).heap[wr.heap.size]? = some (.cells (#[.int .i64 0, .int .i64 (un : Int), .bool false, .bool true] : Array Value) 24 (0, 0)) from heap_set _ _ 1 _ _ _ _ X2)
           have Y30 := Aside0.mk (show (w20.setCell ⟨wr.heap.size, 1, none⟩ (.int .i64 (un : Int))).heap[w1.heap.size + 1]? = some (.cells (#[.string (lS i0), .string (lS i1), .string (lS i2), .string (lS i3)] : Array Value) 41 (0, 0)) from (heap_set_ne _ _ _ _ _ (by have := at_lt HC.out; omega)).trans Y2)
           have D30 := Aside0.mk (show Below w1.heap.size w1 (w20.setCell ⟨wr.heap.size, 1, none⟩ (.int .i64 (un : Int))) from below_set (step_ (below_alloc HB.out _) h2) HB.out.size)
           obtain ⟨y0, y1, y2, y3, _⟩ := four_at Y30.out
           clear h2 X2 Y2)
        | (go_at_call 10; with_reducible refine (HP1.out _).mono ?_; rintro e w3 ⟨rfl, h3⟩; have B3 := Aside0.mk h3; clear h3)
        | (go_at_call 10; with_reducible refine (HP2.out _).mono ?_; rintro e w4 ⟨rfl, h4⟩; have B4 := Aside0.mk h4; clear h4)
        | (go_at_call 10; with_reducible refine (HP3.out _).mono ?_; rintro e w5 ⟨rfl, h5⟩
           have R6 : (w5.alloc (.cells #[.int .i64 0, .int .i64 0, .bool false, .bool false] 24)).heap[w3.heap.size]? = some (.cells (#[.int .i64 0, .int .i64 (un : Int), .bool false, .bool true] : Array Value) 24 (0, 0)) := alloc_old _ (at_below h5 (alloc_old _ (at_below B4.out (alloc_at _ _))))
           have X6 : (w5.alloc (.cells #[.int .i64 0, .int .i64 0, .bool false, .bool false] 24)).heap[wr.heap.size]? = some (.cells (#[.int .i64 0, .int .i64 (un : Int), .bool false, .bool true] : Array Value) 24 (0, 0)) := alloc_old _ (at_below h5 (alloc_old _ (at_below B4.out (alloc_old _ (at_below B3.out X30.out)))))
           have D6 := Aside0.mk (show Below w1.heap.size w1 (w5.alloc (.cells #[.int .i64 0, .int .i64 0, .bool false, .bool false] 24)) from below_alloc (step_ (below_alloc (step_ (below_alloc (step_ D30.out B3.out) _) B4.out) _) h5) _)
           obtain ⟨p0, p1, p2, p3, _⟩ := four_at R6
           obtain ⟨q0, q1, q2, q3, _⟩ := four_at X6
           clear h5 R6 X6))
      go_ret
      have b1 := B0.out.trans (B1.out.mono B0.out.size)
      exact ⟨rfl, b1.trans (D6.out.mono b1.size)⟩
set_option maxHeartbeats 1000000 in
set_option maxRecDepth 100000 in
theorem main_tt (K : Nat) (hK : 40 ≤ K) (fr un : Nat) (hfr : fr ≤ 65535) (hun : un ≤ 65535) (hle : fr ≤ un) (v0 v1 v2 v3 : Int) (h0 : 0 ≤ v0 ∧ v0 ≤ 255) (h1 : 0 ≤ v1 ∧ v1 ≤ 255) (h2 : 0 ≤ v2 ∧ v2 ≤ 255) (h3 : 0 ≤ v3 ∧ v3 ≤ 255) (w : World) (hT : G.T w) :
    Calls Tryd.prog 8 #[.int .u16 (fr : Int), .int .u16 (un : Int), .bool true, .bool true, .agg #[.int .u8 v0, .int .u8 v1, .int .u8 v2, .int .u8 v3]] w fun e w' => e = .returned (.bool true) ∧ Below w.heap.size w w' := by
  have HAW := Aside0.mk (fun w (hT : G.T w) => carryalllaw20_awake.calls K true w (awake_at K hK) hT)
  obtain ⟨i0, b0, e0⟩ := byte4 v0 h0
  obtain ⟨i1, b1, e1⟩ := byte4 v1 h1
  obtain ⟨i2, b2, e2⟩ := byte4 v2 h2
  obtain ⟨i3, b3, e3⟩ := byte4 v3 h3
  obtain ⟨wb, hwb⟩ : ∃ wb, w.alloc (.cells #[.int .u8 v0, .int .u8 v1, .int .u8 v2, .int .u8 v3] 39) = wb := ⟨_, rfl⟩
  have B0 := Aside0.mk (show Below w.heap.size w wb by rw [← hwb]; exact below_alloc (Below.refl _ _) _)
  have P0 := Aside0.mk (show wb.heap[w.heap.size]? = some (.cells #[.int .u8 v0, .int .u8 v1, .int .u8 v2, .int .u8 v3] 39) ∧ w.heap.size < wb.heap.size by
    rw [← hwb]
    constructor
    · show (w.heap.push _)[w.heap.size]? = _
      simp
    · show _ < (w.heap.push _).size
      simp)
  have HT0 := Aside0.mk (G.T_below hT B0.out)
  clear hT
  have hd : decide ((un : Int) < (fr : Int)) = false := decide_eq_false (by omega)
  go_enter Tryd.func8, Tryd.ntmps8
  go_wp2_with (first
    | (go_at_call 9; with_reducible refine (HAW.out wb HT0.out).mono ?_; rintro e w1 ⟨rfl, h1⟩; have B1 := Aside0.mk h1; clear h1))
  have hPw1 : w.heap.size < w1.heap.size := Nat.lt_of_lt_of_le P0.out.2 B1.out.size
  go_loopw [47] (fun i wr => ∃ k : Nat, k ≤ 4 ∧ i = .int .i64 k ∧ wr.heap[w1.heap.size + 1]? = some (.cells (#[.string (gS (lS i0) 0 k), .string (gS (lS i1) 1 k), .string (gS (lS i2) 2 k), .string (gS (lS i3) 3 k)] : Array Value) 41 (0, 0)) ∧ wr.heap[w.heap.size]? = some (.cells (#[.int .u8 v0, .int .u8 v1, .int .u8 v2, .int .u8 v3] : Array Value) 39 (0, 0)) ∧ wr.heap[w1.heap.size]? = some (.cells (#[.string ⟨#[]⟩, .string ⟨#[32]⟩, .string ⟨#[9]⟩, .string ⟨#[32, 32, 9]⟩] : Array Value) 9 (0, 0)) ∧ Below w1.heap.size w1 wr) (fun i _ => 4 - (intOf i).toNat)
  case atStart =>
    refine ⟨0, by omega, rfl, ?_, ?_, ?_, ?_⟩
    · show ((w1.heap.push _).push _)[w1.heap.size + 1]? = _
      exact (push_last _ _ _ (by simp)).trans rfl
    · show ((w1.heap.push _).push _)[w.heap.size]? = _
      rw [Array.getElem?_push_lt (by simp; omega), Array.getElem_push_lt hPw1, ← Array.getElem?_eq_getElem hPw1, B1.out.block _ P0.out.2, P0.out.1]
    · show ((w1.heap.push _).push _)[w1.heap.size]? = _
      rw [Array.getElem?_push_lt (by simp)]
      simp
    · exact below_alloc (below_alloc (Below.refl _ _) _) _
  case round =>
    obtain ⟨k, hk, rfl, hb, hp, hl, hB⟩ := hrel
    have HB := Aside0.mk hB
    clear hB
    by_cases hlt : k < 4
    · have hk4 : k = 0 ∨ k = 1 ∨ k = 2 ∨ k = 3 := by omega
      rcases hk4 with rfl | rfl | rfl | rfl
      · have hc := (four_at hp).1
        have hf := (four_at hb).2.2.2.2 0
        have hcb := (four_at hb).1
        have hcl := lit_at hl i0 b0
        have hm : v0.tmod 4 = (i0 : Int) := by rw [Int.tmod_eq_emod_of_nonneg h0.1, e0]
        have HH := Aside0.mk (And.intro hb (And.intro hp hl))
        clear hb hp hl
        go_wp2
        go_roundw
        case rel =>
          refine ⟨1, by omega, by go_num, ?_, ?_, ?_, ?_⟩
          · exact (heap_set _ _ 0 _ _ _ _ HH.out.1).trans rfl
          · exact (heap_set_ne _ _ _ _ _ (by omega)).trans HH.out.2.1
          · exact (heap_set_ne _ _ _ _ _ (by omega)).trans HH.out.2.2
          · exact below_set HB.out (by omega)
        case measure => simp [intOf]
      · have hc := (four_at hp).2.1
        have hf := (four_at hb).2.2.2.2 1
        have hcb := (four_at hb).2.1
        have hcl := lit_at hl i1 b1
        have hm : v1.tmod 4 = (i1 : Int) := by rw [Int.tmod_eq_emod_of_nonneg h1.1, e1]
        have HH := Aside0.mk (And.intro hb (And.intro hp hl))
        clear hb hp hl
        go_wp2
        go_roundw
        case rel =>
          refine ⟨2, by omega, by go_num, ?_, ?_, ?_, ?_⟩
          · exact (heap_set _ _ 1 _ _ _ _ HH.out.1).trans rfl
          · exact (heap_set_ne _ _ _ _ _ (by omega)).trans HH.out.2.1
          · exact (heap_set_ne _ _ _ _ _ (by omega)).trans HH.out.2.2
          · exact below_set HB.out (by omega)
        case measure => simp [intOf]
      · have hc := (four_at hp).2.2.1
        have hf := (four_at hb).2.2.2.2 2
        have hcb := (four_at hb).2.2.1
        have hcl := lit_at hl i2 b2
        have hm : v2.tmod 4 = (i2 : Int) := by rw [Int.tmod_eq_emod_of_nonneg h2.1, e2]
        have HH := Aside0.mk (And.intro hb (And.intro hp hl))
        clear hb hp hl
        go_wp2
        go_roundw
        case rel =>
          refine ⟨3, by omega, by go_num, ?_, ?_, ?_, ?_⟩
          · exact (heap_set _ _ 2 _ _ _ _ HH.out.1).trans rfl
          · exact (heap_set_ne _ _ _ _ _ (by omega)).trans HH.out.2.1
          · exact (heap_set_ne _ _ _ _ _ (by omega)).trans HH.out.2.2
          · exact below_set HB.out (by omega)
        case measure => simp [intOf]
      · have hc := (four_at hp).2.2.2.1
        have hf := (four_at hb).2.2.2.2 3
        have hcb := (four_at hb).2.2.2.1
        have hcl := lit_at hl i3 b3
        have hm : v3.tmod 4 = (i3 : Int) := by rw [Int.tmod_eq_emod_of_nonneg h3.1, e3]
        have HH := Aside0.mk (And.intro hb (And.intro hp hl))
        clear hb hp hl
        go_wp2
        go_roundw
        case rel =>
          refine ⟨4, by omega, by go_num, ?_, ?_, ?_, ?_⟩
          · exact (heap_set _ _ 3 _ _ _ _ HH.out.1).trans rfl
          · exact (heap_set_ne _ _ _ _ _ (by omega)).trans HH.out.2.1
          · exact (heap_set_ne _ _ _ _ _ (by omega)).trans HH.out.2.2
          · exact below_set HB.out (by omega)
        case measure => simp [intOf]
    · obtain rfl : k = 4 := by omega
      have HC := Aside0.mk (show wr.heap[w1.heap.size + 1]? = some (.cells (#[.string (lS i0), .string (lS i1), .string (lS i2), .string (lS i3)] : Array Value) 41 (0, 0)) from hb)
      have HDF := Aside0.mk (digits_walk fr hfr)
      have HDU := Aside0.mk (digits_walk un hun)
      have hwf : IntKind.i64.wrap (fr : Int) = (fr : Int) := IntWalk.i64_in _ (by omega)
      have hwu : IntKind.i64.wrap (un : Int) = (un : Int) := IntWalk.i64_in _ (by omega)
      clear hb hp hl
      have TH := three i0 i1 i2 i3 fr un hfr hun true true (Or.inl rfl) (fun _ _ => hle)
      have HP1 := Aside0.mk (show ∀ w : World, Calls Tryd.prog 10 #[.string ((((((((⟨#[98, 89, 116, 69, 115]⟩ : ByteArray) ++ lS i0) ++ ⟨#[61]⟩) ++ lS i1) ++ dS fr) ++ lS i2) ++ ⟨#[45]⟩) ++ lS i3 ++ dS un)] w fun e w' => e = .returned (.tuple #[.agg #[.int .i64 (fr : Int), .int .i64 (un : Int), .bool true, .bool true], .bool true]) ∧ Below w.heap.size w w' from fun w => (TH w).1)
      have HP2 := Aside0.mk (show ∀ w : World, Calls Tryd.prog 10 #[.string ((⟨#[32]⟩ : ByteArray) ++ ((((((((⟨#[98, 89, 116, 69, 115]⟩ : ByteArray) ++ lS i0) ++ ⟨#[61]⟩) ++ lS i1) ++ dS fr) ++ lS i2) ++ ⟨#[45]⟩) ++ lS i3 ++ dS un))] w fun e w' => e = .returned (.tuple #[.agg #[.int .i64 0, .int .i64 0, .bool false, .bool false], .bool false]) ∧ Below w.heap.size w w' from fun w => (TH w).2.1)
      have HP3 := Aside0.mk (show ∀ w : World, Calls Tryd.prog 10 #[.string (((((((((⟨#[98, 89, 116, 69, 115]⟩ : ByteArray) ++ lS i0) ++ ⟨#[61]⟩) ++ lS i1) ++ dS fr) ++ lS i2) ++ ⟨#[45]⟩) ++ lS i3 ++ dS un) ++ ⟨#[120]⟩)] w fun e w' => e = .returned (.tuple #[.agg #[.int .i64 0, .int .i64 0, .bool false, .bool false], .bool false]) ∧ Below w.heap.size w w' from fun w => (TH w).2.2)
      clear TH
      have z0 := lS_size i0
      have z1 := lS_size i1
      have z2 := lS_size i2
      have z3 := lS_size i3
      have zs := dS_size fr hfr
      have zt := dS_size un hun
      have g0 : ¬ (9223372036854775807 < 5 + (lS i0).size) := by omega
      have g1 : ¬ (9223372036854775807 < 5 + (lS i0).size + 1) := by omega
      have g2 : ¬ (9223372036854775807 < 5 + (lS i0).size + 1 + (lS i1).size) := by omega
      have g3 : ¬ (9223372036854775807 < 5 + (lS i0).size + 1 + (lS i1).size + (dS fr).size) := by omega
      have g4 : ¬ (9223372036854775807 < 5 + (lS i0).size + 1 + (lS i1).size + (dS fr).size + (lS i2).size) := by omega
      have g5 : ¬ (9223372036854775807 < 5 + (lS i0).size + 1 + (lS i1).size + (dS fr).size + (lS i2).size + 1) := by omega
      have g6 : ¬ (9223372036854775807 < 5 + (lS i0).size + 1 + (lS i1).size + (dS fr).size + (lS i2).size + 1 + (lS i3).size) := by omega
      have g7 : ¬ (9223372036854775807 < 5 + (lS i0).size + 1 + (lS i1).size + (dS fr).size + (lS i2).size + 1 + (lS i3).size + (dS un).size) := by omega
      have g8 : ¬ (9223372036854775807 < 1 + (5 + (lS i0).size + 1 + (lS i1).size + (dS fr).size + (lS i2).size + 1 + (lS i3).size + (dS un).size)) := by omega
      have g9 : ¬ (9223372036854775807 < 5 + (lS i0).size + 1 + (lS i1).size + (dS fr).size + (lS i2).size + 1 + (lS i3).size + (dS un).size + 1) := by omega
      clear z0 z1 z2 z3 zs zt
      go_wp2_with (first
        | (go_at_call 15; with_reducible refine (HDF.out _).mono ?_; rintro e w20 ⟨rfl, h2⟩
           have X2 : w20.heap[wr.heap.size]? = some (.cells (#[.int .i64 0, .int .i64 0, .bool true, .bool true] : Array Value) 24 (0, 0)) := at_below h2 (alloc_at _ _)
           have Y2 : w20.heap[w1.heap.size + 1]? = some (.cells (#[.string (lS i0), .string (lS i1), .string (lS i2), .string (lS i3)] : Array Value) 41 (0, 0)) := at_below h2 (alloc_old _ HC.out)
           have hcx0 := (four_at X2).1
           have hfx0 := (four_at X2).2.2.2.2 0
           have X30 := Aside0.mk (show (w20.setCell ⟨wr.heap.size, 0, none⟩ (.int .i64 (fr : Int))).heap[wr.heap.size]? = some (.cells (#[.int .i64 (fr : Int), .int .i64 0, .bool true, .bool true] : Array Value) 24 (0, 0)) from heap_set _ _ 0 _ _ _ _ X2)
           have Y30 := Aside0.mk (show (w20.setCell ⟨wr.heap.size, 0, none⟩ (.int .i64 (fr : Int))).heap[w1.heap.size + 1]? = some (.cells (#[.string (lS i0), .string (lS i1), .string (lS i2), .string (lS i3)] : Array Value) 41 (0, 0)) from (heap_set_ne _ _ _ _ _ (by have := at_lt HC.out; omega)).trans Y2)
           have D30 := Aside0.mk (show Below w1.heap.size w1 (w20.setCell ⟨wr.heap.size, 0, none⟩ (.int .i64 (fr : Int))) from below_set (step_ (below_alloc HB.out _) h2) HB.out.size)
           obtain ⟨y0, y1, y2, y3, _⟩ := four_at Y30.out
           clear h2 X2 Y2)
        | (go_at_call 15; with_reducible refine (HDU.out _).mono ?_; rintro e w21 ⟨rfl, h2⟩
           have X2 : w21.heap[wr.heap.size]? = some (.cells (#[.int .i64 (fr : Int), .int .i64 0, .bool true, .bool true] : Array Value) 24 (0, 0)) := at_below h2 (X30.out)
           have Y2 : w21.heap[w1.heap.size + 1]? = some (.cells (#[.string (lS i0), .string (lS i1), .string (lS i2), .string (lS i3)] : Array Value) 41 (0, 0)) := at_below h2 (Y30.out)
           have hcx1 := (four_at X2).2.1
           have hfx1 := (four_at X2).2.2.2.2 1
           have X31 := Aside0.mk (show (w21.setCell ⟨wr.heap.size, 1, none⟩ (.int .i64 (un : Int))).heap[wr.heap.size]? = some (.cells (#[.int .i64 (fr : Int), .int .i64 (un : Int), .bool true, .bool true] : Array Value) 24 (0, 0)) from heap_set _ _ 1 _ _ _ _ X2)
           have Y31 := Aside0.mk (show (w21.setCell ⟨wr.heap.size, 1, none⟩ (.int .i64 (un : Int))).heap[w1.heap.size + 1]? = some (.cells (#[.string (lS i0), .string (lS i1), .string (lS i2), .string (lS i3)] : Array Value) 41 (0, 0)) from (heap_set_ne _ _ _ _ _ (by have := at_lt HC.out; omega)).trans Y2)
           have D31 := Aside0.mk (show Below w1.heap.size w1 (w21.setCell ⟨wr.heap.size, 1, none⟩ (.int .i64 (un : Int))) from below_set (step_ D30.out h2) HB.out.size)
           obtain ⟨y0, y1, y2, y3, _⟩ := four_at Y31.out
           clear h2 X2 Y2)
        | (go_at_call 10; with_reducible refine (HP1.out _).mono ?_; rintro e w3 ⟨rfl, h3⟩; have B3 := Aside0.mk h3; clear h3)
        | (go_at_call 10; with_reducible refine (HP2.out _).mono ?_; rintro e w4 ⟨rfl, h4⟩; have B4 := Aside0.mk h4; clear h4)
        | (go_at_call 10; with_reducible refine (HP3.out _).mono ?_; rintro e w5 ⟨rfl, h5⟩
           have R6 : (w5.alloc (.cells #[.int .i64 0, .int .i64 0, .bool false, .bool false] 24)).heap[w3.heap.size]? = some (.cells (#[.int .i64 (fr : Int), .int .i64 (un : Int), .bool true, .bool true] : Array Value) 24 (0, 0)) := alloc_old _ (at_below h5 (alloc_old _ (at_below B4.out (alloc_at _ _))))
           have X6 : (w5.alloc (.cells #[.int .i64 0, .int .i64 0, .bool false, .bool false] 24)).heap[wr.heap.size]? = some (.cells (#[.int .i64 (fr : Int), .int .i64 (un : Int), .bool true, .bool true] : Array Value) 24 (0, 0)) := alloc_old _ (at_below h5 (alloc_old _ (at_below B4.out (alloc_old _ (at_below B3.out X31.out)))))
           have D6 := Aside0.mk (show Below w1.heap.size w1 (w5.alloc (.cells #[.int .i64 0, .int .i64 0, .bool false, .bool false] 24)) from below_alloc (step_ (below_alloc (step_ (below_alloc (step_ D31.out B3.out) _) B4.out) _) h5) _)
           obtain ⟨p0, p1, p2, p3, _⟩ := four_at R6
           obtain ⟨q0, q1, q2, q3, _⟩ := four_at X6
           clear h5 R6 X6))
      go_ret
      have b1 := B0.out.trans (B1.out.mono B0.out.size)
      exact ⟨rfl, b1.trans (D6.out.mono b1.size)⟩
theorem byte_of' {z : Int} (h : (Lit.int .u8 z).wf = true) : 0 ≤ z ∧ z ≤ 255 := by simpa [Lit.wf, IntKind.min, IntKind.max, IntKind.bits, IntKind.signed] using h
theorem half_of {z : Int} (h : (Lit.int .u16 z).wf = true) : 0 ≤ z ∧ z ≤ 65535 := by simpa [Lit.wf, IntKind.min, IntKind.max, IntKind.bits, IntKind.signed] using h
theorem four_list (l : List Int) (h : l.length = 4) : ∃ a b c d, l = [a, b, c, d] := by
  match l, h with
  | [a, b, c, d], _ => exact ⟨a, b, c, d, rfl⟩
theorem blanks_row (a0 a1 : Int) (a2 a3 : Bool) (a4 : List Int) (W : World) (w0 : (Lit.int .u16 a0).wf = true) (w1 : (Lit.int .u16 a1).wf = true) (l4 : a4.length = 4) (w4 : ∀ z ∈ a4, (Lit.int .u8 z).wf = true) (hT : G.T W) :
    Calls Tryd.prog 8 #[.int .u16 a0, .int .u16 a1, .bool a2, .bool a3, .agg (a4.map (Value.int .u8)).toArray] W fun e w' => e = .returned (.bool true) ∧ Below W.heap.size W w' := by
  have r0 := half_of w0
  have r1 := half_of w1
  obtain ⟨fr, rfl⟩ := Int.eq_ofNat_of_zero_le r0.1
  obtain ⟨un, rfl⟩ := Int.eq_ofNat_of_zero_le r1.1
  obtain ⟨v0, v1, v2, v3, rfl⟩ := four_list a4 l4
  have h0 := byte_of' (w4 v0 (by simp))
  have h1 := byte_of' (w4 v1 (by simp))
  have h2 := byte_of' (w4 v2 (by simp))
  have h3 := byte_of' (w4 v3 (by simp))
  cases a2 <;> cases a3
  · exact early_walk 60 (by omega) fr un false false (Or.inl ⟨rfl, rfl⟩) _ W hT
  · exact main_ft 60 (by omega) fr un (by omega) (by omega) v0 v1 v2 v3 h0 h1 h2 h3 W hT
  · exact main_tf 60 (by omega) fr un (by omega) (by omega) v0 v1 v2 v3 h0 h1 h2 h3 W hT
  · by_cases hle : fr ≤ un
    · exact main_tt 60 (by omega) fr un (by omega) (by omega) hle v0 v1 v2 v3 h0 h1 h2 h3 W hT
    · exact early_walk 60 (by omega) fr un true true (Or.inr ⟨rfl, rfl, by omega⟩) _ W hT
end Go.Proofs.YtpgdafckelecjaaDoor.Span
