/- Chapter 22: a table: the contracts of New, Put, Len. -/
import Derived.Test.YtbpdbgpnlcbdiaaProg
import Derived.Test.YtbpdbgpnlcbdiaaWMore
import Derived.StillTailTactics
import Derived.IntWalk
import Derived.Deep.LoopGhost
import Derived.OwnWalk
import Derived.Laws.OwnMore
import Derived.Laws.Rows
import Derived.WalkKit
import Derived.Deep.RegionLaw
import Derived.RegionTactic
import Derived.BigRegion
import Derived.Deep.QuietTactic
import Derived.BigQuiet
import Derived.Below
namespace Go.Proofs.Ytbpdbgpnlcbdiaa.Tab
open Go.RowKit Go.Proofs.YtbpdbgpnlcbdiaaW.PrintWords Go.Proofs.YtbpdbgpnlcbdiaaW.PrintLast Go.Proofs.YtbpdbgpnlcbdiaaW.PrintMore
set_option linter.unusedVariables false
set_option linter.unusedSimpArgs false
theorem step_append_ownX {P : Program} {ops : Array Oper} {o : Oper} {a : Act} {w : World} {K : Act → World → Prop} {Q : Exit → Act → World → Prop} {E : Prop}
    (hg : o.guard = none) (s x : Operand) (t : TypeId) (hop : o.op = Op.call { callee := Callee.builtin Builtin.append, args := #[s, x], argTypes := #[t, t] })
    (base : Nat) (e : TypeId) (i : TypeInfo) (z : Value) (size bytes : Nat) (h1 : P.underlying t = some (.slice e)) (h2 : P.info? e = some i) (h3 : i.zero = some z) (h4 : i.size = size) (h5 : i.bytes = bytes) (h6 : z.cells.size = size) (h7 : 0 < size)
    (v : Value) (n : Nat) (xs : List Value) (hs : a.eval s = v) (hown : w.ownsRow base e size v n xs)
    (ad : Addr) (m c : Nat) (news : List Value) (hx : a.eval x = .slice (some ad) m c) (hn : news.length = m * size) (hc : ∀ j u, news[j]? = some u → w.cell? (ad.add j) = some u) (h1c : ∀ u ∈ news, u.oneCell' = true)
    (b1 : n + m ≤ maxLen) (b2 : (n + m) * bytes ≤ 140737488355328) (hbase : base ≤ w.heap.size)
    (hK : ∀ v' w', w'.ownsRow base e size v' (n + m) (xs ++ news) → w.grownBy w' v.ownBlock → K (a.put o.dst v') w') :
    if Region.wanted o (yielded ops a.tmps) = true then Oper.wp P o a w K Q else E := by
  have hw : Region.wanted o (yielded ops a.tmps) = true := by simp [Region.wanted, hg]
  rw [if_pos hw]
  obtain ⟨v', w', hrun, r1, r2, _⟩ := run_append_own (P := P) (w := w) base t o.type e i z size bytes h1 h2 h3 h4 h5 h6 h7 v n xs hown ad m c news hn hc h1c b1 b2 hbase
  unfold Oper.wp
  simp [execOp, hop, resolve, invoke, builtin, hs, hx, hrun, Result.andThen]
  exact hK v' w' r1 r2
/-- The cells of entries. -/
def flat (l : List (Int × Value)) : List Value := l.flatMap fun p => [.int .i64 p.1, p.2]
theorem flat_len (l : List (Int × Value)) : (flat l).length = l.length * 2 := by
  induction l with
  | nil => rfl
  | cons p l ih => unfold flat at *; rw [List.flatMap_cons, List.length_append, ih]; simp; omega
theorem flat_snoc (l : List (Int × Value)) (p : Int × Value) : flat (l ++ [p]) = flat l ++ [.int .i64 p.1, p.2] := by
  unfold flat
  simp
theorem flat_at (l : List (Int × Value)) (i : Nat) (p : Int × Value) (h : l[i]? = some p) : (flat l)[i * 2]? = some (.int .i64 p.1) ∧ (flat l)[i * 2 + 1]? = some p.2 := by
  induction l generalizing i with
  | nil => simp at h
  | cons q l ih =>
    unfold flat at *
    rw [List.flatMap_cons]
    cases i with
    | zero => simp at h; subst h; exact ⟨rfl, rfl⟩
    | succ i =>
      have := ih i (by simpa using h)
      rw [show (i + 1) * 2 = i * 2 + 2 by omega, show i * 2 + 2 + 1 = (i * 2 + 1) + 2 by omega]
      exact this
/-- Block B is a table: these entries, this room, this last handle. -/
def TabAt (T E : TypeId) (base B room last : Nat) (l : List (Int × Value)) (w : World) : Prop :=
  ∃ A cap, w.heap[B]? = some (.cells #[.slice A l.length cap, .int .i64 (room : Int), .int .i64 (last : Int)] T (0, 0)) ∧ w.ownsRow base E 2 (.slice A l.length cap) l.length (flat l) ∧ base ≤ B ∧ (Value.slice A l.length cap).ownBlock ≠ some B
theorem TabAt.lt {T E : TypeId} {base B room last : Nat} {l : List (Int × Value)} {w : World} (h : TabAt T E base B room last l w) : B < w.heap.size := by
  obtain ⟨A, cap, h1, _⟩ := h
  exact (Array.getElem?_eq_some_iff.1 h1).1
theorem own_slice {w : World} {base : Nat} {e : TypeId} {size : Nat} {v : Value} {n : Nat} {xs : List Value} (h : w.ownsRow base e size v n xs) : ∃ A cap, v = .slice A n cap := by
  rcases h.2 with ⟨rfl, rfl⟩ | ⟨g, cap, cur, rfl, _⟩
  · exact ⟨none, 0, rfl⟩
  · exact ⟨_, _, rfl⟩
theorem own_ne {w : World} {B b : Nat} {e T : TypeId} {size : Nat} {v : Value} {n : Nat} {xs : List Value} {cs : Array Value} {fr : Nat × Nat} (hown : w.ownsRow B e size v n xs) (hb : w.heap[b]? = some (.cells cs T fr)) (hTe : T ≠ e) : v.ownBlock ≠ some b := by
  rcases hown.2 with ⟨rfl, _⟩ | ⟨g, cap, cur, rfl, _, hg, _⟩
  · simp [Value.ownBlock]
  · intro h
    simp only [Value.ownBlock, Option.some.injEq] at h
    subst h
    rw [hg] at hb
    simp only [Option.some.injEq, Obj.cells.injEq] at hb
    exact hTe hb.2.1.symm
theorem own_below {w w' : World} {base : Nat} {e : TypeId} {size : Nat} {v : Value} {n : Nat} {xs : List Value} (h : w.ownsRow base e size v n xs) (hb : Below w.heap.size w w') : w'.ownsRow base e size v n xs := by
  refine h.kept (row := none) ⟨hb.os, hb.tape, hb.output, hb.size, fun k hk _ => hb.block k hk⟩ ?_
  cases v.ownBlock <;> simp
theorem TabAt.kept {T E : TypeId} {base B room last : Nat} {l : List (Int × Value)} {w w' : World} (h : TabAt T E base B room last l w) (hb : Below w.heap.size w w') : TabAt T E base B room last l w' := by
  obtain ⟨A, cap, h1, h2, h3⟩ := h
  exact ⟨A, cap, (hb.block B (Array.getElem?_eq_some_iff.1 h1).1).trans h1, own_below h2 hb, h3⟩
/-- What is no table, nor a row of entries, stays. -/
def Keeps (T E : TypeId) (w w' : World) : Prop := ∀ (k : Nat) (cs : Array Value) (t : TypeId) (fr : Nat × Nat), w.heap[k]? = some (.cells cs t fr) → t ≠ T → t ≠ E → w'.heap[k]? = some (.cells cs t fr)
theorem Keeps.of {T E : TypeId} {w w' : World} (h : Below w.heap.size w w') : Keeps T E w w' := fun k cs t fr hk _ _ => (h.block k (Array.getElem?_eq_some_iff.1 hk).1).trans hk
theorem Keeps.trans {T E : TypeId} {w w' w'' : World} (h : Keeps T E w w') (h2 : Keeps T E w' w'') : Keeps T E w w'' := fun k cs t fr hk ht he => h2 k cs t fr (h k cs t fr hk ht he) ht he
theorem three_cells {T B : Nat} {w : World} {a b c : Value} (h : w.heap[B]? = some (.cells #[a, b, c] T (0, 0))) :
    w.cell? ⟨B, 0, none⟩ = some a ∧ w.cell? ⟨B, 1, none⟩ = some b ∧ w.cell? ⟨B, 2, none⟩ = some c ∧ ∀ j, w.frozen? ⟨B, j, none⟩ = false := by
  refine ⟨?_, ?_, ?_, fun j => ?_⟩
  · unfold World.cell?; rw [h]; rfl
  · unfold World.cell?; rw [h]; rfl
  · unfold World.cell?; rw [h]; rfl
  · unfold World.frozen?; rw [h]; simp
theorem two_cells (W : World) (p q : Value) (e : TypeId) : ∀ j u, [p, q][j]? = some u → (W.alloc (.cells #[p, q] e)).cell? ((⟨W.heap.size, 0, none⟩ : Addr).add j) = some u := by
  intro j u hj
  have hb : (W.alloc (.cells #[p, q] e)).heap[W.heap.size]? = some (.cells #[p, q] e) := by
    show (W.heap.push _)[W.heap.size]? = _
    simp
  have ha : (⟨W.heap.size, 0, none⟩ : Addr).add j = ⟨W.heap.size, j, none⟩ := by unfold Addr.add; split <;> simp_all
  rw [ha]
  unfold World.cell?
  rw [hb]
  rcases j with _ | _ | j
  · simpa using hj
  · simpa using hj
  · simp at hj
/-- The cells of a table, one of them stored into. -/
theorem heap_set (w : World) (B j : Nat) (u : Value) (cs : Array Value) (t : TypeId) (fr : Nat × Nat) (h : w.heap[B]? = some (.cells cs t fr)) : (w.setCell ⟨B, j, none⟩ u).heap[B]? = some (.cells (cs.setIfInBounds j u) t fr) := by
  simp [World.setCell, Array.getElem?_modify, h]
theorem heap_set_ne (w : World) (B k j : Nat) (u : Value) (hne : k ≠ B) : (w.setCell ⟨B, j, none⟩ u).heap[k]? = w.heap[k]? := by
  simp [World.setCell, Array.getElem?_modify, Ne.symm hne]
/-- What New answers. -/
def NewPost (T E : TypeId) (n : Nat) (w : World) (e : Ending) (w' : World) : Prop :=
  ∃ B, e = .returned (.tuple #[.pointer (some ⟨B, 0, none⟩), .int .i64 0]) ∧ TabAt T E w.heap.size B n 0 [] w' ∧ Below w.heap.size w w'
theorem new_int (n : Nat) (h0 : 1 ≤ n) (hn : n ≤ 64) (w : World) : Calls Try.prog 18 #[.int .i64 (n : Int)] w (NewPost 70 72 n w) := by
  have h1 : ((n : Int) < 1) = False := by simp; omega
  obtain ⟨Q, hQ⟩ : ∃ Q, NewPost 70 72 n w = Q := ⟨_, rfl⟩
  have HQ := Aside0.mk hQ
  rw [hQ]
  clear hQ
  go_enter Try.func18, Try.ntmps18
  go_wp2
  try go_ret2
  rw [← HQ.out]
  refine ⟨_, rfl, ⟨none, 0, ?_, World.ownsRow_nil _ _ _ _, Nat.le_refl _, by simp [Value.ownBlock]⟩, (Below.refl _ _).alloc (Nat.le_refl _) _⟩
  show (w.heap.push _)[w.heap.size]? = _
  simp
theorem new_none_int (n : Int) (h : n < 1 ∨ 64 < n) (w : World) : Calls Try.prog 18 #[.int .i64 n] w fun e w' => e = .returned (.tuple #[.pointer none, .int .i64 1]) ∧ w = w' := by
  by_cases h1 : n < 1
  · have hd : decide (n < 1) = true := decide_eq_true h1
    clear h
    go_enter Try.func18, Try.ntmps18
    go_wp2
    go_ret2
    exact ⟨rfl, rfl⟩
  · have hd : decide (n < 1) = false := decide_eq_false h1
    have hd2 : decide (64 < n) = true := decide_eq_true (by omega)
    clear h
    go_enter Try.func18, Try.ntmps18
    go_wp2
    go_ret2
    exact ⟨rfl, rfl⟩
theorem put_nil_int (x : Int) (w : World) : Calls Try.prog 19 #[.pointer none, .int .i64 x] w fun e w' => e = .returned (.tuple #[.int .i64 0, .int .i64 1]) ∧ w = w' := by
  go_enter Try.func19, Try.ntmps19
  go_wp2
  go_ret2
  exact ⟨rfl, rfl⟩
theorem len_nil_int (w : World) : Calls Try.prog 20 #[.pointer none] w fun e w' => e = .returned (.int .i64 0) ∧ w = w' := by
  go_enter Try.func20, Try.ntmps20
  go_wp2
  go_ret
  exact ⟨rfl, rfl⟩
theorem len_int {base B room last : Nat} {l : List (Int × Value)} (w : World) (h : TabAt 70 72 base B room last l w) : Calls Try.prog 20 #[.pointer (some ⟨B, 0, none⟩)] w fun e w' => e = .returned (.int .i64 (l.length : Int)) ∧ w = w' := by
  obtain ⟨A, cap, hb, ho, hbase, hne⟩ := h
  obtain ⟨hc0, hc1, hc2, hf⟩ := three_cells hb
  clear hb ho hne hc1 hc2 hf
  go_enter Try.func20, Try.ntmps20
  go_wp2
  go_ret
  exact ⟨rfl, rfl⟩
theorem put_full_int {base B room last : Nat} {l : List (Int × Value)} (x : Int) (w : World) (h : TabAt 70 72 base B room last l w) (hr : l.length = room) : Calls Try.prog 19 #[.pointer (some ⟨B, 0, none⟩), .int .i64 x] w fun e w' => e = .returned (.tuple #[.int .i64 0, .int .i64 4]) ∧ ∃ n, w' = w.drewN n := by
  obtain ⟨A, cap, hb, ho, hbase, hne⟩ := h
  obtain ⟨hc0, hc1, hc2, hf⟩ := three_cells hb
  rw [hr] at hc0
  clear hb ho hne hc2 hf hr
  go_enter Try.func19, Try.ntmps19
  go_wp2
  go_quiet (fail)
  go_wp2
  go_ret2
  exact ⟨rfl, nq, rfl⟩
set_option maxHeartbeats 1000000 in
set_option maxRecDepth 100000 in
theorem putK_int {base B room last : Nat} {l : List (Int × Value)} (x : Int) (w : World) (h : TabAt 70 72 base B room last l w) (hr : l.length < room) (hroom : room ≤ 64) (hl : last ≤ 1000000) :
    Calls Try.prog 19 #[.pointer (some ⟨B, 0, none⟩), .int .i64 x] w fun e w' => e = .returned (.tuple #[.int .i64 ((last : Int) + 1), .int .i64 0]) ∧ TabAt 70 72 base B room (last + 1) (l ++ [((last : Int) + 1, .int .i64 x)]) w' ∧ Below base w w' ∧ Keeps 70 72 w w' := by
  have hlt := h.lt
  obtain ⟨A, cap, hb, ho, hbase, hne⟩ := h
  obtain ⟨hc0, hc1, hc2, hf⟩ := three_cells hb
  have hf2 := hf 2
  obtain ⟨n, hn⟩ : ∃ n, l.length = n := ⟨_, rfl⟩
  rw [hn] at hc0 hr hb ho hne
  have hd : ((n : Int) == (room : Int)) = false := by simp; omega
  have hd2 : (n == room) = false := by simp; omega
  obtain ⟨i0, hi, hz0, hz1, hz2⟩ := info_parts (show (Try.prog.info? 72).map (fun i => (i.zero, i.size, i.bytes)) = some (some (.agg #[.int .i64 0, .int .i64 0]), 2, 16) by kernel_rfl)
  have HB := Aside0.mk hb
  have HO := Aside0.mk ho
  have HNE := Aside0.mk hne
  have HN := Aside0.mk hn
  have HLT := Aside0.mk hlt
  clear hb ho hne hn hf hlt
  go_enter Try.func19, Try.ntmps19
  go_wp2
  go_quiet (fail)
  go_wp2
  obtain ⟨W1, hW1⟩ : ∃ W1, (w.drewN nq).setCell ⟨B, 2, none⟩ (.int .i64 ((last : Int) + 1)) = W1 := ⟨_, rfl⟩
  rw [hW1]
  have hB1 : W1.heap[B]? = some (.cells #[.slice A n cap, .int .i64 (room : Int), .int .i64 ((last : Int) + 1)] 70 (0, 0)) := by
    rw [← hW1, heap_set (w.drewN nq) B 2 _ _ _ _ HB.out]
    rfl
  have hL1 : Below base w W1 := by
    rw [← hW1]
    exact (pw_below_drewN (Below.refl _ _) nq).setCell hbase _
  have hO1 : W1.ownsRow base 72 2 (.slice A n cap) n (flat l) := by
    refine HO.out.kept (row := some B) ⟨hL1.os, hL1.tape, hL1.output, hL1.size, fun k hk hne => ?_⟩ (Or.inr HNE.out)
    rw [← hW1, heap_set_ne _ B k 2 _ (fun he => hne (by rw [he]))]
    rfl
  have HK1 := Aside0.mk (show ∀ (k : Nat) (cs : Array Value) (t : TypeId) (fr : Nat × Nat), w.heap[k]? = some (.cells cs t fr) → t ≠ 70 → W1.heap[k]? = some (.cells cs t fr) ∧ k ≠ B from fun k cs t fr hk ht => by
    have hkB : k ≠ B := by
      rintro rfl
      have := hk.symm.trans HB.out
      injection this with this
      injection this with _ h2
      exact ht h2
    exact ⟨by rw [← hW1, heap_set_ne _ B k 2 _ hkB]; exact hk, hkB⟩)
  have hlt1 : B < W1.heap.size := (Array.getElem?_eq_some_iff.1 hB1).1
  obtain ⟨c0, c1, c2, f⟩ := three_cells hB1
  clear hc0 hc1 hc2 hf2 hd hd2 hW1
  have f0 := f 0
  have HOD := Aside0.mk (show ((W1.alloc (.cells #[.int .i64 ((last : Int) + 1), .int .i64 x] 72)).drew).ownsRow base 72 2 (.slice A n cap) n (flat l) from own_below hO1 (below_drew (below_alloc (Below.refl _ _) _)))
  have HCD := Aside0.mk (show ∀ j u, [Value.int .i64 ((last : Int) + 1), .int .i64 x][j]? = some u → ((W1.alloc (.cells #[.int .i64 ((last : Int) + 1), .int .i64 x] 72)).drew).cell? ((⟨W1.heap.size, 0, none⟩ : Addr).add j) = some u from fun j u h => two_cells W1 _ _ _ j u h)
  have HBD := Aside0.mk (show Below base w ((W1.alloc (.cells #[.int .i64 ((last : Int) + 1), .int .i64 x] 72)).drew) from (hL1.alloc (Nat.le_trans hbase (Nat.le_of_lt hlt1)) _).drew)
  have hBD : ((W1.alloc (.cells #[.int .i64 ((last : Int) + 1), .int .i64 x] 72)).drew).heap[B]? = some (.cells #[.slice A n cap, .int .i64 (room : Int), .int .i64 ((last : Int) + 1)] 70 (0, 0)) := ((below_drew (below_alloc (Below.refl W1.heap.size W1) _)).block B hlt1).trans hB1
  have HBB := Aside0.mk hBD
  have HLT2 := Aside0.mk (show B < ((W1.alloc (.cells #[.int .i64 ((last : Int) + 1), .int .i64 x] 72)).drew).heap.size from (Array.getElem?_eq_some_iff.1 hBD).1)
  have HWD := Aside0.mk (below_drew (below_alloc (Below.refl W1.heap.size W1) (.cells #[.int .i64 ((last : Int) + 1), .int .i64 x] 72)))
  have g0 : (W1.alloc (.cells #[.int .i64 ((last : Int) + 1), .int .i64 x] 72)).cell? ⟨B, 0, none⟩ = some (.slice A n cap) := (three_cells hBD).1
  clear hBD hB1 hL1 hO1 hlt1 f
  go_region_law (refine step_append_ownX rfl (.tmp 31) (.tmp 38) 68 rfl base 72 i0 (.agg #[.int .i64 0, .int .i64 0]) 2 16 Try.underlying68 hi hz0 hz1 hz2 rfl (by decide) (.slice A n cap) n (flat l) (by simp [Act.eval, Act.put]) HOD.out ⟨W1.heap.size, 0, none⟩ 1 1 [.int .i64 ((last : Int) + 1), .int .i64 x] (by simp [Act.eval, Act.put]) rfl HCD.out (by simp [Value.oneCell']) (by simp only [maxLen]; omega) (by omega) (Nat.le_trans hbase (Nat.le_of_lt HLT2.out)) ?_; intro v' w' hown hgrow; obtain ⟨A2, cap2, rfl⟩ := own_slice hown; have hB3 := (hgrow.block B HLT2.out (fun he => HNE.out he.symm)).trans HBB.out; obtain ⟨d0, d1, d2, df⟩ := three_cells hB3; have df0 := df 0; have HB3 := Aside0.mk hB3; have HOW := Aside0.mk hown; have HGR := Aside0.mk hgrow; clear hB3 df hown hgrow)
  all_goals go_wp2
  all_goals go_ret2
  all_goals (
    refine ⟨rfl, ⟨A2, cap2, ?_, ?_, hbase, ?_⟩, ?_, ?_⟩
    · rw [List.length_append, HN.out]
      exact heap_set _ B 0 _ _ _ _ HB3.out
    · rw [List.length_append, HN.out, flat_snoc]
      refine HOW.out.kept (row := some B) ⟨rfl, rfl, rfl, ?_, fun k hk hne => heap_set_ne _ B k 0 _ (fun he => hne (by rw [he]))⟩ (Or.inr ?_)
      · simp [World.setCell]
      · exact own_ne HOW.out HB3.out (by decide)
    · rw [List.length_append, HN.out]
      exact own_ne HOW.out HB3.out (by decide)
    · exact (HBD.out.grown HGR.out (Nat.le_trans hbase (Nat.le_of_lt HLT2.out)) (fun j hj => (HOD.out.lt j hj).1)).setCell hbase _
    · intro k cs t fr hk ht he
      obtain ⟨k1, kB⟩ := HK1.out k cs t fr hk ht
      have k2 := (HWD.out.block k (Array.getElem?_eq_some_iff.1 k1).1).trans k1
      have k3 := (HGR.out.block k (Array.getElem?_eq_some_iff.1 k2).1 (fun hq => own_ne HOD.out k2 he hq.symm)).trans k2
      exact (heap_set_ne _ B k 0 _ kB).trans k3)
theorem put_int {base B room last : Nat} {l : List (Int × Value)} (x : Int) (w : World) (h : TabAt 70 72 base B room last l w) (hr : l.length < room) (hroom : room ≤ 64) (hl : last ≤ 1000000) :
    Calls Try.prog 19 #[.pointer (some ⟨B, 0, none⟩), .int .i64 x] w fun e w' => e = .returned (.tuple #[.int .i64 ((last : Int) + 1), .int .i64 0]) ∧ TabAt 70 72 base B room (last + 1) (l ++ [((last : Int) + 1, .int .i64 x)]) w' ∧ Below base w w' :=
  (putK_int x w h hr hroom hl).mono fun _ _ h => ⟨h.1, h.2.1, h.2.2.1⟩
theorem new_str (n : Nat) (h0 : 1 ≤ n) (hn : n ≤ 64) (w : World) : Calls Try.prog 8 #[.int .i64 (n : Int)] w (NewPost 57 59 n w) := by
  have h1 : ((n : Int) < 1) = False := by simp; omega
  obtain ⟨Q, hQ⟩ : ∃ Q, NewPost 57 59 n w = Q := ⟨_, rfl⟩
  have HQ := Aside0.mk hQ
  rw [hQ]
  clear hQ
  go_enter Try.func8, Try.ntmps8
  go_wp2
  try go_ret2
  rw [← HQ.out]
  refine ⟨_, rfl, ⟨none, 0, ?_, World.ownsRow_nil _ _ _ _, Nat.le_refl _, by simp [Value.ownBlock]⟩, (Below.refl _ _).alloc (Nat.le_refl _) _⟩
  show (w.heap.push _)[w.heap.size]? = _
  simp
theorem new_none_str (n : Int) (h : n < 1 ∨ 64 < n) (w : World) : Calls Try.prog 8 #[.int .i64 n] w fun e w' => e = .returned (.tuple #[.pointer none, .int .i64 1]) ∧ w = w' := by
  by_cases h1 : n < 1
  · have hd : decide (n < 1) = true := decide_eq_true h1
    clear h
    go_enter Try.func8, Try.ntmps8
    go_wp2
    go_ret2
    exact ⟨rfl, rfl⟩
  · have hd : decide (n < 1) = false := decide_eq_false h1
    have hd2 : decide (64 < n) = true := decide_eq_true (by omega)
    clear h
    go_enter Try.func8, Try.ntmps8
    go_wp2
    go_ret2
    exact ⟨rfl, rfl⟩
theorem put_nil_str (x : ByteArray) (w : World) : Calls Try.prog 9 #[.pointer none, .string x] w fun e w' => e = .returned (.tuple #[.int .i64 0, .int .i64 1]) ∧ w = w' := by
  go_enter Try.func9, Try.ntmps9
  go_wp2
  go_ret2
  exact ⟨rfl, rfl⟩
theorem len_nil_str (w : World) : Calls Try.prog 12 #[.pointer none] w fun e w' => e = .returned (.int .i64 0) ∧ w = w' := by
  go_enter Try.func12, Try.ntmps12
  go_wp2
  go_ret
  exact ⟨rfl, rfl⟩
theorem len_str {base B room last : Nat} {l : List (Int × Value)} (w : World) (h : TabAt 57 59 base B room last l w) : Calls Try.prog 12 #[.pointer (some ⟨B, 0, none⟩)] w fun e w' => e = .returned (.int .i64 (l.length : Int)) ∧ w = w' := by
  obtain ⟨A, cap, hb, ho, hbase, hne⟩ := h
  obtain ⟨hc0, hc1, hc2, hf⟩ := three_cells hb
  clear hb ho hne hc1 hc2 hf
  go_enter Try.func12, Try.ntmps12
  go_wp2
  go_ret
  exact ⟨rfl, rfl⟩
theorem put_full_str {base B room last : Nat} {l : List (Int × Value)} (x : ByteArray) (w : World) (h : TabAt 57 59 base B room last l w) (hr : l.length = room) : Calls Try.prog 9 #[.pointer (some ⟨B, 0, none⟩), .string x] w fun e w' => e = .returned (.tuple #[.int .i64 0, .int .i64 4]) ∧ ∃ n, w' = w.drewN n := by
  obtain ⟨A, cap, hb, ho, hbase, hne⟩ := h
  obtain ⟨hc0, hc1, hc2, hf⟩ := three_cells hb
  rw [hr] at hc0
  clear hb ho hne hc2 hf hr
  go_enter Try.func9, Try.ntmps9
  go_wp2
  go_quiet (fail)
  go_wp2
  go_ret2
  exact ⟨rfl, nq, rfl⟩
set_option maxHeartbeats 1000000 in
set_option maxRecDepth 100000 in
theorem putK_str {base B room last : Nat} {l : List (Int × Value)} (x : ByteArray) (w : World) (h : TabAt 57 59 base B room last l w) (hr : l.length < room) (hroom : room ≤ 64) (hl : last ≤ 1000000) :
    Calls Try.prog 9 #[.pointer (some ⟨B, 0, none⟩), .string x] w fun e w' => e = .returned (.tuple #[.int .i64 ((last : Int) + 1), .int .i64 0]) ∧ TabAt 57 59 base B room (last + 1) (l ++ [((last : Int) + 1, .string x)]) w' ∧ Below base w w' ∧ Keeps 57 59 w w' := by
  have hlt := h.lt
  obtain ⟨A, cap, hb, ho, hbase, hne⟩ := h
  obtain ⟨hc0, hc1, hc2, hf⟩ := three_cells hb
  have hf2 := hf 2
  obtain ⟨n, hn⟩ : ∃ n, l.length = n := ⟨_, rfl⟩
  rw [hn] at hc0 hr hb ho hne
  have hd : ((n : Int) == (room : Int)) = false := by simp; omega
  have hd2 : (n == room) = false := by simp; omega
  obtain ⟨i0, hi, hz0, hz1, hz2⟩ := info_parts (show (Try.prog.info? 59).map (fun i => (i.zero, i.size, i.bytes)) = some (some (.agg #[.int .i64 0, .string ⟨#[]⟩]), 2, 24) by kernel_rfl)
  have HB := Aside0.mk hb
  have HO := Aside0.mk ho
  have HNE := Aside0.mk hne
  have HN := Aside0.mk hn
  have HLT := Aside0.mk hlt
  clear hb ho hne hn hf hlt
  go_enter Try.func9, Try.ntmps9
  go_wp2
  go_quiet (fail)
  go_wp2
  obtain ⟨W1, hW1⟩ : ∃ W1, (w.drewN nq).setCell ⟨B, 2, none⟩ (.int .i64 ((last : Int) + 1)) = W1 := ⟨_, rfl⟩
  rw [hW1]
  have hB1 : W1.heap[B]? = some (.cells #[.slice A n cap, .int .i64 (room : Int), .int .i64 ((last : Int) + 1)] 57 (0, 0)) := by
    rw [← hW1, heap_set (w.drewN nq) B 2 _ _ _ _ HB.out]
    rfl
  have hL1 : Below base w W1 := by
    rw [← hW1]
    exact (pw_below_drewN (Below.refl _ _) nq).setCell hbase _
  have hO1 : W1.ownsRow base 59 2 (.slice A n cap) n (flat l) := by
    refine HO.out.kept (row := some B) ⟨hL1.os, hL1.tape, hL1.output, hL1.size, fun k hk hne => ?_⟩ (Or.inr HNE.out)
    rw [← hW1, heap_set_ne _ B k 2 _ (fun he => hne (by rw [he]))]
    rfl
  have HK1 := Aside0.mk (show ∀ (k : Nat) (cs : Array Value) (t : TypeId) (fr : Nat × Nat), w.heap[k]? = some (.cells cs t fr) → t ≠ 57 → W1.heap[k]? = some (.cells cs t fr) ∧ k ≠ B from fun k cs t fr hk ht => by
    have hkB : k ≠ B := by
      rintro rfl
      have := hk.symm.trans HB.out
      injection this with this
      injection this with _ h2
      exact ht h2
    exact ⟨by rw [← hW1, heap_set_ne _ B k 2 _ hkB]; exact hk, hkB⟩)
  have hlt1 : B < W1.heap.size := (Array.getElem?_eq_some_iff.1 hB1).1
  obtain ⟨c0, c1, c2, f⟩ := three_cells hB1
  clear hc0 hc1 hc2 hf2 hd hd2 hW1
  have f0 := f 0
  have HOD := Aside0.mk (show ((W1.alloc (.cells #[.int .i64 ((last : Int) + 1), .string x] 59)).drew).ownsRow base 59 2 (.slice A n cap) n (flat l) from own_below hO1 (below_drew (below_alloc (Below.refl _ _) _)))
  have HCD := Aside0.mk (show ∀ j u, [Value.int .i64 ((last : Int) + 1), .string x][j]? = some u → ((W1.alloc (.cells #[.int .i64 ((last : Int) + 1), .string x] 59)).drew).cell? ((⟨W1.heap.size, 0, none⟩ : Addr).add j) = some u from fun j u h => two_cells W1 _ _ _ j u h)
  have HBD := Aside0.mk (show Below base w ((W1.alloc (.cells #[.int .i64 ((last : Int) + 1), .string x] 59)).drew) from (hL1.alloc (Nat.le_trans hbase (Nat.le_of_lt hlt1)) _).drew)
  have hBD : ((W1.alloc (.cells #[.int .i64 ((last : Int) + 1), .string x] 59)).drew).heap[B]? = some (.cells #[.slice A n cap, .int .i64 (room : Int), .int .i64 ((last : Int) + 1)] 57 (0, 0)) := ((below_drew (below_alloc (Below.refl W1.heap.size W1) _)).block B hlt1).trans hB1
  have HBB := Aside0.mk hBD
  have HLT2 := Aside0.mk (show B < ((W1.alloc (.cells #[.int .i64 ((last : Int) + 1), .string x] 59)).drew).heap.size from (Array.getElem?_eq_some_iff.1 hBD).1)
  have HWD := Aside0.mk (below_drew (below_alloc (Below.refl W1.heap.size W1) (.cells #[.int .i64 ((last : Int) + 1), .string x] 59)))
  have g0 : (W1.alloc (.cells #[.int .i64 ((last : Int) + 1), .string x] 59)).cell? ⟨B, 0, none⟩ = some (.slice A n cap) := (three_cells hBD).1
  clear hBD hB1 hL1 hO1 hlt1 f
  go_region_law (refine step_append_ownX rfl (.tmp 31) (.tmp 38) 55 rfl base 59 i0 (.agg #[.int .i64 0, .string ⟨#[]⟩]) 2 24 Try.underlying55 hi hz0 hz1 hz2 rfl (by decide) (.slice A n cap) n (flat l) (by simp [Act.eval, Act.put]) HOD.out ⟨W1.heap.size, 0, none⟩ 1 1 [.int .i64 ((last : Int) + 1), .string x] (by simp [Act.eval, Act.put]) rfl HCD.out (by simp [Value.oneCell']) (by simp only [maxLen]; omega) (by omega) (Nat.le_trans hbase (Nat.le_of_lt HLT2.out)) ?_; intro v' w' hown hgrow; obtain ⟨A2, cap2, rfl⟩ := own_slice hown; have hB3 := (hgrow.block B HLT2.out (fun he => HNE.out he.symm)).trans HBB.out; obtain ⟨d0, d1, d2, df⟩ := three_cells hB3; have df0 := df 0; have HB3 := Aside0.mk hB3; have HOW := Aside0.mk hown; have HGR := Aside0.mk hgrow; clear hB3 df hown hgrow)
  all_goals go_wp2
  all_goals go_ret2
  all_goals (
    refine ⟨rfl, ⟨A2, cap2, ?_, ?_, hbase, ?_⟩, ?_, ?_⟩
    · rw [List.length_append, HN.out]
      exact heap_set _ B 0 _ _ _ _ HB3.out
    · rw [List.length_append, HN.out, flat_snoc]
      refine HOW.out.kept (row := some B) ⟨rfl, rfl, rfl, ?_, fun k hk hne => heap_set_ne _ B k 0 _ (fun he => hne (by rw [he]))⟩ (Or.inr ?_)
      · simp [World.setCell]
      · exact own_ne HOW.out HB3.out (by decide)
    · rw [List.length_append, HN.out]
      exact own_ne HOW.out HB3.out (by decide)
    · exact (HBD.out.grown HGR.out (Nat.le_trans hbase (Nat.le_of_lt HLT2.out)) (fun j hj => (HOD.out.lt j hj).1)).setCell hbase _
    · intro k cs t fr hk ht he
      obtain ⟨k1, kB⟩ := HK1.out k cs t fr hk ht
      have k2 := (HWD.out.block k (Array.getElem?_eq_some_iff.1 k1).1).trans k1
      have k3 := (HGR.out.block k (Array.getElem?_eq_some_iff.1 k2).1 (fun hq => own_ne HOD.out k2 he hq.symm)).trans k2
      exact (heap_set_ne _ B k 0 _ kB).trans k3)
theorem put_str {base B room last : Nat} {l : List (Int × Value)} (x : ByteArray) (w : World) (h : TabAt 57 59 base B room last l w) (hr : l.length < room) (hroom : room ≤ 64) (hl : last ≤ 1000000) :
    Calls Try.prog 9 #[.pointer (some ⟨B, 0, none⟩), .string x] w fun e w' => e = .returned (.tuple #[.int .i64 ((last : Int) + 1), .int .i64 0]) ∧ TabAt 57 59 base B room (last + 1) (l ++ [((last : Int) + 1, .string x)]) w' ∧ Below base w w' :=
  (putK_str x w h hr hroom hl).mono fun _ _ h => ⟨h.1, h.2.1, h.2.2.1⟩
theorem new_ints (n : Nat) (h0 : 1 ≤ n) (hn : n ≤ 64) (w : World) : Calls Try.prog 13 #[.int .i64 (n : Int)] w (NewPost 64 66 n w) := by
  have h1 : ((n : Int) < 1) = False := by simp; omega
  obtain ⟨Q, hQ⟩ : ∃ Q, NewPost 64 66 n w = Q := ⟨_, rfl⟩
  have HQ := Aside0.mk hQ
  rw [hQ]
  clear hQ
  go_enter Try.func13, Try.ntmps13
  go_wp2
  try go_ret2
  rw [← HQ.out]
  refine ⟨_, rfl, ⟨none, 0, ?_, World.ownsRow_nil _ _ _ _, Nat.le_refl _, by simp [Value.ownBlock]⟩, (Below.refl _ _).alloc (Nat.le_refl _) _⟩
  show (w.heap.push _)[w.heap.size]? = _
  simp
theorem new_none_ints (n : Int) (h : n < 1 ∨ 64 < n) (w : World) : Calls Try.prog 13 #[.int .i64 n] w fun e w' => e = .returned (.tuple #[.pointer none, .int .i64 1]) ∧ w = w' := by
  by_cases h1 : n < 1
  · have hd : decide (n < 1) = true := decide_eq_true h1
    clear h
    go_enter Try.func13, Try.ntmps13
    go_wp2
    go_ret2
    exact ⟨rfl, rfl⟩
  · have hd : decide (n < 1) = false := decide_eq_false h1
    have hd2 : decide (64 < n) = true := decide_eq_true (by omega)
    clear h
    go_enter Try.func13, Try.ntmps13
    go_wp2
    go_ret2
    exact ⟨rfl, rfl⟩
theorem put_nil_ints (xa : Option Addr) (xn xc : Nat) (w : World) : Calls Try.prog 14 #[.pointer none, .slice xa xn xc] w fun e w' => e = .returned (.tuple #[.int .i64 0, .int .i64 1]) ∧ w = w' := by
  go_enter Try.func14, Try.ntmps14
  go_wp2
  go_ret2
  exact ⟨rfl, rfl⟩
theorem len_nil_ints (w : World) : Calls Try.prog 17 #[.pointer none] w fun e w' => e = .returned (.int .i64 0) ∧ w = w' := by
  go_enter Try.func17, Try.ntmps17
  go_wp2
  go_ret
  exact ⟨rfl, rfl⟩
theorem len_ints {base B room last : Nat} {l : List (Int × Value)} (w : World) (h : TabAt 64 66 base B room last l w) : Calls Try.prog 17 #[.pointer (some ⟨B, 0, none⟩)] w fun e w' => e = .returned (.int .i64 (l.length : Int)) ∧ w = w' := by
  obtain ⟨A, cap, hb, ho, hbase, hne⟩ := h
  obtain ⟨hc0, hc1, hc2, hf⟩ := three_cells hb
  clear hb ho hne hc1 hc2 hf
  go_enter Try.func17, Try.ntmps17
  go_wp2
  go_ret
  exact ⟨rfl, rfl⟩
theorem put_full_ints {base B room last : Nat} {l : List (Int × Value)} (xa : Option Addr) (xn xc : Nat) (w : World) (h : TabAt 64 66 base B room last l w) (hr : l.length = room) : Calls Try.prog 14 #[.pointer (some ⟨B, 0, none⟩), .slice xa xn xc] w fun e w' => e = .returned (.tuple #[.int .i64 0, .int .i64 4]) ∧ ∃ n, w' = w.drewN n := by
  obtain ⟨A, cap, hb, ho, hbase, hne⟩ := h
  obtain ⟨hc0, hc1, hc2, hf⟩ := three_cells hb
  rw [hr] at hc0
  clear hb ho hne hc2 hf hr
  go_enter Try.func14, Try.ntmps14
  go_wp2
  go_quiet (fail)
  go_wp2
  go_ret2
  exact ⟨rfl, nq, rfl⟩
set_option maxHeartbeats 1000000 in
set_option maxRecDepth 100000 in
theorem putK_ints {base B room last : Nat} {l : List (Int × Value)} (xa : Option Addr) (xn xc : Nat) (w : World) (h : TabAt 64 66 base B room last l w) (hr : l.length < room) (hroom : room ≤ 64) (hl : last ≤ 1000000) :
    Calls Try.prog 14 #[.pointer (some ⟨B, 0, none⟩), .slice xa xn xc] w fun e w' => e = .returned (.tuple #[.int .i64 ((last : Int) + 1), .int .i64 0]) ∧ TabAt 64 66 base B room (last + 1) (l ++ [((last : Int) + 1, .slice xa xn xc)]) w' ∧ Below base w w' ∧ Keeps 64 66 w w' := by
  have hlt := h.lt
  obtain ⟨A, cap, hb, ho, hbase, hne⟩ := h
  obtain ⟨hc0, hc1, hc2, hf⟩ := three_cells hb
  have hf2 := hf 2
  obtain ⟨n, hn⟩ : ∃ n, l.length = n := ⟨_, rfl⟩
  rw [hn] at hc0 hr hb ho hne
  have hd : ((n : Int) == (room : Int)) = false := by simp; omega
  have hd2 : (n == room) = false := by simp; omega
  obtain ⟨i0, hi, hz0, hz1, hz2⟩ := info_parts (show (Try.prog.info? 66).map (fun i => (i.zero, i.size, i.bytes)) = some (some (.agg #[.int .i64 0, .slice none 0 0]), 2, 32) by kernel_rfl)
  have HB := Aside0.mk hb
  have HO := Aside0.mk ho
  have HNE := Aside0.mk hne
  have HN := Aside0.mk hn
  have HLT := Aside0.mk hlt
  clear hb ho hne hn hf hlt
  go_enter Try.func14, Try.ntmps14
  go_wp2
  go_quiet (fail)
  go_wp2
  obtain ⟨W1, hW1⟩ : ∃ W1, (w.drewN nq).setCell ⟨B, 2, none⟩ (.int .i64 ((last : Int) + 1)) = W1 := ⟨_, rfl⟩
  rw [hW1]
  have hB1 : W1.heap[B]? = some (.cells #[.slice A n cap, .int .i64 (room : Int), .int .i64 ((last : Int) + 1)] 64 (0, 0)) := by
    rw [← hW1, heap_set (w.drewN nq) B 2 _ _ _ _ HB.out]
    rfl
  have hL1 : Below base w W1 := by
    rw [← hW1]
    exact (pw_below_drewN (Below.refl _ _) nq).setCell hbase _
  have hO1 : W1.ownsRow base 66 2 (.slice A n cap) n (flat l) := by
    refine HO.out.kept (row := some B) ⟨hL1.os, hL1.tape, hL1.output, hL1.size, fun k hk hne => ?_⟩ (Or.inr HNE.out)
    rw [← hW1, heap_set_ne _ B k 2 _ (fun he => hne (by rw [he]))]
    rfl
  have HK1 := Aside0.mk (show ∀ (k : Nat) (cs : Array Value) (t : TypeId) (fr : Nat × Nat), w.heap[k]? = some (.cells cs t fr) → t ≠ 64 → W1.heap[k]? = some (.cells cs t fr) ∧ k ≠ B from fun k cs t fr hk ht => by
    have hkB : k ≠ B := by
      rintro rfl
      have := hk.symm.trans HB.out
      injection this with this
      injection this with _ h2
      exact ht h2
    exact ⟨by rw [← hW1, heap_set_ne _ B k 2 _ hkB]; exact hk, hkB⟩)
  have hlt1 : B < W1.heap.size := (Array.getElem?_eq_some_iff.1 hB1).1
  obtain ⟨c0, c1, c2, f⟩ := three_cells hB1
  clear hc0 hc1 hc2 hf2 hd hd2 hW1
  have f0 := f 0
  have HOD := Aside0.mk (show ((W1.alloc (.cells #[.int .i64 ((last : Int) + 1), .slice xa xn xc] 66)).drew).ownsRow base 66 2 (.slice A n cap) n (flat l) from own_below hO1 (below_drew (below_alloc (Below.refl _ _) _)))
  have HCD := Aside0.mk (show ∀ j u, [Value.int .i64 ((last : Int) + 1), .slice xa xn xc][j]? = some u → ((W1.alloc (.cells #[.int .i64 ((last : Int) + 1), .slice xa xn xc] 66)).drew).cell? ((⟨W1.heap.size, 0, none⟩ : Addr).add j) = some u from fun j u h => two_cells W1 _ _ _ j u h)
  have HBD := Aside0.mk (show Below base w ((W1.alloc (.cells #[.int .i64 ((last : Int) + 1), .slice xa xn xc] 66)).drew) from (hL1.alloc (Nat.le_trans hbase (Nat.le_of_lt hlt1)) _).drew)
  have hBD : ((W1.alloc (.cells #[.int .i64 ((last : Int) + 1), .slice xa xn xc] 66)).drew).heap[B]? = some (.cells #[.slice A n cap, .int .i64 (room : Int), .int .i64 ((last : Int) + 1)] 64 (0, 0)) := ((below_drew (below_alloc (Below.refl W1.heap.size W1) _)).block B hlt1).trans hB1
  have HBB := Aside0.mk hBD
  have HLT2 := Aside0.mk (show B < ((W1.alloc (.cells #[.int .i64 ((last : Int) + 1), .slice xa xn xc] 66)).drew).heap.size from (Array.getElem?_eq_some_iff.1 hBD).1)
  have HWD := Aside0.mk (below_drew (below_alloc (Below.refl W1.heap.size W1) (.cells #[.int .i64 ((last : Int) + 1), .slice xa xn xc] 66)))
  have g0 : (W1.alloc (.cells #[.int .i64 ((last : Int) + 1), .slice xa xn xc] 66)).cell? ⟨B, 0, none⟩ = some (.slice A n cap) := (three_cells hBD).1
  clear hBD hB1 hL1 hO1 hlt1 f
  go_region_law (refine step_append_ownX rfl (.tmp 31) (.tmp 38) 62 rfl base 66 i0 (.agg #[.int .i64 0, .slice none 0 0]) 2 32 Try.underlying62 hi hz0 hz1 hz2 rfl (by decide) (.slice A n cap) n (flat l) (by simp [Act.eval, Act.put]) HOD.out ⟨W1.heap.size, 0, none⟩ 1 1 [.int .i64 ((last : Int) + 1), .slice xa xn xc] (by simp [Act.eval, Act.put]) rfl HCD.out (by simp [Value.oneCell']) (by simp only [maxLen]; omega) (by omega) (Nat.le_trans hbase (Nat.le_of_lt HLT2.out)) ?_; intro v' w' hown hgrow; obtain ⟨A2, cap2, rfl⟩ := own_slice hown; have hB3 := (hgrow.block B HLT2.out (fun he => HNE.out he.symm)).trans HBB.out; obtain ⟨d0, d1, d2, df⟩ := three_cells hB3; have df0 := df 0; have HB3 := Aside0.mk hB3; have HOW := Aside0.mk hown; have HGR := Aside0.mk hgrow; clear hB3 df hown hgrow)
  all_goals go_wp2
  all_goals go_ret2
  all_goals (
    refine ⟨rfl, ⟨A2, cap2, ?_, ?_, hbase, ?_⟩, ?_, ?_⟩
    · rw [List.length_append, HN.out]
      exact heap_set _ B 0 _ _ _ _ HB3.out
    · rw [List.length_append, HN.out, flat_snoc]
      refine HOW.out.kept (row := some B) ⟨rfl, rfl, rfl, ?_, fun k hk hne => heap_set_ne _ B k 0 _ (fun he => hne (by rw [he]))⟩ (Or.inr ?_)
      · simp [World.setCell]
      · exact own_ne HOW.out HB3.out (by decide)
    · rw [List.length_append, HN.out]
      exact own_ne HOW.out HB3.out (by decide)
    · exact (HBD.out.grown HGR.out (Nat.le_trans hbase (Nat.le_of_lt HLT2.out)) (fun j hj => (HOD.out.lt j hj).1)).setCell hbase _
    · intro k cs t fr hk ht he
      obtain ⟨k1, kB⟩ := HK1.out k cs t fr hk ht
      have k2 := (HWD.out.block k (Array.getElem?_eq_some_iff.1 k1).1).trans k1
      have k3 := (HGR.out.block k (Array.getElem?_eq_some_iff.1 k2).1 (fun hq => own_ne HOD.out k2 he hq.symm)).trans k2
      exact (heap_set_ne _ B k 0 _ kB).trans k3)
theorem put_ints {base B room last : Nat} {l : List (Int × Value)} (xa : Option Addr) (xn xc : Nat) (w : World) (h : TabAt 64 66 base B room last l w) (hr : l.length < room) (hroom : room ≤ 64) (hl : last ≤ 1000000) :
    Calls Try.prog 14 #[.pointer (some ⟨B, 0, none⟩), .slice xa xn xc] w fun e w' => e = .returned (.tuple #[.int .i64 ((last : Int) + 1), .int .i64 0]) ∧ TabAt 64 66 base B room (last + 1) (l ++ [((last : Int) + 1, .slice xa xn xc)]) w' ∧ Below base w w' :=
  (putK_ints xa xn xc w h hr hroom hl).mono fun _ _ h => ⟨h.1, h.2.1, h.2.2.1⟩
end Go.Proofs.Ytbpdbgpnlcbdiaa.Tab
