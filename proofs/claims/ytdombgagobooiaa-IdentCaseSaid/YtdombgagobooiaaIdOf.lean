/- The name of sixteen bytes: the program's walk. -/
import Derived.Test.YtdombgagobooiaaProg
import Derived.Test.YtdombgagobooiaaGWords
import Derived.Test.YtdombgagobooiaaPl
import Derived.StillTailTactics
import Derived.IntWalk
import Derived.Deep.LoopGhost
import Derived.OwnWalk
import Derived.Laws.OwnMore
import Derived.Laws.Rows
import Derived.WalkKit
import Derived.Deep.RegionLaw
import Derived.RegionTactic
import Derived.BigRegion
import Derived.Laws.BitsLemmas
namespace Go.Proofs.Ytdombgagobooiaa.Id
open Go.RowKit Go.Proofs.YtdombgagobooiaaW.PrintWords Go.Proofs.YtdombgagobooiaaW.PrintLast Go.Proofs.YtdombgagobooiaaW.PrintMore Go.Proofs.Ytdombgagobooiaa.Pl Go.Proofs.Ytdombgagobooiaa.G
set_option linter.unusedVariables false
set_option linter.unusedSimpArgs false
theorem step_append_ownX {P : Program} {ops : Array Oper} {o : Oper} {a : Act} {w : World} {K : Act → World → Prop} {Q : Exit → Act → World → Prop} {E : Prop}
    (hg : o.guard = none) (s x : Operand) (t : TypeId) (hop : o.op = Op.call { callee := Callee.builtin Builtin.append, args := #[s, x], argTypes := #[t, t] })
    (base : Nat) (e : TypeId) (i : TypeInfo) (z : Value) (size bytes : Nat) (h1 : P.underlying t = some (.slice e)) (h2 : P.info? e = some i) (h3 : i.zero = some z) (h4 : i.size = size) (h5 : i.bytes = bytes) (h6 : z.cells.size = size) (h7 : 0 < size)
    (v : Value) (n : Nat) (xs : List Value) (hs : a.eval s = v) (hown : w.ownsRow base e size v n xs)
    (ad : Addr) (m c : Nat) (news : List Value) (hx : a.eval x = .slice (some ad) m c) (hn : news.length = m * size) (hc : ∀ j u, news[j]? = some u → w.cell? (ad.add j) = some u) (h1c : ∀ u ∈ news, u.oneCell' = true)
    (b1 : n + m ≤ maxLen) (b2 : (n + m) * bytes ≤ 140737488355328) (hbase : base ≤ w.heap.size)
    (hK : ∀ v' w', w'.ownsRow base e size v' (n + m) (xs ++ news) → w.grownBy w' v.ownBlock → K (a.put o.dst v') w') :
    if Region.wanted o (yielded ops a.tmps) = true then Oper.wp P o a w K Q else E := by
  have hw : Region.wanted o (yielded ops a.tmps) = true := by simp [Region.wanted, hg]
  rw [if_pos hw]
  obtain ⟨v', w', hrun, r1, r2, _⟩ := run_append_own (P := P) (w := w) base t o.type e i z size bytes h1 h2 h3 h4 h5 h6 h7 v n xs hown ad m c news hn hc h1c b1 b2 hbase
  unfold Oper.wp
  simp [execOp, hop, resolve, invoke, builtin, hs, hx, hrun, Result.andThen]
  exact hK v' w' r1 r2
theorem two_cells (W : World) (p q : Value) (e : TypeId) : ∀ j u, [p, q][j]? = some u → (W.alloc (.cells #[p, q] e)).cell? ((⟨W.heap.size, 0, none⟩ : Addr).add j) = some u := by
  intro j u hj
  have hb : (W.alloc (.cells #[p, q] e)).heap[W.heap.size]? = some (.cells #[p, q] e) := by
    show (W.heap.push _)[W.heap.size]? = _
    simp
  have ha : (⟨W.heap.size, 0, none⟩ : Addr).add j = ⟨W.heap.size, j, none⟩ := by unfold Addr.add; split <;> simp_all
  rw [ha]
  unfold World.cell?
  rw [hb]
  rcases j with _ | _ | j
  · simpa using hj
  · simpa using hj
  · simp at hj
theorem one_cell (W : World) (p : Value) (e : TypeId) : ∀ j u, [p][j]? = some u → (W.alloc (.cells #[p] e)).cell? ((⟨W.heap.size, 0, none⟩ : Addr).add j) = some u := by
  intro j u hj
  have hb : (W.alloc (.cells #[p] e)).heap[W.heap.size]? = some (.cells #[p] e) := by
    show (W.heap.push _)[W.heap.size]? = _
    simp
  have ha : (⟨W.heap.size, 0, none⟩ : Addr).add j = ⟨W.heap.size, j, none⟩ := by unfold Addr.add; split <;> simp_all
  rw [ha]
  unfold World.cell?
  rw [hb]
  rcases j with _ | j
  · simpa using hj
  · simp at hj
/-- Block B is an array that holds these numbers. -/
def Arr (B : Nat) (xs : List Int) (w : World) : Prop := w.heap[B]? = some (.cells (xs.map (Value.int .u8)).toArray 22 (0, 0))
theorem arr_new (w : World) (xs : List Int) : Arr w.heap.size xs (w.alloc (.cells (xs.map (Value.int .u8)).toArray 22)) := by
  show (w.heap.push _)[w.heap.size]? = _
  simp
theorem Arr.cell {B : Nat} {xs : List Int} {w : World} (h : Arr B xs w) (j : Nat) (hj : j < xs.length) : w.cell? ⟨B, j, none⟩ = some (.int .u8 (xs.getD j 0)) := by
  unfold World.cell?
  rw [h]
  simp [hj]
theorem Arr.free {B : Nat} {xs : List Int} {w : World} (h : Arr B xs w) (j : Nat) : w.frozen? ⟨B, j, none⟩ = false := by
  unfold World.frozen?
  rw [h]
  simp
theorem Arr.set {B : Nat} {xs : List Int} {w : World} (h : Arr B xs w) (j : Nat) (x : Int) : Arr B (xs.set j x) (w.setCell ⟨B, j, none⟩ (.int .u8 x)) := by
  unfold Arr at *
  simp [World.setCell, Array.getElem?_modify, h]
theorem Arr.mono {B : Nat} {xs : List Int} {w w' : World} (h : Arr B xs w) (hb : w'.heap[B]? = w.heap[B]?) : Arr B xs w' := hb.trans h
def v6 (x : Int) : Int := 64 + x % 16
def v8 (x : Int) : Int := 128 + x % 64
theorem bits6 {x : Int} (h : byte x) : Go.bits .or .u8 (Go.bits .and .u8 x 15) 64 = v6 x := by
  obtain ⟨n, rfl, hn⟩ : ∃ n : Nat, x = n ∧ n < 256 := ⟨x.toNat, by have := h.1; omega, by have := h.2; omega⟩
  have H : ∀ n : Nat, n < 256 → Go.bits .or .u8 (Go.bits .and .u8 (n : Int) 15) 64 = v6 (n : Int) := by decide +kernel
  exact H n hn
theorem bits8 {x : Int} (h : byte x) : Go.bits .or .u8 (Go.bits .and .u8 x 63) 128 = v8 x := by
  obtain ⟨n, rfl, hn⟩ : ∃ n : Nat, x = n ∧ n < 256 := ⟨x.toNat, by have := h.1; omega, by have := h.2; omega⟩
  have H : ∀ n : Nat, n < 256 → Go.bits .or .u8 (Go.bits .and .u8 (n : Int) 63) 128 = v8 (n : Int) := by decide +kernel
  exact H n hn
theorem idx (xs : List Int) (hx : xs.length = 16) (k : Nat) (hk : k < 16) (W : World) : (Instr.index 22 (.agg (xs.map (Value.int .u8)).toArray) (.int .i64 (k : Int))).run Try.prog W = .ok (.int .u8 (xs.getD k 0)) W := by
  have hn : 0 ≤ (k : Int) ∧ (k : Int) < ((16 : Nat) : Int) := by omega
  have h1 : k < xs.length := by omega
  have hs := Try.sizeOf5 W
  have ha := Try.isAgg5 W
  simp [Instr.index, run_underlying Try.underlying22, asIntOf, hn, hs, List.getD, h1]
  rw [if_pos hk]
  simp [part, ha, h1]
def dashB (k : Nat) : Bool := k == 4 || k == 6 || k == 8 || k == 10
set_option maxHeartbeats 2000000 in
set_option maxRecDepth 100000 in
theorem dash_call (k : Nat) (hk : k < 16) (w : World) : Calls Try.prog 11 #[.int .i64 (k : Int)] w fun e w' => e = .returned (.bool (dashB k)) ∧ Drawn0 w w' := by
  have h : k = 0 ∨ k = 1 ∨ k = 2 ∨ k = 3 ∨ k = 4 ∨ k = 5 ∨ k = 6 ∨ k = 7 ∨ k = 8 ∨ k = 9 ∨ k = 10 ∨ k = 11 ∨ k = 12 ∨ k = 13 ∨ k = 14 ∨ k = 15 := by omega
  rcases h with rfl | rfl | rfl | rfl | rfl | rfl | rfl | rfl | rfl | rfl | rfl | rfl | rfl | rfl | rfl | rfl
  all_goals (go_enter Try.func11, Try.ntmps11; go_wp2; go_ret; exact ⟨rfl, 0, rfl⟩)
def dg (n : Int) : Int := if n < 10 then 48 + n else 87 + n
def oneL (k : Nat) (c : Int) : List Int := (if dashB k = true then [45] else []) ++ [dg (c / 16), dg (c % 16)]
def outL (xs : List Int) : Nat → List Int
  | 0 => []
  | k + 1 => outL xs k ++ oneL k (xs.getD k 0)
def setL (l : List Int) : List Int := (l.set 6 (v6 (l.getD 6 0))).set 8 (v8 (l.getD 8 0))
def ofL (l : List Int) : List Int := outL (setL l) 16
theorem out_len (xs : List Int) : ∀ k, (outL xs k).length ≤ 3 * k
  | 0 => Nat.le_refl _
  | k + 1 => by
    have := out_len xs k
    rw [outL, List.length_append]
    unfold oneL
    cases dashB k <;> simp <;> omega
theorem dig_at (n : Int) (h0 : 0 ≤ n) (h1 : n < 16) (W : World) : (Instr.index 9 (.string ⟨#[48, 49, 50, 51, 52, 53, 54, 55, 56, 57, 97, 98, 99, 100, 101, 102]⟩) (.int .u8 n)).run Try.prog W = .ok (.int .u8 (dg n)) W := by
  have h : n = 0 ∨ n = 1 ∨ n = 2 ∨ n = 3 ∨ n = 4 ∨ n = 5 ∨ n = 6 ∨ n = 7 ∨ n = 8 ∨ n = 9 ∨ n = 10 ∨ n = 11 ∨ n = 12 ∨ n = 13 ∨ n = 14 ∨ n = 15 := by omega
  rcases h with rfl | rfl | rfl | rfl | rfl | rfl | rfl | rfl | rfl | rfl | rfl | rfl | rfl | rfl | rfl | rfl
  all_goals first | rfl | (simp [Instr.index, run_underlying Try.underlying9, asIntOf, dg]; done) | (simp [go_sem, dg]; done)
set_option maxHeartbeats 2000000 in
set_option maxRecDepth 100000 in
theorem of_walk (l : List Int) (hl : l.length = 16) (hb : ∀ x ∈ l, byte x) (w : World) :
    Calls Try.prog 7 #[.agg (l.map (Value.int .u8)).toArray] w fun e w' => e = .returned (.string (strOfNums (ofL l))) ∧ Below w.heap.size w w' := by
  have hb6 : byte (l.getD 6 0) := by rw [List.getD_eq_getElem?_getD, List.getElem?_eq_getElem (by omega)]; exact hb _ (List.getElem_mem _)
  have hb8 : byte (l.getD 8 0) := by rw [List.getD_eq_getElem?_getD, List.getElem?_eq_getElem (by omega)]; exact hb _ (List.getElem_mem _)
  obtain ⟨x6, h6⟩ : ∃ x, l.getD 6 0 = x := ⟨_, rfl⟩
  obtain ⟨x8, h8⟩ : ∃ x, l.getD 8 0 = x := ⟨_, rfl⟩
  rw [h6] at hb6
  rw [h8] at hb8
  obtain ⟨wb, hwb⟩ : ∃ wb, w.alloc (.cells (l.map (Value.int .u8)).toArray 22) = wb := ⟨_, rfl⟩
  have A0 : Arr w.heap.size l wb := hwb ▸ arr_new w l
  have B0 : Below w.heap.size w wb := by rw [← hwb]; exact (Below.refl _ _).alloc (Nat.le_refl _) _
  have c6 := A0.cell 6 (by omega)
  have f6 := A0.free 6
  rw [h6] at c6
  have e6 := bits6 hb6
  have A1 := A0.set 6 (v6 x6)
  obtain ⟨w1, hw1⟩ : ∃ w1, wb.setCell ⟨w.heap.size, 6, none⟩ (.int .u8 (v6 x6)) = w1 := ⟨_, rfl⟩
  rw [hw1] at A1
  have B1 : Below w.heap.size w w1 := by rw [← hw1]; exact B0.setCell (Nat.le_refl _) _
  have c8 := A1.cell 8 (by rw [List.length_set]; omega)
  have f8 := A1.free 8
  have g8 : (l.set 6 (v6 x6)).getD 8 0 = x8 := by rw [← h8]; simp [List.getD]
  rw [g8] at c8
  have e8 := bits8 hb8
  have A2 := A1.set 8 (v8 x8)
  obtain ⟨w2, hw2⟩ : ∃ w2, w1.setCell ⟨w.heap.size, 8, none⟩ (.int .u8 (v8 x8)) = w2 := ⟨_, rfl⟩
  rw [hw2] at A2
  have B2 : Below w.heap.size w w2 := by rw [← hw2]; exact B1.setCell (Nat.le_refl _) _
  have HA2 := Aside0.mk A2
  have HB2 := Aside0.mk B2
  have hset : setL l = (l.set 6 (v6 x6)).set 8 (v8 x8) := by rw [setL, h6, h8]
  clear A0 A1 A2 B0 B1 B2 h6 h8 g8
  obtain ⟨i0, hi, hz0, hz1, hz2⟩ := info_parts (show (Try.prog.info? 5).map (fun i => (i.zero, i.size, i.bytes)) = some (some (.int .u8 0), 1, 1) by kernel_rfl)
  go_enter Try.func7, Try.ntmps7
  obtain ⟨xs, hxs⟩ : ∃ xs, (l.set 6 (v6 x6)).set 8 (v8 x8) = xs := ⟨_, rfl⟩
  have hxl : xs.length = 16 := by rw [← hxs, List.length_set, List.length_set, hl]
  have hxb : ∀ y ∈ xs, byte y := by
    intro y hy
    rw [← hxs] at hy
    rcases List.mem_or_eq_of_mem_set hy with hy | rfl
    · rcases List.mem_or_eq_of_mem_set hy with hy | rfl
      · exact hb y hy
      · unfold v6; exact ⟨by omega, by omega⟩
    · unfold v8; exact ⟨by omega, by omega⟩
  rw [hxs] at HA2 hset
  have hsz : (Try.prog.info? 22).map (·.size) = some (xs.map (Value.int .u8)).toArray.size := by
    have h0 : (Try.prog.info? 22).map (·.size) = some 16 := by kernel_rfl
    rw [h0]
    simp [hxl]
  go_wp2_with (refine wpList_load_row rfl 22 _ rfl w.heap.size rfl 22 _ (0, 0) _ HA2.out Try.underlying22 rfl hsz ?_)
  clear hsz c6 f6 e6 c8 f8 e8 hwb hw1 hw2
  go_loopw [17, 3] (fun i v wr => ∃ (k : Nat) (vv : Value), k ≤ 16 ∧ i = .int .i64 k ∧ vv = v ∧ wr.ownsRow w.heap.size 5 1 vv (outL xs k).length (nums .u8 (outL xs k)) ∧ Below w.heap.size w wr) (fun i _ _ => 16 - (intOf i).toNat)
  case atStart => exact ⟨0, _, Nat.zero_le _, rfl, rfl, own_nil _ _ _ _, HB2.out⟩
  case round =>
    rename_i wr
    obtain ⟨k, vv, hk, rfl, rfl, hO, hB⟩ := hrel
    have HO := Aside0.mk hO
    have HB := Aside0.mk hB
    clear hO hB
    by_cases hlt : k < 16
    · have hidx := fun W => idx xs hxl k hlt W
      obtain ⟨x, hx⟩ : ∃ x, xs.getD k 0 = x := ⟨_, rfl⟩
      rw [hx] at hidx
      have hbx : byte x := by
        rw [← hx, List.getD_eq_getElem?_getD, List.getElem?_eq_getElem (by omega)]
        exact hxb _ (List.getElem_mem _)
      obtain ⟨d, hd⟩ : ∃ d, dashB k = d := ⟨_, rfl⟩
      have hdc := fun W => dash_call k hlt W
      rw [hd] at hdc
      cases d
      · go_wp2_with (go_at_call 11; refine (hdc _).mono ?_; rintro e w3 ⟨rfl, hd3⟩)
        have HB3 := Aside0.mk (show Below w.heap.size w w3 by obtain ⟨nd, rfl⟩ := hd3; exact pw_below_drewN HB.out nd)
        have HO3 := Aside0.mk (show w3.ownsRow w.heap.size 5 1 vv (outL xs k).length (nums .u8 (outL xs k)) by obtain ⟨nd, rfl⟩ := hd3; exact pw_own_below HO.out (pw_below_drewN (Below.refl _ _) nd))
        clear hd3 hdc hidx
        have a1 : Go.bits .and .u8 x 15 = x % 16 := u8_and15 x hbx.1 (by have := hbx.2; omega)
        have hx0 := hbx.1
        have hx1 := hbx.2
        have s1 := fun wx => dig_at (x / 16) (by omega) (by omega) wx
        have s2 := fun wx => dig_at (x % 16) (by omega) (by omega) wx
        have hol := out_len xs k
        have HOD := Aside0.mk (show ((w3.alloc (.cells #[.int .u8 (dg (x / 16)), .int .u8 (dg (x % 16))] 5)).drew).ownsRow w.heap.size 5 1 vv (outL xs k).length (nums .u8 (outL xs k)) from pw_own_below HO3.out (below_drew (below_alloc (Below.refl _ _) _)))
        have HCD := Aside0.mk (show ∀ j u, [Value.int .u8 (dg (x / 16)), .int .u8 (dg (x % 16))][j]? = some u → ((w3.alloc (.cells #[.int .u8 (dg (x / 16)), .int .u8 (dg (x % 16))] 5)).drew).cell? ((⟨w3.heap.size, 0, none⟩ : Addr).add j) = some u from fun j u h => two_cells w3 _ _ _ j u h)
        have HBD := Aside0.mk (show Below w.heap.size w ((w3.alloc (.cells #[.int .u8 (dg (x / 16)), .int .u8 (dg (x % 16))] 5)).drew) from (HB3.out.alloc HB3.out.size _).drew)
        go_region_law (refine step_append_ownX rfl (.tmp 26) (.tmp 33) 28 rfl w.heap.size 5 i0 (.int .u8 0) 1 1 Try.underlying28 hi hz0 hz1 hz2 rfl (by decide) vv (outL xs k).length (nums .u8 (outL xs k)) (by simp [Act.eval, Act.put]) HOD.out ⟨w3.heap.size, 0, none⟩ 2 2 [.int .u8 (dg (x / 16)), .int .u8 (dg (x % 16))] (by simp [Act.eval, Act.put]) rfl HCD.out (by simp [Value.oneCell']) (by simp only [maxLen]; omega) (by omega) HBD.out.size ?_; intro v' w' hown hgrow)
        all_goals (go_wp2; refine ⟨⟨k + 1, _, hlt, rfl, rfl, ?_, ?_⟩, by simp [intOf]; omega⟩)
        all_goals first
          | (rw [show outL xs (k + 1) = outL xs k ++ oneL k x from by rw [outL, hx], oneL, hd]; simpa [nums] using hown)
          | exact HBD.out.grown hgrow HBD.out.size (fun j hj => (HOD.out.lt j hj).1)
      · have hol := out_len xs k
        go_wp2_with (first
          | (go_at_call 11
             refine (hdc _).mono ?_
             rintro e w3 ⟨rfl, hd3⟩
             have HB3 := Aside0.mk (show Below w.heap.size w w3 by obtain ⟨nd, rfl⟩ := hd3; exact pw_below_drewN HB.out nd)
             have HO3 := Aside0.mk (show (w3.alloc (.cells #[.int .u8 45] 5)).ownsRow w.heap.size 5 1 vv (outL xs k).length (nums .u8 (outL xs k)) by obtain ⟨nd, rfl⟩ := hd3; exact pw_own_below HO.out ((pw_below_drewN (Below.refl _ _) nd).alloc (Nat.le_refl _) _))
             clear hd3 hdc)
          | (at_builtin
             refine wpList_append_own _ rfl _ _ 28 rfl w.heap.size 5 i0 (.int .u8 0) 1 1 Try.underlying28 hi hz0 hz1 hz2 rfl (by decide) vv (outL xs k).length (nums .u8 (outL xs k)) rfl HO3.out ⟨w3.heap.size, 0, none⟩ 1 1 [.int .u8 45] rfl rfl ?qc2 (by simp [Value.oneCell']) (by simp only [maxLen]; omega) (by omega) ?qc6 ?_))
        case qc2 =>
          intro j u hj
          rcases j with _ | j
          · exact one_cell w3 _ _ 0 u hj
          · simp at hj
        case qc6 => exact Nat.le_trans HB3.out.size (by simp)
        intro v4 w4 hown4 hgrow4 hnil4
        have HB4 := Aside0.mk (show Below w.heap.size w w4 from (HB3.out.alloc HB3.out.size _).grown hgrow4 (Nat.le_trans HB3.out.size (by simp)) (fun j hj => (HO3.out.lt j hj).1))
        have HO4 := Aside0.mk hown4
        clear hown4 hgrow4 hnil4
        have a1 : Go.bits .and .u8 x 15 = x % 16 := u8_and15 x hbx.1 (by have := hbx.2; omega)
        have hx0 := hbx.1
        have hx1 := hbx.2
        have s1 := fun wx => dig_at (x / 16) (by omega) (by omega) wx
        have s2 := fun wx => dig_at (x % 16) (by omega) (by omega) wx
        have HOD := Aside0.mk (show ((w4.alloc (.cells #[.int .u8 (dg (x / 16)), .int .u8 (dg (x % 16))] 5)).drew).ownsRow w.heap.size 5 1 v4 ((outL xs k).length + 1) (nums .u8 (outL xs k) ++ [.int .u8 45]) from pw_own_below HO4.out (below_drew (below_alloc (Below.refl _ _) _)))
        have HCD := Aside0.mk (show ∀ j u, [Value.int .u8 (dg (x / 16)), .int .u8 (dg (x % 16))][j]? = some u → ((w4.alloc (.cells #[.int .u8 (dg (x / 16)), .int .u8 (dg (x % 16))] 5)).drew).cell? ((⟨w4.heap.size, 0, none⟩ : Addr).add j) = some u from fun j u h => two_cells w4 _ _ _ j u h)
        have HBD := Aside0.mk (show Below w.heap.size w ((w4.alloc (.cells #[.int .u8 (dg (x / 16)), .int .u8 (dg (x % 16))] 5)).drew) from (HB4.out.alloc HB4.out.size _).drew)
        go_wp2
        go_region_law (refine step_append_ownX rfl (.tmp 26) (.tmp 33) 28 rfl w.heap.size 5 i0 (.int .u8 0) 1 1 Try.underlying28 hi hz0 hz1 hz2 rfl (by decide) v4 ((outL xs k).length + 1) (nums .u8 (outL xs k) ++ [.int .u8 45]) (by simp [Act.eval, Act.put]) HOD.out ⟨w4.heap.size, 0, none⟩ 2 2 [.int .u8 (dg (x / 16)), .int .u8 (dg (x % 16))] (by simp [Act.eval, Act.put]) rfl HCD.out (by simp [Value.oneCell']) (by simp only [maxLen]; omega) (by omega) HBD.out.size ?_; intro v' w' hown hgrow)
        all_goals (go_wp2; refine ⟨⟨k + 1, _, hlt, rfl, rfl, ?_, ?_⟩, by simp [intOf]; omega⟩)
        all_goals first
          | (rw [show outL xs (k + 1) = outL xs k ++ oneL k x from by rw [outL, hx], oneL, hd]; simpa [nums] using hown)
          | exact HBD.out.grown hgrow HBD.out.size (fun j hj => (HOD.out.lt j hj).1)
    · have hke : k = 16 := by omega
      subst hke
      have hst := own_string Try.underlying28 Try.underlying5 Try.underlying9 HO.out
      go_wp2
      go_ret
      exact ⟨by rw [ofL, hset]; rfl, HB.out⟩
end Go.Proofs.Ytdombgagobooiaa.Id
