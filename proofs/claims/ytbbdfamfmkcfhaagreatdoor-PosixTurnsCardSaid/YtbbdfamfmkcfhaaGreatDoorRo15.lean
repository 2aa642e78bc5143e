/- strings.NewReplacer of two bytes, and what its Replace makes of a text: walked (4): NewReplacer, sync.Once, Replace. -/
import Derived.Test.YtbbdfamfmkcfhaaGreatDoorRb15
import Derived.Test.YtbbdfamfmkcfhaaGreatDoorRd15
namespace Go.Proofs.YtbbdfamfmkcfhaaGreatDoor.Rpl
open Go.RowKit Go.Proofs.YtbbdfamfmkcfhaaGreatDoorW.PrintWords Go.Proofs.YtbbdfamfmkcfhaaGreatDoorW.PrintLast Go.Proofs.YtbbdfamfmkcfhaaGreatDoorW.PrintMore Go.Proofs.YtbbdfamfmkcfhaaGreatDoor.Pl
set_option linter.unusedVariables false
set_option linter.unusedSimpArgs false
/-- A new replacer at block R: nothing built, its row of texts at g. -/
def Fresh (R g cap : Nat) (w : World) : Prop := w.heap[R]? = some (Obj.cells #[.int .u32 0, .int .i32 0, .int .u32 0, .nilIface, .slice (some ⟨g, 0, none⟩) 4 cap] 75 (0, 0)) ∧ g < w.heap.size ∧ w.cell? ⟨g, 0, none⟩ = some (.string (⟨#[92]⟩ : ByteArray)) ∧ w.cell? ⟨g, 1, none⟩ = some (.string (⟨#[37, 53, 67]⟩ : ByteArray)) ∧ w.cell? ⟨g, 2, none⟩ = some (.string (⟨#[124]⟩ : ByteArray)) ∧ w.cell? ⟨g, 3, none⟩ = some (.string (⟨#[37, 55, 67]⟩ : ByteArray))
def NewPost (w : World) (e : Ending) (w' : World) : Prop := ∃ R g cap, e = .returned (.pointer (some ⟨R, 0, none⟩)) ∧ w.heap.size ≤ R ∧ Below w.heap.size w w' ∧ Fresh R g cap w'
set_option maxHeartbeats 4000000 in
set_option maxRecDepth 100000 in
theorem new_any (g0 c0 : Nat) (w : World) (h0 : w.cell? ⟨g0, 0, none⟩ = some (.string (⟨#[92]⟩ : ByteArray))) (h1 : w.cell? ⟨g0, 1, none⟩ = some (.string (⟨#[37, 53, 67]⟩ : ByteArray))) (h2 : w.cell? ⟨g0, 2, none⟩ = some (.string (⟨#[124]⟩ : ByteArray))) (h3 : w.cell? ⟨g0, 3, none⟩ = some (.string (⟨#[37, 55, 67]⟩ : ByteArray))) :
    Calls Tryz.prog 27 #[.slice (some ⟨g0, 0, none⟩) 4 c0] w (NewPost w) := by
  obtain ⟨i0, hi, hz0, hz1, hz2⟩ := info_parts sinfo
  have hown : w.ownsRow w.heap.size 9 1 (.slice none 0 0) 0 [] := ⟨rfl, .inl ⟨rfl, rfl⟩⟩
  go_enter Tryz.func27, Tryz.ntmps27
  go_wp2_with (at_builtin; refine wpList_append_own _ rfl _ _ 23 rfl w.heap.size 9 i0 (.string ⟨#[]⟩) 1 16 Tryz.underlying23 hi hz0 hz1 hz2 rfl (by decide) (.slice none 0 0) _ _ rfl hown ⟨g0, 0, none⟩ 4 c0 [.string (⟨#[92]⟩ : ByteArray), .string (⟨#[37, 53, 67]⟩ : ByteArray), .string (⟨#[124]⟩ : ByteArray), .string (⟨#[37, 55, 67]⟩ : ByteArray)] rfl rfl ?c1 ?c2 ?c3 ?c4 ?c5 ?_)
  case c1 =>
    intro j u hj
    match j, hj with
    | 0, hj => simp at hj; subst hj; simpa [Addr.add] using h0
    | 1, hj => simp at hj; subst hj; simpa [Addr.add] using h1
    | 2, hj => simp at hj; subst hj; simpa [Addr.add] using h2
    | 3, hj => simp at hj; subst hj; simpa [Addr.add] using h3
  case c2 => intro u hu; simp at hu; rcases hu with rfl | rfl | rfl | rfl <;> rfl
  case c3 => unfold maxLen; simp
  case c4 => simp
  case c5 => exact Nat.le_refl _
  intro v' w2 hown' hgrow _
  obtain ⟨ga, cp, rfl⟩ : ∃ ga cp, v' = .slice (some ⟨ga, 0, none⟩) 4 cp := by
    rcases hown'.2 with ⟨_, hx⟩ | ⟨ga, cp, cur, hv, _⟩
    · simp at hx
    · exact ⟨ga, cp, hv⟩
  have d0 := hown'.cellAt 0 (by decide)
  have d1 := hown'.cellAt 1 (by decide)
  have d2 := hown'.cellAt 2 (by decide)
  have d3 := hown'.cellAt 3 (by decide)
  have hB2 : Below w.heap.size w w2 := (Below.refl _ _).grown hgrow (Nat.le_refl _) (fun k hk => by simp [Value.ownBlock] at hk)
  have hgl : ga < w2.heap.size := by
    rcases hown'.2 with ⟨hx, _⟩ | ⟨g', cp', cur, hv, _, hg, _⟩
    · simp at hx
    · simp only [Value.slice.injEq, Option.some.injEq, Addr.mk.injEq, and_true, true_and] at hv
      obtain ⟨rfl, _⟩ := hv
      exact (Array.getElem?_eq_some_iff.1 hg).1
  have HD := Aside0.mk (And.intro d0 (And.intro d1 (And.intro d2 d3)))
  have HB2 := Aside0.mk hB2
  clear d0 d1 d2 d3 hown' hgrow hB2 hown h0 h1 h2 h3 hi hz0 hz1 hz2
  go_wp2
  go_ret
  obtain ⟨d0, d1, d2, d3⟩ := HD.out
  have hal : ∀ o : Obj, Below w2.heap.size w2 (w2.alloc o) := fun o => (Below.refl _ _).alloc (Nat.le_refl _) _
  refine ⟨w2.heap.size, ga, cp, rfl, HB2.out.size, HB2.out.alloc HB2.out.size _, ?_, ?_, ?_, ?_, ?_, ?_⟩
  · show (w2.heap.push _)[w2.heap.size]? = _
    simp
  · show ga < (w2.heap.push _).size
    simp; omega
  · exact ((hal _).cell (p := ⟨ga, 0, none⟩) hgl).trans d0
  · exact ((hal _).cell (p := ⟨ga, 1, none⟩) hgl).trans d1
  · exact ((hal _).cell (p := ⟨ga, 2, none⟩) hgl).trans d2
  · exact ((hal _).cell (p := ⟨ga, 3, none⟩) hgl).trans d3

theorem disable (w : World) : (callFunc 94 #[]).run Tryz.prog w = .ok (.value (.tuple #[])) w := run_call_mark0 Tryz.func94 (by kernel_rfl) (by kernel_rfl) (by kernel_rfl) .disable (by kernel_rfl) w
theorem enable (w : World) : (callFunc 96 #[]).run Tryz.prog w = .ok (.value (.tuple #[])) w := run_call_mark0 Tryz.func96 (by kernel_rfl) (by kernel_rfl) (by kernel_rfl) .enable (by kernel_rfl) w
theorem acquire (a : Addr) (w : World) : (callFunc 97 #[.pointer (some a)]).run Tryz.prog w = .ok (.value (.tuple #[])) w := run_call_marked Tryz.func97 (by kernel_rfl) (by kernel_rfl) (by kernel_rfl) .acquire (by kernel_rfl) a w
theorem releaseMerge (a : Addr) (w : World) : (callFunc 99 #[.pointer (some a)]).run Tryz.prog w = .ok (.value (.tuple #[])) w := run_call_marked Tryz.func99 (by kernel_rfl) (by kernel_rfl) (by kernel_rfl) .releaseMerge (by kernel_rfl) a w
set_option maxHeartbeats 2000000 in
set_option maxRecDepth 100000 in
theorem store_deferred (a : Addr) (x : Value) (u : FrameMode) (w : World) (hc : w.cell? a = some x) (hz : w.frozen? a = false) :
    CallsD Tryz.prog 79 #[.pointer (some a), .bool true] u w fun e u' w' => u' = u ∧ (e = .returned (.tuple #[]) ∧ w' = w.drew.setCell a (.int .u32 1)) := by
  have hc' : w.drew.cell? a = some x := by go_simp
  have hz' : w.drew.frozen? a = false := by go_simp
  have hst := run_call_store (P := Tryz.prog) Tryz.func89 (by kernel_rfl) (by kernel_rfl) (by kernel_rfl) (by kernel_rfl) (k := .u32) (y := 1) hc' hz'
  go_enter_d Tryz.func79, Tryz.ntmps79
  go_wp2
  go_region_calls
  all_goals (go_end0; exact ⟨rfl, rfl⟩)
set_option maxHeartbeats 2000000 in
set_option maxRecDepth 100000 in
theorem unlock_deferred (a : Addr) (u : FrameMode) (w : World) (hc : w.cell? a = some (.int .i32 1)) (hz : w.frozen? a = false) :
    CallsD Tryz.prog 78 #[.pointer (some a)] u w fun e u' w' => u' = u ∧ (e = .returned (.tuple #[]) ∧ w' = w.setCell a (.int .i32 0)) := by
  have hd := disable
  have he := enable
  have hr := releaseMerge
  have hadd := run_call_add (P := Tryz.prog) Tryz.func100 (by kernel_rfl) (by kernel_rfl) (by kernel_rfl) .i32 (by kernel_rfl) (y := -1) (s := 0) hc hz (by simp [go_sem]; rfl)
  have hcv := run_convert_to_unsafe (P := Tryz.prog) (src := 145) (dst := 125) Tryz.underlying145 Tryz.underlying125 (by kernel_rfl) hc
  go_enter_d Tryz.func78, Tryz.ntmps78
  go_wp2
  go_end0
  go_wp2
  go_end0
  exact ⟨rfl, rfl⟩
set_option maxHeartbeats 2000000 in
set_option maxRecDepth 100000 in
theorem lock_free (a : Addr) (w : World) (hc : w.cell? a = some (.int .i32 0)) (hz : w.frozen? a = false) :
    Calls Tryz.prog 77 #[.pointer (some a)] w fun e w' => e = .returned (.tuple #[]) ∧ w' = w.setCell a (.int .i32 1) := by
  have hd := disable
  have he := enable
  have ha := acquire
  have hcas := run_call_cas_hit (P := Tryz.prog) Tryz.func95 (by kernel_rfl) (by kernel_rfl) (by kernel_rfl) .i32 (by kernel_rfl) (y := 1) hc hz
  have hc' : (w.setCell a (.int .i32 1)).cell? a = some (.int .i32 1) := World.cell?_setCell_same w a _ hc
  have hcv := run_convert_to_unsafe (P := Tryz.prog) (src := 145) (dst := 125) Tryz.underlying145 Tryz.underlying125 (by kernel_rfl) hc'
  go_enter Tryz.func77, Tryz.ntmps77
  go_wp2
  first | go_end0 | (simp only [Exit.inBlock, Exit.then]; refine bodyPost_ret (results_none rfl _ _ _) rfl ?_) | refine bodyPost_ret (results_none rfl _ _ _) rfl ?_
  go_wp2
  go_end0
  exact ⟨rfl, rfl⟩
theorem blk_set {R i : Nat} {cs : Array Value} {t : TypeId} {w : World} (h : w.heap[R]? = some (Obj.cells cs t (0, 0))) (v : Value) : (w.setCell ⟨R, i, none⟩ v).heap[R]? = some (Obj.cells (cs.setIfInBounds i v) t (0, 0)) := by
  simp [World.setCell, Array.getElem?_modify, h]
theorem blk_cell {R i : Nat} {cs : Array Value} {t : TypeId} {w : World} {v : Value} (h : w.heap[R]? = some (Obj.cells cs t (0, 0))) (hv : cs[i]? = some v) : w.cell? ⟨R, i, none⟩ = some v := by simp [World.cell?, h, hv]
theorem blk_free {R i : Nat} {cs : Array Value} {t : TypeId} {w : World} (h : w.heap[R]? = some (Obj.cells cs t (0, 0))) : w.frozen? ⟨R, i, none⟩ = false := by simp [World.frozen?, h]
def OncePost (R : Nat) (w : World) (e : Ending) (w' : World) : Prop := ∃ w2, e = .returned (.tuple #[]) ∧ Nil w w2 ∧ w' = (w2.setCell ⟨R, 3, none⟩ (.iface 124 (.pointer (some ⟨w.heap.size + 1, 0, none⟩)))).setCell ⟨R, 4, none⟩ (.slice none 0 0)
set_option maxHeartbeats 4000000 in
set_option maxRecDepth 100000 in
theorem once_any (R g cap : Nat) (a0 a1 a2 : Value) (w : World) (hR : w.heap[R]? = some (Obj.cells #[a0, a1, a2, .nilIface, .slice (some ⟨g, 0, none⟩) 4 cap] 75 (0, 0))) (hg : g < w.heap.size) (g0 : w.cell? ⟨g, 0, none⟩ = some (.string (⟨#[92]⟩ : ByteArray))) (g1 : w.cell? ⟨g, 1, none⟩ = some (.string (⟨#[37, 53, 67]⟩ : ByteArray))) (g2 : w.cell? ⟨g, 2, none⟩ = some (.string (⟨#[124]⟩ : ByteArray))) (g3 : w.cell? ⟨g, 3, none⟩ = some (.string (⟨#[37, 55, 67]⟩ : ByteArray))) :
    Calls Tryz.prog 42 #[.pointer (some ⟨R, 0, none⟩)] w (OncePost R w) := by
  have HBA := Aside0.mk (show Calls Tryz.prog 61 #[.pointer (some ⟨R, 0, none⟩)] w fun e w2 => e = .returned (.iface 124 (.pointer (some ⟨w.heap.size + 1, 0, none⟩))) ∧ Nil w w2 ∧ w2.cell? ⟨R, 3, none⟩ = some .nilIface ∧ w2.frozen? ⟨R, 3, none⟩ = false ∧ (w2.setCell ⟨R, 3, none⟩ (.iface 124 (.pointer (some ⟨w.heap.size + 1, 0, none⟩)))).cell? ⟨R, 4, none⟩ = some (.slice (some ⟨g, 0, none⟩) 4 cap) ∧ (w2.setCell ⟨R, 3, none⟩ (.iface 124 (.pointer (some ⟨w.heap.size + 1, 0, none⟩)))).frozen? ⟨R, 4, none⟩ = false from by
    refine (build_any R g cap w (blk_cell hR rfl) hg g0 g1 g2 g3).mono ?_
    rintro e w2 ⟨rfl, hn⟩
    have hb := (show Below w.heap.size w w2 from by obtain ⟨f, ⟨_, _, hb⟩, _⟩ := hn; exact hb)
    have hR2 := (hb.block R (Array.getElem?_eq_some_iff.1 hR).1).trans hR
    have hR3 := blk_set (i := 3) hR2 (.iface 124 (.pointer (some ⟨w.heap.size + 1, 0, none⟩)))
    exact ⟨rfl, hn, blk_cell hR2 rfl, blk_free hR2, blk_cell hR3 rfl, blk_free hR3⟩)
  clear g0 g1 g2 g3 hR
  go_enter Tryz.func42, Tryz.ntmps42
  go_wp2_with (go_at_call 61; (with_reducible refine HBA.out.mono ?_); rintro e w2 ⟨rfl, hn, c3, f3, c4, f4⟩; have HN := Aside0.mk hn; clear hn)
  go_end0
  exact ⟨w2, rfl, HN.out, rfl⟩
theorem tbl_of {w w2 : World} (h : Nil w w2) : Tbl (w.heap.size + 1) w2 ∧ Below w.heap.size w w2 := by
  obtain ⟨f, ⟨hA, hR, hB⟩, hz, h2, h1⟩ := h
  exact ⟨⟨f, w.heap.size, hA, hR, hz, h2, h1⟩, hB⟩
theorem Tbl.set {B R i : Nat} {w : World} {cs : Array Value} (h : Tbl B w) (hR : w.heap[R]? = some (Obj.cells cs 75 (0, 0))) (v : Value) : Tbl B (w.setCell ⟨R, i, none⟩ v) := by
  obtain ⟨f, base, hA, hO, hz, h2, h1⟩ := h
  have hne : ∀ (g : Nat) (cs' : Array Value) (t : TypeId) (m : Nat × Nat), w.heap[g]? = some (Obj.cells cs' t m) → t ≠ 75 → (w.setCell ⟨R, i, none⟩ v).heap[g]? = w.heap[g]? := by
    intro g cs' t m hg ht
    have : R ≠ g := by
      intro e
      subst e
      rw [hR] at hg
      simp at hg
      exact ht hg.2.1.symm
    simp [World.setCell, Array.getElem?_modify, this]
  refine ⟨f, base, ?_, ?_, hz, h2.keep (row := none) fun g cs' m hg => hne g cs' _ m hg (by decide), h1.keep (row := none) fun g cs' m hg => hne g cs' _ m hg (by decide)⟩
  · obtain ⟨cs', e1, e2, e3⟩ := hA
    exact ⟨cs', (hne B cs' _ _ e1 (by decide)).trans e1, e2, e3⟩
  · have hn := Lib.ownBlock_ne hO hR (by decide)
    exact hO.kept (row := some R) ⟨rfl, rfl, rfl, by simp [World.setCell], fun k _ hk => Below.heap_setCell _ _ _ _ (fun e => hk (by simp [e]))⟩ (Or.inr hn)
theorem Tbl.drew {B : Nat} {w : World} (h : Tbl B w) : Tbl B w.drew := h
def DonePost (R : Nat) (w : World) (e : Ending) (w' : World) : Prop := ∃ B, e = .returned (.tuple #[]) ∧ w'.cell? ⟨R, 3, none⟩ = some (.iface 124 (.pointer (some ⟨B, 0, none⟩))) ∧ Tbl B w' ∧ B < w'.heap.size ∧ ∀ base, base ≤ R → base ≤ w.heap.size → Below base w w'
set_option maxRecDepth 100000 in
set_option maxHeartbeats 4000000 in
theorem slow_any (R g cap : Nat) (w : World) (hF : Fresh R g cap w) :
    Calls Tryz.prog 60 #[.pointer (some ⟨R, 0, none⟩), .func (.func 42) #[.pointer (some ⟨R, 0, none⟩)] #[]] w (DonePost R w) := by
  obtain ⟨hR, hg, q0, q1, q2, q3⟩ := hF
  have hRl := (Array.getElem?_eq_some_iff.1 hR).1
  have hgR : R ≠ g := by
    intro e
    subst e
    have := blk_cell (i := 0) (v := .int .u32 0) hR rfl
    rw [this] at q0
    simp at q0
  have hR1 := blk_set (i := 1) hR (.int .i32 1)
  have kc : ∀ j, (w.setCell ⟨R, 1, none⟩ (.int .i32 1)).cell? ⟨g, j, none⟩ = w.cell? ⟨g, j, none⟩ := fun j => World.cell?_setCell_other _ ⟨R, 1, none⟩ ⟨g, j, none⟩ _ (by simp [hgR])
  have hl := run_call_load (P := Tryz.prog) Tryz.func76 (by kernel_rfl) (by kernel_rfl) (by kernel_rfl) .u32 (by kernel_rfl) (w := w.setCell ⟨R, 1, none⟩ (.int .i32 1)) (a := ⟨R, 0, none⟩) (x := 0) (blk_cell hR1 rfl)
  have HO := Aside0.mk (once_any R g cap (.int .u32 0) (.int .i32 1) (.int .u32 0) (w.setCell ⟨R, 1, none⟩ (.int .i32 1)) hR1 (by simpa [World.setCell] using hg) ((kc 0).trans q0) ((kc 1).trans q1) ((kc 2).trans q2) ((kc 3).trans q3))
  have HLK := Aside0.mk (lock_free ⟨R, 1, none⟩ w (blk_cell hR rfl) (blk_free hR))
  have hnot : ∀ (x : Bool) (w : World), (Op.unary .not (.bool x)).run Tryz.prog w = .ok (.bool (!x)) w := fun _ _ => rfl
  have HR1 := Aside0.mk hR1
  have HRl := Aside0.mk hRl
  clear kc hR hR1 q0 q1 q2 q3 hg hgR hRl
  go_enter_defers Tryz.func60, Tryz.ntmps60
  go_wp2_with (first | (go_at_call 59; go_in) | (go_at_call 77; (with_reducible refine HLK.out.mono ?_); rintro e w' ⟨rfl, rfl⟩) | (go_at_call 42; (with_reducible refine HO.out.mono ?_); rintro e w' ⟨w2, rfl, hn, rfl⟩; have HN := Aside0.mk hn; clear hn))
  obtain ⟨hT2, hB2⟩ := tbl_of HN.out
  have hR2 := (hB2.block R (by simpa [World.setCell] using HRl.out)).trans HR1.out
  have hR3 := blk_set (i := 3) hR2 (.iface 124 (.pointer (some ⟨(w.setCell ⟨R, 1, none⟩ (.int .i32 1)).heap.size + 1, 0, none⟩)))
  have hR4 := blk_set (i := 4) hR3 (.slice none 0 0)
  have hR5 := blk_set (i := 0) hR4 (.int .u32 1)
  have hR6 := blk_set (i := 1) hR5 (.int .i32 0)
  have hT3 := hT2.set (i := 3) hR2 (.iface 124 (.pointer (some ⟨(w.setCell ⟨R, 1, none⟩ (.int .i32 1)).heap.size + 1, 0, none⟩)))
  have hT4 := hT3.set (i := 4) hR3 (.slice none 0 0)
  have hT5 := hT4.set (i := 0) hR4 (.int .u32 1)
  have hT6 := hT5.set (i := 1) hR5 (.int .i32 0)
  have hBl : (w.setCell ⟨R, 1, none⟩ (.int .i32 1)).heap.size + 1 < w2.heap.size := by
    obtain ⟨f, base, hA, _⟩ := hT2
    exact hA.lt
  have hsz : (w.setCell ⟨R, 1, none⟩ (.int .i32 1)).heap.size = w.heap.size := by simp [World.setCell]
  have HP := Aside0.mk (show DonePost R w (.returned (.tuple #[])) (((((w2.setCell ⟨R, 3, none⟩ (.iface 124 (.pointer (some ⟨(w.setCell ⟨R, 1, none⟩ (.int .i32 1)).heap.size + 1, 0, none⟩)))).setCell ⟨R, 4, none⟩ (.slice none 0 0)).drew).setCell ⟨R, 0, none⟩ (.int .u32 1)).setCell ⟨R, 1, none⟩ (.int .i32 0)) from
    ⟨_, rfl, blk_cell (w := ((((w2.setCell ⟨R, 3, none⟩ (.iface 124 (.pointer (some ⟨(w.setCell ⟨R, 1, none⟩ (.int .i32 1)).heap.size + 1, 0, none⟩)))).setCell ⟨R, 4, none⟩ (.slice none 0 0)).drew).setCell ⟨R, 0, none⟩ (.int .u32 1)).setCell ⟨R, 1, none⟩ (.int .i32 0)) hR6 rfl, hT6, by simpa [World.setCell] using hBl, fun base h1 h2 =>
      ((((((Below.refl base w).setCell (p := ⟨R, 1, none⟩) h1 _).trans (hB2.mono (by rw [hsz]; exact h2))).setCell (p := ⟨R, 3, none⟩) h1 _).setCell (p := ⟨R, 4, none⟩) h1 _).drew.setCell (p := ⟨R, 0, none⟩) h1 _).setCell (p := ⟨R, 1, none⟩) h1 _⟩)
  have k0 : ((w2.setCell ⟨R, 3, none⟩ (.iface 124 (.pointer (some ⟨(w.setCell ⟨R, 1, none⟩ (.int .i32 1)).heap.size + 1, 0, none⟩)))).setCell ⟨R, 4, none⟩ (.slice none 0 0)).cell? ⟨R, 0, none⟩ = some (.int .u32 0) := blk_cell hR4 rfl
  have z0 : ((w2.setCell ⟨R, 3, none⟩ (.iface 124 (.pointer (some ⟨(w.setCell ⟨R, 1, none⟩ (.int .i32 1)).heap.size + 1, 0, none⟩)))).setCell ⟨R, 4, none⟩ (.slice none 0 0)).frozen? ⟨R, 0, none⟩ = false := blk_free hR4
  have k1 : (((w2.setCell ⟨R, 3, none⟩ (.iface 124 (.pointer (some ⟨(w.setCell ⟨R, 1, none⟩ (.int .i32 1)).heap.size + 1, 0, none⟩)))).setCell ⟨R, 4, none⟩ (.slice none 0 0)).drew.setCell ⟨R, 0, none⟩ (.int .u32 1)).cell? ⟨R, 1, none⟩ = some (.int .i32 1) := blk_cell (w := ((w2.setCell ⟨R, 3, none⟩ (.iface 124 (.pointer (some ⟨(w.setCell ⟨R, 1, none⟩ (.int .i32 1)).heap.size + 1, 0, none⟩)))).setCell ⟨R, 4, none⟩ (.slice none 0 0)).drew.setCell ⟨R, 0, none⟩ (.int .u32 1)) hR5 rfl
  have z1 : (((w2.setCell ⟨R, 3, none⟩ (.iface 124 (.pointer (some ⟨(w.setCell ⟨R, 1, none⟩ (.int .i32 1)).heap.size + 1, 0, none⟩)))).setCell ⟨R, 4, none⟩ (.slice none 0 0)).drew.setCell ⟨R, 0, none⟩ (.int .u32 1)).frozen? ⟨R, 1, none⟩ = false := blk_free (w := ((w2.setCell ⟨R, 3, none⟩ (.iface 124 (.pointer (some ⟨(w.setCell ⟨R, 1, none⟩ (.int .i32 1)).heap.size + 1, 0, none⟩)))).setCell ⟨R, 4, none⟩ (.slice none 0 0)).drew.setCell ⟨R, 0, none⟩ (.int .u32 1)) hR5
  rw [hsz] at k0 z0 k1 z1 HP
  have K0 := Aside0.mk k0
  have Z0 := Aside0.mk z0
  have K1 := Aside0.mk k1
  have Z1 := Aside0.mk z1
  clear hT2 hB2 hR2 hR3 hR4 hR5 hR6 hT3 hT4 hT5 hT6 hBl hsz k0 z0 k1 z1
  (try go_wp2)
  refine leaves_cons (f := 79) (args := #[.pointer (some ⟨R, 0, none⟩), .bool true]) (by simp) (by simp [go_sem]) ?_
  refine (store_deferred ⟨R, 0, none⟩ (.int .u32 0) .returning _ K0.out Z0.out).mono ?_
  rintro e u' w'' ⟨rfl, rfl, rfl⟩
  refine leaves_cons (f := 78) (args := #[.pointer (some ⟨R, 1, none⟩)]) (by simp [settle]) (by simp [go_sem]) ?_
  refine (unlock_deferred ⟨R, 1, none⟩ _ _ K1.out Z1.out).mono ?_
  rintro e u' w'' ⟨rfl, rfl, rfl⟩
  have hP := HP.out
  simp [Leaves, settle, results, Tryz.results60]
  exact hP
def ReplPost (s : ByteArray) (base : Nat) (w : World) (e : Ending) (w' : World) : Prop := e = .returned (.string (strOfNums (rep (bytesOf s)))) ∧ Below base w w'
set_option maxRecDepth 100000 in
set_option maxHeartbeats 4000000 in
theorem do_first (R g cap : Nat) (w : World) (hF : Fresh R g cap w) :
    Calls Tryz.prog 41 #[.pointer (some ⟨R, 0, none⟩), .func (.func 42) #[.pointer (some ⟨R, 0, none⟩)] #[]] w (DonePost R w) := by
  have HSL := Aside0.mk (slow_any R g cap w hF)
  have hl := run_call_load (P := Tryz.prog) Tryz.func76 (by kernel_rfl) (by kernel_rfl) (by kernel_rfl) .u32 (by kernel_rfl) (w := w) (a := ⟨R, 0, none⟩) (x := 0) (blk_cell hF.1 rfl)
  have hnot : ∀ (x : Bool) (w : World), (Op.unary .not (.bool x)).run Tryz.prog w = .ok (.bool (!x)) w := fun _ _ => rfl
  clear hF
  go_enter Tryz.func41, Tryz.ntmps41
  go_wp2_with (first | (go_at_call 60; (with_reducible refine HSL.out.mono ?_); rintro e w' ⟨B, rfl, h3, hT, hB, hb⟩; have HD := Aside0.mk (show DonePost R w (.returned (.tuple #[])) w' from ⟨B, rfl, h3, hT, hB, hb⟩); clear h3 hT hB hb) | (go_at_call 59; go_in))
  go_end0
  exact HD.out
set_option maxRecDepth 100000 in
set_option maxHeartbeats 4000000 in
theorem replace_any (R g cap : Nat) (s : ByteArray) (base : Nat) (w : World) (hF : Fresh R g cap w) (hb1 : base ≤ R) (hb2 : base ≤ w.heap.size) (hs : s.size ≤ 1000000) :
    Calls Tryz.prog 28 #[.pointer (some ⟨R, 0, none⟩), .string s] w (ReplPost s base w) := by
  have HDO := Aside0.mk (do_first R g cap w hF)
  have HS := Aside0.mk hs
  have HB1 := Aside0.mk hb1
  have HB2 := Aside0.mk hb2
  have hm : ∀ (W : World) (p : Addr), (method 298 124 (.pointer (some p)) "Replace").run Tryz.prog W = .ok (147, .pointer (some p)) W := fun _ _ => by kernel_rfl
  have hmf : ∀ (fn : Fn) (first cap : Array Value) (w : World), (Instr.makeFunc fn first cap).run Tryz.prog w = .ok (.func fn first cap) w := fun _ _ _ _ => rfl
  clear hF hs hb1 hb2
  go_enter Tryz.func28, Tryz.ntmps28
  go_wp2_with (first | (go_at_call 41; (with_reducible refine HDO.out.mono ?_); rintro e w1 ⟨B, rfl, h3, hT, hBl, hb⟩; have HT := Aside0.mk hT; have HBl := Aside0.mk hBl; have HBB := Aside0.mk (hb base HB1.out HB2.out); clear hT hBl hb) | (go_at_call 147; (with_reducible refine (bsr_any _ _ _ HT.out HBl.out HS.out).mono ?_); rintro e w2 ⟨rfl, hb⟩; have HZ := Aside0.mk (HBB.out.trans (hb.mono (Nat.le_trans HB2.out HBB.out.size))); clear hb))
  go_ret
  exact ⟨rfl, HZ.out⟩
end Go.Proofs.YtbbdfamfmkcfhaaGreatDoor.Rpl
