/- Chapter 23: a box of mail: the walks of put and Take, which choose among communications: one goroutine, each a step of the machine's. -/
import Derived.Test.YtaaicaddoboepaaProg
import Derived.Conc.LoneSelect
import Derived.Conc.LoneSelectN
import Derived.KernelRfl
import Derived.Laws.Rows
import Derived.Laws.Runes
import Derived.Laws.Tables
import Derived.Below
namespace Go.Proofs.Ytaaicaddoboepaa.Mail
open Go.Conc Go.RowKit
set_option linter.unusedVariables false
set_option linter.unusedSimpArgs false
/-- Block c is an open channel with this room, and in it these. -/
def ChB (c cap : Nat) (buf : List Value) (w : World) : Prop := ∃ s r, w.heap[c]? = some (.chan cap buf.toArray false s r false)
theorem ChB.lt {c cap : Nat} {buf : List Value} {w : World} (h : ChB c cap buf w) : c < w.heap.size := by
  obtain ⟨s, r, h⟩ := h
  exact (Array.getElem?_eq_some_iff.1 h).1
theorem ChB.set {c cap : Nat} {buf buf2 : List Value} {w : World} (h : ChB c cap buf w) (s r : Nat) : ChB c cap buf2 (w.setChan c cap buf2.toArray false s r false) :=
  ⟨s, r, heap_setChan w c cap _ false s r false h.lt⟩
theorem setChan_other (w : World) (c c' cap : Nat) (buf : Array Value) (closed : Bool) (s r : Nat) (tm : Bool) (h : c ≠ c') : (w.setChan c cap buf closed s r tm).heap[c']? = w.heap[c']? := by
  simp [World.setChan, Array.getElem?_setIfInBounds_ne h]
theorem ChB.other {c d cap cap2 : Nat} {buf : List Value} {w : World} (h : ChB c cap buf w) (hne : d ≠ c) (buf2 : Array Value) (s r : Nat) : ChB c cap buf (w.setChan d cap2 buf2 false s r false) := by
  obtain ⟨s1, r1, h⟩ := h
  exact ⟨s1, r1, (setChan_other w d c cap2 buf2 false s r false hne).trans h⟩
set_option maxRecDepth 100000 in
theorem put_room_int (c cap : Nat) (buf : List Value) (x : Int) (w : World) (h : ChB c cap buf w) (hr : buf.length < cap) :
    Calls Try.prog 16 #[.chan (some c), Value.int .i64 x] w fun e w' => e = .returned (.bool true) ∧ ∃ s r, w' = w.setChan c cap (buf ++ [Value.int .i64 x]).toArray false s r false := by
  refine calls_of_loneTo fun cs => ?_
  have e : Frame.enter Try.prog 16 #[.chan (some c), Value.int .i64 x] .normal = (base 16).at ⟨#[.chan (some c), Value.int .i64 x, undef, undef, undef, undef, undef, undef, undef, undef], []⟩ [.code (Try.f16.body.getD .skip)] := by
    simp [Frame.enter, Frame.at, Try.func16, base, Try.f16]
  rw [e]
  obtain ⟨s, r, hc⟩ := h
  refine LoneTo.goes (n := 40) ?_
  simp only [Try.f16, Option.getD_some]
  repeat (first | s_c stepG_seq | s_c stepG_skip | s_c stepG_block | s_reg | s_op | s_c stepG_region_end | s_cond true | s_cond false | s_c stepG_inBlock)
  s_stop
  refine LoneTo.step (step_lone_select_send_room (c := c) (cap := cap) (buf := buf.toArray) (s := s) (r := r) (tm := false) (stepG_comm (cases := #[scase c (Value.int .i64 x) (Value.int .i64 0)]) (blocking := false) (shape := .select) (w' := w) rfl rfl (by decide) (by simp [go_sem, execOp, scase, Act.eval])) hc (by simpa using hr)) ?_
  rw [Frame.finish_at]
  walk_nrm
  refine LoneTo.goes (n := 40) ?_
  repeat (first | s_c stepG_seq | s_c stepG_skip | s_c stepG_block | s_reg | s_op | s_c stepG_region_end | s_cond true | s_cond false | s_c stepG_inBlock)
  s_c stepG_ret'
  s_stop
  exact LoneTo.done ⟨.returned (.bool true), _, rfl, ⟨rfl, s + 1, r, by simp⟩, rfl, rfl, rfl, rfl, _, Try.func16, by simp [results, Try.f16, Frame.at]⟩
set_option maxRecDepth 100000 in
theorem put_full_int (c cap : Nat) (buf : List Value) (x : Int) (w : World) (h : ChB c cap buf w) (hr : cap ≤ buf.length) :
    Calls Try.prog 16 #[.chan (some c), Value.int .i64 x] w fun e w' => e = .returned (.bool false) ∧ w' = w := by
  refine calls_of_loneTo fun cs => ?_
  have e : Frame.enter Try.prog 16 #[.chan (some c), Value.int .i64 x] .normal = (base 16).at ⟨#[.chan (some c), Value.int .i64 x, undef, undef, undef, undef, undef, undef, undef, undef], []⟩ [.code (Try.f16.body.getD .skip)] := by
    simp [Frame.enter, Frame.at, Try.func16, base, Try.f16]
  rw [e]
  obtain ⟨s, r, hc⟩ := h
  refine LoneTo.goes (n := 40) ?_
  simp only [Try.f16, Option.getD_some]
  repeat (first | s_c stepG_seq | s_c stepG_skip | s_c stepG_block | s_reg | s_op | s_c stepG_region_end | s_cond true | s_cond false | s_c stepG_inBlock)
  s_stop
  refine LoneTo.step (step_lone_select_send_full (c := c) (cap := cap) (buf := buf.toArray) (s := s) (r := r) (tm := false) (stepG_comm (cases := #[scase c (Value.int .i64 x) (Value.int .i64 0)]) (blocking := false) (shape := .select) (w' := w) rfl rfl (by decide) (by simp [go_sem, execOp, scase, Act.eval])) hc (by simpa using hr)) ?_
  rw [Frame.finish_at]
  walk_nrm
  refine LoneTo.goes (n := 40) ?_
  repeat (first | s_c stepG_seq | s_c stepG_skip | s_c stepG_block | s_reg | s_op | s_c stepG_region_end | s_cond true | s_cond false | s_c stepG_inBlock)
  s_c stepG_ret'
  s_stop
  exact LoneTo.done ⟨.returned (.bool false), _, rfl, ⟨rfl, rfl⟩, rfl, rfl, rfl, rfl, _, Try.func16, by simp [results, Try.f16, Frame.at]⟩
set_option maxRecDepth 100000 in
theorem take_urgent_int (B cu cp cap : Nat) (x : Int) (us ps : List Value) (w : World) (hb0 : w.cell? ⟨B, 0, none⟩ = some (.chan (some cu))) (hb1 : w.cell? ⟨B, 1, none⟩ = some (.chan (some cp))) (hu : ChB cu cap (Value.int .i64 x :: us) w) (hp : ChB cp cap ps w) :
    Calls Try.prog 9 #[.pointer (some ⟨B, 0, none⟩)] w fun e w' => e = .returned (.tuple #[Value.int .i64 x, .bool true, .bool true]) ∧ ∃ s r, w' = w.setChan cu cap us.toArray false s r false := by
  refine calls_of_loneTo fun cs => ?_
  have e : Frame.enter Try.prog 9 #[.pointer (some ⟨B, 0, none⟩)] .normal = (base 9).at ⟨#[.pointer (some ⟨B, 0, none⟩), undef, undef, undef, undef, undef, undef, undef, undef, undef, undef, undef, undef, undef, undef, undef, undef, undef, undef, undef, undef, undef, undef, undef, undef, undef, undef, undef, undef, undef], []⟩ [.code (Try.f9.body.getD .skip)] := by
    simp [Frame.enter, Frame.at, Try.func9, base, Try.f9]
  rw [e]
  obtain ⟨s, r, hc⟩ := hu
  obtain ⟨s2, r2, hc2⟩ := hp
  refine LoneTo.goes (n := 60) ?_
  simp only [Try.f9, Option.getD_some]
  repeat (first | s_c stepG_seq | s_c stepG_skip | s_c stepG_block | s_reg | s_op | s_c stepG_region_end | s_cond true | s_cond false | s_c stepG_inBlock)
  s_stop
  refine LoneTo.step (step_lone_select_recv_buf (c := cu) (cap := cap) (buf := (Value.int .i64 x :: us).toArray) (closed := false) (s := s) (r := r) (tm := false) (z := Value.int .i64 0) (stepG_comm (cases := #[rcase cu (Value.int .i64 0)]) (blocking := false) (shape := .select) (w' := w) rfl rfl (by decide) (by simp [go_sem, execOp, rcase, Act.eval])) hc (by simp)) ?_
  rw [Frame.finish_at]
  walk_nrm
  refine LoneTo.goes (n := 60) ?_
  repeat (first | s_c stepG_seq | s_c stepG_skip | s_c stepG_block | s_reg | s_op | s_c stepG_region_end | s_cond true | s_cond false | s_c stepG_inBlock)
  s_c stepG_ret'
  s_stop
  exact LoneTo.done ⟨.returned (.tuple #[Value.int .i64 x, .bool true, .bool true]), _, rfl, ⟨rfl, s, r + 1, by simp⟩, rfl, rfl, rfl, rfl, _, Try.func9, by simp [results, Try.f9, Frame.at]⟩
set_option maxRecDepth 100000 in
theorem take_plain_int (B cu cp cap : Nat) (x : Int) (ps : List Value) (w : World) (hb0 : w.cell? ⟨B, 0, none⟩ = some (.chan (some cu))) (hb1 : w.cell? ⟨B, 1, none⟩ = some (.chan (some cp))) (hu : ChB cu cap [] w) (hp : ChB cp cap (Value.int .i64 x :: ps) w) :
    Calls Try.prog 9 #[.pointer (some ⟨B, 0, none⟩)] w fun e w' => e = .returned (.tuple #[Value.int .i64 x, .bool false, .bool true]) ∧ ∃ s r, w' = w.setChan cp cap ps.toArray false s r false := by
  refine calls_of_loneTo fun cs => ?_
  have e : Frame.enter Try.prog 9 #[.pointer (some ⟨B, 0, none⟩)] .normal = (base 9).at ⟨#[.pointer (some ⟨B, 0, none⟩), undef, undef, undef, undef, undef, undef, undef, undef, undef, undef, undef, undef, undef, undef, undef, undef, undef, undef, undef, undef, undef, undef, undef, undef, undef, undef, undef, undef, undef], []⟩ [.code (Try.f9.body.getD .skip)] := by
    simp [Frame.enter, Frame.at, Try.func9, base, Try.f9]
  rw [e]
  obtain ⟨s, r, hc⟩ := hu
  obtain ⟨s2, r2, hc2⟩ := hp
  refine LoneTo.goes (n := 60) ?_
  simp only [Try.f9, Option.getD_some]
  repeat (first | s_c stepG_seq | s_c stepG_skip | s_c stepG_block | s_reg | s_op | s_c stepG_region_end | s_cond true | s_cond false | s_c stepG_inBlock)
  s_stop
  refine LoneTo.step (step_lone_select_default (c := cu) (cap := cap) (s := s) (r := r) (tm := false) (z := Value.int .i64 0) (stepG_comm (cases := #[rcase cu (Value.int .i64 0)]) (blocking := false) (shape := .select) (w' := w) rfl rfl (by decide) (by simp [go_sem, execOp, rcase, Act.eval])) hc) ?_
  rw [Frame.finish_at]
  walk_nrm
  refine LoneTo.goes (n := 60) ?_
  repeat (first | s_c stepG_seq | s_c stepG_skip | s_c stepG_block | s_reg | s_op | s_c stepG_region_end | s_cond true | s_cond false | s_c stepG_inBlock)
  s_stop
  refine LoneTo.step (step_lone_select_recv_buf (c := cp) (cap := cap) (buf := (Value.int .i64 x :: ps).toArray) (closed := false) (s := s2) (r := r2) (tm := false) (z := Value.int .i64 0) (stepG_comm (cases := #[rcase cp (Value.int .i64 0)]) (blocking := false) (shape := .select) (w' := w) rfl rfl (by decide) (by simp [go_sem, execOp, rcase, Act.eval])) hc2 (by simp)) ?_
  rw [Frame.finish_at]
  walk_nrm
  refine LoneTo.goes (n := 60) ?_
  repeat (first | s_c stepG_seq | s_c stepG_skip | s_c stepG_block | s_reg | s_op | s_c stepG_region_end | s_cond true | s_cond false | s_c stepG_inBlock)
  s_c stepG_ret'
  s_stop
  exact LoneTo.done ⟨.returned (.tuple #[Value.int .i64 x, .bool false, .bool true]), _, rfl, ⟨rfl, s2, r2 + 1, by simp⟩, rfl, rfl, rfl, rfl, _, Try.func9, by simp [results, Try.f9, Frame.at]⟩
set_option maxRecDepth 100000 in
theorem take_none_int (B cu cp cap : Nat) (w : World) (hb0 : w.cell? ⟨B, 0, none⟩ = some (.chan (some cu))) (hb1 : w.cell? ⟨B, 1, none⟩ = some (.chan (some cp))) (hu : ChB cu cap [] w) (hp : ChB cp cap [] w) :
    Calls Try.prog 9 #[.pointer (some ⟨B, 0, none⟩)] w fun e w' => e = .returned (.tuple #[Value.int .i64 0, .bool false, .bool false]) ∧ w' = w := by
  refine calls_of_loneTo fun cs => ?_
  have e : Frame.enter Try.prog 9 #[.pointer (some ⟨B, 0, none⟩)] .normal = (base 9).at ⟨#[.pointer (some ⟨B, 0, none⟩), undef, undef, undef, undef, undef, undef, undef, undef, undef, undef, undef, undef, undef, undef, undef, undef, undef, undef, undef, undef, undef, undef, undef, undef, undef, undef, undef, undef, undef], []⟩ [.code (Try.f9.body.getD .skip)] := by
    simp [Frame.enter, Frame.at, Try.func9, base, Try.f9]
  rw [e]
  obtain ⟨s, r, hc⟩ := hu
  obtain ⟨s2, r2, hc2⟩ := hp
  refine LoneTo.goes (n := 60) ?_
  simp only [Try.f9, Option.getD_some]
  repeat (first | s_c stepG_seq | s_c stepG_skip | s_c stepG_block | s_reg | s_op | s_c stepG_region_end | s_cond true | s_cond false | s_c stepG_inBlock)
  s_stop
  refine LoneTo.step (step_lone_select_default (c := cu) (cap := cap) (s := s) (r := r) (tm := false) (z := Value.int .i64 0) (stepG_comm (cases := #[rcase cu (Value.int .i64 0)]) (blocking := false) (shape := .select) (w' := w) rfl rfl (by decide) (by simp [go_sem, execOp, rcase, Act.eval])) hc) ?_
  rw [Frame.finish_at]
  walk_nrm
  refine LoneTo.goes (n := 60) ?_
  repeat (first | s_c stepG_seq | s_c stepG_skip | s_c stepG_block | s_reg | s_op | s_c stepG_region_end | s_cond true | s_cond false | s_c stepG_inBlock)
  s_stop
  refine LoneTo.step (step_lone_select_default (c := cp) (cap := cap) (s := s2) (r := r2) (tm := false) (z := Value.int .i64 0) (stepG_comm (cases := #[rcase cp (Value.int .i64 0)]) (blocking := false) (shape := .select) (w' := w) rfl rfl (by decide) (by simp [go_sem, execOp, rcase, Act.eval])) hc2) ?_
  rw [Frame.finish_at]
  walk_nrm
  refine LoneTo.goes (n := 60) ?_
  repeat (first | s_c stepG_seq | s_c stepG_skip | s_c stepG_block | s_reg | s_op | s_c stepG_region_end | s_cond true | s_cond false | s_c stepG_inBlock)
  s_c stepG_ret'
  s_stop
  exact LoneTo.done ⟨.returned (.tuple #[Value.int .i64 0, .bool false, .bool false]), _, rfl, ⟨rfl, rfl⟩, rfl, rfl, rfl, rfl, _, Try.func9, by simp [results, Try.f9, Frame.at]⟩
set_option maxRecDepth 100000 in
theorem put_room_string (c cap : Nat) (buf : List Value) (x : ByteArray) (w : World) (h : ChB c cap buf w) (hr : buf.length < cap) :
    Calls Try.prog 17 #[.chan (some c), Value.string x] w fun e w' => e = .returned (.bool true) ∧ ∃ s r, w' = w.setChan c cap (buf ++ [Value.string x]).toArray false s r false := by
  refine calls_of_loneTo fun cs => ?_
  have e : Frame.enter Try.prog 17 #[.chan (some c), Value.string x] .normal = (base 17).at ⟨#[.chan (some c), Value.string x, undef, undef, undef, undef, undef, undef, undef, undef], []⟩ [.code (Try.f17.body.getD .skip)] := by
    simp [Frame.enter, Frame.at, Try.func17, base, Try.f17]
  rw [e]
  obtain ⟨s, r, hc⟩ := h
  refine LoneTo.goes (n := 40) ?_
  simp only [Try.f17, Option.getD_some]
  repeat (first | s_c stepG_seq | s_c stepG_skip | s_c stepG_block | s_reg | s_op | s_c stepG_region_end | s_cond true | s_cond false | s_c stepG_inBlock)
  s_stop
  refine LoneTo.step (step_lone_select_send_room (c := c) (cap := cap) (buf := buf.toArray) (s := s) (r := r) (tm := false) (stepG_comm (cases := #[scase c (Value.string x) (Value.string ⟨#[]⟩)]) (blocking := false) (shape := .select) (w' := w) rfl rfl (by decide) (by simp [go_sem, execOp, scase, Act.eval])) hc (by simpa using hr)) ?_
  rw [Frame.finish_at]
  walk_nrm
  refine LoneTo.goes (n := 40) ?_
  repeat (first | s_c stepG_seq | s_c stepG_skip | s_c stepG_block | s_reg | s_op | s_c stepG_region_end | s_cond true | s_cond false | s_c stepG_inBlock)
  s_c stepG_ret'
  s_stop
  exact LoneTo.done ⟨.returned (.bool true), _, rfl, ⟨rfl, s + 1, r, by simp⟩, rfl, rfl, rfl, rfl, _, Try.func17, by simp [results, Try.f17, Frame.at]⟩
set_option maxRecDepth 100000 in
theorem put_full_string (c cap : Nat) (buf : List Value) (x : ByteArray) (w : World) (h : ChB c cap buf w) (hr : cap ≤ buf.length) :
    Calls Try.prog 17 #[.chan (some c), Value.string x] w fun e w' => e = .returned (.bool false) ∧ w' = w := by
  refine calls_of_loneTo fun cs => ?_
  have e : Frame.enter Try.prog 17 #[.chan (some c), Value.string x] .normal = (base 17).at ⟨#[.chan (some c), Value.string x, undef, undef, undef, undef, undef, undef, undef, undef], []⟩ [.code (Try.f17.body.getD .skip)] := by
    simp [Frame.enter, Frame.at, Try.func17, base, Try.f17]
  rw [e]
  obtain ⟨s, r, hc⟩ := h
  refine LoneTo.goes (n := 40) ?_
  simp only [Try.f17, Option.getD_some]
  repeat (first | s_c stepG_seq | s_c stepG_skip | s_c stepG_block | s_reg | s_op | s_c stepG_region_end | s_cond true | s_cond false | s_c stepG_inBlock)
  s_stop
  refine LoneTo.step (step_lone_select_send_full (c := c) (cap := cap) (buf := buf.toArray) (s := s) (r := r) (tm := false) (stepG_comm (cases := #[scase c (Value.string x) (Value.string ⟨#[]⟩)]) (blocking := false) (shape := .select) (w' := w) rfl rfl (by decide) (by simp [go_sem, execOp, scase, Act.eval])) hc (by simpa using hr)) ?_
  rw [Frame.finish_at]
  walk_nrm
  refine LoneTo.goes (n := 40) ?_
  repeat (first | s_c stepG_seq | s_c stepG_skip | s_c stepG_block | s_reg | s_op | s_c stepG_region_end | s_cond true | s_cond false | s_c stepG_inBlock)
  s_c stepG_ret'
  s_stop
  exact LoneTo.done ⟨.returned (.bool false), _, rfl, ⟨rfl, rfl⟩, rfl, rfl, rfl, rfl, _, Try.func17, by simp [results, Try.f17, Frame.at]⟩
set_option maxRecDepth 100000 in
theorem take_urgent_string (B cu cp cap : Nat) (x : ByteArray) (us ps : List Value) (w : World) (hb0 : w.cell? ⟨B, 0, none⟩ = some (.chan (some cu))) (hb1 : w.cell? ⟨B, 1, none⟩ = some (.chan (some cp))) (hu : ChB cu cap (Value.string x :: us) w) (hp : ChB cp cap ps w) :
    Calls Try.prog 14 #[.pointer (some ⟨B, 0, none⟩)] w fun e w' => e = .returned (.tuple #[Value.string x, .bool true, .bool true]) ∧ ∃ s r, w' = w.setChan cu cap us.toArray false s r false := by
  refine calls_of_loneTo fun cs => ?_
  have e : Frame.enter Try.prog 14 #[.pointer (some ⟨B, 0, none⟩)] .normal = (base 14).at ⟨#[.pointer (some ⟨B, 0, none⟩), undef, undef, undef, undef, undef, undef, undef, undef, undef, undef, undef, undef, undef, undef, undef, undef, undef, undef, undef, undef, undef, undef, undef, undef, undef, undef, undef, undef, undef], []⟩ [.code (Try.f14.body.getD .skip)] := by
    simp [Frame.enter, Frame.at, Try.func14, base, Try.f14]
  rw [e]
  obtain ⟨s, r, hc⟩ := hu
  obtain ⟨s2, r2, hc2⟩ := hp
  refine LoneTo.goes (n := 60) ?_
  simp only [Try.f14, Option.getD_some]
  repeat (first | s_c stepG_seq | s_c stepG_skip | s_c stepG_block | s_reg | s_op | s_c stepG_region_end | s_cond true | s_cond false | s_c stepG_inBlock)
  s_stop
  refine LoneTo.step (step_lone_select_recv_buf (c := cu) (cap := cap) (buf := (Value.string x :: us).toArray) (closed := false) (s := s) (r := r) (tm := false) (z := Value.string ⟨#[]⟩) (stepG_comm (cases := #[rcase cu (Value.string ⟨#[]⟩)]) (blocking := false) (shape := .select) (w' := w) rfl rfl (by decide) (by simp [go_sem, execOp, rcase, Act.eval])) hc (by simp)) ?_
  rw [Frame.finish_at]
  walk_nrm
  refine LoneTo.goes (n := 60) ?_
  repeat (first | s_c stepG_seq | s_c stepG_skip | s_c stepG_block | s_reg | s_op | s_c stepG_region_end | s_cond true | s_cond false | s_c stepG_inBlock)
  s_c stepG_ret'
  s_stop
  exact LoneTo.done ⟨.returned (.tuple #[Value.string x, .bool true, .bool true]), _, rfl, ⟨rfl, s, r + 1, by simp⟩, rfl, rfl, rfl, rfl, _, Try.func14, by simp [results, Try.f14, Frame.at]⟩
set_option maxRecDepth 100000 in
theorem take_plain_string (B cu cp cap : Nat) (x : ByteArray) (ps : List Value) (w : World) (hb0 : w.cell? ⟨B, 0, none⟩ = some (.chan (some cu))) (hb1 : w.cell? ⟨B, 1, none⟩ = some (.chan (some cp))) (hu : ChB cu cap [] w) (hp : ChB cp cap (Value.string x :: ps) w) :
    Calls Try.prog 14 #[.pointer (some ⟨B, 0, none⟩)] w fun e w' => e = .returned (.tuple #[Value.string x, .bool false, .bool true]) ∧ ∃ s r, w' = w.setChan cp cap ps.toArray false s r false := by
  refine calls_of_loneTo fun cs => ?_
  have e : Frame.enter Try.prog 14 #[.pointer (some ⟨B, 0, none⟩)] .normal = (base 14).at ⟨#[.pointer (some ⟨B, 0, none⟩), undef, undef, undef, undef, undef, undef, undef, undef, undef, undef, undef, undef, undef, undef, undef, undef, undef, undef, undef, undef, undef, undef, undef, undef, undef, undef, undef, undef, undef], []⟩ [.code (Try.f14.body.getD .skip)] := by
    simp [Frame.enter, Frame.at, Try.func14, base, Try.f14]
  rw [e]
  obtain ⟨s, r, hc⟩ := hu
  obtain ⟨s2, r2, hc2⟩ := hp
  refine LoneTo.goes (n := 60) ?_
  simp only [Try.f14, Option.getD_some]
  repeat (first | s_c stepG_seq | s_c stepG_skip | s_c stepG_block | s_reg | s_op | s_c stepG_region_end | s_cond true | s_cond false | s_c stepG_inBlock)
  s_stop
  refine LoneTo.step (step_lone_select_default (c := cu) (cap := cap) (s := s) (r := r) (tm := false) (z := Value.string ⟨#[]⟩) (stepG_comm (cases := #[rcase cu (Value.string ⟨#[]⟩)]) (blocking := false) (shape := .select) (w' := w) rfl rfl (by decide) (by simp [go_sem, execOp, rcase, Act.eval])) hc) ?_
  rw [Frame.finish_at]
  walk_nrm
  refine LoneTo.goes (n := 60) ?_
  repeat (first | s_c stepG_seq | s_c stepG_skip | s_c stepG_block | s_reg | s_op | s_c stepG_region_end | s_cond true | s_cond false | s_c stepG_inBlock)
  s_stop
  refine LoneTo.step (step_lone_select_recv_buf (c := cp) (cap := cap) (buf := (Value.string x :: ps).toArray) (closed := false) (s := s2) (r := r2) (tm := false) (z := Value.string ⟨#[]⟩) (stepG_comm (cases := #[rcase cp (Value.string ⟨#[]⟩)]) (blocking := false) (shape := .select) (w' := w) rfl rfl (by decide) (by simp [go_sem, execOp, rcase, Act.eval])) hc2 (by simp)) ?_
  rw [Frame.finish_at]
  walk_nrm
  refine LoneTo.goes (n := 60) ?_
  repeat (first | s_c stepG_seq | s_c stepG_skip | s_c stepG_block | s_reg | s_op | s_c stepG_region_end | s_cond true | s_cond false | s_c stepG_inBlock)
  s_c stepG_ret'
  s_stop
  exact LoneTo.done ⟨.returned (.tuple #[Value.string x, .bool false, .bool true]), _, rfl, ⟨rfl, s2, r2 + 1, by simp⟩, rfl, rfl, rfl, rfl, _, Try.func14, by simp [results, Try.f14, Frame.at]⟩
set_option maxRecDepth 100000 in
theorem take_none_string (B cu cp cap : Nat) (w : World) (hb0 : w.cell? ⟨B, 0, none⟩ = some (.chan (some cu))) (hb1 : w.cell? ⟨B, 1, none⟩ = some (.chan (some cp))) (hu : ChB cu cap [] w) (hp : ChB cp cap [] w) :
    Calls Try.prog 14 #[.pointer (some ⟨B, 0, none⟩)] w fun e w' => e = .returned (.tuple #[Value.string ⟨#[]⟩, .bool false, .bool false]) ∧ w' = w := by
  refine calls_of_loneTo fun cs => ?_
  have e : Frame.enter Try.prog 14 #[.pointer (some ⟨B, 0, none⟩)] .normal = (base 14).at ⟨#[.pointer (some ⟨B, 0, none⟩), undef, undef, undef, undef, undef, undef, undef, undef, undef, undef, undef, undef, undef, undef, undef, undef, undef, undef, undef, undef, undef, undef, undef, undef, undef, undef, undef, undef, undef], []⟩ [.code (Try.f14.body.getD .skip)] := by
    simp [Frame.enter, Frame.at, Try.func14, base, Try.f14]
  rw [e]
  obtain ⟨s, r, hc⟩ := hu
  obtain ⟨s2, r2, hc2⟩ := hp
  refine LoneTo.goes (n := 60) ?_
  simp only [Try.f14, Option.getD_some]
  repeat (first | s_c stepG_seq | s_c stepG_skip | s_c stepG_block | s_reg | s_op | s_c stepG_region_end | s_cond true | s_cond false | s_c stepG_inBlock)
  s_stop
  refine LoneTo.step (step_lone_select_default (c := cu) (cap := cap) (s := s) (r := r) (tm := false) (z := Value.string ⟨#[]⟩) (stepG_comm (cases := #[rcase cu (Value.string ⟨#[]⟩)]) (blocking := false) (shape := .select) (w' := w) rfl rfl (by decide) (by simp [go_sem, execOp, rcase, Act.eval])) hc) ?_
  rw [Frame.finish_at]
  walk_nrm
  refine LoneTo.goes (n := 60) ?_
  repeat (first | s_c stepG_seq | s_c stepG_skip | s_c stepG_block | s_reg | s_op | s_c stepG_region_end | s_cond true | s_cond false | s_c stepG_inBlock)
  s_stop
  refine LoneTo.step (step_lone_select_default (c := cp) (cap := cap) (s := s2) (r := r2) (tm := false) (z := Value.string ⟨#[]⟩) (stepG_comm (cases := #[rcase cp (Value.string ⟨#[]⟩)]) (blocking := false) (shape := .select) (w' := w) rfl rfl (by decide) (by simp [go_sem, execOp, rcase, Act.eval])) hc2) ?_
  rw [Frame.finish_at]
  walk_nrm
  refine LoneTo.goes (n := 60) ?_
  repeat (first | s_c stepG_seq | s_c stepG_skip | s_c stepG_block | s_reg | s_op | s_c stepG_region_end | s_cond true | s_cond false | s_c stepG_inBlock)
  s_c stepG_ret'
  s_stop
  exact LoneTo.done ⟨.returned (.tuple #[Value.string ⟨#[]⟩, .bool false, .bool false]), _, rfl, ⟨rfl, rfl⟩, rfl, rfl, rfl, rfl, _, Try.func14, by simp [results, Try.f14, Frame.at]⟩
end Go.Proofs.Ytaaicaddoboepaa.Mail
