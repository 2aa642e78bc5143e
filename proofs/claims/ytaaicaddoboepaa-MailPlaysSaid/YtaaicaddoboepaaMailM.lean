/- Chapter 23: a box of mail: New, Put, Len. -/
import Derived.Test.YtaaicaddoboepaaMail
import Derived.Test.YtaaicaddoboepaaWMore
import Derived.Conc.LoneSelectN
import Derived.Laws.Entries
import Derived.WalkKit
import Derived.RegionTactic
import Derived.Deep.QuietTactic
import Derived.BigQuiet
import Derived.IntWalk
namespace Go.Proofs.Ytaaicaddoboepaa.Mail
open Go.Conc Go.RowKit Go.Proofs.YtaaicaddoboepaaW.PrintWords Go.Proofs.YtaaicaddoboepaaW.PrintLast Go.Proofs.YtaaicaddoboepaaW.PrintMore
set_option linter.unusedVariables false
set_option linter.unusedSimpArgs false
/-- Block B is mail over two channels. -/
def MailAt (T : TypeId) (base B cu cp cap : Nat) (us ps : List Value) (w : World) : Prop :=
  w.heap[B]? = some (.cells #[.chan (some cu), .chan (some cp)] T (0, 0)) ∧ ChB cu cap us w ∧ ChB cp cap ps w ∧ cu ≠ cp ∧ base ≤ B ∧ base ≤ cu ∧ base ≤ cp
theorem MailAt.ne {T : TypeId} {base B cu cp cap : Nat} {us ps : List Value} {w : World} (h : MailAt T base B cu cp cap us ps w) : cu ≠ B ∧ cp ≠ B := by
  obtain ⟨h1, ⟨s, r, h2⟩, ⟨s2, r2, h3⟩, _⟩ := h
  constructor
  · rintro rfl
    rw [h1] at h2
    cases h2
  · rintro rfl
    rw [h1] at h3
    cases h3
theorem MailAt.cells {T : TypeId} {base B cu cp cap : Nat} {us ps : List Value} {w : World} (h : MailAt T base B cu cp cap us ps w) :
    w.cell? ⟨B, 0, none⟩ = some (.chan (some cu)) ∧ w.cell? ⟨B, 1, none⟩ = some (.chan (some cp)) := by
  unfold World.cell?
  rw [h.1]
  exact ⟨rfl, rfl⟩
/-- Nothing but channel c is another one: it holds these now. -/
def Now (c cap : Nat) (buf : List Value) (w w' : World) : Prop := ∃ s r, w' = w.setChan c cap buf.toArray false s r false
theorem MailAt.urgent {T : TypeId} {base B cu cp cap : Nat} {us us2 ps : List Value} {w w' : World} (h : MailAt T base B cu cp cap us ps w) (hn : Now cu cap us2 w w') : MailAt T base B cu cp cap us2 ps w' ∧ Below base w w' := by
  have hne := h.ne
  obtain ⟨h1, h2, h3, h4, h5, h6, h7⟩ := h
  obtain ⟨s, r, rfl⟩ := hn
  exact ⟨⟨(setChan_other w cu B cap _ false s r false hne.1).trans h1, h2.set s r, h3.other h4 _ s r, h4, h5, h6, h7⟩, below_setChan (Below.refl _ _) h6 _ _ _ _ _ _⟩
theorem MailAt.plain {T : TypeId} {base B cu cp cap : Nat} {us ps ps2 : List Value} {w w' : World} (h : MailAt T base B cu cp cap us ps w) (hn : Now cp cap ps2 w w') : MailAt T base B cu cp cap us ps2 w' ∧ Below base w w' := by
  have hne := h.ne
  obtain ⟨h1, h2, h3, h4, h5, h6, h7⟩ := h
  obtain ⟨s, r, rfl⟩ := hn
  exact ⟨⟨(setChan_other w cp B cap _ false s r false hne.2).trans h1, h2.other (Ne.symm h4) _ s r, h3.set s r, h4, h5, h6, h7⟩, below_setChan (Below.refl _ _) h7 _ _ _ _ _ _⟩
/-- Memory of the call's own may grow behind the mail. -/
theorem MailAt.kept {T : TypeId} {base B cu cp cap : Nat} {us ps : List Value} {w w' : World} (h : MailAt T base B cu cp cap us ps w) (hb : Below w.heap.size w w') : MailAt T base B cu cp cap us ps w' := by
  obtain ⟨h1, ⟨s, r, h2⟩, ⟨s2, r2, h3⟩, h4⟩ := h
  have l1 := (Array.getElem?_eq_some_iff.1 h1).1
  have l2 := (Array.getElem?_eq_some_iff.1 h2).1
  have l3 := (Array.getElem?_eq_some_iff.1 h3).1
  exact ⟨(hb.block B l1).trans h1, ⟨s, r, (hb.block cu l2).trans h2⟩, ⟨s2, r2, (hb.block cp l3).trans h3⟩, h4⟩
/-- What Put answers, and what it leaves. -/
def PutPost (cu cp cap : Nat) (us ps : List Value) (v : Value) (urgent : Bool) (w : World) (e : Ending) (w' : World) : Prop :=
  if urgent then (if us.length < cap then e = .returned (.bool true) ∧ Now cu cap (us ++ [v]) w w' else e = .returned (.bool false) ∧ w' = w)
  else (if ps.length < cap then e = .returned (.bool true) ∧ Now cp cap (ps ++ [v]) w w' else e = .returned (.bool false) ∧ w' = w)
/-- What New answers. -/
def NewPost (T : TypeId) (n : Nat) (w : World) (e : Ending) (w' : World) : Prop :=
  ∃ B cu cp, e = .returned (.tuple #[.pointer (some ⟨B, 0, none⟩), .int .i64 0]) ∧ MailAt T w.heap.size B cu cp n [] [] w' ∧ Below w.heap.size w w'
theorem new_made (T : TypeId) (n : Nat) (w : World) (cu cp : Nat) (h : (cu = w.heap.size ∧ cp = w.heap.size + 1) ∨ (cu = w.heap.size + 1 ∧ cp = w.heap.size)) :
    MailAt T w.heap.size (w.heap.size + 1 + 1) cu cp n [] [] ((((w.alloc (.chan n #[] false 0 0 false)).alloc (.chan n #[] false 0 0 false)).alloc (.cells #[.chan (some cu), .chan (some cp)] T)).drew) ∧
    Below w.heap.size w ((((w.alloc (.chan n #[] false 0 0 false)).alloc (.chan n #[] false 0 0 false)).alloc (.cells #[.chan (some cu), .chan (some cp)] T)).drew) := by
  have e0 : ((((w.alloc (.chan n #[] false 0 0 false)).alloc (.chan n #[] false 0 0 false)).alloc (.cells #[.chan (some cu), .chan (some cp)] T)).drew).heap = ((w.heap.push (.chan n #[] false 0 0 false)).push (.chan n #[] false 0 0 false)).push (.cells #[.chan (some cu), .chan (some cp)] T (0, 0)) := rfl
  refine ⟨⟨?_, ⟨0, 0, ?_⟩, ⟨0, 0, ?_⟩, ?_, ?_, ?_, ?_⟩, ?_⟩
  · rw [e0]
    simp only [Array.getElem?_push, Array.size_push]
    (repeat' split) <;> first | rfl | (exfalso; omega) | (simp; done) | (exfalso; rcases h with ⟨h1, h2⟩ | ⟨h1, h2⟩ <;> simp_all <;> omega)
  · rw [e0]
    simp only [Array.getElem?_push, Array.size_push]
    (repeat' split) <;> first | rfl | (exfalso; omega) | (simp; done) | (exfalso; rcases h with ⟨h1, h2⟩ | ⟨h1, h2⟩ <;> simp_all <;> omega)
  · rw [e0]
    simp only [Array.getElem?_push, Array.size_push]
    (repeat' split) <;> first | rfl | (exfalso; omega) | (simp; done) | (exfalso; rcases h with ⟨h1, h2⟩ | ⟨h1, h2⟩ <;> simp_all <;> omega)
  · omega
  · omega
  · omega
  · omega
  · exact (((((Below.refl _ _).alloc (Nat.le_refl _) _).alloc (by simp) _).alloc (by simp; omega) _)).drew
theorem put_int (base B cu cp cap : Nat) (us ps : List Value) (x : Int) (urgent : Bool) (w : World) (h : MailAt 49 base B cu cp cap us ps w) :
    Calls Try.prog 11 #[.pointer (some ⟨B, 0, none⟩), Value.int .i64 x, .bool urgent] w (PutPost cu cp cap us ps (Value.int .i64 x) urgent w) := by
  have hc := h.cells
  have hc0 := hc.1
  have hc1 := hc.2
  have HM := Aside0.mk h
  clear hc h
  obtain ⟨Q, hQ⟩ : ∃ Q, PutPost cu cp cap us ps (Value.int .i64 x) urgent w = Q := ⟨_, rfl⟩
  cases urgent
  · by_cases hr : ps.length < cap
    · have hq : ∀ w', Now cp cap (ps ++ [Value.int .i64 x]) w w' → Q (.returned (.bool true)) w' := by
        intro w' h
        rw [← hQ]
        simp only [PutPost, Bool.false_eq_true, if_false, if_pos hr]
        exact ⟨trivial, h⟩
      have HQ := Aside0.mk hq
      have HC := Aside0.mk (put_room_int cp cap ps x w HM.out.2.2.1 hr)
      rw [hQ]
      clear hq hQ hr
      go_enter Try.func11, Try.ntmps11
      go_wp2_with (go_at_call 16; refine HC.out.mono ?_; rintro e w1 ⟨rfl, h1⟩)
      try go_ret
      exact HQ.out _ h1
    · have hq : Q (.returned (.bool false)) w := by
        rw [← hQ]
        simp only [PutPost, Bool.false_eq_true, if_false, if_neg hr]
        exact ⟨trivial, trivial⟩
      have HQ := Aside0.mk hq
      have HC := Aside0.mk (put_full_int cp cap ps x w HM.out.2.2.1 (Nat.le_of_not_lt hr))
      rw [hQ]
      clear hq hQ hr
      go_enter Try.func11, Try.ntmps11
      go_wp2_with (go_at_call 16; refine HC.out.mono ?_; rintro e w1 ⟨rfl, rfl⟩)
      try go_ret
      exact HQ.out
  · by_cases hr : us.length < cap
    · have hq : ∀ w', Now cu cap (us ++ [Value.int .i64 x]) w w' → Q (.returned (.bool true)) w' := by
        intro w' h
        rw [← hQ]
        simp only [PutPost, if_true, if_pos hr]
        exact ⟨trivial, h⟩
      have HQ := Aside0.mk hq
      have HC := Aside0.mk (put_room_int cu cap us x w HM.out.2.1 hr)
      rw [hQ]
      clear hq hQ hr
      go_enter Try.func11, Try.ntmps11
      go_wp2_with (go_at_call 16; refine HC.out.mono ?_; rintro e w1 ⟨rfl, h1⟩)
      try go_ret
      exact HQ.out _ h1
    · have hq : Q (.returned (.bool false)) w := by
        rw [← hQ]
        simp only [PutPost, if_true, if_neg hr]
        exact ⟨trivial, trivial⟩
      have HQ := Aside0.mk hq
      have HC := Aside0.mk (put_full_int cu cap us x w HM.out.2.1 (Nat.le_of_not_lt hr))
      rw [hQ]
      clear hq hQ hr
      go_enter Try.func11, Try.ntmps11
      go_wp2_with (go_at_call 16; refine HC.out.mono ?_; rintro e w1 ⟨rfl, rfl⟩)
      try go_ret
      exact HQ.out
theorem len_int (base B cu cp cap : Nat) (us ps : List Value) (w : World) (h : MailAt 49 base B cu cp cap us ps w) (h1 : us.length ≤ 1000) (h2 : ps.length ≤ 1000) :
    Calls Try.prog 10 #[.pointer (some ⟨B, 0, none⟩)] w fun e w' => e = .returned (.int .i64 ((us.length + ps.length : Nat) : Int)) ∧ ∃ n, w' = w.drewN n := by
  have hc := h.cells
  have hc0 := hc.1
  have hc1 := hc.2
  obtain ⟨s, r, hu⟩ := h.2.1
  obtain ⟨s2, r2, hp⟩ := h.2.2.1
  have hl1 : ∀ n ty, (Builtin.len_ #[47] ty #[.chan (some cu)]).run Try.prog (w.drewN n) = .ok (goInt (us.length : Int)) (w.drewN n) := fun n ty => run_len_chan (P := Try.prog) 47 ty Try.underlying47 (buf := us.toArray) hu
  have hl2 : ∀ n ty, (Builtin.len_ #[47] ty #[.chan (some cp)]).run Try.prog (w.drewN n) = .ok (goInt (ps.length : Int)) (w.drewN n) := fun n ty => run_len_chan (P := Try.prog) 47 ty Try.underlying47 (buf := ps.toArray) hp
  clear hc h hu hp
  go_enter Try.func10, Try.ntmps10
  go_wp2
  go_quiet (fail)
  go_wp2
  go_ret
  exact ⟨congrArg (fun z => Ending.returned (Value.int .i64 z)) (by simp), nq, rfl⟩
theorem mk_int (n : Nat) (hn : n ≤ 64) (w : World) : (Instr.makeChan 47 (.int .i64 (n : Int))).run Try.prog w = .ok (.chan (some w.heap.size)) (w.alloc (.chan n #[] false 0 0 false)) := by
  have h : (Try.prog.info? 3).map (·.bytes) = some 8 := by kernel_rfl
  obtain ⟨i, hi, hb⟩ := Option.map_eq_some_iff.1 h
  simpa using run_makeChan (P := Try.prog) (w := w) Try.underlying47 hi .i64 n (by omega) (by rw [hb]; omega)
theorem new_int (n : Nat) (h0 : 1 ≤ n) (hn : n ≤ 64) (w : World) : Calls Try.prog 8 #[.int .i64 (n : Int)] w (NewPost 49 n w) := by
  have hmk := fun w => mk_int n hn w
  have h1 : ((n : Int) < 1) = False := by simp; omega
  obtain ⟨Q, hQ⟩ : ∃ Q, NewPost 49 n w = Q := ⟨_, rfl⟩
  have HQ := Aside0.mk hQ
  rw [hQ]
  clear hQ
  go_enter Try.func8, Try.ntmps8
  go_wp2
  go_region
  all_goals go_wp2
  all_goals try go_ret2
  all_goals rw [← HQ.out]
  · exact ⟨_, _, _, rfl, new_made 49 n w _ _ (Or.inl ⟨rfl, rfl⟩)⟩
  · exact ⟨_, _, _, rfl, new_made 49 n w _ _ (Or.inr ⟨rfl, rfl⟩)⟩
theorem new_none_int (n : Int) (h : n < 1 ∨ 64 < n) (w : World) : Calls Try.prog 8 #[.int .i64 n] w fun e w' => e = .returned (.tuple #[.pointer none, .int .i64 1]) ∧ w = w' := by
  by_cases h1 : n < 1
  · have hd : decide (n < 1) = true := decide_eq_true h1
    clear h
    go_enter Try.func8, Try.ntmps8
    go_wp2
    go_ret2
    exact ⟨rfl, rfl⟩
  · have hd : decide (n < 1) = false := decide_eq_false h1
    have hd2 : decide (64 < n) = true := decide_eq_true (by omega)
    clear h
    go_enter Try.func8, Try.ntmps8
    go_wp2
    go_ret2
    exact ⟨rfl, rfl⟩
theorem put_nil_int (x : Int) (urgent : Bool) (w : World) : Calls Try.prog 11 #[.pointer none, Value.int .i64 x, .bool urgent] w fun e w' => e = .returned (.bool false) ∧ w = w' := by
  go_enter Try.func11, Try.ntmps11
  go_wp2
  go_ret
  exact ⟨rfl, rfl⟩
theorem take_nil_int (w : World) : Calls Try.prog 9 #[.pointer none] w fun e w' => e = .returned (.tuple #[.int .i64 0, .bool false, .bool false]) ∧ w = w' := by
  go_enter Try.func9, Try.ntmps9
  go_wp2
  go_ret3
  exact ⟨rfl, rfl⟩
theorem len_nil_int (w : World) : Calls Try.prog 10 #[.pointer none] w fun e w' => e = .returned (.int .i64 0) ∧ w = w' := by
  go_enter Try.func10, Try.ntmps10
  go_wp2
  go_ret
  exact ⟨rfl, rfl⟩
theorem put_string (base B cu cp cap : Nat) (us ps : List Value) (x : ByteArray) (urgent : Bool) (w : World) (h : MailAt 53 base B cu cp cap us ps w) :
    Calls Try.prog 13 #[.pointer (some ⟨B, 0, none⟩), Value.string x, .bool urgent] w (PutPost cu cp cap us ps (Value.string x) urgent w) := by
  have hc := h.cells
  have hc0 := hc.1
  have hc1 := hc.2
  have HM := Aside0.mk h
  clear hc h
  obtain ⟨Q, hQ⟩ : ∃ Q, PutPost cu cp cap us ps (Value.string x) urgent w = Q := ⟨_, rfl⟩
  cases urgent
  · by_cases hr : ps.length < cap
    · have hq : ∀ w', Now cp cap (ps ++ [Value.string x]) w w' → Q (.returned (.bool true)) w' := by
        intro w' h
        rw [← hQ]
        simp only [PutPost, Bool.false_eq_true, if_false, if_pos hr]
        exact ⟨trivial, h⟩
      have HQ := Aside0.mk hq
      have HC := Aside0.mk (put_room_string cp cap ps x w HM.out.2.2.1 hr)
      rw [hQ]
      clear hq hQ hr
      go_enter Try.func13, Try.ntmps13
      go_wp2_with (go_at_call 17; refine HC.out.mono ?_; rintro e w1 ⟨rfl, h1⟩)
      try go_ret
      exact HQ.out _ h1
    · have hq : Q (.returned (.bool false)) w := by
        rw [← hQ]
        simp only [PutPost, Bool.false_eq_true, if_false, if_neg hr]
        exact ⟨trivial, trivial⟩
      have HQ := Aside0.mk hq
      have HC := Aside0.mk (put_full_string cp cap ps x w HM.out.2.2.1 (Nat.le_of_not_lt hr))
      rw [hQ]
      clear hq hQ hr
      go_enter Try.func13, Try.ntmps13
      go_wp2_with (go_at_call 17; refine HC.out.mono ?_; rintro e w1 ⟨rfl, rfl⟩)
      try go_ret
      exact HQ.out
  · by_cases hr : us.length < cap
    · have hq : ∀ w', Now cu cap (us ++ [Value.string x]) w w' → Q (.returned (.bool true)) w' := by
        intro w' h
        rw [← hQ]
        simp only [PutPost, if_true, if_pos hr]
        exact ⟨trivial, h⟩
      have HQ := Aside0.mk hq
      have HC := Aside0.mk (put_room_string cu cap us x w HM.out.2.1 hr)
      rw [hQ]
      clear hq hQ hr
      go_enter Try.func13, Try.ntmps13
      go_wp2_with (go_at_call 17; refine HC.out.mono ?_; rintro e w1 ⟨rfl, h1⟩)
      try go_ret
      exact HQ.out _ h1
    · have hq : Q (.returned (.bool false)) w := by
        rw [← hQ]
        simp only [PutPost, if_true, if_neg hr]
        exact ⟨trivial, trivial⟩
      have HQ := Aside0.mk hq
      have HC := Aside0.mk (put_full_string cu cap us x w HM.out.2.1 (Nat.le_of_not_lt hr))
      rw [hQ]
      clear hq hQ hr
      go_enter Try.func13, Try.ntmps13
      go_wp2_with (go_at_call 17; refine HC.out.mono ?_; rintro e w1 ⟨rfl, rfl⟩)
      try go_ret
      exact HQ.out
theorem len_string (base B cu cp cap : Nat) (us ps : List Value) (w : World) (h : MailAt 53 base B cu cp cap us ps w) (h1 : us.length ≤ 1000) (h2 : ps.length ≤ 1000) :
    Calls Try.prog 15 #[.pointer (some ⟨B, 0, none⟩)] w fun e w' => e = .returned (.int .i64 ((us.length + ps.length : Nat) : Int)) ∧ ∃ n, w' = w.drewN n := by
  have hc := h.cells
  have hc0 := hc.1
  have hc1 := hc.2
  obtain ⟨s, r, hu⟩ := h.2.1
  obtain ⟨s2, r2, hp⟩ := h.2.2.1
  have hl1 : ∀ n ty, (Builtin.len_ #[51] ty #[.chan (some cu)]).run Try.prog (w.drewN n) = .ok (goInt (us.length : Int)) (w.drewN n) := fun n ty => run_len_chan (P := Try.prog) 51 ty Try.underlying51 (buf := us.toArray) hu
  have hl2 : ∀ n ty, (Builtin.len_ #[51] ty #[.chan (some cp)]).run Try.prog (w.drewN n) = .ok (goInt (ps.length : Int)) (w.drewN n) := fun n ty => run_len_chan (P := Try.prog) 51 ty Try.underlying51 (buf := ps.toArray) hp
  clear hc h hu hp
  go_enter Try.func15, Try.ntmps15
  go_wp2
  go_quiet (fail)
  go_wp2
  go_ret
  exact ⟨congrArg (fun z => Ending.returned (Value.int .i64 z)) (by simp), nq, rfl⟩
theorem mk_string (n : Nat) (hn : n ≤ 64) (w : World) : (Instr.makeChan 51 (.int .i64 (n : Int))).run Try.prog w = .ok (.chan (some w.heap.size)) (w.alloc (.chan n #[] false 0 0 false)) := by
  have h : (Try.prog.info? 9).map (·.bytes) = some 16 := by kernel_rfl
  obtain ⟨i, hi, hb⟩ := Option.map_eq_some_iff.1 h
  simpa using run_makeChan (P := Try.prog) (w := w) Try.underlying51 hi .i64 n (by omega) (by rw [hb]; omega)
theorem new_string (n : Nat) (h0 : 1 ≤ n) (hn : n ≤ 64) (w : World) : Calls Try.prog 12 #[.int .i64 (n : Int)] w (NewPost 53 n w) := by
  have hmk := fun w => mk_string n hn w
  have h1 : ((n : Int) < 1) = False := by simp; omega
  obtain ⟨Q, hQ⟩ : ∃ Q, NewPost 53 n w = Q := ⟨_, rfl⟩
  have HQ := Aside0.mk hQ
  rw [hQ]
  clear hQ
  go_enter Try.func12, Try.ntmps12
  go_wp2
  go_region
  all_goals go_wp2
  all_goals try go_ret2
  all_goals rw [← HQ.out]
  · exact ⟨_, _, _, rfl, new_made 53 n w _ _ (Or.inl ⟨rfl, rfl⟩)⟩
  · exact ⟨_, _, _, rfl, new_made 53 n w _ _ (Or.inr ⟨rfl, rfl⟩)⟩
theorem new_none_string (n : Int) (h : n < 1 ∨ 64 < n) (w : World) : Calls Try.prog 12 #[.int .i64 n] w fun e w' => e = .returned (.tuple #[.pointer none, .int .i64 1]) ∧ w = w' := by
  by_cases h1 : n < 1
  · have hd : decide (n < 1) = true := decide_eq_true h1
    clear h
    go_enter Try.func12, Try.ntmps12
    go_wp2
    go_ret2
    exact ⟨rfl, rfl⟩
  · have hd : decide (n < 1) = false := decide_eq_false h1
    have hd2 : decide (64 < n) = true := decide_eq_true (by omega)
    clear h
    go_enter Try.func12, Try.ntmps12
    go_wp2
    go_ret2
    exact ⟨rfl, rfl⟩
theorem put_nil_string (x : ByteArray) (urgent : Bool) (w : World) : Calls Try.prog 13 #[.pointer none, Value.string x, .bool urgent] w fun e w' => e = .returned (.bool false) ∧ w = w' := by
  go_enter Try.func13, Try.ntmps13
  go_wp2
  go_ret
  exact ⟨rfl, rfl⟩
theorem take_nil_string (w : World) : Calls Try.prog 14 #[.pointer none] w fun e w' => e = .returned (.tuple #[.string ⟨#[]⟩, .bool false, .bool false]) ∧ w = w' := by
  go_enter Try.func14, Try.ntmps14
  go_wp2
  go_ret3
  exact ⟨rfl, rfl⟩
theorem len_nil_string (w : World) : Calls Try.prog 15 #[.pointer none] w fun e w' => e = .returned (.int .i64 0) ∧ w = w' := by
  go_enter Try.func15, Try.ntmps15
  go_wp2
  go_ret
  exact ⟨rfl, rfl⟩
end Go.Proofs.Ytaaicaddoboepaa.Mail
