/- Chapter 23: a box of mail: awake; nobody's mail; each box has its own room: the laws' walks. -/
import Derived.Test.YtaaicaddoboepaaMailM
import Derived.StillTailTactics
import Derived.Deep.LoopGhost
namespace Go.Proofs.Ytaaicaddoboepaa.Mail
open Go.Conc Go.RowKit Go.Proofs.YtaaicaddoboepaaW.PrintWords Go.Proofs.YtaaicaddoboepaaW.PrintLast Go.Proofs.YtaaicaddoboepaaW.PrintMore
set_option linter.unusedVariables false
set_option linter.unusedSimpArgs false
theorem urgent_ok_int {base B cu cp cap : Nat} {us ps : List Value} (x : Int) {w : World} (h : MailAt 49 base B cu cp cap us ps w) (hr : us.length < cap) :
    Calls Try.prog 11 #[.pointer (some ⟨B, 0, none⟩), Value.int .i64 x, .bool true] w fun e w' => e = .returned (.bool true) ∧ MailAt 49 base B cu cp cap (us ++ [Value.int .i64 x]) ps w' ∧ Below base w w' := by
  refine (put_int base B cu cp cap us ps x true w h).mono ?_
  intro e w' hp
  simp only [PutPost, if_pos hr, if_true, Bool.false_eq_true, if_false] at hp
  exact ⟨hp.1, h.urgent hp.2⟩
theorem urgent_full_int {base B cu cp cap : Nat} {us ps : List Value} (x : Int) {w : World} (h : MailAt 49 base B cu cp cap us ps w) (hr : ¬ us.length < cap) :
    Calls Try.prog 11 #[.pointer (some ⟨B, 0, none⟩), Value.int .i64 x, .bool true] w fun e w' => e = .returned (.bool false) ∧ w = w' := by
  refine (put_int base B cu cp cap us ps x true w h).mono ?_
  intro e w' hp
  simp only [PutPost, if_neg hr, if_true, Bool.false_eq_true, if_false] at hp
  exact ⟨hp.1, hp.2.symm⟩
theorem plain_ok_int {base B cu cp cap : Nat} {us ps : List Value} (x : Int) {w : World} (h : MailAt 49 base B cu cp cap us ps w) (hr : ps.length < cap) :
    Calls Try.prog 11 #[.pointer (some ⟨B, 0, none⟩), Value.int .i64 x, .bool false] w fun e w' => e = .returned (.bool true) ∧ MailAt 49 base B cu cp cap us (ps ++ [Value.int .i64 x]) w' ∧ Below base w w' := by
  refine (put_int base B cu cp cap us ps x false w h).mono ?_
  intro e w' hp
  simp only [PutPost, if_pos hr, if_true, Bool.false_eq_true, if_false] at hp
  exact ⟨hp.1, h.plain hp.2⟩
theorem plain_full_int {base B cu cp cap : Nat} {us ps : List Value} (x : Int) {w : World} (h : MailAt 49 base B cu cp cap us ps w) (hr : ¬ ps.length < cap) :
    Calls Try.prog 11 #[.pointer (some ⟨B, 0, none⟩), Value.int .i64 x, .bool false] w fun e w' => e = .returned (.bool false) ∧ w = w' := by
  refine (put_int base B cu cp cap us ps x false w h).mono ?_
  intro e w' hp
  simp only [PutPost, if_neg hr, if_true, Bool.false_eq_true, if_false] at hp
  exact ⟨hp.1, hp.2.symm⟩
theorem take_u_int {base B cu cp cap : Nat} {us ps : List Value} (x : Int) {w : World} (h : MailAt 49 base B cu cp cap (Value.int .i64 x :: us) ps w) :
    Calls Try.prog 9 #[.pointer (some ⟨B, 0, none⟩)] w fun e w' => e = .returned (.tuple #[Value.int .i64 x, .bool true, .bool true]) ∧ MailAt 49 base B cu cp cap us ps w' ∧ Below base w w' :=
  (take_urgent_int B cu cp cap x us ps w h.cells.1 h.cells.2 h.2.1 h.2.2.1).mono fun _ _ hp => ⟨hp.1, h.urgent hp.2⟩
theorem take_p_int {base B cu cp cap : Nat} {ps : List Value} (x : Int) {w : World} (h : MailAt 49 base B cu cp cap [] (Value.int .i64 x :: ps) w) :
    Calls Try.prog 9 #[.pointer (some ⟨B, 0, none⟩)] w fun e w' => e = .returned (.tuple #[Value.int .i64 x, .bool false, .bool true]) ∧ MailAt 49 base B cu cp cap [] ps w' ∧ Below base w w' :=
  (take_plain_int B cu cp cap x ps w h.cells.1 h.cells.2 h.2.1 h.2.2.1).mono fun _ _ hp => ⟨hp.1, h.plain hp.2⟩
theorem take_n_int {base B cu cp cap : Nat} {w : World} (h : MailAt 49 base B cu cp cap [] [] w) :
    Calls Try.prog 9 #[.pointer (some ⟨B, 0, none⟩)] w fun e w' => e = .returned (.tuple #[Value.int .i64 0, .bool false, .bool false]) ∧ w = w' :=
  (take_none_int B cu cp cap w h.cells.1 h.cells.2 h.2.1 h.2.2.1).mono fun _ _ hp => ⟨hp.1, hp.2.symm⟩
theorem urgent_ok_string {base B cu cp cap : Nat} {us ps : List Value} (x : ByteArray) {w : World} (h : MailAt 53 base B cu cp cap us ps w) (hr : us.length < cap) :
    Calls Try.prog 13 #[.pointer (some ⟨B, 0, none⟩), Value.string x, .bool true] w fun e w' => e = .returned (.bool true) ∧ MailAt 53 base B cu cp cap (us ++ [Value.string x]) ps w' ∧ Below base w w' := by
  refine (put_string base B cu cp cap us ps x true w h).mono ?_
  intro e w' hp
  simp only [PutPost, if_pos hr, if_true, Bool.false_eq_true, if_false] at hp
  exact ⟨hp.1, h.urgent hp.2⟩
theorem urgent_full_string {base B cu cp cap : Nat} {us ps : List Value} (x : ByteArray) {w : World} (h : MailAt 53 base B cu cp cap us ps w) (hr : ¬ us.length < cap) :
    Calls Try.prog 13 #[.pointer (some ⟨B, 0, none⟩), Value.string x, .bool true] w fun e w' => e = .returned (.bool false) ∧ w = w' := by
  refine (put_string base B cu cp cap us ps x true w h).mono ?_
  intro e w' hp
  simp only [PutPost, if_neg hr, if_true, Bool.false_eq_true, if_false] at hp
  exact ⟨hp.1, hp.2.symm⟩
theorem plain_ok_string {base B cu cp cap : Nat} {us ps : List Value} (x : ByteArray) {w : World} (h : MailAt 53 base B cu cp cap us ps w) (hr : ps.length < cap) :
    Calls Try.prog 13 #[.pointer (some ⟨B, 0, none⟩), Value.string x, .bool false] w fun e w' => e = .returned (.bool true) ∧ MailAt 53 base B cu cp cap us (ps ++ [Value.string x]) w' ∧ Below base w w' := by
  refine (put_string base B cu cp cap us ps x false w h).mono ?_
  intro e w' hp
  simp only [PutPost, if_pos hr, if_true, Bool.false_eq_true, if_false] at hp
  exact ⟨hp.1, h.plain hp.2⟩
theorem plain_full_string {base B cu cp cap : Nat} {us ps : List Value} (x : ByteArray) {w : World} (h : MailAt 53 base B cu cp cap us ps w) (hr : ¬ ps.length < cap) :
    Calls Try.prog 13 #[.pointer (some ⟨B, 0, none⟩), Value.string x, .bool false] w fun e w' => e = .returned (.bool false) ∧ w = w' := by
  refine (put_string base B cu cp cap us ps x false w h).mono ?_
  intro e w' hp
  simp only [PutPost, if_neg hr, if_true, Bool.false_eq_true, if_false] at hp
  exact ⟨hp.1, hp.2.symm⟩
theorem take_u_string {base B cu cp cap : Nat} {us ps : List Value} (x : ByteArray) {w : World} (h : MailAt 53 base B cu cp cap (Value.string x :: us) ps w) :
    Calls Try.prog 14 #[.pointer (some ⟨B, 0, none⟩)] w fun e w' => e = .returned (.tuple #[Value.string x, .bool true, .bool true]) ∧ MailAt 53 base B cu cp cap us ps w' ∧ Below base w w' :=
  (take_urgent_string B cu cp cap x us ps w h.cells.1 h.cells.2 h.2.1 h.2.2.1).mono fun _ _ hp => ⟨hp.1, h.urgent hp.2⟩
theorem take_p_string {base B cu cp cap : Nat} {ps : List Value} (x : ByteArray) {w : World} (h : MailAt 53 base B cu cp cap [] (Value.string x :: ps) w) :
    Calls Try.prog 14 #[.pointer (some ⟨B, 0, none⟩)] w fun e w' => e = .returned (.tuple #[Value.string x, .bool false, .bool true]) ∧ MailAt 53 base B cu cp cap [] ps w' ∧ Below base w w' :=
  (take_plain_string B cu cp cap x ps w h.cells.1 h.cells.2 h.2.1 h.2.2.1).mono fun _ _ hp => ⟨hp.1, h.plain hp.2⟩
theorem take_n_string {base B cu cp cap : Nat} {w : World} (h : MailAt 53 base B cu cp cap [] [] w) :
    Calls Try.prog 14 #[.pointer (some ⟨B, 0, none⟩)] w fun e w' => e = .returned (.tuple #[Value.string ⟨#[]⟩, .bool false, .bool false]) ∧ w = w' :=
  (take_none_string B cu cp cap w h.cells.1 h.cells.2 h.2.1 h.2.2.1).mono fun _ _ hp => ⟨hp.1, hp.2.symm⟩
set_option maxRecDepth 100000 in
theorem awake_walk (w : World) : Calls Try.prog 7 #[] w fun e w' => e = .returned (.bool true) ∧ Below w.heap.size w w' := by
  have HN := Aside0.mk (show ∀ w, Calls Try.prog 8 #[.int .i64 1] w (NewPost 49 1 w) from fun w => new_int 1 (by decide) (by decide) w)
  go_enter Try.func7, Try.ntmps7
  go_wp2_with (first
    | (go_at_call 8; refine (HN.out _).mono ?_; rintro e w1 ⟨B, cu, cp, rfl, hm1, hb1⟩; have M1 := Aside0.mk hm1; have B1 := Aside0.mk hb1; clear hm1 hb1)
    | (go_at_call 11; with_reducible refine (plain_ok_int 1 M1.out (by decide)).mono ?_; rintro e w2 ⟨rfl, hm2, hb2⟩; have M2 := Aside0.mk hm2; have B2 := Aside0.mk hb2; clear hm2 hb2)
    | (go_at_call 11; with_reducible refine (urgent_ok_int 2 M2.out (by decide)).mono ?_; rintro e w3 ⟨rfl, hm3, hb3⟩; have M3 := Aside0.mk hm3; have B3 := Aside0.mk hb3; clear hm3 hb3)
    | (go_at_call 11; with_reducible refine (urgent_full_int 3 M3.out (by decide)).mono ?_; rintro e w4 ⟨rfl, rfl⟩)
    | (go_at_call 9; with_reducible refine (take_u_int 2 M3.out).mono ?_; rintro e w5 ⟨rfl, hm5, hb5⟩; have M5 := Aside0.mk hm5; have B5 := Aside0.mk hb5; clear hm5 hb5)
    | (go_at_call 10; with_reducible refine (len_int _ _ _ _ _ _ _ _ M5.out (by decide) (by decide)).mono ?_; rintro e w6 ⟨rfl, n6, rfl⟩))
  go_ret
  exact ⟨rfl, pw_below_drewN ((B1.out.trans B2.out).trans (B3.out.trans B5.out)) n6⟩
theorem nil_walk (x : Int) (urgent : Bool) (w : World) : Calls Try.prog 6 #[.int .i64 x, .bool urgent] w fun e w' => e = .returned (.bool true) ∧ Below w.heap.size w w' := by
  have HA := Aside0.mk awake_walk
  go_enter Try.func6, Try.ntmps6
  go_wp2_with (first
    | (go_at_call 7; refine (HA.out _).mono ?_; rintro e w1 ⟨rfl, hb1⟩; have B1 := Aside0.mk hb1; clear hb1)
    | (go_at_call 11; with_reducible refine (put_nil_int _ _ _).mono ?_; rintro e w2 ⟨rfl, rfl⟩)
    | (go_at_call 9; with_reducible refine (take_nil_int _).mono ?_; rintro e w5 ⟨rfl, rfl⟩)
    | (go_at_call 10; with_reducible refine (len_nil_int _).mono ?_; rintro e w6 ⟨rfl, rfl⟩))
  go_ret
  exact ⟨rfl, B1.out⟩
theorem nil_row (a0 : Int) (a1 : Bool) (W : World) (w0 : (Lit.int .i64 a0).wf = true) : Calls Try.prog 6 #[.int .i64 a0, .bool a1] W fun e w' => e = .returned (.bool true) ∧ Below W.heap.size W w' :=
  nil_walk a0 a1 W
def valsI (k : Nat) : List Value := (List.range k).map fun (j : Nat) => Value.int .i64 (j : Int)
theorem valsI_succ (k : Nat) : valsI (k + 1) = valsI k ++ [Value.int .i64 (k : Int)] := by
  unfold valsI
  rw [List.range_succ, List.map_append]
  rfl
theorem valsI_len (k : Nat) : (valsI k).length = k := by unfold valsI; simp
theorem valsI_cons (k : Nat) (h : 1 ≤ k) : ∃ l, valsI k = Value.int .i64 0 :: l ∧ l.length + 1 = k := by
  cases hv : valsI k with
  | nil => have := congrArg List.length hv; rw [valsI_len] at this; simp at this; omega
  | cons a l =>
    have h0 : (valsI k)[0]? = some (Value.int .i64 0) := by
      unfold valsI
      simp [show 0 < k by omega]
    rw [hv] at h0
    simp only [List.getElem?_cons_zero, Option.some.injEq] at h0
    subst h0
    have := congrArg List.length hv
    rw [valsI_len] at this
    exact ⟨l, rfl, by simpa using this.symm⟩
set_option maxHeartbeats 400000 in
set_option maxRecDepth 100000 in
theorem room_walk (r : Int) (hr : 0 ≤ r ∧ r ≤ 255) (urgent : Bool) (w : World) : Calls Try.prog 5 #[.int .u8 r, .bool urgent] w fun e w' => e = .returned (.bool true) ∧ Below w.heap.size w w' := by
  have HA := Aside0.mk awake_walk
  obtain ⟨n, hn, hn1, hn64⟩ : ∃ n : Nat, 1 + r % 64 = (n : Int) ∧ 1 ≤ n ∧ n ≤ 64 := ⟨(1 + r % 64).toNat, by omega, by omega, by omega⟩
  have HN := Aside0.mk (fun w => new_int n hn1 hn64 w)
  have hr0 := hr.1
  have hr1 := hr.2
  clear hr
  cases urgent
  · go_enter Try.func5, Try.ntmps5
    go_wp2_with (first
      | (go_at_call 7; refine (HA.out _).mono ?_; rintro e w0 ⟨rfl, hb0⟩; have B0 := Aside0.mk hb0; clear hb0)
      | (go_at_call 8; refine (HN.out _).mono ?_; rintro e w1 ⟨B, cu, cp, rfl, hm1, hb1⟩; have M1 := Aside0.mk hm1; have B1 := Aside0.mk hb1; clear hm1 hb1))
    go_loopw [27] (fun i wr => ∃ k : Nat, k ≤ n ∧ i = .int .i64 k ∧ MailAt 49 w0.heap.size B cu cp n [] (valsI k) wr ∧ Below w0.heap.size w0 wr) (fun i _ => n - (intOf i).toNat)
    case atStart => exact ⟨0, Nat.zero_le _, rfl, M1.out, B1.out⟩
    case round =>
      rename_i wr
      obtain ⟨k, hk, rfl, hM, hB⟩ := hrel
      have HM := Aside0.mk hM
      have HB := Aside0.mk hB
      clear hM hB
      by_cases hlt : k < n
      · have hvl : (valsI k).length < n := by rw [valsI_len]; exact hlt
        have HV := Aside0.mk hvl
        clear hvl
        go_wp2_with (go_at_call 11; with_reducible refine (plain_ok_int _ HM.out HV.out).mono ?_; rintro e w2 ⟨rfl, hm2, hb2⟩; have M2 := Aside0.mk hm2; have B2 := Aside0.mk hb2; clear hm2 hb2)
        go_roundw
        case rel => exact ⟨k + 1, by omega, by go_num, by rw [valsI_succ]; exact M2.out, HB.out.trans B2.out⟩
        case measure => simp [intOf]; omega
      · have hke : k = n := by omega
        subst hke
        have hfull : ¬ (valsI k).length < k := by rw [valsI_len]; omega
        have HF := Aside0.mk hfull
        have HE := Aside0.mk (show ([] : List Value).length < k from by simp; omega)
        clear hfull
        have hEnd : True := trivial
        go_wp2_with (first
          | (go_at_call 11; with_reducible refine (plain_full_int _ HM.out HF.out).mono ?_; rintro e w2 ⟨rfl, rfl⟩)
          | (go_at_call 11; with_reducible refine (urgent_ok_int _ HM.out HE.out).mono ?_; rintro e w3 ⟨rfl, hm3, hb3⟩; have M3 := Aside0.mk hm3; have B3 := Aside0.mk hb3; clear hm3 hb3)
          | (go_at_call 9; with_reducible refine (take_u_int _ M3.out).mono ?_; rintro e w5 ⟨rfl, hm5, hb5⟩; have M5 := Aside0.mk hm5; have B5 := Aside0.mk hb5; clear hm5 hb5)
          | (go_at_call 10; with_reducible refine (len_int _ _ _ _ _ _ _ _ M5.out (by decide) (by rw [valsI_len]; omega)).mono ?_; rintro e w6 ⟨rfl, n6, rfl⟩
             have hcount : ((([] : List Value).length + (valsI k).length : Nat) : Int) = (k : Int) := by simp [valsI_len]
             rw [hcount]
             clear hcount))
        go_ret
        exact ⟨rfl, pw_below_drewN ((B0.out.trans ((HB.out.trans (B3.out.trans B5.out)).mono B0.out.size))) n6⟩
  · go_enter Try.func5, Try.ntmps5
    go_wp2_with (first
      | (go_at_call 7; refine (HA.out _).mono ?_; rintro e w0 ⟨rfl, hb0⟩; have B0 := Aside0.mk hb0; clear hb0)
      | (go_at_call 8; refine (HN.out _).mono ?_; rintro e w1 ⟨B, cu, cp, rfl, hm1, hb1⟩; have M1 := Aside0.mk hm1; have B1 := Aside0.mk hb1; clear hm1 hb1))
    go_loopw [27] (fun i wr => ∃ k : Nat, k ≤ n ∧ i = .int .i64 k ∧ MailAt 49 w0.heap.size B cu cp n (valsI k) [] wr ∧ Below w0.heap.size w0 wr) (fun i _ => n - (intOf i).toNat)
    case atStart => exact ⟨0, Nat.zero_le _, rfl, M1.out, B1.out⟩
    case round =>
      rename_i wr
      obtain ⟨k, hk, rfl, hM, hB⟩ := hrel
      have HM := Aside0.mk hM
      have HB := Aside0.mk hB
      clear hM hB
      by_cases hlt : k < n
      · have hvl : (valsI k).length < n := by rw [valsI_len]; exact hlt
        have HV := Aside0.mk hvl
        clear hvl
        go_wp2_with (go_at_call 11; with_reducible refine (urgent_ok_int _ HM.out HV.out).mono ?_; rintro e w2 ⟨rfl, hm2, hb2⟩; have M2 := Aside0.mk hm2; have B2 := Aside0.mk hb2; clear hm2 hb2)
        go_roundw
        case rel => exact ⟨k + 1, by omega, by go_num, by rw [valsI_succ]; exact M2.out, HB.out.trans B2.out⟩
        case measure => simp [intOf]; omega
      · have hke : k = n := by omega
        subst hke
        obtain ⟨tl, htl, hlen⟩ := valsI_cons k hn1
        have HTL := Aside0.mk htl
        have HLEN := Aside0.mk hlen
        clear htl hlen
        have hfull : ¬ (valsI k).length < k := by rw [valsI_len]; omega
        have HF := Aside0.mk hfull
        have HE := Aside0.mk (show ([] : List Value).length < k from by simp; omega)
        clear hfull
        have hEnd : True := trivial
        go_wp2_with (first
          | (go_at_call 11; with_reducible refine (urgent_full_int _ HM.out HF.out).mono ?_; rintro e w2 ⟨rfl, rfl⟩)
          | (go_at_call 11; with_reducible refine (plain_ok_int _ HM.out HE.out).mono ?_; rintro e w3 ⟨rfl, hm3, hb3⟩; have M3 := Aside0.mk hm3; have B3 := Aside0.mk hb3; clear hm3 hb3)
          | (go_at_call 9; with_reducible refine (take_u_int 0 (us := tl) (by rw [← HTL.out]; exact M3.out)).mono ?_; rintro e w5 ⟨rfl, hm5, hb5⟩; have M5 := Aside0.mk hm5; have B5 := Aside0.mk hb5; clear hm5 hb5)
          | (go_at_call 10; with_reducible refine (len_int _ _ _ _ _ _ _ _ M5.out (by have := HLEN.out; omega) (by decide)).mono ?_; rintro e w6 ⟨rfl, n6, rfl⟩
             have hcount : ((tl.length + ([] ++ [Value.int .i64 (-2)]).length : Nat) : Int) = (k : Int) := by have := HLEN.out; simp; omega
             rw [hcount]
             clear hcount))
        go_ret
        exact ⟨rfl, pw_below_drewN ((B0.out.trans ((HB.out.trans (B3.out.trans B5.out)).mono B0.out.size))) n6⟩
theorem room_row (a0 : Int) (a1 : Bool) (W : World) (w0 : (Lit.int .u8 a0).wf = true) : Calls Try.prog 5 #[.int .u8 a0, .bool a1] W fun e w' => e = .returned (.bool true) ∧ Below W.heap.size W w' :=
  room_walk a0 (by simpa [Lit.wf, IntKind.min, IntKind.max, IntKind.bits, IntKind.signed] using w0) a1 W
end Go.Proofs.Ytaaicaddoboepaa.Mail
