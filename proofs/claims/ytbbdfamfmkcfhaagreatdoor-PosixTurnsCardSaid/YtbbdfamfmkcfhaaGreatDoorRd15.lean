/- strings.NewReplacer of two bytes, and what its Replace makes of a text: walked (3): the replacer's Replace. -/
import Derived.Test.YtbbdfamfmkcfhaaGreatDoorRepl15
import Derived.Test.YtbbdfamfmkcfhaaGreatDoorShelfC
import Derived.Deep.QuietTactic
import Derived.BigQuiet
import Derived.StillTailTactics
import Derived.Laws.CopyRow
import Derived.Laws.OwnMore
import Derived.Laws.Cover3
namespace Go.Proofs.YtbbdfamfmkcfhaaGreatDoor.Rpl
open Go.RowKit Go.Proofs.YtbbdfamfmkcfhaaGreatDoorW.PrintWords Go.Proofs.YtbbdfamfmkcfhaaGreatDoorW.PrintLast Go.Proofs.YtbbdfamfmkcfhaaGreatDoorW.PrintMore Go.Proofs.YtbbdfamfmkcfhaaGreatDoor.Pl
set_option linter.unusedVariables false
set_option linter.unusedSimpArgs false
theorem binfo8 : (Tryz.prog.info? 5).map (fun i => (i.zero, i.size, i.bytes)) = some (some (.int .u8 0), 1, 1) := by kernel_rfl
def rp (b : Int) : List Int := if b = 92 then ([37, 53, 67] : List Int) else if b = 124 then ([37, 55, 67] : List Int) else [b]
def rep (l : List Int) : List Int := l.flatMap rp
def hit (b : Int) : Bool := decide (b = 92) || decide (b = 124)
theorem rep_nil : rep [] = [] := rfl
theorem rep_cons (b : Int) (l : List Int) : rep (b :: l) = rp b ++ rep l := rfl
theorem rep_app (a b : List Int) : rep (a ++ b) = rep a ++ rep b := List.flatMap_append
theorem rp_len (b : Int) : 1 ≤ (rp b).length ∧ (rp b).length ≤ 3 := by unfold rp; split <;> (try split) <;> simp
theorem rep_len (l : List Int) : l.length ≤ (rep l).length ∧ (rep l).length ≤ 3 * l.length := by
  induction l with
  | nil => exact ⟨Nat.le_refl _, Nat.le_refl _⟩
  | cons b l ih => have := rp_len b; rw [rep_cons, List.length_append, List.length_cons]; omega
theorem rep_count (l : List Int) : (rep l).length = l.length + l.count 124 * 2 + l.count 92 * 2 := by
  induction l with
  | nil => rfl
  | cons b l ih =>
    rw [rep_cons, List.length_append, ih, List.length_cons, List.count_cons, List.count_cons]
    unfold rp
    by_cases h1 : b = 92
    · subst h1; simp; omega
    · by_cases h2 : b = 124
      · subst h2; simp; omega
      · rw [if_neg h1, if_neg h2]; simp [h1, h2]; omega
theorem rep_same (l : List Int) (h : l.any hit = false) : rep l = l := by
  induction l with
  | nil => rfl
  | cons b l ih =>
    rw [List.any_cons, Bool.or_eq_false_iff] at h
    rw [rep_cons, ih h.2]
    have h1 : ¬ b = 92 := fun e => by rw [e] at h; exact absurd h.1 (by decide)
    have h2 : ¬ b = 124 := fun e => by rw [e] at h; exact absurd h.1 (by decide)
    unfold rp
    rw [if_neg h1, if_neg h2]
    rfl
theorem any_count (l : List Int) : l.any hit = (decide (l.count 124 ≠ 0) || decide (l.count 92 ≠ 0)) := by
  induction l with
  | nil => rfl
  | cons b l ih =>
    rw [List.any_cons, ih, List.count_cons, List.count_cons]
    unfold hit
    by_cases h1 : b = 92
    · subst h1; simp
    · by_cases h2 : b = 124
      · subst h2; simp
      · simp [h1, h2]
theorem count_bytes (s : ByteArray) (c : UInt8) : Lib.countByte s.data.toList c = (bytesOf s).count (c.toNat : Int) := by
  unfold Lib.countByte bytesOf
  induction s.data.toList with
  | nil => rfl
  | cons b l ih =>
    rw [List.map_cons, List.count_cons, List.count_cons, ih]
    by_cases h : b = c
    · subst h; simp
    · have : ¬ ((b.toNat : Int) = (c.toNat : Int)) := fun e => h (UInt8.toNat_inj.1 (by omega))
      simp [h, this]
def Tbl (B : Nat) (w : World) : Prop := ∃ f base, Arr B f w ∧ w.ownsRow base 9 1 (f 256) 2 [.string (⟨#[124]⟩ : ByteArray), .string (⟨#[92]⟩ : ByteArray)] ∧ (∀ i, i < 256 → i ≠ 124 → i ≠ 92 → f i = .slice none 0 0) ∧ Bts (f 124) ([37, 55, 67] : List Int) w ∧ Bts (f 92) ([37, 53, 67] : List Int) w
/-- What the walk reads of the replacer, in whatever world holds its blocks. -/
def Reads (B : Nat) (g1 c1 g2 c2 gt cp : Nat) (w : World) : Prop :=
  w.cell? ⟨B, 92, none⟩ = some (.slice (some ⟨g1, 0, none⟩) 3 c1) ∧ w.cell? ⟨B, 124, none⟩ = some (.slice (some ⟨g2, 0, none⟩) 3 c2) ∧ (∀ i, i < 256 → i ≠ 124 → i ≠ 92 → w.cell? ⟨B, i, none⟩ = some (.slice none 0 0)) ∧ w.cell? ⟨B, 256, none⟩ = some (.slice (some ⟨gt, 0, none⟩) 2 cp) ∧
  w.cell? ⟨gt, 0, none⟩ = some (.string (⟨#[124]⟩ : ByteArray)) ∧ w.cell? ⟨gt, 1, none⟩ = some (.string (⟨#[92]⟩ : ByteArray)) ∧ (∀ j x, (([37, 53, 67] : List Int))[j]? = some x → w.cell? ⟨g1, j, none⟩ = some (.int .u8 x)) ∧ (∀ j x, (([37, 55, 67] : List Int))[j]? = some x → w.cell? ⟨g2, j, none⟩ = some (.int .u8 x)) ∧ 3 ≤ c1 ∧ 3 ≤ c2 ∧ 2 ≤ cp
theorem reads_of {B : Nat} {w : World} (h : Tbl B w) : ∃ g1 c1 g2 c2 gt cp, ∀ w', Below w.heap.size w w' → Reads B g1 c1 g2 c2 gt cp w' := by
  obtain ⟨f, base, hA, hR, hz, hb2, hb1⟩ := h
  obtain ⟨g2, c2, cur2, m2, e2, l2, k2, r2⟩ := hb2
  obtain ⟨g1, c1, cur1, m1, e1, l1, k1, r1⟩ := hb1
  have hRR := hR
  rcases hR.2 with ⟨_, h0⟩ | ⟨gt, cp, cur, ev, _, hg, hn, _, _, _⟩
  · omega
  refine ⟨g1, c1, g2, c2, gt, cp, fun w' hb => ?_⟩
  have hA' := hA.below hb
  rw [ev] at hRR
  have hR' := pw_own_below hRR hb
  refine ⟨?_, ?_, ?_, ?_, ?_, ?_, ?_, ?_, l1, l2, hn⟩
  · rw [hA'.cell 92 (by decide), e1]; rfl
  · rw [hA'.cell 124 (by decide), e2]; rfl
  · intro i hi h1 h2; rw [hA'.cell i (by omega), hz i hi h1 h2]
  · rw [hA'.cell 256 (by decide), ev]
  · exact hR'.cellAt 0 (by decide)
  · exact hR'.cellAt 1 (by decide)
  · intro j x hj
    have := (hb.block g1 (Array.getElem?_eq_some_iff.1 k1).1).trans k1
    simp [World.cell?, this, r1 j x hj]
  · intro j x hj
    have := (hb.block g2 (Array.getElem?_eq_some_iff.1 k2).1).trans k2
    simp [World.cell?, this, r2 j x hj]
/-- Block Bf holds M bytes, the first ones of which are these. -/
def Buf (Bf M : Nat) (xs : List Int) (w : World) : Prop := ∃ cur, w.heap[Bf]? = some (Obj.cells cur 5 (0, 0)) ∧ cur.size = M ∧ xs.length ≤ M ∧ cur.toList.take xs.length = xs.map (Value.int .u8)
theorem Buf.keep {Bf M : Nat} {xs : List Int} {w w' : World} (h : Buf Bf M xs w) (hb : w'.heap[Bf]? = w.heap[Bf]?) : Buf Bf M xs w' := by
  obtain ⟨cur, h1, h2, h3, h4⟩ := h
  exact ⟨cur, hb.trans h1, h2, h3, h4⟩
theorem Buf.cell {Bf M : Nat} {xs : List Int} {w : World} (h : Buf Bf M xs w) (j : Nat) (hj : j < M) : ∃ v, w.cell? ⟨Bf, j, none⟩ = some v := by
  obtain ⟨cur, h1, h2, h3, h4⟩ := h
  exact ⟨cur[j], by simp [World.cell?, h1, h2, hj]⟩
theorem Buf.free {Bf M : Nat} {xs : List Int} {w : World} (h : Buf Bf M xs w) (j : Nat) : w.frozen? ⟨Bf, j, none⟩ = false := by
  obtain ⟨cur, h1, h2, h3, h4⟩ := h
  simp [World.frozen?, h1]
theorem Buf.store {Bf M : Nat} {xs : List Int} {w : World} (h : Buf Bf M xs w) (hj : xs.length < M) (x : Int) : Buf Bf M (xs ++ [x]) (w.setCell ⟨Bf, xs.length, none⟩ (.int .u8 x)) := by
  obtain ⟨cur, h1, h2, h3, h4⟩ := h
  refine ⟨cur.setIfInBounds xs.length (.int .u8 x), by simp [World.setCell, Array.getElem?_modify, h1], by simpa using h2, by rw [List.length_append, List.length_singleton]; omega, ?_⟩
  have hl : xs.length < cur.toList.length := by have e : cur.toList.length = cur.size := Array.length_toList; omega
  rw [Array.toList_setIfInBounds, List.length_append, List.length_singleton, List.take_add_one, List.take_set_of_le (Nat.le_refl _), h4, List.getElem?_set_self hl, List.map_append]
  rfl
theorem buf_copy {Bf M : Nat} {xs ys : List Int} {w : World} (h : Buf Bf M xs w) (hj : xs.length + ys.length ≤ M) (g cp : Nat) (hs : ∀ j x, ys[j]? = some x → w.cell? ⟨g, j, none⟩ = some (.int .u8 x)) (dc : Nat) :
    ∃ w', (Builtin.copy_ #[38, 38] 3 #[.slice (some ⟨Bf, xs.length, none⟩) (M - xs.length) dc, .slice (some ⟨g, 0, none⟩) ys.length cp]).run Tryz.prog w = .ok (.int .i64 ys.length) w' ∧ Buf Bf M (xs ++ ys) w' ∧ (∀ k, k ≠ Bf → w'.heap[k]? = w.heap[k]?) ∧ w'.os = w.os ∧ w'.tape = w.tape ∧ w'.output = w.output ∧ w'.heap.size = w.heap.size := by
  obtain ⟨cur, h1, h2, h3, h4⟩ := h
  have hc := run_copy_row (P := Tryz.prog) w 38 38 3 5 Bf xs.length (M - xs.length) dc ⟨g, 0, none⟩ ys.length cp cur 5 (ys.map (Value.int .u8)) Tryz.underlying38 (by kernel_rfl) h1 (by rw [List.length_map]; show _ = min ys.length (M - xs.length); omega) (fun j v hv => by
    rw [List.getElem?_map] at hv
    obtain ⟨x, hx, rfl⟩ := Option.map_eq_some_iff.1 hv
    have ha : (⟨g, 0, none⟩ : Addr).add j = ⟨g, j, none⟩ := by unfold Addr.add; split <;> simp_all
    rw [ha]
    exact hs j x hx) (by rw [List.length_map]; omega) (fun v hv => by obtain ⟨x, _, rfl⟩ := List.mem_map.1 hv; rfl)
  rw [List.length_map] at hc
  refine ⟨_, hc, ⟨(cur.toList.take xs.length ++ ys.map (Value.int .u8) ++ cur.toList.drop (xs.length + ys.length)).toArray, by simp [World.setRow, Array.getElem?_modify, h1], ?_, by rw [List.length_append]; omega, ?_⟩, fun k hk => ?_, rfl, rfl, rfl, by simp [World.setRow]⟩
  · simp; omega
  · rw [h4, List.append_assoc, List.toList_toArray, List.length_append, ← List.append_assoc, ← List.map_append]
    rw [List.take_left' (by rw [List.length_map, List.length_append])]
  · simp [World.setRow, Array.getElem?_modify, Ne.symm hk]
theorem buf_str {Bf : Nat} {xs : List Int} {w : World} (h : Buf Bf xs.length xs w) (hm : xs.length ≤ 9223372036854775807) : (convert 38 9 (.slice (some ⟨Bf, 0, none⟩) xs.length xs.length)).run Tryz.prog w = .ok (.string (strOfNums xs)) w := by
  obtain ⟨cur, h1, h2, h3, h4⟩ := h
  refine Kd.C_string (P := Tryz.prog) (A := some ⟨Bf, 0, none⟩) (c := xs.length) Tryz.underlying38 Tryz.underlying5 Tryz.underlying9 (Kd.C_of_reads (enc := Value.int .u8) (d := (0 : Int)) (h1 := fun _ => rfl) ⟨rfl, hm, fun _ => ⟨_, rfl, fun j hj => ?_⟩⟩)
  have ha : (⟨Bf, 0, none⟩ : Addr).add j = ⟨Bf, j, none⟩ := by unfold Addr.add; split <;> simp_all
  have hx := congrArg (fun l => l[j]?) h4
  simp only [List.getElem?_take, if_pos hj, List.getElem?_map, List.getElem?_eq_getElem hj] at hx
  rw [ha]
  simp only [World.cell?, h1]
  simp only [List.getD, List.getElem?_eq_getElem hj]
  simpa using hx

theorem take_byte (s : ByteArray) (k : Nat) (h : k < s.size) : (bytesOf s).take (k + 1) = (bytesOf s).take k ++ [((s[k]'h).toNat : Int)] := by
  have hl : k < (bytesOf s).length := by rw [bytesOf_length]; exact h
  rw [List.take_succ_eq_append_getElem hl]
  have h1 := bt_at s (k : Int) (by simpa using h)
  have h2 := bt_get s k hl
  have h3 := h1.trans h2
  simp only [Int.toNat_natCast] at h3
  rw [h3]
def NS (s : ByteArray) (k : Nat) : Int := ((rep ((bytesOf s).take k)).length + (s.size - k) : Nat)
set_option maxHeartbeats 8000000 in
set_option maxRecDepth 100000 in
theorem bsr_any (B : Nat) (s : ByteArray) (w : World) (hT : Tbl B w) (hB : B < w.heap.size) (hs : s.size ≤ 1000000) :
    Calls Tryz.prog 147 #[.pointer (some ⟨B, 0, none⟩), .string s] w fun e w' => e = .returned (.string (strOfNums (rep (bytesOf s)))) ∧ Below w.heap.size w w' := by
  obtain ⟨g1, c1, g2, c2, gt, cp, hrd⟩ := reads_of hT
  have HRD := Aside0.mk hrd
  have HS := Aside0.mk hs
  have hl := bytesOf_length s
  have hc1 := count_bytes s 92
  have hc2 := count_bytes s 124
  have hrep := rep_count (bytesOf s)
  have hany := any_count (bytesOf s)
  have hle1 := List.count_le_length (a := (92 : Int)) (l := bytesOf s)
  have hle2 := List.count_le_length (a := (124 : Int)) (l := bytesOf s)
  obtain ⟨n1, hn1⟩ : ∃ n, (bytesOf s).count (92 : Int) = n := ⟨_, rfl⟩
  obtain ⟨n2, hn2⟩ : ∃ n, (bytesOf s).count (124 : Int) = n := ⟨_, rfl⟩
  have hn1' : (bytesOf s).count ((((92 : UInt8).toNat : Nat) : Int)) = n1 := hn1
  have hn2' : (bytesOf s).count ((((124 : UInt8).toNat : Nat) : Int)) = n2 := hn2
  rw [hn1'] at hc1
  rw [hn2'] at hc2
  rw [hn1, hn2, hl] at hrep
  rw [hn1, hn2] at hany
  rw [hn1, hl] at hle1
  rw [hn2, hl] at hle2
  clear hT hrd hn1 hn2 hn1' hn2'
  have HC1 := Aside0.mk (show ∀ W, Calls Tryz.prog 54 #[.string s, .string (⟨#[92]⟩ : ByteArray)] W fun e w' => e = .returned (.int .i64 n1) ∧ w' = W from fun W => by have h := Tryz.strings_Count_one s 92 W; rw [hc1] at h; exact h)
  have HC2 := Aside0.mk (show ∀ W, Calls Tryz.prog 54 #[.string s, .string (⟨#[124]⟩ : ByteArray)] W fun e w' => e = .returned (.int .i64 n2) ∧ w' = W from fun W => by have h := Tryz.strings_Count_one s 124 W; rw [hc2] at h; exact h)
  have HREP := Aside0.mk hrep
  have HANY := Aside0.mk hany
  clear hc1 hc2 hrep hany
  obtain ⟨r1, r2, r3, r4, r5, r6, r7, r8, l1, l2, l3⟩ := HRD.out _ (Below.refl _ _)
  have R3 := Aside0.mk r3
  have R7 := Aside0.mk r7
  have R8 := Aside0.mk r8
  clear r3 r7 r8
  go_enter Tryz.func147, Tryz.ntmps147
  go_upto_if 26 with fail
  go_cut [5, 6] from 7 to 80 (fun s5 s6 wx => s5 = .int .i64 ((rep (bytesOf s)).length : Nat) ∧ s6 = .bool ((bytesOf s).any hit) ∧ Below w.heap.size w wx)
  case first =>
    have HB := Aside0.mk hB
    clear hB hl r1 r2 r5 r6
    rcases Nat.lt_or_ge s.size 16 with h16 | h16
    rotate_left
    · have t26 : decide ((16 : Int) ≤ (s.size : Int)) = true := by simp; omega
      rw [t26]
      clear t26
      go_wp2
      go_loopw [5, 6, 32] (fun a b i wr => ((i = .int .i64 0 ∧ a = .int .i64 (s.size : Nat) ∧ b = .bool false) ∨ (i = .int .i64 1 ∧ a = .int .i64 ((s.size + n2 * 2 : Nat) : Int) ∧ b = .bool (decide (n2 ≠ 0))) ∨ (i = .int .i64 2 ∧ a = .int .i64 ((s.size + n2 * 2 + n1 * 2 : Nat) : Int) ∧ b = .bool (decide (n2 ≠ 0) || decide (n1 ≠ 0)))) ∧ Below w.heap.size w wr) (fun _ _ i _ => (2 - intOf i).toNat)
      case atStart => exact ⟨Or.inl ⟨rfl, rfl, rfl⟩, Below.refl _ _⟩
      case round =>
        obtain ⟨hrel, hBl⟩ := hrel
        obtain ⟨r1, r2, r3, r4, r5, r6, r7, r8, -, -, -⟩ := HRD.out _ hBl
        have HBl := Aside0.mk hBl
        clear hBl r3 r7 r8
        rcases hrel with ⟨rfl, rfl, rfl⟩ | ⟨rfl, rfl, rfl⟩ | ⟨rfl, rfl, rfl⟩
        · rcases Nat.eq_zero_or_pos n2 with h0 | h0
          · have hb : ((n2 : Int) != 0) = false := by simp [h0]
            have HX := Aside0.mk h0
            clear h0
            go_wp2_with (go_at_call 54; (with_reducible refine (HC2.out _).mono ?_); rintro e wx ⟨rfl, rfl⟩)
            go_roundw
            case rel =>
              (first | (refine ⟨Or.inr (Or.inl ⟨rfl, ?_, ?_⟩), ?_⟩) | ((repeat apply Exists.intro); refine ⟨⟨Or.inr (Or.inl ⟨rfl, ?_, ?_⟩), ?_⟩, rfl⟩))
              · first | rfl | (rw [HX.out]; rfl) | (rw [HX.out]; simp)
              · first | rfl | (rw [HX.out]; rfl) | (rw [HX.out]; simp)
              · exact HBl.out
            case measure => simp [intOf]
          · have hb : ((n2 : Int) != 0) = true := by simp; omega
            have hix : ∀ h : 0 < ((⟨#[124]⟩ : ByteArray) : ByteArray).size, (((⟨#[124]⟩ : ByteArray) : ByteArray)[0]'h).toNat = 124 := fun _ => rfl
            have hdn : decide (n2 ≠ 0) = true := by simp; omega
            have HX := Aside0.mk hdn
            clear hdn
            go_upto_region 9 with (go_at_call 54; (with_reducible refine (HC2.out _).mono ?_); rintro e wx ⟨rfl, rfl⟩)
            go_quiet (fail)
            go_wp2
            go_roundw
            case rel =>
              (first | (refine ⟨Or.inr (Or.inl ⟨rfl, ?_, ?_⟩), ?_⟩) | ((repeat apply Exists.intro); refine ⟨⟨Or.inr (Or.inl ⟨rfl, ?_, ?_⟩), ?_⟩, rfl⟩))
              · first | rfl | (congr 1; omega) | (congr 1; push_cast; omega) | (simp; done) | (simp; omega)
              · first | (rw [HX.out]; done) | (rw [HX.out]; rfl) | (rw [HX.out]; simp)
              · exact pw_below_drewN HBl.out _
            case measure => simp [intOf]
        · rcases Nat.eq_zero_or_pos n1 with h0 | h0
          · have hb : ((n1 : Int) != 0) = false := by simp [h0]
            have HX := Aside0.mk h0
            clear h0
            go_wp2_with (go_at_call 54; (with_reducible refine (HC1.out _).mono ?_); rintro e wx ⟨rfl, rfl⟩)
            go_roundw
            case rel =>
              (first | (refine ⟨Or.inr (Or.inr ⟨rfl, ?_, ?_⟩), ?_⟩) | ((repeat apply Exists.intro); refine ⟨⟨Or.inr (Or.inr ⟨rfl, ?_, ?_⟩), ?_⟩, rfl⟩))
              · first | rfl | (rw [HX.out]; rfl) | (rw [HX.out]; simp)
              · first | rfl | (rw [HX.out]; rfl) | (rw [HX.out]; simp)
              · exact HBl.out
            case measure => simp [intOf]
          · have hb : ((n1 : Int) != 0) = true := by simp; omega
            have hix : ∀ h : 0 < ((⟨#[92]⟩ : ByteArray) : ByteArray).size, (((⟨#[92]⟩ : ByteArray) : ByteArray)[0]'h).toNat = 92 := fun _ => rfl
            have hdn : decide (n1 ≠ 0) = true := by simp; omega
            have HX := Aside0.mk hdn
            clear hdn
            go_upto_region 9 with (go_at_call 54; (with_reducible refine (HC1.out _).mono ?_); rintro e wx ⟨rfl, rfl⟩)
            go_quiet (fail)
            go_wp2
            go_roundw
            case rel =>
              (first | (refine ⟨Or.inr (Or.inr ⟨rfl, ?_, ?_⟩), ?_⟩) | ((repeat apply Exists.intro); refine ⟨⟨Or.inr (Or.inr ⟨rfl, ?_, ?_⟩), ?_⟩, rfl⟩))
              · first | rfl | (congr 1; omega) | (congr 1; push_cast; omega) | (simp; done) | (simp; omega)
              · first | (rw [HX.out]; done) | (rw [HX.out]; rfl) | (rw [HX.out]; simp)
              · exact pw_below_drewN HBl.out _
            case measure => simp [intOf]
        · go_wp2
          go_meet
          exact ⟨by rw [HREP.out], by rw [HANY.out], HBl.out⟩
    · have hneS := fun W (ad : Addr) n c => run_neq_slice_nil (P := Tryz.prog) W 38 5 (some ad) n c Tryz.underlying38
      have hneN := fun W => run_neq_slice_nil (P := Tryz.prog) W 38 5 none 0 0 Tryz.underlying38
      simp only [Option.isNone_some, Option.isNone_none, Bool.not_false, Bool.not_true] at hneS hneN
      have t26 : decide ((16 : Int) ≤ (s.size : Int)) = false := by simp; omega
      rw [t26]
      clear t26
      go_wp2
      go_loopw [5, 6, 10] (fun a b i wr => ∃ k e : Nat, k ≤ s.size ∧ i = .int .i64 k ∧ a = .int .i64 e ∧ Aside0 (e + k = (rep ((bytesOf s).take k)).length + s.size) ∧ b = .bool (((bytesOf s).take k).any hit) ∧ Below w.heap.size w wr) (fun _ _ i _ => s.size - (intOf i).toNat)
      case atStart => exact ⟨0, s.size, Nat.zero_le _, rfl, rfl, ⟨by rw [List.take_zero, rep_nil]; simp⟩, by rw [List.take_zero]; rfl, Below.refl _ _⟩
      case round =>
        obtain ⟨k, e, hk, rfl, rfl, HE, hb, hBl⟩ := hrel
        obtain ⟨q, hq⟩ : ∃ q, ((bytesOf s).take k).any hit = q := ⟨_, rfl⟩
        rw [hq] at hb
        subst hb
        have HQ := Aside0.mk hq
        clear hq
        obtain ⟨r1, r2, r3, r4, r5, r6, r7, r8, -, -, -⟩ := HRD.out _ hBl
        have HBl := Aside0.mk hBl
        have hle := rep_len ((bytesOf s).take k)
        have hlt0 : ((bytesOf s).take k).length ≤ k := List.length_take_le _ _
        have he : e ≤ 4000000 := by have := HE.out; omega
        clear hBl r4 r5 r6 r7 r8 hle hlt0
        by_cases hlt : k < s.size
        · obtain ⟨c, hc⟩ : ∃ c, (s[k]'hlt).toNat = c := ⟨_, rfl⟩
          have hc256 : c < 256 := by rw [← hc]; exact (s[k]'hlt).toNat_lt
          have htk := take_byte s k hlt
          rw [hc] at htk
          have HN := Aside0.mk (show (rep ((bytesOf s).take (k + 1))).length = (rep ((bytesOf s).take k)).length + (rp (c : Int)).length by rw [htk, rep_app, List.length_append]; simp [rep])
          have HA := Aside0.mk (show ((bytesOf s).take (k + 1)).any hit = (q || hit (c : Int)) by rw [htk, List.any_append, HQ.out]; simp)
          clear htk
          by_cases h1 : c = 92
          · subst h1
            clear r2 r3
            go_wp2
            go_roundw
            case rel => exact ⟨k + 1, e + 2, hlt, by go_num, by go_num, ⟨by rw [HN.out]; have := HE.out; simp [rp]; omega⟩, by rw [HA.out]; simp [hit], HBl.out⟩
            case measure => simp [intOf]; omega
          · by_cases h2 : c = 124
            · subst h2
              clear r1 r3
              go_wp2
              go_roundw
              case rel => exact ⟨k + 1, e + 2, hlt, by go_num, by go_num, ⟨by rw [HN.out]; have := HE.out; simp [rp]; omega⟩, by rw [HA.out]; simp [hit], HBl.out⟩
              case measure => simp [intOf]; omega
            · have rc := r3 c hc256 h2 h1
              have hh : hit (c : Int) = false := by unfold hit; rw [decide_eq_false (by omega), decide_eq_false (by omega)]; rfl
              have hr : rp (c : Int) = [(c : Int)] := by unfold rp; rw [if_neg (by omega), if_neg (by omega)]
              rw [hr] at HN
              rw [hh] at HA
              clear hh hr r1 r2 r3 h1 h2
              go_wp2
              go_roundw
              case rel => exact ⟨k + 1, e, hlt, by go_num, rfl, ⟨by rw [HN.out]; have := HE.out; simp; omega⟩, by rw [HA.out]; simp, HBl.out⟩
              case measure => simp [intOf]; omega
        · obtain rfl : s.size = k := by omega
          have hall : (bytesOf s).take s.size = bytesOf s := List.take_of_length_le (by rw [bytesOf_length]; exact Nat.le_refl _)
          rw [hall] at HE HQ
          have HEE := Aside0.mk (show e = (rep (bytesOf s)).length by have := HE.out; omega)
          clear r1 r2 r3 hall HE
          go_wp2
          go_meet
          exact ⟨by rw [HEE.out], by rw [HQ.out], HBl.out⟩
  case rest =>
  obtain ⟨rfl, rfl, hBx⟩ := hcut
  clear r1 r2 r4 r5 r6
  obtain ⟨q, hq⟩ : ∃ q, (bytesOf s).any hit = q := ⟨_, rfl⟩
  rw [hq]
  have hlen := rep_len (bytesOf s)
  rw [hl] at hlen
  have HBx := Aside0.mk hBx
  cases q with
  | false =>
    have HF := Aside0.mk (show strOfNums (rep (bytesOf s)) = s by rw [rep_same _ hq, str_bytes])
    clear hq hl hBx hlen hle1 hle2
    obtain ⟨M, hM⟩ : ∃ M, (rep (bytesOf s)).length = M := ⟨_, rfl⟩
    rw [hM]
    clear hM
    go_wp2
    go_ret
    exact ⟨by first | (rw [HF.out]; done) | (rw [HF.out]; rfl), HBx.out⟩
  | true =>
    clear hq
    obtain ⟨M, hM⟩ : ∃ M, (rep (bytesOf s)).length = M := ⟨_, rfl⟩
    rw [hM] at hlen ⊢
    have HM := Aside0.mk hM
    clear hM
    have hM1 : M ≤ 3000000 := by omega
    obtain ⟨i0, hi, hz0, hz1, hz2⟩ := info_parts binfo8
    have hmk := run_make (P := Tryz.prog) wc 38 5 i0 (.int .u8 0) Tryz.underlying38 hi hz0 .i64 .i64 (M : Int) (M : Int) (by omega) (Int.le_refl _) (by rw [hz2]; omega) (by omega)
    rw [Int.toNat_natCast, hz1, Nat.mul_one] at hmk
    have hbuf : Buf wc.heap.size M [] (wc.alloc (.cells (madeCells (Value.int .u8 0).cells M) 5)) := ⟨madeCells (Value.int .u8 0).cells M, by show (wc.heap.push _)[wc.heap.size]? = _; simp, size_madeCells _ _, Nat.zero_le _, rfl⟩
    have hB1 : Below w.heap.size w (wc.alloc (.cells (madeCells (Value.int .u8 0).cells M) 5)) := hBx.alloc hBx.size _
    have hBf := hBx.size
    obtain ⟨W1, hW1⟩ : ∃ W1, wc.alloc (.cells (madeCells (Value.int .u8 0).cells M) 5) = W1 := ⟨_, rfl⟩
    rw [hW1] at hmk hbuf hB1
    obtain ⟨Bf, hBfe⟩ : ∃ Bf, wc.heap.size = Bf := ⟨_, rfl⟩
    rw [hBfe] at hmk hbuf hBf
    have HW := Aside0.mk (And.intro hbuf hB1)
    clear hbuf hB1 hW1 hBfe hi hz0 hz1 hz2 hBx
    go_wp2
    go_loopw [13, 14] (fun j i wr => ∃ k r : Nat, k ≤ s.size ∧ i = .int .i64 k ∧ j = .int .i64 r ∧ Aside0 (r = (rep ((bytesOf s).take k)).length) ∧ Buf Bf M (rep ((bytesOf s).take k)) wr ∧ Below w.heap.size w wr) (fun _ i _ => s.size - (intOf i).toNat)
    case atStart => exact ⟨0, 0, Nat.zero_le _, rfl, rfl, ⟨by rw [List.take_zero]; rfl⟩, by rw [List.take_zero]; exact HW.out.1, HW.out.2⟩
    case round =>
      obtain ⟨k, r, hk, rfl, rfl, HE, hbuf, hBl⟩ := hrel
      obtain ⟨r1, r2, r3, r4, r5, r6, r7, r8, l1, l2, -⟩ := HRD.out _ hBl
      have R7 := Aside0.mk r7
      have R8 := Aside0.mk r8
      have HBl := Aside0.mk hBl
      have hpre : (rep ((bytesOf s).take k)).length ≤ M := by
        have e : rep (bytesOf s) = rep ((bytesOf s).take k) ++ rep ((bytesOf s).drop k) := by rw [← rep_app, List.take_append_drop]
        have := congrArg List.length e
        rw [HM.out, List.length_append] at this
        omega
      have hrM : r ≤ M := by rw [HE.out]; exact hpre
      have HBuf := Aside0.mk hbuf
      clear hBl r4 r5 r6 r7 r8 hbuf hpre
      by_cases hlt : k < s.size
      · obtain ⟨c, hc⟩ : ∃ c, (s[k]'hlt).toNat = c := ⟨_, rfl⟩
        have hc256 : c < 256 := by rw [← hc]; exact (s[k]'hlt).toNat_lt
        have htk := take_byte s k hlt
        rw [hc] at htk
        have HN := Aside0.mk (show rep ((bytesOf s).take (k + 1)) = rep ((bytesOf s).take k) ++ rp (c : Int) by rw [htk, rep_app]; simp [rep])
        have hnext : r + (rp (c : Int)).length ≤ M := by
          have e : rep (bytesOf s) = rep ((bytesOf s).take (k + 1)) ++ rep ((bytesOf s).drop (k + 1)) := by rw [← rep_app, List.take_append_drop]
          have := congrArg List.length e
          rw [HM.out, HN.out, List.length_append, List.length_append, ← HE.out] at this
          omega
        clear htk
        have hneS := fun W (ad : Addr) n c => run_neq_slice_nil (P := Tryz.prog) W 38 5 (some ad) n c Tryz.underlying38
        have hneN := fun W => run_neq_slice_nil (P := Tryz.prog) W 38 5 none 0 0 Tryz.underlying38
        simp only [Option.isNone_some, Option.isNone_none, Bool.not_false, Bool.not_true] at hneS hneN
        by_cases h1 : c = 92
        · subst h1
          have hn2 : r + 3 ≤ M := hnext
          have hb2 := HBuf.out.keep (w' := wr.drew) rfl
          obtain ⟨w3, hcp, hb3, hblk, ho3, ht3, hu3, hs3⟩ := buf_copy hb2 (ys := ([37, 53, 67] : List Int)) (by rw [← HE.out]; exact hnext) g1 c1 (fun j x h => R7.out j x h) (M - r)
          rw [← HE.out] at hcp
          have hcp2 : (Builtin.copy_ #[38, 38] 3 #[.slice (some ⟨Bf, r, none⟩) (M - r) (M - r), .slice (some ⟨g1, 0, none⟩) 3 c1]).run Tryz.prog wr.drew = .ok (.int .i64 3) w3 := hcp
          have hB3 : Below w.heap.size w w3 := HBl.out.drew.trans ⟨ho3, ht3, hu3, by rw [hs3]; exact Nat.le_refl _, fun k hk => hblk k (by omega)⟩
          have H3 := Aside0.mk (And.intro hb3 hB3)
          have hMr : ¬ M = r := by omega
          clear r2 r3 hnext hb2 hcp hb3 hblk ho3 ht3 hu3 hs3 hB3
          go_upto_region 28 with fail
          go_region
          go_wp2
          go_roundw
          case rel => exact ⟨k + 1, r + 3, hlt, by go_num, by go_num, ⟨by rw [HN.out, List.length_append, ← HE.out]; rfl⟩, by rw [HN.out]; exact H3.out.1, H3.out.2⟩
          case measure => simp [intOf]; omega
        · by_cases h2 : c = 124
          · subst h2
            have hn2 : r + 3 ≤ M := hnext
            have hb2 := HBuf.out.keep (w' := wr.drew) rfl
            obtain ⟨w3, hcp, hb3, hblk, ho3, ht3, hu3, hs3⟩ := buf_copy hb2 (ys := ([37, 55, 67] : List Int)) (by rw [← HE.out]; exact hnext) g2 c2 (fun j x h => R8.out j x h) (M - r)
            rw [← HE.out] at hcp
            have hcp2 : (Builtin.copy_ #[38, 38] 3 #[.slice (some ⟨Bf, r, none⟩) (M - r) (M - r), .slice (some ⟨g2, 0, none⟩) 3 c2]).run Tryz.prog wr.drew = .ok (.int .i64 3) w3 := hcp
            have hB3 : Below w.heap.size w w3 := HBl.out.drew.trans ⟨ho3, ht3, hu3, by rw [hs3]; exact Nat.le_refl _, fun k hk => hblk k (by omega)⟩
            have H3 := Aside0.mk (And.intro hb3 hB3)
            have hMr : ¬ M = r := by omega
            clear r1 r3 hnext hb2 hcp hb3 hblk ho3 ht3 hu3 hs3 hB3
            go_upto_region 28 with fail
            go_region
            go_wp2
            go_roundw
            case rel => exact ⟨k + 1, r + 3, hlt, by go_num, by go_num, ⟨by rw [HN.out, List.length_append, ← HE.out]; rfl⟩, by rw [HN.out]; exact H3.out.1, H3.out.2⟩
            case measure => simp [intOf]; omega
          · have rc := r3 c hc256 h2 h1
            have hr : rp (c : Int) = [(c : Int)] := by unfold rp; rw [if_neg (by omega), if_neg (by omega)]
            rw [hr] at HN hnext
            have hn2 : r < M := by simp at hnext; omega
            obtain ⟨v0, hv0⟩ := HBuf.out.cell r hn2
            have hf0 := HBuf.out.free r
            have HH := Aside0.mk (show Buf Bf M (rep ((bytesOf s).take k) ++ [(c : Int)]) (wr.setCell ⟨Bf, r, none⟩ (.int .u8 (c : Int))) by have h := HBuf.out.store (by rw [← HE.out]; exact hn2) (c : Int); rw [← HE.out] at h; exact h)
            clear hr r1 r2 r3 h1 h2 hnext
            go_wp2
            go_roundw
            case rel => exact ⟨k + 1, r + 1, hlt, by go_num, by go_num, ⟨by rw [HN.out, List.length_append, ← HE.out]; rfl⟩, by rw [HN.out]; exact HH.out, HBl.out.setCell (p := ⟨Bf, r, none⟩) hBf _⟩
            case measure => simp [intOf]; omega
      · obtain rfl : s.size = k := by omega
        have hall : (bytesOf s).take s.size = bytesOf s := List.take_of_length_le (by rw [bytesOf_length]; exact Nat.le_refl _)
        rw [hall] at HE HBuf
        have hbM := HBuf.out
        rw [← HM.out] at hbM
        have hstr := buf_str hbM (by rw [HM.out]; omega)
        rw [HM.out] at hstr
        clear r1 r2 r3 hall hbM
        go_wp2
        go_ret
        exact ⟨rfl, HBl.out⟩
end Go.Proofs.YtbbdfamfmkcfhaaGreatDoor.Rpl
