/- base.Encode, walked: three bytes a round by way of an array, four letters a round into a strings.Builder. -/
import Derived.Test.YtbobbbpjphkooaaDoorMapC
namespace Go.Proofs.YtbobbbpjphkooaaDoor.En
open Go.RowKit Go.Shelf Go.Proofs.YtbobbbpjphkooaaDoor.Pa Go.Proofs.YtbobbbpjphkooaaDoor.Pl Go.Proofs.YtbobbbpjphkooaaDoor.Mp Go.Proofs.YtbobbbpjphkooaaDoorW.PrintWords Go.Proofs.YtbobbbpjphkooaaDoorW.PrintLast Go.Proofs.YtbobbbpjphkooaaDoorW.PrintMore
set_option linter.unusedVariables false
set_option linter.unusedSimpArgs false
def LTR : ByteArray := ⟨#[65, 66, 67, 68, 69, 70, 71, 72, 73, 74, 75, 76, 77, 78, 79, 80, 81, 82, 83, 84, 85, 86, 87, 88, 89, 90, 97, 98, 99, 100, 101, 102, 103, 104, 105, 106, 107, 108, 109, 110, 111, 112, 113, 114, 115, 116, 117, 118, 119, 120, 121, 122, 48, 49, 50, 51, 52, 53, 54, 55, 56, 57, 43, 47]⟩
def ltr (n : Nat) : Int := ((LTR.data.toList.getD n 0).toNat : Int)
def x24 (a b c : Nat) : Nat := a * 65536 + b * 256 + c
def grp (a b c n : Nat) : List Int := [ltr (x24 a b c / 262144), ltr (x24 a b c / 4096 % 64), if 2 ≤ n then ltr (x24 a b c / 64 % 64) else 61, if 3 ≤ n then ltr (x24 a b c % 64) else 61]
def encL : List Int → List Int
  | [] => []
  | [a] => grp a.toNat 0 0 1
  | [a, b] => grp a.toNat b.toNat 0 2
  | a :: b :: c :: t => grp a.toNat b.toNat c.toNat 3 ++ encL t
theorem encL_step (l : List Int) (h : l ≠ []) : encL l = grp (l.getD 0 0).toNat (l.getD 1 0).toNat (l.getD 2 0).toNat (min 3 l.length) ++ encL (l.drop (min 3 l.length)) := by
  match l, h with
  | [a], _ => simp [encL]
  | [a, b], _ => simp [encL]
  | a :: b :: c :: t, _ =>
    have e : min 3 (a :: b :: c :: t).length = 3 := by simp only [List.length_cons]; omega
    rw [e]
    simp [encL]
abbrev Ib (B b : Nat) (l : List Int) (w : World) : Prop := Lib.IsBuilder 36 5 B b (l.map (Value.int .u8)) w
theorem at_below {B b : Nat} {p : Value} {bs : List Value} {w w' : World} (h : Lib.BuilderAt 36 5 B b p bs w) (hb : Below w.heap.size w w') : Lib.BuilderAt 36 5 B b p bs w' := by
  have hlt := h.lt
  obtain ⟨hB, v, hk, hown, hne⟩ := h
  exact ⟨hB, v, (hb.block b hlt).trans hk, pw_own_below hown hb, hne⟩
theorem Ib.below {B b : Nat} {l : List Int} {w w' : World} (h : Ib B b l w) (hb : Below w.heap.size w w') : Ib B b l w' := h.elim (fun h => .inl (at_below h hb)) (fun h => .inr (at_below h hb))
theorem src_at {w : World} {A : Option Addr} {m : List Int} (h : Kd.C (Kd.int .u8) w A m.length m) (hne : m ≠ []) : ∃ ad, A = some ad ∧ ∀ j x, m[j]? = some x → w.cell? (ad.add j) = some (.int .u8 x) := by
  have hr := Kd.reads_of_C (enc := Value.int .u8) (d := (0 : Int)) (h1 := fun _ => rfl) h
  obtain ⟨_, _, h3⟩ := hr
  obtain ⟨ad, ha, hc⟩ := h3 (List.length_pos_iff.2 hne)
  refine ⟨ad, ha, fun j x hx => ?_⟩
  obtain ⟨hj, he⟩ := List.getElem?_eq_some_iff.1 hx
  have := hc j hj
  rw [this]
  rw [List.getD_eq_getElem?_getD, hx]
  rfl
theorem enc_copy {A : Option Addr} {c : Nat} {m : List Int} (X : Nat) (w : World) (h : Kd.C (Kd.int .u8) w A m.length m) (hne : m ≠ []) (hX : w.heap[X]? = some (.cells #[.int .u8 0, .int .u8 0, .int .u8 0] 37 (0, 0))) :
    ∃ w', (Builtin.copy_ #[22, 22] 3 #[.slice (some ⟨X, 0, none⟩) 3 3, .slice A m.length c]).run Tryd.prog w = .ok (.int .i64 ((min 3 m.length : Nat) : Int)) w' ∧
      w'.heap[X]? = some (.cells #[.int .u8 (m.getD 0 0), .int .u8 (m.getD 1 0), .int .u8 (m.getD 2 0)] 37 (0, 0)) ∧ (∀ k, k ≠ X → w'.heap[k]? = w.heap[k]?) ∧ w'.os = w.os ∧ w'.tape = w.tape ∧ w'.output = w.output ∧ w'.heap.size = w.heap.size := by
  obtain ⟨ad, rfl, hs⟩ := src_at h hne
  have hc := run_copy_row (P := Tryd.prog) w 22 22 3 5 X 0 3 3 ad m.length c #[.int .u8 0, .int .u8 0, .int .u8 0] 37 ((m.take 3).map (Value.int .u8)) Tryd.underlying22 (by kernel_rfl) hX (by rw [List.length_map, List.length_take]; show _ = min m.length 3; omega) (fun j v hv => by
    rw [List.getElem?_map] at hv
    obtain ⟨x, hx, rfl⟩ := Option.map_eq_some_iff.1 hv
    rw [List.getElem?_take] at hx
    split at hx
    · exact hs j x hx
    · cases hx) (by rw [List.length_map, List.length_take]; show _ ≤ 3; omega) (fun v hv => by obtain ⟨x, _, rfl⟩ := List.mem_map.1 hv; rfl)
  rw [List.length_map, List.length_take] at hc
  refine ⟨_, hc, ?_, fun k hk => by simp [World.setRow, Array.getElem?_modify, Ne.symm hk], rfl, rfl, rfl, by simp [World.setRow]⟩
  match m, hne with
  | [a], _ => simp [World.setRow, Array.getElem?_modify, hX]
  | [a, b], _ => simp [World.setRow, Array.getElem?_modify, hX]
  | a :: b :: d :: t, _ =>
    have e : min 3 (a :: b :: d :: t).length = 3 := by simp only [List.length_cons]; omega
    simp [World.setRow, Array.getElem?_modify, hX]
theorem or_x24 {a b d : Nat} (ha : a < 256) (hb : b < 256) (hd : d < 256) : Go.bits .or .u64 (Go.bits .or .u64 ((a : Int) * 65536) ((b : Int) * 256)) (d : Int) = ((x24 a b d : Nat) : Int) := by
  have w64 : ∀ n : Int, 0 ≤ n → n < 2 ^ 63 → IntKind.u64.wrap n = n := fun n h0 h1 => by
    simp [IntKind.wrap, IntKind.bits, IntKind.signed]
    omega
  have h1 : Go.bits .or .u64 ((a : Int) * 65536) ((b : Int) * 256) = (a : Int) * 65536 + (b : Int) * 256 := bits_join .u64 63 (by decide) w64 16 _ _ (by omega) (by omega) (by omega) (by omega) (by omega) (by omega)
  have h2 : Go.bits .or .u64 ((a : Int) * 65536 + (b : Int) * 256) (d : Int) = (a : Int) * 65536 + (b : Int) * 256 + (d : Int) := bits_join .u64 63 (by decide) w64 8 _ _ (by omega) (by omega) (by omega) (by omega) (by omega) (by omega)
  rw [h1, h2]
  unfold x24
  omega
theorem byte_nat {x : Int} (h : byte x) : ∃ n : Nat, x = n ∧ n < 256 := by
  obtain ⟨h0, h1⟩ := h
  exact ⟨x.toNat, by omega, by omega⟩
theorem wb_ib (B b : Nat) (l : List Int) (w : World) (h : Ib B b l w) (hlen : l.length ≤ 1000000) (hBw : B ≤ w.heap.size) (c : Int) :
    Calls Tryd.prog 13 #[.pointer (some ⟨b, 0, none⟩), .int .u8 c] w fun e w' => e = .returned .nilIface ∧ Ib B b (l ++ [c]) w' ∧ Below B w w' := by
  refine (G.writeByte B b (l.map (Value.int .u8)) c w h (by rw [List.length_map]; omega) hBw).mono ?_
  rintro e w' ⟨he, h1, h2⟩
  refine ⟨he, ?_, h2⟩
  unfold Ib
  rw [List.map_append]
  exact h1
theorem ltr_get (n : Nat) (h : n < LTR.size) : ((LTR[n]'h).toNat : Int) = ltr n := by
  unfold ltr
  rw [List.getD_eq_getElem?_getD, List.getElem?_eq_getElem (by simpa using h)]
  rfl
theorem ltr_byte (n : Nat) : byte (ltr n) := by
  unfold ltr
  have := (LTR.data.toList.getD n 0).toNat_lt
  exact ⟨by omega, by omega⟩
theorem and63 (n : Nat) (h : n < 16777216) : Go.bits .and .u64 (n : Int) 63 = ((n % 64 : Nat) : Int) := by
  have w64 : ∀ n : Int, 0 ≤ n → n < 2 ^ 63 → IntKind.u64.wrap n = n := fun n h0 h1 => by
    simp [IntKind.wrap, IntKind.bits, IntKind.signed]
    omega
  have := bits_mask .u64 63 (by decide) w64 6 (by decide) (n : Int) (by omega) (by omega)
  rw [show (63 : Int) = 2 ^ 6 - 1 by decide, this]
  omega
theorem ib_str {B b : Nat} {acc : List Int} {w : World} (h : Ib B b acc w) (hb : ∀ x ∈ acc, byte x) (hB : B ≤ w.heap.size) :
    Calls Tryd.prog 14 #[.pointer (some ⟨b, 0, none⟩)] w fun e w' => e = .returned (.string (strOfNums acc)) ∧ Below B w w' := by
  have e : ofB (acc.map fun n => UInt8.ofNat n.toNat) = acc := by
    unfold ofB
    rw [List.map_map]
    refine (List.map_congr_left (g := id) fun x hx => ?_).trans (List.map_id _)
    obtain ⟨h0, h1⟩ := hb x hx
    simp
    omega
  have h2 := Tryd.Builder_String_any B b (acc.map fun n => UInt8.ofNat n.toNat) w (by rw [cells_ofB, e]; exact h) hB
  exact h2
set_option maxHeartbeats 8000000 in
set_option maxRecDepth 100000 in
theorem enc_any (A : Option Addr) (c : Nat) (l : List Int) (w : World) (h : Kd.C (Kd.int .u8) w A l.length l) (hc : l.length ≤ c) (hb : ∀ x ∈ l, byte x) (hl : l.length ≤ 100000) :
    Calls Tryd.prog 9 #[.slice A l.length c] w fun e w' => e = .returned (.string (strOfNums (encL l))) ∧ Below w.heap.size w w' := by
  have HC := Aside0.mk h
  have HB := Aside0.mk hb
  obtain ⟨ANS, hA⟩ : ∃ ANS, encL l = ANS := ⟨_, rfl⟩
  rw [hA]
  clear h hb
  go_enter Tryd.func9, Tryd.ntmps9
  go_wp2
  go_loopg [0] l.length (fun gk s0 wx => ∃ (A : Option Addr) (m : List Int) (c : Nat) (acc : List Int), s0 = .slice A m.length c ∧ m.length ≤ c ∧ Kd.C (Kd.int .u8) w A m.length m ∧ (∀ x ∈ m, byte x) ∧ Ib w.heap.size w.heap.size acc wx ∧ Below w.heap.size w wx ∧ acc ++ encL m = ANS ∧ m.length ≤ gk ∧ acc.length + 4 * m.length ≤ 400000 ∧ ∀ x ∈ acc, byte x)
  case atStart => exact ⟨A, l, c, [], rfl, hc, HC.out, HB.out, Lib.fresh_isBuilder _ _ w, (Below.refl _ w).alloc (Nat.le_refl _) _, hA, Nat.le_refl _, by simp; omega, fun x hx => by cases hx⟩
  case round =>
    obtain ⟨A, m, c, acc, rfl, hmc, hC, hby, hI, hbw, hans, hgk, hacc, hab⟩ := hrel
    have HAB := Aside0.mk hab
    clear hab
    by_cases hz : m = []
    · subst hz
      have HS := Aside0.mk (ib_str hI HAB.out hbw.size)
      have HBW := Aside0.mk hbw
      have HAN := Aside0.mk hans
      clear hI hbw hans HC HB hC hby
      go_wp2_with (go_at_call 14; (with_reducible refine HS.out.mono ?_); rintro e W8 ⟨rfl, hb8⟩; have HB8 := Aside0.mk hb8; clear hb8)
      go_ret
      exact ⟨by rw [← HAN.out, encL, List.append_nil]; rfl, HBW.out.trans HB8.out⟩
    · have hpos : 0 < m.length := List.length_pos_iff.2 hz
      obtain ⟨N, hN⟩ : ∃ N, min 3 m.length = N := ⟨_, rfl⟩
      have hstep := encL_step m hz
      rw [hN] at hstep
      have hby0 : ∀ j, byte (m.getD j 0) := fun j => by
        rw [List.getD_eq_getElem?_getD]
        cases hx : m[j]? with
        | none => exact ⟨by decide, by decide⟩
        | some x => exact hby x (List.mem_of_getElem? hx)
      obtain ⟨a, ha, ha2⟩ := byte_nat (hby0 0)
      obtain ⟨b, hb, hb2⟩ := byte_nat (hby0 1)
      obtain ⟨d, hd, hd2⟩ := byte_nat (hby0 2)
      rw [ha, hb, hd] at hstep
      simp only [Int.toNat_natCast] at hstep
      have hnew : (wr.alloc (.cells #[.int .u8 0, .int .u8 0, .int .u8 0] 37)).heap[wr.heap.size]? = some (.cells #[.int .u8 0, .int .u8 0, .int .u8 0] 37 (0, 0)) := heap_alloc_new wr _
      obtain ⟨W2, hcp, hX2, hoth, hos, htp, hop, hsz⟩ := enc_copy (c := c) wr.heap.size _ (Kd.C_below hC (hbw.alloc hbw.size _)) hz hnew
      rw [ha, hb, hd] at hX2
      rw [hN] at hcp
      have hbW : Below wr.heap.size wr W2 := ⟨hos, htp, hop, by rw [hsz]; simp, fun k hk => by rw [hoth k (by omega)]; exact Lib.alloc_old wr _ k hk⟩
      have x0 : W2.cell? ⟨wr.heap.size, 0, none⟩ = some (.int .u8 a) := blkc hX2 rfl
      have x1 : W2.cell? ⟨wr.heap.size, 1, none⟩ = some (.int .u8 b) := blkc hX2 rfl
      have x2 : W2.cell? ⟨wr.heap.size, 2, none⟩ = some (.int .u8 d) := blkc hX2 rfl
      have hor := or_x24 ha2 hb2 hd2
      have HI := Aside0.mk (hI.below hbW)
      have HBW := Aside0.mk (hbw.trans (hbW.mono hbw.size))
      have HCM := Aside0.mk hC
      have HBY := Aside0.mk hby
      have HST := Aside0.mk hstep
      have HAN := Aside0.mk hans
      have HNN := Aside0.mk hN
      have hN1 : 1 ≤ N ∧ N ≤ 3 ∧ N ≤ m.length := by omega
      clear HC HB hI hbW hbw hC hby hstep hans hN hX2 hoth hos htp hop hsz hby0 ha hb hd hnew hz
      obtain ⟨X, hX⟩ : ∃ X, x24 a b d = X := ⟨_, rfl⟩
      have hXl : X < 16777216 := by rw [← hX]; unfold x24; omega
      have HX := Aside0.mk hX
      rw [hX] at hor
      clear hX
      go_wp2
      all_goals (
        go_loopg [31] 4 (fun gk s31 wx => Below w.heap.size w wx ∧ ((gk = 4 ∧ s31 = .int .i64 0 ∧ Ib w.heap.size w.heap.size acc wx) ∨ (gk = 3 ∧ s31 = .int .i64 1 ∧ Ib w.heap.size w.heap.size (acc ++ [ltr (X / 262144)]) wx) ∨ (gk = 2 ∧ s31 = .int .i64 2 ∧ Ib w.heap.size w.heap.size (acc ++ [ltr (X / 262144)] ++ [ltr (X / 4096 % 64)]) wx)
          ∨ (gk = 1 ∧ s31 = .int .i64 3 ∧ Ib w.heap.size w.heap.size (acc ++ [ltr (X / 262144)] ++ [ltr (X / 4096 % 64)] ++ [if 2 ≤ N then ltr (X / 64 % 64) else 61]) wx) ∨ (gk = 0 ∧ s31 = .int .i64 4 ∧ Ib w.heap.size w.heap.size (acc ++ [ltr (X / 262144)] ++ [ltr (X / 4096 % 64)] ++ [if 2 ≤ N then ltr (X / 64 % 64) else 61] ++ [if 3 ≤ N then ltr (X % 64) else 61]) wx)))
        case atStart => exact ⟨HBW.out, .inl ⟨rfl, rfl, HI.out⟩⟩
        case round =>
          obtain ⟨hbw, hr⟩ := hrel
          have HBW2 := Aside0.mk hbw
          clear hbw
          rcases hr with ⟨rfl, rfl, hI⟩ | ⟨rfl, rfl, hI⟩ | ⟨rfl, rfl, hI⟩ | ⟨rfl, rfl, hI⟩ | ⟨rfl, rfl, hI⟩
          · have HWB := Aside0.mk (wb_ib w.heap.size w.heap.size _ wr hI (by omega) HBW2.out.size)
            clear hI
            have dN : decide (0 ≤ (N : Int)) = true := decide_eq_true (by omega)
            obtain ⟨I, hI0⟩ : ∃ I, X / 262144 = I := ⟨_, rfl⟩
            have hI64 : I < 64 := by omega
            have hix : Go.bits .and .u64 ((X : Int) / 262144) 63 = (I : Int) := by rw [show (X : Int) / 262144 = ((X / 262144 : Nat) : Int) by omega, and63 _ (by omega)]; omega
            have HI0 := Aside0.mk hI0
            clear hI0
            go_wp2_with (go_at_call 13; (with_reducible refine (HWB.out _).mono ?_); rintro e W7 ⟨rfl, h7, b7⟩; have H7 := Aside0.mk (And.intro h7 b7); clear h7 b7)
            go_roundg 3
            case measure => omega
            case rel =>
              refine ⟨HBW2.out.trans H7.out.2, .inr (.inl ⟨rfl, rfl, ?_⟩)⟩
              rw [HI0.out, ← ltr_get I hI64]; exact H7.out.1
          · have HWB := Aside0.mk (wb_ib w.heap.size w.heap.size _ wr hI (by simp; omega) HBW2.out.size)
            clear hI
            have dN : decide (1 ≤ (N : Int)) = true := decide_eq_true (by omega)
            obtain ⟨I, hI0⟩ : ∃ I, X / 4096 % 64 = I := ⟨_, rfl⟩
            have hI64 : I < 64 := by omega
            have hix : Go.bits .and .u64 ((X : Int) / 4096) 63 = (I : Int) := by rw [show (X : Int) / 4096 = ((X / 4096 : Nat) : Int) by omega, and63 _ (by omega)]; omega
            have HI0 := Aside0.mk hI0
            clear hI0
            go_wp2_with (go_at_call 13; (with_reducible refine (HWB.out _).mono ?_); rintro e W7 ⟨rfl, h7, b7⟩; have H7 := Aside0.mk (And.intro h7 b7); clear h7 b7)
            go_roundg 2
            case measure => omega
            case rel =>
              refine ⟨HBW2.out.trans H7.out.2, .inr (.inr (.inl ⟨rfl, rfl, ?_⟩))⟩
              rw [HI0.out, ← ltr_get I hI64]; exact H7.out.1
          · have HWB := Aside0.mk (wb_ib w.heap.size w.heap.size _ wr hI (by simp; omega) HBW2.out.size)
            clear hI
            by_cases hk : 2 ≤ N
            · have dN : decide (2 ≤ (N : Int)) = true := decide_eq_true (by omega)
              obtain ⟨I, hI0⟩ : ∃ I, X / 64 % 64 = I := ⟨_, rfl⟩
              have hI64 : I < 64 := by omega
              have hix : Go.bits .and .u64 ((X : Int) / 64) 63 = (I : Int) := by rw [show (X : Int) / 64 = ((X / 64 : Nat) : Int) by omega, and63 _ (by omega)]; omega
              have HI0 := Aside0.mk hI0
              clear hI0
              go_wp2_with (go_at_call 13; (with_reducible refine (HWB.out _).mono ?_); rintro e W7 ⟨rfl, h7, b7⟩; have H7 := Aside0.mk (And.intro h7 b7); clear h7 b7)
              go_roundg 1
              case measure => omega
              case rel =>
                refine ⟨HBW2.out.trans H7.out.2, .inr (.inr (.inr (.inl ⟨rfl, rfl, ?_⟩)))⟩
                rw [if_pos (c := 2 ≤ N) hk, HI0.out, ← ltr_get I hI64]; exact H7.out.1
            · have dN : decide (2 ≤ (N : Int)) = false := decide_eq_false (by omega)
              go_wp2_with (go_at_call 13; (with_reducible refine (HWB.out _).mono ?_); rintro e W7 ⟨rfl, h7, b7⟩; have H7 := Aside0.mk (And.intro h7 b7); clear h7 b7)
              go_roundg 1
              case measure => omega
              case rel =>
                refine ⟨HBW2.out.trans H7.out.2, .inr (.inr (.inr (.inl ⟨rfl, rfl, ?_⟩)))⟩
                rw [if_neg (c := 2 ≤ N) hk]; exact H7.out.1
          · have HWB := Aside0.mk (wb_ib w.heap.size w.heap.size _ wr hI (by simp; omega) HBW2.out.size)
            clear hI
            by_cases hk : 3 ≤ N
            · have dN : decide (3 ≤ (N : Int)) = true := decide_eq_true (by omega)
              obtain ⟨I, hI0⟩ : ∃ I, X % 64 = I := ⟨_, rfl⟩
              have hI64 : I < 64 := by omega
              have hix : Go.bits .and .u64 (X : Int) 63 = (I : Int) := by rw [and63 _ hXl]; omega
              have HI0 := Aside0.mk hI0
              clear hI0
              go_wp2_with (go_at_call 13; (with_reducible refine (HWB.out _).mono ?_); rintro e W7 ⟨rfl, h7, b7⟩; have H7 := Aside0.mk (And.intro h7 b7); clear h7 b7)
              go_roundg 0
              case measure => omega
              case rel =>
                refine ⟨HBW2.out.trans H7.out.2, .inr (.inr (.inr (.inr (⟨rfl, rfl, ?_⟩))))⟩
                rw [if_pos (c := 3 ≤ N) hk, HI0.out, ← ltr_get I hI64]; exact H7.out.1
            · have dN : decide (3 ≤ (N : Int)) = false := decide_eq_false (by omega)
              go_wp2_with (go_at_call 13; (with_reducible refine (HWB.out _).mono ?_); rintro e W7 ⟨rfl, h7, b7⟩; have H7 := Aside0.mk (And.intro h7 b7); clear h7 b7)
              go_roundg 0
              case measure => omega
              case rel =>
                refine ⟨HBW2.out.trans H7.out.2, .inr (.inr (.inr (.inr (⟨rfl, rfl, ?_⟩))))⟩
                rw [if_neg (c := 3 ≤ N) hk]; exact H7.out.1
          · have HI4 := Aside0.mk hI
            clear hI
            go_wp2
            go_roundg (m.length - N)
            case measure => omega
            case rel =>
              refine ⟨_, m.drop N, _, acc ++ [ltr (X / 262144)] ++ [ltr (X / 4096 % 64)] ++ [if 2 ≤ N then ltr (X / 64 % 64) else 61] ++ [if 3 ≤ N then ltr (X % 64) else 61], by rw [List.length_drop], by rw [List.length_drop]; omega, ?_, fun x hx => HBY.out x (List.mem_of_mem_drop hx), HI4.out, HBW2.out, ?_, by rw [List.length_drop]; exact Nat.le_refl _, by simp; omega, ?_⟩
              · have hd := Kd.C_drop (m := N) HCM.out hN1.2.2 hmc
                first
                  | (rw [if_pos (by assumption)] at hd; exact hd)
                  | (rw [if_neg (by assumption), show N * (Kd.int .u8).sz = N from Nat.mul_one N] at hd; exact hd)
              · rw [← HAN.out, HST.out]
                unfold grp
                rw [HX.out]
                simp only [List.append_assoc, List.cons_append, List.nil_append]
              · intro x hx
                have b61 : byte (61 : Int) := ⟨by decide, by decide⟩
                simp only [List.mem_append, List.mem_singleton] at hx
                rcases hx with (((hx | rfl) | rfl) | rfl) | rfl
                · exact HAB.out x hx
                · exact ltr_byte _
                · exact ltr_byte _
                · split
                  · exact ltr_byte _
                  · exact b61
                · split
                  · exact ltr_byte _
                  · exact b61)
end Go.Proofs.YtbobbbpjphkooaaDoor.En
