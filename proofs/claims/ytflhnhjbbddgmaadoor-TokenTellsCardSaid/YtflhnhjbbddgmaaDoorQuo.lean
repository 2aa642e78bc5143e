/- token.Quotable, walked: a range over the text, then Valid of its bytes; what was there has not turned. Under the two tables as they are laid. -/
import Derived.Test.YtflhnhjbbddgmaaDoorGWords
import Derived.Test.YtflhnhjbbddgmaaDoorTab04
import Derived.Test.YtflhnhjbbddgmaaDoorValG
import Derived.Laws.RangeAny
import Derived.Laws.RangeString
import Derived.Lib.ConvBytes
import Derived.Tactics
import Derived.WalkKit
import Derived.KernelRfl
namespace Go.Proofs.YtflhnhjbbddgmaaDoor.Quo
open Go.RowKit Go.Shelf Go.Proofs.YtflhnhjbbddgmaaDoorW.PrintWords Go.Proofs.YtflhnhjbbddgmaaDoorW.PrintLast Go.Proofs.YtflhnhjbbddgmaaDoorW.PrintMore Go.Proofs.YtflhnhjbbddgmaaDoor.Pl
set_option linter.unusedVariables false
def badr (r : Nat) : Bool := !decide (r = 9) && (decide (r < 32) || decide (126 < r)) && (decide (r < 128) || decide (255 < r))
def goodAt (s : ByteArray) : Nat → Nat → Bool
  | 0, _ => true
  | b + 1, pos => if pos < s.size then (if badr (Utf8.decode s pos).1 = true then false else goodAt s b (pos + (Utf8.decode s pos).2)) else true
theorem good_end (s : ByteArray) (b pos : Nat) (h : ¬ pos < s.size) : goodAt s b pos = true := by
  cases b with
  | zero => rfl
  | succ b => simp [goodAt, h]
theorem width_pos (s : ByteArray) (pos : Nat) (h : pos < s.size) : 1 ≤ (Utf8.decode s pos).2 := by
  by_cases ha : (s[pos]'h).toNat < 128
  · rw [decode_ascii s pos h ha]
    exact Nat.le_refl _
  · exact (decode_high s pos h (by omega)).2
def quoB (s : ByteArray) : Bool := goodAt s s.size 0 && Lib.validD s.data.toList
theorem iter_below (w : World) (s : ByteArray) (pos : Nat) : Below w.heap.size w (w.iter s pos) := (Below.refl _ _).alloc (Nat.le_refl _) _
theorem map_bytes (s : ByteArray) : (bytesOf s).map (fun n => UInt8.ofNat n.toNat) = s.data.toList := by
  rw [← data_of_bytes, ByteArray.toList_eq]
set_option maxHeartbeats 1000000 in
set_option maxRecDepth 100000 in
theorem utf_valid {w : World} {A : Option Addr} {c : Nat} {l : List Int} (h : Kd.C (Kd.int .u8) w A l.length l) (hc : l.length ≤ c) (hb : ∀ x ∈ l, byte x) (hT : G.T w) :
    Calls Tryd.prog 29 #[.slice A l.length c] w fun e w' => e = .returned (.bool (Lib.validD (l.map fun n => UInt8.ofNat n.toNat))) ∧ Below w.heap.size w w' := by
  have HV := Aside0.mk (G.valid_of h hc hb hT)
  clear h hc hb hT
  obtain ⟨n, hn⟩ : ∃ n, l.length = n := ⟨_, rfl⟩
  obtain ⟨B, hB⟩ : ∃ B, Lib.validD (l.map fun n => UInt8.ofNat n.toNat) = B := ⟨_, rfl⟩
  rw [hn, hB] at HV
  rw [hn, hB]
  clear hn hB
  go_enter Tryd.func29, Tryd.ntmps29
  go_wp2_with (go_at_call 43; (with_reducible refine HV.out.mono ?_); rintro e w1 ⟨rfl, hb⟩; have HB := Aside0.mk hb; clear hb)
  go_ret
  exact ⟨rfl, HB.out⟩
set_option maxHeartbeats 2000000 in
set_option maxRecDepth 100000 in
theorem quo_any (s : ByteArray) (w : World) (hs : s.size ≤ 140737488355328) (hT : G.T w) :
    Calls Tryd.prog 13 #[.string s] w fun e w' => e = .returned (.bool (quoB s)) ∧ Below w.heap.size w w' := by
  have hconv := fun wx => Lib.run_convert_string_bytes (P := Tryd.prog) wx 9 35 5 s Tryd.underlying9 Tryd.underlying35 Tryd.underlying5
  have HT := Aside0.mk hT
  have HS := Aside0.mk hs
  clear hT hs
  go_enter Tryd.func13, Tryd.ntmps13
  go_wp2
  go_loopw [4] (fun _ w' => ∃ pos b : Nat, w' = w.iter s pos ∧ goodAt s b pos = goodAt s s.size 0 ∧ s.size ≤ pos + b) (fun _ w' => s.size - w'.iterPos w.heap.size)
  case atStart => exact ⟨0, s.size, rfl, rfl, by omega⟩
  case round =>
    obtain ⟨pos, b, rfl, hc, hb⟩ := hrel
    have HC := Aside0.mk hc
    clear hc
    by_cases hp : pos < s.size
    · have hnx : ∀ ty, (Instr.next (.pointer (some ⟨w.heap.size, 0, none⟩)) true ty).run Tryd.prog (w.iter s pos) = _ := fun ty => run_next_any w s pos ty hp
      have hwd := width_pos s pos hp
      obtain ⟨b, rfl⟩ : ∃ j, b = j + 1 := ⟨b - 1, by omega⟩
      have hst : goodAt s (b + 1) pos = (if badr (Utf8.decode s pos).1 = true then false else goodAt s b (pos + (Utf8.decode s pos).2)) := by simp [goodAt, hp]
      rw [hst] at HC
      clear hst
      have hle := decode_le s pos
      obtain ⟨r, hr⟩ : ∃ r, (Utf8.decode s pos).1 = r := ⟨_, rfl⟩
      obtain ⟨n, hn⟩ : ∃ n, (Utf8.decode s pos).2 = n := ⟨_, rfl⟩
      rw [hr, hn] at hnx HC
      rw [hr] at hle
      rw [hn] at hwd
      clear hr hn
      by_cases hbad : badr r = true
      · rw [if_pos hbad] at HC
        have HQ := Aside0.mk (show quoB s = false by unfold quoB; rw [← HC.out]; rfl)
        clear HC
        have hc1 : ((r : Int) != 9) = true := by unfold badr at hbad; simp at hbad ⊢; omega
        by_cases h1 : (r : Int) < 32
        · have d1 : decide ((r : Int) < 32) = true := decide_eq_true h1
          have d2 : decide ((r : Int) < 128) = true := decide_eq_true (by omega)
          clear hbad h1
          go_wp2
          go_ret
          exact ⟨by first | (rw [HQ.out]; done) | (rw [HQ.out]; rfl), iter_below _ _ _⟩
        · have d1 : decide ((r : Int) < 32) = false := decide_eq_false h1
          have h2 : (126 : Int) < r := by unfold badr at hbad; simp at hbad; omega
          have d2 : decide ((126 : Int) < (r : Int)) = true := decide_eq_true h2
          by_cases h3 : (r : Int) < 128
          · have d3 : decide ((r : Int) < 128) = true := decide_eq_true h3
            clear hbad h1
            go_wp2
            go_ret
            exact ⟨by first | (rw [HQ.out]; done) | (rw [HQ.out]; rfl), iter_below _ _ _⟩
          · have d3 : decide ((r : Int) < 128) = false := decide_eq_false h3
            have h4 : (255 : Int) < r := by unfold badr at hbad; simp at hbad; omega
            have d4 : decide ((255 : Int) < (r : Int)) = true := decide_eq_true h4
            clear hbad h1
            go_wp2
            go_ret
            exact ⟨by first | (rw [HQ.out]; done) | (rw [HQ.out]; rfl), iter_below _ _ _⟩
      · rw [if_neg hbad] at HC
        have hmeas : s.size - (pos + n) < s.size - pos := by omega
        by_cases h9 : (r : Int) = 9
        · have d0 : ((r : Int) != 9) = false := by simp; omega
          clear hbad
          have hr9 : r = 9 := by omega
          subst hr9
          clear h9 d0
          go_wp2
          all_goals (go_roundw; (case rel => exact ⟨pos + n, b, rfl, HC.out, by omega⟩); (case measure => simp; omega))
        · have d0 : ((r : Int) != 9) = true := by simp; omega
          by_cases h1 : (r : Int) < 32
          · exfalso; unfold badr at hbad; simp at hbad; omega
          · have d1 : decide ((r : Int) < 32) = false := decide_eq_false h1
            by_cases h2 : (126 : Int) < r
            · have d2 : decide ((126 : Int) < (r : Int)) = true := decide_eq_true h2
              have h3 : ¬ (r : Int) < 128 := by unfold badr at hbad; simp at hbad; omega
              have h4 : ¬ (255 : Int) < (r : Int) := by unfold badr at hbad; simp at hbad; omega
              have d3 : decide ((r : Int) < 128) = false := decide_eq_false h3
              have d4 : decide ((255 : Int) < (r : Int)) = false := decide_eq_false h4
              clear hbad
              go_wp2
              all_goals (go_roundw; (case rel => exact ⟨pos + n, b, rfl, HC.out, by omega⟩); (case measure => simp; omega))
            · have d2 : decide ((126 : Int) < (r : Int)) = false := decide_eq_false h2
              clear hbad
              go_wp2
              all_goals (go_roundw; (case rel => exact ⟨pos + n, b, rfl, HC.out, by omega⟩); (case measure => simp; omega))
    · have hnx : ∀ ty, (Instr.next (.pointer (some ⟨w.heap.size, 0, none⟩)) true ty).run Tryd.prog (w.iter s pos) = _ := fun ty => run_next_end w s pos ty hp
      have hg := HC.out
      rw [good_end s b pos hp] at hg
      have HQ := Aside0.mk (show quoB s = Lib.validD s.data.toList by unfold quoB; rw [← hg]; rfl)
      clear hg HC
      have HVV := Aside0.mk (show ∀ v1 w1, Kd.V (Kd.int .u8) 5 w1 0 (fun k => (w.iter s pos).heap.size ≤ k) v1 (bytesOf s) → True from fun _ _ _ => trivial)
      have hB1 := iter_below w s pos
      have hB2 := G.bytesWorld_below (w.iter s pos) 5 s
      have hB3 : Below w.heap.size w (Lib.bytesWorld (w.iter s pos) 5 s) := hB1.trans (hB2.mono hB1.size)
      have hKV := G.bytesWorld_V (w.iter s pos) 5 0 s (grownCap (w.iter s pos) s.size 0 5) (G.grownCap_le _ _ _) HS.out
      obtain ⟨A, c, hv, hle, hCC⟩ := hKV
      have hCW := hCC _ (fun k hk1 hk2 => rfl)
      have hl := bytesOf_length s
      have HV := Aside0.mk (utf_valid (c := c) hCW hle (bytes_all s) (G.T_below HT.out hB3))
      rw [map_bytes, hl] at HV
      rw [hl] at hv
      have HB3 := Aside0.mk hB3
      have hconv2 := hconv (w.iter s pos)
      rw [hv] at hconv2
      clear hB1 hB2 hB3 hCC hCW hl hconv HVV hle hv
      obtain ⟨W1, hW1⟩ : ∃ W1, Lib.bytesWorld (w.iter s pos) 5 s = W1 := ⟨_, rfl⟩
      rw [hW1] at HV HB3 hconv2
      clear hW1
      go_wp2_with (go_at_call 29; (with_reducible refine HV.out.mono ?_); rintro e w2 ⟨rfl, hb⟩; have HB := Aside0.mk hb; clear hb)
      go_ret
      exact ⟨by first | (rw [HQ.out]; done) | (rw [HQ.out]; rfl), HB3.out.trans (HB.out.mono HB3.out.size)⟩
end Go.Proofs.YtflhnhjbbddgmaaDoor.Quo
