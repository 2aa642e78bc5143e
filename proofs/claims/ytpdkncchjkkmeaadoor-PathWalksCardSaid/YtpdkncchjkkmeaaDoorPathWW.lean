/- The path that comes of any path and any segments, and a shortened one, are what the reference says; the path stays: the law's walk. -/
import Derived.Test.YtpdkncchjkkmeaaDoorPathR
import Derived.Test.YtpdkncchjkkmeaaDoorPathRef
namespace Go.Proofs.YtpdkncchjkkmeaaDoor.Path
open Go.RowKit Go.Proofs.YtpdkncchjkkmeaaDoor.P Go.Proofs.YtpdkncchjkkmeaaDoor.Pl Go.Proofs.YtpdkncchjkkmeaaDoor.Spl Go.Proofs.YtpdkncchjkkmeaaDoorW.PrintWords Go.Proofs.YtpdkncchjkkmeaaDoorW.PrintLast Go.Proofs.YtpdkncchjkkmeaaDoorW.PrintMore Go.Proofs.YtpdkncchjkkmeaaDoor.G
set_option linter.unusedVariables false
theorem walk_call (K : Nat) (file sp : Bool) (A : Option Addr) (c n q : Nat) (l X : List ByteArray) (s : ByteArray) (w : World) (hn : l.length = n) (hq : X.length = q) (hC : Kd.C Kd.string w A n l) (hc : n ≤ c) (f : path_Walk.f K file sp l s = some X) (hT : G.T w) :
    Calls Tryd.prog 9 #[.bool file, .bool sp, .slice A n c, .string s] w fun e w' => ∃ A' c', e = .returned (.slice A' q c') ∧ q ≤ c' ∧ Kd.C Kd.string w' A' q X ∧ Below w.heap.size w w' := by
  subst hn hq
  refine (path_Walk.calls K file sp A c l s X w hC hc f hT).mono ?_
  rintro e w' ⟨v, rfl, hR, hB⟩
  obtain ⟨A', c', rfl, h1, h2⟩ := Kd.R_reads hR
  exact ⟨A', c', rfl, h1, h2, hB⟩
theorem rwalk_call (K : Nat) (file sp : Bool) (A : Option Addr) (c n q : Nat) (l X : List ByteArray) (s : ByteArray) (w : World) (hn : l.length = n) (hq : X.length = q) (hC : Kd.C Kd.string w A n l) (hc : n ≤ c) (f : carryallref10_Walk.f K file sp l s = some X) :
    Calls Tryd.prog 12 #[.bool file, .bool sp, .slice A n c, .string s] w fun e w' => ∃ A' c', e = .returned (.slice A' q c') ∧ q ≤ c' ∧ Kd.C Kd.string w' A' q X ∧ Below w.heap.size w w' := by
  subst hn hq
  refine (carryallref10_Walk.calls K file sp A c l s X w hC hc f).mono ?_
  rintro e w' ⟨v, rfl, hR, hB⟩
  obtain ⟨A', c', rfl, h1, h2⟩ := Kd.R_reads hR
  exact ⟨A', c', rfl, h1, h2, hB⟩
theorem short_call (K : Nat) (file : Bool) (A : Option Addr) (c n q : Nat) (l Y : List ByteArray) (w : World) (hn : l.length = n) (hq : Y.length = q) (hC : Kd.C Kd.string w A n l) (hc : n ≤ c) (f : path_Shorten.f K file l = some Y) :
    Calls Tryd.prog 10 #[.bool file, .slice A n c] w fun e w' => ∃ A' c', e = .returned (.slice A' q c') ∧ q ≤ c' ∧ Kd.C Kd.string w' A' q Y ∧ Kd.R Kd.string 9 w' w.heap.size (fun _ => True) (.slice A' q c') Y ∧ Below w.heap.size w w' := by
  subst hn hq
  refine (path_Shorten.calls K file A c l Y w hC hc f).mono ?_
  rintro e w' ⟨v, rfl, hR, hB⟩
  obtain ⟨A', c', rfl, h1, h2⟩ := Kd.R_reads hR
  exact ⟨A', c', rfl, h1, h2, hR, hB⟩
theorem rshort_call' (file : Bool) (A : Option Addr) (c n q : Nat) (l Y : List ByteArray) (w : World) (hn : l.length = n) (hq : Y.length = q) (hY : shortB file l = Y) (hC : Kd.C Kd.string w A n l) (hc : n ≤ c) (hl : n ≤ 20) :
    Calls Tryd.prog 13 #[.bool file, .slice A n c] w fun e w' => ∃ A' c', e = .returned (.slice A' q c') ∧ q ≤ c' ∧ Kd.C Kd.string w' A' q Y ∧ Below w.heap.size w w' := by
  subst hn hY
  exact rshort_call file A c q l w hq hC hc hl
theorem same_call (K : Nat) (A1 A2 : Option Addr) (c1 c2 n : Nat) (X : List ByteArray) (w : World) (hn : X.length = n) (h1 : Kd.C Kd.string w A1 n X) (hc1 : n ≤ c1) (h2 : Kd.C Kd.string w A2 n X) (hc2 : n ≤ c2) (f : carryallref10_Same.f K X X = some true) :
    Calls Tryd.prog 11 #[.slice A1 n c1, .slice A2 n c2] w fun e w' => e = .returned (.bool true) ∧ Drawn0 w w' := by
  subst hn
  exact carryallref10_Same.calls K A1 c1 X A2 c2 X true w h1 hc1 h2 hc2 f
theorem few_call (K : Nat) (A : Option Addr) (c n : Nat) (l : List ByteArray) (b : Bool) (w : World) (hn : l.length = n) (h : Kd.C Kd.string w A n l) (hc : n ≤ c) (f : carryalllaw10_few.f K l = some b) :
    Calls Tryd.prog 8 #[.slice A n c] w fun e w' => e = .returned (.bool b) ∧ Drawn0 w w' := by
  subst hn
  exact carryalllaw10_few.calls K A c l b w h hc f
theorem drawn_below {B : Nat} {a w w' : World} (h : Below B a w) (hd : Drawn0 w w') : Below B a w' := by
  obtain ⟨nd, rfl⟩ := hd
  exact pw_below_drewN h nd
set_option maxHeartbeats 8000000 in
set_option maxRecDepth 100000 in
theorem walks_on (K n nx ny : Nat) (file sp : Bool) (A : Option Addr) (c : Nat) (l X Y : List ByteArray) (s : ByteArray) (w : World) (hT : G.T w) (hln : l.length = n) (hXl : X.length = nx) (hYl : Y.length = ny) (hC : Kd.C Kd.string w A n l) (hc : n ≤ c) (hl20 : n ≤ 20) (hny : ny ≤ 20) (hs : s.size ≤ 400)
    (fA : carryalllaw10_awake.f K = some true) (fF : carryalllaw10_few.f K l = some true) (fW : path_Walk.f K file sp l s = some X) (fR : carryallref10_Walk.f K file sp l s = some X) (fS : path_Shorten.f K file l = some Y) (hY : shortB file l = Y)
    (s1 : carryallref10_Same.f K X X = some true) (s2 : carryallref10_Same.f K Y Y = some true) (s3 : carryallref10_Same.f K l l = some true) :
    Calls Tryd.prog 3 #[.bool file, .bool sp, .slice A n c, .string s] w fun e w' => e = .returned (.bool true) ∧ Below w.heap.size w w' := by
  have HT := Aside0.mk hT
  have HC := Aside0.mk hC
  have HCc := Aside0.mk hc
  have FW := Aside0.mk fW
  have FR := Aside0.mk fR
  have FS := Aside0.mk fS
  have FF := Aside0.mk fF
  have S1 := Aside0.mk s1
  have S2 := Aside0.mk s2
  have S3 := Aside0.mk s3
  clear hT hC hc fW fR fS fF s1 s2 s3
  have g400 : decide ((s.size : Int) > 400) = false := decide_eq_false (by omega)
  obtain ⟨i0, hi, hz0, hz1, hz2⟩ := info_parts info9
  go_enter Tryd.func3, Tryd.ntmps3
  have hA := carryalllaw10_awake.calls K true w fA HT.out
  go_wp2_with fail
  refine hA.mono ?_
  clear hA
  rintro e w1 ⟨rfl, hB1⟩
  have HB1 := Aside0.mk hB1
  have hF := few_call K A c n l true w1 hln (Kd.C_below HC.out hB1) HCc.out FF.out
  clear hB1
  go_wp2_with fail
  refine hF.mono ?_
  clear hF
  rintro e w2 ⟨rfl, hd2⟩
  have HB2 := Aside0.mk (drawn_below HB1.out hd2)
  clear hd2
  rcases Nat.eq_zero_or_pos n with hn0 | hn0
  · subst hn0
    obtain rfl := List.length_eq_zero_iff.1 hln
    cases A with
    | none =>
      have HB3 : Aside0 (Below w.heap.size w (w2.alloc (.cells #[] 9))) := Aside0.mk (HB2.out.alloc HB2.out.size _)
      have HC9 : Aside0 (Kd.C Kd.string (w2.alloc (.cells #[] 9)) (some ⟨w2.heap.size, 0, none⟩) 0 []) := Aside0.mk (Kd.C_of_reads (enc := Value.string) (d := ByteArray.empty) (h1 := fun _ => rfl) ⟨rfl, Nat.zero_le _, fun h => absurd h (by simp)⟩)
      have Hc9 : Aside0 (0 ≤ 0) := Aside0.mk (Nat.le_refl _)
      obtain ⟨w3, hw3⟩ : ∃ w3, w2.alloc (.cells #[] 9) = w3 := ⟨_, rfl⟩
      go_wp2_with fail
      rw [hw3] at HB3 HC9
      try rw [hw3]
      clear hw3
      have hW := walk_call K file sp none c 0 nx ([] : List ByteArray) X s w3 hln hXl (Kd.C_below HC.out HB3.out) HCc.out FW.out (G.T_below HT.out HB3.out)
      refine hW.mono ?_
      clear hW
      rintro e w4 ⟨A10, c10, rfl, hc10, hC10, hB4⟩
      have HC10 := Aside0.mk hC10
      have Hc10 := Aside0.mk hc10
      have HB4 := Aside0.mk (HB3.out.trans (hB4.mono HB3.out.size))
      have HC9' := Aside0.mk (Kd.C_below HC9.out hB4)
      clear hC10 hc10 hB4
      have hS := short_call K file none c 0 ny ([] : List ByteArray) Y w4 hln hYl (Kd.C_below HC.out HB4.out) HCc.out FS.out
      go_wp2_with fail
      refine hS.mono ?_
      clear hS
      rintro e w5 ⟨A11, c11, rfl, hc11, hC11, hR11, hB5⟩
      have HB5 := Aside0.mk hB5
      have HBw5 := Aside0.mk (HB4.out.trans (hB5.mono HB4.out.size))
      have HR11 := Aside0.mk hR11
      clear hC11 hR11 hB5 hc11
      go_wp2
      go_loopw [39] (fun i wr => ∃ k : Nat, k ≤ ny ∧ i = .int .i64 k ∧ Below w4.heap.size w4 wr ∧ ∃ Ys : List ByteArray, Ys.length = ny ∧ Kd.R Kd.string 9 wr w4.heap.size (fun _ => True) (.slice A11 ny c11) Ys) (fun i _ => ny - (intOf i).toNat)
      case atStart => exact ⟨0, Nat.zero_le _, rfl, HB5.out, Y, hYl, HR11.out⟩
      case round =>
        rename_i wr
        obtain ⟨k, hk, rfl, hBr, Ys, hYs, hRr⟩ := hrel
        have HBR := Aside0.mk hBr
        have HRR := Aside0.mk hRr
        clear hBr hRr
        by_cases hlt : k < ny
        · obtain ⟨g, cap, hv, hg, hg2, _⟩ := Kd.R_form HRR.out (by omega)
          have hv2 : (Value.slice A11 ny c11) = .slice (some ⟨g, 0, none⟩) ny cap := by rw [hYs] at hv; exact hv
          injection hv2 with e1 e2 e3
          subst e1 e3
          have hR2 : (Kd.string).R 9 wr w4.heap.size (fun _ => True) (.slice (some ⟨g, 0, none⟩) Ys.length c11) Ys := by rw [hYs]; exact HRR.out
          obtain ⟨hcell, hfree⟩ := Kd.R_cell ByteArray.empty hR2 (k : Int) (by omega) (by omega)
          obtain ⟨hput, _⟩ := Kd.R_put hR2 (k : Int) (⟨#[99, 104, 97, 110, 103, 101, 100]⟩ : ByteArray)
          rw [Int.toNat_natCast] at hcell hfree hput
          have HP := Aside0.mk hput
          have HBS := Aside0.mk (HBR.out.setCell (p := ⟨g, k, none⟩) hg (.string ⟨#[99, 104, 97, 110, 103, 101, 100]⟩))
          clear hput hR2
          have hwk : wrap64 ((k : Int) + 1) = (k : Int) + 1 := wrap_in (by omega) (by omega)
          go_wp2
          go_roundw
          case rel => exact ⟨k + 1, by omega, by first | go_num | (rw [hwk]; rfl), HBS.out, Ys.set k ⟨#[99, 104, 97, 110, 103, 101, 100]⟩, by first | (rw [List.length_set]; done) | (rw [List.length_set]; exact hYs), by first | exact HP.out | (have := HP.out; rw [hYs] at this; exact this)⟩
          case measure => simp [intOf]; omega
        · have HBx := Aside0.mk (HB4.out.trans (HBR.out.mono HB4.out.size))
          have hW2 := rwalk_call K file sp none c 0 nx ([] : List ByteArray) X s wr hln hXl (Kd.C_below HC.out HBx.out) HCc.out FR.out
          go_wp2_with fail
          refine hW2.mono ?_
          clear hW2
          rintro e w6 ⟨A12, c12, rfl, hc12, hC12, hB6⟩
          have HB6 := Aside0.mk (HBx.out.trans (hB6.mono HBx.out.size))
          have HB46 := Aside0.mk (HBR.out.trans (hB6.mono HBR.out.size))
          have HC12 := Aside0.mk hC12
          clear hB6 hC12
          have hS1 := same_call K A10 A12 c10 c12 nx X w6 hXl (Kd.C_below HC10.out HB46.out) Hc10.out HC12.out hc12 S1.out
          go_wp2_with fail
          refine hS1.mono ?_
          clear hS1
          rintro e w7 ⟨rfl, hd7⟩
          have HB7 := Aside0.mk (drawn_below HB6.out hd7)
          have HB47 := Aside0.mk (drawn_below HB46.out hd7)
          clear hd7
          have hS2 := short_call K file none c 0 ny ([] : List ByteArray) Y w7 hln hYl (Kd.C_below HC.out HB7.out) HCc.out FS.out
          go_wp2_with fail
          refine hS2.mono ?_
          clear hS2
          rintro e w8 ⟨A13, c13, rfl, hc13, hC13, _, hB8⟩
          have HB8 := Aside0.mk (HB7.out.trans (hB8.mono HB7.out.size))
          have HB48 := Aside0.mk (HB47.out.trans (hB8.mono HB47.out.size))
          have HC13 := Aside0.mk hC13
          clear hB8 hC13
          have hS3 := rshort_call' file none c 0 ny ([] : List ByteArray) Y w8 hln hYl hY (Kd.C_below HC.out HB8.out) HCc.out hl20
          go_wp2_with fail
          refine hS3.mono ?_
          clear hS3
          rintro e w9 ⟨A14, c14, rfl, hc14, hC14, hB9⟩
          have HB9 := Aside0.mk (HB8.out.trans (hB9.mono HB8.out.size))
          have HB49 := Aside0.mk (HB48.out.trans (hB9.mono HB48.out.size))
          have hS4 := same_call K A13 A14 c13 c14 ny Y w9 hYl (Kd.C_below HC13.out hB9) hc13 hC14 hc14 S2.out
          clear hB9 hC14
          go_wp2_with fail
          refine hS4.mono ?_
          clear hS4
          rintro e w10 ⟨rfl, hd10⟩
          have HB10 := Aside0.mk (drawn_below HB9.out hd10)
          have HB410 := Aside0.mk (drawn_below HB49.out hd10)
          clear hd10
          have hS5 := same_call K none (some ⟨w2.heap.size, 0, none⟩) c 0 0 ([] : List ByteArray) w10 hln (Kd.C_below HC.out HB10.out) HCc.out (Kd.C_below HC9'.out HB410.out) Hc9.out S3.out
          go_wp2_with fail
          refine hS5.mono ?_
          clear hS5
          rintro e w11 ⟨rfl, hd11⟩
          go_wp2
          go_ret
          exact ⟨rfl, drawn_below HB10.out hd11⟩
    | some ad =>
      have HB3 : Aside0 (Below w.heap.size w (w2.alloc (.cells #[] 9))) := Aside0.mk (HB2.out.alloc HB2.out.size _)
      have HC9 : Aside0 (Kd.C Kd.string (w2.alloc (.cells #[] 9)) (some ⟨w2.heap.size, 0, none⟩) 0 []) := Aside0.mk (Kd.C_of_reads (enc := Value.string) (d := ByteArray.empty) (h1 := fun _ => rfl) ⟨rfl, Nat.zero_le _, fun h => absurd h (by simp)⟩)
      have Hc9 : Aside0 (0 ≤ 0) := Aside0.mk (Nat.le_refl _)
      obtain ⟨w3, hw3⟩ : ∃ w3, w2.alloc (.cells #[] 9) = w3 := ⟨_, rfl⟩
      go_wp2_with fail
      rw [hw3] at HB3 HC9
      try rw [hw3]
      clear hw3
      have hW := walk_call K file sp (some ad) c 0 nx ([] : List ByteArray) X s w3 hln hXl (Kd.C_below HC.out HB3.out) HCc.out FW.out (G.T_below HT.out HB3.out)
      refine hW.mono ?_
      clear hW
      rintro e w4 ⟨A10, c10, rfl, hc10, hC10, hB4⟩
      have HC10 := Aside0.mk hC10
      have Hc10 := Aside0.mk hc10
      have HB4 := Aside0.mk (HB3.out.trans (hB4.mono HB3.out.size))
      have HC9' := Aside0.mk (Kd.C_below HC9.out hB4)
      clear hC10 hc10 hB4
      have hS := short_call K file (some ad) c 0 ny ([] : List ByteArray) Y w4 hln hYl (Kd.C_below HC.out HB4.out) HCc.out FS.out
      go_wp2_with fail
      refine hS.mono ?_
      clear hS
      rintro e w5 ⟨A11, c11, rfl, hc11, hC11, hR11, hB5⟩
      have HB5 := Aside0.mk hB5
      have HBw5 := Aside0.mk (HB4.out.trans (hB5.mono HB4.out.size))
      have HR11 := Aside0.mk hR11
      clear hC11 hR11 hB5 hc11
      go_wp2
      go_loopw [39] (fun i wr => ∃ k : Nat, k ≤ ny ∧ i = .int .i64 k ∧ Below w4.heap.size w4 wr ∧ ∃ Ys : List ByteArray, Ys.length = ny ∧ Kd.R Kd.string 9 wr w4.heap.size (fun _ => True) (.slice A11 ny c11) Ys) (fun i _ => ny - (intOf i).toNat)
      case atStart => exact ⟨0, Nat.zero_le _, rfl, HB5.out, Y, hYl, HR11.out⟩
      case round =>
        rename_i wr
        obtain ⟨k, hk, rfl, hBr, Ys, hYs, hRr⟩ := hrel
        have HBR := Aside0.mk hBr
        have HRR := Aside0.mk hRr
        clear hBr hRr
        by_cases hlt : k < ny
        · obtain ⟨g, cap, hv, hg, hg2, _⟩ := Kd.R_form HRR.out (by omega)
          have hv2 : (Value.slice A11 ny c11) = .slice (some ⟨g, 0, none⟩) ny cap := by rw [hYs] at hv; exact hv
          injection hv2 with e1 e2 e3
          subst e1 e3
          have hR2 : (Kd.string).R 9 wr w4.heap.size (fun _ => True) (.slice (some ⟨g, 0, none⟩) Ys.length c11) Ys := by rw [hYs]; exact HRR.out
          obtain ⟨hcell, hfree⟩ := Kd.R_cell ByteArray.empty hR2 (k : Int) (by omega) (by omega)
          obtain ⟨hput, _⟩ := Kd.R_put hR2 (k : Int) (⟨#[99, 104, 97, 110, 103, 101, 100]⟩ : ByteArray)
          rw [Int.toNat_natCast] at hcell hfree hput
          have HP := Aside0.mk hput
          have HBS := Aside0.mk (HBR.out.setCell (p := ⟨g, k, none⟩) hg (.string ⟨#[99, 104, 97, 110, 103, 101, 100]⟩))
          clear hput hR2
          have hwk : wrap64 ((k : Int) + 1) = (k : Int) + 1 := wrap_in (by omega) (by omega)
          go_wp2
          go_roundw
          case rel => exact ⟨k + 1, by omega, by first | go_num | (rw [hwk]; rfl), HBS.out, Ys.set k ⟨#[99, 104, 97, 110, 103, 101, 100]⟩, by first | (rw [List.length_set]; done) | (rw [List.length_set]; exact hYs), by first | exact HP.out | (have := HP.out; rw [hYs] at this; exact this)⟩
          case measure => simp [intOf]; omega
        · have HBx := Aside0.mk (HB4.out.trans (HBR.out.mono HB4.out.size))
          have hW2 := rwalk_call K file sp (some ad) c 0 nx ([] : List ByteArray) X s wr hln hXl (Kd.C_below HC.out HBx.out) HCc.out FR.out
          go_wp2_with fail
          refine hW2.mono ?_
          clear hW2
          rintro e w6 ⟨A12, c12, rfl, hc12, hC12, hB6⟩
          have HB6 := Aside0.mk (HBx.out.trans (hB6.mono HBx.out.size))
          have HB46 := Aside0.mk (HBR.out.trans (hB6.mono HBR.out.size))
          have HC12 := Aside0.mk hC12
          clear hB6 hC12
          have hS1 := same_call K A10 A12 c10 c12 nx X w6 hXl (Kd.C_below HC10.out HB46.out) Hc10.out HC12.out hc12 S1.out
          go_wp2_with fail
          refine hS1.mono ?_
          clear hS1
          rintro e w7 ⟨rfl, hd7⟩
          have HB7 := Aside0.mk (drawn_below HB6.out hd7)
          have HB47 := Aside0.mk (drawn_below HB46.out hd7)
          clear hd7
          have hS2 := short_call K file (some ad) c 0 ny ([] : List ByteArray) Y w7 hln hYl (Kd.C_below HC.out HB7.out) HCc.out FS.out
          go_wp2_with fail
          refine hS2.mono ?_
          clear hS2
          rintro e w8 ⟨A13, c13, rfl, hc13, hC13, _, hB8⟩
          have HB8 := Aside0.mk (HB7.out.trans (hB8.mono HB7.out.size))
          have HB48 := Aside0.mk (HB47.out.trans (hB8.mono HB47.out.size))
          have HC13 := Aside0.mk hC13
          clear hB8 hC13
          have hS3 := rshort_call' file (some ad) c 0 ny ([] : List ByteArray) Y w8 hln hYl hY (Kd.C_below HC.out HB8.out) HCc.out hl20
          go_wp2_with fail
          refine hS3.mono ?_
          clear hS3
          rintro e w9 ⟨A14, c14, rfl, hc14, hC14, hB9⟩
          have HB9 := Aside0.mk (HB8.out.trans (hB9.mono HB8.out.size))
          have HB49 := Aside0.mk (HB48.out.trans (hB9.mono HB48.out.size))
          have hS4 := same_call K A13 A14 c13 c14 ny Y w9 hYl (Kd.C_below HC13.out hB9) hc13 hC14 hc14 S2.out
          clear hB9 hC14
          go_wp2_with fail
          refine hS4.mono ?_
          clear hS4
          rintro e w10 ⟨rfl, hd10⟩
          have HB10 := Aside0.mk (drawn_below HB9.out hd10)
          have HB410 := Aside0.mk (drawn_below HB49.out hd10)
          clear hd10
          have hS5 := same_call K (some ad) (some ⟨w2.heap.size, 0, none⟩) c 0 0 ([] : List ByteArray) w10 hln (Kd.C_below HC.out HB10.out) HCc.out (Kd.C_below HC9'.out HB410.out) Hc9.out S3.out
          go_wp2_with fail
          refine hS5.mono ?_
          clear hS5
          rintro e w11 ⟨rfl, hd11⟩
          go_wp2
          go_ret
          exact ⟨rfl, drawn_below HB10.out hd11⟩
  · obtain ⟨b, o, rfl, hcell⟩ := cells_of (by rw [hln]; exact HC.out) (by omega)
    have HCELL := Aside0.mk hcell
    clear hcell
    go_wp2_with (at_builtin; refine wpList_append_own _ rfl _ _ 22 rfl w2.heap.size 9 i0 (.string { data := #[] }) 1 16 Tryd.underlying22 hi hz0 hz1 hz2 rfl (by decide) _ _ _ rfl (World.ownsRow_made w2 #[] 0 (Nat.le_refl _) (Nat.zero_le _) rfl) ⟨b, o, none⟩ n c (l.map Value.string) rfl ?qc1 ?qc2 ?qc3 ?qc4 ?qc5 ?qc6 ?_)
    case qc1 => rw [List.length_map, hln]; omega
    case qc2 =>
      intro j u hj
      have hjn : j < l.length := by
        have := (List.getElem?_eq_some_iff.1 hj).1
        rw [List.length_map] at this
        exact this
      rw [Addr.add_lit]
      refine Lib.cell?_alloc_some _ ?_
      have hblk : b < w.heap.size := by
        have h0 := HCELL.out j hjn
        rcases Nat.lt_or_ge b w.heap.size with hl | hl
        · exact hl
        · unfold World.cell? at h0
          rw [Array.getElem?_eq_none hl] at h0
          cases h0
      rw [HB2.out.cell (p := ⟨b, o + j, none⟩) hblk, HCELL.out j hjn]
      have e : (l.map (Value.string))[j]? = some (Value.string (l.getD j ByteArray.empty)) := by simp [List.getD, List.getElem?_eq_getElem hjn]
      rw [e] at hj
      exact hj
    case qc3 => intro u hu; obtain ⟨x, _, rfl⟩ := List.mem_map.1 hu; rfl
    case qc4 => unfold maxLen; omega
    case qc5 => omega
    case qc6 => simp
    intro v9 w3 hown hgrow hnil
    have hown' : w3.ownsRow w2.heap.size 9 1 v9 l.length (l.map Value.string) := by rw [hln]; simpa using hown
    obtain ⟨A9, c9, rfl, h91, h92⟩ := r_reads hown'
    rw [hln] at h91 h92
    have HB3 := Aside0.mk (HB2.out.trans ((((Below.refl _ w2).alloc (Nat.le_refl _) _).grown hgrow (by simp) (by intro k hk; simp [Value.ownBlock] at hk; omega)).mono HB2.out.size))
    have HC9 := Aside0.mk h92
    have Hc9 := Aside0.mk h91
    clear hown hown' hgrow hnil h91 h92
    have hll : l.length = n := hln
    simp only [hll]
    have hW := walk_call K file sp (some ⟨b, o, none⟩) c n nx l X s w3 hln hXl (Kd.C_below HC.out HB3.out) HCc.out FW.out (G.T_below HT.out HB3.out)
    go_wp2_with fail
    refine hW.mono ?_
    clear hW
    rintro e w4 ⟨A10, c10, rfl, hc10, hC10, hB4⟩
    have HC10 := Aside0.mk hC10
    have Hc10 := Aside0.mk hc10
    have HB4 := Aside0.mk (HB3.out.trans (hB4.mono HB3.out.size))
    have HC9' := Aside0.mk (Kd.C_below HC9.out hB4)
    clear hC10 hc10 hB4
    have hS := short_call K file (some ⟨b, o, none⟩) c n ny l Y w4 hln hYl (Kd.C_below HC.out HB4.out) HCc.out FS.out
    go_wp2_with fail
    refine hS.mono ?_
    clear hS
    rintro e w5 ⟨A11, c11, rfl, hc11, hC11, hR11, hB5⟩
    have HB5 := Aside0.mk hB5
    have HBw5 := Aside0.mk (HB4.out.trans (hB5.mono HB4.out.size))
    have HR11 := Aside0.mk hR11
    clear hC11 hR11 hB5 hc11
    go_wp2
    go_loopw [39] (fun i wr => ∃ k : Nat, k ≤ ny ∧ i = .int .i64 k ∧ Below w4.heap.size w4 wr ∧ ∃ Ys : List ByteArray, Ys.length = ny ∧ Kd.R Kd.string 9 wr w4.heap.size (fun _ => True) (.slice A11 ny c11) Ys) (fun i _ => ny - (intOf i).toNat)
    case atStart => exact ⟨0, Nat.zero_le _, rfl, HB5.out, Y, hYl, HR11.out⟩
    case round =>
      rename_i wr
      obtain ⟨k, hk, rfl, hBr, Ys, hYs, hRr⟩ := hrel
      have HBR := Aside0.mk hBr
      have HRR := Aside0.mk hRr
      clear hBr hRr
      by_cases hlt : k < ny
      · obtain ⟨g, cap, hv, hg, hg2, _⟩ := Kd.R_form HRR.out (by omega)
        have hv2 : (Value.slice A11 ny c11) = .slice (some ⟨g, 0, none⟩) ny cap := by rw [hYs] at hv; exact hv
        injection hv2 with e1 e2 e3
        subst e1 e3
        have hR2 : (Kd.string).R 9 wr w4.heap.size (fun _ => True) (.slice (some ⟨g, 0, none⟩) Ys.length c11) Ys := by rw [hYs]; exact HRR.out
        obtain ⟨hcell, hfree⟩ := Kd.R_cell ByteArray.empty hR2 (k : Int) (by omega) (by omega)
        obtain ⟨hput, _⟩ := Kd.R_put hR2 (k : Int) (⟨#[99, 104, 97, 110, 103, 101, 100]⟩ : ByteArray)
        rw [Int.toNat_natCast] at hcell hfree hput
        have HP := Aside0.mk hput
        have HBS := Aside0.mk (HBR.out.setCell (p := ⟨g, k, none⟩) hg (.string ⟨#[99, 104, 97, 110, 103, 101, 100]⟩))
        clear hput hR2
        have hwk : wrap64 ((k : Int) + 1) = (k : Int) + 1 := wrap_in (by omega) (by omega)
        go_wp2
        go_roundw
        case rel => exact ⟨k + 1, by omega, by first | go_num | (rw [hwk]; rfl), HBS.out, Ys.set k ⟨#[99, 104, 97, 110, 103, 101, 100]⟩, by first | (rw [List.length_set]; done) | (rw [List.length_set]; exact hYs), by first | exact HP.out | (have := HP.out; rw [hYs] at this; exact this)⟩
        case measure => simp [intOf]; omega
      · have HBx := Aside0.mk (HB4.out.trans (HBR.out.mono HB4.out.size))
        have hW2 := rwalk_call K file sp (some ⟨b, o, none⟩) c n nx l X s wr hln hXl (Kd.C_below HC.out HBx.out) HCc.out FR.out
        go_wp2_with fail
        refine hW2.mono ?_
        clear hW2
        rintro e w6 ⟨A12, c12, rfl, hc12, hC12, hB6⟩
        have HB6 := Aside0.mk (HBx.out.trans (hB6.mono HBx.out.size))
        have HB46 := Aside0.mk (HBR.out.trans (hB6.mono HBR.out.size))
        have HC12 := Aside0.mk hC12
        clear hB6 hC12
        have hS1 := same_call K A10 A12 c10 c12 nx X w6 hXl (Kd.C_below HC10.out HB46.out) Hc10.out HC12.out hc12 S1.out
        go_wp2_with fail
        refine hS1.mono ?_
        clear hS1
        rintro e w7 ⟨rfl, hd7⟩
        have HB7 := Aside0.mk (drawn_below HB6.out hd7)
        have HB47 := Aside0.mk (drawn_below HB46.out hd7)
        clear hd7
        have hS2 := short_call K file (some ⟨b, o, none⟩) c n ny l Y w7 hln hYl (Kd.C_below HC.out HB7.out) HCc.out FS.out
        go_wp2_with fail
        refine hS2.mono ?_
        clear hS2
        rintro e w8 ⟨A13, c13, rfl, hc13, hC13, _, hB8⟩
        have HB8 := Aside0.mk (HB7.out.trans (hB8.mono HB7.out.size))
        have HB48 := Aside0.mk (HB47.out.trans (hB8.mono HB47.out.size))
        have HC13 := Aside0.mk hC13
        clear hB8 hC13
        have hS3 := rshort_call' file (some ⟨b, o, none⟩) c n ny l Y w8 hln hYl hY (Kd.C_below HC.out HB8.out) HCc.out hl20
        go_wp2_with fail
        refine hS3.mono ?_
        clear hS3
        rintro e w9 ⟨A14, c14, rfl, hc14, hC14, hB9⟩
        have HB9 := Aside0.mk (HB8.out.trans (hB9.mono HB8.out.size))
        have HB49 := Aside0.mk (HB48.out.trans (hB9.mono HB48.out.size))
        have hS4 := same_call K A13 A14 c13 c14 ny Y w9 hYl (Kd.C_below HC13.out hB9) hc13 hC14 hc14 S2.out
        clear hB9 hC14
        go_wp2_with fail
        refine hS4.mono ?_
        clear hS4
        rintro e w10 ⟨rfl, hd10⟩
        have HB10 := Aside0.mk (drawn_below HB9.out hd10)
        have HB410 := Aside0.mk (drawn_below HB49.out hd10)
        clear hd10
        have hS5 := same_call K (some ⟨b, o, none⟩) A9 c c9 n l w10 hln (Kd.C_below HC.out HB10.out) HCc.out (Kd.C_below HC9'.out HB410.out) Hc9.out S3.out
        go_wp2_with fail
        refine hS5.mono ?_
        clear hS5
        rintro e w11 ⟨rfl, hd11⟩
        go_wp2
        go_ret
        exact ⟨rfl, drawn_below HB10.out hd11⟩
set_option maxHeartbeats 2000000 in
set_option maxRecDepth 100000 in
theorem walks_few (K n : Nat) (file sp : Bool) (A : Option Addr) (c : Nat) (l : List ByteArray) (s : ByteArray) (w : World) (hT : G.T w) (hln : l.length = n) (hC : Kd.C Kd.string w A n l) (hc : n ≤ c) (fA : carryalllaw10_awake.f K = some true) (fF : carryalllaw10_few.f K l = some false) :
    Calls Tryd.prog 3 #[.bool file, .bool sp, .slice A n c, .string s] w fun e w' => e = .returned (.bool true) ∧ Below w.heap.size w w' := by
  have HT := Aside0.mk hT
  have HC := Aside0.mk hC
  have HCc := Aside0.mk hc
  clear hT hC hc
  go_enter Tryd.func3, Tryd.ntmps3
  have hA := carryalllaw10_awake.calls K true w fA HT.out
  go_wp2_with fail
  refine hA.mono ?_
  clear hA
  rintro e w1 ⟨rfl, hB1⟩
  have HB1 := Aside0.mk hB1
  have hF := few_call K A c n l false w1 hln (Kd.C_below HC.out hB1) HCc.out fF
  clear hB1
  go_wp2_with fail
  refine hF.mono ?_
  clear hF
  rintro e w2 ⟨rfl, hd2⟩
  have HB2 := Aside0.mk (drawn_below HB1.out hd2)
  clear hd2
  have hA2 := carryalllaw10_awake.calls K true w2 fA (G.T_below HT.out HB2.out)
  go_wp2_with fail
  refine hA2.mono ?_
  clear hA2
  rintro e w3 ⟨rfl, hB3⟩
  have HB3 := Aside0.mk (HB2.out.trans (hB3.mono HB2.out.size))
  clear hB3
  go_wp2
  go_ret
  exact ⟨rfl, HB3.out⟩
set_option maxHeartbeats 2000000 in
set_option maxRecDepth 100000 in
theorem walks_long (K n : Nat) (file sp : Bool) (A : Option Addr) (c : Nat) (l : List ByteArray) (s : ByteArray) (w : World) (hT : G.T w) (hln : l.length = n) (hC : Kd.C Kd.string w A n l) (hc : n ≤ c) (hs : 400 < s.size) (fA : carryalllaw10_awake.f K = some true) (fF : carryalllaw10_few.f K l = some true) :
    Calls Tryd.prog 3 #[.bool file, .bool sp, .slice A n c, .string s] w fun e w' => e = .returned (.bool true) ∧ Below w.heap.size w w' := by
  have HT := Aside0.mk hT
  have HC := Aside0.mk hC
  have HCc := Aside0.mk hc
  clear hT hC hc
  have g400 : decide ((s.size : Int) > 400) = true := decide_eq_true (by omega)
  go_enter Tryd.func3, Tryd.ntmps3
  have hA := carryalllaw10_awake.calls K true w fA HT.out
  go_wp2_with fail
  refine hA.mono ?_
  clear hA
  rintro e w1 ⟨rfl, hB1⟩
  have HB1 := Aside0.mk hB1
  have hF := few_call K A c n l true w1 hln (Kd.C_below HC.out hB1) HCc.out fF
  clear hB1
  go_wp2_with fail
  refine hF.mono ?_
  clear hF
  rintro e w2 ⟨rfl, hd2⟩
  have HB2 := Aside0.mk (drawn_below HB1.out hd2)
  clear hd2
  have hA2 := carryalllaw10_awake.calls K true w2 fA (G.T_below HT.out HB2.out)
  go_wp2_with fail
  refine hA2.mono ?_
  clear hA2
  rintro e w3 ⟨rfl, hB3⟩
  have HB3 := Aside0.mk (HB2.out.trans (hB3.mono HB2.out.size))
  clear hB3
  go_wp2
  go_ret
  exact ⟨rfl, HB3.out⟩
theorem walk_len {file : Bool} : ∀ (P X : List ByteArray), (walkB file X P).length ≤ X.length + P.length
  | [], X => by simp [walkB]
  | [p], X => step_len file X p true
  | p :: q :: r, X => by
    rw [walkB]
    have h2 := walk_len (file := file) (q :: r) (stepB file X p false)
    have := step_len file X p false
    simp at h2 ⊢
    omega
theorem walks_row (a0 a1 : Bool) (A2 : Option Addr) (c2 : Nat) (l2 : List ByteArray) (a3 : ByteArray) (W : World) (rd : Kd.C Kd.string W A2 l2.length l2) (lc : l2.length ≤ c2) (lm : l2.length ≤ maxLen) (_ : a3.size ≤ 140737488351232) (hT : G.T W) :
    Calls Tryd.prog 3 #[.bool a0, .bool a1, .slice A2 l2.length c2, .string a3] W fun e w' => e = .returned (.bool true) ∧ Below W.heap.size W w' := by
  have hm : maxLen = 9223372036854775807 := rfl
  obtain ⟨K, hK⟩ : ∃ K : Nat, 10000 + l2.length ≤ K := ⟨10000 + l2.length, Nat.le_refl _⟩
  obtain ⟨b, hb, hb2⟩ := few_l0 l2 (by omega) _ 0 K rfl (by omega) (by omega)
  have fF : carryalllaw10_few.f K l2 = some b := hb
  cases b with
  | false => exact walks_few K _ a0 a1 A2 c2 l2 a3 W hT rfl rd lc (awake_at K (by omega)) fF
  | true =>
    have h20 := hb2 rfl
    by_cases hs : a3.size ≤ 400
    · have h1 := walk_len (file := a0) (segs a1 a3) l2
      have h2 := segs_len a1 a3
      have h3 := short_len a0 l2
      exact walks_on K _ _ _ a0 a1 A2 c2 l2 (walkB a0 l2 (segs a1 a3)) (shortB a0 l2) a3 W hT rfl rfl rfl rd lc h20 (by omega) hs (awake_at K (by omega)) fF (walk_f a0 a1 l2 (by omega) a3 (by omega) K (by omega)) (rwalk_f a0 a1 l2 (by omega) a3 (by omega) K (by omega)) (short_f a0 l2 (by omega) K (by omega)) rfl (same_f _ (by omega) K (by omega)) (same_f _ (by omega) K (by omega)) (same_f l2 (by omega) K (by omega))
    · exact walks_long K _ a0 a1 A2 c2 l2 a3 W hT rfl rd lc (by omega) (awake_at K (by omega)) fF
end Go.Proofs.YtpdkncchjkkmeaaDoor.Path
