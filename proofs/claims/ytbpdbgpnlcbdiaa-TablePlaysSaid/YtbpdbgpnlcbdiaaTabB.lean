/- Chapter 22: a table: the contracts of find and Get. -/
import Derived.Test.YtbpdbgpnlcbdiaaTabA
namespace Go.Proofs.Ytbpdbgpnlcbdiaa.Tab
open Go.RowKit Go.Proofs.YtbpdbgpnlcbdiaaW.PrintWords Go.Proofs.YtbpdbgpnlcbdiaaW.PrintLast Go.Proofs.YtbpdbgpnlcbdiaaW.PrintMore
set_option linter.unusedVariables false
set_option linter.unusedSimpArgs false
/-- Where a handle is; -1: nowhere. -/
def posI (l : List (Int × Value)) (h : Int) : Int := match l.findIdx? (fun p => p.1 == h) with | some i => (i : Int) | none => -1
theorem posI_at (l : List (Int × Value)) (h : Int) (k : Nat) (p : Int × Value) (hk : l[k]? = some p) (hp : p.1 = h) (hlt : ∀ j q, j < k → l[j]? = some q → q.1 ≠ h) : posI l h = (k : Int) := by
  have : l.findIdx? (fun p => p.1 == h) = some k := by
    rw [List.findIdx?_eq_some_iff_getElem]
    obtain ⟨hl, he⟩ := List.getElem?_eq_some_iff.1 hk
    refine ⟨hl, by rw [he]; simpa using hp, fun j hj => ?_⟩
    have := hlt j _ hj (List.getElem?_eq_getElem (by omega))
    simpa using this
  unfold posI
  rw [this]
theorem posI_none (l : List (Int × Value)) (h : Int) (hlt : ∀ j q, j < l.length → l[j]? = some q → q.1 ≠ h) : posI l h = -1 := by
  have : l.findIdx? (fun p => p.1 == h) = none := by
    rw [List.findIdx?_eq_none_iff]
    intro p hp
    obtain ⟨j, hj, rfl⟩ := List.getElem_of_mem hp
    simpa using hlt j _ hj (List.getElem?_eq_getElem hj)
  unfold posI
  rw [this]
theorem own_two {w : World} {base g cap n : Nat} {e : TypeId} {l : List (Int × Value)} (h : w.ownsRow base e 2 (.slice (some ⟨g, 0, none⟩) n cap) n (flat l)) (k : Nat) (p : Int × Value) (hk : l[k]? = some p) :
    w.cell? ⟨g, k * 2, none⟩ = some (.int .i64 p.1) ∧ w.cell? ⟨g, k * 2 + 1, none⟩ = some p.2 := by
  have hf := flat_at l k p hk
  have c0 := h.cells (g := g) rfl _ _ hf.1
  have c1 := h.cells (g := g) rfl _ _ hf.2
  have ha : ∀ j, (⟨g, 0, none⟩ : Addr).add j = ⟨g, j, none⟩ := by intro j; unfold Addr.add; split <;> simp_all
  rw [ha] at c0 c1
  exact ⟨c0, c1⟩
theorem own_some {w : World} {base n cap : Nat} {e : TypeId} {A : Option Addr} {size : Nat} {xs : List Value} (h : w.ownsRow base e size (.slice A n cap) n xs) (hn : 0 < n) : ∃ g, A = some ⟨g, 0, none⟩ := by
  rcases h.2 with ⟨h1, h2⟩ | ⟨g, c, cur, h1, _⟩
  · omega
  · injection h1 with h1
    exact ⟨g, h1⟩
def All_int (l : List (Int × Value)) : Prop := ∀ p, p ∈ l → ∃ x, p.2 = Value.int .i64 x
set_option maxHeartbeats 1000000 in
set_option maxRecDepth 100000 in
theorem idx_int {base cap n c : Nat} {A : Option Addr} {l : List (Int × Value)} (h : Int) (w : World) (ho : w.ownsRow base 72 2 (.slice A n cap) n (flat l)) (hn : l.length = n) (hty : All_int l) (hnm : n ≤ 1000000) (hc : w.cell? ⟨c, 0, none⟩ = some (.int .i64 h)) :
    Calls Try.prog 35 #[.slice A n cap, .func (Fn.func 36) #[] #[.pointer (some ⟨c, 0, none⟩)]] w fun e w' => e = .returned (.int .i64 (posI l h)) ∧ Below w.heap.size w w' := by
  obtain ⟨R, hR⟩ : ∃ R, posI l h = R := ⟨_, rfl⟩
  have HR := Aside0.mk hR
  have HO := Aside0.mk ho
  have HN := Aside0.mk hn
  have HTY := Aside0.mk hty
  have hclt := World.block_lt_of_cell? w _ hc
  have HCL := Aside0.mk hclt
  have HC := Aside0.mk hc
  rw [hR]
  clear hR ho hn hty hc hclt
  go_enter Try.func35, Try.ntmps35
  go_wp2
  go_loopw [8] (fun i wr => ∃ k : Nat, k ≤ n ∧ i = .int .i64 k ∧ (∀ j q, j < k → l[j]? = some q → q.1 ≠ h) ∧ Below w.heap.size w wr) (fun i _ => n - (intOf i).toNat)
  case atStart => exact ⟨0, Nat.zero_le _, rfl, fun j q hj => absurd hj (Nat.not_lt_zero _), Below.refl _ _⟩
  case round =>
    obtain ⟨k, hk, rfl, hno, hB⟩ := hrel
    have HNO := Aside0.mk hno
    have HB := Aside0.mk hB
    clear hno hB
    by_cases hlt : k < n
    · have hor := own_below HO.out HB.out
      obtain ⟨g, hg⟩ := own_some hor (by omega)
      subst hg
      obtain ⟨p, hp⟩ : ∃ p, l[k]? = some p := ⟨_, List.getElem?_eq_getElem (by rw [HN.out]; exact hlt)⟩
      obtain ⟨q0, q1⟩ := own_two hor k p hp
      obtain ⟨x, hx⟩ := HTY.out p (List.mem_of_getElem? hp)
      rw [hx] at q1
      have hcr : wr.cell? ⟨c, 0, none⟩ = some (.int .i64 h) := by rw [HB.out.cell (p := ⟨c, 0, none⟩) HCL.out]; exact HC.out
      have hcl : c < wr.heap.size := Nat.lt_of_lt_of_le HCL.out HB.out.size
      obtain ⟨h2, hh2⟩ : ∃ h2, p.1 = h2 := ⟨_, rfl⟩
      rw [hh2] at q0
      have HP := Aside0.mk hp
      have HH2 := Aside0.mk hh2
      clear hp hh2 hx hor
      by_cases heq : h2 = h
      · subst heq
        have hret := posI_at l h2 k p HP.out HH2.out HNO.out
        have HRK := Aside0.mk (HR.out.symm.trans hret)
        clear hret
        go_wp2
        go_ret
        exact ⟨by rw [HRK.out]; rfl, HB.out.alloc HB.out.size _⟩
      · have hd : (h2 == h) = false := by simpa using heq
        have HEQ := Aside0.mk heq
        clear heq
        go_wp2
        refine ⟨⟨k + 1, hlt, by go_num, fun j q hj hq => ?_, HB.out.alloc HB.out.size _⟩, by simp [intOf]; omega⟩
        by_cases hjk : j = k
        · subst hjk
          have := HP.out.symm.trans hq
          injection this with this
          subst this
          rw [HH2.out]
          exact HEQ.out
        · exact HNO.out j q (by omega) hq
    · have hret := posI_none l h (fun j q hj => HNO.out j q (by have := HN.out; omega))
      have HRK := Aside0.mk (HR.out.symm.trans hret)
      clear hret
      go_wp2
      go_ret
      exact ⟨by rw [HRK.out]; rfl, HB.out⟩
theorem find_int {base B room last : Nat} {l : List (Int × Value)} (h : Int) (w : World) (hT : TabAt 70 72 base B room last l w) (hty : All_int l) (hnm : l.length ≤ 1000000) :
    Calls Try.prog 29 #[.pointer (some ⟨B, 0, none⟩), .int .i64 h] w fun e w' => e = .returned (.int .i64 (posI l h)) ∧ Below w.heap.size w w' := by
  have hlt := hT.lt
  obtain ⟨A, cap, hb, ho, hbase, hne⟩ := hT
  obtain ⟨hc0, hc1, hc2, hf⟩ := three_cells hb
  obtain ⟨n, hn⟩ : ∃ n, l.length = n := ⟨_, rfl⟩
  rw [hn] at hc0 ho hnm
  have HB := Aside0.mk (below_alloc (Below.refl w.heap.size w) (.cells #[.int .i64 h] 2))
  have HI := Aside0.mk (idx_int (c := w.heap.size) h (w.alloc (.cells #[.int .i64 h] 2)) (own_below ho HB.out) hn hty hnm (by
    have : (w.alloc (.cells #[.int .i64 h] 2)).heap[w.heap.size]? = some (.cells #[.int .i64 h] 2) := by
      show (w.heap.push _)[w.heap.size]? = _
      simp
    unfold World.cell?
    rw [this]
    rfl))
  clear hb ho hne hc1 hc2 hf hn
  go_enter Try.func29, Try.ntmps29
  go_wp2_with (go_at_call 35; refine HI.out.mono ?_; rintro e w1 ⟨rfl, h1⟩)
  go_ret
  exact ⟨rfl, HB.out.trans (h1.mono (by simp))⟩
theorem find_nil_int (h : Int) (w : World) : Calls Try.prog 29 #[.pointer none, .int .i64 h] w fun e w' => e = .returned (.int .i64 (-1)) ∧ Below w.heap.size w w' := by
  go_enter Try.func29, Try.ntmps29
  go_wp2
  go_ret
  exact ⟨rfl, below_alloc (Below.refl _ _) _⟩
theorem get_none_int {base B room last : Nat} {l : List (Int × Value)} (h : Int) (w : World) (hT : TabAt 70 72 base B room last l w) (hty : All_int l) (hnm : l.length ≤ 1000000) (hpos : posI l h = -1) :
    Calls Try.prog 23 #[.pointer (some ⟨B, 0, none⟩), .int .i64 h] w fun e w' => e = .returned (.tuple #[.int .i64 0, .bool false]) ∧ Below w.heap.size w w' := by
  have HF := Aside0.mk (find_int h w hT hty hnm)
  rw [hpos] at HF
  clear hT hpos
  go_enter Try.func23, Try.ntmps23
  go_wp2_with (go_at_call 29; refine HF.out.mono ?_; rintro e w1 ⟨rfl, h1⟩)
  go_ret2
  exact ⟨rfl, h1⟩
theorem get_nil_int (h : Int) (w : World) : Calls Try.prog 23 #[.pointer none, .int .i64 h] w fun e w' => e = .returned (.tuple #[.int .i64 0, .bool false]) ∧ Below w.heap.size w w' := by
  have HF := Aside0.mk (find_nil_int h w)
  go_enter Try.func23, Try.ntmps23
  go_wp2_with (go_at_call 29; refine HF.out.mono ?_; rintro e w1 ⟨rfl, h1⟩)
  go_ret2
  exact ⟨rfl, h1⟩
set_option maxHeartbeats 1000000 in
theorem get_int {base B room last : Nat} {l : List (Int × Value)} (h : Int) (x : Int) (w : World) (hT : TabAt 70 72 base B room last l w) (hty : All_int l) (hnm : l.length ≤ 1000000) (k : Nat) (hp : l[k]? = some (h, .int .i64 x)) (hpos : posI l h = (k : Int)) :
    Calls Try.prog 23 #[.pointer (some ⟨B, 0, none⟩), .int .i64 h] w fun e w' => e = .returned (.tuple #[.int .i64 x, .bool true]) ∧ Below w.heap.size w w' := by
  have HF := Aside0.mk (find_int h w hT hty hnm)
  rw [hpos] at HF
  have HT := Aside0.mk hT
  have hkl : k < l.length := (List.getElem?_eq_some_iff.1 hp).1
  have HP := Aside0.mk hp
  clear hT hpos hp
  have hd : ((k : Int) < 0) = False := by simp
  go_enter Try.func23, Try.ntmps23
  go_wp2_with (go_at_call 29
               refine HF.out.mono ?_
               rintro e w1 ⟨rfl, h1⟩
               have T1 := Aside0.mk (HT.out.kept h1)
               have H1 := Aside0.mk h1
               clear h1
               obtain ⟨A, cap, hb, ho, hbase, hne⟩ := T1.out
               obtain ⟨hc0, hc1, hc2, hf⟩ := three_cells hb
               obtain ⟨g, hg⟩ := own_some ho (by omega)
               subst hg
               obtain ⟨q0, q1⟩ := own_two ho k _ HP.out
               obtain ⟨n, hn⟩ : ∃ n, l.length = n := ⟨_, rfl⟩
               rw [hn] at hc0 hkl hnm
               clear hb ho hbase hne hc1 hc2 hf hn q0)
  go_ret2
  exact ⟨rfl, H1.out⟩
def All_str (l : List (Int × Value)) : Prop := ∀ p, p ∈ l → ∃ x, p.2 = Value.string x
set_option maxHeartbeats 1000000 in
set_option maxRecDepth 100000 in
theorem idx_str {base cap n c : Nat} {A : Option Addr} {l : List (Int × Value)} (h : Int) (w : World) (ho : w.ownsRow base 59 2 (.slice A n cap) n (flat l)) (hn : l.length = n) (hty : All_str l) (hnm : n ≤ 1000000) (hc : w.cell? ⟨c, 0, none⟩ = some (.int .i64 h)) :
    Calls Try.prog 31 #[.slice A n cap, .func (Fn.func 32) #[] #[.pointer (some ⟨c, 0, none⟩)]] w fun e w' => e = .returned (.int .i64 (posI l h)) ∧ Below w.heap.size w w' := by
  obtain ⟨R, hR⟩ : ∃ R, posI l h = R := ⟨_, rfl⟩
  have HR := Aside0.mk hR
  have HO := Aside0.mk ho
  have HN := Aside0.mk hn
  have HTY := Aside0.mk hty
  have hclt := World.block_lt_of_cell? w _ hc
  have HCL := Aside0.mk hclt
  have HC := Aside0.mk hc
  rw [hR]
  clear hR ho hn hty hc hclt
  go_enter Try.func31, Try.ntmps31
  go_wp2
  go_loopw [8] (fun i wr => ∃ k : Nat, k ≤ n ∧ i = .int .i64 k ∧ (∀ j q, j < k → l[j]? = some q → q.1 ≠ h) ∧ Below w.heap.size w wr) (fun i _ => n - (intOf i).toNat)
  case atStart => exact ⟨0, Nat.zero_le _, rfl, fun j q hj => absurd hj (Nat.not_lt_zero _), Below.refl _ _⟩
  case round =>
    obtain ⟨k, hk, rfl, hno, hB⟩ := hrel
    have HNO := Aside0.mk hno
    have HB := Aside0.mk hB
    clear hno hB
    by_cases hlt : k < n
    · have hor := own_below HO.out HB.out
      obtain ⟨g, hg⟩ := own_some hor (by omega)
      subst hg
      obtain ⟨p, hp⟩ : ∃ p, l[k]? = some p := ⟨_, List.getElem?_eq_getElem (by rw [HN.out]; exact hlt)⟩
      obtain ⟨q0, q1⟩ := own_two hor k p hp
      obtain ⟨x, hx⟩ := HTY.out p (List.mem_of_getElem? hp)
      rw [hx] at q1
      have hcr : wr.cell? ⟨c, 0, none⟩ = some (.int .i64 h) := by rw [HB.out.cell (p := ⟨c, 0, none⟩) HCL.out]; exact HC.out
      have hcl : c < wr.heap.size := Nat.lt_of_lt_of_le HCL.out HB.out.size
      obtain ⟨h2, hh2⟩ : ∃ h2, p.1 = h2 := ⟨_, rfl⟩
      rw [hh2] at q0
      have HP := Aside0.mk hp
      have HH2 := Aside0.mk hh2
      clear hp hh2 hx hor
      by_cases heq : h2 = h
      · subst heq
        have hret := posI_at l h2 k p HP.out HH2.out HNO.out
        have HRK := Aside0.mk (HR.out.symm.trans hret)
        clear hret
        go_wp2
        go_ret
        exact ⟨by rw [HRK.out]; rfl, HB.out.alloc HB.out.size _⟩
      · have hd : (h2 == h) = false := by simpa using heq
        have HEQ := Aside0.mk heq
        clear heq
        go_wp2
        refine ⟨⟨k + 1, hlt, by go_num, fun j q hj hq => ?_, HB.out.alloc HB.out.size _⟩, by simp [intOf]; omega⟩
        by_cases hjk : j = k
        · subst hjk
          have := HP.out.symm.trans hq
          injection this with this
          subst this
          rw [HH2.out]
          exact HEQ.out
        · exact HNO.out j q (by omega) hq
    · have hret := posI_none l h (fun j q hj => HNO.out j q (by have := HN.out; omega))
      have HRK := Aside0.mk (HR.out.symm.trans hret)
      clear hret
      go_wp2
      go_ret
      exact ⟨by rw [HRK.out]; rfl, HB.out⟩
theorem find_str {base B room last : Nat} {l : List (Int × Value)} (h : Int) (w : World) (hT : TabAt 57 59 base B room last l w) (hty : All_str l) (hnm : l.length ≤ 1000000) :
    Calls Try.prog 25 #[.pointer (some ⟨B, 0, none⟩), .int .i64 h] w fun e w' => e = .returned (.int .i64 (posI l h)) ∧ Below w.heap.size w w' := by
  have hlt := hT.lt
  obtain ⟨A, cap, hb, ho, hbase, hne⟩ := hT
  obtain ⟨hc0, hc1, hc2, hf⟩ := three_cells hb
  obtain ⟨n, hn⟩ : ∃ n, l.length = n := ⟨_, rfl⟩
  rw [hn] at hc0 ho hnm
  have HB := Aside0.mk (below_alloc (Below.refl w.heap.size w) (.cells #[.int .i64 h] 2))
  have HI := Aside0.mk (idx_str (c := w.heap.size) h (w.alloc (.cells #[.int .i64 h] 2)) (own_below ho HB.out) hn hty hnm (by
    have : (w.alloc (.cells #[.int .i64 h] 2)).heap[w.heap.size]? = some (.cells #[.int .i64 h] 2) := by
      show (w.heap.push _)[w.heap.size]? = _
      simp
    unfold World.cell?
    rw [this]
    rfl))
  clear hb ho hne hc1 hc2 hf hn
  go_enter Try.func25, Try.ntmps25
  go_wp2_with (go_at_call 31; refine HI.out.mono ?_; rintro e w1 ⟨rfl, h1⟩)
  go_ret
  exact ⟨rfl, HB.out.trans (h1.mono (by simp))⟩
theorem find_nil_str (h : Int) (w : World) : Calls Try.prog 25 #[.pointer none, .int .i64 h] w fun e w' => e = .returned (.int .i64 (-1)) ∧ Below w.heap.size w w' := by
  go_enter Try.func25, Try.ntmps25
  go_wp2
  go_ret
  exact ⟨rfl, below_alloc (Below.refl _ _) _⟩
theorem get_none_str {base B room last : Nat} {l : List (Int × Value)} (h : Int) (w : World) (hT : TabAt 57 59 base B room last l w) (hty : All_str l) (hnm : l.length ≤ 1000000) (hpos : posI l h = -1) :
    Calls Try.prog 11 #[.pointer (some ⟨B, 0, none⟩), .int .i64 h] w fun e w' => e = .returned (.tuple #[.string ⟨#[]⟩, .bool false]) ∧ Below w.heap.size w w' := by
  have HF := Aside0.mk (find_str h w hT hty hnm)
  rw [hpos] at HF
  clear hT hpos
  go_enter Try.func11, Try.ntmps11
  go_wp2_with (go_at_call 25; refine HF.out.mono ?_; rintro e w1 ⟨rfl, h1⟩)
  go_ret2
  exact ⟨rfl, h1⟩
theorem get_nil_str (h : Int) (w : World) : Calls Try.prog 11 #[.pointer none, .int .i64 h] w fun e w' => e = .returned (.tuple #[.string ⟨#[]⟩, .bool false]) ∧ Below w.heap.size w w' := by
  have HF := Aside0.mk (find_nil_str h w)
  go_enter Try.func11, Try.ntmps11
  go_wp2_with (go_at_call 25; refine HF.out.mono ?_; rintro e w1 ⟨rfl, h1⟩)
  go_ret2
  exact ⟨rfl, h1⟩
set_option maxHeartbeats 1000000 in
theorem get_str {base B room last : Nat} {l : List (Int × Value)} (h : Int) (x : ByteArray) (w : World) (hT : TabAt 57 59 base B room last l w) (hty : All_str l) (hnm : l.length ≤ 1000000) (k : Nat) (hp : l[k]? = some (h, .string x)) (hpos : posI l h = (k : Int)) :
    Calls Try.prog 11 #[.pointer (some ⟨B, 0, none⟩), .int .i64 h] w fun e w' => e = .returned (.tuple #[.string x, .bool true]) ∧ Below w.heap.size w w' := by
  have HF := Aside0.mk (find_str h w hT hty hnm)
  rw [hpos] at HF
  have HT := Aside0.mk hT
  have hkl : k < l.length := (List.getElem?_eq_some_iff.1 hp).1
  have HP := Aside0.mk hp
  clear hT hpos hp
  have hd : ((k : Int) < 0) = False := by simp
  go_enter Try.func11, Try.ntmps11
  go_wp2_with (go_at_call 25
               refine HF.out.mono ?_
               rintro e w1 ⟨rfl, h1⟩
               have T1 := Aside0.mk (HT.out.kept h1)
               have H1 := Aside0.mk h1
               clear h1
               obtain ⟨A, cap, hb, ho, hbase, hne⟩ := T1.out
               obtain ⟨hc0, hc1, hc2, hf⟩ := three_cells hb
               obtain ⟨g, hg⟩ := own_some ho (by omega)
               subst hg
               obtain ⟨q0, q1⟩ := own_two ho k _ HP.out
               obtain ⟨n, hn⟩ : ∃ n, l.length = n := ⟨_, rfl⟩
               rw [hn] at hc0 hkl hnm
               clear hb ho hbase hne hc1 hc2 hf hn q0)
  go_ret2
  exact ⟨rfl, H1.out⟩
def All_ints (l : List (Int × Value)) : Prop := ∀ p, p ∈ l → ∃ xa xn xc, p.2 = Value.slice xa xn xc
set_option maxHeartbeats 1000000 in
set_option maxRecDepth 100000 in
theorem idx_ints {base cap n c : Nat} {A : Option Addr} {l : List (Int × Value)} (h : Int) (w : World) (ho : w.ownsRow base 66 2 (.slice A n cap) n (flat l)) (hn : l.length = n) (hty : All_ints l) (hnm : n ≤ 1000000) (hc : w.cell? ⟨c, 0, none⟩ = some (.int .i64 h)) :
    Calls Try.prog 33 #[.slice A n cap, .func (Fn.func 34) #[] #[.pointer (some ⟨c, 0, none⟩)]] w fun e w' => e = .returned (.int .i64 (posI l h)) ∧ Below w.heap.size w w' := by
  obtain ⟨R, hR⟩ : ∃ R, posI l h = R := ⟨_, rfl⟩
  have HR := Aside0.mk hR
  have HO := Aside0.mk ho
  have HN := Aside0.mk hn
  have HTY := Aside0.mk hty
  have hclt := World.block_lt_of_cell? w _ hc
  have HCL := Aside0.mk hclt
  have HC := Aside0.mk hc
  rw [hR]
  clear hR ho hn hty hc hclt
  go_enter Try.func33, Try.ntmps33
  go_wp2
  go_loopw [8] (fun i wr => ∃ k : Nat, k ≤ n ∧ i = .int .i64 k ∧ (∀ j q, j < k → l[j]? = some q → q.1 ≠ h) ∧ Below w.heap.size w wr) (fun i _ => n - (intOf i).toNat)
  case atStart => exact ⟨0, Nat.zero_le _, rfl, fun j q hj => absurd hj (Nat.not_lt_zero _), Below.refl _ _⟩
  case round =>
    obtain ⟨k, hk, rfl, hno, hB⟩ := hrel
    have HNO := Aside0.mk hno
    have HB := Aside0.mk hB
    clear hno hB
    by_cases hlt : k < n
    · have hor := own_below HO.out HB.out
      obtain ⟨g, hg⟩ := own_some hor (by omega)
      subst hg
      obtain ⟨p, hp⟩ : ∃ p, l[k]? = some p := ⟨_, List.getElem?_eq_getElem (by rw [HN.out]; exact hlt)⟩
      obtain ⟨q0, q1⟩ := own_two hor k p hp
      obtain ⟨xa, xn, xc, hx⟩ := HTY.out p (List.mem_of_getElem? hp)
      rw [hx] at q1
      have hcr : wr.cell? ⟨c, 0, none⟩ = some (.int .i64 h) := by rw [HB.out.cell (p := ⟨c, 0, none⟩) HCL.out]; exact HC.out
      have hcl : c < wr.heap.size := Nat.lt_of_lt_of_le HCL.out HB.out.size
      obtain ⟨h2, hh2⟩ : ∃ h2, p.1 = h2 := ⟨_, rfl⟩
      rw [hh2] at q0
      have HP := Aside0.mk hp
      have HH2 := Aside0.mk hh2
      clear hp hh2 hx hor
      by_cases heq : h2 = h
      · subst heq
        have hret := posI_at l h2 k p HP.out HH2.out HNO.out
        have HRK := Aside0.mk (HR.out.symm.trans hret)
        clear hret
        go_wp2
        go_ret
        exact ⟨by rw [HRK.out]; rfl, HB.out.alloc HB.out.size _⟩
      · have hd : (h2 == h) = false := by simpa using heq
        have HEQ := Aside0.mk heq
        clear heq
        go_wp2
        refine ⟨⟨k + 1, hlt, by go_num, fun j q hj hq => ?_, HB.out.alloc HB.out.size _⟩, by simp [intOf]; omega⟩
        by_cases hjk : j = k
        · subst hjk
          have := HP.out.symm.trans hq
          injection this with this
          subst this
          rw [HH2.out]
          exact HEQ.out
        · exact HNO.out j q (by omega) hq
    · have hret := posI_none l h (fun j q hj => HNO.out j q (by have := HN.out; omega))
      have HRK := Aside0.mk (HR.out.symm.trans hret)
      clear hret
      go_wp2
      go_ret
      exact ⟨by rw [HRK.out]; rfl, HB.out⟩
theorem find_ints {base B room last : Nat} {l : List (Int × Value)} (h : Int) (w : World) (hT : TabAt 64 66 base B room last l w) (hty : All_ints l) (hnm : l.length ≤ 1000000) :
    Calls Try.prog 27 #[.pointer (some ⟨B, 0, none⟩), .int .i64 h] w fun e w' => e = .returned (.int .i64 (posI l h)) ∧ Below w.heap.size w w' := by
  have hlt := hT.lt
  obtain ⟨A, cap, hb, ho, hbase, hne⟩ := hT
  obtain ⟨hc0, hc1, hc2, hf⟩ := three_cells hb
  obtain ⟨n, hn⟩ : ∃ n, l.length = n := ⟨_, rfl⟩
  rw [hn] at hc0 ho hnm
  have HB := Aside0.mk (below_alloc (Below.refl w.heap.size w) (.cells #[.int .i64 h] 2))
  have HI := Aside0.mk (idx_ints (c := w.heap.size) h (w.alloc (.cells #[.int .i64 h] 2)) (own_below ho HB.out) hn hty hnm (by
    have : (w.alloc (.cells #[.int .i64 h] 2)).heap[w.heap.size]? = some (.cells #[.int .i64 h] 2) := by
      show (w.heap.push _)[w.heap.size]? = _
      simp
    unfold World.cell?
    rw [this]
    rfl))
  clear hb ho hne hc1 hc2 hf hn
  go_enter Try.func27, Try.ntmps27
  go_wp2_with (go_at_call 33; refine HI.out.mono ?_; rintro e w1 ⟨rfl, h1⟩)
  go_ret
  exact ⟨rfl, HB.out.trans (h1.mono (by simp))⟩
theorem find_nil_ints (h : Int) (w : World) : Calls Try.prog 27 #[.pointer none, .int .i64 h] w fun e w' => e = .returned (.int .i64 (-1)) ∧ Below w.heap.size w w' := by
  go_enter Try.func27, Try.ntmps27
  go_wp2
  go_ret
  exact ⟨rfl, below_alloc (Below.refl _ _) _⟩
theorem get_none_ints {base B room last : Nat} {l : List (Int × Value)} (h : Int) (w : World) (hT : TabAt 64 66 base B room last l w) (hty : All_ints l) (hnm : l.length ≤ 1000000) (hpos : posI l h = -1) :
    Calls Try.prog 16 #[.pointer (some ⟨B, 0, none⟩), .int .i64 h] w fun e w' => e = .returned (.tuple #[.slice none 0 0, .bool false]) ∧ Below w.heap.size w w' := by
  have HF := Aside0.mk (find_ints h w hT hty hnm)
  rw [hpos] at HF
  clear hT hpos
  go_enter Try.func16, Try.ntmps16
  go_wp2_with (go_at_call 27; refine HF.out.mono ?_; rintro e w1 ⟨rfl, h1⟩)
  go_ret2
  exact ⟨rfl, h1⟩
theorem get_nil_ints (h : Int) (w : World) : Calls Try.prog 16 #[.pointer none, .int .i64 h] w fun e w' => e = .returned (.tuple #[.slice none 0 0, .bool false]) ∧ Below w.heap.size w w' := by
  have HF := Aside0.mk (find_nil_ints h w)
  go_enter Try.func16, Try.ntmps16
  go_wp2_with (go_at_call 27; refine HF.out.mono ?_; rintro e w1 ⟨rfl, h1⟩)
  go_ret2
  exact ⟨rfl, h1⟩
set_option maxHeartbeats 1000000 in
theorem get_ints {base B room last : Nat} {l : List (Int × Value)} (h : Int) (xa : Option Addr) (xn xc : Nat) (w : World) (hT : TabAt 64 66 base B room last l w) (hty : All_ints l) (hnm : l.length ≤ 1000000) (k : Nat) (hp : l[k]? = some (h, .slice xa xn xc)) (hpos : posI l h = (k : Int)) :
    Calls Try.prog 16 #[.pointer (some ⟨B, 0, none⟩), .int .i64 h] w fun e w' => e = .returned (.tuple #[.slice xa xn xc, .bool true]) ∧ Below w.heap.size w w' := by
  have HF := Aside0.mk (find_ints h w hT hty hnm)
  rw [hpos] at HF
  have HT := Aside0.mk hT
  have hkl : k < l.length := (List.getElem?_eq_some_iff.1 hp).1
  have HP := Aside0.mk hp
  clear hT hpos hp
  have hd : ((k : Int) < 0) = False := by simp
  go_enter Try.func16, Try.ntmps16
  go_wp2_with (go_at_call 27
               refine HF.out.mono ?_
               rintro e w1 ⟨rfl, h1⟩
               have T1 := Aside0.mk (HT.out.kept h1)
               have H1 := Aside0.mk h1
               clear h1
               obtain ⟨A, cap, hb, ho, hbase, hne⟩ := T1.out
               obtain ⟨hc0, hc1, hc2, hf⟩ := three_cells hb
               obtain ⟨g, hg⟩ := own_some ho (by omega)
               subst hg
               obtain ⟨q0, q1⟩ := own_two ho k _ HP.out
               obtain ⟨n, hn⟩ : ∃ n, l.length = n := ⟨_, rfl⟩
               rw [hn] at hc0 hkl hnm
               clear hb ho hbase hne hc1 hc2 hf hn q0)
  go_ret2
  exact ⟨rfl, H1.out⟩
end Go.Proofs.Ytbpdbgpnlcbdiaa.Tab
