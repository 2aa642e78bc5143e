/- What the methods of a strings.Builder do that strings.Map calls: Grow of a new one, WriteRune, WriteString of nothing: walked. -/
import Derived.Test.YtbobbbpjphkooaaDoorBld
import Derived.Test.YtbobbbpjphkooaaDoorShelfG
import Derived.Test.YtbobbbpjphkooaaDoorApr
import Derived.Test.YtbobbbpjphkooaaDoorMapA
import Derived.Lib.RuneBytes
namespace Go.Proofs.YtbobbbpjphkooaaDoor.Mp
open Go.RowKit Go.Proofs.YtbobbbpjphkooaaDoor.Pa Go.Proofs.YtbobbbpjphkooaaDoor.Pl Go.Proofs.YtbobbbpjphkooaaDoorW.PrintWords Go.Proofs.YtbobbbpjphkooaaDoorW.PrintLast Go.Proofs.YtbobbbpjphkooaaDoorW.PrintMore
set_option linter.unusedVariables false
set_option linter.unusedSimpArgs false
abbrev enc (r : Int) : List Int := Lib.encodeRuneZ r
theorem or192' {m : Int} (h0 : 0 ≤ m) (h1 : m < 32) : Go.bits .or .u8 192 m = 192 + m := by
  obtain ⟨n, rfl⟩ := Int.eq_ofNat_of_zero_le h0
  have H : ∀ n : Nat, n < 32 → Go.bits .or .u8 192 (n : Int) = 192 + (n : Int) := by decide +kernel
  exact H n (by omega)
theorem or224' {m : Int} (h0 : 0 ≤ m) (h1 : m < 16) : Go.bits .or .u8 224 m = 224 + m := by
  obtain ⟨n, rfl⟩ := Int.eq_ofNat_of_zero_le h0
  have H : ∀ n : Nat, n < 16 → Go.bits .or .u8 224 (n : Int) = 224 + (n : Int) := by decide +kernel
  exact H n (by omega)
theorem or240' {m : Int} (h0 : 0 ≤ m) (h1 : m < 8) : Go.bits .or .u8 240 m = 240 + m := by
  obtain ⟨n, rfl⟩ := Int.eq_ofNat_of_zero_le h0
  have H : ∀ n : Nat, n < 8 → Go.bits .or .u8 240 (n : Int) = 240 + (n : Int) := by decide +kernel
  exact H n (by omega)
theorem append_high {r : Int} (h0 : 128 ≤ r) (hc : r ≤ 1114111 ∧ (r < 55296 ∨ 57343 < r)) (acc : List Int) (ha : acc.length ≤ 100000000) : utf8_AppendRune.f 5 acc r = some (acc ++ enc r) := by
  obtain ⟨r1, r2⟩ := hc
  have e : r % 4294967296 = r := by omega
  have l3 : ∀ a b c : Int, (([a, b, c] : List Int)).length = 3 := fun _ _ _ => rfl
  unfold utf8_AppendRune.f
  rw [e, if_neg (by omega)]
  unfold utf8_appendRuneNonASCII.f
  rw [e]
  by_cases h2 : r ≤ 2047
  · rw [if_pos h2, Option.bind_some, if_pos (by simp; omega), Option.bind_some, show enc r = [192 + r / 64, 128 + r % 64] from Lib.encodeRuneZ_two (by omega) h2, show r / 64 % 256 = r / 64 by omega, or192' (by omega) (by omega)]
  · rw [if_neg h2]
    have three : (2048 ≤ r ∧ r < 55296) ∨ (57343 < r ∧ r ≤ 65535) → utf8_appendRuneNonASCII.j0 5 acc r r true = some (acc ++ enc r) := fun h => by
      rw [utf8_appendRuneNonASCII.j0, if_pos rfl, Option.bind_some, if_pos (by simp; omega), show enc r = [224 + r / 4096, 128 + r / 64 % 64, 128 + r % 64] from Lib.encodeRuneZ_three h, show r / 4096 % 256 = r / 4096 by omega, or224' (by omega) (by omega)]
    by_cases h3 : r < 55296
    · rw [if_pos h3, decide_eq_true h3, three (.inl ⟨by omega, h3⟩)]; rfl
    · rw [if_neg h3, if_pos (by omega)]
      by_cases h4 : r ≤ 65535
      · rw [decide_eq_true h4, three (.inr ⟨by omega, h4⟩)]; rfl
      · rw [decide_eq_false h4, utf8_appendRuneNonASCII.j0, if_neg Bool.false_ne_true, if_pos (by omega), if_pos (by omega), Option.bind_some, if_pos (by simp; omega), Option.bind_some, show enc r = [240 + r / 262144, 128 + r / 4096 % 64, 128 + r / 64 % 64, 128 + r % 64] from Lib.encodeRuneZ_four (by omega) r1, show r / 262144 % 256 = r / 262144 by omega, or240' (by omega) (by omega)]
theorem enc_high {r : Int} (h0 : 128 ≤ r) (hc : r ≤ 1114111 ∧ (r < 55296 ∨ 57343 < r)) : enc r ≠ [] ∧ (∀ x ∈ enc r, 128 ≤ x ∧ x ≤ 255) ∧ (enc r).length ≤ 4 := by
  obtain ⟨r1, r2⟩ := hc
  by_cases h2 : r ≤ 2047
  · rw [show enc r = [192 + r / 64, 128 + r % 64] from Lib.encodeRuneZ_two (by omega) h2]
    refine ⟨by simp, fun x hx => ?_, by simp⟩
    simp at hx; omega
  · by_cases h3 : r ≤ 65535
    · rw [show enc r = [224 + r / 4096, 128 + r / 64 % 64, 128 + r % 64] from Lib.encodeRuneZ_three (by omega)]
      refine ⟨by simp, fun x hx => ?_, by simp⟩
      simp at hx; omega
    · rw [show enc r = [240 + r / 262144, 128 + r / 4096 % 64, 128 + r / 64 % 64, 128 + r % 64] from Lib.encodeRuneZ_four (by omega) r1]
      refine ⟨by simp, fun x hx => ?_, by simp⟩
      simp at hx; omega
abbrev Bd (B b : Nat) (l : List Int) (w : World) : Prop := Lib.BuilderAt 36 5 B b (.pointer (some ⟨b, 0, none⟩)) (l.map (Value.int .u8)) w
def GrowPost (B b n : Nat) (w : World) (e : Ending) (w' : World) : Prop := e = .returned (.tuple #[]) ∧ Bd B b [] w' ∧ Below B w w' ∧ ∃ p cap, w'.cell? ⟨b, 1, none⟩ = some (.slice p 0 cap) ∧ n ≤ cap
set_option maxHeartbeats 4000000 in
set_option maxRecDepth 100000 in
theorem grow_any (B b n : Nat) (w : World) (hB : B ≤ b) (hbk : w.heap[b]? = some (.cells #[.pointer none, .slice none 0 0] 36 (0, 0))) (hBw : B ≤ w.heap.size) (h0 : 1 ≤ n) (hn : n ≤ 140737488355328) :
    Calls Tryd.prog 28 #[.pointer (some ⟨b, 0, none⟩), .int .i64 (n : Int)] w (GrowPost B b n w) := by
  have hc0 : w.cell? ⟨b, 0, none⟩ = some (.pointer none) := by simp [World.cell?, hbk]
  have hsh : w.shape? b = some (36, 2) := by simp [World.shape?, hbk]
  have hfz : w.frozen? ⟨b, 0, none⟩ = false := by simp [World.frozen?, hbk]
  have HCC := Aside0.mk (G.cc_fresh b w hc0 hsh hfz)
  have hb1 : (w.setCell ⟨b, 0, none⟩ (.pointer (some ⟨b, 0, none⟩))).heap[b]? = some (.cells #[.pointer (some ⟨b, 0, none⟩), .slice none 0 0] 36 (0, 0)) := by simp [World.setCell, Array.getElem?_modify, hbk]
  have hB1 : Below B w (w.setCell ⟨b, 0, none⟩ (.pointer (some ⟨b, 0, none⟩))) := (Below.refl B w).setCell (p := ⟨b, 0, none⟩) hB _
  have hs1 : (w.setCell ⟨b, 0, none⟩ (.pointer (some ⟨b, 0, none⟩))).heap.size = w.heap.size := by simp [World.setCell]
  obtain ⟨W1, hW1⟩ : ∃ W1, w.setCell ⟨b, 0, none⟩ (.pointer (some ⟨b, 0, none⟩)) = W1 := ⟨_, rfl⟩
  rw [hW1] at HCC hb1 hB1 hs1
  have c1 : W1.cell? ⟨b, 1, none⟩ = some (.slice none 0 0) := by simp [World.cell?, hb1]
  have HG := Aside0.mk (show ∀ a, Calls Tryd.prog 36 #[.pointer (some ⟨b, 0, none⟩), .int .i64 (n : Int)] (W1.drewN a) fun e w' => e = .returned (.tuple #[]) ∧ (Lib.BuilderAt 36 5 B b (.pointer (some ⟨b, 0, none⟩)) [] w' ∧ Below B (W1.drewN a) w') ∧ ∃ p cap, w'.cell? ⟨b, 1, none⟩ = some (.slice p 0 cap) ∧ n ≤ cap from fun a => Tryd.Builder_grow_fresh_cap B b n (W1.drewN a) hB hb1 (by rw [show (W1.drewN a).heap.size = W1.heap.size from rfl, hs1]; exact hBw) (by omega))
  have HB1 := Aside0.mk hB1
  have d1 : decide (0 < (n : Int)) = true := decide_eq_true (by omega)
  clear hc0 hsh hfz hb1 hB1 hs1 hW1 hbk
  go_enter Tryd.func28, Tryd.ntmps28
  go_upto_region 3 with (go_at_call 19; (with_reducible refine HCC.out.mono ?_); rintro e w' ⟨rfl, rfl⟩)
  go_quiet (fail)
  go_wp2_with (go_at_call 36; (with_reducible refine (HG.out _).mono ?_); rintro e w2 ⟨rfl, ⟨hb, hB⟩, hp⟩; have HP := Aside0.mk (And.intro hb (And.intro (HB1.out.trans ((pw_below_drewN (Below.refl _ _) _).trans hB)) hp)); clear hb hB hp)
  go_end0
  exact ⟨rfl, HP.out.1, HP.out.2.1, HP.out.2.2⟩
theorem blkc {R i : Nat} {cs : Array Value} {t : TypeId} {w : World} {v : Value} (h : w.heap[R]? = some (Obj.cells cs t (0, 0))) (hv : cs[i]? = some v) : w.cell? ⟨R, i, none⟩ = some v := by simp [World.cell?, h, hv]
theorem blkf {R i : Nat} {cs : Array Value} {t : TypeId} {w : World} (h : w.heap[R]? = some (Obj.cells cs t (0, 0))) : w.frozen? ⟨R, i, none⟩ = false := by simp [World.frozen?, h]
theorem Bd.lt {B b : Nat} {l : List Int} {w : World} (h : Bd B b l w) : b < w.heap.size := Lib.BuilderAt.lt h
theorem Bd.below {B b : Nat} {l : List Int} {w w' : World} (h : Bd B b l w) (hb : Below w.heap.size w w') : Bd B b l w' := by
  have hlt := h.lt
  obtain ⟨hB, v, hk, hown, hne⟩ := h
  exact ⟨hB, v, (hb.block b hlt).trans hk, pw_own_below hown hb, hne⟩
def CapPost (w : World) (l : List Int) (e : Ending) (w' : World) : Prop := ∃ c : Nat, e = .returned (.int .i64 c) ∧ w' = w ∧ (l ≠ [] → c ≠ 0)
set_option maxHeartbeats 1000000 in
set_option maxRecDepth 100000 in
theorem cap_any (b : Nat) (v : Nat) (p : Option Addr) (n : Nat) (w : World) (h : w.cell? ⟨b, 1, none⟩ = some (.slice p n v)) :
    Calls Tryd.prog 31 #[.pointer (some ⟨b, 0, none⟩)] w fun e w' => e = .returned (.int .i64 v) ∧ w = w' := by
  go_enter Tryd.func31, Tryd.ntmps31
  go_wp2
  go_ret
  exact ⟨rfl, rfl⟩
theorem Bd.cell {B b : Nat} {l : List Int} {w : World} (h : Bd B b l w) : ∃ p c, w.cell? ⟨b, 1, none⟩ = some (.slice p l.length c) ∧ l.length ≤ c := by
  obtain ⟨hB, v, hk, hown, hne⟩ := h
  have hl : (l.map (Value.int .u8)).length = l.length := List.length_map ..
  rcases hown.2 with ⟨rfl, h0⟩ | ⟨g, cap, cur, rfl, _, _, hn, _⟩
  · refine ⟨none, 0, ?_, by omega⟩
    have : l.length = 0 := by omega
    rw [this]
    simp [World.cell?, hk]
  · refine ⟨some ⟨g, 0, none⟩, cap, ?_, by omega⟩
    rw [hl] at hk
    simp [World.cell?, hk]
/-- The iterators of strings stay. -/
def ItK (w w' : World) : Prop := ∀ (k : Nat) (s : ByteArray) (p : Nat), w.heap[k]? = some (Obj.stringIter s p) → w'.heap[k]? = some (Obj.stringIter s p)
theorem ItK.trans {a b c : World} (h : ItK a b) (k : ItK b c) : ItK a c := fun i s p hi => k i s p (h i s p hi)
theorem itk_below {w w' : World} (h : Below w.heap.size w w') : ItK w w' := fun k s p hk => (h.block k (Array.getElem?_eq_some_iff.1 hk).1).trans hk
theorem itk_set {w : World} {b i : Nat} {cs : Array Value} {t : TypeId} {fr : Nat × Nat} (hb : w.heap[b]? = some (Obj.cells cs t fr)) (v : Value) : ItK w (w.setCell ⟨b, i, none⟩ v) := by
  intro k s p hk
  have : b ≠ k := by
    intro e
    subst e
    rw [hb] at hk
    cases hk
  simp [World.setCell, Array.getElem?_modify, this, hk]
theorem itk_grown {w w' : World} {B n : Nat} {e : TypeId} {v : Value} {xs : List Value} (h : w.ownsRow B e 1 v n xs) (hg : w.grownBy w' v.ownBlock) : ItK w w' := by
  intro k s p hk
  refine (hg.block k (Array.getElem?_eq_some_iff.1 hk).1 (fun e => ?_)).trans hk
  rcases h.2 with ⟨rfl, _⟩ | ⟨g, cap, cur, rfl, _, hgg, _⟩
  · simp [Value.ownBlock] at e
  · simp only [Value.ownBlock, Option.some.injEq] at e
    subst e
    rw [hgg] at hk
    cases hk
theorem row_no {w : World} {B n : Nat} {e : TypeId} {v : Value} {xs : List Value} {k p : Nat} {s : ByteArray} (h : w.ownsRow B e 1 v n xs) (hk : w.heap[k]? = some (Obj.stringIter s p)) (he : some k = v.ownBlock) : False := by
  rcases h.2 with ⟨rfl, _⟩ | ⟨g, cap, cur, rfl, _, hgg, _⟩
  · simp [Value.ownBlock] at he
  · simp only [Value.ownBlock, Option.some.injEq] at he
    subst he
    rw [hgg] at hk
    cases hk
def RunePost (B b : Nat) (l : List Int) (w : World) (e : Ending) (w' : World) : Prop := (∃ x y, e = .returned (.tuple #[x, y])) ∧ Bd B b l w' ∧ Below B w w' ∧ ItK w w'
set_option maxHeartbeats 4000000 in
set_option maxRecDepth 100000 in
theorem wr_high (w0 : World) (b n : Nat) (l : List Int) (w : World) (h : Bd w0.heap.size b l w) (hB : Below w0.heap.size w0 w) (h0 : 128 ≤ n) (hv : (n : Int) ≤ 1114111 ∧ ((n : Int) < 55296 ∨ 57343 < (n : Int))) (hl : l.length ≤ 10000000) :
    Calls Tryd.prog 30 #[.pointer (some ⟨b, 0, none⟩), .int .i32 (n : Int)] w (RunePost w0.heap.size b (l ++ enc (n : Int)) w) := by
  have HH := Aside0.mk h
  obtain ⟨hBb, v, hk, hown, hne⟩ := h
  have hlm : (l.map (Value.int .u8)).length = l.length := List.length_map ..
  have hcc := G.cc_used b w (by simp [World.cell?, hk])
  have HCC := Aside0.mk (show Calls Tryd.prog 19 #[.pointer (some ⟨b, 0, none⟩)] w fun e w' => e = .returned (.tuple #[]) ∧ w = w' from hcc.mono fun e w' hh => ⟨hh.1, hh.2.symm⟩)
  obtain ⟨p, c, rfl⟩ : ∃ p c, v = .slice p l.length c := by
    rcases hown.2 with ⟨rfl, h0⟩ | ⟨g, cap, cur, rfl, _⟩
    · exact ⟨none, 0, by rw [show l.length = 0 by omega]⟩
    · exact ⟨some ⟨g, 0, none⟩, cap, by rw [hlm]⟩
  have k1 : w.cell? ⟨b, 1, none⟩ = some (.slice p l.length c) := by simp [World.cell?, hk]
  rw [hlm] at hown
  have hR : Kd.R (Kd.int .u8) 5 w w0.heap.size (fun k => some k = (.slice p l.length c : Value).ownBlock) (.slice p l.length c) l := Kd.R_of_own (enc := Value.int .u8) (h1 := fun _ => rfl) hown (fun k hk => hk.symm)
  have HAR := Aside0.mk (show Calls Tryd.prog 37 #[.slice p l.length c, .int .i32 (n : Int)] w fun e w' => ∃ p' c', e = .returned (.slice p' (l ++ enc (n : Int)).length c') ∧ w'.heap[b]? = some (.cells #[.pointer (some ⟨b, 0, none⟩), .slice p l.length c] 36 (0, 0)) ∧ w'.ownsRow w0.heap.size 5 1 (.slice p' (l ++ enc (n : Int)).length c') (l ++ enc (n : Int)).length ((l ++ enc (n : Int)).map (Value.int .u8)) ∧ Below w0.heap.size w0 w' ∧ Below w0.heap.size w w' ∧ ItK w w' from by
    refine (utf8_AppendRune.calls 5 (fun k => some k = (.slice p l.length c : Value).ownBlock) (.slice p l.length c) l (n : Int) (l ++ enc (n : Int)) w0 w hB hR (append_high (by omega) hv l (by omega))).mono ?_
    rintro e w' ⟨v0, rfl, hR', hB', hK⟩
    have ho := Kd.own_of_R hR'
    obtain ⟨p', c', rfl⟩ : ∃ p' c', v0 = .slice p' (l ++ enc (n : Int)).length c' := by
      rcases ho.2 with ⟨rfl, h0⟩ | ⟨g, cap, cur, rfl, _⟩
      · exact ⟨none, 0, by rw [h0]⟩
      · exact ⟨some ⟨g, 0, none⟩, cap, rfl⟩
    refine ⟨p', c', rfl, ?_, ho, hB', ?_, fun k s q hk' => (hK.2 k (Array.getElem?_eq_some_iff.1 hk').1 (fun e => row_no hown hk' e)).trans hk'⟩
    · exact (hK.2 b (Array.getElem?_eq_some_iff.1 hk).1 (fun e => hne e.symm)).trans hk
    · refine ⟨?_, ?_, ?_, hK.1, fun k hk' => ?_⟩
      · exact hB'.os.trans hB.os.symm
      · exact hB'.tape.trans hB.tape.symm
      · exact hB'.output.trans hB.output.symm
      · rw [hB'.block k hk', hB.block k hk'])
  have HHB := Aside0.mk hBb
  clear hcc hR hown hne hlm hk h0 hv hl hB
  go_enter Tryd.func30, Tryd.ntmps30
  go_wp2_with (first
    | (go_at_call 19; (with_reducible refine HCC.out.mono ?_); rintro e w' ⟨rfl, rfl⟩)
    | (go_at_call 37; (with_reducible refine HAR.out.mono ?_); rintro e w2 ⟨p', c', rfl, hk2, ho2, hB2, hB3, hit⟩; have k2 : w2.cell? ⟨b, 1, none⟩ = some (.slice p l.length c) := blkc hk2 rfl; have f2 : w2.frozen? ⟨b, 1, none⟩ = false := blkf hk2; have HX := Aside0.mk (And.intro hk2 (And.intro ho2 (And.intro hB3 hit))); clear hk2 ho2 hB2 hB3 hit))
  go_ret2
  obtain ⟨hk2, ho2, hB3, hit⟩ := HX.out
  refine ⟨⟨_, _, rfl⟩, ?_, hB3.setCell (p := ⟨b, 1, none⟩) HHB.out _, hit.trans (itk_set hk2 _)⟩
  exact Lib.BuilderAt.put (T := 36) (e := 5) HHB.out hk2 (bs' := (l ++ enc (n : Int)).map (Value.int .u8)) (by rw [List.length_map, ← List.length_append]; exact ho2) (by decide)
set_option maxHeartbeats 2000000 in
set_option maxRecDepth 100000 in
theorem wb_any (B b : Nat) (l : List Int) (c : Int) (w : World) (h : Bd B b l w) (hlen : l.length + 1 ≤ 140737488355328) (hBw : B ≤ w.heap.size) :
    Calls Tryd.prog 13 #[.pointer (some ⟨b, 0, none⟩), .int .u8 c] w fun e w' => e = .returned .nilIface ∧ Bd B b (l ++ [c]) w' ∧ Below B w w' ∧ ItK w w' := by
  obtain ⟨i0, hi, hz0, hz1, hz2⟩ := info_parts G.binfo
  obtain ⟨hB, v, hbk, hown, hne⟩ := h
  have hlm : (l.map (Value.int .u8)).length = l.length := List.length_map ..
  have hcc := G.cc_used b w (by simp [World.cell?, hbk])
  have HCC := Aside0.mk (show Calls Tryd.prog 19 #[.pointer (some ⟨b, 0, none⟩)] w fun e w' => e = .returned (.tuple #[]) ∧ w = w' from hcc.mono fun e w' hh => ⟨hh.1, hh.2.symm⟩)
  have c1 : w.cell? ⟨b, 1, none⟩ = some v := blkc hbk rfl
  have hlt : b < w.heap.size := (Array.getElem?_eq_some_iff.1 hbk).1
  have HBK := Aside0.mk hbk
  have HOW := Aside0.mk hown
  have HNE := Aside0.mk hne
  clear hcc hbk hown hne
  go_enter Tryd.func13, Tryd.ntmps13
  go_wp2_with (first | (go_at_call 19; (with_reducible refine HCC.out.mono ?_); rintro e w' ⟨rfl, rfl⟩) | (at_builtin; refine wpList_append_own _ rfl _ _ 22 rfl B 5 i0 (.int .u8 0) 1 1 Tryd.underlying22 hi hz0 hz1 hz2 rfl (by decide) v _ _ rfl (HOW.out.alloc _) ⟨w.heap.size, 0, none⟩ 1 1 [.int .u8 c] rfl rfl ?c1 ?c2 ?c3 ?c4 ?c5 ?_))
  case c1 =>
    intro j u hj
    match j, hj with
    | 0, hj => simp at hj; subst hj; simp [Addr.add]
  case c2 => intro u hu; simp at hu; subst hu; rfl
  case c3 => unfold maxLen; rw [hlm]; omega
  case c4 => rw [hlm]; omega
  case c5 => simp; omega
  intro v' w2 hown' hgrow _
  have hit : ItK w w2 := (itk_below ((Below.refl _ _).alloc (Nat.le_refl _) (.cells #[.int .u8 c] 5))).trans (itk_grown (HOW.out.alloc _) hgrow)
  have hb2 : w2.heap[b]? = some (.cells #[.pointer (some ⟨b, 0, none⟩), v] 36 (0, 0)) := by
    rw [hgrow.block b (by simp; omega) (fun e => HNE.out e.symm), Lib.alloc_old w _ b hlt]
    exact HBK.out
  have d1 : w2.cell? ⟨b, 1, none⟩ = some v := blkc hb2 rfl
  have f1 : w2.frozen? ⟨b, 1, none⟩ = false := blkf hb2
  have hB2 : Below B w w2 := (((Below.refl B w).alloc hBw _).grown hgrow (by simp; omega) (fun k hk => (HOW.out.lt k hk).1))
  obtain ⟨g, cap, rfl⟩ : ∃ g cap, v' = .slice (some ⟨g, 0, none⟩) (l.length + 1) cap := by
    rcases hown'.2 with ⟨_, h0⟩ | ⟨g, cap, cur, hv, _⟩
    · omega
    · exact ⟨g, cap, hv⟩
  have HX := Aside0.mk (And.intro hb2 (And.intro hown' (And.intro hB2 hit)))
  clear hb2 hown' hB2 hit hgrow
  go_wp2
  go_ret
  obtain ⟨hb2, hown', hB2, hit⟩ := HX.out
  refine ⟨rfl, ?_, hB2.setCell (p := ⟨b, 1, none⟩) hB _, hit.trans (itk_set hb2 _)⟩
  exact Lib.BuilderAt.put (T := 36) (e := 5) hB hb2 (bs' := (l ++ [c]).map (Value.int .u8)) (by simpa using hown') (by decide)
theorem strCells_map (s : ByteArray) : Lib.strCells s = (bytesOf s).map (Value.int .u8) := by
  unfold Lib.strCells bytesOf
  rw [List.map_map]
  rfl
set_option maxHeartbeats 2000000 in
set_option maxRecDepth 100000 in
theorem ws_any (B b : Nat) (l : List Int) (s : ByteArray) (w : World) (h : Bd B b l w) (hlen : l.length + s.size ≤ 140737488355328) (hBw : B ≤ w.heap.size) :
    Calls Tryd.prog 29 #[.pointer (some ⟨b, 0, none⟩), .string s] w fun e w' => e = .returned (.tuple #[.int .i64 s.size, .nilIface]) ∧ Bd B b (l ++ bytesOf s) w' ∧ Below B w w' := by
  obtain ⟨i0, hi, hz0, hz1, hz2⟩ := info_parts G.binfo
  obtain ⟨hB, v, hbk, hown, hne⟩ := h
  have hlm : (l.map (Value.int .u8)).length = l.length := List.length_map ..
  have hcc := G.cc_used b w (by simp [World.cell?, hbk])
  have HCC := Aside0.mk (show Calls Tryd.prog 19 #[.pointer (some ⟨b, 0, none⟩)] w fun e w' => e = .returned (.tuple #[]) ∧ w = w' from hcc.mono fun e w' hh => ⟨hh.1, hh.2.symm⟩)
  have c1 : w.cell? ⟨b, 1, none⟩ = some v := blkc hbk rfl
  have hlt : b < w.heap.size := (Array.getElem?_eq_some_iff.1 hbk).1
  have HBK := Aside0.mk hbk
  have HOW := Aside0.mk hown
  have HNE := Aside0.mk hne
  clear hcc hbk hown hne
  go_enter Tryd.func29, Tryd.ntmps29
  go_wp2_with (first | (go_at_call 19; (with_reducible refine HCC.out.mono ?_); rintro e w' ⟨rfl, rfl⟩) | (at_builtin; refine Lib.wpList_append_own_string _ rfl _ _ 22 9 rfl B 5 i0 Tryd.underlying22 Tryd.underlying9 hi hz0 hz1 hz2 v _ _ rfl HOW.out s rfl ?c3 ?c4 ?c5 ?_))
  case c3 => unfold maxLen; rw [hlm]; omega
  case c4 => rw [hlm]; omega
  case c5 => exact hBw
  intro v' w2 hown' hgrow _
  have hb2 : w2.heap[b]? = some (.cells #[.pointer (some ⟨b, 0, none⟩), v] 36 (0, 0)) := by
    rw [hgrow.block b hlt (fun e => HNE.out e.symm)]
    exact HBK.out
  have d1 : w2.cell? ⟨b, 1, none⟩ = some v := blkc hb2 rfl
  have f1 : w2.frozen? ⟨b, 1, none⟩ = false := blkf hb2
  have hB2 : Below B w w2 := ((Below.refl B w).grown hgrow hBw (fun k hk => (HOW.out.lt k hk).1))
  obtain ⟨ao, n', cap, rfl⟩ : ∃ ao n' cap, v' = .slice ao n' cap := by
    rcases hown'.2 with ⟨hv, _⟩ | ⟨g, cap, cur, hv, _⟩
    · exact ⟨_, _, _, hv⟩
    · exact ⟨_, _, _, hv⟩
  have HX := Aside0.mk (And.intro hb2 (And.intro hown' hB2))
  clear hb2 hown' hB2 hgrow
  go_wp2
  go_ret2
  obtain ⟨hb2, hown', hB2⟩ := HX.out
  refine ⟨rfl, ?_, hB2.setCell (p := ⟨b, 1, none⟩) hB _⟩
  exact Lib.BuilderAt.put (T := 36) (e := 5) hB hb2 (bs' := (l ++ bytesOf s).map (Value.int .u8)) (by rw [List.map_append, ← strCells_map, List.length_append, List.length_map, Lib.strCells_length]; exact hown') (by decide)
set_option maxHeartbeats 2000000 in
set_option maxRecDepth 100000 in
/-- Nothing written: the builder's room stays. -/
theorem ws_nil (B b cap : Nat) (p : Option Addr) (w : World) (h : Bd B b [] w) (hc : w.cell? ⟨b, 1, none⟩ = some (.slice p 0 cap)) (h1 : 1 ≤ cap) (hBw : B ≤ w.heap.size) :
    Calls Tryd.prog 29 #[.pointer (some ⟨b, 0, none⟩), .string ⟨#[]⟩] w fun e w' => e = .returned (.tuple #[.int .i64 0, .nilIface]) ∧ Bd B b [] w' ∧ Below B w w' ∧ w'.cell? ⟨b, 1, none⟩ = some (.slice p 0 cap) := by
  obtain ⟨i0, hi, hz0, hz1, hz2⟩ := info_parts G.binfo
  obtain ⟨hB, v, hbk, hown, hne⟩ := h
  have hv : v = .slice p 0 cap := by
    have := blkc (i := 1) hbk rfl
    rw [this] at hc
    exact Option.some.inj hc
  subst hv
  have hcc := G.cc_used b w (by simp [World.cell?, hbk])
  have HCC := Aside0.mk (show Calls Tryd.prog 19 #[.pointer (some ⟨b, 0, none⟩)] w fun e w' => e = .returned (.tuple #[]) ∧ w = w' from hcc.mono fun e w' hh => ⟨hh.1, hh.2.symm⟩)
  have f1 : w.frozen? ⟨b, 1, none⟩ = false := blkf hbk
  obtain ⟨g, rfl⟩ : ∃ g, p = some ⟨g, 0, none⟩ := by
    rcases hown.2 with ⟨hx, _⟩ | ⟨g, cap', cur, hx, _, hg, _, _, hcs, _⟩
    · simp only [Value.slice.injEq] at hx
      omega
    · simp only [Value.slice.injEq] at hx
      exact ⟨g, hx.1⟩
  have HX := Aside0.mk (And.intro hbk hown)
  clear hcc hbk hown hne hi hz0 hz1 hz2
  go_enter Tryd.func29, Tryd.ntmps29
  go_wp2_with (go_at_call 19; (with_reducible refine HCC.out.mono ?_); rintro e w' ⟨rfl, rfl⟩)
  go_ret2
  obtain ⟨hbk, hown⟩ := HX.out
  refine ⟨rfl, ?_, (Below.refl _ _).setCell (p := ⟨b, 1, none⟩) hB _, World.cell?_setCell_same _ _ _ hc⟩
  exact Lib.BuilderAt.put (T := 36) (e := 5) hB hbk (bs' := ([] : List Int).map (Value.int .u8)) hown (by decide)
end Go.Proofs.YtbobbbpjphkooaaDoor.Mp
