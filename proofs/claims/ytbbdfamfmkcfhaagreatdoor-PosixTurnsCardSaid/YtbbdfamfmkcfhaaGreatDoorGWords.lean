/- The conversion of a string to a slice of bytes makes a new row that is only read: its cells are the string's bytes; nothing that was there has turned. No condition but that the string's length is at most 2^47. -/
import Derived.Test.YtbbdfamfmkcfhaaGreatDoorWMore
import Derived.Lib.ConvBytes
import Derived.Lib.SlBytesConst
namespace Go.Proofs.YtbbdfamfmkcfhaaGreatDoor.G
open Go.RowKit Go.Proofs.YtbbdfamfmkcfhaaGreatDoorW.PrintWords Go.Proofs.YtbbdfamfmkcfhaaGreatDoorW.PrintLast Go.Proofs.YtbbdfamfmkcfhaaGreatDoorW.PrintMore
set_option linter.unusedVariables false

theorem isEmpty_ne (l : List UInt8) : l.isEmpty = !(l != []) := by cases l <;> rfl
theorem ba_size (a : Array UInt8) : (ByteArray.mk a).size = a.size := rfl
theorem u8_w (n : Int) : IntKind.u8.wrap n = n % 256 := by simp [IntKind.wrap, IntKind.bits, IntKind.signed]
theorem u16_w (n : Int) : IntKind.u16.wrap n = n % 65536 := by simp [IntKind.wrap, IntKind.bits, IntKind.signed]
theorem u32_w (n : Int) : IntKind.u32.wrap n = n % 4294967296 := by simp [IntKind.wrap, IntKind.bits, IntKind.signed]
theorem u64_w (n : Int) : IntKind.u64.wrap n = n % 18446744073709551616 := by simp [IntKind.wrap, IntKind.bits, IntKind.signed]
theorem i8_w (n : Int) : IntKind.i8.wrap n = (n + 128) % 256 - 128 := by
  simp only [IntKind.wrap, IntKind.bits, IntKind.signed]
  simp
  split <;> omega
theorem i16_w (n : Int) : IntKind.i16.wrap n = (n + 32768) % 65536 - 32768 := by
  simp only [IntKind.wrap, IntKind.bits, IntKind.signed]
  simp
  split <;> omega

theorem bytesWorld_below (w : World) (e : TypeId) (s : ByteArray) : Below w.heap.size w (Lib.bytesWorld w e s) :=
  ⟨rfl, rfl, rfl, by rw [Lib.bytesWorld_size]; omega, fun k hk => Lib.bytesWorld_at_old w e s k hk⟩

theorem below_grown {w w' : World} (h : Below w.heap.size w w') : w.grownBy w' none := ⟨h.os, h.tape, h.output, h.size, fun k hk _ => h.block k hk⟩

theorem bytesWorld_V (w : World) (e base : Nat) (s : ByteArray) (c : Nat) (hc : s.size ≤ c) (hm : s.size ≤ 140737488355328) :
    Kd.V (Kd.int .u8) e (Lib.bytesWorld w e s) base (fun k => w.heap.size ≤ k) (.slice (some ⟨w.heap.size, 0, none⟩) s.size c) (bytesOf s) := by
  have hl := bytesOf_length s
  refine ⟨some ⟨w.heap.size, 0, none⟩, c, by rw [hl], by rw [hl]; exact hc, fun W' hW => ?_⟩
  have hb := hW w.heap.size (Nat.le_refl _) (by rw [Lib.bytesWorld_size]; omega)
  rw [Lib.bytesWorld_at_new] at hb
  refine Kd.C_of_reads (enc := Value.int .u8) (d := (0 : Int)) (h1 := fun _ => rfl) ⟨rfl, by omega, fun _ => ⟨_, rfl, fun j hj => ?_⟩⟩
  rw [hl] at hj
  have ha : (⟨w.heap.size, 0, none⟩ : Addr).add j = ⟨w.heap.size, j, none⟩ := by
    unfold Addr.add
    split <;> simp_all
  rw [ha]
  simp [World.cell?, hb, Lib.bytesCells, Array.getElem?_append, List.getD, hj, bytesOf]

section
variable {P : Program} {ops : Array Oper} {rest : List Oper} {o : Oper} {a : Act} {Q : Exit → Act → World → Prop} {Kc : Act → World → Prop}
theorem grownCap_le (w : World) (e : TypeId) (n : Nat) : n ≤ grownCap w n 0 e := grownCap_ge w n 0 e

theorem conv_run {W : World} (e src dst : Nat) (x : Operand) (ho : o.op = .convert src dst x) (s : ByteArray) (hx : a.eval x = .string s)
    (hs : P.underlying src = some .string) (hd : P.underlying dst = some (.slice e)) (he : P.underlying e = some (.int .u8)) :
    (execOp a.eval o).run P W = .ok (.value (.slice (some ⟨W.heap.size, 0, none⟩) s.size (grownCap W s.size 0 e))) (Lib.bytesWorld W e s) := by
  simp [execOp, ho, hx, Lib.run_convert_string_bytes (P := P) W src dst e s hs hd he]

theorem V_bytes {w0 W : World} (base e : Nat) (hgd : o.guard = none) {N : Tmp} (_hd : o.dst = some N) (src dst : TypeId) (x : Operand) (ho : o.op = .convert src dst x) (s : ByteArray) (hx : a.eval x = .string s)
    (hs : P.underlying src = some .string) (hd : P.underlying dst = some (.slice e)) (he : P.underlying e = some (.int .u8)) (hm : s.size ≤ 140737488355328) (HB : Below base w0 W) (hbase : base ≤ W.heap.size)
    (h : ∀ v1 w1, Kd.V (Kd.int .u8) e w1 base (fun k => W.heap.size ≤ k) v1 (bytesOf s) → Below base w0 w1 → W.grownBy w1 none → (∃ b, v1.ownBlock = some b ∧ W.heap.size ≤ b) → wpList P ops Q rest (a.put o.dst v1) w1) : wpList P ops Q (o :: rest) a W := by
  have hb := bytesWorld_below W e s
  refine Kd.event_run hgd (conv_run e src dst x ho s hx hs hd he) (h _ _ (bytesWorld_V W e base s _ (grownCap_le W e s.size) hm) (HB.trans (hb.mono hbase)) (below_grown hb) ⟨W.heap.size, by simp [Value.ownBlock], Nat.le_refl _⟩)
theorem V_bytes_step {w0 W : World} (base e : Nat) (hw : Region.wanted o (yielded ops a.tmps) = true) {N : Tmp} (_hd : o.dst = some N) (src dst : TypeId) (x : Operand) (ho : o.op = .convert src dst x) (s : ByteArray) (hx : a.eval x = .string s)
    (hs : P.underlying src = some .string) (hd : P.underlying dst = some (.slice e)) (he : P.underlying e = some (.int .u8)) (hm : s.size ≤ 140737488355328) (HB : Below base w0 W) (hbase : base ≤ W.heap.size)
    (h : ∀ v1 w1, Kd.V (Kd.int .u8) e w1 base (fun k => W.heap.size ≤ k) v1 (bytesOf s) → Below base w0 w1 → W.grownBy w1 none → (∃ b, v1.ownBlock = some b ∧ W.heap.size ≤ b) → Kc (a.put o.dst v1) w1) : if Region.wanted o (yielded ops a.tmps) = true then Oper.wp P o a W Kc Q else Kc (a.put o.dst undef) W := by
  have hb := bytesWorld_below W e s
  refine event_step hw (conv_run e src dst x ho s hx hs hd he) (h _ _ (bytesWorld_V W e base s _ (grownCap_le W e s.size) hm) (HB.trans (hb.mono hbase)) (below_grown hb) ⟨W.heap.size, by simp [Value.ownBlock], Nat.le_refl _⟩)

theorem const_V (W : World) (e base : Nat) (xs : List Int) (inner : List Value) (fr : Nat × Nat) (hin : inner = xs.map (Value.int .u8)) (hm : xs.length ≤ 9223372036854775807) :
    Kd.V (Kd.int .u8) e (W.alloc (.cells inner.toArray e fr)) base (fun k => W.heap.size ≤ k) (.slice (some ⟨W.heap.size, 0, none⟩) xs.length xs.length) xs := by
  subst hin
  refine ⟨some ⟨W.heap.size, 0, none⟩, xs.length, rfl, Nat.le_refl _, fun W' hW => ?_⟩
  have hz : (W.alloc (.cells (xs.map (Value.int .u8)).toArray e fr)).heap.size = W.heap.size + 1 := by
    show (W.heap.push _).size = _
    simp
  have hb := hW W.heap.size (Nat.le_refl _) (by rw [hz]; omega)
  have hb2 : (W.alloc (.cells (xs.map (Value.int .u8)).toArray e fr)).heap[W.heap.size]? = some (.cells (xs.map (Value.int .u8)).toArray e fr) := by
    show (W.heap.push _)[W.heap.size]? = _
    simp
  rw [hb2] at hb
  refine Kd.C_of_reads (enc := Value.int .u8) (d := (0 : Int)) (h1 := fun _ => rfl) ⟨rfl, by omega, fun _ => ⟨_, rfl, fun j hj => ?_⟩⟩
  have ha : (⟨W.heap.size, 0, none⟩ : Addr).add j = ⟨W.heap.size, j, none⟩ := by
    unfold Addr.add
    split <;> simp_all
  rw [ha]
  simp [World.cell?, hb, List.getD, hj]

/-- The literal of a constant text, converted: the row is only read. -/
theorem V_const {w0 W : World} {o2 : Oper} (base e : Nat) (hgd : o.guard = none) {N N2 : Tmp} (_hd : o.dst = some N) (hgd2 : o2.guard = none) (_hd2 : o2.dst = some N2) (t : TypeId) (ho2 : o2.op = .convert t t (.tmp N))
    (ht : P.underlying t = some (.slice e)) (he : P.underlying e = some (.int .u8)) (xs : List Int) {inner : List Value}
    (hrun : (execOp a.eval o).run P W = .ok (.value (.slice (some ⟨W.heap.size, 0, none⟩) xs.length xs.length)) (W.alloc (.cells inner.toArray e)))
    (hin : inner = xs.map (Value.int .u8)) (hm : xs.length ≤ 9223372036854775807) (hev : ∀ v, (a.put o.dst v).eval (.tmp N) = v) (HB : Below base w0 W) (hbase : base ≤ W.heap.size)
    (h : ∀ v1 w1, Kd.V (Kd.int .u8) e w1 base (fun k => W.heap.size ≤ k) v1 xs → Below base w0 w1 → W.grownBy w1 none → (∃ b, v1.ownBlock = some b ∧ W.heap.size ≤ b) → wpList P ops Q rest ((a.put o.dst v1).put o2.dst v1) w1) : wpList P ops Q (o :: o2 :: rest) a W := by
  refine Kd.event_run hgd hrun ?_
  have hc : (execOp (a.put o.dst (.slice (some ⟨W.heap.size, 0, none⟩) xs.length xs.length)).eval o2).run P (W.alloc (.cells inner.toArray e)) = .ok (.value (.slice (some ⟨W.heap.size, 0, none⟩) xs.length xs.length)) (W.alloc (.cells inner.toArray e (inner.toArray.size, inner.toArray.size + 1))) := by
    simp [execOp, ho2, hev, Lib.run_convert_bytes_const (P := P) W t e inner.toArray xs.length xs.length ht he]
  refine Kd.event_run hgd2 hc (h _ _ (const_V W e base xs inner _ hin hm) (HB.alloc hbase _) (World.grownBy_alloc W _ none) ⟨W.heap.size, by simp [Value.ownBlock], Nat.le_refl _⟩)
end
end Go.Proofs.YtbbdfamfmkcfhaaGreatDoor.G
