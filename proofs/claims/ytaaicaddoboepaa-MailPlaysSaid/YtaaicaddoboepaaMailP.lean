/- Chapter 23: whatever is put in and taken out, what is told each time, is what the document says: the law's walk. -/
import Derived.Test.YtaaicaddoboepaaMailS
import Derived.Deep.RegionLaw
import Derived.RegionTactic
namespace Go.Proofs.Ytaaicaddoboepaa.Mail
open Go.Conc Go.RowKit Go.Proofs.YtaaicaddoboepaaW.PrintWords Go.Proofs.YtaaicaddoboepaaW.PrintLast Go.Proofs.YtaaicaddoboepaaW.PrintMore Go.Proofs.Ytaaicaddoboepaa.Row
set_option linter.unusedVariables false
set_option linter.unusedSimpArgs false
theorem step_append_q {P : Program} {ops : Array Oper} {o : Oper} {a : Act} {w : World} {K : Act → World → Prop} {Q : Exit → Act → World → Prop} {E : Prop}
    (hg : o.guard = none) (s x : Operand) (t : TypeId) (hop : o.op = Op.call { callee := Callee.builtin Builtin.append, args := #[s, x], argTypes := #[t, t] })
    (base : Nat) (e : TypeId) (i : TypeInfo) (z : Value) (size bytes : Nat) (h1 : P.underlying t = some (.slice e)) (h2 : P.info? e = some i) (h3 : i.zero = some z) (h4 : i.size = size) (h5 : i.bytes = bytes) (h6 : z.cells.size = size) (h7 : 0 < size)
    (v : Value) (n : Nat) (xs : List Value) (hs : a.eval s = v) (hown : QRow w base e size v n xs)
    (ad : Addr) (m c : Nat) (news : List Value) (hx : a.eval x = .slice (some ad) m c) (hn : news.length = m * size) (hc : ∀ j u, news[j]? = some u → w.cell? (ad.add j) = some u) (h1c : ∀ u ∈ news, u.oneCell' = true) (hm : 0 < m)
    (b1 : n + m ≤ maxLen) (b2 : (n + m) * bytes ≤ 140737488355328) (hbase : base ≤ w.heap.size)
    (hK : ∀ v' w', QRow w' base e size v' (n + m) (xs ++ news) → w.grownBy w' v.ownBlock → (v'.ownBlock = v.ownBlock ∨ ∃ b, v'.ownBlock = some b ∧ w.heap.size ≤ b) → K (a.put o.dst v') w') :
    if Region.wanted o (yielded ops a.tmps) = true then Oper.wp P o a w K Q else E := by
  have hw : Region.wanted o (yielded ops a.tmps) = true := by simp [Region.wanted, hg]
  rw [if_pos hw]
  obtain ⟨v', w', hrun, r1, r2, r3⟩ := q_append (P := P) w base t o.type e i z size bytes h1 h2 h3 h4 h5 h6 h7 v n xs hown ad m c news hn hc h1c hm b1 b2 hbase
  unfold Oper.wp
  simp [execOp, hop, resolve, invoke, builtin, hs, hx, hrun, Result.andThen]
  exact hK v' w' r1 r2 r3
def ints (q : List Int) : List Value := q.map (Value.int .i64)
theorem ints_len (q : List Int) : (ints q).length = q.length := by unfold ints; simp
theorem ints_snoc (q : List Int) (x : Int) : ints (q ++ [x]) = ints q ++ [Value.int .i64 x] := by unfold ints; simp
/-- What holds cells stays. -/
def CK (w w' : World) : Prop := ∀ (k : Nat) (cs : Array Value) (t : TypeId) (fr : Nat × Nat), w.heap[k]? = some (.cells cs t fr) → w'.heap[k]? = some (.cells cs t fr)
theorem CK.below {w w' : World} (h : Below w.heap.size w w') : CK w w' := fun k cs t fr hk => (h.block k (Array.getElem?_eq_some_iff.1 hk).1).trans hk
theorem CK.now {c cap : Nat} {buf buf2 : List Value} {w w' : World} (h : Now c cap buf2 w w') (hc : ChB c cap buf w) : CK w w' := fun k cs t fr hk => h.cells hc hk
/-- The law's own two rows, behind an array. -/
def BoxAt (base X : Nat) (q0 q1 : List Int) (w : World) : Prop :=
  ∃ A0 c0 A1 c1, w.heap[X]? = some (.cells #[.slice A0 q0.length c0, .slice A1 q1.length c1] 34 (0, 0)) ∧ base ≤ X ∧
    QRow w base 3 1 (.slice A0 q0.length c0) q0.length (ints q0) ∧ QRow w base 3 1 (.slice A1 q1.length c1) q1.length (ints q1) ∧
    ∀ k, (Value.slice A0 q0.length c0).ownBlock = some k → (Value.slice A1 q1.length c1).ownBlock ≠ some k
theorem q_ck {w w' : World} {base : Nat} {e : TypeId} {size : Nat} {v : Value} {n : Nat} {xs : List Value} (h : QRow w base e size v n xs) (hk : CK w w') : QRow w' base e size v n xs :=
  q_move h (fun k hv => by
    obtain ⟨_, cells, hc⟩ := q_typed h k hv
    exact (hk _ _ _ _ hc).trans hc.symm)
theorem BoxAt.ck {base X : Nat} {q0 q1 : List Int} {w w' : World} (h : BoxAt base X q0 q1 w) (hk : CK w w') : BoxAt base X q0 q1 w' := by
  obtain ⟨A0, c0, A1, c1, h1, h2, h3, h4, h5⟩ := h
  exact ⟨A0, c0, A1, c1, hk _ _ _ _ h1, h2, q_ck h3 hk, q_ck h4 hk, h5⟩
theorem two_of {X : Nat} {t : TypeId} {a b : Value} {w : World} (h : w.heap[X]? = some (.cells #[a, b] t (0, 0))) : w.cell? ⟨X, 0, none⟩ = some a ∧ w.cell? ⟨X, 1, none⟩ = some b ∧ ∀ j, w.frozen? ⟨X, j, none⟩ = false := by
  refine ⟨?_, ?_, fun j => ?_⟩
  · unfold World.cell?; rw [h]; rfl
  · unfold World.cell?; rw [h]; rfl
  · unfold World.frozen?; rw [h]; simp
theorem one_cell (W : World) (p : Value) (e : TypeId) : ∀ j u, [p][j]? = some u → (W.alloc (.cells #[p] e)).cell? ((⟨W.heap.size, 0, none⟩ : Addr).add j) = some u := by
  intro j u hj
  have hb : (W.alloc (.cells #[p] e)).heap[W.heap.size]? = some (.cells #[p] e) := by
    show (W.heap.push _)[W.heap.size]? = _
    simp
  have ha : (⟨W.heap.size, 0, none⟩ : Addr).add j = ⟨W.heap.size, j, none⟩ := by unfold Addr.add; split <;> simp_all
  rw [ha]
  unfold World.cell?
  rw [hb]
  rcases j with _ | j
  · simpa using hj
  · simp at hj
theorem q_other {w : World} {base b : Nat} {e t : TypeId} {size : Nat} {v : Value} {n : Nat} {xs : List Value} {cs : Array Value} {fr : Nat × Nat} (h : QRow w base e size v n xs) (hb : w.heap[b]? = some (.cells cs t fr)) (ht : t ≠ e) : v.ownBlock ≠ some b := by
  intro hv
  obtain ⟨_, cells, hc⟩ := q_typed h b hv
  rw [hc] at hb
  injection hb with hb
  injection hb with _ h2
  exact ht h2.symm
theorem MailAt.grown {base B cu cp cap : Nat} {T : TypeId} {us ps : List Value} {w w' : World} (h : MailAt T base B cu cp cap us ps w) {row : Option Nat} (hg : w.grownBy w' row) (hr : ∀ k, row = some k → ∃ cs t fr, w.heap[k]? = some (.cells cs t fr) ∧ t ≠ T) : MailAt T base B cu cp cap us ps w' := by
  obtain ⟨h1, ⟨s, r, h2⟩, ⟨s2, r2, h3⟩, h4⟩ := h
  have l1 := (Array.getElem?_eq_some_iff.1 h1).1
  have l2 := (Array.getElem?_eq_some_iff.1 h2).1
  have l3 := (Array.getElem?_eq_some_iff.1 h3).1
  refine ⟨(hg.block B l1 (fun he => ?_)).trans h1, ⟨s, r, (hg.block cu l2 (fun he => ?_)).trans h2⟩, ⟨s2, r2, (hg.block cp l3 (fun he => ?_)).trans h3⟩, h4⟩
  · obtain ⟨cs, t, fr, hk, ht⟩ := hr B he.symm
    rw [h1] at hk
    injection hk with hk
    injection hk with _ h2
    exact ht h2.symm
  · obtain ⟨cs, t, fr, hk, ht⟩ := hr cu he.symm
    rw [h2] at hk
    cases hk
  · obtain ⟨cs, t, fr, hk, ht⟩ := hr cp he.symm
    rw [h3] at hk
    cases hk
theorem heap_set (w : World) (B j : Nat) (u : Value) (cs : Array Value) (t : TypeId) (fr : Nat × Nat) (h : w.heap[B]? = some (.cells cs t fr)) : (w.setCell ⟨B, j, none⟩ u).heap[B]? = some (.cells (cs.setIfInBounds j u) t fr) := by
  simp [World.setCell, Array.getElem?_modify, h]
theorem heap_set_ne (w : World) (B k j : Nat) (u : Value) (hne : k ≠ B) : (w.setCell ⟨B, j, none⟩ u).heap[k]? = w.heap[k]? := by
  simp [World.setCell, Array.getElem?_modify, Ne.symm hne]
theorem set_grown (w : World) (X j : Nat) (u : Value) : w.grownBy (w.setCell ⟨X, j, none⟩ u) (some X) :=
  ⟨rfl, rfl, rfl, by simp [World.setCell], fun k hk hne => heap_set_ne w X k j u (fun he => hne (by rw [he]))⟩
theorem q_grown {w w' : World} {base : Nat} {e : TypeId} {size : Nat} {v : Value} {n : Nat} {xs : List Value} (h : QRow w base e size v n xs) {row : Option Nat} (hg : w.grownBy w' row) (hne : ∀ k, v.ownBlock = some k → some k ≠ row) : QRow w' base e size v n xs :=
  q_move h (fun k hv => hg.block k (q_lt h k hv) (hne k hv))
/-- A row is written (or made anew), and stored: the boxes then. -/
theorem BoxAt.put0 {base X : Nat} {q0 q1 : List Int} {w w' : World} {A0 A1 A2 : Option Addr} {c0 c1 c2 n2 : Nat} {p : List Int} (hX : w.heap[X]? = some (.cells #[.slice A0 q0.length c0, .slice A1 q1.length c1] 34 (0, 0))) (hb : base ≤ X)
    (h0 : QRow w base 3 1 (.slice A0 q0.length c0) q0.length (ints q0)) (h1 : QRow w base 3 1 (.slice A1 q1.length c1) q1.length (ints q1)) (hd : ∀ k, (Value.slice A0 q0.length c0).ownBlock = some k → (Value.slice A1 q1.length c1).ownBlock ≠ some k)
    (hg : w.grownBy w' (Value.slice A0 q0.length c0).ownBlock) (hn : p.length = n2) (h2 : QRow w' base 3 1 (.slice A2 n2 c2) n2 (ints p)) (hf : (Value.slice A2 n2 c2).ownBlock = (Value.slice A0 q0.length c0).ownBlock ∨ (Value.slice A2 n2 c2).ownBlock = none ∨ ∃ b, (Value.slice A2 n2 c2).ownBlock = some b ∧ w.heap.size ≤ b) :
    BoxAt base X p q1 (w'.setCell ⟨X, 0, none⟩ (.slice A2 n2 c2)) := by
  subst hn
  have hX' : w'.heap[X]? = some (.cells #[.slice A0 q0.length c0, .slice A1 q1.length c1] 34 (0, 0)) := (hg.block X (Array.getElem?_eq_some_iff.1 hX).1 (fun he => q_other h0 hX (by decide) he.symm)).trans hX
  have h1' : QRow w' base 3 1 (.slice A1 q1.length c1) q1.length (ints q1) := q_grown h1 hg (fun k hv he => hd k he.symm hv)
  refine ⟨A2, c2, A1, c1, heap_set w' X 0 _ _ _ _ hX', hb, q_grown h2 (set_grown w' X 0 _) (fun k hv he => ?_), q_grown h1' (set_grown w' X 0 _) (fun k hv he => ?_), fun k hv hv1 => ?_⟩
  · exact q_other h2 hX' (by decide) (by rw [hv]; exact he)
  · exact q_other h1' hX' (by decide) (by rw [hv]; exact he)
  · rcases hf with hf | hf | ⟨b, hf, hlt⟩
    · rw [hf] at hv; exact hd k hv hv1
    · rw [hf] at hv; cases hv
    · rw [hf] at hv
      cases hv
      have := q_lt h1 _ hv1
      omega
theorem BoxAt.put1 {base X : Nat} {q0 q1 : List Int} {w w' : World} {A0 A1 A2 : Option Addr} {c0 c1 c2 n2 : Nat} {p : List Int} (hX : w.heap[X]? = some (.cells #[.slice A0 q0.length c0, .slice A1 q1.length c1] 34 (0, 0))) (hb : base ≤ X)
    (h0 : QRow w base 3 1 (.slice A0 q0.length c0) q0.length (ints q0)) (h1 : QRow w base 3 1 (.slice A1 q1.length c1) q1.length (ints q1)) (hd : ∀ k, (Value.slice A0 q0.length c0).ownBlock = some k → (Value.slice A1 q1.length c1).ownBlock ≠ some k)
    (hg : w.grownBy w' (Value.slice A1 q1.length c1).ownBlock) (hn : p.length = n2) (h2 : QRow w' base 3 1 (.slice A2 n2 c2) n2 (ints p)) (hf : (Value.slice A2 n2 c2).ownBlock = (Value.slice A1 q1.length c1).ownBlock ∨ (Value.slice A2 n2 c2).ownBlock = none ∨ ∃ b, (Value.slice A2 n2 c2).ownBlock = some b ∧ w.heap.size ≤ b) :
    BoxAt base X q0 p (w'.setCell ⟨X, 1, none⟩ (.slice A2 n2 c2)) := by
  subst hn
  have hX' : w'.heap[X]? = some (.cells #[.slice A0 q0.length c0, .slice A1 q1.length c1] 34 (0, 0)) := (hg.block X (Array.getElem?_eq_some_iff.1 hX).1 (fun he => q_other h1 hX (by decide) he.symm)).trans hX
  have h0' : QRow w' base 3 1 (.slice A0 q0.length c0) q0.length (ints q0) := q_grown h0 hg (fun k hv he => hd k hv he.symm)
  refine ⟨A0, c0, A2, c2, heap_set w' X 1 _ _ _ _ hX', hb, q_grown h0' (set_grown w' X 1 _) (fun k hv he => ?_), q_grown h2 (set_grown w' X 1 _) (fun k hv he => ?_), fun k hv hv1 => ?_⟩
  · exact q_other h0' hX' (by decide) (by rw [hv]; exact he)
  · exact q_other h2 hX' (by decide) (by rw [hv]; exact he)
  · rcases hf with hf | hf | ⟨b, hf, hlt⟩
    · rw [hf] at hv1; exact hd k hv hv1
    · rw [hf] at hv1; cases hv1
    · rw [hf] at hv1
      cases hv1
      have := q_lt h0 _ hv
      omega
theorem grown_refl (w : World) (row : Option Nat) : w.grownBy w row := ⟨rfl, rfl, rfl, Nat.le_refl _, fun _ _ _ => rfl⟩
/-- The first element of such a row, and what is behind it. -/
theorem q_head {w : World} {base c m : Nat} {A : Option Addr} {x : Int} {t : List Int} (h : QRow w base 3 1 (.slice A (m + 1) c) (m + 1) (ints (x :: t))) : ∃ g o, A = some ⟨g, o, none⟩ ∧ w.cell? ⟨g, o, none⟩ = some (.int .i64 x) ∧ m + 1 ≤ c ∧ QRow w base 3 1 (.slice (if c = 1 then some ⟨g, o, none⟩ else some ⟨g, o + 1, none⟩) m (c - 1)) m (ints t) := by
  have hd := q_drop (k := 1) h (by omega)
  obtain ⟨_, _, he, hle⟩ := q_slice h
  obtain ⟨ad, hA, hcell⟩ := q_cells h (by omega)
  cases he
  rcases h.2 with ⟨h0, _⟩ | ⟨g, off, cap, cur, he, _⟩
  · omega
  · injection he with ha
    subst ha
    cases hA
    refine ⟨g, off * 1, rfl, ?_, hle, ?_⟩
    · have := hcell 0 _ rfl
      rwa [add_at] at this
    · have e : (if c = 1 then some (⟨g, off * 1, none⟩ : Addr) else (some (⟨g, off * 1, none⟩ : Addr)).map (·.add (1 * 1))) = if c = 1 then some ⟨g, off * 1, none⟩ else some ⟨g, off * 1 + 1, none⟩ := by
        split
        · rfl
        · simp [add_at]
      rw [e] at hd
      simpa [ints] using hd
theorem urgent_now {base B cu cp cap : Nat} {us ps : List Value} (x : Int) {w : World} (h : MailAt 49 base B cu cp cap us ps w) (hr : us.length < cap) :
    Calls Try.prog 11 #[.pointer (some ⟨B, 0, none⟩), .int .i64 x, .bool true] w fun e w' => e = .returned (.bool true) ∧ Now cu cap (us ++ [Value.int .i64 x]) w w' := by
  refine (put_int base B cu cp cap us ps x true w h).mono ?_
  intro e w' hp
  simp only [PutPost, if_pos hr, if_true, Bool.false_eq_true, if_false] at hp
  exact hp
theorem plain_now {base B cu cp cap : Nat} {us ps : List Value} (x : Int) {w : World} (h : MailAt 49 base B cu cp cap us ps w) (hr : ps.length < cap) :
    Calls Try.prog 11 #[.pointer (some ⟨B, 0, none⟩), .int .i64 x, .bool false] w fun e w' => e = .returned (.bool true) ∧ Now cp cap (ps ++ [Value.int .i64 x]) w w' := by
  refine (put_int base B cu cp cap us ps x false w h).mono ?_
  intro e w' hp
  simp only [PutPost, if_pos hr, if_true, Bool.false_eq_true, if_false] at hp
  exact hp
theorem take_u_now {base B cu cp cap : Nat} {us ps : List Value} (x : Int) {w : World} (h : MailAt 49 base B cu cp cap (Value.int .i64 x :: us) ps w) :
    Calls Try.prog 9 #[.pointer (some ⟨B, 0, none⟩)] w fun e w' => e = .returned (.tuple #[Value.int .i64 x, .bool true, .bool true]) ∧ Now cu cap us w w' :=
  take_urgent_int B cu cp cap x us ps w h.cells.1 h.cells.2 h.2.1 h.2.2.1
theorem take_p_now {base B cu cp cap : Nat} {ps : List Value} (x : Int) {w : World} (h : MailAt 49 base B cu cp cap [] (Value.int .i64 x :: ps) w) :
    Calls Try.prog 9 #[.pointer (some ⟨B, 0, none⟩)] w fun e w' => e = .returned (.tuple #[Value.int .i64 x, .bool false, .bool true]) ∧ Now cp cap ps w w' :=
  take_plain_int B cu cp cap x ps w h.cells.1 h.cells.2 h.2.1 h.2.2.1
set_option maxHeartbeats 2000000 in
set_option maxRecDepth 100000 in
theorem plays_walk (room : Int) (A1 A2 : Option Addr) (c1 c2 : Nat) (l1 l2 : List Int) (n1 n2 : Nat) (hn1 : l1.length = n1) (hn2 : l2.length = n2) (w : World) (h1 : Reads w A1 n1 (l1.map (Value.int .u8))) (h2 : Reads w A2 n2 (l2.map (Value.int .i16))) (hc1 : n1 ≤ c1) (hc2 : n2 ≤ c2)
    (hw1 : ∀ x ∈ l1, 0 ≤ x ∧ x ≤ 255) (hw2 : ∀ x ∈ l2, -32768 ≤ x ∧ x ≤ 32767) :
    Calls Try.prog 3 #[.int .i64 room, .slice A1 n1 c1, .slice A2 n2 c2] w fun e w' => e = .returned (.bool true) ∧ Below w.heap.size w w' := by
  have HA := Aside0.mk awake_walk
  have H1 := Aside0.mk h1
  have H2 := Aside0.mk h2
  have HL1 := Aside0.mk hn1
  have HL2 := Aside0.mk hn2
  have HW1 := Aside0.mk hw1
  have HW2 := Aside0.mk hw2
  clear h1 h2 hn1 hn2 hw1 hw2
  by_cases hbig : 150 < n1 ∨ n2 < n1
  · by_cases hb1 : 150 < n1
    · have hd : decide ((150 : Int) < (n1 : Int)) = true := decide_eq_true (by omega)
      clear hbig
      go_enter Try.func3, Try.ntmps3
      go_wp2_with (first
        | (go_at_call 7; with_reducible refine (HA.out w).mono ?_; rintro e w0 ⟨rfl, hb0⟩; have B0 := Aside0.mk hb0; clear hb0)
        | (go_at_call 7; with_reducible refine (HA.out w0).mono ?_; rintro e w00 ⟨rfl, hb00⟩; have B00 := Aside0.mk hb00; clear hb00))
      go_ret
      exact ⟨rfl, B0.out.trans (B00.out.mono B0.out.size)⟩
    · have hd : decide ((150 : Int) < (n1 : Int)) = false := decide_eq_false (by omega)
      have hd2 : decide (n2 < n1) = true := decide_eq_true (by omega)
      clear hbig
      go_enter Try.func3, Try.ntmps3
      go_wp2_with (first
        | (go_at_call 7; with_reducible refine (HA.out w).mono ?_; rintro e w0 ⟨rfl, hb0⟩; have B0 := Aside0.mk hb0; clear hb0)
        | (go_at_call 7; with_reducible refine (HA.out w0).mono ?_; rintro e w00 ⟨rfl, hb00⟩; have B00 := Aside0.mk hb00; clear hb00))
      go_ret
      exact ⟨rfl, B0.out.trans (B00.out.mono B0.out.size)⟩
  · have hd : decide ((150 : Int) < (n1 : Int)) = false := decide_eq_false (by omega)
    have hd2 : decide (n2 < n1) = false := decide_eq_false (by omega)
    have h150 : n1 ≤ 150 := by omega
    have h12 : n1 ≤ n2 := by omega
    clear hbig
    by_cases hroom : room < 1 ∨ 64 < room
    · have HN := Aside0.mk (fun w => new_none_int room hroom w)
      by_cases hr1 : room < 1
      · have hd3 : decide (room < 1) = true := decide_eq_true hr1
        clear hroom
        go_enter Try.func3, Try.ntmps3
        go_wp2_with (first
          | (go_at_call 7; refine (HA.out _).mono ?_; rintro e w0 ⟨rfl, hb0⟩; have B0 := Aside0.mk hb0; clear hb0)
          | (go_at_call 8; refine (HN.out _).mono ?_; rintro e w1 ⟨rfl, rfl⟩)
          | (go_at_call 11; refine (put_nil_int _ _ _).mono ?_; rintro e w2 ⟨rfl, rfl⟩)
          | (go_at_call 9; refine (take_nil_int _).mono ?_; rintro e w5 ⟨rfl, rfl⟩)
          | (go_at_call 10; refine (len_nil_int _).mono ?_; rintro e w6 ⟨rfl, rfl⟩))
        go_ret
        exact ⟨rfl, B0.out⟩
      · have hd3 : decide (room < 1) = false := decide_eq_false hr1
        have hd4 : decide (64 < room) = true := decide_eq_true (by omega)
        clear hroom
        go_enter Try.func3, Try.ntmps3
        go_wp2_with (first
          | (go_at_call 7; refine (HA.out _).mono ?_; rintro e w0 ⟨rfl, hb0⟩; have B0 := Aside0.mk hb0; clear hb0)
          | (go_at_call 8; refine (HN.out _).mono ?_; rintro e w1 ⟨rfl, rfl⟩)
          | (go_at_call 11; refine (put_nil_int _ _ _).mono ?_; rintro e w2 ⟨rfl, rfl⟩)
          | (go_at_call 9; refine (take_nil_int _).mono ?_; rintro e w5 ⟨rfl, rfl⟩)
          | (go_at_call 10; refine (len_nil_int _).mono ?_; rintro e w6 ⟨rfl, rfl⟩))
        go_ret
        exact ⟨rfl, B0.out⟩
    · obtain ⟨cap, hcapn⟩ : ∃ cap : Nat, room = (cap : Int) := ⟨room.toNat, by omega⟩
      have hcap1 : 1 ≤ cap := by omega
      have hcap64 : cap ≤ 64 := by omega
      subst hcapn
      have hd3 : decide ((cap : Int) < 1) = false := decide_eq_false (by omega)
      have hd4 : decide (64 < (cap : Int)) = false := decide_eq_false (by omega)
      clear hroom
      have HN := Aside0.mk (fun w => new_int cap hcap1 hcap64 w)
      obtain ⟨i0, hi, hz0, hz1, hz2⟩ := info_parts (show (Try.prog.info? 3).map (fun i => (i.zero, i.size, i.bytes)) = some (some (.int .i64 0), 1, 8) by kernel_rfl)
      go_enter Try.func3, Try.ntmps3
      go_wp2_with (first
        | (go_at_call 7; refine (HA.out _).mono ?_; rintro e w0 ⟨rfl, hb0⟩; have B0 := Aside0.mk hb0; clear hb0)
        | (go_at_call 8; refine (HN.out _).mono ?_; rintro e w1 ⟨B, cu, cp, rfl, hm1, hb1⟩; have M1 := Aside0.mk hm1; have B1 := Aside0.mk hb1; clear hm1 hb1))
      have MA := Aside0.mk (M1.out.kept (below_alloc (Below.refl w1.heap.size w1) (.cells #[.slice none 0 0, .slice none 0 0] 34)))
      have BA := Aside0.mk (B1.out.alloc B1.out.size (.cells #[.slice none 0 0, .slice none 0 0] 34))
      have BX := Aside0.mk (show BoxAt w0.heap.size w1.heap.size [] [] (w1.alloc (.cells #[.slice none 0 0, .slice none 0 0] 34)) from
        ⟨none, 0, none, 0, by show (w1.heap.push _)[w1.heap.size]? = _; simp, B1.out.size, q_of_own (World.ownsRow_nil _ _ _ _), q_of_own (World.ownsRow_nil _ _ _ _), fun k hk => by cases hk⟩)
      obtain ⟨wa, hwa⟩ : ∃ wa, w1.alloc (.cells #[.slice none 0 0, .slice none 0 0] 34) = wa := ⟨_, rfl⟩
      rw [hwa] at MA BA BX ⊢
      obtain ⟨X, hX⟩ : ∃ X, w1.heap.size = X := ⟨_, rfl⟩
      rw [hX] at BX ⊢
      clear hwa hX
      go_loopw [74] (fun i wr => ∃ (k : Nat) (q0 q1 : List Int), k ≤ n1 ∧ i = .int .i64 k ∧ MailAt 49 w0.heap.size B cu cp cap (ints q1) (ints q0) wr ∧ BoxAt w0.heap.size X q0 q1 wr ∧ q0.length ≤ k ∧ q1.length ≤ k ∧ Below w0.heap.size w0 wr) (fun i _ => n1 - (intOf i).toNat)
      case atStart => exact ⟨0, [], [], Nat.zero_le _, rfl, MA.out, BX.out, Nat.le_refl _, Nat.le_refl _, BA.out⟩
      case round =>
        obtain ⟨k, q0, q1, hk, rfl, hM, hX0, hq0, hq1, hB⟩ := hrel
        have HM := Aside0.mk hM
        have HX := Aside0.mk hX0
        have HB := Aside0.mk hB
        clear hM hX0 hB
        by_cases hlt : k < n1
        · have hBw := B0.out.trans (HB.out.mono B0.out.size)
          obtain ⟨ad1, hA1, hr1⟩ := (H1.out.below hBw).2 (by omega)
          obtain ⟨ad2, hA2, hr2⟩ := (H2.out.below hBw).2 (by omega)
          have HBW := Aside0.mk hBw
          subst hA1
          subst hA2
          have hk2 : k < n2 := by omega
          obtain ⟨a, ha⟩ : ∃ a, l1[k]? = some a := ⟨_, List.getElem?_eq_getElem (by rw [HL1.out]; exact hlt)⟩
          obtain ⟨v, hv⟩ : ∃ v, l2[k]? = some v := ⟨_, List.getElem?_eq_getElem (by rw [HL2.out]; exact hk2)⟩
          have e1 : (l1.map (Value.int .u8)).getD k undef = .int .u8 a := by simp [List.getD, ha]
          have e2 : (l2.map (Value.int .i16)).getD k undef = .int .i16 v := by simp [List.getD, hv]
          have hg1 := hr1 k hlt
          have hg2 := hr2 k hk2
          rw [e1] at hg1
          rw [e2] at hg2
          have HE2 := Aside0.mk e2
          have hab := HW1.out a (List.mem_of_getElem? ha)
          have hvb := HW2.out v (List.mem_of_getElem? hv)
          have ha0 := hab.1
          have ha1 := hab.2
          have hv0 := hvb.1
          have hv1 := hvb.2
          clear hr1 hr2 hBw ha hv e1 e2 hab hvb
          have hcell2 : ∀ w', Below w.heap.size w w' → w'.cell? (ad2.add k) = some (.int .i16 v) := by
            intro w' hb
            obtain ⟨ad, hq, hc⟩ := (H2.out.below hb).2 (by omega)
            cases hq
            have := hc k hk2
            rwa [HE2.out] at this
          have HC2 := Aside0.mk hcell2
          clear hcell2
          obtain h3 | h3 | h3 : a % 3 = 0 ∨ a % 3 = 1 ∨ a % 3 = 2 := by omega
          · by_cases hr : q0.length < cap
            · have HR := Aside0.mk (show (ints q0).length < cap by rw [ints_len]; exact hr)
              obtain ⟨nq, hnq⟩ : ∃ nq, q0.length = nq := ⟨_, rfl⟩
              have HNQ := Aside0.mk hnq
              rw [hnq] at hr
              have hr2 : decide ((nq : Int) < (cap : Int)) = true := decide_eq_true (by omega)
              go_wp2_with (go_at_call 11
                           (with_reducible refine (plain_now v HM.out HR.out).mono ?_)
                           rintro e w2 ⟨rfl, hn2⟩
                           have hck := CK.now hn2 HM.out.2.2.1
                           have hmm := HM.out.plain hn2
                           have M2 := Aside0.mk hmm.1
                           have B2 := Aside0.mk (HB.out.trans hmm.2)
                           have X2 := Aside0.mk (HX.out.ck hck)
                           clear hn2 hck hmm hg1 hg2
                           obtain ⟨A0, c0', A1, c1', x1, x2, x3, x4, x5⟩ := X2.out
                           rw [HNQ.out] at x1 x3 x5
                           obtain ⟨d0, d1, df⟩ := two_of x1
                           have hg2 := HC2.out w2 (B0.out.trans (B2.out.mono B0.out.size))
                           have x1 := Aside0.mk x1
                           have x2 := Aside0.mk x2
                           have x3 := Aside0.mk x3
                           have x4 := Aside0.mk x4
                           have x5 := Aside0.mk x5
                           have dfi := df 0
                           clear df)
              have HWB := Aside0.mk (below_drew (below_alloc (Below.refl w2.heap.size w2) (.cells #[.int .i64 v] 3)))
              have hXW : ((w2.alloc (.cells #[.int .i64 v] 3)).drew).heap[X]? = some (.cells #[.slice A0 nq c0', .slice A1 q1.length c1'] 34 (0, 0)) := (HWB.out.block X (Array.getElem?_eq_some_iff.1 x1.out).1).trans x1.out
              have HXW := Aside0.mk hXW
              have g0 : (w2.alloc (.cells #[.int .i64 v] 3)).cell? ⟨X, 0, none⟩ = some (.slice A0 nq c0') := (two_of hXW).1
              have HOD := Aside0.mk (q_ck x3.out (CK.below HWB.out))
              have HOE := Aside0.mk (q_ck x4.out (CK.below HWB.out))
              have HCD := Aside0.mk (show ∀ j u, [Value.int .i64 v][j]? = some u → ((w2.alloc (.cells #[.int .i64 v] 3)).drew).cell? ((⟨w2.heap.size, 0, none⟩ : Addr).add j) = some u from fun j u h => one_cell w2 _ _ j u h)
              have HMW := Aside0.mk (M2.out.kept HWB.out)
              have HBD := Aside0.mk (B2.out.trans (HWB.out.mono B2.out.size))
              clear hXW
              have hwv : IntKind.i64.wrap v = v := IntWalk.i64_in _ (by omega)
              go_region_law (refine step_append_q rfl (.tmp 106) (.tmp 112) 33 rfl w0.heap.size 3 i0 (.int .i64 0) 1 8 Try.underlying33 hi hz0 hz1 hz2 rfl (by decide) (.slice A0 nq c0') nq (ints q0) (by simp [Act.eval, Act.put]) HOD.out ⟨w2.heap.size, 0, none⟩ 1 1 [.int .i64 v] (by simp [Act.eval, Act.put]) rfl HCD.out (by simp [Value.oneCell']) (by decide) (by simp only [maxLen]; omega) (by omega) HBD.out.size ?_; intro v' w' hown hgrow hfresh; obtain ⟨A2', c2', rfl, hle⟩ := q_slice hown; have hX3 := (hgrow.block X (Array.getElem?_eq_some_iff.1 HXW.out).1 (fun he => q_other HOD.out HXW.out (by decide) he.symm)).trans HXW.out; obtain ⟨y0, y1, yf⟩ := two_of hX3; have yfi := yf 0; have HOW := Aside0.mk hown; have HGR := Aside0.mk hgrow; have HFR := Aside0.mk hfresh; have HX3 := Aside0.mk hX3; clear yf hown hgrow hfresh hX3 hle)
              all_goals go_wp2
              all_goals (
                refine ⟨⟨k + 1, (q0 ++ [v]), q1, hlt, by go_num, ?_, ?_, ?_, ?_, ?_⟩, by simp [intOf]; omega⟩
                · rw [ints_snoc]
                  exact (HMW.out.grown HGR.out (fun j hj => by
                    obtain ⟨_, cells, hc⟩ := q_typed HOD.out j hj
                    exact ⟨_, _, _, hc, by decide⟩)).grown (set_grown _ X 0 _) (fun j hj => by
                    cases hj
                    exact ⟨_, _, _, HX3.out, by decide⟩)
                · exact BoxAt.put0 (w := (w2.alloc (.cells #[.int .i64 v] 3)).drew) (q0 := q0) (q1 := q1) (p := q0 ++ [v]) (n2 := nq + 1) (by rw [HNQ.out]; exact HXW.out) x2.out (by rw [HNQ.out]; exact HOD.out) (HOE.out) (by rw [HNQ.out]; exact x5.out) (by rw [HNQ.out]; exact HGR.out) (by simp [HNQ.out]) (by rw [ints_snoc]; exact HOW.out) (by
                    rw [HNQ.out]
                    rcases HFR.out with hf | hf
                    · exact Or.inl hf
                    · exact Or.inr (Or.inr hf))
                · rw [List.length_append, HNQ.out]; simp; omega
                · omega
                · exact (HBD.out.grown HGR.out HBD.out.size (fun j hj => (q_typed HOD.out j hj).1)).setCell x2.out _)
            · have HR := Aside0.mk (show ¬ (ints q0).length < cap by rw [ints_len]; exact hr)
              have hr2 : decide ((q0.length : Int) < (cap : Int)) = false := decide_eq_false (by omega)
              obtain ⟨A0, c0', A1, c1', x1, x2, x3, x4, x5⟩ := HX.out
              obtain ⟨d0, d1, df⟩ := two_of x1
              clear x1 x2 x3 x4 x5 df
              go_wp2_with (go_at_call 11; (with_reducible refine (plain_full_int v HM.out HR.out).mono ?_); rintro e w2 ⟨rfl, rfl⟩)
              go_roundw
              case rel => exact ⟨k + 1, q0, q1, hlt, by go_num, HM.out, HX.out, by omega, by omega, HB.out⟩
              case measure => simp [intOf]; omega
          · by_cases hr : q1.length < cap
            · have HR := Aside0.mk (show (ints q1).length < cap by rw [ints_len]; exact hr)
              obtain ⟨nq, hnq⟩ : ∃ nq, q1.length = nq := ⟨_, rfl⟩
              have HNQ := Aside0.mk hnq
              rw [hnq] at hr
              have hr2 : decide ((nq : Int) < (cap : Int)) = true := decide_eq_true (by omega)
              go_wp2_with (go_at_call 11
                           (with_reducible refine (urgent_now v HM.out HR.out).mono ?_)
                           rintro e w2 ⟨rfl, hn2⟩
                           have hck := CK.now hn2 HM.out.2.1
                           have hmm := HM.out.urgent hn2
                           have M2 := Aside0.mk hmm.1
                           have B2 := Aside0.mk (HB.out.trans hmm.2)
                           have X2 := Aside0.mk (HX.out.ck hck)
                           clear hn2 hck hmm hg1 hg2
                           obtain ⟨A0, c0', A1, c1', x1, x2, x3, x4, x5⟩ := X2.out
                           rw [HNQ.out] at x1 x4 x5
                           obtain ⟨d0, d1, df⟩ := two_of x1
                           have hg2 := HC2.out w2 (B0.out.trans (B2.out.mono B0.out.size))
                           have x1 := Aside0.mk x1
                           have x2 := Aside0.mk x2
                           have x3 := Aside0.mk x3
                           have x4 := Aside0.mk x4
                           have x5 := Aside0.mk x5
                           have dfi := df 1
                           clear df)
              have HWB := Aside0.mk (below_drew (below_alloc (Below.refl w2.heap.size w2) (.cells #[.int .i64 v] 3)))
              have hXW : ((w2.alloc (.cells #[.int .i64 v] 3)).drew).heap[X]? = some (.cells #[.slice A0 q0.length c0', .slice A1 nq c1'] 34 (0, 0)) := (HWB.out.block X (Array.getElem?_eq_some_iff.1 x1.out).1).trans x1.out
              have HXW := Aside0.mk hXW
              have g0 : (w2.alloc (.cells #[.int .i64 v] 3)).cell? ⟨X, 1, none⟩ = some (.slice A1 nq c1') := (two_of hXW).2.1
              have HOD := Aside0.mk (q_ck x4.out (CK.below HWB.out))
              have HOE := Aside0.mk (q_ck x3.out (CK.below HWB.out))
              have HCD := Aside0.mk (show ∀ j u, [Value.int .i64 v][j]? = some u → ((w2.alloc (.cells #[.int .i64 v] 3)).drew).cell? ((⟨w2.heap.size, 0, none⟩ : Addr).add j) = some u from fun j u h => one_cell w2 _ _ j u h)
              have HMW := Aside0.mk (M2.out.kept HWB.out)
              have HBD := Aside0.mk (B2.out.trans (HWB.out.mono B2.out.size))
              clear hXW
              have hwv : IntKind.i64.wrap v = v := IntWalk.i64_in _ (by omega)
              go_region_law (refine step_append_q rfl (.tmp 106) (.tmp 112) 33 rfl w0.heap.size 3 i0 (.int .i64 0) 1 8 Try.underlying33 hi hz0 hz1 hz2 rfl (by decide) (.slice A1 nq c1') nq (ints q1) (by simp [Act.eval, Act.put]) HOD.out ⟨w2.heap.size, 0, none⟩ 1 1 [.int .i64 v] (by simp [Act.eval, Act.put]) rfl HCD.out (by simp [Value.oneCell']) (by decide) (by simp only [maxLen]; omega) (by omega) HBD.out.size ?_; intro v' w' hown hgrow hfresh; obtain ⟨A2', c2', rfl, hle⟩ := q_slice hown; have hX3 := (hgrow.block X (Array.getElem?_eq_some_iff.1 HXW.out).1 (fun he => q_other HOD.out HXW.out (by decide) he.symm)).trans HXW.out; obtain ⟨y0, y1, yf⟩ := two_of hX3; have yfi := yf 1; have HOW := Aside0.mk hown; have HGR := Aside0.mk hgrow; have HFR := Aside0.mk hfresh; have HX3 := Aside0.mk hX3; clear yf hown hgrow hfresh hX3 hle)
              all_goals go_wp2
              all_goals (
                refine ⟨⟨k + 1, q0, (q1 ++ [v]), hlt, by go_num, ?_, ?_, ?_, ?_, ?_⟩, by simp [intOf]; omega⟩
                · rw [ints_snoc]
                  exact (HMW.out.grown HGR.out (fun j hj => by
                    obtain ⟨_, cells, hc⟩ := q_typed HOD.out j hj
                    exact ⟨_, _, _, hc, by decide⟩)).grown (set_grown _ X 1 _) (fun j hj => by
                    cases hj
                    exact ⟨_, _, _, HX3.out, by decide⟩)
                · exact BoxAt.put1 (w := (w2.alloc (.cells #[.int .i64 v] 3)).drew) (q0 := q0) (q1 := q1) (p := q1 ++ [v]) (n2 := nq + 1) (by rw [HNQ.out]; exact HXW.out) x2.out (HOE.out) (by rw [HNQ.out]; exact HOD.out) (by rw [HNQ.out]; exact x5.out) (by rw [HNQ.out]; exact HGR.out) (by simp [HNQ.out]) (by rw [ints_snoc]; exact HOW.out) (by
                    rw [HNQ.out]
                    rcases HFR.out with hf | hf
                    · exact Or.inl hf
                    · exact Or.inr (Or.inr hf))
                · omega
                · rw [List.length_append, HNQ.out]; simp; omega
                · exact (HBD.out.grown HGR.out HBD.out.size (fun j hj => (q_typed HOD.out j hj).1)).setCell x2.out _)
            · have HR := Aside0.mk (show ¬ (ints q1).length < cap by rw [ints_len]; exact hr)
              have hr2 : decide ((q1.length : Int) < (cap : Int)) = false := decide_eq_false (by omega)
              obtain ⟨A0, c0', A1, c1', x1, x2, x3, x4, x5⟩ := HX.out
              obtain ⟨d0, d1, df⟩ := two_of x1
              clear x1 x2 x3 x4 x5 df
              go_wp2_with (go_at_call 11; (with_reducible refine (urgent_full_int v HM.out HR.out).mono ?_); rintro e w2 ⟨rfl, rfl⟩)
              go_roundw
              case rel => exact ⟨k + 1, q0, q1, hlt, by go_num, HM.out, HX.out, by omega, by omega, HB.out⟩
              case measure => simp [intOf]; omega
          · cases q1 with
            | cons x t =>
              have HMT : Aside0 (MailAt 49 w0.heap.size B cu cp cap (Value.int .i64 x :: ints t) (ints q0) wr) := Aside0.mk HM.out
              obtain ⟨m, hm⟩ : ∃ m, t.length = m := ⟨_, rfl⟩
              have HMM := Aside0.mk hm
              obtain ⟨mq, hmq⟩ : ∃ mq, q0.length = mq := ⟨_, rfl⟩
              have HNQ := Aside0.mk hmq
              clear hmq
              have hne : ((m : Int) + 1 == 0) = false := by simp; omega
              clear hm
              go_wp2_with (go_at_call 9
                           (with_reducible refine (take_u_now x HMT.out).mono ?_)
                           rintro e w2 ⟨rfl, hn2⟩
                           have hck := CK.now hn2 HMT.out.2.1
                           have hmm := HMT.out.urgent hn2
                           have M2 := Aside0.mk hmm.1
                           have B2 := Aside0.mk (HB.out.trans hmm.2)
                           have X2 := Aside0.mk (HX.out.ck hck)
                           clear hn2 hck hmm hg1 hg2
                           obtain ⟨A0, c0', A1, c1', x1, x2, x3, x4, x5⟩ := X2.out
                           rw [show (x :: t).length = m + 1 by rw [List.length_cons, HMM.out]] at x1 x4 x5
                           rw [HNQ.out] at x1 x3 x5
                           obtain ⟨g, o, hA, hx0, hle, hrest⟩ := q_head x4
                           subst hA
                           obtain ⟨An, hAn⟩ : ∃ An, (if c1' = 1 then (some ⟨g, o, none⟩ : Option Addr) else some ⟨g, o + 1, none⟩) = An := ⟨_, rfl⟩
                           rw [hAn] at hrest
                           obtain ⟨d0, d1, df⟩ := two_of x1
                           have dfi := df 1
                           have hle2 : 1 ≤ c1' := by omega
                           have x1 := Aside0.mk x1
                           have x2 := Aside0.mk x2
                           have x3 := Aside0.mk x3
                           have x4 := Aside0.mk x4
                           have x5 := Aside0.mk x5
                           have HRS := Aside0.mk hrest
                           have HAN := Aside0.mk hAn
                           clear df hrest hle)
              have HX3 := Aside0.mk (show BoxAt w0.heap.size X q0 t (w2.setCell ⟨X, 1, none⟩ (.slice An m (c1' - 1))) from
                BoxAt.put1 (w := w2) (w' := w2) (q0 := q0) (q1 := (x :: t)) (p := t) (n2 := m) (by rw [HNQ.out, (show (x :: t).length = m + 1 by rw [List.length_cons, HMM.out])]; exact x1.out) x2.out (by rw [HNQ.out]; exact x3.out) (by rw [(show (x :: t).length = m + 1 by rw [List.length_cons, HMM.out])]; exact x4.out) (by rw [HNQ.out, (show (x :: t).length = m + 1 by rw [List.length_cons, HMM.out])]; exact x5.out) (grown_refl w2 _) HMM.out HRS.out (Or.inl (by rw [← HAN.out]; split <;> rfl)))
              have HM3 := Aside0.mk (M2.out.grown (set_grown w2 X 1 (.slice An m (c1' - 1))) (fun j hj => by cases hj; exact ⟨_, _, _, x1.out, by decide⟩))
              have HB3 := Aside0.mk (B2.out.setCell (p := ⟨X, 1, none⟩) x2.out (.slice An m (c1' - 1)))
              obtain ⟨w3, hw3⟩ : ∃ w3, w2.setCell ⟨X, 1, none⟩ (.slice An m (c1' - 1)) = w3 := ⟨_, rfl⟩
              rw [hw3] at HX3 HM3 HB3 ⊢
              obtain ⟨E0, f0, E1, f1, y1, y2, y3, y4, y5⟩ := HX3.out
              obtain ⟨z0, z1, zf⟩ := two_of y1
              clear d0 d1 dfi hw3 y1 y2 y3 y4 y5 zf hAn hx0 hle2
              rw [HNQ.out] at z0
              rw [HMM.out] at z1
              have HLEN := Aside0.mk (show ∀ n, Calls Try.prog 10 #[.pointer (some ⟨B, 0, none⟩)] (w3.drewN n) fun e w' => e = .returned (.int .i64 ((mq : Int) + (m : Int))) ∧ ∃ q, w' = (w3.drewN n).drewN q from fun n => by
                refine (len_int _ _ _ _ _ _ _ (w3.drewN n) (HM3.out.kept (pw_below_drewN (Below.refl _ _) n)) (by have := HMM.out; have := HNQ.out; rw [ints_len]; simp only [List.length_cons] at hq1; omega) (by have := HMM.out; have := HNQ.out; rw [ints_len]; simp only [List.length_cons] at hq1; omega)).mono ?_
                intro e w' h
                refine ⟨?_, h.2⟩
                rw [h.1]
                refine congrArg (fun z => Ending.returned (Value.int .i64 z)) ?_
                have := HMM.out
                have := HNQ.out
                rw [ints_len, ints_len]
                omega)
              have hmq := HNQ.out
              have hmt := HMM.out
              simp only [List.length_cons] at hq1
              have hmq2 : mq ≤ k := by omega
              have hmt2 : m ≤ k := by omega
              clear hmq hmt
              have hwr : IntKind.i64.wrap ((mq : Int) + (m : Int)) = (mq : Int) + (m : Int) := by rw [IntWalk.i64_in _ (by omega)]; try omega
              go_quiet ((go_at_call 10; exact Calls.quiet_of (HLEN.out _)))
              clear hwr
              go_wp2
              go_roundw
              case rel => exact ⟨k + 1, q0, t, hlt, by go_num, HM3.out.kept (pw_below_drewN (Below.refl _ _) nq), HX3.out.ck (CK.below (pw_below_drewN (Below.refl _ _) nq)), by have := HNQ.out; omega, by have := HMM.out; omega, pw_below_drewN HB3.out nq⟩
              case measure => simp [intOf]; omega
            | nil =>
              cases q0 with
              | cons x t =>
                have HMT : Aside0 (MailAt 49 w0.heap.size B cu cp cap [] (Value.int .i64 x :: ints t) wr) := Aside0.mk HM.out
                obtain ⟨m, hm⟩ : ∃ m, t.length = m := ⟨_, rfl⟩
                have HMM := Aside0.mk hm
                have hne : ((m : Int) + 1 == 0) = false := by simp; omega
                clear hm
                go_wp2_with (go_at_call 9
                             (with_reducible refine (take_p_now x HMT.out).mono ?_)
                             rintro e w2 ⟨rfl, hn2⟩
                             have hck := CK.now hn2 HMT.out.2.2.1
                             have hmm := HMT.out.plain hn2
                             have M2 := Aside0.mk hmm.1
                             have B2 := Aside0.mk (HB.out.trans hmm.2)
                             have X2 := Aside0.mk (HX.out.ck hck)
                             clear hn2 hck hmm hg1 hg2
                             obtain ⟨A0, c0', A1, c1', x1, x2, x3, x4, x5⟩ := X2.out
                             rw [show (x :: t).length = m + 1 by rw [List.length_cons, HMM.out]] at x1 x3 x5
                             obtain ⟨g, o, hA, hx0, hle, hrest⟩ := q_head x3
                             subst hA
                             obtain ⟨An, hAn⟩ : ∃ An, (if c0' = 1 then (some ⟨g, o, none⟩ : Option Addr) else some ⟨g, o + 1, none⟩) = An := ⟨_, rfl⟩
                             rw [hAn] at hrest
                             obtain ⟨d0, d1, df⟩ := two_of x1
                             have dfi := df 0
                             have hle2 : 1 ≤ c0' := by omega
                             have x1 := Aside0.mk x1
                             have x2 := Aside0.mk x2
                             have x3 := Aside0.mk x3
                             have x4 := Aside0.mk x4
                             have x5 := Aside0.mk x5
                             have HRS := Aside0.mk hrest
                             have HAN := Aside0.mk hAn
                             clear df hrest hle)
                have HX3 := Aside0.mk (show BoxAt w0.heap.size X t [] (w2.setCell ⟨X, 0, none⟩ (.slice An m (c0' - 1))) from
                  BoxAt.put0 (w := w2) (w' := w2) (q0 := (x :: t)) (q1 := []) (p := t) (n2 := m) (by rw [(show (x :: t).length = m + 1 by rw [List.length_cons, HMM.out])]; exact x1.out) x2.out (by rw [(show (x :: t).length = m + 1 by rw [List.length_cons, HMM.out])]; exact x3.out) (x4.out) (by rw [(show (x :: t).length = m + 1 by rw [List.length_cons, HMM.out])]; exact x5.out) (grown_refl w2 _) HMM.out HRS.out (Or.inl (by rw [← HAN.out]; split <;> rfl)))
                have HM3 := Aside0.mk (M2.out.grown (set_grown w2 X 0 (.slice An m (c0' - 1))) (fun j hj => by cases hj; exact ⟨_, _, _, x1.out, by decide⟩))
                have HB3 := Aside0.mk (B2.out.setCell (p := ⟨X, 0, none⟩) x2.out (.slice An m (c0' - 1)))
                obtain ⟨w3, hw3⟩ : ∃ w3, w2.setCell ⟨X, 0, none⟩ (.slice An m (c0' - 1)) = w3 := ⟨_, rfl⟩
                rw [hw3] at HX3 HM3 HB3 ⊢
                obtain ⟨E0, f0, E1, f1, y1, y2, y3, y4, y5⟩ := HX3.out
                obtain ⟨z0, z1, zf⟩ := two_of y1
                clear d0 d1 dfi hw3 y1 y2 y3 y4 y5 zf hAn hx0 hle2
                rw [HMM.out] at z0
                simp only [List.length_nil] at z1
                have HLEN := Aside0.mk (show ∀ n, Calls Try.prog 10 #[.pointer (some ⟨B, 0, none⟩)] (w3.drewN n) fun e w' => e = .returned (.int .i64 ((m : Int))) ∧ ∃ q, w' = (w3.drewN n).drewN q from fun n => by
                  refine (len_int _ _ _ _ _ _ _ (w3.drewN n) (HM3.out.kept (pw_below_drewN (Below.refl _ _) n)) (by have := HMM.out; simp only [List.length_cons] at hq0; first | (rw [ints_len]; omega) | (simp; done)) (by have := HMM.out; simp only [List.length_cons] at hq0; first | (rw [ints_len]; omega) | (simp; done))).mono ?_
                  intro e w' h
                  refine ⟨?_, h.2⟩
                  rw [h.1]
                  refine congrArg (fun z => Ending.returned (Value.int .i64 z)) ?_
                  have := HMM.out
                  rw [ints_len]
                  simp
                  omega)
                have hmt := HMM.out
                simp only [List.length_cons] at hq0
                have hmt2 : m ≤ k := by omega
                clear hmt
                have hwr : IntKind.i64.wrap ((m : Int)) = (m : Int) := by rw [IntWalk.i64_in _ (by omega)]; try omega
                go_quiet ((go_at_call 10; exact Calls.quiet_of (HLEN.out _)))
                clear hwr
                go_wp2
                go_roundw
                case rel => exact ⟨k + 1, t, [], hlt, by go_num, HM3.out.kept (pw_below_drewN (Below.refl _ _) nq), HX3.out.ck (CK.below (pw_below_drewN (Below.refl _ _) nq)), by have := HMM.out; omega, by simp, pw_below_drewN HB3.out nq⟩
                case measure => simp [intOf]; omega
              | nil =>
                have HMT : Aside0 (MailAt 49 w0.heap.size B cu cp cap [] [] wr) := Aside0.mk HM.out
                obtain ⟨A0, c0', A1, c1', x1, x2, x3, x4, x5⟩ := HX.out
                obtain ⟨d0, d1, df⟩ := two_of x1
                simp only [List.length_nil] at d0 d1
                clear x1 x2 x3 x4 x5 df
                go_wp2_with (go_at_call 9; (with_reducible refine (take_n_int HMT.out).mono ?_); rintro e w2 ⟨rfl, rfl⟩)
                go_roundw
                case rel => exact ⟨k + 1, [], [], hlt, by go_num, HM.out, HX.out, by simp, by simp, HB.out⟩
                case measure => simp [intOf]; omega
        · have hke : n1 = k := by omega
          subst hke
          go_wp2
          go_ret
          exact ⟨rfl, B0.out.trans (HB.out.mono B0.out.size)⟩
theorem plays_row (a0 : Int) (A1 : Option Addr) (c1 : Nat) (l1 : List Int) (A2 : Option Addr) (c2 : Nat) (l2 : List Int) (W : World) (w0 : (Lit.int .i64 a0).wf = true)
    (rd1 : Reads W A1 l1.length (l1.map (Value.int .u8))) (lc1 : l1.length ≤ c1) (lm1 : l1.length ≤ maxLen) (wf1 : ∀ n ∈ l1, (Lit.int .u8 n).wf = true) (rd2 : Reads W A2 l2.length (l2.map (Value.int .i16))) (lc2 : l2.length ≤ c2) (lm2 : l2.length ≤ maxLen) (wf2 : ∀ n ∈ l2, (Lit.int .i16 n).wf = true) :
    Calls Try.prog 3 #[.int .i64 a0, .slice A1 l1.length c1, .slice A2 l2.length c2] W fun e w' => e = .returned (.bool true) ∧ Below W.heap.size W w' :=
  plays_walk a0 A1 A2 c1 c2 l1 l2 _ _ rfl rfl W rd1 rd2 lc1 lc2 (fun x hx => by have := wf1 x hx; simpa [Lit.wf, IntKind.min, IntKind.max, IntKind.bits, IntKind.signed] using this) (fun x hx => by have := wf2 x hx; simpa [Lit.wf, IntKind.min, IntKind.max, IntKind.bits, IntKind.signed] using this)
end Go.Proofs.Ytaaicaddoboepaa.Mail
