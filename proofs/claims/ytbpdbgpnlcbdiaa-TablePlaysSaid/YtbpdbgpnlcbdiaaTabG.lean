/- Chapter 22: the plain law of TablePlays: handles that grow, where one of them is, and what stays when one goes. -/
import Derived.Test.YtbpdbgpnlcbdiaaTabH
namespace Go.Proofs.Ytbpdbgpnlcbdiaa.Tab
open Go.RowKit Go.Proofs.YtbpdbgpnlcbdiaaW.PrintWords Go.Proofs.YtbpdbgpnlcbdiaaW.PrintLast Go.Proofs.YtbpdbgpnlcbdiaaW.PrintMore
set_option linter.unusedVariables false
set_option linter.unusedSimpArgs false
def thingL (l : List (Int × Value)) : List Value := l.map fun p => p.2
theorem thingL_len (l : List (Int × Value)) : (thingL l).length = l.length := by simp [thingL]
/-- Handles that grow, none beyond the last one. -/
def Inc (l : List (Int × Value)) (last : Nat) : Prop := l.Pairwise (fun p q => p.1 < q.1) ∧ ∀ p ∈ l, 1 ≤ p.1 ∧ p.1 ≤ (last : Int)
theorem inc_nil : Inc [] 0 := ⟨List.Pairwise.nil, fun p hp => absurd hp (by simp)⟩
theorem inc_snoc {l : List (Int × Value)} {last : Nat} (h : Inc l last) (v : Value) : Inc (l ++ [((last : Int) + 1, v)]) (last + 1) := by
  refine ⟨?_, ?_⟩
  · rw [List.pairwise_append]
    refine ⟨h.1, List.pairwise_singleton _ _, fun p hp q hq => ?_⟩
    rw [List.mem_singleton] at hq
    subst hq
    have := (h.2 p hp).2
    show p.1 < (last : Int) + 1
    omega
  · intro p hp
    rw [List.mem_append, List.mem_singleton] at hp
    rcases hp with hp | rfl
    · have := h.2 p hp
      omega
    · show 1 ≤ (last : Int) + 1 ∧ (last : Int) + 1 ≤ ((last + 1 : Nat) : Int)
      omega
theorem inc_erase {l : List (Int × Value)} {last : Nat} (h : Inc l last) (i : Nat) : Inc (l.eraseIdx i) last :=
  ⟨h.1.sublist (List.eraseIdx_sublist l i), fun p hp => h.2 p ((List.eraseIdx_sublist l i).subset hp)⟩
theorem inc_ne {l : List (Int × Value)} {last : Nat} (h : Inc l last) {i j : Nat} {p q : Int × Value} (hi : l[i]? = some p) (hj : l[j]? = some q) (hij : i < j) : p.1 < q.1 := by
  obtain ⟨hi', rfl⟩ := List.getElem?_eq_some_iff.1 hi
  obtain ⟨hj', rfl⟩ := List.getElem?_eq_some_iff.1 hj
  exact List.pairwise_iff_getElem.1 h.1 i j hi' hj' hij
theorem pos_of {l : List (Int × Value)} {last : Nat} (h : Inc l last) {k : Nat} {p : Int × Value} (hk : l[k]? = some p) : posI l p.1 = (k : Int) :=
  posI_at l p.1 k p hk rfl (fun j q hj hq => by have := inc_ne h hq hk hj; omega)
theorem pos_cases (l : List (Int × Value)) (h : Int) : posI l h = -1 ∨ ∃ (k : Nat) (p : Int × Value), l[k]? = some p ∧ p.1 = h ∧ posI l h = (k : Int) := by
  cases e : l.findIdx? (fun p => p.1 == h) with
  | none => exact Or.inl (by unfold posI; rw [e])
  | some k =>
    right
    rw [List.findIdx?_eq_some_iff_getElem] at e
    obtain ⟨hl, he, hno⟩ := e
    refine ⟨k, l[k], List.getElem?_eq_getElem hl, by simpa using he, ?_⟩
    refine posI_at l h k l[k] (List.getElem?_eq_getElem hl) (by simpa using he) (fun j q hj hq => ?_)
    obtain ⟨hj', rfl⟩ := List.getElem?_eq_some_iff.1 hq
    have := hno j hj
    simpa using this
/-- One step of the law's own search. -/
theorem pos_hit {l : List (Int × Value)} {last : Nat} (h : Inc l last) {i : Nat} {p : Int × Value} (hi : l[i]? = some p) : posI (l.take (i + 1)) p.1 = (i : Int) := by
  refine posI_at _ _ i p (by rw [List.getElem?_take, if_pos (by omega)]; exact hi) rfl (fun j q hj hq => ?_)
  rw [List.getElem?_take, if_pos (by omega)] at hq
  have := inc_ne h hq hi hj
  omega
theorem pos_miss {l : List (Int × Value)} {i : Nat} {p : Int × Value} (hi : l[i]? = some p) {h : Int} (hne : p.1 ≠ h) : posI (l.take (i + 1)) h = posI (l.take i) h := by
  rcases pos_cases (l.take i) h with e | ⟨k, q, hk, hq, e⟩
  · rw [e]
    refine posI_none _ _ (fun j q hj hq => ?_)
    rw [List.getElem?_take, if_pos (by rw [List.length_take] at hj; omega)] at hq
    by_cases hji : j = i
    · subst hji
      rw [hi] at hq
      injection hq with hq
      subst hq
      exact hne
    · intro hqh
      have hj2 : (l.take i)[j]? = some q := by
        rw [List.length_take] at hj
        rw [List.getElem?_take, if_pos (by omega)]
        exact hq
      have e2 : (l.take i).findIdx? (fun p => p.1 == h) = none := by
        unfold posI at e
        cases e3 : (l.take i).findIdx? (fun p => p.1 == h) with
        | none => rfl
        | some m =>
          rw [e3] at e
          simp only at e
          omega
      rw [List.findIdx?_eq_none_iff] at e2
      have := e2 q (List.mem_of_getElem? hj2)
      simp [hqh] at this
  · rw [e]
    have hki : k < i := by
      have := (List.getElem?_eq_some_iff.1 hk).1
      rw [List.length_take] at this
      omega
    rw [List.getElem?_take, if_pos hki] at hk
    have hfirst : ∀ j q', j < k → (l.take i)[j]? = some q' → q'.1 ≠ h := by
      intro j q' hj hq'
      cases e3 : (l.take i).findIdx? (fun p => p.1 == h) with
      | none =>
        unfold posI at e
        rw [e3] at e
        simp only at e
        omega
      | some m =>
        unfold posI at e
        rw [e3] at e
        simp only at e
        have hm : m = k := by omega
        subst hm
        rw [List.findIdx?_eq_some_iff_getElem] at e3
        obtain ⟨_, _, hno⟩ := e3
        obtain ⟨hj', rfl⟩ := List.getElem?_eq_some_iff.1 hq'
        have := hno j hj
        simpa using this
    refine posI_at _ _ k q (by rw [List.getElem?_take, if_pos (by omega)]; exact hk) hq (fun j q' hj hq' => ?_)
    refine hfirst j q' hj ?_
    rw [List.getElem?_take, if_pos (by omega)] at hq'
    rw [List.getElem?_take, if_pos (by omega)]
    exact hq'
theorem handL_erase (l : List (Int × Value)) (i : Nat) : handL (l.eraseIdx i) = (handL l).take i ++ (handL l).drop (i + 1) := by
  unfold handL
  rw [List.eraseIdx_eq_take_drop_succ, List.map_append, List.map_take, List.map_drop]
theorem thingL_erase (l : List (Int × Value)) (i : Nat) : thingL (l.eraseIdx i) = (thingL l).take i ++ (thingL l).drop (i + 1) := by
  unfold thingL
  rw [List.eraseIdx_eq_take_drop_succ, List.map_append, List.map_take, List.map_drop]
theorem handL_add (l : List (Int × Value)) (p : Int × Value) : handL (l ++ [p]) = handL l ++ [.int .i64 p.1] := by simp [handL]
theorem thingL_add (l : List (Int × Value)) (p : Int × Value) : thingL (l ++ [p]) = thingL l ++ [p.2] := by simp [thingL]
theorem handL_at {l : List (Int × Value)} {i : Nat} {p : Int × Value} (h : l[i]? = some p) : (handL l)[i]? = some (.int .i64 p.1) := by simp [handL, h]
theorem thingL_at {l : List (Int × Value)} {i : Nat} {p : Int × Value} (h : l[i]? = some p) : (thingL l)[i]? = some p.2 := by simp [thingL, h]
theorem own_keeps {T E : TypeId} {w w' : World} {base : Nat} {e : TypeId} {size : Nat} {v : Value} {n : Nat} {xs : List Value} (h : w.ownsRow base e size v n xs) (hk : Keeps T E w w') (hT : e ≠ T) (hE : e ≠ E) : w'.ownsRow base e size v n xs := by
  refine ⟨h.1, ?_⟩
  rcases h.2 with h2 | ⟨g, cap, cur, h1, h2, h3, h4⟩
  · exact Or.inl h2
  · exact Or.inr ⟨g, cap, cur, h1, h2, hk _ _ _ _ h3 hT hE, h4⟩
theorem own_at {w : World} {base g cap n : Nat} {e : TypeId} {xs : List Value} (h : w.ownsRow base e 1 (.slice (some ⟨g, 0, none⟩) n cap) n xs) (k : Nat) (u : Value) (hk : xs[k]? = some u) : w.cell? ⟨g, k, none⟩ = some u := by
  have c0 := h.cells (g := g) rfl _ _ hk
  have ha : (⟨g, 0, none⟩ : Addr).add k = ⟨g, k, none⟩ := by unfold Addr.add; split <;> simp_all
  rwa [ha] at c0
/-- A row that grows leaves a row of another kind, and the table. -/
theorem own_other {w w' : World} {base base' : Nat} {e e' : TypeId} {size size' : Nat} {v v' : Value} {n n' : Nat} {xs xs' : List Value} (h : w.ownsRow base e size v n xs) (h' : w.ownsRow base' e' size' v' n' xs') (hne : e ≠ e') (hg : w.grownBy w' v'.ownBlock) : w'.ownsRow base e size v n xs := by
  refine h.kept hg ?_
  rcases h.2 with ⟨rfl, _⟩ | ⟨g, cap, cur, rfl, _, hgc, _⟩
  · cases v'.ownBlock <;> simp [Value.ownBlock]
  · have := own_ne h' hgc hne
    exact Or.inr (fun e => this e.symm)
theorem tab_other {T E : TypeId} {base B room last : Nat} {l : List (Int × Value)} {w w' : World} {base' : Nat} {e' : TypeId} {size' : Nat} {v' : Value} {n' : Nat} {xs' : List Value} (h : TabAt T E base B room last l w) (h' : w.ownsRow base' e' size' v' n' xs') (hT : T ≠ e') (hE : E ≠ e') (hg : w.grownBy w' v'.ownBlock) : TabAt T E base B room last l w' := by
  obtain ⟨A, cap, h1, h2, h3, h4⟩ := h
  refine ⟨A, cap, ?_, own_other h2 h' hE hg, h3, h4⟩
  obtain ⟨_, _, _, _, hk⟩ := hg
  exact (hk B (Array.getElem?_eq_some_iff.1 h1).1 (fun e => own_ne h' h1 hT e.symm)).trans h1
end Go.Proofs.Ytbpdbgpnlcbdiaa.Tab
