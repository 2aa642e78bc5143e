/- Chapter 23: what is urgent is taken out first: the law's walk. -/
import Derived.Test.YtaaicaddoboepaaMailL
import Derived.Test.YtaaicaddoboepaaRowV
namespace Go.Proofs.Ytaaicaddoboepaa.Mail
open Go.Conc Go.RowKit Go.Proofs.YtaaicaddoboepaaW.PrintWords Go.Proofs.YtaaicaddoboepaaW.PrintLast Go.Proofs.YtaaicaddoboepaaW.PrintMore Go.Proofs.Ytaaicaddoboepaa.Row
set_option linter.unusedVariables false
set_option linter.unusedSimpArgs false
def UsL (z : List (ByteArray × Bool)) : List Value := (z.filter (·.2)).map fun p => Value.string p.1
def PsL (z : List (ByteArray × Bool)) : List Value := (z.filter (!·.2)).map fun p => Value.string p.1
theorem us_snoc (z : List (ByteArray × Bool)) (s : ByteArray) (u : Bool) : UsL (z ++ [(s, u)]) = if u then UsL z ++ [Value.string s] else UsL z := by
  unfold UsL
  rw [List.filter_append, List.map_append]
  cases u <;> simp
theorem ps_snoc (z : List (ByteArray × Bool)) (s : ByteArray) (u : Bool) : PsL (z ++ [(s, u)]) = if u then PsL z else PsL z ++ [Value.string s] := by
  unfold PsL
  rw [List.filter_append, List.map_append]
  cases u <;> simp
theorem us_cons (z : List (ByteArray × Bool)) (s : ByteArray) (u : Bool) : UsL ((s, u) :: z) = if u then Value.string s :: UsL z else UsL z := by
  unfold UsL
  cases u <;> simp
theorem ps_cons (z : List (ByteArray × Bool)) (s : ByteArray) (u : Bool) : PsL ((s, u) :: z) = if u then PsL z else Value.string s :: PsL z := by
  unfold PsL
  cases u <;> simp
theorem us_len (z : List (ByteArray × Bool)) : (UsL z).length ≤ z.length := by
  unfold UsL
  rw [List.length_map]
  exact List.length_filter_le _ _
theorem ps_len (z : List (ByteArray × Bool)) : (PsL z).length ≤ z.length := by
  unfold PsL
  rw [List.length_map]
  exact List.length_filter_le _ _
theorem Now.cells {c cap : Nat} {buf buf2 : List Value} {w w' : World} (h : Now c cap buf2 w w') (hc : ChB c cap buf w) {D : Nat} {cs : Array Value} {t : TypeId} {fr : Nat × Nat} (hD : w.heap[D]? = some (.cells cs t fr)) : w'.heap[D]? = some (.cells cs t fr) := by
  obtain ⟨s, r, rfl⟩ := h
  obtain ⟨s1, r1, h1⟩ := hc
  refine (setChan_other w c D cap _ false s r false ?_).trans hD
  rintro rfl
  rw [hD] at h1
  cases h1
theorem take_u_string' {base B cu cp cap : Nat} {us ps : List Value} (x : ByteArray) {w : World} (h : MailAt 53 base B cu cp cap (Value.string x :: us) ps w) :
    Calls Try.prog 14 #[.pointer (some ⟨B, 0, none⟩)] w fun e w' => e = .returned (.tuple #[Value.string x, .bool true, .bool true]) ∧ Now cu cap us w w' :=
  take_urgent_string B cu cp cap x us ps w h.cells.1 h.cells.2 h.2.1 h.2.2.1
theorem take_p_string' {base B cu cp cap : Nat} {ps : List Value} (x : ByteArray) {w : World} (h : MailAt 53 base B cu cp cap [] (Value.string x :: ps) w) :
    Calls Try.prog 14 #[.pointer (some ⟨B, 0, none⟩)] w fun e w' => e = .returned (.tuple #[Value.string x, .bool false, .bool true]) ∧ Now cp cap ps w w' :=
  take_plain_string B cu cp cap x ps w h.cells.1 h.cells.2 h.2.1 h.2.2.1
set_option maxHeartbeats 1000000 in
set_option maxRecDepth 100000 in
theorem sorts_walk (A1 A2 : Option Addr) (c1 c2 : Nat) (l : List ByteArray) (ub : List Bool) (n1 n2 : Nat) (hn1 : l.length = n1) (hn2 : ub.length = n2) (w : World) (h1 : Reads w A1 n1 (l.map Value.string)) (h2 : Reads w A2 n2 (ub.map Value.bool)) (hc1 : n1 ≤ c1) (hc2 : n2 ≤ c2) :
    Calls Try.prog 4 #[.slice A1 n1 c1, .slice A2 n2 c2] w fun e w' => e = .returned (.bool true) ∧ Below w.heap.size w w' := by
  have HA := Aside0.mk awake_walk
  have H1 := Aside0.mk h1
  have H2 := Aside0.mk h2
  have HL1 := Aside0.mk hn1
  have HL2 := Aside0.mk hn2
  clear h1 h2 hn1 hn2
  by_cases hbig : 60 < n1 ∨ n2 < n1
  · by_cases hb1 : 60 < n1
    · have hd : decide ((60 : Int) < (n1 : Int)) = true := decide_eq_true (by omega)
      clear hbig
      go_enter Try.func4, Try.ntmps4
      go_wp2_with (first
        | (go_at_call 7; with_reducible refine (HA.out w).mono ?_; rintro e w0 ⟨rfl, hb0⟩; have B0 := Aside0.mk hb0; clear hb0)
        | (go_at_call 7; with_reducible refine (HA.out w0).mono ?_; rintro e w00 ⟨rfl, hb00⟩; have B00 := Aside0.mk hb00; clear hb00))
      go_ret
      exact ⟨rfl, B0.out.trans (B00.out.mono B0.out.size)⟩
    · have hd : decide ((60 : Int) < (n1 : Int)) = false := decide_eq_false (by omega)
      have hd2 : decide (n2 < n1) = true := decide_eq_true (by omega)
      clear hbig
      go_enter Try.func4, Try.ntmps4
      go_wp2_with (first
        | (go_at_call 7; with_reducible refine (HA.out w).mono ?_; rintro e w0 ⟨rfl, hb0⟩; have B0 := Aside0.mk hb0; clear hb0)
        | (go_at_call 7; with_reducible refine (HA.out w0).mono ?_; rintro e w00 ⟨rfl, hb00⟩; have B00 := Aside0.mk hb00; clear hb00))
      go_ret
      exact ⟨rfl, B0.out.trans (B00.out.mono B0.out.size)⟩
  · have hd : decide ((60 : Int) < (n1 : Int)) = false := decide_eq_false (by omega)
    have hd2 : decide (n2 < n1) = false := decide_eq_false (by omega)
    have h60 : n1 ≤ 60 := by omega
    have h12 : n1 ≤ n2 := by omega
    clear hbig
    obtain ⟨z, hz⟩ : ∃ z, l.zip ub = z := ⟨_, rfl⟩
    have HZ := Aside0.mk hz
    have hzl : z.length = n1 := by rw [← hz, List.length_zip, HL1.out, HL2.out]; omega
    have HZL := Aside0.mk hzl
    clear hz hzl
    have HN := Aside0.mk (show ∀ w, Calls Try.prog 12 #[.int .i64 64] w (NewPost 53 64 w) from fun w => new_string 64 (by decide) (by decide) w)
    go_enter Try.func4, Try.ntmps4
    go_wp2_with (first
      | (go_at_call 7; refine (HA.out _).mono ?_; rintro e w0 ⟨rfl, hb0⟩; have B0 := Aside0.mk hb0; clear hb0)
      | (go_at_call 12; refine (HN.out _).mono ?_; rintro e w1 ⟨B, cu, cp, rfl, hm1, hb1⟩; have M1 := Aside0.mk hm1; have B1 := Aside0.mk hb1; clear hm1 hb1))
    go_loopw [35] (fun i wr => ∃ k : Nat, k ≤ n1 ∧ i = .int .i64 k ∧ MailAt 53 w0.heap.size B cu cp 64 (UsL (z.take k)) (PsL (z.take k)) wr ∧ Below w0.heap.size w0 wr) (fun i _ => n1 - (intOf i).toNat)
    case atStart => exact ⟨0, Nat.zero_le _, rfl, M1.out, B1.out⟩
    case round =>
      obtain ⟨k, hk, rfl, hM, hB⟩ := hrel
      have HM := Aside0.mk hM
      have HB := Aside0.mk hB
      clear hM hB
      by_cases hlt : k < n1
      · obtain ⟨ad1, hA1, hr1⟩ := (H1.out.below (B0.out.trans (HB.out.mono B0.out.size))).2 (by omega)
        obtain ⟨ad2, hA2, hr2⟩ := (H2.out.below (B0.out.trans (HB.out.mono B0.out.size))).2 (by omega)
        subst hA1
        subst hA2
        have hg1 := hr1 k hlt
        have hg2 := hr2 k (by omega)
        clear hr1 hr2
        have hk2 : k < n2 := by omega
        obtain ⟨s, hs⟩ : ∃ s, l[k]? = some s := ⟨_, List.getElem?_eq_getElem (by rw [HL1.out]; exact hlt)⟩
        obtain ⟨u, hu⟩ : ∃ u, ub[k]? = some u := ⟨_, List.getElem?_eq_getElem (by rw [HL2.out]; omega)⟩
        have e1 : (l.map Value.string).getD k undef = .string s := by simp [List.getD, hs]
        have e2 : (ub.map Value.bool).getD k undef = .bool u := by simp [List.getD, hu]
        rw [e1] at hg1
        rw [e2] at hg2
        have HTK := Aside0.mk (show z.take (k + 1) = z.take k ++ [(s, u)] by
          rw [List.take_add_one, ← HZ.out, show (l.zip ub)[k]? = some (s, u) from List.getElem?_zip_eq_some.2 ⟨hs, hu⟩]
          rfl)
        have HMD := Aside0.mk (HM.out.kept (below_drew (Below.refl wr.heap.size wr)))
        have HLU := Aside0.mk (show (UsL (z.take k)).length < 64 by have := us_len (z.take k); rw [List.length_take] at this; omega)
        have HLP := Aside0.mk (show (PsL (z.take k)).length < 64 by have := ps_len (z.take k); rw [List.length_take] at this; omega)
        clear hs hu e1 e2
        go_wp2
        have hr1 : World.cell? { heap := wr.heap, tape := wr.tape, drawn := wr.drawn + 1, os := wr.os, output := wr.output } (ad1.add k) = some (.string s) := hg1
        have hr2 : World.cell? { heap := wr.heap, tape := wr.tape, drawn := wr.drawn + 1, os := wr.os, output := wr.output } (ad2.add k) = some (.bool u) := hg2
        go_still_tail 9, (by kernel_rfl)
        clear hr1 hr2
        change wpList _ _ _ _ _ wr.drew
        cases u
        · go_wp2_with (go_at_call 13; with_reducible refine (plain_ok_string _ HMD.out HLP.out).mono ?_; rintro e w2 ⟨rfl, hm2, hb2⟩; have M2 := Aside0.mk hm2; have B2 := Aside0.mk hb2; clear hm2 hb2)
          go_roundw
          case rel => exact ⟨k + 1, by omega, by go_num, by rw [HTK.out, us_snoc, ps_snoc]; exact M2.out, HB.out.drew.trans B2.out⟩
          case measure => simp [intOf]; omega
        · go_wp2_with (go_at_call 13; with_reducible refine (urgent_ok_string _ HMD.out HLU.out).mono ?_; rintro e w2 ⟨rfl, hm2, hb2⟩; have M2 := Aside0.mk hm2; have B2 := Aside0.mk hb2; clear hm2 hb2)
          go_roundw
          case rel => exact ⟨k + 1, by omega, by go_num, by rw [HTK.out, us_snoc, ps_snoc]; exact M2.out, HB.out.drew.trans B2.out⟩
          case measure => simp [intOf]; omega
      · have hke : n1 = k := by omega
        subst hke
        have HM' : Aside0 (MailAt 53 w0.heap.size B cu cp 64 (UsL z) (PsL z) wr) := Aside0.mk (by
          have := HM.out
          rwa [List.take_of_length_le (Nat.le_of_eq HZL.out)] at this)
        clear HM
        have HMA := Aside0.mk (HM'.out.kept (below_alloc (Below.refl wr.heap.size wr) (.cells #[.bool true, .bool false] 4)))
        have HBA := Aside0.mk (HB.out.alloc HB.out.size (.cells #[.bool true, .bool false] 4))
        have HDA := Aside0.mk (show (wr.alloc (.cells #[.bool true, .bool false] 4)).heap[wr.heap.size]? = some (.cells #[.bool true, .bool false] 4 (0, 0)) by show (wr.heap.push _)[wr.heap.size]? = _; simp)
        obtain ⟨wa, hwa⟩ : ∃ wa, wr.alloc (.cells #[.bool true, .bool false] 4) = wa := ⟨_, rfl⟩
        rw [hwa] at HMA HBA HDA
        go_wp2
        clear hwa
        obtain ⟨D, hD⟩ : ∃ D, wr.heap.size = D := ⟨_, rfl⟩
        rw [hD] at HDA
        rw [hD]
        clear hD
        go_loopw [52] (fun iv wr2 => ∃ i : Nat, i ≤ 2 ∧ iv = .int .i64 i ∧ MailAt 53 w0.heap.size B cu cp 64 (if i = 0 then UsL z else []) (if i = 2 then [] else PsL z) wr2 ∧ wr2.heap[D]? = some (.cells #[.bool true, .bool false] 4 (0, 0)) ∧ Below w0.heap.size w0 wr2) (fun iv _ => 2 - (intOf iv).toNat)
        case atStart => exact ⟨0, by decide, rfl, HMA.out, HDA.out, HBA.out⟩
        case round =>
          obtain ⟨i, hi, rfl, hM2, hDc, hB2⟩ := hrel
          have HB2 := Aside0.mk hB2
          clear hB2
          obtain rfl | rfl | rfl : i = 0 ∨ i = 1 ∨ i = 2 := by omega
          · have HM2 : Aside0 (MailAt 53 w0.heap.size B cu cp 64 (UsL z) (PsL z) wr) := Aside0.mk hM2
            clear hM2
            rw [show ((0 : Nat) : Int) = 0 from rfl]
            have HD0 := Aside0.mk hDc
            clear hDc
            have hc0 : wr.cell? ⟨D, 0, none⟩ = some (.bool true) := by unfold World.cell?; rw [HD0.out]; rfl
            go_wp2
            clear hc0
            go_loopw [58] (fun jv wk => ∃ j : Nat, j ≤ n1 ∧ jv = .int .i64 j ∧ MailAt 53 w0.heap.size B cu cp 64 (UsL (z.drop j)) (PsL z) wk ∧ wk.heap[D]? = some (.cells #[.bool true, .bool false] 4 (0, 0)) ∧ Below w0.heap.size w0 wk) (fun jv _ => n1 - (intOf jv).toNat)
            case atStart => exact ⟨0, Nat.zero_le _, rfl, HM2.out, HD0.out, HB2.out⟩
            case round =>
              obtain ⟨j, hj, rfl, hMk, hDk, hBk⟩ := hrel
              have HMk := Aside0.mk hMk
              have HDk := Aside0.mk hDk
              have HBk := Aside0.mk hBk
              clear hMk hDk hBk
              by_cases hjl : j < n1
              · obtain ⟨ad1, hA1, hr1⟩ := (H1.out.below (B0.out.trans (HBk.out.mono B0.out.size))).2 (by omega)
                obtain ⟨ad2, hA2, hr2⟩ := (H2.out.below (B0.out.trans (HBk.out.mono B0.out.size))).2 (by omega)
                subst hA1
                subst hA2
                have hg1 := hr1 j hjl
                have hg2 := hr2 j (by omega)
                clear hr1 hr2
                have hk2 : j < n2 := by omega
                obtain ⟨s, hs⟩ : ∃ s, l[j]? = some s := ⟨_, List.getElem?_eq_getElem (by rw [HL1.out]; exact hjl)⟩
                obtain ⟨u, hu⟩ : ∃ u, ub[j]? = some u := ⟨_, List.getElem?_eq_getElem (by rw [HL2.out]; omega)⟩
                have e1 : (l.map Value.string).getD j undef = .string s := by simp [List.getD, hs]
                have e2 : (ub.map Value.bool).getD j undef = .bool u := by simp [List.getD, hu]
                rw [e1] at hg1
                rw [e2] at hg2
                have HE1 := Aside0.mk e1
                have hzj : z[j]? = some (s, u) := by rw [← HZ.out]; exact List.getElem?_zip_eq_some.2 ⟨hs, hu⟩
                have hdj : z.drop j = (s, u) :: z.drop (j + 1) := by
                  rw [List.drop_eq_getElem_cons (by rw [HZL.out]; exact hjl)]
                  rw [List.getElem?_eq_getElem (by rw [HZL.out]; exact hjl)] at hzj
                  rw [Option.some.inj hzj]
                have HDJ := Aside0.mk hdj
                clear hs hu e1 e2 hzj hdj
                cases u
                · go_wp2
                  go_roundw
                  case rel => exact ⟨j + 1, by omega, by go_num, by have := HMk.out; rw [HDJ.out, us_cons] at this; exact this, HDk.out, HBk.out⟩
                  case measure => simp [intOf]; omega
                · have HT : Aside0 (MailAt 53 w0.heap.size B cu cp 64 (Value.string s :: UsL (z.drop (j + 1))) (PsL z) wr) := Aside0.mk (by
                    have := HMk.out
                    rw [HDJ.out, us_cons] at this
                    exact this)
                  go_wp2_with (go_at_call 14; (with_reducible refine (take_u_string' s (us := UsL (z.drop (j + 1))) (ps := PsL z) HT.out).mono ?_); rintro e w5 ⟨rfl, hn5⟩; have hD5 := Now.cells hn5 HT.out.2.1 HDk.out; have hm5 := HT.out.urgent hn5; have N5 := Aside0.mk hm5; have D5 := Aside0.mk hD5; have hg3 : w5.cell? (ad1.add j) = some (.string s) := (by have := (Reads.below H1.out (B0.out.trans ((HBk.out.trans hm5.2).mono B0.out.size))).2 (by omega); obtain ⟨ad, hq, hc⟩ := this; cases hq; have := hc j hjl; rwa [HE1.out] at this); clear hm5 hD5 hn5)
                  go_roundw
                  case rel => exact ⟨j + 1, by omega, by go_num, N5.out.1, D5.out, HBk.out.trans N5.out.2⟩
                  case measure => simp [intOf]; omega
              · have hje : n1 = j := by omega
                subst hje
                have hnil : z.drop n1 = [] := List.drop_eq_nil_of_le (Nat.le_of_eq HZL.out)
                have HNIL := Aside0.mk hnil
                clear hnil
                go_wp2
                go_roundw
                case rel => exact ⟨1, by decide, rfl, by have := HMk.out; rw [HNIL.out] at this; simpa [UsL, PsL] using this, HDk.out, HBk.out⟩
                case measure => simp [intOf]
          · have HM2 : Aside0 (MailAt 53 w0.heap.size B cu cp 64 [] (PsL z) wr) := Aside0.mk hM2
            clear hM2
            rw [show ((1 : Nat) : Int) = 1 from rfl]
            have HD0 := Aside0.mk hDc
            clear hDc
            have hc0 : wr.cell? ⟨D, 1, none⟩ = some (.bool false) := by unfold World.cell?; rw [HD0.out]; rfl
            go_wp2
            clear hc0
            go_loopw [58] (fun jv wk => ∃ j : Nat, j ≤ n1 ∧ jv = .int .i64 j ∧ MailAt 53 w0.heap.size B cu cp 64 [] (PsL (z.drop j)) wk ∧ wk.heap[D]? = some (.cells #[.bool true, .bool false] 4 (0, 0)) ∧ Below w0.heap.size w0 wk) (fun jv _ => n1 - (intOf jv).toNat)
            case atStart => exact ⟨0, Nat.zero_le _, rfl, HM2.out, HD0.out, HB2.out⟩
            case round =>
              obtain ⟨j, hj, rfl, hMk, hDk, hBk⟩ := hrel
              have HMk := Aside0.mk hMk
              have HDk := Aside0.mk hDk
              have HBk := Aside0.mk hBk
              clear hMk hDk hBk
              by_cases hjl : j < n1
              · obtain ⟨ad1, hA1, hr1⟩ := (H1.out.below (B0.out.trans (HBk.out.mono B0.out.size))).2 (by omega)
                obtain ⟨ad2, hA2, hr2⟩ := (H2.out.below (B0.out.trans (HBk.out.mono B0.out.size))).2 (by omega)
                subst hA1
                subst hA2
                have hg1 := hr1 j hjl
                have hg2 := hr2 j (by omega)
                clear hr1 hr2
                have hk2 : j < n2 := by omega
                obtain ⟨s, hs⟩ : ∃ s, l[j]? = some s := ⟨_, List.getElem?_eq_getElem (by rw [HL1.out]; exact hjl)⟩
                obtain ⟨u, hu⟩ : ∃ u, ub[j]? = some u := ⟨_, List.getElem?_eq_getElem (by rw [HL2.out]; omega)⟩
                have e1 : (l.map Value.string).getD j undef = .string s := by simp [List.getD, hs]
                have e2 : (ub.map Value.bool).getD j undef = .bool u := by simp [List.getD, hu]
                rw [e1] at hg1
                rw [e2] at hg2
                have HE1 := Aside0.mk e1
                have hzj : z[j]? = some (s, u) := by rw [← HZ.out]; exact List.getElem?_zip_eq_some.2 ⟨hs, hu⟩
                have hdj : z.drop j = (s, u) :: z.drop (j + 1) := by
                  rw [List.drop_eq_getElem_cons (by rw [HZL.out]; exact hjl)]
                  rw [List.getElem?_eq_getElem (by rw [HZL.out]; exact hjl)] at hzj
                  rw [Option.some.inj hzj]
                have HDJ := Aside0.mk hdj
                clear hs hu e1 e2 hzj hdj
                cases u
                · have HT : Aside0 (MailAt 53 w0.heap.size B cu cp 64 [] (Value.string s :: PsL (z.drop (j + 1))) wr) := Aside0.mk (by
                    have := HMk.out
                    rw [HDJ.out, ps_cons] at this
                    exact this)
                  go_wp2_with (go_at_call 14; (with_reducible refine (take_p_string' s (ps := PsL (z.drop (j + 1))) HT.out).mono ?_); rintro e w5 ⟨rfl, hn5⟩; have hD5 := Now.cells hn5 HT.out.2.2.1 HDk.out; have hm5 := HT.out.plain hn5; have N5 := Aside0.mk hm5; have D5 := Aside0.mk hD5; have hg3 : w5.cell? (ad1.add j) = some (.string s) := (by have := (Reads.below H1.out (B0.out.trans ((HBk.out.trans hm5.2).mono B0.out.size))).2 (by omega); obtain ⟨ad, hq, hc⟩ := this; cases hq; have := hc j hjl; rwa [HE1.out] at this); clear hm5 hD5 hn5)
                  go_roundw
                  case rel => exact ⟨j + 1, by omega, by go_num, N5.out.1, D5.out, HBk.out.trans N5.out.2⟩
                  case measure => simp [intOf]; omega
                · go_wp2
                  go_roundw
                  case rel => exact ⟨j + 1, by omega, by go_num, by have := HMk.out; rw [HDJ.out, ps_cons] at this; exact this, HDk.out, HBk.out⟩
                  case measure => simp [intOf]; omega
              · have hje : n1 = j := by omega
                subst hje
                have hnil : z.drop n1 = [] := List.drop_eq_nil_of_le (Nat.le_of_eq HZL.out)
                have HNIL := Aside0.mk hnil
                clear hnil
                go_wp2
                go_roundw
                case rel => exact ⟨2, by decide, rfl, by have := HMk.out; rw [HNIL.out] at this; simpa [UsL, PsL] using this, HDk.out, HBk.out⟩
                case measure => simp [intOf]
          · have HM2 : Aside0 (MailAt 53 w0.heap.size B cu cp 64 [] [] wr) := Aside0.mk hM2
            clear hM2 hDc
            go_wp2_with (go_at_call 15; with_reducible refine (len_string _ _ _ _ _ _ _ _ HM2.out (by decide) (by decide)).mono ?_; rintro e w6 ⟨rfl, n6, rfl⟩)
            go_ret
            exact ⟨rfl, pw_below_drewN (B0.out.trans (HB2.out.mono B0.out.size)) n6⟩
theorem sorts_row (A0 : Option Addr) (c0 : Nat) (l0 : List ByteArray) (A1 : Option Addr) (c1 : Nat) (l1 : List Bool) (W : World) (rd0 : Reads W A0 l0.length (l0.map Value.string)) (lc0 : l0.length ≤ c0) (lm0 : l0.length ≤ maxLen) (rd1 : Reads W A1 l1.length (l1.map Value.bool)) (lc1 : l1.length ≤ c1) (lm1 : l1.length ≤ maxLen) :
    Calls Try.prog 4 #[.slice A0 l0.length c0, .slice A1 l1.length c1] W fun e w' => e = .returned (.bool true) ∧ Below W.heap.size W w' :=
  sorts_walk A0 A1 c0 c1 l0 l1 _ _ rfl rfl W rd0 rd1 lc0 lc1
end Go.Proofs.Ytaaicaddoboepaa.Mail
