/- strings.NewReplacer of two bytes, and what its Replace makes of a text: walked (2): build. -/
import Derived.Test.YtbbdfamfmkcfhaaGreatDoorRepl15
namespace Go.Proofs.YtbbdfamfmkcfhaaGreatDoor.Rpl
open Go.RowKit Go.Proofs.YtbbdfamfmkcfhaaGreatDoorW.PrintWords Go.Proofs.YtbbdfamfmkcfhaaGreatDoorW.PrintLast Go.Proofs.YtbbdfamfmkcfhaaGreatDoorW.PrintMore Go.Proofs.YtbbdfamfmkcfhaaGreatDoor.Pl
set_option linter.unusedVariables false
set_option linter.unusedSimpArgs false
set_option maxHeartbeats 4000000 in
set_option maxRecDepth 100000 in
theorem build_any (R g cap : Nat) (w : World) (h4 : w.cell? ⟨R, 4, none⟩ = some (.slice (some ⟨g, 0, none⟩) 4 cap)) (hg : g < w.heap.size) (g0 : w.cell? ⟨g, 0, none⟩ = some (.string (⟨#[92]⟩ : ByteArray))) (g1 : w.cell? ⟨g, 1, none⟩ = some (.string (⟨#[37, 53, 67]⟩ : ByteArray))) (g2 : w.cell? ⟨g, 2, none⟩ = some (.string (⟨#[124]⟩ : ByteArray))) (g3 : w.cell? ⟨g, 3, none⟩ = some (.string (⟨#[37, 55, 67]⟩ : ByteArray))) :
    Calls Tryz.prog 61 #[.pointer (some ⟨R, 0, none⟩)] w fun e w' => e = .returned (.iface 124 (.pointer (some ⟨w.heap.size + 1, 0, none⟩))) ∧ Nil w w' := by
  have hmk := mk02
  have hst := st95' w
  have H2 := Aside0.mk (two_start w)
  obtain ⟨i0, hi, hz0, hz1, hz2⟩ := info_parts sinfo
  go_enter Tryz.func61, Tryz.ntmps61
  go_upto_region 5 with fail
  go_wp2
  go_loop [4, 5] (fun a i => (a = .bool true ∧ i = .int .i64 0) ∨ (a = .bool false ∧ i = .int .i64 2) ∨ (a = .bool false ∧ i = .int .i64 4)) (fun _ i => (4 - intOf i).toNat)
  case atStart => exact Or.inl ⟨rfl, rfl⟩
  case round =>
    rcases hrel with ⟨rfl, rfl⟩ | ⟨rfl, rfl⟩ | ⟨rfl, rfl⟩
    · go_wp2
      go_round
      case rel => exact Or.inr (Or.inl ⟨rfl, rfl⟩)
      case measure => simp [intOf]
    · go_wp2
      go_round
      case rel => exact Or.inr (Or.inr ⟨rfl, rfl⟩)
      case measure => simp [intOf]
    go_wp2
    obtain ⟨W1, hW1⟩ : ∃ W1, (w.alloc (.cells #[.string ⟨#[]⟩, .string ⟨#[]⟩] 9)).alloc (.cells (rc (.slice (some ⟨w.heap.size, 0, none⟩) 0 2)) 123) = W1 := ⟨_, rfl⟩
    rw [hW1] at H2 ⊢
    clear hst hmk hW1
    go_loopw [12] (fun i wr => (i = .int .i64 2 ∧ Two w wr) ∨ (i = .int .i64 0 ∧ One w wr) ∨ (i = .int .i64 (-2) ∧ Nil w wr)) (fun i _ => (intOf i + 2).toNat)
    case atStart => exact Or.inl ⟨rfl, H2.out⟩
    case round =>
    rcases hrel with ⟨rfl, f, hf, hz⟩ | ⟨rfl, f, hf, hz, hk⟩ | ⟨rfl, hn⟩

    · have hk := trivial
      obtain ⟨hA, hR, hB⟩ := hf
      have HA := Aside0.mk hA
      have HR := Aside0.mk hR
      have HB := Aside0.mk hB
      have HZ := Aside0.mk hz
      have HK := Aside0.mk hk
      have c0 := (hB.cell (p := ⟨g, 2, none⟩) hg).trans g2
      have c1 := (hB.cell (p := ⟨g, 3, none⟩) hg).trans g3
      have b0 : wr.cell? ⟨w.heap.size + 1, 124, none⟩ = some (.slice none 0 0) := by rw [hA.cell 124 (by decide), hz 124 (by decide)]
      have b1 := hA.cell 256 (by decide)
      have hsz := hB.size
      have hlt := hA.lt
      clear hA hR hB hz hk
      obtain ⟨V, hV⟩ : ∃ V, f 256 = V := ⟨_, rfl⟩
      rw [hV] at b1 HR
      have HV := Aside0.mk hV
      clear hV
      have hstr := fun W => one_str W 124 (by decide) (⟨#[124]⟩ : ByteArray) (by decide)
      have hix : ∀ h : 0 < ((⟨#[124]⟩ : ByteArray) : ByteArray).size, (((⟨#[124]⟩ : ByteArray) : ByteArray)[0]'h).toNat = 124 := fun _ => rfl
      have hnn := fun W => Lib.run_eql_slice_nil_nil (P := Tryz.prog) W 0 0 Tryz.underlying38
      go_upto_region 34 with (at_builtin; refine wpList_append_own _ rfl _ _ 23 rfl w.heap.size 9 i0 (.string ⟨#[]⟩) 1 16 Tryz.underlying23 hi hz0 hz1 hz2 rfl (by decide) V _ _ rfl ((HR.out.alloc _).alloc _) ⟨wr.heap.size + 1, 0, none⟩ 1 1 [.string (⟨#[124]⟩ : ByteArray)] rfl rfl ?c1 ?c2 ?c3 ?c4 ?c5 ?_)
      case c1 =>
        intro j u hj
        match j, hj with
        | 0, hj => simp at hj; subst hj; simp [Addr.add]
      case c2 => intro u hu; simp at hu; subst hu; rfl
      case c3 => unfold maxLen; simp
      case c4 => simp
      case c5 => simp; omega
      intro v' w2 hown' hgrow _
      obtain ⟨ga, cp, rfl⟩ : ∃ ga cp, v' = .slice (some ⟨ga, 0, none⟩) 1 cp := by
        rcases hown'.2 with ⟨_, h0⟩ | ⟨ga, cp, cur, hv, _⟩
        · simp at h0
        · exact ⟨ga, cp, hv⟩
      have ho2 := (HR.out.alloc (.cells #[.int .u8 124] 5)).alloc (.cells #[.string (⟨#[124]⟩ : ByteArray)] 9)
      have hA2 := arr_app ((HA.out.alloc (.cells #[.int .u8 124] 5)).alloc (.cells #[.string (⟨#[124]⟩ : ByteArray)] 9)) ho2 hgrow
      have hB2 : Below w.heap.size w w2 := ((HB.out.alloc (by omega) _).alloc (by simp; omega) _).grown hgrow (by simp; omega) (fun k hk => (HR.out.lt k hk).1)
      have d1 := hA2.cell 256 (by decide)
      rw [HV.out] at d1
      have e1 := hA2.free 256
      skip
      have HA2 := Aside0.mk hA2
      have HB2 := Aside0.mk hB2
      have HO2 := Aside0.mk hown'
      skip
      clear ho2 hA2 hB2 hown' hgrow hstr hnn 
      go_upto_region 34 with fail
      have hA3 := HA2.out.set 256 (by decide) (.slice (some ⟨ga, 0, none⟩) 1 cp)
      have hR3 := own_set (i := 256) HA2.out HO2.out (.slice (some ⟨ga, 0, none⟩) 1 cp)
      have hB3 : Below w.heap.size w (w2.setCell ⟨w.heap.size + 1, 256, none⟩ (.slice (some ⟨ga, 0, none⟩) 1 cp)) := set_below HB2.out (Nat.le_succ _) _
      skip
      obtain ⟨W3, hW3⟩ : ∃ W3, w2.setCell ⟨w.heap.size + 1, 256, none⟩ (.slice (some ⟨ga, 0, none⟩) 1 cp) = W3 := ⟨_, rfl⟩
      rw [hW3] at hA3 hR3 hB3  ⊢
      clear hW3 HA2 HO2 HB2  d1 e1
      have hcv := Lib.run_convert_string_bytes (P := Tryz.prog) W3 9 38 5 (⟨#[37, 55, 67]⟩ : ByteArray) Tryz.underlying9 Tryz.underlying38 Tryz.underlying5
      have hb4 := G.bytesWorld_below W3 5 (⟨#[37, 55, 67]⟩ : ByteArray)
      have hV4 := bts_new W3 (⟨#[37, 55, 67]⟩ : ByteArray)
      obtain ⟨W4, hW4⟩ : ∃ W4, Lib.bytesWorld W3 5 (⟨#[37, 55, 67]⟩ : ByteArray) = W4 := ⟨_, rfl⟩
      obtain ⟨C, hC⟩ : ∃ C, grownCap W3 ((⟨#[37, 55, 67]⟩ : ByteArray)).size 0 5 = C := ⟨_, rfl⟩
      rw [hW4, hC] at hcv hV4
      rw [hW4] at hb4
      clear hW4 hC
      have hA4 := hA3.below hb4
      have hR4 := pw_own_below hR3 hb4
      have hB4 := hB3.trans (hb4.mono hB3.size)
      skip
      have d2 := hA4.cell 124 (by decide)
      have d3 : upd f 256 (.slice (some ⟨ga, 0, none⟩) 1 cp) 124 = .slice none 0 0 := by unfold upd; rw [if_neg (by decide)]; exact HZ.out 124 (by decide)
      rw [d3] at d2
      have e2 := hA4.free 124
      have HA4 := Aside0.mk hA4
      have HR4 := Aside0.mk hR4
      have HB4 := Aside0.mk hB4
      have HV4 := Aside0.mk hV4
      skip
      clear hA3 hR3 hB3 hb4 hV4 hA4 hR4 hB4 d3 
      go_wp2
      have hA5 := HA4.out.set 124 (by decide) (.slice (some ⟨W3.heap.size, 0, none⟩) 3 C)
      have hR5 := own_set (i := 124) HA4.out HR4.out (.slice (some ⟨W3.heap.size, 0, none⟩) 3 C)
      have hB5 : Below w.heap.size w (W4.setCell ⟨w.heap.size + 1, 124, none⟩ (.slice (some ⟨W3.heap.size, 0, none⟩) 3 C)) := set_below HB4.out (Nat.le_succ _) _
      have hV5 := bts_set (i := 124) HA4.out HV4.out (.slice (some ⟨W3.heap.size, 0, none⟩) 3 C)
      skip
      refine ⟨Or.inr (Or.inl ⟨rfl, ?_⟩), by simp [intOf]⟩
      refine ⟨upd (upd f 256 (.slice (some ⟨ga, 0, none⟩) 1 cp)) 124 (.slice (some ⟨W3.heap.size, 0, none⟩) 3 C), ⟨hA5, hR5, hB5⟩, ?_, hV5⟩
      · intro i hi hne
        unfold upd
        rw [if_neg hne, if_neg (by omega)]
        exact HZ.out i hi
      
      

    · skip
      obtain ⟨hA, hR, hB⟩ := hf
      have HA := Aside0.mk hA
      have HR := Aside0.mk hR
      have HB := Aside0.mk hB
      have HZ := Aside0.mk hz
      have HK := Aside0.mk hk
      have c0 := (hB.cell (p := ⟨g, 0, none⟩) hg).trans g0
      have c1 := (hB.cell (p := ⟨g, 1, none⟩) hg).trans g1
      have b0 : wr.cell? ⟨w.heap.size + 1, 92, none⟩ = some (.slice none 0 0) := by rw [hA.cell 92 (by decide), hz 92 (by decide) (by decide)]
      have b1 := hA.cell 256 (by decide)
      have hsz := hB.size
      have hlt := hA.lt
      clear hA hR hB hz hk
      obtain ⟨V, hV⟩ : ∃ V, f 256 = V := ⟨_, rfl⟩
      rw [hV] at b1 HR
      have HV := Aside0.mk hV
      clear hV
      have hstr := fun W => one_str W 92 (by decide) (⟨#[92]⟩ : ByteArray) (by decide)
      have hix : ∀ h : 0 < ((⟨#[92]⟩ : ByteArray) : ByteArray).size, (((⟨#[92]⟩ : ByteArray) : ByteArray)[0]'h).toNat = 92 := fun _ => rfl
      have hnn := fun W => Lib.run_eql_slice_nil_nil (P := Tryz.prog) W 0 0 Tryz.underlying38
      go_upto_region 34 with (at_builtin; refine wpList_append_own _ rfl _ _ 23 rfl w.heap.size 9 i0 (.string ⟨#[]⟩) 1 16 Tryz.underlying23 hi hz0 hz1 hz2 rfl (by decide) V _ _ rfl ((HR.out.alloc _).alloc _) ⟨wr.heap.size + 1, 0, none⟩ 1 1 [.string (⟨#[92]⟩ : ByteArray)] rfl rfl ?c1 ?c2 ?c3 ?c4 ?c5 ?_)
      case c1 =>
        intro j u hj
        match j, hj with
        | 0, hj => simp at hj; subst hj; simp [Addr.add]
      case c2 => intro u hu; simp at hu; subst hu; rfl
      case c3 => unfold maxLen; simp
      case c4 => simp
      case c5 => simp; omega
      intro v' w2 hown' hgrow _
      obtain ⟨ga, cp, rfl⟩ : ∃ ga cp, v' = .slice (some ⟨ga, 0, none⟩) 2 cp := by
        rcases hown'.2 with ⟨_, h0⟩ | ⟨ga, cp, cur, hv, _⟩
        · simp at h0
        · exact ⟨ga, cp, hv⟩
      have ho2 := (HR.out.alloc (.cells #[.int .u8 92] 5)).alloc (.cells #[.string (⟨#[92]⟩ : ByteArray)] 9)
      have hA2 := arr_app ((HA.out.alloc (.cells #[.int .u8 92] 5)).alloc (.cells #[.string (⟨#[92]⟩ : ByteArray)] 9)) ho2 hgrow
      have hB2 : Below w.heap.size w w2 := ((HB.out.alloc (by omega) _).alloc (by simp; omega) _).grown hgrow (by simp; omega) (fun k hk => (HR.out.lt k hk).1)
      have d1 := hA2.cell 256 (by decide)
      rw [HV.out] at d1
      have e1 := hA2.free 256
      have hK2 := bts_app ((HK.out.alloc (.cells #[.int .u8 92] 5)).alloc (.cells #[.string (⟨#[92]⟩ : ByteArray)] 9)) ho2 hgrow
      have HA2 := Aside0.mk hA2
      have HB2 := Aside0.mk hB2
      have HO2 := Aside0.mk hown'
      have HK2 := Aside0.mk hK2
      clear ho2 hA2 hB2 hown' hgrow hstr hnn hK2
      go_upto_region 34 with fail
      have hA3 := HA2.out.set 256 (by decide) (.slice (some ⟨ga, 0, none⟩) 2 cp)
      have hR3 := own_set (i := 256) HA2.out HO2.out (.slice (some ⟨ga, 0, none⟩) 2 cp)
      have hB3 : Below w.heap.size w (w2.setCell ⟨w.heap.size + 1, 256, none⟩ (.slice (some ⟨ga, 0, none⟩) 2 cp)) := set_below HB2.out (Nat.le_succ _) _
      have hK3 := bts_set (i := 256) HA2.out HK2.out (.slice (some ⟨ga, 0, none⟩) 2 cp)
      obtain ⟨W3, hW3⟩ : ∃ W3, w2.setCell ⟨w.heap.size + 1, 256, none⟩ (.slice (some ⟨ga, 0, none⟩) 2 cp) = W3 := ⟨_, rfl⟩
      rw [hW3] at hA3 hR3 hB3 hK3 ⊢
      clear hW3 HA2 HO2 HB2 HK2 d1 e1
      have hcv := Lib.run_convert_string_bytes (P := Tryz.prog) W3 9 38 5 (⟨#[37, 53, 67]⟩ : ByteArray) Tryz.underlying9 Tryz.underlying38 Tryz.underlying5
      have hb4 := G.bytesWorld_below W3 5 (⟨#[37, 53, 67]⟩ : ByteArray)
      have hV4 := bts_new W3 (⟨#[37, 53, 67]⟩ : ByteArray)
      obtain ⟨W4, hW4⟩ : ∃ W4, Lib.bytesWorld W3 5 (⟨#[37, 53, 67]⟩ : ByteArray) = W4 := ⟨_, rfl⟩
      obtain ⟨C, hC⟩ : ∃ C, grownCap W3 ((⟨#[37, 53, 67]⟩ : ByteArray)).size 0 5 = C := ⟨_, rfl⟩
      rw [hW4, hC] at hcv hV4
      rw [hW4] at hb4
      clear hW4 hC
      have hA4 := hA3.below hb4
      have hR4 := pw_own_below hR3 hb4
      have hB4 := hB3.trans (hb4.mono hB3.size)
      have hK4 := hK3.below hb4
      have d2 := hA4.cell 92 (by decide)
      have d3 : upd f 256 (.slice (some ⟨ga, 0, none⟩) 2 cp) 92 = .slice none 0 0 := by unfold upd; rw [if_neg (by decide)]; exact HZ.out 92 (by decide) (by decide)
      rw [d3] at d2
      have e2 := hA4.free 92
      have HA4 := Aside0.mk hA4
      have HR4 := Aside0.mk hR4
      have HB4 := Aside0.mk hB4
      have HV4 := Aside0.mk hV4
      have HK4 := Aside0.mk hK4
      clear hA3 hR3 hB3 hb4 hV4 hA4 hR4 hB4 d3 hK3 hK4
      go_wp2
      have hA5 := HA4.out.set 92 (by decide) (.slice (some ⟨W3.heap.size, 0, none⟩) 3 C)
      have hR5 := own_set (i := 92) HA4.out HR4.out (.slice (some ⟨W3.heap.size, 0, none⟩) 3 C)
      have hB5 : Below w.heap.size w (W4.setCell ⟨w.heap.size + 1, 92, none⟩ (.slice (some ⟨W3.heap.size, 0, none⟩) 3 C)) := set_below HB4.out (Nat.le_succ _) _
      have hV5 := bts_set (i := 92) HA4.out HV4.out (.slice (some ⟨W3.heap.size, 0, none⟩) 3 C)
      have hK5 := bts_set (i := 92) HA4.out HK4.out (.slice (some ⟨W3.heap.size, 0, none⟩) 3 C)
      refine ⟨Or.inr (Or.inr ⟨rfl, ?_⟩), by simp [intOf]⟩
      refine ⟨upd (upd f 256 (.slice (some ⟨ga, 0, none⟩) 2 cp)) 92 (.slice (some ⟨W3.heap.size, 0, none⟩) 3 C), ⟨hA5, hR5, hB5⟩, ?_, ?_, ?_⟩
      · intro i hi hne hne2
        unfold upd
        rw [if_neg hne2, if_neg (by omega)]
        exact HZ.out i hi hne
      · exact hK5
      · exact hV5

    · have HN := Aside0.mk hn
      clear hn H2
      go_wp2
      go_ret
      exact ⟨rfl, HN.out⟩
end Go.Proofs.YtbbdfamfmkcfhaaGreatDoor.Rpl
