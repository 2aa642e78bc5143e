/- unicode/utf8.Valid of a slice that is read, nil too. -/
import Derived.Test.YtbbdfamfmkcfhaaGreatDoorTab15
import Derived.Test.YtbbdfamfmkcfhaaGreatDoorValid
namespace Go.Proofs.YtbbdfamfmkcfhaaGreatDoor.G
open Go.RowKit Go.Shelf Go.Proofs.YtbbdfamfmkcfhaaGreatDoorW.PrintWords Go.Proofs.YtbbdfamfmkcfhaaGreatDoorW.PrintLast Go.Proofs.YtbbdfamfmkcfhaaGreatDoorW.PrintMore Go.Proofs.YtbbdfamfmkcfhaaGreatDoor.Pl
theorem valid_of {w : World} {A : Option Addr} {c : Nat} {l : List Int} (h : Kd.C (Kd.int .u8) w A l.length l) (hc : l.length ≤ c) (hb : ∀ x ∈ l, byte x) (hT : TU w) :
    Calls Tryz.prog 38 #[.slice A l.length c] w fun e w' => e = .returned (.bool (Lib.validD (l.map fun n => UInt8.ofNat n.toNat))) ∧ Below w.heap.size w w' := by
  by_cases h0 : l = []
  · subst h0
    exact valid_nil A c w
  · have h1 : 0 < l.length := List.length_pos_iff.2 h0
    obtain ⟨_, hl, _⟩ := Kd.reads_of_C (enc := Value.int .u8) (d := (0 : Int)) (h1 := fun _ => rfl) h
    obtain ⟨b, o, rfl, hcell⟩ := cells_of h rfl h1
    have hlt : b < w.heap.size := (addr_plain (ad := ⟨b, o, none⟩) (v := .int .u8 (l.getD 0 0)) (by
      have ha : (⟨b, o, none⟩ : Addr).add 0 = ⟨b, o + 0, none⟩ := by unfold Addr.add; split <;> simp_all
      rw [ha]
      exact hcell 0 h1)).2
    have := Val.valid_at b o c (l.map fun n => UInt8.ofNat n.toNat) w hlt (by rw [List.length_map]; exact hl) (by rw [List.length_map]; exact hc) (fun j u hj => by
      rw [List.getElem?_map] at hj
      obtain ⟨x, hx, rfl⟩ := Option.map_eq_some_iff.1 hj
      obtain ⟨hjl, hxl⟩ := List.getElem?_eq_some_iff.1 hx
      rw [hcell j hjl, List.getD_eq_getElem?_getD, hx]
      have := ofNat_of (hb x (List.mem_of_getElem? hx))
      rw [this]
      rfl) hT
    rw [List.length_map] at this
    exact this
end Go.Proofs.YtbbdfamfmkcfhaaGreatDoor.G
