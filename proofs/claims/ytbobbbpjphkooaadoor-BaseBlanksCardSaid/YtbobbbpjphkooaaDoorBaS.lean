/- A blank more or less: the same bytes (the plain part). -/
import Derived.Test.YtbobbbpjphkooaaDoorBaG
namespace Go.Proofs.YtbobbbpjphkooaaDoor.BaP2
open Go.RowKit Go.Proofs.YtbobbbpjphkooaaDoor.P Go.Proofs.YtbobbbpjphkooaaDoor.Pl Go.Proofs.YtbobbbpjphkooaaDoor.Mp Go.Proofs.YtbobbbpjphkooaaDoor.BaD Go.Proofs.YtbobbbpjphkooaaDoor.BaG Go.Proofs.YtbobbbpjphkooaaDoorW.PrintWords Go.Proofs.YtbobbbpjphkooaaDoorW.PrintLast Go.Proofs.YtbobbbpjphkooaaDoorW.PrintMore
theorem dec_small (s : ByteArray) (k : Nat) (hs : s.size ≤ 2000) (hk : 10000 ≤ k) : base_Decode.f k s = some (decB (bytesOf (sqz s))) := by
  have h1 := blank_size s
  have h2 := sqz_le s
  exact dec_f s k (by omega) (by omega) (by omega) (by omega)
theorem dec_high (s : ByteArray) (h : High s.data.toList) : decB (bytesOf (sqz s)) = ([], false) := by
  obtain ⟨b, hb, hb2⟩ := sqz_high s h
  exact dec_bad _ ⟨(b.toNat : Int), List.mem_map.2 ⟨b, hb, rfl⟩, idx_high _ (UInt8.toNat_lt b) hb2⟩
theorem same (s s' : ByteArray) (u v : List UInt8) (b : UInt8) (hb : b.toNat < 128) (hbl : isBl b = true) (h : s.data.toList = u ++ v) (h' : s'.data.toList = u ++ [b] ++ v) : decB (bytesOf (sqz s)) = decB (bytesOf (sqz s')) := by
  rcases low_or s.data.toList with hl | hh
  · have hl' : ∀ x ∈ s'.data.toList, x.toNat < 128 := by
      intro x hx
      rw [h'] at hx
      rw [h] at hl
      rcases List.mem_append.1 hx with hx | hx
      · rcases List.mem_append.1 hx with hx | hx
        · exact hl x (List.mem_append_left _ hx)
        · rw [List.mem_singleton] at hx
          subst hx
          exact hb
      · exact hl x (List.mem_append_right _ hx)
    rw [sqz_low hl hl' (by rw [h, h']; simp [List.filter_append, hbl])]
  · have hh' : High s'.data.toList := by
      obtain ⟨x, hx, hx2⟩ := hh
      rw [h] at hx
      refine ⟨x, ?_, hx2⟩
      rw [h']
      rcases List.mem_append.1 hx with hx | hx
      · exact List.mem_append_left _ (List.mem_append_left _ hx)
      · exact List.mem_append_right _ hx
    rw [dec_high s hh, dec_high s' hh']
theorem rd_bl : ∀ n : Nat, n < 5 → ∃ b : UInt8, rdOf ByteArray.empty ([(⟨#[32]⟩ : ByteArray), (⟨#[9]⟩ : ByteArray), (⟨#[10]⟩ : ByteArray), (⟨#[12]⟩ : ByteArray), (⟨#[13]⟩ : ByteArray)] : List ByteArray) (n : Int) = ⟨#[b]⟩ ∧ b.toNat < 128 ∧ isBl b = true := by
  intro n hn
  have : n = 0 ∨ n = 1 ∨ n = 2 ∨ n = 3 ∨ n = 4 := by omega
  rcases this with rfl | rfl | rfl | rfl | rfl
  · exact ⟨32, rfl, by decide, by decide⟩
  · exact ⟨9, rfl, by decide, by decide⟩
  · exact ⟨10, rfl, by decide, by decide⟩
  · exact ⟨12, rfl, by decide, by decide⟩
  · exact ⟨13, rfl, by decide, by decide⟩
end Go.Proofs.YtbobbbpjphkooaaDoor.BaP2
