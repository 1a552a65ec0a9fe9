/-
  What is left to be read: digest, number.
-/
import Derived.Test.YtgndidjfjdaagaaDoorTx4
import Derived.Deep.RegionLaw
set_option linter.unusedSimpArgs false
set_option linter.unusedVariables false
set_option linter.unnecessarySimpa false
namespace Go.Proofs.YtgndidjfjdaagaaDoor
open Go.RowKit

theorem siz24 : (Tryd.prog.info? 24).map (·.size) = some 1 := by kernel_rfl

set_option maxRecDepth 100000 in
set_option maxHeartbeats 1000000 in
theorem c_restDigest {w : World} {g lo hi : Nat} {v : Value} {L : List Value} {t : TypeId} {l : List UInt8} (hB : Blk w g (v :: L) t) (hR : RdB w lo hi v l) (hl : 32 ≤ l.length) (ho : hi ≤ g ∨ g < lo) (hh : hi ≤ w.heap.size) :
    Calls Tryd.prog 110 #[.pointer (some ⟨g, 0, none⟩)] w fun e w' => e = .returned (.agg (bs (l.take 32))) ∧ ∃ v', Blk w' g (v' :: L) t ∧ RdB w' lo hi v' (l.drop 32) ∧ Fr g (g + 1) w w' := by
  obtain ⟨a, cap, rfl, hc1, hc2, hc3⟩ := hR.form
  have hgl := hB.lt
  have hcell : w.cell? ⟨g, 0, none⟩ = some (.slice a l.length cap) := by rw [hB.cell]; rfl
  have hm : ((l.take 32).map ub).length = 32 := by rw [List.length_map, List.length_take]; omega
  have hmin : min 32 l.length = 32 := by omega
  go_enter Tryd.func110, Tryd.ntmps110
  go_wp2_with (refine wpl_alloc zer30 rfl rfl rfl ?_; intro g2 w2 hB2 hF2 hg2 hs2)
  have hR2 := (hR.kept hF2 (.inr (Nat.zero_le _)))
  have hBd := hB.kept hF2 (.inr (Nat.zero_le _))
  have c2 : w2.drew.cell? ⟨g, 0, none⟩ = some (.slice a l.length cap) := by rw [(hBd.kept (Fr.drew _) (.inr (Nat.zero_le _))).cell]; rfl
  go_region_law (go_loud (refine st_copy 32 (A := []) (B := (List.replicate 32 (0 : UInt8)).map ub) (Z := []) (by simpa using hB2.kept (Fr.drew _) (.inr (Nat.zero_le _))) rfl rfl (.inl ⟨hl, rfl⟩) (hR2.kept (Fr.drew _) (.inr (Nat.zero_le _))) rfl rfl (by rfl) (by rfl) ?_); intro w5 hB8 hF8)
  have hB8' : Blk w5 g2 ((l.take 32).map ub) 30 := by simpa using hB8
  have hR5 := (hR2.kept (Fr.drew _) (.inr (Nat.zero_le _))).kept hF8 (.inl (by omega))
  have hB5 := (hBd.kept (Fr.drew _) (.inr (Nat.zero_le _))).kept hF8 (.inl (by omega))
  have c5 : w5.cell? ⟨g, 0, none⟩ = some (.slice a l.length cap) := by rw [hB5.cell]; rfl
  go_wp2_with (first
    | (refine wpl_slice_from (I := 32) hR5 (by omega) rfl rfl rfl rfl ?_; intro ad' cap' hr')
    | (refine wpl_store_cell (off := 0) (v := .slice ad' (l.length - 32) cap') hB5 (by simp) siz24 rfl rfl rfl rfl rfl rfl ?_; intro w6 hB6 hF6; have hB86 := hB8'.kept hF6 (.inr (by omega)))
    | (have _t := hB86; refine wpl_load_blk hB86 row30 (by rw [siz30, hm]) rfl rfl rfl ?_)
    | (refine wpl_store_blk hB86 (by rw [hm]) (by rw [siz30, hm]) (ub_oneCell _) rfl rfl rfl rfl ?_; intro w7 hB7 hF7; clear hB86))
  have z2 := hF2.size
  have z6 := hF6.size
  have hF25 : Fr 0 0 w w5 := (hF2.trans (Fr.drew _)).on hF8 hg2
  have z5 := hF25.size
  refine bodyPost_ret (v := .agg (bs (l.take 32))) (res_blk rfl rfl hB7 row30 (by rw [siz30, hm])) rfl ⟨rfl, .slice ad' (l.length - 32) cap', ?_, ?_, ?_⟩
  · exact hB6.kept hF7 (.inl (by omega))
  · exact (hr'.kept hF6 (by omega)).kept hF7 (.inl (by omega))
  · have h7 : Fr 0 0 w w5 := hF25
    have h67 : Fr g (g + 1) w w6 := (h7.mono (.inr (Nat.le_refl _)) (.inr (Nat.le_refl _))).trans hF6
    exact Fr.own h67 hF7 (.inr hg2)

set_option maxRecDepth 100000 in
set_option maxHeartbeats 1000000 in
theorem c_restNumber {w : World} {g lo hi : Nat} {v : Value} {L : List Value} {t : TypeId} {l : List UInt8} (hB : Blk w g (v :: L) t) (hR : RdB w lo hi v l) (hl : 8 ≤ l.length) (hl2 : l.length ≤ 1073741824) :
    Calls Tryd.prog 111 #[.pointer (some ⟨g, 0, none⟩)] w fun e w' => e = .returned (.int .u64 (beN (l.take 8))) ∧ ∃ v', Blk w' g (v' :: L) t ∧ RdB w' w.heap.size w'.heap.size v' (l.drop 8) ∧ Fr g (g + 1) w w' := by
  obtain ⟨a, cap, rfl, hc1, hc2, hc3⟩ := hR.form
  have hgl := hB.lt
  have hcell : w.cell? ⟨g, 0, none⟩ = some (.slice a l.length cap) := by rw [hB.cell]; rfl
  have HB := Lib.hid hl
  obtain ⟨N, hN⟩ : ∃ N, N = beN (l.take 8) := ⟨_, rfl⟩
  have HN := Lib.hid hN.symm
  rw [← hN]
  clear hN
  go_enter Tryd.func111, Tryd.ntmps111
  go_wp2_with (first
    | (go_at_call 106; refine (c_Take 8 hR hl2 (by omega) (by omega) HB.out).mono ?_; rintro e w2 ⟨v2, rfl, hO2, hF2⟩; rw [HN.out]; have hB2 := hB.kept hF2 (.inr (Nat.zero_le _)); obtain ⟨a2, c2, rfl⟩ : ∃ a c, v2 = .slice a (l.length - 8) c := (let ⟨x, y, e, _⟩ := hO2.rd.form; ⟨x, y, by rw [e, List.length_drop]⟩))
    | (refine wpl_store_cell (off := 0) (v := .slice a2 (l.length - 8) c2) hB2 (by simp) siz24 rfl rfl rfl rfl rfl rfl ?_; intro w6 hB6 hF6))
  go_ret
  have z2 := hF2.size
  have z6 := hF6.size
  exact ⟨rfl, _, hB6, (hO2.rd.kept hF6 (.inr (by omega))).mono (Nat.le_refl _) (by omega), (hF2.mono (.inr (Nat.le_refl _)) (.inr (Nat.le_refl _))).trans hF6⟩

end Go.Proofs.YtgndidjfjdaagaaDoor
