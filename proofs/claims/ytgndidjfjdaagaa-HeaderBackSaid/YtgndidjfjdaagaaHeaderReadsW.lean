/-
  The walk of the law HeaderReads.
-/
import Derived.Test.YtgndidjfjdaagaaHead2
import Derived.Test.YtgndidjfjdaagaaEq
set_option linter.unusedSimpArgs false
set_option linter.unusedVariables false
namespace Go.Proofs.Ytgndidjfjdaagaa
open Go.RowKit

/-- The kinds of a header's cells. -/
def lfH : List (Option IntKind) := some .i64 :: (List.replicate 96 (some .u8) ++ [some .i64])
theorem leaves27 : leaves Try.prog 4 27 = some lfH := by kernel_rfl
theorem eqg27 : Try.prog.eqGuardType Try.prog.depth 27 = false := by kernel_rfl

theorem lfH_hdrL (h : Int) (p s r : List UInt8) (m : Int) (hp : p.length = 32) (hs : s.length = 32) (hr : r.length = 32) : LF lfH (hdrL h p s r m) := by
  refine ⟨⟨_, rfl⟩, ?_⟩
  refine LF.append (ms := [some .i64]) ?_ ⟨⟨_, rfl⟩, trivial⟩
  have := LF.bytes (p ++ s ++ r)
  simp only [List.length_append, hp, hs, hr] at this
  simpa using this

theorem lfH_hdr0 : LF lfH hdr0 := lfH_hdrL _ _ _ _ _ (by simp) (by simp) (by simp)

theorem lfH_hdrRead (l : List UInt8) : LF lfH (hdrRead l).1 := by
  unfold hdrRead
  split
  · exact lfH_hdr0
  · split
    · exact lfH_hdr0
    · split
      · exact lfH_hdr0
      · exact lfH_hdrL _ _ _ _ _ (by simp; omega) (by simp; omega) (by simp; omega)

set_option maxHeartbeats 1000000 in
theorem w_HeaderReads {w : World} {v : Value} {l : List UInt8} (h : RdB w 0 w.heap.size v l) :
    Calls Try.prog 3 #[v] w fun e w' => e = .returned (.bool true) ∧ Fr 0 0 w w' := by
  obtain ⟨a, cap, rfl, hc1, hc2, hc3⟩ := h.form
  by_cases hl : 300 < l.length
  · go_enter Try.func3, Try.ntmps3
    go_wp2_with fail
    go_ret
    exact ⟨rfl, Fr.refl _ _ _⟩
  · obtain ⟨L, hL⟩ : ∃ L, L = (hdrRead l).1 := ⟨_, rfl⟩
    obtain ⟨C, hC⟩ : ∃ C, C = (hdrRead l).2 := ⟨_, rfl⟩
    have hlf : LF lfH L := by rw [hL]; exact lfH_hdrRead l
    have hlen : L.length = 98 := by rw [hlf.length]; rfl
    have HLEN := Lib.hid hlen
    have HL := Lib.hid hL
    have HC := Lib.hid hC
    clear hL hC hlen
    have hl2 : l.length ≤ 1073741824 := by omega
    go_enter Try.func3, Try.ntmps3
    have t1 := trivial
    go_wp2_with (first
      | (go_at_call 9; refine (c_Twin h hl2).mono ?_; rintro e w1 ⟨o1, rfl, hO1, hF1⟩)
      | (go_at_call 10; refine (c_hdrRead hO1.rd hl2).mono ?_; rintro e w2 ⟨rfl, hF2⟩; rw [← HL.out, ← HC.out])
      | (have _t := t1; refine wpl_alloc zer27 rfl rfl rfl ?_; intro g4 w3 hB3 hF3 hg4 hs4; clear t1 _t)
      | (have _t := hB3; refine wpl_store_blk hB3 (by rw [hdr0_length, HLEN.out]) (by rw [siz27, HLEN.out]) hlf.one rfl rfl rfl rfl ?_; intro w4 hB4 hF4; clear hB3 _t; have h4 := (((h.kept hF1 (.inr (Nat.zero_le _))).kept hF2 (.inr (Nat.zero_le _))).kept hF3 (.inr (Nat.zero_le _))).kept hF4 (.inl (by have := hF1.size; have := hF2.size; omega)))
      | (go_at_call 11; refine (c_Read14 h4 hl2).mono ?_; rintro e w5 ⟨rfl, hF5⟩; rw [← HL.out, ← HC.out])
      | (refine wpl_alloc zer27 rfl rfl rfl ?_; intro g6 w6 hB6 hF6 hg6 hs6; have t2 := trivial)
      | (refine wpl_store_blk hB6 (by rw [hdr0_length, HLEN.out]) (by rw [siz27, HLEN.out]) hlf.one rfl rfl rfl rfl ?_; intro w7 hB7 hF7; clear hB6;
          have z := hF5.size; have hB5 := ((hB4.kept hF5 (.inr (Nat.zero_le _))).kept hF6 (.inr (Nat.zero_le _))).kept hF7 (.inl (by have := hB4.lt; omega));
          have z1 := hF1.size; have z2 := hF2.size; have z3 := hF3.size; have z4 := hF4.size; have h7 := ((h4.kept hF5 (.inr (Nat.zero_le _))).kept hF6 (.inr (Nat.zero_le _))).kept hF7 (.inl (by omega));
          have o7 := (((((hO1.kept hF2 (.inr (Nat.zero_le _))).kept hF3 (.inr (Nat.zero_le _))).kept hF4 (.inl (by omega))).kept hF5 (.inr (Nat.zero_le _))).kept hF6 (.inr (Nat.zero_le _))).kept hF7 (.inl (by omega)))
      | (refine wpl_load_blk hB5 row27 (by rw [siz27, HLEN.out]) rfl rfl rfl ?_)
      | (refine wpl_load_blk hB7 row27 (by rw [siz27, HLEN.out]) rfl rfl rfl ?_)
      | (refine wpl_eql leaves27 (by omega) row27 eqg27 hlf hlf rfl rfl rfl rfl ?_; intro r hr; obtain rfl : r = true := hr.2 rfl; clear hr)
      | (go_at_call 12; refine (c_Same o7.rd h7).mono ?_; rintro e w8 ⟨rfl, rfl⟩))
    go_ret
    exact ⟨by simp, (((((hF1.trans hF2).trans hF3).on hF4 (by omega)).trans hF5).trans hF6).on hF7 (by omega)⟩

end Go.Proofs.Ytgndidjfjdaagaa
