/-
  Bytes of headers, there and back; the chapter's first example.
-/
import Derived.Test.YtgndidjfjdaagaaDoorHead3
import Derived.Test.YtgndidjfjdaagaaDoorHdrEq
set_option linter.unusedSimpArgs false
set_option linter.unusedVariables false
namespace Go.Proofs.YtgndidjfjdaagaaDoor
open Go.RowKit

theorem hdrChk_range {h m : Int} (hc : hdrChk h m = 0) : 0 ≤ h ∧ h ≤ 1073741824 ∧ 0 ≤ m ∧ m ≤ 256 := by
  unfold hdrChk at hc
  split at hc
  · omega
  · omega

theorem hdrB_length (h : Int) (p s r : List UInt8) (m : Int) (hp : p.length = 32) (hs : s.length = 32) (hr : r.length = 32) (hc : hdrChk h m = 0) : (hdrB h p s r m).length = 108 := by
  rw [hdrB, if_pos hc]
  simp [hp, hs, hr, beB_length]

theorem hdrRead_hdrB (h : Int) (p s r : List UInt8) (m : Int) (hp : p.length = 32) (hs : s.length = 32) (hr : r.length = 32) (hc : hdrChk h m = 0) : hdrRead (hdrB h p s r m) = (hdrL h p s r m, 0) := by
  have hg := hdrChk_range hc
  obtain ⟨n, rfl⟩ := Int.eq_ofNat_of_zero_le hg.1
  obtain ⟨k, rfl⟩ := Int.eq_ofNat_of_zero_le hg.2.2.1
  have hl := hdrB_length n p s r k hp hs hr hc
  have hb : hdrB n p s r k = beB 8 n ++ (p ++ (s ++ (r ++ beB 4 k))) := by rw [hdrB, if_pos hc]; rfl
  have l8 : (beB 8 n).length = 8 := beB_length _ _
  have h0 : (hdrB n p s r k).take 8 = beB 8 n := by rw [hb, List.take_append_of_le_length (by omega), List.take_of_length_le (by omega)]
  have d8 : (hdrB n p s r k).drop 8 = p ++ (s ++ (r ++ beB 4 k)) := by rw [hb, List.drop_append_of_le_length (by omega), List.drop_eq_nil_of_le (by omega)]; rfl
  have d40 : (hdrB n p s r k).drop 40 = s ++ (r ++ beB 4 k) := by
    rw [show 40 = 8 + 32 by omega, ← List.drop_drop, d8, List.drop_append_of_le_length (by omega), List.drop_eq_nil_of_le (by omega)]; rfl
  have d72 : (hdrB n p s r k).drop 72 = r ++ beB 4 k := by
    rw [show 72 = 40 + 32 by omega, ← List.drop_drop, d40, List.drop_append_of_le_length (by omega), List.drop_eq_nil_of_le (by omega)]; rfl
  have d104 : (hdrB n p s r k).drop 104 = beB 4 k := by
    rw [show 104 = 72 + 32 by omega, ← List.drop_drop, d72, List.drop_append_of_le_length (by omega), List.drop_eq_nil_of_le (by omega)]; rfl
  have t1 : ((hdrB n p s r k).drop 8).take 32 = p := by rw [d8, List.take_append_of_le_length (by omega), List.take_of_length_le (by omega)]
  have t2 : ((hdrB n p s r k).drop 40).take 32 = s := by rw [d40, List.take_append_of_le_length (by omega), List.take_of_length_le (by omega)]
  have t3 : ((hdrB n p s r k).drop 72).take 32 = r := by rw [d72, List.take_append_of_le_length (by omega), List.take_of_length_le (by omega)]
  have n1 : beN (beB 8 n) = n := by rw [beN_beB]; omega
  have n2 : beN (beB 4 k) = k := by rw [beN_beB]; omega
  rw [hdrRead, if_neg (by omega), if_neg (by omega), h0, t1, t2, t3, d104, n1, n2, if_neg (by omega)]

/-- What Read reads without an error is what Bytes writes. -/
theorem hdrB_hdrRead (l : List UInt8) (h : (hdrRead l).2 = 0) : ∃ k p s r m, p.length = 32 ∧ s.length = 32 ∧ r.length = 32 ∧ (hdrRead l) = (hdrL k p s r m, 0) ∧ hdrChk k m = 0 ∧ hdrB k p s r m = l := by
  unfold hdrRead at h
  split at h
  · simp at h
  · split at h
    · simp at h
    · split at h
      · simp at h
      · rename_i h1 h2 h3
        have hl : l.length = 108 := by omega
        have hc : hdrChk (beN (l.take 8)) (beN (l.drop 104)) = 0 := by rw [hdrChk, if_neg (by omega)]
        refine ⟨_, (l.drop 8).take 32, (l.drop 40).take 32, (l.drop 72).take 32, _, by simp [hl], by simp [hl], by simp [hl], by rw [hdrRead, if_neg h1, if_neg h2, if_neg h3], hc, ?_⟩
        rw [hdrB, if_pos hc]
        have b8 := beB_beN (l.take 8)
        rw [List.length_take, hl, Nat.min_eq_left (by omega)] at b8
        have b4 := beB_beN (l.drop 104)
        rw [List.length_drop, hl] at b4
        rw [show ((beN (l.take 8) : Nat) : Int).toNat = beN (l.take 8) from rfl, show ((beN (l.drop 104) : Nat) : Int).toNat = beN (l.drop 104) from rfl, b8, b4]
        have e3 : (l.drop 72).take 32 ++ l.drop 104 = l.drop 72 := by rw [show 104 = 72 + 32 by omega, ← List.drop_drop, List.take_append_drop]
        have e2 : (l.drop 40).take 32 ++ l.drop 72 = l.drop 40 := by rw [show 72 = 40 + 32 by omega, ← List.drop_drop, List.take_append_drop]
        have e1 : (l.drop 8).take 32 ++ l.drop 40 = l.drop 8 := by rw [show 40 = 8 + 32 by omega, ← List.drop_drop, List.take_append_drop]
        rw [e3, e2, e1, List.take_append_drop]

theorem hdrRead_bad (l : List UInt8) (h : (hdrRead l).2 ≠ 0) : (hdrRead l).1 = hdr0 := by
  unfold hdrRead at h ⊢
  split at h
  · rename_i h1; rw [if_pos h1]
  · rename_i h1
    rw [if_neg h1]
    split at h
    · rename_i h2; rw [if_pos h2]
    · rename_i h2
      rw [if_neg h2]
      split at h
      · rename_i h3; rw [if_pos h3]
      · exact absurd rfl h

theorem built27c : Tryd.prog.built 61 [(0, .int .i64 258), (4, .int .i64 3)] = some (hdrL 258 (List.replicate 32 0) (List.replicate 32 0) (List.replicate 32 0) 3).toArray := by kernel_rfl
theorem built27z : Tryd.prog.built 61 [] = some hdr0.toArray := by kernel_rfl
theorem hdrB_alive : hdrB 258 (List.replicate 32 0) (List.replicate 32 0) (List.replicate 32 0) 3 = ((((List.replicate 108 (0 : UInt8)).set 6 1).set 7 2).set 107 3) := by decide +kernel

set_option maxHeartbeats 1000000 in
theorem c_alive14 {w : World} : Calls Tryd.prog 62 #[] w fun e w' => e = .returned (.bool true) ∧ Fr 0 0 w w' := by
  obtain ⟨c, hc⟩ : ∃ c, c = hdrChk 258 3 := ⟨_, rfl⟩
  obtain rfl : c = 0 := by rw [hc]; decide
  have HC := Lib.hid hc
  clear hc
  go_enter Tryd.func62, Tryd.ntmps62
  have t1 := trivial
  have t2 := trivial
  go_wp2_with (first
    | (refine wpl_build (parts := [(0, _), (4, _)]) built27c rfl rfl rfl ?_)
    | (go_at_call 54; refine (c_hdrBytes 258 (List.replicate 32 0) (List.replicate 32 0) (List.replicate 32 0) 3 (by simp) (by simp) (by simp)).mono ?_; rintro e w1 ⟨v1, rfl, hO1, hF1⟩; rw [← HC.out])
    | (refine wpl_make (n := 108) und22 inf5 rfl rfl rfl rfl (by omega) (by omega) (by omega) ?_; intro g w2 hB2 hF2 hg hs)
    | (have _t := t1; refine wpl_store_cell (off := 6) (v := ub 1) hB2 (by simp) siz5' rfl rfl rfl rfl rfl rfl ?_; intro w3 hB3 hF3; clear t1 _t hB2)
    | (have _t := t2; refine wpl_store_cell (off := 7) (v := ub 2) hB3 (by simp) siz5' rfl rfl rfl rfl rfl rfl ?_; intro w4 hB4 hF4; clear t2 _t hB3)
    | (refine wpl_store_cell (off := 107) (v := ub 3) hB4 (by simp) siz5' rfl rfl rfl rfl rfl rfl ?_; intro w5 hB5 hF5; clear hB4; have hB5' : Blk w5 g (((((List.replicate 108 (0 : UInt8)).set 6 1).set 7 2).set 107 3).map ub) 5 := hB5; have z1 := hF1.size; have z2 := hF2.size; have hO4 := (((hO1.kept hF2 (.inr (Nat.zero_le _))).kept hF3 (.inl hg)).kept hF4 (.inl hg)).kept hF5 (.inl hg))
    | (go_at_call 23; refine (c_Same hO4 (OwB.of_blk (lo := g) (hi := g + 1) (n := 108) hB5' (by simp) (Nat.le_refl _) (by omega) (by omega)).rd).mono ?_; rintro e w5 ⟨rfl, rfl⟩; rw [hdrB_alive, beq_self_eq_true]))
  go_ret
  exact ⟨rfl, (((hF1.trans hF2).on hF3 (by omega)).on hF4 (by omega)).on hF5 (by omega)⟩

end Go.Proofs.YtgndidjfjdaagaaDoor
