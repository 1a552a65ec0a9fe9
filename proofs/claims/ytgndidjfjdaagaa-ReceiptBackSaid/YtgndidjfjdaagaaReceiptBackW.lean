/-
  The walk of the law ReceiptBack.
-/
import Derived.Test.YtgndidjfjdaagaaRec
set_option linter.unusedSimpArgs false
set_option linter.unusedVariables false
namespace Go.Proofs.Ytgndidjfjdaagaa
open Go.RowKit

theorem recB_length (k : UInt8) (d : List UInt8) (c : Int) (hd : d.length = 32) (h : recChk k c = 0) : (recB k d c).length = 35 := by
  rw [recB, if_pos h]
  simp [hd, beB_length]

theorem recChk_range {k : UInt8} {c : Int} (h : recChk k c = 0) : 0 ≤ c ∧ c ≤ 151 := by
  unfold recChk at h
  split at h <;> omega

theorem recRead_recB (k : UInt8) (d : List UInt8) (c : Int) (hd : d.length = 32) (h : recChk k c = 0) : recRead (recB k d c) = (recL k d c, 0) := by
  have hr := recChk_range h
  obtain ⟨n, rfl⟩ := Int.eq_ofNat_of_zero_le hr.1
  have hl := recB_length k d n hd h
  have hb : recB k d n = k :: (d ++ beB 2 n) := by rw [recB, if_pos h]; rfl
  have h1 : (recB k d n).getD 0 0 = k := by rw [hb]; rfl
  have h2 : ((recB k d n).drop 1).take 32 = d := by rw [hb]; simp [hd]
  have h3 : (recB k d n).drop 33 = beB 2 n := by
    rw [hb, List.drop_succ_cons, List.drop_append, List.drop_eq_nil_of_le (by omega), hd]
    simp
  have h4 : beN (beB 2 n) = n := by rw [beN_beB]; omega
  rw [recRead, if_neg (by omega), if_neg (by omega), h1, h2, h3, h4, if_pos h]

/-- What Read reads without an error is what Bytes writes. -/
theorem recB_recRead (l : List UInt8) (h : (recRead l).2 = 0) : ∃ k d c, d.length = 32 ∧ (recRead l) = (recL k d c, 0) ∧ recChk k c = 0 ∧ recB k d c = l := by
  unfold recRead at h
  split at h
  · simp at h
  · split at h
    · simp at h
    · split at h
      · rename_i h1 h2 h3
        have hl : l.length = 35 := by omega
        refine ⟨_, (l.drop 1).take 32, _, by simp [hl], by rw [recRead, if_neg h1, if_neg h2, if_pos h3], h3, ?_⟩
        rw [recB, if_pos h3]
        have hb := beB_beN (l.drop 33)
        rw [List.length_drop, hl] at hb
        rw [show ((beN (l.drop 33) : Nat) : Int).toNat = beN (l.drop 33) from rfl, hb]
        match l, hl with
        | x :: t, hl =>
          simp at hl
          have e : (List.drop 1 (x :: t)).take 32 ++ List.drop 33 (x :: t) = t := by simp [List.take_append_drop]
          rw [e]
          rfl
      · simp at h

theorem recRead_bad (l : List UInt8) (h : (recRead l).2 ≠ 0) : (recRead l).1 = rec0 := by
  unfold recRead at h ⊢
  split at h
  · rename_i h1; rw [if_pos h1]
  · rename_i h1
    rw [if_neg h1]
    split at h
    · rename_i h2; rw [if_pos h2]
    · rename_i h2
      rw [if_neg h2]
      split at h
      · exact absurd rfl h
      · rename_i h3; rw [if_neg h3]

theorem recRead_LF (l : List UInt8) : LF lfR (recRead l).1 := by
  by_cases h : (recRead l).2 = 0
  · obtain ⟨k, d, c, hd, e, _⟩ := recB_recRead l h
    rw [e]
    exact lfR_recL k d c hd
  · rw [recRead_bad l h]
    exact lfR_recL _ _ _ (by simp)

set_option maxHeartbeats 1000000 in
theorem w_ReceiptBack {w : World} {v : Value} {l : List UInt8} (k : UInt8) (d : List UInt8) (c : Int) (hd : d.length = 32) (h : RdB w 0 w.heap.size v l) :
    Calls Try.prog 5 #[.agg (recL k d c).toArray, v] w fun e w' => e = .returned (.bool true) ∧ Fr 0 0 w w' := by
  obtain ⟨a, cap, rfl, hc1, hc2, hc3⟩ := h.form
  by_cases hl : 100 < l.length
  · go_enter Try.func5, Try.ntmps5
    go_wp2_with (first
      | (refine wpl_box (recL k d c) rfl rfl rfl rfl ?_; intro g w1 hB hF1 hg hs)
      | (go_at_call 17; refine c_alive12.mono ?_; rintro e w2 ⟨rfl, hF2⟩))
    go_ret
    exact ⟨rfl, hF1.trans hF2⟩
  · obtain ⟨C, hC⟩ : ∃ C, C = recChk k c := ⟨_, rfl⟩
    obtain ⟨B, hBB⟩ : ∃ B, B = recB k d c := ⟨_, rfl⟩
    obtain ⟨L1, hL1⟩ : ∃ L, L = (recRead B).1 := ⟨_, rfl⟩
    obtain ⟨C1, hC1⟩ : ∃ C, C = (recRead B).2 := ⟨_, rfl⟩
    obtain ⟨L2, hL2⟩ : ∃ L, L = (recRead l).1 := ⟨_, rfl⟩
    obtain ⟨C2, hC2⟩ : ∃ C, C = (recRead l).2 := ⟨_, rfl⟩
    have HC := Lib.hid hC
    have HBB := Lib.hid hBB
    have HL1 := Lib.hid hL1
    have HC1 := Lib.hid hC1
    have HL2 := Lib.hid hL2
    have HC2 := Lib.hid hC2
    have hlf1 : LF lfR L1 := by rw [hL1]; exact recRead_LF B
    have hlf2 : LF lfR L2 := by rw [hL2]; exact recRead_LF l
    have hlen1 : L1.length = 34 := by rw [hlf1.length]; rfl
    have hlen2 : L2.length = 34 := by rw [hlf2.length]; rfl
    have HLEN1 := Lib.hid hlen1
    have HLEN2 := Lib.hid hlen2
    have hBl : B.length ≤ 35 := by
      rw [hBB]
      by_cases hk : recChk k c = 0
      · rw [recB_length k d c hd hk]; omega
      · rw [recB, if_neg hk]; simp
    clear hC hBB hL1 hC1 hL2 hC2 hlen1 hlen2
    by_cases hz : C = 0
    · subst hz
      have hk : recChk k c = 0 := HC.out.symm
      have hBe : B.length = 35 := by rw [HBB.out]; exact recB_length k d c hd hk
      obtain rfl : C1 = 0 := by rw [HC1.out, HBB.out, recRead_recB k d c hd hk]
      obtain rfl : L1 = recL k d c := by rw [HL1.out, HBB.out, recRead_recB k d c hd hk]
      have HBE := Lib.hid hBe
      clear hBe hk hBl
      by_cases hz2 : C2 = 0
      · subst hz2
        obtain ⟨k2, d2, c2, hd2, e2, e3, e4⟩ := recB_recRead l HC2.out.symm
        obtain rfl : L2 = recL k2 d2 c2 := by rw [HL2.out, e2]
        have HCHK2 : Hid (0 = recChk k2 c2) := e3.symm
        have HB2 := Lib.hid e4
        clear e2 e3 e4
        go_enter Try.func5, Try.ntmps5
        have t1 := trivial
        have t2 := trivial
        have t3 := trivial
        go_wp2_with (first
          | (refine wpl_box (recL k d c) rfl rfl rfl rfl ?_; intro g w1 hB hF1 hg hs)
          | (go_at_call 17; refine c_alive12.mono ?_; rintro e w2 ⟨rfl, hF2⟩; have hB2 := hB.kept hF2 (.inr (Nat.zero_le _)))
          | (have _t := t1; refine wpl_load_blk hB2 row43 (by rw [siz43, recL_length _ _ _ hd]) rfl rfl rfl ?_)
          | (have _t := t1; go_at_call 18; refine (c_recBytes k d c hd).mono ?_; rintro e w3 ⟨v3, rfl, hO3, hF3⟩; rw [← HC.out]; rw [← HBB.out] at hO3; clear t1 _t; obtain ⟨a3, cap3, rfl⟩ : ∃ a3 cap3, v3 = .slice a3 35 cap3 := by (obtain ⟨x, y, e, _⟩ := hO3.rd.form; exact ⟨x, y, by rw [e, HBE.out]⟩))
          | (have _t := t2; go_at_call 19; refine (c_recRead hO3.rd (by rw [HBE.out]; omega)).mono ?_; rintro e w4 ⟨rfl, hF4⟩; rw [← HL1.out, ← HC1.out]; clear t2 _t)
          | (have _t := t3; refine wpl_alloc zer43 rfl rfl rfl ?_; intro g5 w5 hB5 hF5 hg5 hs5; clear t3 _t)
          | (have _t := hB5; refine wpl_store_blk hB5 (by rw [rec0_length, HLEN1.out]) (by rw [siz43, HLEN1.out]) hlf1.one rfl rfl rfl rfl ?_; intro w6 hB6 hF6; clear hB5 _t; have z1 := hF1.size; have z2 := hF2.size; have z3 := hF3.size; have z4 := hF4.size; have z5 := hF5.size; have h6 := (((((h.kept hF1 (.inr (Nat.zero_le _))).kept hF2 (.inr (Nat.zero_le _))).kept hF3 (.inr (Nat.zero_le _))).kept hF4 (.inr (Nat.zero_le _))).kept hF5 (.inr (Nat.zero_le _))).kept hF6 (.inl (by omega)); have hB7 := (((hB2.kept hF3 (.inr (Nat.zero_le _))).kept hF4 (.inr (Nat.zero_le _))).kept hF5 (.inr (Nat.zero_le _))).kept hF6 (.inl (by omega)))
          | (refine wpl_load_blkG hB6 row43 (by rw [siz43, HLEN1.out]) rfl rfl rfl ?_)
          | (refine wpl_load_blkG hB7 row43 (by rw [siz43, HLEN1.out]) rfl rfl rfl ?_)
          | (refine wpl_neq leaves43 (by omega) row43 eqg43 hlf1 hlf1 rfl rfl rfl rfl ?_; intro r hr; obtain rfl : r = true := hr.2 rfl; clear hr)
          | (go_at_call 19; refine (c_recRead h6 (by omega)).mono ?_; rintro e w8 ⟨rfl, hF8⟩; rw [← HL2.out, ← HC2.out])
          | (refine wpl_alloc zer43 rfl rfl rfl ?_; intro g9 w9 hB9 hF9 hg9 hs9)
          | (have _t := hB9; refine wpl_store_blk hB9 (by first | rfl | rw [rec0_length, HLEN2.out]) (by first | rw [siz43, HLEN2.out] | exact siz43) hlf2.one rfl rfl rfl rfl ?_; intro w10 hB10 hF10; clear hB9 _t; have h10 := ((h6.kept hF8 (.inr (Nat.zero_le _))).kept hF9 (.inr (Nat.zero_le _))).kept hF10 (.inl (by have := hF6.size; have := hF8.size; omega)))
          | (refine wpl_load_blk hB10 row43 (by first | rw [siz43, HLEN2.out] | exact siz43) rfl rfl rfl ?_)
          | (go_at_call 18; refine (c_recBytes k2 d2 c2 hd2).mono ?_; rintro e w11 ⟨v11, rfl, hO11, hF11⟩; rw [← HCHK2.out]; rw [HB2.out] at hO11; have h11 := h10.kept hF11 (.inr (Nat.zero_le _)))
          | (go_at_call 12; refine (c_Same hO11.rd h11).mono ?_; rintro e w12 ⟨rfl, rfl⟩; rw [beq_self_eq_true]))
        go_ret
        have y6 := hF6.size
        have y8 := hF8.size
        exact ⟨by simp, ((((((((hF1.trans hF2).trans hF3).trans hF4).trans hF5).on hF6 (by omega)).trans hF8).trans hF9).on hF10 (by omega)).trans hF11⟩
      · obtain rfl : L2 = rec0 := by rw [HL2.out]; exact recRead_bad l (by rw [← HC2.out]; exact hz2)
        go_enter Try.func5, Try.ntmps5
        have t1 := trivial
        have t2 := trivial
        have t3 := trivial
        go_wp2_with (first
          | (refine wpl_box (recL k d c) rfl rfl rfl rfl ?_; intro g w1 hB hF1 hg hs)
          | (go_at_call 17; refine c_alive12.mono ?_; rintro e w2 ⟨rfl, hF2⟩; have hB2 := hB.kept hF2 (.inr (Nat.zero_le _)))
          | (have _t := t1; refine wpl_load_blk hB2 row43 (by rw [siz43, recL_length _ _ _ hd]) rfl rfl rfl ?_)
          | (have _t := t1; go_at_call 18; refine (c_recBytes k d c hd).mono ?_; rintro e w3 ⟨v3, rfl, hO3, hF3⟩; rw [← HC.out]; rw [← HBB.out] at hO3; clear t1 _t; obtain ⟨a3, cap3, rfl⟩ : ∃ a3 cap3, v3 = .slice a3 35 cap3 := by (obtain ⟨x, y, e, _⟩ := hO3.rd.form; exact ⟨x, y, by rw [e, HBE.out]⟩))
          | (have _t := t2; go_at_call 19; refine (c_recRead hO3.rd (by rw [HBE.out]; omega)).mono ?_; rintro e w4 ⟨rfl, hF4⟩; rw [← HL1.out, ← HC1.out]; clear t2 _t)
          | (have _t := t3; refine wpl_alloc zer43 rfl rfl rfl ?_; intro g5 w5 hB5 hF5 hg5 hs5; clear t3 _t)
          | (have _t := hB5; refine wpl_store_blk hB5 (by rw [rec0_length, HLEN1.out]) (by rw [siz43, HLEN1.out]) hlf1.one rfl rfl rfl rfl ?_; intro w6 hB6 hF6; clear hB5 _t; have z1 := hF1.size; have z2 := hF2.size; have z3 := hF3.size; have z4 := hF4.size; have z5 := hF5.size; have h6 := (((((h.kept hF1 (.inr (Nat.zero_le _))).kept hF2 (.inr (Nat.zero_le _))).kept hF3 (.inr (Nat.zero_le _))).kept hF4 (.inr (Nat.zero_le _))).kept hF5 (.inr (Nat.zero_le _))).kept hF6 (.inl (by omega)); have hB7 := (((hB2.kept hF3 (.inr (Nat.zero_le _))).kept hF4 (.inr (Nat.zero_le _))).kept hF5 (.inr (Nat.zero_le _))).kept hF6 (.inl (by omega)))
          | (refine wpl_load_blkG hB6 row43 (by rw [siz43, HLEN1.out]) rfl rfl rfl ?_)
          | (refine wpl_load_blkG hB7 row43 (by rw [siz43, HLEN1.out]) rfl rfl rfl ?_)
          | (refine wpl_neq leaves43 (by omega) row43 eqg43 hlf1 hlf1 rfl rfl rfl rfl ?_; intro r hr; obtain rfl : r = true := hr.2 rfl; clear hr)
          | (go_at_call 19; refine (c_recRead h6 (by omega)).mono ?_; rintro e w8 ⟨rfl, hF8⟩; rw [← HL2.out, ← HC2.out])
          | (refine wpl_alloc zer43 rfl rfl rfl ?_; intro g9 w9 hB9 hF9 hg9 hs9)
          | (have _t := hB9; refine wpl_store_blk hB9 (by first | rfl | rw [rec0_length, HLEN2.out]) (by first | rw [siz43, HLEN2.out] | exact siz43) hlf2.one rfl rfl rfl rfl ?_; intro w10 hB10 hF10; clear hB9 _t; have h10 := ((h6.kept hF8 (.inr (Nat.zero_le _))).kept hF9 (.inr (Nat.zero_le _))).kept hF10 (.inl (by have := hF6.size; have := hF8.size; omega)))
          | (refine wpl_load_blkG hB10 row43 (by first | rw [siz43, HLEN2.out] | exact siz43) rfl rfl rfl ?_)
          | (refine wpl_buildG (parts := []) built43z rfl rfl rfl ?_)
          | (refine wpl_eql leaves43 (by omega) row43 eqg43 hlf2 hlf2 rfl rfl rfl rfl ?_; intro r hr; obtain rfl : r = true := hr.2 rfl; clear hr))
        go_ret
        have y6 := hF6.size
        have y8 := hF8.size
        exact ⟨by simp, (((((((hF1.trans hF2).trans hF3).trans hF4).trans hF5).on hF6 (by omega)).trans hF8).trans hF9).on hF10 (by omega)⟩
    · have hk : recChk k c = C := HC.out.symm
      have hBe : B.length = 0 := by rw [HBB.out, recB, if_neg (by rw [hk]; exact hz)]; rfl
      have HBE := Lib.hid hBe
      clear hBe hk hBl
      by_cases hz2 : C2 = 0
      · subst hz2
        obtain ⟨k2, d2, c2, hd2, e2, e3, e4⟩ := recB_recRead l HC2.out.symm
        obtain rfl : L2 = recL k2 d2 c2 := by rw [HL2.out, e2]
        have HCHK2 : Hid (0 = recChk k2 c2) := e3.symm
        have HB2 := Lib.hid e4
        clear e2 e3 e4
        go_enter Try.func5, Try.ntmps5
        have t1 := trivial
        have t2 := trivial
        have t3 := trivial
        have t4 := trivial
        go_wp2_with (first
          | (refine wpl_box (recL k d c) rfl rfl rfl rfl ?_; intro g w1 hB hF1 hg hs)
          | (go_at_call 17; refine c_alive12.mono ?_; rintro e w2 ⟨rfl, hF2⟩; have hB2 := hB.kept hF2 (.inr (Nat.zero_le _)))
          | (have _t := t1; refine wpl_load_blk hB2 row43 (by rw [siz43, recL_length _ _ _ hd]) rfl rfl rfl ?_)
          | (have _t := t1; go_at_call 18; refine (c_recBytes k d c hd).mono ?_; rintro e w3 ⟨v3, rfl, hO3, hF3⟩; rw [← HC.out]; rw [← HBB.out] at hO3; clear t1 _t; obtain ⟨a3, cap3, rfl⟩ : ∃ a3 cap3, v3 = .slice a3 0 cap3 := by (obtain ⟨x, y, e, _⟩ := hO3.rd.form; exact ⟨x, y, by rw [e, HBE.out]⟩))
          | (have _t := t2; go_at_call 19; refine (c_recRead hO3.rd (by rw [HBE.out]; omega)).mono ?_; rintro e w4 ⟨rfl, hF4⟩; rw [← HL1.out, ← HC1.out]; clear t2 _t)
          | (have _t := t3; refine wpl_alloc zer43 rfl rfl rfl ?_; intro g5 w5 hB5 hF5 hg5 hs5; clear t3 _t)
          | (have _t := hB5; refine wpl_store_blk hB5 (by rw [rec0_length, HLEN1.out]) (by rw [siz43, HLEN1.out]) hlf1.one rfl rfl rfl rfl ?_; intro w6 hB6 hF6; clear hB5 _t; have z1 := hF1.size; have z2 := hF2.size; have z3 := hF3.size; have z4 := hF4.size; have z5 := hF5.size; have h6 := (((((h.kept hF1 (.inr (Nat.zero_le _))).kept hF2 (.inr (Nat.zero_le _))).kept hF3 (.inr (Nat.zero_le _))).kept hF4 (.inr (Nat.zero_le _))).kept hF5 (.inr (Nat.zero_le _))).kept hF6 (.inl (by omega)); have hB7 := (((hB2.kept hF3 (.inr (Nat.zero_le _))).kept hF4 (.inr (Nat.zero_le _))).kept hF5 (.inr (Nat.zero_le _))).kept hF6 (.inl (by omega)))
          | (have _t := t4; refine wpl_load_blkG hB7 row43 (by rw [siz43, recL_length _ _ _ hd]) rfl rfl rfl ?_)
          | (have _t := t4; go_at_call 20; refine (c_recCheck k d c hd).mono ?_; rintro e w7 ⟨rfl, hF7⟩; rw [← HC.out]; clear t4 _t; have h7 := h6.kept hF7 (.inr (Nat.zero_le _)))
          | (go_at_call 19; refine (c_recRead h7 (by omega)).mono ?_; rintro e w8 ⟨rfl, hF8⟩; rw [← HL2.out, ← HC2.out])
          | (refine wpl_alloc zer43 rfl rfl rfl ?_; intro g9 w9 hB9 hF9 hg9 hs9)
          | (have _t := hB9; refine wpl_store_blk hB9 (by first | rfl | rw [rec0_length, HLEN2.out]) (by first | rw [siz43, HLEN2.out] | exact siz43) hlf2.one rfl rfl rfl rfl ?_; intro w10 hB10 hF10; clear hB9 _t; have h10 := ((h7.kept hF8 (.inr (Nat.zero_le _))).kept hF9 (.inr (Nat.zero_le _))).kept hF10 (.inl (by have := hF6.size; have := hF8.size; have := hF7.size; omega)))
          | (refine wpl_load_blk hB10 row43 (by first | rw [siz43, HLEN2.out] | exact siz43) rfl rfl rfl ?_)
          | (go_at_call 18; refine (c_recBytes k2 d2 c2 hd2).mono ?_; rintro e w11 ⟨v11, rfl, hO11, hF11⟩; rw [← HCHK2.out]; rw [HB2.out] at hO11; have h11 := h10.kept hF11 (.inr (Nat.zero_le _)))
          | (go_at_call 12; refine (c_Same hO11.rd h11).mono ?_; rintro e w12 ⟨rfl, rfl⟩; rw [beq_self_eq_true]))
        go_ret
        have y6 := hF6.size
        have y7 := hF7.size
        have y8 := hF8.size
        exact ⟨by simp, (((((((((hF1.trans hF2).trans hF3).trans hF4).trans hF5).on hF6 (by omega)).trans hF7).trans hF8).trans hF9).on hF10 (by omega)).trans hF11⟩
      · obtain rfl : L2 = rec0 := by rw [HL2.out]; exact recRead_bad l (by rw [← HC2.out]; exact hz2)
        go_enter Try.func5, Try.ntmps5
        have t1 := trivial
        have t2 := trivial
        have t3 := trivial
        have t4 := trivial
        go_wp2_with (first
          | (refine wpl_box (recL k d c) rfl rfl rfl rfl ?_; intro g w1 hB hF1 hg hs)
          | (go_at_call 17; refine c_alive12.mono ?_; rintro e w2 ⟨rfl, hF2⟩; have hB2 := hB.kept hF2 (.inr (Nat.zero_le _)))
          | (have _t := t1; refine wpl_load_blk hB2 row43 (by rw [siz43, recL_length _ _ _ hd]) rfl rfl rfl ?_)
          | (have _t := t1; go_at_call 18; refine (c_recBytes k d c hd).mono ?_; rintro e w3 ⟨v3, rfl, hO3, hF3⟩; rw [← HC.out]; rw [← HBB.out] at hO3; clear t1 _t; obtain ⟨a3, cap3, rfl⟩ : ∃ a3 cap3, v3 = .slice a3 0 cap3 := by (obtain ⟨x, y, e, _⟩ := hO3.rd.form; exact ⟨x, y, by rw [e, HBE.out]⟩))
          | (have _t := t2; go_at_call 19; refine (c_recRead hO3.rd (by rw [HBE.out]; omega)).mono ?_; rintro e w4 ⟨rfl, hF4⟩; rw [← HL1.out, ← HC1.out]; clear t2 _t)
          | (have _t := t3; refine wpl_alloc zer43 rfl rfl rfl ?_; intro g5 w5 hB5 hF5 hg5 hs5; clear t3 _t)
          | (have _t := hB5; refine wpl_store_blk hB5 (by rw [rec0_length, HLEN1.out]) (by rw [siz43, HLEN1.out]) hlf1.one rfl rfl rfl rfl ?_; intro w6 hB6 hF6; clear hB5 _t; have z1 := hF1.size; have z2 := hF2.size; have z3 := hF3.size; have z4 := hF4.size; have z5 := hF5.size; have h6 := (((((h.kept hF1 (.inr (Nat.zero_le _))).kept hF2 (.inr (Nat.zero_le _))).kept hF3 (.inr (Nat.zero_le _))).kept hF4 (.inr (Nat.zero_le _))).kept hF5 (.inr (Nat.zero_le _))).kept hF6 (.inl (by omega)); have hB7 := (((hB2.kept hF3 (.inr (Nat.zero_le _))).kept hF4 (.inr (Nat.zero_le _))).kept hF5 (.inr (Nat.zero_le _))).kept hF6 (.inl (by omega)))
          | (have _t := t4; refine wpl_load_blkG hB7 row43 (by rw [siz43, recL_length _ _ _ hd]) rfl rfl rfl ?_)
          | (have _t := t4; go_at_call 20; refine (c_recCheck k d c hd).mono ?_; rintro e w7 ⟨rfl, hF7⟩; rw [← HC.out]; clear t4 _t; have h7 := h6.kept hF7 (.inr (Nat.zero_le _)))
          | (go_at_call 19; refine (c_recRead h7 (by omega)).mono ?_; rintro e w8 ⟨rfl, hF8⟩; rw [← HL2.out, ← HC2.out])
          | (refine wpl_alloc zer43 rfl rfl rfl ?_; intro g9 w9 hB9 hF9 hg9 hs9)
          | (have _t := hB9; refine wpl_store_blk hB9 (by first | rfl | rw [rec0_length, HLEN2.out]) (by first | rw [siz43, HLEN2.out] | exact siz43) hlf2.one rfl rfl rfl rfl ?_; intro w10 hB10 hF10; clear hB9 _t; have h10 := ((h7.kept hF8 (.inr (Nat.zero_le _))).kept hF9 (.inr (Nat.zero_le _))).kept hF10 (.inl (by have := hF6.size; have := hF8.size; have := hF7.size; omega)))
          | (refine wpl_load_blkG hB10 row43 (by first | rw [siz43, HLEN2.out] | exact siz43) rfl rfl rfl ?_)
          | (refine wpl_buildG (parts := []) built43z rfl rfl rfl ?_)
          | (refine wpl_eql leaves43 (by omega) row43 eqg43 hlf2 hlf2 rfl rfl rfl rfl ?_; intro r hr; obtain rfl : r = true := hr.2 rfl; clear hr))
        go_ret
        have y6 := hF6.size
        have y7 := hF7.size
        have y8 := hF8.size
        exact ⟨by simp, ((((((((hF1.trans hF2).trans hF3).trans hF4).trans hF5).on hF6 (by omega)).trans hF7).trans hF8).trans hF9).on hF10 (by omega)⟩

end Go.Proofs.Ytgndidjfjdaagaa
