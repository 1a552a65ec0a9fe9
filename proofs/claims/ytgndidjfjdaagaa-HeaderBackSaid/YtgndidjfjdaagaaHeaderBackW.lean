/-
  The walk of the law HeaderBack.
-/
import Derived.Test.YtgndidjfjdaagaaHead3
import Derived.Test.YtgndidjfjdaagaaHeaderReadsW
set_option linter.unusedSimpArgs false
set_option linter.unusedVariables false
namespace Go.Proofs.Ytgndidjfjdaagaa
open Go.RowKit

theorem hdrChk_range {h m : Int} (hc : hdrChk h m = 0) : 0 ≤ h ∧ h ≤ 1073741824 ∧ 0 ≤ m ∧ m ≤ 256 := by
  unfold hdrChk at hc
  split at hc
  · omega
  · omega

theorem hdrB_length (h : Int) (p s r : List UInt8) (m : Int) (hp : p.length = 32) (hs : s.length = 32) (hr : r.length = 32) (hc : hdrChk h m = 0) : (hdrB h p s r m).length = 108 := by
  rw [hdrB, if_pos hc]
  simp [hp, hs, hr, beB_length]

theorem hdrRead_hdrB (h : Int) (p s r : List UInt8) (m : Int) (hp : p.length = 32) (hs : s.length = 32) (hr : r.length = 32) (hc : hdrChk h m = 0) : hdrRead (hdrB h p s r m) = (hdrL h p s r m, 0) := by
  have hg := hdrChk_range hc
  obtain ⟨n, rfl⟩ := Int.eq_ofNat_of_zero_le hg.1
  obtain ⟨k, rfl⟩ := Int.eq_ofNat_of_zero_le hg.2.2.1
  have hl := hdrB_length n p s r k hp hs hr hc
  have hb : hdrB n p s r k = beB 8 n ++ (p ++ (s ++ (r ++ beB 4 k))) := by rw [hdrB, if_pos hc]; rfl
  have l8 : (beB 8 n).length = 8 := beB_length _ _
  have h0 : (hdrB n p s r k).take 8 = beB 8 n := by rw [hb, List.take_append_of_le_length (by omega), List.take_of_length_le (by omega)]
  have d8 : (hdrB n p s r k).drop 8 = p ++ (s ++ (r ++ beB 4 k)) := by rw [hb, List.drop_append_of_le_length (by omega), List.drop_eq_nil_of_le (by omega)]; rfl
  have d40 : (hdrB n p s r k).drop 40 = s ++ (r ++ beB 4 k) := by
    rw [show 40 = 8 + 32 by omega, ← List.drop_drop, d8, List.drop_append_of_le_length (by omega), List.drop_eq_nil_of_le (by omega)]; rfl
  have d72 : (hdrB n p s r k).drop 72 = r ++ beB 4 k := by
    rw [show 72 = 40 + 32 by omega, ← List.drop_drop, d40, List.drop_append_of_le_length (by omega), List.drop_eq_nil_of_le (by omega)]; rfl
  have d104 : (hdrB n p s r k).drop 104 = beB 4 k := by
    rw [show 104 = 72 + 32 by omega, ← List.drop_drop, d72, List.drop_append_of_le_length (by omega), List.drop_eq_nil_of_le (by omega)]; rfl
  have t1 : ((hdrB n p s r k).drop 8).take 32 = p := by rw [d8, List.take_append_of_le_length (by omega), List.take_of_length_le (by omega)]
  have t2 : ((hdrB n p s r k).drop 40).take 32 = s := by rw [d40, List.take_append_of_le_length (by omega), List.take_of_length_le (by omega)]
  have t3 : ((hdrB n p s r k).drop 72).take 32 = r := by rw [d72, List.take_append_of_le_length (by omega), List.take_of_length_le (by omega)]
  have n1 : beN (beB 8 n) = n := by rw [beN_beB]; omega
  have n2 : beN (beB 4 k) = k := by rw [beN_beB]; omega
  rw [hdrRead, if_neg (by omega), if_neg (by omega), h0, t1, t2, t3, d104, n1, n2, if_neg (by omega)]

/-- What Read reads without an error is what Bytes writes. -/
theorem hdrB_hdrRead (l : List UInt8) (h : (hdrRead l).2 = 0) : ∃ k p s r m, p.length = 32 ∧ s.length = 32 ∧ r.length = 32 ∧ (hdrRead l) = (hdrL k p s r m, 0) ∧ hdrChk k m = 0 ∧ hdrB k p s r m = l := by
  unfold hdrRead at h
  split at h
  · simp at h
  · split at h
    · simp at h
    · split at h
      · simp at h
      · rename_i h1 h2 h3
        have hl : l.length = 108 := by omega
        have hc : hdrChk (beN (l.take 8)) (beN (l.drop 104)) = 0 := by rw [hdrChk, if_neg (by omega)]
        refine ⟨_, (l.drop 8).take 32, (l.drop 40).take 32, (l.drop 72).take 32, _, by simp [hl], by simp [hl], by simp [hl], by rw [hdrRead, if_neg h1, if_neg h2, if_neg h3], hc, ?_⟩
        rw [hdrB, if_pos hc]
        have b8 := beB_beN (l.take 8)
        rw [List.length_take, hl, Nat.min_eq_left (by omega)] at b8
        have b4 := beB_beN (l.drop 104)
        rw [List.length_drop, hl] at b4
        rw [show ((beN (l.take 8) : Nat) : Int).toNat = beN (l.take 8) from rfl, show ((beN (l.drop 104) : Nat) : Int).toNat = beN (l.drop 104) from rfl, b8, b4]
        have e3 : (l.drop 72).take 32 ++ l.drop 104 = l.drop 72 := by rw [show 104 = 72 + 32 by omega, ← List.drop_drop, List.take_append_drop]
        have e2 : (l.drop 40).take 32 ++ l.drop 72 = l.drop 40 := by rw [show 72 = 40 + 32 by omega, ← List.drop_drop, List.take_append_drop]
        have e1 : (l.drop 8).take 32 ++ l.drop 40 = l.drop 8 := by rw [show 40 = 8 + 32 by omega, ← List.drop_drop, List.take_append_drop]
        rw [e3, e2, e1, List.take_append_drop]

theorem hdrRead_bad (l : List UInt8) (h : (hdrRead l).2 ≠ 0) : (hdrRead l).1 = hdr0 := by
  unfold hdrRead at h ⊢
  split at h
  · rename_i h1; rw [if_pos h1]
  · rename_i h1
    rw [if_neg h1]
    split at h
    · rename_i h2; rw [if_pos h2]
    · rename_i h2
      rw [if_neg h2]
      split at h
      · rename_i h3; rw [if_pos h3]
      · exact absurd rfl h

theorem built27c : Try.prog.built 27 [(0, .int .i64 258), (4, .int .i64 3)] = some (hdrL 258 (List.replicate 32 0) (List.replicate 32 0) (List.replicate 32 0) 3).toArray := by kernel_rfl
theorem built27z : Try.prog.built 27 [] = some hdr0.toArray := by kernel_rfl
theorem hdrB_alive : hdrB 258 (List.replicate 32 0) (List.replicate 32 0) (List.replicate 32 0) 3 = ((((List.replicate 108 (0 : UInt8)).set 6 1).set 7 2).set 107 3) := by decide +kernel

set_option maxHeartbeats 1000000 in
theorem c_alive14 {w : World} : Calls Try.prog 24 #[] w fun e w' => e = .returned (.bool true) ∧ Fr 0 0 w w' := by
  obtain ⟨c, hc⟩ : ∃ c, c = hdrChk 258 3 := ⟨_, rfl⟩
  obtain rfl : c = 0 := by rw [hc]; decide
  have HC := Lib.hid hc
  clear hc
  go_enter Try.func24, Try.ntmps24
  have t1 := trivial
  have t2 := trivial
  go_wp2_with (first
    | (refine wpl_build (parts := [(0, _), (4, _)]) built27c rfl rfl rfl ?_)
    | (go_at_call 25; refine (c_hdrBytes 258 (List.replicate 32 0) (List.replicate 32 0) (List.replicate 32 0) 3 (by simp) (by simp) (by simp)).mono ?_; rintro e w1 ⟨v1, rfl, hO1, hF1⟩; rw [← HC.out])
    | (refine wpl_make (n := 108) und22 inf5 rfl rfl rfl rfl (by omega) (by omega) (by omega) ?_; intro g w2 hB2 hF2 hg hs)
    | (have _t := t1; refine wpl_store_cell (off := 6) (v := ub 1) hB2 (by simp) siz5' rfl rfl rfl rfl rfl rfl ?_; intro w3 hB3 hF3; clear t1 _t hB2)
    | (have _t := t2; refine wpl_store_cell (off := 7) (v := ub 2) hB3 (by simp) siz5' rfl rfl rfl rfl rfl rfl ?_; intro w4 hB4 hF4; clear t2 _t hB3)
    | (refine wpl_store_cell (off := 107) (v := ub 3) hB4 (by simp) siz5' rfl rfl rfl rfl rfl rfl ?_; intro w5 hB5 hF5; clear hB4; have hB5' : Blk w5 g (((((List.replicate 108 (0 : UInt8)).set 6 1).set 7 2).set 107 3).map ub) 5 := hB5; have z1 := hF1.size; have z2 := hF2.size; have hO4 := (((hO1.kept hF2 (.inr (Nat.zero_le _))).kept hF3 (.inl hg)).kept hF4 (.inl hg)).kept hF5 (.inl hg))
    | (go_at_call 12; refine (c_Same hO4 (OwB.of_blk (lo := g) (hi := g + 1) (n := 108) hB5' (by simp) (Nat.le_refl _) (by omega) (by omega)).rd).mono ?_; rintro e w5 ⟨rfl, rfl⟩; rw [hdrB_alive, beq_self_eq_true]))
  go_ret
  exact ⟨rfl, (((hF1.trans hF2).on hF3 (by omega)).on hF4 (by omega)).on hF5 (by omega)⟩

set_option maxHeartbeats 1000000 in
theorem w_HeaderBack {w : World} {v : Value} {l : List UInt8} (h0 : Int) (p s r : List UInt8) (m : Int) (hp : p.length = 32) (hs : s.length = 32) (hr : r.length = 32) (h : RdB w 0 w.heap.size v l) :
    Calls Try.prog 7 #[.agg (hdrL h0 p s r m).toArray, v] w fun e w' => e = .returned (.bool true) ∧ Fr 0 0 w w' := by
  obtain ⟨a, cap, rfl, hc1, hc2, hc3⟩ := h.form
  by_cases hl : 300 < l.length
  · go_enter Try.func7, Try.ntmps7
    go_wp2_with (first
      | (refine wpl_box (hdrL h0 p s r m) rfl rfl rfl rfl ?_; intro g w1 hB hF1 hg hgs)
      | (go_at_call 24; refine c_alive14.mono ?_; rintro e w2 ⟨rfl, hF2⟩))
    go_ret
    exact ⟨rfl, hF1.trans hF2⟩
  · obtain ⟨C, hC⟩ : ∃ C, C = hdrChk h0 m := ⟨_, rfl⟩
    obtain ⟨B, hBB⟩ : ∃ B, B = hdrB h0 p s r m := ⟨_, rfl⟩
    obtain ⟨L1, hL1⟩ : ∃ L, L = (hdrRead B).1 := ⟨_, rfl⟩
    obtain ⟨C1, hC1⟩ : ∃ C, C = (hdrRead B).2 := ⟨_, rfl⟩
    obtain ⟨L2, hL2⟩ : ∃ L, L = (hdrRead l).1 := ⟨_, rfl⟩
    obtain ⟨C2, hC2⟩ : ∃ C, C = (hdrRead l).2 := ⟨_, rfl⟩
    have HC := Lib.hid hC
    have HBB := Lib.hid hBB
    have HL1 := Lib.hid hL1
    have HC1 := Lib.hid hC1
    have HL2 := Lib.hid hL2
    have HC2 := Lib.hid hC2
    have hlf1 : LF lfH L1 := by rw [hL1]; exact lfH_hdrRead B
    have hlf2 : LF lfH L2 := by rw [hL2]; exact lfH_hdrRead l
    have hlen1 : L1.length = 98 := by rw [hlf1.length]; rfl
    have hlen2 : L2.length = 98 := by rw [hlf2.length]; rfl
    have HLEN1 := Lib.hid hlen1
    have HLEN2 := Lib.hid hlen2
    have hBl : B.length ≤ 108 := by
      rw [hBB]
      by_cases hk : hdrChk h0 m = 0
      · rw [hdrB_length h0 p s r m hp hs hr hk]; omega
      · rw [hdrB, if_neg hk]; simp
    clear hC hBB hL1 hC1 hL2 hC2 hlen1 hlen2
    by_cases hz : C = 0
    · subst hz
      have hk : hdrChk h0 m = 0 := HC.out.symm
      have hBe : B.length = 108 := by rw [HBB.out]; exact hdrB_length h0 p s r m hp hs hr hk
      obtain rfl : C1 = 0 := by rw [HC1.out, HBB.out, hdrRead_hdrB h0 p s r m hp hs hr hk]
      obtain rfl : L1 = hdrL h0 p s r m := by rw [HL1.out, HBB.out, hdrRead_hdrB h0 p s r m hp hs hr hk]
      have HBE := Lib.hid hBe
      clear hBe hk hBl
      by_cases hz2 : C2 = 0
      · subst hz2
        obtain ⟨k2, p2, s2, r2, m2, hp2, hs2, hr2, e2, e3, e4⟩ := hdrB_hdrRead l HC2.out.symm
        obtain rfl : L2 = hdrL k2 p2 s2 r2 m2 := by rw [HL2.out, e2]
        have HCHK2 : Hid (0 = hdrChk k2 m2) := e3.symm
        have HB2 := Lib.hid e4
        clear e2 e3 e4
        go_enter Try.func7, Try.ntmps7
        have t1 := trivial
        have t2 := trivial
        have t3 := trivial
        go_wp2_with (first
          | (refine wpl_box (hdrL h0 p s r m) rfl rfl rfl rfl ?_; intro g w1 hB hF1 hg hgs)
          | (go_at_call 24; refine c_alive14.mono ?_; rintro e w2 ⟨rfl, hF2⟩; have hB2 := hB.kept hF2 (.inr (Nat.zero_le _)))
          | (have _t := t1; refine wpl_load_blk hB2 row27 (by rw [siz27, hdrL_length _ _ _ _ _ hp hs hr]) rfl rfl rfl ?_)
          | (have _t := t1; go_at_call 25; refine (c_hdrBytes h0 p s r m hp hs hr).mono ?_; rintro e w3 ⟨v3, rfl, hO3, hF3⟩; rw [← HC.out]; rw [← HBB.out] at hO3; clear t1 _t; obtain ⟨a3, cap3, rfl⟩ : ∃ a3 cap3, v3 = .slice a3 108 cap3 := by (obtain ⟨x, y, e, _⟩ := hO3.form; exact ⟨x, y, by rw [e, HBE.out]⟩))
          | (have _t := t2; go_at_call 10; refine (c_hdrRead hO3 (by rw [HBE.out]; omega)).mono ?_; rintro e w4 ⟨rfl, hF4⟩; rw [← HL1.out, ← HC1.out]; clear t2 _t)
          | (have _t := t3; refine wpl_alloc zer27 rfl rfl rfl ?_; intro g5 w5 hB5 hF5 hg5 hs5; clear t3 _t)
          | (have _t := hB5; refine wpl_store_blk hB5 (by rw [hdr0_length, HLEN1.out]) (by rw [siz27, HLEN1.out]) hlf1.one rfl rfl rfl rfl ?_; intro w6 hB6 hF6; clear hB5 _t; have z1 := hF1.size; have z2 := hF2.size; have z3 := hF3.size; have z4 := hF4.size; have z5 := hF5.size; have h6 := (((((h.kept hF1 (.inr (Nat.zero_le _))).kept hF2 (.inr (Nat.zero_le _))).kept hF3 (.inr (Nat.zero_le _))).kept hF4 (.inr (Nat.zero_le _))).kept hF5 (.inr (Nat.zero_le _))).kept hF6 (.inl (by omega)); have hB7 := (((hB2.kept hF3 (.inr (Nat.zero_le _))).kept hF4 (.inr (Nat.zero_le _))).kept hF5 (.inr (Nat.zero_le _))).kept hF6 (.inl (by omega)))
          | (refine wpl_load_blkG hB6 row27 (by rw [siz27, HLEN1.out]) rfl rfl rfl ?_)
          | (refine wpl_load_blkG hB7 row27 (by rw [siz27, HLEN1.out]) rfl rfl rfl ?_)
          | (refine wpl_neq leaves27 (by omega) row27 eqg27 hlf1 hlf1 rfl rfl rfl rfl ?_; intro q hq; obtain rfl : q = true := hq.2 rfl; clear hq)
          | (go_at_call 10; refine (c_hdrRead h6 (by omega)).mono ?_; rintro e w8 ⟨rfl, hF8⟩; rw [← HL2.out, ← HC2.out])
          | (refine wpl_alloc zer27 rfl rfl rfl ?_; intro g9 w9 hB9 hF9 hg9 hs9)
          | (have _t := hB9; refine wpl_store_blk hB9 (by first | rfl | rw [hdr0_length, HLEN2.out]) (by first | rw [siz27, HLEN2.out] | exact siz27) hlf2.one rfl rfl rfl rfl ?_; intro w10 hB10 hF10; clear hB9 _t; have h10 := ((h6.kept hF8 (.inr (Nat.zero_le _))).kept hF9 (.inr (Nat.zero_le _))).kept hF10 (.inl (by have := hF6.size; have := hF8.size; omega)))
          | (refine wpl_load_blk hB10 row27 (by first | rw [siz27, HLEN2.out] | exact siz27) rfl rfl rfl ?_)
          | (go_at_call 25; refine (c_hdrBytes k2 p2 s2 r2 m2 hp2 hs2 hr2).mono ?_; rintro e w11 ⟨v11, rfl, hO11, hF11⟩; rw [← HCHK2.out]; rw [HB2.out] at hO11; have h11 := h10.kept hF11 (.inr (Nat.zero_le _)))
          | (go_at_call 12; refine (c_Same hO11 h11).mono ?_; rintro e w12 ⟨rfl, rfl⟩; rw [beq_self_eq_true]))
        go_ret
        have y6 := hF6.size
        have y8 := hF8.size
        exact ⟨by simp, ((((((((hF1.trans hF2).trans hF3).trans hF4).trans hF5).on hF6 (by omega)).trans hF8).trans hF9).on hF10 (by omega)).trans hF11⟩
      · obtain rfl : L2 = hdr0 := by rw [HL2.out]; exact hdrRead_bad l (by rw [← HC2.out]; exact hz2)
        go_enter Try.func7, Try.ntmps7
        have t1 := trivial
        have t2 := trivial
        have t3 := trivial
        go_wp2_with (first
          | (refine wpl_box (hdrL h0 p s r m) rfl rfl rfl rfl ?_; intro g w1 hB hF1 hg hgs)
          | (go_at_call 24; refine c_alive14.mono ?_; rintro e w2 ⟨rfl, hF2⟩; have hB2 := hB.kept hF2 (.inr (Nat.zero_le _)))
          | (have _t := t1; refine wpl_load_blk hB2 row27 (by rw [siz27, hdrL_length _ _ _ _ _ hp hs hr]) rfl rfl rfl ?_)
          | (have _t := t1; go_at_call 25; refine (c_hdrBytes h0 p s r m hp hs hr).mono ?_; rintro e w3 ⟨v3, rfl, hO3, hF3⟩; rw [← HC.out]; rw [← HBB.out] at hO3; clear t1 _t; obtain ⟨a3, cap3, rfl⟩ : ∃ a3 cap3, v3 = .slice a3 108 cap3 := by (obtain ⟨x, y, e, _⟩ := hO3.form; exact ⟨x, y, by rw [e, HBE.out]⟩))
          | (have _t := t2; go_at_call 10; refine (c_hdrRead hO3 (by rw [HBE.out]; omega)).mono ?_; rintro e w4 ⟨rfl, hF4⟩; rw [← HL1.out, ← HC1.out]; clear t2 _t)
          | (have _t := t3; refine wpl_alloc zer27 rfl rfl rfl ?_; intro g5 w5 hB5 hF5 hg5 hs5; clear t3 _t)
          | (have _t := hB5; refine wpl_store_blk hB5 (by rw [hdr0_length, HLEN1.out]) (by rw [siz27, HLEN1.out]) hlf1.one rfl rfl rfl rfl ?_; intro w6 hB6 hF6; clear hB5 _t; have z1 := hF1.size; have z2 := hF2.size; have z3 := hF3.size; have z4 := hF4.size; have z5 := hF5.size; have h6 := (((((h.kept hF1 (.inr (Nat.zero_le _))).kept hF2 (.inr (Nat.zero_le _))).kept hF3 (.inr (Nat.zero_le _))).kept hF4 (.inr (Nat.zero_le _))).kept hF5 (.inr (Nat.zero_le _))).kept hF6 (.inl (by omega)); have hB7 := (((hB2.kept hF3 (.inr (Nat.zero_le _))).kept hF4 (.inr (Nat.zero_le _))).kept hF5 (.inr (Nat.zero_le _))).kept hF6 (.inl (by omega)))
          | (refine wpl_load_blkG hB6 row27 (by rw [siz27, HLEN1.out]) rfl rfl rfl ?_)
          | (refine wpl_load_blkG hB7 row27 (by rw [siz27, HLEN1.out]) rfl rfl rfl ?_)
          | (refine wpl_neq leaves27 (by omega) row27 eqg27 hlf1 hlf1 rfl rfl rfl rfl ?_; intro q hq; obtain rfl : q = true := hq.2 rfl; clear hq)
          | (go_at_call 10; refine (c_hdrRead h6 (by omega)).mono ?_; rintro e w8 ⟨rfl, hF8⟩; rw [← HL2.out, ← HC2.out])
          | (refine wpl_alloc zer27 rfl rfl rfl ?_; intro g9 w9 hB9 hF9 hg9 hs9)
          | (have _t := hB9; refine wpl_store_blk hB9 (by first | rfl | rw [hdr0_length, HLEN2.out]) (by first | rw [siz27, HLEN2.out] | exact siz27) hlf2.one rfl rfl rfl rfl ?_; intro w10 hB10 hF10; clear hB9 _t; have h10 := ((h6.kept hF8 (.inr (Nat.zero_le _))).kept hF9 (.inr (Nat.zero_le _))).kept hF10 (.inl (by have := hF6.size; have := hF8.size; omega)))
          | (refine wpl_load_blkG hB10 row27 (by first | rw [siz27, HLEN2.out] | exact siz27) rfl rfl rfl ?_)
          | (refine wpl_buildG (parts := []) built27z rfl rfl rfl ?_)
          | (refine wpl_eql leaves27 (by omega) row27 eqg27 hlf2 hlf2 rfl rfl rfl rfl ?_; intro q hq; obtain rfl : q = true := hq.2 rfl; clear hq))
        go_ret
        have y6 := hF6.size
        have y8 := hF8.size
        exact ⟨by simp, (((((((hF1.trans hF2).trans hF3).trans hF4).trans hF5).on hF6 (by omega)).trans hF8).trans hF9).on hF10 (by omega)⟩
    · have hk : hdrChk h0 m = C := HC.out.symm
      have hBe : B.length = 0 := by rw [HBB.out, hdrB, if_neg (by rw [hk]; exact hz)]; rfl
      have HBE := Lib.hid hBe
      clear hBe hk hBl
      by_cases hz2 : C2 = 0
      · subst hz2
        obtain ⟨k2, p2, s2, r2, m2, hp2, hs2, hr2, e2, e3, e4⟩ := hdrB_hdrRead l HC2.out.symm
        obtain rfl : L2 = hdrL k2 p2 s2 r2 m2 := by rw [HL2.out, e2]
        have HCHK2 : Hid (0 = hdrChk k2 m2) := e3.symm
        have HB2 := Lib.hid e4
        clear e2 e3 e4
        go_enter Try.func7, Try.ntmps7
        have t1 := trivial
        have t2 := trivial
        have t3 := trivial
        have t4 := trivial
        go_wp2_with (first
          | (refine wpl_box (hdrL h0 p s r m) rfl rfl rfl rfl ?_; intro g w1 hB hF1 hg hgs)
          | (go_at_call 24; refine c_alive14.mono ?_; rintro e w2 ⟨rfl, hF2⟩; have hB2 := hB.kept hF2 (.inr (Nat.zero_le _)))
          | (have _t := t1; refine wpl_load_blk hB2 row27 (by rw [siz27, hdrL_length _ _ _ _ _ hp hs hr]) rfl rfl rfl ?_)
          | (have _t := t1; go_at_call 25; refine (c_hdrBytes h0 p s r m hp hs hr).mono ?_; rintro e w3 ⟨v3, rfl, hO3, hF3⟩; rw [← HC.out]; rw [← HBB.out] at hO3; clear t1 _t; obtain ⟨a3, cap3, rfl⟩ : ∃ a3 cap3, v3 = .slice a3 0 cap3 := by (obtain ⟨x, y, e, _⟩ := hO3.form; exact ⟨x, y, by rw [e, HBE.out]⟩))
          | (have _t := t2; go_at_call 10; refine (c_hdrRead hO3 (by rw [HBE.out]; omega)).mono ?_; rintro e w4 ⟨rfl, hF4⟩; rw [← HL1.out, ← HC1.out]; clear t2 _t)
          | (have _t := t3; refine wpl_alloc zer27 rfl rfl rfl ?_; intro g5 w5 hB5 hF5 hg5 hs5; clear t3 _t)
          | (have _t := hB5; refine wpl_store_blk hB5 (by rw [hdr0_length, HLEN1.out]) (by rw [siz27, HLEN1.out]) hlf1.one rfl rfl rfl rfl ?_; intro w6 hB6 hF6; clear hB5 _t; have z1 := hF1.size; have z2 := hF2.size; have z3 := hF3.size; have z4 := hF4.size; have z5 := hF5.size; have h6 := (((((h.kept hF1 (.inr (Nat.zero_le _))).kept hF2 (.inr (Nat.zero_le _))).kept hF3 (.inr (Nat.zero_le _))).kept hF4 (.inr (Nat.zero_le _))).kept hF5 (.inr (Nat.zero_le _))).kept hF6 (.inl (by omega)); have hB7 := (((hB2.kept hF3 (.inr (Nat.zero_le _))).kept hF4 (.inr (Nat.zero_le _))).kept hF5 (.inr (Nat.zero_le _))).kept hF6 (.inl (by omega)))
          | (have _t := t4; refine wpl_load_blkG hB7 row27 (by rw [siz27, hdrL_length _ _ _ _ _ hp hs hr]) rfl rfl rfl ?_)
          | (have _t := t4; go_at_call 26; refine (c_hdrCheck h0 p s r m hp hs hr).mono ?_; rintro e w7 ⟨rfl, hF7⟩; rw [← HC.out]; clear t4 _t; have h7 := h6.kept hF7 (.inr (Nat.zero_le _)))
          | (go_at_call 10; refine (c_hdrRead h7 (by omega)).mono ?_; rintro e w8 ⟨rfl, hF8⟩; rw [← HL2.out, ← HC2.out])
          | (refine wpl_alloc zer27 rfl rfl rfl ?_; intro g9 w9 hB9 hF9 hg9 hs9)
          | (have _t := hB9; refine wpl_store_blk hB9 (by first | rfl | rw [hdr0_length, HLEN2.out]) (by first | rw [siz27, HLEN2.out] | exact siz27) hlf2.one rfl rfl rfl rfl ?_; intro w10 hB10 hF10; clear hB9 _t; have h10 := ((h7.kept hF8 (.inr (Nat.zero_le _))).kept hF9 (.inr (Nat.zero_le _))).kept hF10 (.inl (by have := hF6.size; have := hF8.size; have := hF7.size; omega)))
          | (refine wpl_load_blk hB10 row27 (by first | rw [siz27, HLEN2.out] | exact siz27) rfl rfl rfl ?_)
          | (go_at_call 25; refine (c_hdrBytes k2 p2 s2 r2 m2 hp2 hs2 hr2).mono ?_; rintro e w11 ⟨v11, rfl, hO11, hF11⟩; rw [← HCHK2.out]; rw [HB2.out] at hO11; have h11 := h10.kept hF11 (.inr (Nat.zero_le _)))
          | (go_at_call 12; refine (c_Same hO11 h11).mono ?_; rintro e w12 ⟨rfl, rfl⟩; rw [beq_self_eq_true]))
        go_ret
        have y6 := hF6.size
        have y7 := hF7.size
        have y8 := hF8.size
        exact ⟨by simp, (((((((((hF1.trans hF2).trans hF3).trans hF4).trans hF5).on hF6 (by omega)).trans hF7).trans hF8).trans hF9).on hF10 (by omega)).trans hF11⟩
      · obtain rfl : L2 = hdr0 := by rw [HL2.out]; exact hdrRead_bad l (by rw [← HC2.out]; exact hz2)
        go_enter Try.func7, Try.ntmps7
        have t1 := trivial
        have t2 := trivial
        have t3 := trivial
        have t4 := trivial
        go_wp2_with (first
          | (refine wpl_box (hdrL h0 p s r m) rfl rfl rfl rfl ?_; intro g w1 hB hF1 hg hgs)
          | (go_at_call 24; refine c_alive14.mono ?_; rintro e w2 ⟨rfl, hF2⟩; have hB2 := hB.kept hF2 (.inr (Nat.zero_le _)))
          | (have _t := t1; refine wpl_load_blk hB2 row27 (by rw [siz27, hdrL_length _ _ _ _ _ hp hs hr]) rfl rfl rfl ?_)
          | (have _t := t1; go_at_call 25; refine (c_hdrBytes h0 p s r m hp hs hr).mono ?_; rintro e w3 ⟨v3, rfl, hO3, hF3⟩; rw [← HC.out]; rw [← HBB.out] at hO3; clear t1 _t; obtain ⟨a3, cap3, rfl⟩ : ∃ a3 cap3, v3 = .slice a3 0 cap3 := by (obtain ⟨x, y, e, _⟩ := hO3.form; exact ⟨x, y, by rw [e, HBE.out]⟩))
          | (have _t := t2; go_at_call 10; refine (c_hdrRead hO3 (by rw [HBE.out]; omega)).mono ?_; rintro e w4 ⟨rfl, hF4⟩; rw [← HL1.out, ← HC1.out]; clear t2 _t)
          | (have _t := t3; refine wpl_alloc zer27 rfl rfl rfl ?_; intro g5 w5 hB5 hF5 hg5 hs5; clear t3 _t)
          | (have _t := hB5; refine wpl_store_blk hB5 (by rw [hdr0_length, HLEN1.out]) (by rw [siz27, HLEN1.out]) hlf1.one rfl rfl rfl rfl ?_; intro w6 hB6 hF6; clear hB5 _t; have z1 := hF1.size; have z2 := hF2.size; have z3 := hF3.size; have z4 := hF4.size; have z5 := hF5.size; have h6 := (((((h.kept hF1 (.inr (Nat.zero_le _))).kept hF2 (.inr (Nat.zero_le _))).kept hF3 (.inr (Nat.zero_le _))).kept hF4 (.inr (Nat.zero_le _))).kept hF5 (.inr (Nat.zero_le _))).kept hF6 (.inl (by omega)); have hB7 := (((hB2.kept hF3 (.inr (Nat.zero_le _))).kept hF4 (.inr (Nat.zero_le _))).kept hF5 (.inr (Nat.zero_le _))).kept hF6 (.inl (by omega)))
          | (have _t := t4; refine wpl_load_blkG hB7 row27 (by rw [siz27, hdrL_length _ _ _ _ _ hp hs hr]) rfl rfl rfl ?_)
          | (have _t := t4; go_at_call 26; refine (c_hdrCheck h0 p s r m hp hs hr).mono ?_; rintro e w7 ⟨rfl, hF7⟩; rw [← HC.out]; clear t4 _t; have h7 := h6.kept hF7 (.inr (Nat.zero_le _)))
          | (go_at_call 10; refine (c_hdrRead h7 (by omega)).mono ?_; rintro e w8 ⟨rfl, hF8⟩; rw [← HL2.out, ← HC2.out])
          | (refine wpl_alloc zer27 rfl rfl rfl ?_; intro g9 w9 hB9 hF9 hg9 hs9)
          | (have _t := hB9; refine wpl_store_blk hB9 (by first | rfl | rw [hdr0_length, HLEN2.out]) (by first | rw [siz27, HLEN2.out] | exact siz27) hlf2.one rfl rfl rfl rfl ?_; intro w10 hB10 hF10; clear hB9 _t; have h10 := ((h7.kept hF8 (.inr (Nat.zero_le _))).kept hF9 (.inr (Nat.zero_le _))).kept hF10 (.inl (by have := hF6.size; have := hF8.size; have := hF7.size; omega)))
          | (refine wpl_load_blkG hB10 row27 (by first | rw [siz27, HLEN2.out] | exact siz27) rfl rfl rfl ?_)
          | (refine wpl_buildG (parts := []) built27z rfl rfl rfl ?_)
          | (refine wpl_eql leaves27 (by omega) row27 eqg27 hlf2 hlf2 rfl rfl rfl rfl ?_; intro q hq; obtain rfl : q = true := hq.2 rfl; clear hq))
        go_ret
        have y6 := hF6.size
        have y7 := hF7.size
        have y8 := hF8.size
        exact ⟨by simp, ((((((((hF1.trans hF2).trans hF3).trans hF4).trans hF5).on hF6 (by omega)).trans hF7).trans hF8).trans hF9).on hF10 (by omega)⟩

end Go.Proofs.Ytgndidjfjdaagaa
