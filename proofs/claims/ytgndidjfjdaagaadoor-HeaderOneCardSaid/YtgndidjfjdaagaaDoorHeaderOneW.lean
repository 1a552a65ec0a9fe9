/-
  The walk of the law HeaderOne.
-/
import Derived.Test.YtgndidjfjdaagaaDoorTagOf
set_option linter.unusedSimpArgs false
set_option linter.unusedVariables false
namespace Go.Proofs.YtgndidjfjdaagaaDoor
open Go.RowKit

theorem tagB_inj1 {k : UInt8} {a b : List UInt8} (hl : a.length = b.length) (h : tagB k [a] = tagB k [b]) : a = b := by
  simp only [tagB, tagT, List.map_cons, List.map_nil, List.flatten_cons, List.flatten_nil, List.append_nil, List.cons.injEq, true_and, hl] at h
  exact List.append_cancel_left h

set_option maxHeartbeats 2000000 in
theorem w_HeaderOne {w : World} (h : Int) (p s r : List UInt8) (m : Int) (hp : p.length = 32) (hs : s.length = 32) (hr : r.length = 32)
    (h1 : Int) (p1 s1 r1 : List UInt8) (m1 : Int) (hp1 : p1.length = 32) (hs1 : s1.length = 32) (hr1 : r1.length = 32)
    (h2 : Int) (p2 s2 r2 : List UInt8) (m2 : Int) (hp2 : p2.length = 32) (hs2 : s2.length = 32) (hr2 : r2.length = 32) (hk : KT w) :
    Calls Tryd.prog 11 #[.agg (hdrL h p s r m).toArray, .agg (hdrL h1 p1 s1 r1 m1).toArray, .agg (hdrL h2 p2 s2 r2 m2).toArray] w fun e w' => e = .returned (.bool true) ∧ Fr 0 0 w w' := by
  have t1 := trivial
  have t2 := trivial
  have t3 := trivial
  have t4 := trivial
  have t5 := trivial
  have t6 := trivial
  by_cases hf1 : fol h p m h1 p1 s1 r1 m1
  · have HF1 := Lib.hid hf1
    by_cases hf2 : fol h p m h2 p2 s2 r2 m2
    · have HF2 := Lib.hid hf2
      by_cases hab : hdrL h1 p1 s1 r1 m1 = hdrL h2 p2 s2 r2 m2
      · have HAB := Lib.hid hab
        clear hab hf1 hf2
        go_enter Tryd.func11, Tryd.ntmps11
        go_wp2_with (first
      | (have _t := t1; refine wpl_box (hdrL h p s r m) rfl rfl rfl rfl ?_; intro ga w1 hA1 hF1 hga hsa; clear t1 _t)
      | (have _t := t2; refine wpl_box (hdrL h1 p1 s1 r1 m1) rfl rfl rfl rfl ?_; intro gb w2 hB2 hF2 hgb hsb; clear t2 _t)
      | (refine wpl_box (hdrL h2 p2 s2 r2 m2) rfl rfl rfl rfl ?_; intro gc w3 hC3 hF3 hgc hsc)
      | (go_at_call 62; refine c_alive14.mono ?_; rintro e w4 ⟨rfl, hF4⟩; have hW4 := ((hF1.trans hF2).trans hF3).trans hF4; have hA4 := ((hA1.kept hF2 (.inr (Nat.zero_le _))).kept hF3 (.inr (Nat.zero_le _))).kept hF4 (.inr (Nat.zero_le _)); have hB4 := (hB2.kept hF3 (.inr (Nat.zero_le _))).kept hF4 (.inr (Nat.zero_le _)); have hC4 := hC3.kept hF4 (.inr (Nat.zero_le _)))
      | (have _t := t3; refine wpl_load_blk hA4 row27 (by rw [siz27, hdrL_length _ _ _ _ _ hp hs hr]) rfl rfl rfl ?_)
      | (have _t := t3; refine wpl_load_blk hB4 row27 (by rw [siz27, hdrL_length _ _ _ _ _ hp1 hs1 hr1]) rfl rfl rfl ?_)
      | (have _t := t3; go_at_call 60; refine (c_Follows h p s r m hp hs hr h1 p1 s1 r1 m1 hp1 hs1 hr1 (hk.kept hW4 (.inr (Nat.zero_le _)))).mono ?_; rintro e w5 ⟨rfl, hF5⟩; rw [decide_eq_true HF1.out]; clear t3 _t; have hW5 := hW4.trans hF5; have hA5 := hA4.kept hF5 (.inr (Nat.zero_le _)); have hB5 := hB4.kept hF5 (.inr (Nat.zero_le _)); have hC5 := hC4.kept hF5 (.inr (Nat.zero_le _)))
      | (have _t := t4; refine wpl_load_blkG hA5 row27 (by rw [siz27, hdrL_length _ _ _ _ _ hp hs hr]) rfl rfl rfl ?_)
      | (have _t := t4; refine wpl_load_blkG hC5 row27 (by rw [siz27, hdrL_length _ _ _ _ _ hp2 hs2 hr2]) rfl rfl rfl ?_)
      | (have _t := t4; go_at_call 60; refine (c_Follows h p s r m hp hs hr h2 p2 s2 r2 m2 hp2 hs2 hr2 (hk.kept hW5 (.inr (Nat.zero_le _)))).mono ?_; rintro e w6 ⟨rfl, hF6⟩; rw [decide_eq_true HF2.out]; clear t4 _t; have hW6 := hW5.trans hF6; have hA6 := hA5.kept hF6 (.inr (Nat.zero_le _)); have hB6 := hB5.kept hF6 (.inr (Nat.zero_le _)); have hC6 := hC5.kept hF6 (.inr (Nat.zero_le _)))
      | (refine wpl_load_blkG hB6 row27 (by rw [siz27, hdrL_length _ _ _ _ _ hp1 hs1 hr1]) rfl rfl rfl ?_)
      | (refine wpl_load_blkG hC6 row27 (by rw [siz27, hdrL_length _ _ _ _ _ hp2 hs2 hr2]) rfl rfl rfl ?_)
      | (refine wpl_eql leaves27 (by omega) row27 eqg27 (lfH_hdrL _ _ _ _ _ hp1 hs1 hr1) (lfH_hdrL _ _ _ _ _ hp2 hs2 hr2) rfl rfl rfl rfl ?_; intro q hq; obtain rfl : q = true := hq.2 HAB.out; clear hq))
        go_ret
        exact ⟨rfl, hW6⟩
      · have HAB := Lib.hid hab
        obtain ⟨X1, hX1⟩ : ∃ X, X = hdrB h1 p1 s1 r1 m1 := ⟨_, rfl⟩
        obtain ⟨X2, hX2⟩ : ∃ X, X = hdrB h2 p2 s2 r2 m2 := ⟨_, rfl⟩
        have HC1 : Hid (hdrChk h1 m1 = 0) := hf1.1
        have HC2 : Hid (hdrChk h2 m2 = 0) := hf2.1
        have hl1 : X1.length = 108 := by rw [hX1]; exact hdrB_length _ _ _ _ _ hp1 hs1 hr1 hf1.1
        have hl2 : X2.length = 108 := by rw [hX2]; exact hdrB_length _ _ _ _ _ hp2 hs2 hr2 hf2.1
        have hxn : X1 ≠ X2 := by
          intro e
          have e1 := hdrRead_hdrB _ _ _ _ _ hp1 hs1 hr1 hf1.1
          have e2 := hdrRead_hdrB _ _ _ _ _ hp2 hs2 hr2 hf2.1
          rw [← hX1, e, hX2, e2] at e1
          exact hab (congrArg Prod.fst e1).symm
        obtain ⟨Y1, hY1⟩ : ∃ Y, Y = tagB 6 [X1] := ⟨_, rfl⟩
        obtain ⟨Y2, hY2⟩ : ∃ Y, Y = tagB 6 [X2] := ⟨_, rfl⟩
        have hyn : Y1 ≠ Y2 := by rw [hY1, hY2]; exact fun e => hxn (tagB_inj1 (by omega) e)
        have HYN : Hid ((Y1 == Y2) = false) := by show _ = _; simpa using hyn
        have HYL1 : Hid (Y1.length = 113) := by show _ = _; rw [hY1, tagB, List.length_cons, tagT_length]; simp [lens, hl1]
        have HYL2 : Hid (Y2.length = 113) := by show _ = _; rw [hY2, tagB, List.length_cons, tagT_length]; simp [lens, hl2]
        have HEQ : Hid (shaB Y1 = shaB Y2) := by
          show _ = _
          have e1 := hf1.2.2.2
          have e2 := hf2.2.2.2
          rw [hdrH, if_pos hf1.1, ← hX1, ← hY1] at e1
          rw [hdrH, if_pos hf2.1, ← hX2, ← hY2] at e2
          rw [← e1, ← e2]
        have HX1 := Lib.hid hX1
        have HX2 := Lib.hid hX2
        have HY1 := Lib.hid hY1
        have HY2 := Lib.hid hY2
        have HXL1 := Lib.hid hl1
        have HXL2 := Lib.hid hl2
        have t7 := trivial
        have t8 := trivial
        clear hab hf1 hf2 hX1 hX2 hY1 hY2 hl1 hl2 hxn hyn
        go_enter Tryd.func11, Tryd.ntmps11
        go_wp2_with (first
      | (have _t := t1; refine wpl_box (hdrL h p s r m) rfl rfl rfl rfl ?_; intro ga w1 hA1 hF1 hga hsa; clear t1 _t)
      | (have _t := t2; refine wpl_box (hdrL h1 p1 s1 r1 m1) rfl rfl rfl rfl ?_; intro gb w2 hB2 hF2 hgb hsb; clear t2 _t)
      | (refine wpl_box (hdrL h2 p2 s2 r2 m2) rfl rfl rfl rfl ?_; intro gc w3 hC3 hF3 hgc hsc)
      | (go_at_call 62; refine c_alive14.mono ?_; rintro e w4 ⟨rfl, hF4⟩; have hW4 := ((hF1.trans hF2).trans hF3).trans hF4; have hA4 := ((hA1.kept hF2 (.inr (Nat.zero_le _))).kept hF3 (.inr (Nat.zero_le _))).kept hF4 (.inr (Nat.zero_le _)); have hB4 := (hB2.kept hF3 (.inr (Nat.zero_le _))).kept hF4 (.inr (Nat.zero_le _)); have hC4 := hC3.kept hF4 (.inr (Nat.zero_le _)))
      | (have _t := t3; refine wpl_load_blk hA4 row27 (by rw [siz27, hdrL_length _ _ _ _ _ hp hs hr]) rfl rfl rfl ?_)
      | (have _t := t3; refine wpl_load_blk hB4 row27 (by rw [siz27, hdrL_length _ _ _ _ _ hp1 hs1 hr1]) rfl rfl rfl ?_)
      | (have _t := t3; go_at_call 60; refine (c_Follows h p s r m hp hs hr h1 p1 s1 r1 m1 hp1 hs1 hr1 (hk.kept hW4 (.inr (Nat.zero_le _)))).mono ?_; rintro e w5 ⟨rfl, hF5⟩; rw [decide_eq_true HF1.out]; clear t3 _t; have hW5 := hW4.trans hF5; have hA5 := hA4.kept hF5 (.inr (Nat.zero_le _)); have hB5 := hB4.kept hF5 (.inr (Nat.zero_le _)); have hC5 := hC4.kept hF5 (.inr (Nat.zero_le _)))
      | (have _t := t4; refine wpl_load_blkG hA5 row27 (by rw [siz27, hdrL_length _ _ _ _ _ hp hs hr]) rfl rfl rfl ?_)
      | (have _t := t4; refine wpl_load_blkG hC5 row27 (by rw [siz27, hdrL_length _ _ _ _ _ hp2 hs2 hr2]) rfl rfl rfl ?_)
      | (have _t := t4; go_at_call 60; refine (c_Follows h p s r m hp hs hr h2 p2 s2 r2 m2 hp2 hs2 hr2 (hk.kept hW5 (.inr (Nat.zero_le _)))).mono ?_; rintro e w6 ⟨rfl, hF6⟩; rw [decide_eq_true HF2.out]; clear t4 _t; have hW6 := hW5.trans hF6; have hA6 := hA5.kept hF6 (.inr (Nat.zero_le _)); have hB6 := hB5.kept hF6 (.inr (Nat.zero_le _)); have hC6 := hC5.kept hF6 (.inr (Nat.zero_le _)))
      | (refine wpl_load_blkG hB6 row27 (by rw [siz27, hdrL_length _ _ _ _ _ hp1 hs1 hr1]) rfl rfl rfl ?_)
      | (refine wpl_load_blkG hC6 row27 (by rw [siz27, hdrL_length _ _ _ _ _ hp2 hs2 hr2]) rfl rfl rfl ?_)
      | (have _t := t5; refine wpl_eql leaves27 (by omega) row27 eqg27 (lfH_hdrL _ _ _ _ _ hp1 hs1 hr1) (lfH_hdrL _ _ _ _ _ hp2 hs2 hr2) rfl rfl rfl rfl ?_; intro q hq; obtain rfl : q = false := Bool.eq_false_iff.2 (fun e => HAB.out (hq.1 e)); clear hq t5 _t)
      | (have _t := t6; refine wpl_load_blk hB6 row27 (by rw [siz27, hdrL_length _ _ _ _ _ hp1 hs1 hr1]) rfl rfl rfl ?_)
      | (have _t := t6; go_at_call 54; refine (c_hdrBytes h1 p1 s1 r1 m1 hp1 hs1 hr1).mono ?_; rintro e w7 ⟨v7, rfl, hO7, hF7⟩; rw [HC1.out]; rw [← HX1.out] at hO7; clear t6 _t; obtain ⟨a7, c7, rfl⟩ : ∃ a c, v7 = .slice a X1.length c := (let ⟨x, y, e, _⟩ := hO7.form; ⟨x, y, e⟩); have hW7 := hW6.trans hF7; have hC7 := hC6.kept hF7 (.inr (Nat.zero_le _)))
      | (refine wpl_load_blk hC7 row27 (by rw [siz27, hdrL_length _ _ _ _ _ hp2 hs2 hr2]) rfl rfl rfl ?_)
      | (go_at_call 54; refine (c_hdrBytes h2 p2 s2 r2 m2 hp2 hs2 hr2).mono ?_; rintro e w8 ⟨v8, rfl, hO8, hF8⟩; rw [HC2.out]; rw [← HX2.out] at hO8; obtain ⟨a8, c8, rfl⟩ : ∃ a c, v8 = .slice a X2.length c := (let ⟨x, y, e, _⟩ := hO8.form; ⟨x, y, e⟩); have hW8 := hW7.trans hF8; have hO78 := hO7.kept hF8 (.inr (Nat.zero_le _)))
      | (have _t := t7; go_at_call 22; refine (c_tagBytes 6 (RdS.one hO78) (by simp) (by simp [lens, HXL1.out])).mono ?_; rintro e w9 ⟨v9, rfl, hO9, hF9⟩; rw [← HY1.out] at hO9; clear t7 _t; obtain ⟨a9, c9, rfl⟩ : ∃ a c, v9 = .slice a Y1.length c := (let ⟨x, y, e, _⟩ := hO9.rd.form; ⟨x, y, e⟩); have hF9' : Fr 0 0 w8 w9 := (Fr.alloc _ _).trans hF9; have hW9 := hW8.trans hF9'; have hO89 := hO8.kept hF9' (.inr (Nat.zero_le _)))
      | (go_at_call 22; refine (c_tagBytes 6 (RdS.one hO89) (by simp) (by simp [lens, HXL2.out])).mono ?_; rintro e w10 ⟨v10, rfl, hO10, hF10⟩; rw [← HY2.out] at hO10; obtain ⟨a10, c10, rfl⟩ : ∃ a c, v10 = .slice a Y2.length c := (let ⟨x, y, e, _⟩ := hO10.rd.form; ⟨x, y, e⟩); have hF10' : Fr 0 0 w9 w10 := (Fr.alloc _ _).trans hF10; have hW10 := hW9.trans hF10'; have hO910 := (hO9.rd).kept hF10' (.inr (Nat.zero_le _)); have hO10' := hO10.rd)
      | (go_at_call 23; refine (c_Same hO910 hO10').mono ?_; rintro e w11 ⟨rfl, rfl⟩; rw [HYN.out])
      | (have _t := t8; go_at_call 53; refine (c_shaOf (RdS.one hO910) (by rw [HYL1.out]; omega) ((hk.kept hW10 (.inr (Nat.zero_le _))).kept (Fr.alloc _ _) (.inr (Nat.zero_le _)))).mono ?_; rintro e w12 ⟨rfl, hF12⟩; clear t8 _t; have hF12' : Fr 0 0 w10 w12 := (Fr.alloc _ _).trans hF12; have hW12 := hW10.trans hF12'; have hO12 := hO10'.kept hF12' (.inr (Nat.zero_le _)))
      | (go_at_call 53; refine (c_shaOf (RdS.one hO12) (by rw [HYL2.out]; omega) ((hk.kept hW12 (.inr (Nat.zero_le _))).kept (Fr.alloc _ _) (.inr (Nat.zero_le _)))).mono ?_; rintro e w13 ⟨rfl, hF13⟩; have hF13' : Fr 0 0 w12 w13 := (Fr.alloc _ _).trans hF13; have hW13 := hW12.trans hF13')
      | (refine wpl_eql leaves30 (by omega) row30 eqg30 (LF.bytes32 (shaB Y1) (shaB_length _)) (LF.bytes32 (shaB Y2) (shaB_length _)) rfl rfl rfl rfl ?_; intro q hq; obtain rfl : q = true := hq.2 (by rw [HEQ.out]); clear hq))
        go_ret
        exact ⟨rfl, hW13⟩
    · have HF2 := Lib.hid hf2
      clear hf1 hf2
      go_enter Tryd.func11, Tryd.ntmps11
      go_wp2_with (first
      | (have _t := t1; refine wpl_box (hdrL h p s r m) rfl rfl rfl rfl ?_; intro ga w1 hA1 hF1 hga hsa; clear t1 _t)
      | (have _t := t2; refine wpl_box (hdrL h1 p1 s1 r1 m1) rfl rfl rfl rfl ?_; intro gb w2 hB2 hF2 hgb hsb; clear t2 _t)
      | (refine wpl_box (hdrL h2 p2 s2 r2 m2) rfl rfl rfl rfl ?_; intro gc w3 hC3 hF3 hgc hsc)
      | (go_at_call 62; refine c_alive14.mono ?_; rintro e w4 ⟨rfl, hF4⟩; have hW4 := ((hF1.trans hF2).trans hF3).trans hF4; have hA4 := ((hA1.kept hF2 (.inr (Nat.zero_le _))).kept hF3 (.inr (Nat.zero_le _))).kept hF4 (.inr (Nat.zero_le _)); have hB4 := (hB2.kept hF3 (.inr (Nat.zero_le _))).kept hF4 (.inr (Nat.zero_le _)); have hC4 := hC3.kept hF4 (.inr (Nat.zero_le _)))
      | (have _t := t3; refine wpl_load_blk hA4 row27 (by rw [siz27, hdrL_length _ _ _ _ _ hp hs hr]) rfl rfl rfl ?_)
      | (have _t := t3; refine wpl_load_blk hB4 row27 (by rw [siz27, hdrL_length _ _ _ _ _ hp1 hs1 hr1]) rfl rfl rfl ?_)
      | (have _t := t3; go_at_call 60; refine (c_Follows h p s r m hp hs hr h1 p1 s1 r1 m1 hp1 hs1 hr1 (hk.kept hW4 (.inr (Nat.zero_le _)))).mono ?_; rintro e w5 ⟨rfl, hF5⟩; rw [decide_eq_true HF1.out]; clear t3 _t; have hW5 := hW4.trans hF5; have hA5 := hA4.kept hF5 (.inr (Nat.zero_le _)); have hB5 := hB4.kept hF5 (.inr (Nat.zero_le _)); have hC5 := hC4.kept hF5 (.inr (Nat.zero_le _)))
      | (have _t := t4; refine wpl_load_blkG hA5 row27 (by rw [siz27, hdrL_length _ _ _ _ _ hp hs hr]) rfl rfl rfl ?_)
      | (have _t := t4; refine wpl_load_blkG hC5 row27 (by rw [siz27, hdrL_length _ _ _ _ _ hp2 hs2 hr2]) rfl rfl rfl ?_)
      | (have _t := t4; go_at_call 60; refine (c_Follows h p s r m hp hs hr h2 p2 s2 r2 m2 hp2 hs2 hr2 (hk.kept hW5 (.inr (Nat.zero_le _)))).mono ?_; rintro e w6 ⟨rfl, hF6⟩; rw [decide_eq_false HF2.out]; clear t4 _t; have hW6 := hW5.trans hF6; have hA6 := hA5.kept hF6 (.inr (Nat.zero_le _)); have hB6 := hB5.kept hF6 (.inr (Nat.zero_le _)); have hC6 := hC5.kept hF6 (.inr (Nat.zero_le _))))
      go_ret
      exact ⟨rfl, hW6⟩
  · have HF1 := Lib.hid hf1
    clear hf1
    go_enter Tryd.func11, Tryd.ntmps11
    go_wp2_with (first
      | (have _t := t1; refine wpl_box (hdrL h p s r m) rfl rfl rfl rfl ?_; intro ga w1 hA1 hF1 hga hsa; clear t1 _t)
      | (have _t := t2; refine wpl_box (hdrL h1 p1 s1 r1 m1) rfl rfl rfl rfl ?_; intro gb w2 hB2 hF2 hgb hsb; clear t2 _t)
      | (refine wpl_box (hdrL h2 p2 s2 r2 m2) rfl rfl rfl rfl ?_; intro gc w3 hC3 hF3 hgc hsc)
      | (go_at_call 62; refine c_alive14.mono ?_; rintro e w4 ⟨rfl, hF4⟩; have hW4 := ((hF1.trans hF2).trans hF3).trans hF4; have hA4 := ((hA1.kept hF2 (.inr (Nat.zero_le _))).kept hF3 (.inr (Nat.zero_le _))).kept hF4 (.inr (Nat.zero_le _)); have hB4 := (hB2.kept hF3 (.inr (Nat.zero_le _))).kept hF4 (.inr (Nat.zero_le _)); have hC4 := hC3.kept hF4 (.inr (Nat.zero_le _)))
      | (have _t := t3; refine wpl_load_blk hA4 row27 (by rw [siz27, hdrL_length _ _ _ _ _ hp hs hr]) rfl rfl rfl ?_)
      | (have _t := t3; refine wpl_load_blk hB4 row27 (by rw [siz27, hdrL_length _ _ _ _ _ hp1 hs1 hr1]) rfl rfl rfl ?_)
      | (have _t := t3; go_at_call 60; refine (c_Follows h p s r m hp hs hr h1 p1 s1 r1 m1 hp1 hs1 hr1 (hk.kept hW4 (.inr (Nat.zero_le _)))).mono ?_; rintro e w5 ⟨rfl, hF5⟩; rw [decide_eq_false HF1.out]; clear t3 _t; have hW5 := hW4.trans hF5; have hA5 := hA4.kept hF5 (.inr (Nat.zero_le _)); have hB5 := hB4.kept hF5 (.inr (Nat.zero_le _)); have hC5 := hC4.kept hF5 (.inr (Nat.zero_le _))))
    go_ret
    exact ⟨rfl, hW5⟩

end Go.Proofs.YtgndidjfjdaagaaDoor
