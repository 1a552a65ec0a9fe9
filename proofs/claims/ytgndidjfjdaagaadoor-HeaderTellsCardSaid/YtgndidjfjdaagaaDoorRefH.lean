/-
  The reference's header: May, Check, Of, Bytes, Name, Hash.
-/
import Derived.Test.YtgndidjfjdaagaaDoorRef03
import Derived.Test.YtgndidjfjdaagaaDoorTagOf
set_option linter.unusedSimpArgs false
set_option linter.unusedVariables false
namespace Go.Proofs.YtgndidjfjdaagaaDoor
open Go.RowKit

set_option maxHeartbeats 1000000 in
theorem c_refMay {w : World} (h : Int) (p s r : List UInt8) (m : Int) (hp : p.length = 32) (hs : s.length = 32) (hr : r.length = 32) :
    Calls Tryd.prog 103 #[.agg (hdrL h p s r m).toArray] w fun e w' => e = .returned (.bool (decide (hdrChk h m = 0))) ∧ Fr 0 0 w w' := by
  obtain ⟨q, hq⟩ : ∃ q, q = decide (hdrChk h m = 0) := ⟨_, rfl⟩
  rw [← hq]
  have HQ := Lib.hid hq
  clear hq
  have H : (0 ≤ h ∧ h ≤ 1073741824 ∧ 0 ≤ m ∧ m ≤ 256 ∧ q = true) ∨ (¬ (0 ≤ h ∧ h ≤ 1073741824 ∧ 0 ≤ m ∧ m ≤ 256) ∧ q = false) := by
    have e := HQ.out
    unfold hdrChk at e
    by_cases c : h < 0 ∨ 1073741824 < h ∨ m < 0 ∨ 256 < m
    · right; rw [if_pos c] at e; exact ⟨by omega, by rw [e]; rfl⟩
    · left; rw [if_neg c] at e; exact ⟨by omega, by omega, by omega, by omega, by rw [e]; rfl⟩
  by_cases a1 : 0 ≤ h <;> by_cases a2 : h ≤ 1073741824 <;> by_cases a3 : 0 ≤ m <;> by_cases a4 : m ≤ 256 <;> first | (exfalso; omega) | skip
  all_goals
    simp only [a1, a2, a3, a4, and_self, and_true, and_false, false_and, true_and, not_true_eq_false, not_false_eq_true, or_false, false_or] at H
    subst H
    clear HQ
    go_enter Tryd.func103, Tryd.ntmps103
    go_wp2_with (refine wpl_box (hdrL h p s r m) rfl rfl rfl rfl ?_; intro g w1 hB hF hg hs1; have c0 : w1.cell? ⟨g, 0, none⟩ = some (.int .i64 h) := hB.cell 0; have c97 : w1.cell? ⟨g, 97, none⟩ = some (.int .i64 m) := by rw [hB.cell]; simp [hdrL, hp, hs, hr])
    go_ret
    exact ⟨rfl, hF⟩

set_option maxHeartbeats 1000000 in
theorem c_refHCheck {w : World} (h : Int) (p s r : List UInt8) (m : Int) (hp : p.length = 32) (hs : s.length = 32) (hr : r.length = 32) :
    Calls Tryd.prog 59 #[.agg (hdrL h p s r m).toArray] w fun e w' => e = .returned (.int .i64 (hdrChk h m)) ∧ Fr 0 0 w w' := by
  by_cases hok : hdrChk h m = 0
  · have HD : Hid (decide (hdrChk h m = 0) = true) := Lib.hid (decide_eq_true hok)
    rw [hok]
    clear hok
    go_enter Tryd.func59, Tryd.ntmps59
    go_wp2_with (first
      | (refine wpl_box (hdrL h p s r m) rfl rfl rfl rfl ?_; intro g w1 hB hF1 hg hs1)
      | (refine wpl_load_blk hB row27 (by rw [siz27, hdrL_length _ _ _ _ _ hp hs hr]) rfl rfl rfl ?_)
      | (go_at_call 103; refine (c_refMay h p s r m hp hs hr).mono ?_; rintro e w2 ⟨rfl, hF2⟩; rw [HD.out]))
    go_ret
    exact ⟨rfl, hF1.trans hF2⟩
  · have HD : Hid (decide (hdrChk h m = 0) = false) := Lib.hid (decide_eq_false hok)
    rw [hdrChk_8 hok]
    clear hok
    go_enter Tryd.func59, Tryd.ntmps59
    go_wp2_with (first
      | (refine wpl_box (hdrL h p s r m) rfl rfl rfl rfl ?_; intro g w1 hB hF1 hg hs1)
      | (refine wpl_load_blk hB row27 (by rw [siz27, hdrL_length _ _ _ _ _ hp hs hr]) rfl rfl rfl ?_)
      | (go_at_call 103; refine (c_refMay h p s r m hp hs hr).mono ?_; rintro e w2 ⟨rfl, hF2⟩; rw [HD.out]))
    go_ret
    exact ⟨rfl, hF1.trans hF2⟩

set_option maxHeartbeats 2000000 in
theorem c_refHOf {w : World} (n : Nat) (p s r : List UInt8) (k : Nat) (hp : p.length = 32) (hs : s.length = 32) (hr : r.length = 32) (hn : n ≤ 1073741824) (hk : k ≤ 256) :
    Calls Tryd.prog 104 #[.agg (hdrL n p s r k).toArray] w fun e w' => ∃ v', e = .returned v' ∧ RdB w' w.heap.size w'.heap.size v' (beB 8 n ++ (p ++ (s ++ (r ++ beB 4 k)))) ∧ Fr 0 0 w w' := by
  have HP := Lib.hid hp
  have HS := Lib.hid hs
  have HR := Lib.hid hr
  have t1 := trivial
  have t2 := trivial
  have t3 := trivial
  have t4 := trivial
  clear hp hs hr
  go_enter Tryd.func104, Tryd.ntmps104
  go_wp2_with (first
    | (refine wpl_box (hdrL n p s r k) rfl rfl rfl rfl ?_; intro g w1 hB hF1 hg hs1; have c0 : w1.cell? ⟨g, 0, none⟩ = some (.int .i64 n) := hB.cell 0)
    | (have _t := t1; go_at_call 78; refine (c_Digits n 8 (by omega) (by omega)).mono ?_; rintro e w2 ⟨v2, b2, rfl, hO2, hF2⟩; have hB2 := hB.kept hF2 (.inr (Nat.zero_le _)); have c97 : w2.cell? ⟨g, 97, none⟩ = some (.int .i64 k) := (by rw [hB2.cell]; simp [hdrL, HP.out, HS.out, HR.out]); have z2 := hF2.size; clear t1 _t)
    | (have _t := t2; go_at_call 78; refine (c_Digits k 4 (by omega) (by omega)).mono ?_; rintro e w3 ⟨v3, b3, rfl, hO3, hF3⟩; have hD3 := (hB2.kept hF3 (.inr (Nat.zero_le _))).digests HP.out HS.out HR.out; have hO23 := hO2.kept hF3 (.inr (Nat.zero_le _)); have z3 := hF3.size; clear t2 _t)
    | (have _t := t3; at_builtin; refine wpl_append hO23 hD3.1 (by rw [beB_length, HP.out]; omega) rfl rfl rfl rfl ?_; intro v4 w4 lo4 hi4 hO4 hF4 hz4; have hS4 := hD3.2.1.kept hF4 (.inl (by omega)); have hR4 := hD3.2.2.kept hF4 (.inl (by omega)); have hM4 := hO3.rd.kept hF4 (.inr (by omega)); have z4 := hF4.size; clear t3 _t)
    | (have _t := t4; at_builtin; refine wpl_append hO4 hS4 (by simp [HP.out, HS.out, beB_length]) rfl rfl rfl rfl ?_; intro v5 w5 lo5 hi5 hO5 hF5 hz5; have hR5 := hR4.kept hF5 (.inl (by omega)); have hM5 := hM4.kept hF5 (by omega); have z5 := hF5.size; clear t4 _t)
    | (at_builtin; refine wpl_append hO5 hR5 (by simp [HP.out, HS.out, HR.out, beB_length]) rfl rfl rfl rfl ?_; intro v6 w6 lo6 hi6 hO6 hF6 hz6; have hM6 := hM5.kept hF6 (by omega); have z6 := hF6.size)
    | (at_builtin; refine wpl_append hO6 hM6 (by simp [HP.out, HS.out, HR.out, beB_length]) rfl rfl rfl rfl ?_; intro v7 w7 lo7 hi7 hO7 hF7 hz7; have z7 := hF7.size))
  go_ret
  refine ⟨_, rfl, ?_, ?_⟩
  · have e : beB 8 n ++ (p ++ (s ++ (r ++ beB 4 k))) = beB 8 n ++ p ++ s ++ r ++ beB 4 k := by simp
    rw [e]
    exact hO7.rd.mono (by omega) (by omega)
  · exact (((((hF1.trans hF2).trans hF3).on hF4 (by omega)).on hF5 (by omega)).on hF6 (by omega)).on hF7 (by omega)

set_option maxHeartbeats 1000000 in
theorem c_refHBytes {w : World} (h : Int) (p s r : List UInt8) (m : Int) (hp : p.length = 32) (hs : s.length = 32) (hr : r.length = 32) :
    Calls Tryd.prog 55 #[.agg (hdrL h p s r m).toArray] w fun e w' => ∃ v', e = .returned (.tuple #[v', .int .i64 (hdrChk h m)]) ∧ RdB w' w.heap.size w'.heap.size v' (hdrB h p s r m) ∧ Fr 0 0 w w' := by
  by_cases hok : hdrChk h m = 0
  · have hrb : hdrB h p s r m = beB 8 h.toNat ++ (p ++ (s ++ (r ++ beB 4 m.toNat))) := by rw [hdrB, if_pos hok]
    have HD : Hid (decide (hdrChk h m = 0) = true) := Lib.hid (decide_eq_true hok)
    have HRB := Lib.hid hrb
    have hc := hdrChk_range hok
    obtain ⟨n, rfl⟩ := Int.eq_ofNat_of_zero_le hc.1
    obtain ⟨k, rfl⟩ := Int.eq_ofNat_of_zero_le hc.2.2.1
    have hn : n ≤ 1073741824 := by omega
    have hk : k ≤ 256 := by omega
    rw [hok]
    clear hok hrb hc
    go_enter Tryd.func55, Tryd.ntmps55
    go_wp2_with (first
      | (refine wpl_box (hdrL n p s r k) rfl rfl rfl rfl ?_; intro g w1 hB hF1 hg hs1)
      | (refine wpl_load_blk hB row27 (by rw [siz27, hdrL_length _ _ _ _ _ hp hs hr]) rfl rfl rfl ?_)
      | (go_at_call 103; refine (c_refMay n p s r k hp hs hr).mono ?_; rintro e w2 ⟨rfl, hF2⟩; rw [HD.out]; have hB2 := hB.kept hF2 (.inr (Nat.zero_le _)))
      | (refine wpl_load_blk hB2 row27 (by rw [siz27, hdrL_length _ _ _ _ _ hp hs hr]) rfl rfl rfl ?_)
      | (go_at_call 104; refine (c_refHOf n p s r k hp hs hr hn hk).mono ?_; rintro e w3 ⟨v3, rfl, hR3, hF3⟩))
    go_ret2
    have z := (hF1.trans hF2).size
    refine ⟨_, rfl, ?_, (hF1.trans hF2).trans hF3⟩
    rw [HRB.out]
    exact hR3.mono z (Nat.le_refl _)
  · have hrb : hdrB h p s r m = [] := by rw [hdrB, if_neg hok]
    have HD : Hid (decide (hdrChk h m = 0) = false) := Lib.hid (decide_eq_false hok)
    rw [hrb, hdrChk_8 hok]
    clear hok hrb
    go_enter Tryd.func55, Tryd.ntmps55
    go_wp2_with (first
      | (refine wpl_box (hdrL h p s r m) rfl rfl rfl rfl ?_; intro g w1 hB hF1 hg hs1)
      | (refine wpl_load_blk hB row27 (by rw [siz27, hdrL_length _ _ _ _ _ hp hs hr]) rfl rfl rfl ?_)
      | (go_at_call 103; refine (c_refMay h p s r m hp hs hr).mono ?_; rintro e w2 ⟨rfl, hF2⟩; rw [HD.out]))
    go_ret2
    exact ⟨_, rfl, RdB.nil _ _ _, hF1.trans hF2⟩

set_option maxHeartbeats 1000000 in
theorem c_refHName {w : World} (n : Nat) (p s r : List UInt8) (k : Nat) (hp : p.length = 32) (hs : s.length = 32) (hr : r.length = 32) (hn : n ≤ 1073741824) (hk : k ≤ 256) (hok : hdrChk n k = 0) :
    Calls Tryd.prog 105 #[.agg (hdrL n p s r k).toArray] w fun e w' => e = .returned (.agg (bs (hdrH n p s r k))) ∧ Fr 0 0 w w' := by
  have hsl : ((hdrH n p s r k).map ub).length = 32 := by rw [List.length_map, hdrH_length]
  obtain ⟨D, hD⟩ : ∃ D, D = hdrH n p s r k := ⟨_, rfl⟩
  have hb : hdrB n p s r k = beB 8 n ++ (p ++ (s ++ (r ++ beB 4 k))) := by rw [hdrB, if_pos hok]; rfl
  have hl := hdrB_length n p s r k hp hs hr hok
  have hD2 : D = shaB (tagB 6 [beB 8 n ++ (p ++ (s ++ (r ++ beB 4 k)))]) := by rw [hD, hdrH, if_pos hok, hb]
  rw [hb] at hl
  rw [← hD] at hsl ⊢
  have HD := Lib.hid hD2
  have HL := Lib.hid hl
  clear hD hD2 hb hl hok
  go_enter Tryd.func105, Tryd.ntmps105
  go_wp2_with (first
    | (refine wpl_box (hdrL n p s r k) rfl rfl rfl rfl ?_; intro g w1 hB hF1 hg hs1)
    | (refine wpl_alloc zer30 rfl rfl rfl ?_; intro g2 w2 hB2 hF2 hg2 hs2)
    | (refine wpl_load_blk (hB.kept hF2 (.inr (Nat.zero_le _))) row27 (by rw [siz27, hdrL_length _ _ _ _ _ hp hs hr]) rfl rfl rfl ?_)
    | (go_at_call 104; refine (c_refHOf n p s r k hp hs hr hn hk).mono ?_; rintro e w3 ⟨v3, rfl, hR3, hF3⟩)
    | (go_at_call 96; refine (c_refOne 6 hR3 (by rw [HL.out]; omega)).mono ?_; rintro e w4 ⟨rfl, hF4⟩; rw [← HD.out]; have hB4 := (hB2.kept hF3 (.inr (Nat.zero_le _))).kept hF4 (.inr (Nat.zero_le _)))
    | (refine wpl_store_blk hB4 (by rw [hsl]; rfl) (by rw [siz30, hsl]) (ub_oneCell _) rfl rfl rfl rfl ?_; intro w6 hB6 hF6))
  refine bodyPost_ret (v := .agg (bs D)) (res_blk rfl rfl hB6 row30 (by rw [siz30, hsl])) rfl ⟨rfl, ?_⟩
  exact (((hF1.trans hF2).trans hF3).trans hF4).on hF6 (by have := hF1.size; omega)

set_option maxHeartbeats 1000000 in
theorem c_refHHash {w : World} (h : Int) (p s r : List UInt8) (m : Int) (hp : p.length = 32) (hs : s.length = 32) (hr : r.length = 32) :
    Calls Tryd.prog 57 #[.agg (hdrL h p s r m).toArray] w fun e w' => e = .returned (.tuple #[.agg (bs (hdrH h p s r m)), .int .i64 (hdrChk h m)]) ∧ Fr 0 0 w w' := by
  have hsl : ((hdrH h p s r m).map ub).length = 32 := by rw [List.length_map, hdrH_length]
  by_cases hok : hdrChk h m = 0
  · have HD : Hid (decide (hdrChk h m = 0) = true) := Lib.hid (decide_eq_true hok)
    have HOK := Lib.hid hok
    have hc := hdrChk_range hok
    obtain ⟨n, rfl⟩ := Int.eq_ofNat_of_zero_le hc.1
    obtain ⟨k, rfl⟩ := Int.eq_ofNat_of_zero_le hc.2.2.1
    have hn : n ≤ 1073741824 := by omega
    have hk : k ≤ 256 := by omega
    obtain ⟨D, hD⟩ : ∃ D, D = hdrH n p s r k := ⟨_, rfl⟩
    rw [hok]
    rw [← hD] at hsl ⊢
    have HDD := Lib.hid hD
    clear hok hc hD
    go_enter Tryd.func57, Tryd.ntmps57
    go_wp2_with (first
      | (refine wpl_box (hdrL n p s r k) rfl rfl rfl rfl ?_; intro g w1 hB hF1 hg hs1)
      | (refine wpl_alloc zer30 rfl rfl rfl ?_; intro g2 w2 hB2 hF2 hg2 hs2; have hB1 := hB.kept hF2 (.inr (Nat.zero_le _)))
      | (refine wpl_load_blk hB1 row27 (by rw [siz27, hdrL_length _ _ _ _ _ hp hs hr]) rfl rfl rfl ?_)
      | (go_at_call 103; refine (c_refMay n p s r k hp hs hr).mono ?_; rintro e w3 ⟨rfl, hF3⟩; rw [HD.out]; have hB13 := hB1.kept hF3 (.inr (Nat.zero_le _)))
      | (refine wpl_load_blk hB13 row27 (by rw [siz27, hdrL_length _ _ _ _ _ hp hs hr]) rfl rfl rfl ?_)
      | (go_at_call 105; refine (c_refHName n p s r k hp hs hr hn hk HOK.out).mono ?_; rintro e w4 ⟨rfl, hF4⟩; rw [← HDD.out]; have hB4 := (hB2.kept hF3 (.inr (Nat.zero_le _))).kept hF4 (.inr (Nat.zero_le _)))
      | (refine wpl_store_blk hB4 (by rw [hsl]; rfl) (by rw [siz30, hsl]) (ub_oneCell _) rfl rfl rfl rfl ?_; intro w6 hB6 hF6))
    refine bodyPost_ret (res_blk_tmp rfl rfl hB6 row30 (by rw [siz30, hsl])) rfl ⟨rfl, ?_⟩
    exact (((hF1.trans hF2).trans hF3).trans hF4).on hF6 (by have := hF1.size; omega)
  · have hH : hdrH h p s r m = List.replicate 32 0 := by rw [hdrH, if_neg hok]
    have HH := Lib.hid hH
    have HD : Hid (decide (hdrChk h m = 0) = false) := Lib.hid (decide_eq_false hok)
    rw [hdrChk_8 hok]
    clear hok hH
    go_enter Tryd.func57, Tryd.ntmps57
    go_wp2_with (first
      | (refine wpl_box (hdrL h p s r m) rfl rfl rfl rfl ?_; intro g w1 hB hF1 hg hs1)
      | (refine wpl_alloc zer30 rfl rfl rfl ?_; intro g2 w2 hB2 hF2 hg2 hs2; have hB1 := hB.kept hF2 (.inr (Nat.zero_le _)))
      | (refine wpl_load_blk hB1 row27 (by rw [siz27, hdrL_length _ _ _ _ _ hp hs hr]) rfl rfl rfl ?_)
      | (go_at_call 103; refine (c_refMay h p s r m hp hs hr).mono ?_; rintro e w3 ⟨rfl, hF3⟩; rw [HD.out]; have hB4 := hB2.kept hF3 (.inr (Nat.zero_le _)))
      | (refine wpl_store_blk (L' := (List.replicate 32 (0 : UInt8)).map ub) hB4 rfl siz30 (ub_oneCell _) rfl rfl rfl rfl ?_; intro w6 hB6 hF6))
    refine bodyPost_ret (res_blk_tmp rfl rfl hB6 row30 siz30) rfl ⟨by rw [HH.out]; rfl, ?_⟩
    exact ((hF1.trans hF2).trans hF3).on hF6 (by have := hF1.size; omega)

end Go.Proofs.YtgndidjfjdaagaaDoor
