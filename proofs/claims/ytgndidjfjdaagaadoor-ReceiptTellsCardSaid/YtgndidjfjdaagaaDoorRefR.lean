/-
  The reference's receipts: Deposit, May, Check, Of, Bytes.
-/
import Derived.Test.YtgndidjfjdaagaaDoorRef03
import Derived.Test.YtgndidjfjdaagaaDoorDep
set_option linter.unusedSimpArgs false
set_option linter.unusedVariables false
set_option linter.unnecessarySimpa false
namespace Go.Proofs.YtgndidjfjdaagaaDoor
open Go.RowKit

set_option maxHeartbeats 1000000 in
theorem c_refDeposit {w : World} (n : Nat) (d : List UInt8) (a : Nat) (hd : d.length = 32) (hn : n < 18446744073709551616) (ha : a < 18446744073709551616) :
    Calls Tryd.prog 70 #[.agg (depL n d a).toArray] w fun e w' => e = .returned (.agg (bs (depH n d a))) ∧ Fr 0 0 w w' := by
  obtain ⟨B, hB0⟩ : ∃ B, B = beB 8 n ++ d ++ beB 8 a := ⟨_, rfl⟩
  have hBl : B.length = 48 := by rw [hB0]; simp [beB_length, hd]
  have hsl : ((shaB (tagB 9 [B])).map ub).length = 32 := by rw [List.length_map, shaB_length]
  have HB0 := Lib.hid hB0
  have HBL := Lib.hid hBl
  have hfin : depH n d a = shaB (tagB 9 [B]) := by rw [depH, hB0]
  rw [hfin]
  clear hB0 hBl hfin
  have t1 := trivial
  have t2 := trivial
  go_enter Tryd.func70, Tryd.ntmps70
  go_wp2_with (first
    | (refine wpl_box (depL n d a) rfl rfl rfl rfl ?_; intro g w1 hB hF1 hg hs)
    | (refine wpl_alloc zer30 rfl rfl rfl ?_; intro g2 w2 hB2 hF2 hg2 hs2; have hBd := hB.kept hF2 (.inr (Nat.zero_le _)); have c0 : w2.cell? ⟨g, 0, none⟩ = some (.int .u64 n) := hBd.cell 0; have C0 := Lib.hid c0)
    | (have _t := t1; go_at_call 78; refine (c_Digits n 8 hn (by omega)).mono ?_; rintro e w3 ⟨v3, b3, rfl, hO3, hF3⟩; clear t1 _t; have hB3 := hBd.kept hF3 (.inr (Nat.zero_le _)); have c33 : w3.cell? ⟨g, 33, none⟩ = some (.int .u64 a) := (by rw [hB3.cell]; simp [depL, hd]); have c00 := hF3.cell C0.out (.inr (Nat.zero_le _)))
    | (go_at_call 78; refine (c_Digits a 8 ha (by omega)).mono ?_; rintro e w4 ⟨v4, b4, rfl, hO4, hF4⟩; have hB4 := hB3.kept hF4 (.inr (Nat.zero_le _)); have hO34 := hO3.kept hF4 (.inr (Nat.zero_le _)); have cc0 := hF4.cell c00 (.inr (Nat.zero_le _)); have hR4 : RdB w4 g (g + 1) (.slice (some ⟨g, 1, none⟩) 32 32) d := Blk.rd (A := [.int .u64 n]) (Z := [.int .u64 a]) hB4 rfl hd (by omega) (by omega); have z3 := hF3.size; have zg := hBd.lt)
    | (at_builtin; have _t := t2; refine wpl_append hO34 hR4 (by simp [hd, beB_length]) rfl rfl rfl rfl ?_; intro v5 w5 lo5 hi5 hO5 hF5 hz5; clear t2 _t; have hO45 := hO4.rd.kept hF5 (.inr (by omega)))
    | (at_builtin; refine wpl_append hO5 hO45 (by simp [hd, beB_length]) rfl rfl rfl rfl ?_; intro v6 w6 lo6 hi6 hO6 hF6 hz6; rw [← HB0.out] at hO6; have hW4 := ((hF1.trans hF2).trans hF3).trans hF4; have z4 := hW4.size; have z2 := hF1.size; have z22 := hF2.size; have hW6 := (hW4.on hF5 (by omega)).on hF6 (by omega))
    | (go_at_call 96; refine (c_refOne 9 hO6.rd (by rw [HBL.out]; omega)).mono ?_; rintro e w7 ⟨rfl, hF7⟩; have hB27 := ((((hB2.kept hF3 (.inr (Nat.zero_le _))).kept hF4 (.inr (Nat.zero_le _))).kept hF5 (.inl (by omega))).kept hF6 (.inl (by have := hF5.size; have := hF4.size; omega))).kept hF7 (.inr (Nat.zero_le _)))
    | (refine wpl_store_blk hB27 (by rw [hsl]; rfl) (by rw [siz30, hsl]) (ub_oneCell _) rfl rfl rfl rfl ?_; intro w8 hB8 hF8))
  refine bodyPost_ret (v := .agg (bs (shaB (tagB 9 [B])))) (res_blk rfl rfl hB8 row30 (by rw [siz30, hsl])) rfl ⟨rfl, ?_⟩
  exact (hW6.trans hF7).on hF8 (by omega)

set_option maxHeartbeats 2000000 in
theorem c_refRMay {w : World} (k : UInt8) (d : List UInt8) (c : Int) (hd : d.length = 32) :
    Calls Tryd.prog 107 #[.agg (recL k d c).toArray] w fun e w' => e = .returned (.bool (decide (recChk k c = 0))) ∧ Fr 0 0 w w' := by
  obtain ⟨q, hq⟩ : ∃ q, q = decide (recChk k c = 0) := ⟨_, rfl⟩
  rw [← hq]
  have HQ := Lib.hid hq
  clear hq
  have H : ((k.toNat : Int) = 1 ∧ c = 0 ∧ q = true) ∨ ((k.toNat : Int) = 1 ∧ c = 151 ∧ q = true) ∨ ((k.toNat : Int) = 1 ∧ ¬ c = 0 ∧ ¬ c = 151 ∧ q = false)
      ∨ ((k.toNat : Int) = 2 ∧ c = 0 ∧ q = true) ∨ ((k.toNat : Int) = 2 ∧ c = 151 ∧ q = true) ∨ ((k.toNat : Int) = 2 ∧ c = 150 ∧ q = true) ∨ ((k.toNat : Int) = 2 ∧ ¬ c = 0 ∧ ¬ c = 151 ∧ ¬ c = 150 ∧ q = false)
      ∨ (¬ (k.toNat : Int) = 1 ∧ ¬ (k.toNat : Int) = 2 ∧ q = false) := by
    have e := HQ.out
    unfold recChk at e
    by_cases h : (k.toNat = 2 ∧ c = 150) ∨ ((k.toNat = 1 ∨ k.toNat = 2) ∧ (c = 0 ∨ c = 151))
    · rw [if_pos h] at e
      have e' : q = true := by rw [e]; rfl
      subst e'
      rcases h with ⟨h1, h2⟩ | ⟨h1 | h1, h2 | h2⟩ <;> simp [h1, h2]
    · rw [if_neg h] at e
      have e' : q = false := by rw [e]; rfl
      subst e'
      by_cases h1 : k.toNat = 1
      · simp [h1] at h ⊢
        exact h
      · by_cases h2 : k.toNat = 2
        · simp [h2] at h ⊢
          omega
        · simp; omega
  clear HQ
  rcases H with ⟨h1, h2, rfl⟩ | ⟨h1, h2, rfl⟩ | ⟨h1, h2, h3, rfl⟩ | ⟨h1, h2, rfl⟩ | ⟨h1, h2, rfl⟩ | ⟨h1, h2, rfl⟩ | ⟨h1, h2, h3, h4, rfl⟩ | ⟨h1, h2, rfl⟩
  all_goals
    try subst h2
    go_enter Tryd.func107, Tryd.ntmps107
    go_wp2_with (refine wpl_box (recL k d _) rfl rfl rfl rfl ?_; intro g w1 hB hF hg hs; have c0 := hB.cell 0; have c33 := hB.cell 33; simp [recL, hd, ub, h1] at c0 c33)
    go_ret
    first | exact ⟨rfl, hF⟩ | exact ⟨by simp [*], hF⟩

set_option maxHeartbeats 1000000 in
theorem c_refRCheck {w : World} (k : UInt8) (d : List UInt8) (c : Int) (hd : d.length = 32) :
    Calls Tryd.prog 71 #[.agg (recL k d c).toArray] w fun e w' => e = .returned (.int .i64 (recChk k c)) ∧ Fr 0 0 w w' := by
  have key : ∀ q : Bool, q = decide (recChk k c = 0) → Calls Tryd.prog 71 #[.agg (recL k d c).toArray] w fun e w' => e = .returned (.int .i64 (if q = true then 0 else 8)) ∧ Fr 0 0 w w' := by
    intro q hq
    have HQ := Lib.hid hq
    clear hq
    cases q
    all_goals
      go_enter Tryd.func71, Tryd.ntmps71
      go_wp2_with (first
        | (refine wpl_box (recL k d c) rfl rfl rfl rfl ?_; intro g w1 hB hF1 hg hs)
        | (refine wpl_load_blk hB row43 (by rw [siz43, recL_length _ _ _ hd]) rfl rfl rfl ?_)
        | (go_at_call 107; refine (c_refRMay k d c hd).mono ?_; rintro e w2 ⟨rfl, hF2⟩; rw [← HQ.out]))
      go_ret
      exact ⟨rfl, hF1.trans hF2⟩
  refine (key _ rfl).mono ?_
  rintro e w' ⟨rfl, hF⟩
  refine ⟨?_, hF⟩
  by_cases h : recChk k c = 0
  · simp [h]
  · simp [h, recChk_8 h]

set_option maxRecDepth 100000 in
set_option maxHeartbeats 2000000 in
theorem c_refROf0 {w : World} (k : UInt8) (d : List UInt8) (hd : d.length = 32) :
    Calls Tryd.prog 108 #[.agg (recL k d 0).toArray] w fun e w' => ∃ v', e = .returned v' ∧ OwB w' w.heap.size w'.heap.size v' ([k] ++ d ++ [0, 0]) ∧ Fr 0 0 w w' := by
  have HD := Lib.hid hd
  go_enter Tryd.func108, Tryd.ntmps108
  have t1 := trivial
  go_wp2_with (first
    | (refine wpl_box (recL k d 0) rfl rfl rfl rfl ?_; intro g w1 hB hF1 hg hs; have c0 : w1.cell? ⟨g, 0, none⟩ = some (.int .u8 (k.toNat : Int)) := hB.cell 0; have zg := hB.lt)
    | (at_builtin; have _t := t1; have hK : OwB (w1.alloc (.cells #[.int .u8 (k.toNat : Int)] 5)) w1.heap.size (w1.heap.size + 1) (.slice (some ⟨w1.heap.size, 0, none⟩) 1 1) [k] := OwB.of_blk (l := [k]) (heap_alloc_new w1 _) rfl (Nat.le_refl _) (by omega) (by omega); have hR : RdB (w1.alloc (.cells #[.int .u8 (k.toNat : Int)] 5)) g (g + 1) (.slice (some ⟨g, 1, none⟩) 32 32) d := Blk.rd (A := [ub k]) (Z := [.int .i64 0]) (hB.kept (Fr.alloc _ _) (.inr (Nat.zero_le _))) rfl hd (by omega) (by omega); refine wpl_append hK hR (by simp [HD.out]) rfl rfl rfl rfl ?_; intro v2 w2 lo2 hi2 hO2 hF2 hz2; rw [World.size_alloc] at hz2; have hB2 := (hB.kept (Fr.alloc w1 (.cells #[.int .u8 (k.toNat : Int)] 5)) (.inr (Nat.zero_le _))).kept hF2 (.inl (by omega)); have c33 : w2.cell? ⟨g, 33, none⟩ = some (.int .i64 0) := (by rw [hB2.cell]; simp [recL, HD.out]); have z2 := hF2.size; rw [World.size_alloc] at z2; clear t1 _t)
    | (at_builtin; have hX : OwB (w2.alloc (.cells #[.int .u8 0, .int .u8 0] 5)) w2.heap.size (w2.heap.size + 1) (.slice (some ⟨w2.heap.size, 0, none⟩) 2 2) [0, 0] := OwB.of_blk (l := [0, 0]) (heap_alloc_new w2 _) rfl (Nat.le_refl _) (by omega) (by omega); refine wpl_append (hO2.kept (Fr.alloc _ _) (.inr (Nat.zero_le _))) hX.rd (by simp [HD.out]) rfl rfl rfl rfl ?_; intro v3 w3 lo3 hi3 hO3 hF3 hz3; rw [World.size_alloc] at hz3; have z3 := hF3.size; rw [World.size_alloc] at z3))
  go_ret
  have z1 := hF1.size
  exact ⟨v3, rfl, hO3.mono (by omega) (by omega), (((hF1.trans (Fr.alloc _ _)).on hF2 (by omega)).trans (Fr.alloc _ _)).on hF3 (by omega)⟩

set_option maxRecDepth 100000 in
set_option maxHeartbeats 2000000 in
theorem c_refROf150 {w : World} (k : UInt8) (d : List UInt8) (hd : d.length = 32) :
    Calls Tryd.prog 108 #[.agg (recL k d 150).toArray] w fun e w' => ∃ v', e = .returned v' ∧ OwB w' w.heap.size w'.heap.size v' ([k] ++ d ++ [0, 150]) ∧ Fr 0 0 w w' := by
  have HD := Lib.hid hd
  go_enter Tryd.func108, Tryd.ntmps108
  have t1 := trivial
  go_wp2_with (first
    | (refine wpl_box (recL k d 150) rfl rfl rfl rfl ?_; intro g w1 hB hF1 hg hs; have c0 : w1.cell? ⟨g, 0, none⟩ = some (.int .u8 (k.toNat : Int)) := hB.cell 0; have zg := hB.lt)
    | (at_builtin; have _t := t1; have hK : OwB (w1.alloc (.cells #[.int .u8 (k.toNat : Int)] 5)) w1.heap.size (w1.heap.size + 1) (.slice (some ⟨w1.heap.size, 0, none⟩) 1 1) [k] := OwB.of_blk (l := [k]) (heap_alloc_new w1 _) rfl (Nat.le_refl _) (by omega) (by omega); have hR : RdB (w1.alloc (.cells #[.int .u8 (k.toNat : Int)] 5)) g (g + 1) (.slice (some ⟨g, 1, none⟩) 32 32) d := Blk.rd (A := [ub k]) (Z := [.int .i64 150]) (hB.kept (Fr.alloc _ _) (.inr (Nat.zero_le _))) rfl hd (by omega) (by omega); refine wpl_append hK hR (by simp [HD.out]) rfl rfl rfl rfl ?_; intro v2 w2 lo2 hi2 hO2 hF2 hz2; rw [World.size_alloc] at hz2; have hB2 := (hB.kept (Fr.alloc w1 (.cells #[.int .u8 (k.toNat : Int)] 5)) (.inr (Nat.zero_le _))).kept hF2 (.inl (by omega)); have c33 : w2.cell? ⟨g, 33, none⟩ = some (.int .i64 150) := (by rw [hB2.cell]; simp [recL, HD.out]); have z2 := hF2.size; rw [World.size_alloc] at z2; clear t1 _t)
    | (at_builtin; have hX : OwB (w2.alloc (.cells #[.int .u8 0, .int .u8 150] 5)) w2.heap.size (w2.heap.size + 1) (.slice (some ⟨w2.heap.size, 0, none⟩) 2 2) [0, 150] := OwB.of_blk (l := [0, 150]) (heap_alloc_new w2 _) rfl (Nat.le_refl _) (by omega) (by omega); refine wpl_append (hO2.kept (Fr.alloc _ _) (.inr (Nat.zero_le _))) hX.rd (by simp [HD.out]) rfl rfl rfl rfl ?_; intro v3 w3 lo3 hi3 hO3 hF3 hz3; rw [World.size_alloc] at hz3; have z3 := hF3.size; rw [World.size_alloc] at z3))
  go_ret
  have z1 := hF1.size
  exact ⟨v3, rfl, hO3.mono (by omega) (by omega), (((hF1.trans (Fr.alloc _ _)).on hF2 (by omega)).trans (Fr.alloc _ _)).on hF3 (by omega)⟩

set_option maxRecDepth 100000 in
set_option maxHeartbeats 2000000 in
theorem c_refROf151 {w : World} (k : UInt8) (d : List UInt8) (hd : d.length = 32) :
    Calls Tryd.prog 108 #[.agg (recL k d 151).toArray] w fun e w' => ∃ v', e = .returned v' ∧ OwB w' w.heap.size w'.heap.size v' ([k] ++ d ++ [0, 151]) ∧ Fr 0 0 w w' := by
  have HD := Lib.hid hd
  go_enter Tryd.func108, Tryd.ntmps108
  have t1 := trivial
  go_wp2_with (first
    | (refine wpl_box (recL k d 151) rfl rfl rfl rfl ?_; intro g w1 hB hF1 hg hs; have c0 : w1.cell? ⟨g, 0, none⟩ = some (.int .u8 (k.toNat : Int)) := hB.cell 0; have zg := hB.lt)
    | (at_builtin; have _t := t1; have hK : OwB (w1.alloc (.cells #[.int .u8 (k.toNat : Int)] 5)) w1.heap.size (w1.heap.size + 1) (.slice (some ⟨w1.heap.size, 0, none⟩) 1 1) [k] := OwB.of_blk (l := [k]) (heap_alloc_new w1 _) rfl (Nat.le_refl _) (by omega) (by omega); have hR : RdB (w1.alloc (.cells #[.int .u8 (k.toNat : Int)] 5)) g (g + 1) (.slice (some ⟨g, 1, none⟩) 32 32) d := Blk.rd (A := [ub k]) (Z := [.int .i64 151]) (hB.kept (Fr.alloc _ _) (.inr (Nat.zero_le _))) rfl hd (by omega) (by omega); refine wpl_append hK hR (by simp [HD.out]) rfl rfl rfl rfl ?_; intro v2 w2 lo2 hi2 hO2 hF2 hz2; rw [World.size_alloc] at hz2; have hB2 := (hB.kept (Fr.alloc w1 (.cells #[.int .u8 (k.toNat : Int)] 5)) (.inr (Nat.zero_le _))).kept hF2 (.inl (by omega)); have c33 : w2.cell? ⟨g, 33, none⟩ = some (.int .i64 151) := (by rw [hB2.cell]; simp [recL, HD.out]); have z2 := hF2.size; rw [World.size_alloc] at z2; clear t1 _t)
    | (at_builtin; have hX : OwB (w2.alloc (.cells #[.int .u8 0, .int .u8 151] 5)) w2.heap.size (w2.heap.size + 1) (.slice (some ⟨w2.heap.size, 0, none⟩) 2 2) [0, 151] := OwB.of_blk (l := [0, 151]) (heap_alloc_new w2 _) rfl (Nat.le_refl _) (by omega) (by omega); refine wpl_append (hO2.kept (Fr.alloc _ _) (.inr (Nat.zero_le _))) hX.rd (by simp [HD.out]) rfl rfl rfl rfl ?_; intro v3 w3 lo3 hi3 hO3 hF3 hz3; rw [World.size_alloc] at hz3; have z3 := hF3.size; rw [World.size_alloc] at z3))
  go_ret
  have z1 := hF1.size
  exact ⟨v3, rfl, hO3.mono (by omega) (by omega), (((hF1.trans (Fr.alloc _ _)).on hF2 (by omega)).trans (Fr.alloc _ _)).on hF3 (by omega)⟩

theorem c_refROf {w : World} (k : UInt8) (d : List UInt8) (c : Int) (hd : d.length = 32) (hok : recChk k c = 0) :
    Calls Tryd.prog 108 #[.agg (recL k d c).toArray] w fun e w' => ∃ v', e = .returned v' ∧ OwB w' w.heap.size w'.heap.size v' (recB k d c) ∧ Fr 0 0 w w' := by
  have hc : c = 0 ∨ c = 150 ∨ c = 151 := by
    unfold recChk at hok
    split at hok
    · omega
    · omega
  have hb : recB k d c = [k] ++ d ++ beB 2 c.toNat := by rw [recB, if_pos hok]; simp
  rw [hb]
  rcases hc with rfl | rfl | rfl
  · exact c_refROf0 k d hd
  · exact c_refROf150 k d hd
  · exact c_refROf151 k d hd

set_option maxHeartbeats 1000000 in
theorem c_refRBytes {w : World} (k : UInt8) (d : List UInt8) (c : Int) (hd : d.length = 32) :
    Calls Tryd.prog 68 #[.agg (recL k d c).toArray] w fun e w' => ∃ v', e = .returned (.tuple #[v', .int .i64 (recChk k c)]) ∧ OwB w' w.heap.size w'.heap.size v' (recB k d c) ∧ Fr 0 0 w w' := by
  by_cases hok : recChk k c = 0
  · have HD : Hid (decide (recChk k c = 0) = true) := Lib.hid (decide_eq_true hok)
    have HOK := Lib.hid hok
    rw [hok]
    clear hok
    go_enter Tryd.func68, Tryd.ntmps68
    go_wp2_with (first
      | (refine wpl_box (recL k d c) rfl rfl rfl rfl ?_; intro g w1 hB hF1 hg hs)
      | (refine wpl_load_blk hB row43 (by rw [siz43, recL_length _ _ _ hd]) rfl rfl rfl ?_)
      | (go_at_call 107; refine (c_refRMay k d c hd).mono ?_; rintro e w2 ⟨rfl, hF2⟩; rw [HD.out]; have hB2 := hB.kept hF2 (.inr (Nat.zero_le _)))
      | (refine wpl_load_blk hB2 row43 (by rw [siz43, recL_length _ _ _ hd]) rfl rfl rfl ?_)
      | (go_at_call 108; refine (c_refROf k d c hd HOK.out).mono ?_; rintro e w3 ⟨v3, rfl, hO3, hF3⟩))
    go_ret2
    have z := (hF1.trans hF2).size
    exact ⟨_, rfl, hO3.mono z (Nat.le_refl _), (hF1.trans hF2).trans hF3⟩
  · have hrb : recB k d c = [] := by rw [recB, if_neg hok]
    have HD : Hid (decide (recChk k c = 0) = false) := Lib.hid (decide_eq_false hok)
    rw [hrb, recChk_8 hok]
    clear hok hrb
    go_enter Tryd.func68, Tryd.ntmps68
    go_wp2_with (first
      | (refine wpl_box (recL k d c) rfl rfl rfl rfl ?_; intro g w1 hB hF1 hg hs)
      | (refine wpl_load_blk hB row43 (by rw [siz43, recL_length _ _ _ hd]) rfl rfl rfl ?_)
      | (go_at_call 107; refine (c_refRMay k d c hd).mono ?_; rintro e w2 ⟨rfl, hF2⟩; rw [HD.out]))
    go_ret2
    exact ⟨_, rfl, OwB.nil _ _ _, hF1.trans hF2⟩

end Go.Proofs.YtgndidjfjdaagaaDoor
