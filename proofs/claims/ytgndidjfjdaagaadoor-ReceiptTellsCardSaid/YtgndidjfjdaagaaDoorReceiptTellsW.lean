/-
  The walk of the law ReceiptTells.
-/
import Derived.Test.YtgndidjfjdaagaaDoorRefR2
import Derived.Test.YtgndidjfjdaagaaDoorOpenR
set_option linter.unusedSimpArgs false
set_option linter.unusedVariables false
set_option linter.unnecessarySimpa false
namespace Go.Proofs.YtgndidjfjdaagaaDoor
open Go.RowKit

theorem siz97 : (Tryd.prog.info? 97).map (·.size) = some 34 := by kernel_rfl
theorem recRead_LF (l : List UInt8) : LF lfR (recRead l).1 := by
  unfold recRead
  by_cases h1 : l.length < 35
  · rw [if_pos h1]; exact lfR_recL _ _ _ (by simp)
  · rw [if_neg h1]
    by_cases h2 : 35 < l.length
    · rw [if_pos h2]; exact lfR_recL _ _ _ (by simp)
    · rw [if_neg h2]
      split
      · exact lfR_recL _ _ _ (by simp; omega)
      · exact lfR_recL _ _ _ (by simp)

set_option maxRecDepth 100000 in
set_option maxHeartbeats 8000000 in
theorem w_ReceiptTells {w : World} {v : Value} {l : List UInt8} (n : Nat) (dd : List UInt8) (a : Nat) (hdd : dd.length = 32) (hn : n < 18446744073709551616) (ha : a < 18446744073709551616)
    (k : UInt8) (d : List UInt8) (c : Int) (hd : d.length = 32) (h : RdB w 0 w.heap.size v l) (hk : KT w) :
    Calls Tryd.prog 13 #[.agg (depL n dd a).toArray, .agg (recL k d c).toArray, v] w fun e w' => e = .returned (.bool true) ∧ Fr 0 0 w w' := by
  obtain ⟨aa, cap, rfl, hc1, hc2, hc3⟩ := h.form
  by_cases hl : 100 < l.length
  · go_enter Tryd.func13, Tryd.ntmps13
    have t1 := trivial
    go_wp2_with (first
      | (have _t := t1; refine wpl_box (depL n dd a) rfl rfl rfl rfl ?_; intro g1 w1 hB1 hF1 hg1 hs1; clear t1 _t)
      | (refine wpl_box (recL k d c) rfl rfl rfl rfl ?_; intro g2 w2 hB2 hF2 hg2 hs2))
    go_ret
    exact ⟨rfl, hF1.trans hF2⟩
  · have HLR := Lib.hid (recL_length k d c hd)
    have HLD := Lib.hid (depL_length n dd a hdd)
    obtain ⟨D, hD⟩ : ∃ D, D = depH n dd a := ⟨_, rfl⟩
    have hDl : D.length = 32 := by rw [hD, depH, shaB_length]
    have HDH := Lib.hid hD.symm
    obtain ⟨C, hC⟩ : ∃ C, C = recChk k c := ⟨_, rfl⟩
    have HC := Lib.hid hC.symm
    obtain ⟨B, hBB⟩ : ∃ B, B = recB k d c := ⟨_, rfl⟩
    have HB := Lib.hid hBB
    obtain ⟨L2, hL2⟩ : ∃ L, L = (recRead l).1 := ⟨_, rfl⟩
    obtain ⟨C2, hC2⟩ : ∃ C, C = (recRead l).2 := ⟨_, rfl⟩
    have HL2 := Lib.hid hL2
    have HC2 := Lib.hid hC2
    have hlf2 : LF lfR L2 := by rw [hL2]; exact recRead_LF l
    have hlen2 : L2.length = 34 := by rw [hlf2.length]; rfl
    have HLEN2 := Lib.hid hlen2
    have hll : l.length ≤ 1073741824 := by omega
    have HBE : Hid ((B == B) = true) := Lib.hid (by simp)
    have HLE : Hid ((l == l) = true) := Lib.hid (by simp)
    clear hD hC hBB hL2 hC2 hlen2
    go_enter Tryd.func13, Tryd.ntmps13
    have t1 := trivial
    have t2 := trivial
    go_wp2_with (first
      | (have _t := t1; refine wpl_box (depL n dd a) rfl rfl rfl rfl ?_; intro g1 w1 hX1 hF1 hg1 hs1; clear t1 _t)
      | (refine wpl_box (recL k d c) rfl rfl rfl rfl ?_; intro g2 w2 hX2 hF2 hg2 hs2; have hW2 := hF1.trans hF2; have h2 := h.kept hW2 (.inr (Nat.zero_le _)))
      | (go_at_call 21; refine (c_Twin h2 hll).mono ?_; rintro e w3 ⟨v3, rfl, hO3, hF3⟩; have hY3 := hX2.kept hF3 (.inr (Nat.zero_le _)); have hW3 := hW2.trans hF3)
      | (refine wpl_load_blk hY3 row43 (by rw [siz43, HLR.out]) rfl rfl rfl ?_)
      | (go_at_call 67; refine (c_recBytes k d c hd).mono ?_; rintro e w4 ⟨v4, rfl, hO4, hF4⟩; rw [HC.out]; rw [← HB.out] at hO4; have hY4 := hY3.kept hF4 (.inr (Nat.zero_le _)); have hW4 := hW3.trans hF4)
      | (refine wpl_load_blk hY4 row43 (by rw [siz43, HLR.out]) rfl rfl rfl ?_)
      | (go_at_call 68; refine (c_refRBytes k d c hd).mono ?_; rintro e w5 ⟨v5, rfl, hO5, hF5⟩; rw [HC.out]; rw [← HB.out] at hO5; have hW5 := hW4.trans hF5; have hO35 := (hO3.kept hF4 (.inr (Nat.zero_le _))).kept hF5 (.inr (Nat.zero_le _)))
      | (go_at_call 63; refine (c_recRead hO35.rd hll).mono ?_; rintro e w6 ⟨rfl, hF6⟩; rw [← HL2.out, ← HC2.out]; have hW6 := hW5.trans hF6)
      | (have _t := t2; refine wpl_alloc zer43 rfl rfl rfl ?_; intro g7 w7 hA7 hF7 hg7 hs7; clear t2 _t)
      | (have _t := hA7; refine wpl_store_blk hA7 (by rw [rec0_length, HLEN2.out]) (by rw [siz43, HLEN2.out]) hlf2.one rfl rfl rfl rfl ?_; intro w8 hB8 hF8; clear hA7 _t; have hF68 : Fr 0 0 w6 w8 := hF7.on hF8 hg7; have hW8 := hW6.trans hF68; have h8 := h.kept hW8 (.inr (Nat.zero_le _)))
      | (go_at_call 69; refine (c_refRRead h8 hll).mono ?_; rintro e w9 ⟨rfl, hF9⟩; rw [← HL2.out, ← HC2.out]; have hW9 := hW8.trans hF9)
      | (refine wpl_alloc zer43 rfl rfl rfl ?_; intro g10 w10 hA10 hF10 hg10 hs10)
      | (refine wpl_store_blk hA10 (by rw [rec0_length, HLEN2.out]) (by rw [siz43, HLEN2.out]) hlf2.one rfl rfl rfl rfl ?_; intro w12 hB12 hF12; clear hA10; have hF912 : Fr 0 0 w9 w12 := hF10.on hF12 hg10; have hW12 := hW9.trans hF912))
    have hk12 := hk.kept hW12 (.inr (Nat.zero_le _))
    have hF812 := hF9.trans hF912
    have hF512 := (hF6.trans hF68).trans hF812
    have hF312 : Fr 0 0 w3 w12 := (hF4.trans hF5).trans hF512
    have hR12 := hY3.kept hF312 (.inr (Nat.zero_le _))
    have hD12 := ((hX1.kept hF2 (.inr (Nat.zero_le _))).kept hF3 (.inr (Nat.zero_le _))).kept hF312 (.inr (Nat.zero_le _))
    have hG7 := hB8.kept hF812 (.inr (Nat.zero_le _))
    have hR3 := hO3.rd.kept hF312 (.inr (Nat.zero_le _))
    have hR4 := hO4.rd.kept (hF5.trans hF512) (.inr (Nat.zero_le _))
    have hR5 := hO5.rd.kept hF512 (.inr (Nat.zero_le _))
    have h12 := h.kept hW12 (.inr (Nat.zero_le _))
    clear hX1 hX2 hY3 hY4 hO3 hO4 hO5 hO35 hB8 h8 h2
    refine' wp_region_sure (S := fun ws => Fr 0 0 w12 ws) (E := fun _ => Fr 0 0) (kill := fun _ => []) (Y := [yEq _, yEq _, yEq _, yEq _, yEq _, yEq _, yEq _, yEq _, yEq _, yEq _, yEq _, yEq _, yEq _]) (F := _) (by kernel_rfl) (by kernel_rfl) (by kernel_rfl) (fun V => ?hF) ?hS ?hstep ?hY ?hend
    case hF => simp only [fillA, Act.put, List.setIfInBounds_toArray, List.set_cons_zero, List.set_cons_succ, Nat.reduceAdd, Nat.zero_add]; rfl
    case hS => exact Fr.drew _
    case hstep =>
      -- 0: t42 := Op.load 97 (tmp 3)
      refine StepsOk.cons (i := 0) (fun V ws hS hD K hK => ?_) ?_
      · refine su_load_blk (hD12.kept hS (.inr (Nat.zero_le _))) rowDep (by rw [siz97, HLD.out]) rfl rfl rfl (hK.out _ _ hS (Fr.refl _ _ _) ?_); rfl
      -- 1: t43 := Op.call { callee := Callee.value (66), args := #[tmp 42], argTypes := #[97] }
      refine StepsOk.cons (i := 1) (fun V ws hS hD K hK => ?_) ?_
      · have d0 : V 0 = _ := hD.out 0 (by kernel_rfl)
        refine sure_call (f := 66) (args := #[_]) rfl (by go_simp) (c_Deposit n dd a hdd hn ha (hk12.kept hS (.inr (Nat.zero_le _)))) ?_
        rintro e w4 ⟨rfl, hF4⟩
        rw [HDH.out]
        refine ⟨_, rfl, hK.out _ _ (hS.trans hF4) hF4 ?_⟩; rfl
      -- 2: t44 := Op.load 97 (tmp 3)
      refine StepsOk.cons (i := 2) (fun V ws hS hD K hK => ?_) ?_
      · refine su_load_blk (hD12.kept hS (.inr (Nat.zero_le _))) rowDep (by rw [siz97, HLD.out]) rfl rfl rfl (hK.out _ _ hS (Fr.refl _ _ _) ?_); rfl
      -- 3: t45 := Op.call { callee := Callee.value (70), args := #[tmp 44], argTypes := #[97] }
      refine StepsOk.cons (i := 3) (fun V ws hS hD K hK => ?_) ?_
      · have d2 : V 2 = _ := hD.out 2 (by kernel_rfl)
        refine sure_call (f := 70) (args := #[_]) rfl (by go_simp) (c_refDeposit n dd a hdd hn ha) ?_
        rintro e w4 ⟨rfl, hF4⟩
        rw [HDH.out]
        refine ⟨_, rfl, hK.out _ _ (hS.trans hF4) hF4 ?_⟩; rfl
      -- 4: t46 := Op.binOp BinOp.eql 30 (tmp 43) (tmp 45) 30
      refine StepsOk.cons (i := 4) (fun V ws hS hD K hK => ?_) ?_
      · have d1 : V 1 = _ := hD.out 1 (by kernel_rfl)
        have d3 : V 3 = _ := hD.out 3 (by kernel_rfl)
        refine su_eqt leaves30 (by omega) row30 eqg30 (LF.bytes32 D hDl) (LF.bytes32 D hDl) rfl rfl rfl d1 d3 (hK.out _ _ hS (Fr.refl _ _ _) ?_); rfl
      -- 5: t47 := Op.move (tmp 46)
      refine StepsOk.cons (i := 5) (fun V ws hS hD K hK => ?_) ?_
      · have d4 : V 4 = _ := hD.out 4 (by kernel_rfl)
        refine' sure_val (v := _) (w' := ws) rfl ?hr (hK.out _ _ hS (Fr.refl _ _ _) ?hy)
        case hr => go_simp; rfl
        case hy => rfl
      -- 6: t48 := Op.load 56 (tmp 4)   GUARD 5
      refine StepsOk.cons (i := 6) (fun V ws hS hD K hK => ?_) ?_
      · have d5 : V 5 = _ := hD.out 5 (by kernel_rfl)
        refine su_load_blk (hR12.kept hS (.inr (Nat.zero_le _))) row43 (by rw [siz43, HLR.out]) (by rw [d5]; rfl) rfl rfl (hK.out _ _ hS (Fr.refl _ _ _) ?_); rfl
      -- 7: t49 := Op.call { callee := Callee.value (64), args := #[tmp 48], argTypes := #[56] }   GUARD 5
      refine StepsOk.cons (i := 7) (fun V ws hS hD K hK => ?_) ?_
      · have d5 : V 5 = _ := hD.out 5 (by kernel_rfl)
        have d6 : V 6 = _ := hD.out 6 (by kernel_rfl)
        refine sure_call (f := 64) (args := #[_]) (by rw [d5]; rfl) (by go_simp) (c_recCheck k d c hd) ?_
        rintro e w4 ⟨rfl, hF4⟩
        rw [HC.out]
        refine ⟨_, rfl, hK.out _ _ (hS.trans hF4) hF4 ?_⟩; rfl
      -- 8: t50 := Op.load 56 (tmp 4)   GUARD 5
      refine StepsOk.cons (i := 8) (fun V ws hS hD K hK => ?_) ?_
      · have d5 : V 5 = _ := hD.out 5 (by kernel_rfl)
        refine su_load_blk (hR12.kept hS (.inr (Nat.zero_le _))) row43 (by rw [siz43, HLR.out]) (by rw [d5]; rfl) rfl rfl (hK.out _ _ hS (Fr.refl _ _ _) ?_); rfl
      -- 9: t51 := Op.call { callee := Callee.value (71), args := #[tmp 50], argTypes := #[56] }   GUARD 5
      refine StepsOk.cons (i := 9) (fun V ws hS hD K hK => ?_) ?_
      · have d5 : V 5 = _ := hD.out 5 (by kernel_rfl)
        have d8 : V 8 = _ := hD.out 8 (by kernel_rfl)
        refine sure_call (f := 71) (args := #[_]) (by rw [d5]; rfl) (by go_simp) (c_refRCheck k d c hd) ?_
        rintro e w4 ⟨rfl, hF4⟩
        rw [HC.out]
        refine ⟨_, rfl, hK.out _ _ (hS.trans hF4) hF4 ?_⟩; rfl
      -- 10: t52 := Op.binOp BinOp.eql 3 (tmp 49) (tmp 51) 3   GUARD 5
      refine StepsOk.cons (i := 10) (fun V ws hS hD K hK => ?_) ?_
      · have d5 : V 5 = _ := hD.out 5 (by kernel_rfl)
        have d7 : V 7 = _ := hD.out 7 (by kernel_rfl)
        have d9 : V 9 = _ := hD.out 9 (by kernel_rfl)
        refine' sure_val (v := _) (w' := ws) (by rw [d5]; rfl) ?hr (hK.out _ _ hS (Fr.refl _ _ _) ?hy)
        case hr => go_simp; rfl
        case hy => rfl
      -- 11: t53 := Op.pick (tmp 47) (tmp 52) (const (Value.bool false))
      refine StepsOk.cons (i := 11) (fun V ws hS hD K hK => ?_) ?_
      · have d5 : V 5 = _ := hD.out 5 (by kernel_rfl)
        have d10 : V 10 = _ := hD.out 10 (by kernel_rfl)
        refine' sure_val (v := _) (w' := ws) rfl ?hr (hK.out _ _ hS (Fr.refl _ _ _) ?hy)
        case hr => go_simp; rfl
        case hy => rfl
      -- 12: t16 := Op.assign (tmp 53)
      refine StepsOk.cons (i := 12) (fun V ws hS hD K hK => ?_) ?_
      · have d11 : V 11 = _ := hD.out 11 (by kernel_rfl)
        refine' sure_val (v := _) (w' := ws) rfl ?hr (hK.out _ _ hS (Fr.refl _ _ _) ?hy)
        case hr => go_simp; rfl
        case hy => rfl
      exact StepsOk.nil
    case hY => repeat first | exact yKeep.nil | refine yKeep.eq ?_
    case hend =>
      intro V ws hS hall
      have d12 : V 12 = _ := hall.out 12 (by kernel_rfl)
      rw [d12]
      clear d12 hall
      have hG7s := hG7.kept hS (.inr (Nat.zero_le _))
      have hG10s := hB12.kept hS (.inr (Nat.zero_le _))
      have hR3s := hR3.kept hS (.inr (Nat.zero_le _))
      have hR4s := hR4.kept hS (.inr (Nat.zero_le _))
      have hR5s := hR5.kept hS (.inr (Nat.zero_le _))
      have h12s := h12.kept hS (.inr (Nat.zero_le _))
      have t3 := trivial
      go_wp2_with (first
        | (have _t := t3; go_at_call 23; refine (c_Same hR4s hR5s).mono ?_; rintro e w13 ⟨rfl, rfl⟩; rw [HBE.out]; clear t3 _t)
        | (refine wpl_load_blkG hG7s row43 (by rw [siz43, HLEN2.out]) rfl rfl rfl ?_)
        | (refine wpl_load_blkG hG10s row43 (by rw [siz43, HLEN2.out]) rfl rfl rfl ?_)
        | (refine wpl_eql leaves43 (by omega) row43 eqg43 hlf2 hlf2 rfl rfl rfl rfl ?_; intro r hr; obtain rfl : r = true := hr.2 rfl; clear hr)
        | (go_at_call 23; refine (c_Same hR3s h12s).mono ?_; rintro e w14 ⟨rfl, rfl⟩; rw [HLE.out]))
      go_ret
      exact ⟨rfl, hW12.trans hS⟩

end Go.Proofs.YtgndidjfjdaagaaDoor
