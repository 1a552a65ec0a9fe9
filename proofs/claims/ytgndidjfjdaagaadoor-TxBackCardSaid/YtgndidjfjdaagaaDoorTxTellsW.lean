/-
  The walk of the law TxTells.
-/
import Derived.Test.YtgndidjfjdaagaaDoorRefT
set_option linter.unusedSimpArgs false
set_option linter.unusedVariables false
set_option linter.unnecessarySimpa false
namespace Go.Proofs.YtgndidjfjdaagaaDoor
open Go.RowKit

def lfT : List (Option IntKind) := List.replicate 32 (some .u8) ++ (List.replicate 32 (some .u8) ++ ([some .u64, some .u64, some .u64] ++ List.replicate 32 (some .u8)))
theorem leaves39 : leaves Tryd.prog 4 39 = some lfT := by kernel_rfl
theorem eqg39 : Tryd.prog.eqGuardType Tryd.prog.depth 39 = false := by kernel_rfl
theorem lfT_txL {x : TxD} (h : TxOk x) : LF lfT (txL x) := by
  obtain ⟨h1, h2, h3, _⟩ := h
  exact LF.append (LF.bytes32 _ h1) (LF.append (LF.bytes32 _ h2) (LF.append (ks := [some .u64, some .u64, some .u64]) ⟨⟨_, rfl⟩, ⟨_, rfl⟩, ⟨_, rfl⟩, trivial⟩ (LF.bytes32 _ h3)))

set_option maxRecDepth 100000 in
set_option maxHeartbeats 8000000 in
theorem w_TxTells {w : World} (x : TxD) (hx : TxOk x) (hk : KT w) :
    Calls Tryd.prog 7 #[.agg (txL x).toArray] w fun e w' => e = .returned (.bool true) ∧ Fr 0 0 w w' := by
  have HL := Lib.hid (txL_length hx)
  have HX : Hid (TxOk x) := hx
  obtain ⟨Y, hY⟩ : ∃ Y, Y = txL (signed x) := ⟨_, rfl⟩
  have hlf : LF lfT Y := by rw [hY]; exact lfT_txL (signed_ok hx)
  have HSG := Lib.hid hY
  obtain ⟨c, hc⟩ : ∃ c : Int, c = if x.s = signH x then 0 else 110 := ⟨_, rfl⟩
  have HC := Lib.hid hc
  obtain ⟨A, hA⟩ : ∃ A, A = keyH x.p := ⟨_, rfl⟩
  have hAl : A.length = 32 := by rw [hA, keyH, shaB_length]
  have HFR := Lib.hid hA
  obtain ⟨I, hI⟩ : ∃ I, I = idH x := ⟨_, rfl⟩
  have hIl : I.length = 32 := by rw [hI, idH, shaB_length]
  have HID := Lib.hid hI
  clear hY hc hA hI hx
  go_enter Tryd.func7, Tryd.ntmps7
  go_wp2_with (refine wpl_box (txL x) rfl rfl rfl rfl ?_; intro g1 w1 hB1 hF1 hg1 hgs1)
  refine' wp_region_sure (S := fun ws => Fr 0 0 w1 ws) (E := fun _ => Fr 0 0) (kill := fun _ => []) (Y := [yEq _, yW fun v ws => ∃ lo hi, RdB ws lo hi v (bodyB x), yEq _, yW fun v ws => ∃ lo hi, RdB ws lo hi v (bodyB x), yEq _, yEq _, yEq _, yEq _, yEq _, yEq _, yEq _, yEq _, yEq _, yEq _, yEq _, yEq _, yEq _, yEq _, yEq _, yEq _]) (F := _) (by kernel_rfl) (by kernel_rfl) (by kernel_rfl) (fun V => ?hF) ?hS ?hstep ?hY ?hend
  case hF => simp only [fillA, Act.put, List.setIfInBounds_toArray, List.set_cons_zero, List.set_cons_succ, Nat.reduceAdd, Nat.zero_add]; rfl
  case hS => exact Fr.drew _
  case hstep =>
    -- 0: t4 := Op.load 39 (tmp 1)
    refine StepsOk.cons (i := 0) (fun V ws hS hD K hK => ?_) ?_
    · refine su_load_blk (hB1.kept hS (.inr (Nat.zero_le _))) row39 (by rw [siz39, HL.out]) rfl rfl rfl (hK.out _ _ hS (Fr.refl _ _ _) ?_); rfl
    -- 1: t5 := Op.call { callee := Callee.value (37), args := #[tmp 4], argTypes := #[39] }
    refine StepsOk.cons (i := 1) (fun V ws hS hD K hK => ?_) ?_
    · have d0 : V 0 = _ := hD.out 0 (by kernel_rfl)
      refine sure_call (f := 37) (args := #[_]) rfl (by go_simp) (c_txBody x HX.out) ?_
      rintro e w4 ⟨v4, rfl, hO4, hF4⟩
      exact ⟨_, rfl, hK.out _ _ (hS.trans hF4) hF4 ⟨_, _, hO4.rd⟩⟩
    -- 2: t6 := Op.load 39 (tmp 1)
    refine StepsOk.cons (i := 2) (fun V ws hS hD K hK => ?_) ?_
    · refine su_load_blk (hB1.kept hS (.inr (Nat.zero_le _))) row39 (by rw [siz39, HL.out]) rfl rfl rfl (hK.out _ _ hS (Fr.refl _ _ _) ?_); rfl
    -- 3: t7 := Op.call { callee := Callee.value (43), args := #[tmp 6], argTypes := #[39] }
    refine StepsOk.cons (i := 3) (fun V ws hS hD K hK => ?_) ?_
    · have d2 : V 2 = _ := hD.out 2 (by kernel_rfl)
      refine sure_call (f := 43) (args := #[_]) rfl (by go_simp) (c_refTBody x HX.out) ?_
      rintro e w4 ⟨v4, rfl, hO4, hF4⟩
      exact ⟨_, rfl, hK.out _ _ (hS.trans hF4) hF4 ⟨_, _, hO4.rd⟩⟩
    -- 4: t8 := Op.call { callee := Callee.value (23), args := #[tmp 5, tmp 7], argTypes := #[24, 24] }
    refine StepsOk.cons (i := 4) (fun V ws hS hD K hK => ?_) ?_
    · obtain ⟨lo1, hi1, hO1⟩ : ∃ lo hi, RdB ws lo hi (V 1) _ := hD.out 1 (by kernel_rfl)
      obtain ⟨lo3, hi3, hO3⟩ : ∃ lo hi, RdB ws lo hi (V 3) _ := hD.out 3 (by kernel_rfl)
      refine sure_call (f := 23) (args := #[V 1, V 3]) rfl (by go_simp) (c_Same hO1 hO3) ?_
      rintro e w4 ⟨rfl, rfl⟩
      rw [beq_self_eq_true]
      refine ⟨_, rfl, hK.out _ _ hS (Fr.refl _ _ _) ?_⟩; rfl
    -- 5: t9 := Op.move (tmp 8)
    refine StepsOk.cons (i := 5) (fun V ws hS hD K hK => ?_) ?_
    · have d4 : V 4 = _ := hD.out 4 (by kernel_rfl)
      refine' sure_val (v := _) (w' := ws) rfl ?hr (hK.out _ _ hS (Fr.refl _ _ _) ?hy)
      case hr => go_simp; rfl
      case hy => rfl
    -- 6: t10 := Op.load 39 (tmp 1)   GUARD 5
    refine StepsOk.cons (i := 6) (fun V ws hS hD K hK => ?_) ?_
    · have d5 : V 5 = _ := hD.out 5 (by kernel_rfl)
      refine su_load_blk (hB1.kept hS (.inr (Nat.zero_le _))) row39 (by rw [siz39, HL.out]) (by rw [d5]; rfl) rfl rfl (hK.out _ _ hS (Fr.refl _ _ _) ?_); rfl
    -- 7: t11 := Op.call { callee := Callee.value (36), args := #[tmp 10], argTypes := #[39] }   GUARD 5
    refine StepsOk.cons (i := 7) (fun V ws hS hD K hK => ?_) ?_
    · have d5 : V 5 = _ := hD.out 5 (by kernel_rfl)
      have d6 : V 6 = _ := hD.out 6 (by kernel_rfl)
      refine sure_call (f := 36) (args := #[_]) (by rw [d5]; rfl) (by go_simp) (c_txSign x HX.out ((hk.kept hF1 (.inr (Nat.zero_le _))).kept hS (.inr (Nat.zero_le _)))) ?_
      rintro e w4 ⟨rfl, hF4⟩
      rw [← HSG.out]
      refine ⟨_, rfl, hK.out _ _ (hS.trans hF4) hF4 ?_⟩; rfl
    -- 8: t12 := Op.load 39 (tmp 1)   GUARD 5
    refine StepsOk.cons (i := 8) (fun V ws hS hD K hK => ?_) ?_
    · have d5 : V 5 = _ := hD.out 5 (by kernel_rfl)
      refine su_load_blk (hB1.kept hS (.inr (Nat.zero_le _))) row39 (by rw [siz39, HL.out]) (by rw [d5]; rfl) rfl rfl (hK.out _ _ hS (Fr.refl _ _ _) ?_); rfl
    -- 9: t13 := Op.call { callee := Callee.value (44), args := #[tmp 12], argTypes := #[39] }   GUARD 5
    refine StepsOk.cons (i := 9) (fun V ws hS hD K hK => ?_) ?_
    · have d5 : V 5 = _ := hD.out 5 (by kernel_rfl)
      have d8 : V 8 = _ := hD.out 8 (by kernel_rfl)
      refine sure_call (f := 44) (args := #[_]) (by rw [d5]; rfl) (by go_simp) (c_refTSign x HX.out) ?_
      rintro e w4 ⟨rfl, hF4⟩
      rw [← HSG.out]
      refine ⟨_, rfl, hK.out _ _ (hS.trans hF4) hF4 ?_⟩; rfl
    -- 10: t14 := Op.binOp BinOp.eql 39 (tmp 11) (tmp 13) 39   GUARD 5
    refine StepsOk.cons (i := 10) (fun V ws hS hD K hK => ?_) ?_
    · have d5 : V 5 = _ := hD.out 5 (by kernel_rfl)
      have d7 : V 7 = _ := hD.out 7 (by kernel_rfl)
      have d9 : V 9 = _ := hD.out 9 (by kernel_rfl)
      refine su_eqt leaves39 (by omega) row39 eqg39 hlf hlf rfl (by rw [d5]; rfl) rfl d7 d9 (hK.out _ _ hS (Fr.refl _ _ _) ?_); rfl
    -- 11: t15 := Op.pick (tmp 9) (tmp 14) (const (Value.bool false))
    refine StepsOk.cons (i := 11) (fun V ws hS hD K hK => ?_) ?_
    · have d5 : V 5 = _ := hD.out 5 (by kernel_rfl)
      have d10 : V 10 = _ := hD.out 10 (by kernel_rfl)
      refine' sure_val (v := _) (w' := ws) rfl ?hr (hK.out _ _ hS (Fr.refl _ _ _) ?hy)
      case hr => go_simp; rfl
      case hy => rfl
    -- 12: t16 := Op.move (tmp 15)
    refine StepsOk.cons (i := 12) (fun V ws hS hD K hK => ?_) ?_
    · have d11 : V 11 = _ := hD.out 11 (by kernel_rfl)
      refine' sure_val (v := _) (w' := ws) rfl ?hr (hK.out _ _ hS (Fr.refl _ _ _) ?hy)
      case hr => go_simp; rfl
      case hy => rfl
    -- 13: t17 := Op.load 39 (tmp 1)   GUARD 12
    refine StepsOk.cons (i := 13) (fun V ws hS hD K hK => ?_) ?_
    · have d12 : V 12 = _ := hD.out 12 (by kernel_rfl)
      refine su_load_blk (hB1.kept hS (.inr (Nat.zero_le _))) row39 (by rw [siz39, HL.out]) (by rw [d12]; rfl) rfl rfl (hK.out _ _ hS (Fr.refl _ _ _) ?_); rfl
    -- 14: t18 := Op.call { callee := Callee.value (34), args := #[tmp 17], argTypes := #[39] }   GUARD 12
    refine StepsOk.cons (i := 14) (fun V ws hS hD K hK => ?_) ?_
    · have d12 : V 12 = _ := hD.out 12 (by kernel_rfl)
      have d13 : V 13 = _ := hD.out 13 (by kernel_rfl)
      refine sure_call (f := 34) (args := #[_]) (by rw [d12]; rfl) (by go_simp) (c_txCheck x HX.out ((hk.kept hF1 (.inr (Nat.zero_le _))).kept hS (.inr (Nat.zero_le _)))) ?_
      rintro e w4 ⟨rfl, hF4⟩
      rw [← HC.out]
      refine ⟨_, rfl, hK.out _ _ (hS.trans hF4) hF4 ?_⟩; rfl
    -- 15: t19 := Op.load 39 (tmp 1)   GUARD 12
    refine StepsOk.cons (i := 15) (fun V ws hS hD K hK => ?_) ?_
    · have d12 : V 12 = _ := hD.out 12 (by kernel_rfl)
      refine su_load_blk (hB1.kept hS (.inr (Nat.zero_le _))) row39 (by rw [siz39, HL.out]) (by rw [d12]; rfl) rfl rfl (hK.out _ _ hS (Fr.refl _ _ _) ?_); rfl
    -- 16: t20 := Op.call { callee := Callee.value (45), args := #[tmp 19], argTypes := #[39] }   GUARD 12
    refine StepsOk.cons (i := 16) (fun V ws hS hD K hK => ?_) ?_
    · have d12 : V 12 = _ := hD.out 12 (by kernel_rfl)
      have d15 : V 15 = _ := hD.out 15 (by kernel_rfl)
      refine sure_call (f := 45) (args := #[_]) (by rw [d12]; rfl) (by go_simp) (c_refTCheck x HX.out) ?_
      rintro e w4 ⟨rfl, hF4⟩
      rw [← HC.out]
      refine ⟨_, rfl, hK.out _ _ (hS.trans hF4) hF4 ?_⟩; rfl
    -- 17: t21 := Op.binOp BinOp.eql 3 (tmp 18) (tmp 20) 3   GUARD 12
    refine StepsOk.cons (i := 17) (fun V ws hS hD K hK => ?_) ?_
    · have d12 : V 12 = _ := hD.out 12 (by kernel_rfl)
      have d14 : V 14 = _ := hD.out 14 (by kernel_rfl)
      have d16 : V 16 = _ := hD.out 16 (by kernel_rfl)
      refine' sure_val (v := _) (w' := ws) (by rw [d12]; rfl) ?hr (hK.out _ _ hS (Fr.refl _ _ _) ?hy)
      case hr => go_simp; rfl
      case hy => rfl
    -- 18: t22 := Op.pick (tmp 16) (tmp 21) (const (Value.bool false))
    refine StepsOk.cons (i := 18) (fun V ws hS hD K hK => ?_) ?_
    · have d12 : V 12 = _ := hD.out 12 (by kernel_rfl)
      have d17 : V 17 = _ := hD.out 17 (by kernel_rfl)
      refine' sure_val (v := _) (w' := ws) rfl ?hr (hK.out _ _ hS (Fr.refl _ _ _) ?hy)
      case hr => go_simp; rfl
      case hy => rfl
    -- 19: t3 := Op.assign (tmp 22)
    refine StepsOk.cons (i := 19) (fun V ws hS hD K hK => ?_) ?_
    · have d18 : V 18 = _ := hD.out 18 (by kernel_rfl)
      refine' sure_val (v := _) (w' := ws) rfl ?hr (hK.out _ _ hS (Fr.refl _ _ _) ?hy)
      case hr => go_simp; rfl
      case hy => rfl
    exact StepsOk.nil
  case hY =>
    repeat first
      | exact yKeep.nil
      | refine yKeep.eq ?_
      | refine yKeep.cons (fun i v w w' _ hE h => by obtain ⟨lo, hi, h1⟩ := h; exact ⟨lo, hi, h1.kept hE (.inr (Nat.zero_le _))⟩) ?_
  case hend =>
    intro V ws hS hall
    have d19 : V 19 = _ := hall.out 19 (by kernel_rfl)
    rw [d19]
    clear d19 hall
    go_wp2_with fail
    refine' wp_region_sure (S := fun wt => Fr 0 0 w1 wt) (E := fun _ => Fr 0 0) (kill := fun _ => []) (Y := [yEq _, yEq _, yEq _, yEq _, yEq _, yEq _, yEq _, yEq _, yEq _, yEq _, yEq _, yEq _, yEq _, yEq _, yEq _, yEq _, yEq _, yW fun v ws => ∃ lo hi, RdB ws lo hi v (txB x), yEq _, yW fun v ws => ∃ lo hi, RdB ws lo hi v (txB x), yEq _, yEq _, yEq _]) (F := _) (by kernel_rfl) (by kernel_rfl) (by kernel_rfl) (fun V => ?hF) ?hS ?hstep ?hY ?hend
    case hF => simp only [fillA, Act.put, List.setIfInBounds_toArray, List.set_cons_zero, List.set_cons_succ, Nat.reduceAdd, Nat.zero_add]; rfl
    case hS => exact hS.trans (Fr.drew _)
    case hstep =>
      -- 0: t23 := Op.move (tmp 3)
      refine StepsOk.cons (i := 0) (fun V ws hS hD K hK => ?_) ?_
      · refine' sure_val (v := _) (w' := ws) rfl ?hr (hK.out _ _ hS (Fr.refl _ _ _) ?hy)
        case hr => go_simp; rfl
        case hy => rfl
      -- 1: t24 := Op.move (tmp 23)
      refine StepsOk.cons (i := 1) (fun V ws hS hD K hK => ?_) ?_
      · have d0 : V 0 = _ := hD.out 0 (by kernel_rfl)
        refine' sure_val (v := _) (w' := ws) rfl ?hr (hK.out _ _ hS (Fr.refl _ _ _) ?hy)
        case hr => go_simp; rfl
        case hy => rfl
      -- 2: t25 := Op.load 39 (tmp 1)   GUARD 1
      refine StepsOk.cons (i := 2) (fun V ws hS hD K hK => ?_) ?_
      · have d1 : V 1 = _ := hD.out 1 (by kernel_rfl)
        refine su_load_blk (hB1.kept hS (.inr (Nat.zero_le _))) row39 (by rw [siz39, HL.out]) (by rw [d1]; rfl) rfl rfl (hK.out _ _ hS (Fr.refl _ _ _) ?_); rfl
      -- 3: t26 := Op.call { callee := Callee.value (46), args := #[tmp 25], argTypes := #[39] }   GUARD 1
      refine StepsOk.cons (i := 3) (fun V ws hS hD K hK => ?_) ?_
      · have d1 : V 1 = _ := hD.out 1 (by kernel_rfl)
        have d2 : V 2 = _ := hD.out 2 (by kernel_rfl)
        refine sure_call (f := 46) (args := #[_]) (by rw [d1]; rfl) (by go_simp) (c_txFrom x HX.out ((hk.kept hF1 (.inr (Nat.zero_le _))).kept hS (.inr (Nat.zero_le _)))) ?_
        rintro e w4 ⟨rfl, hF4⟩
        rw [← HFR.out]
        refine ⟨_, rfl, hK.out _ _ (hS.trans hF4) hF4 ?_⟩; rfl
      -- 4: t27 := Op.load 39 (tmp 1)   GUARD 1
      refine StepsOk.cons (i := 4) (fun V ws hS hD K hK => ?_) ?_
      · have d1 : V 1 = _ := hD.out 1 (by kernel_rfl)
        refine su_load_blk (hB1.kept hS (.inr (Nat.zero_le _))) row39 (by rw [siz39, HL.out]) (by rw [d1]; rfl) rfl rfl (hK.out _ _ hS (Fr.refl _ _ _) ?_); rfl
      -- 5: t28 := Op.call { callee := Callee.value (47), args := #[tmp 27], argTypes := #[39] }   GUARD 1
      refine StepsOk.cons (i := 5) (fun V ws hS hD K hK => ?_) ?_
      · have d1 : V 1 = _ := hD.out 1 (by kernel_rfl)
        have d4 : V 4 = _ := hD.out 4 (by kernel_rfl)
        refine sure_call (f := 47) (args := #[_]) (by rw [d1]; rfl) (by go_simp) (c_refTFrom x HX.out) ?_
        rintro e w4 ⟨rfl, hF4⟩
        rw [← HFR.out]
        refine ⟨_, rfl, hK.out _ _ (hS.trans hF4) hF4 ?_⟩; rfl
      -- 6: t29 := Op.binOp BinOp.eql 30 (tmp 26) (tmp 28) 30   GUARD 1
      refine StepsOk.cons (i := 6) (fun V ws hS hD K hK => ?_) ?_
      · have d1 : V 1 = _ := hD.out 1 (by kernel_rfl)
        have d3 : V 3 = _ := hD.out 3 (by kernel_rfl)
        have d5 : V 5 = _ := hD.out 5 (by kernel_rfl)
        refine su_eqt leaves30 (by omega) row30 eqg30 (LF.bytes32 A hAl) (LF.bytes32 A hAl) rfl (by rw [d1]; rfl) rfl d3 d5 (hK.out _ _ hS (Fr.refl _ _ _) ?_); rfl
      -- 7: t30 := Op.pick (tmp 24) (tmp 29) (const (Value.bool false))
      refine StepsOk.cons (i := 7) (fun V ws hS hD K hK => ?_) ?_
      · have d1 : V 1 = _ := hD.out 1 (by kernel_rfl)
        have d6 : V 6 = _ := hD.out 6 (by kernel_rfl)
        refine' sure_val (v := _) (w' := ws) rfl ?hr (hK.out _ _ hS (Fr.refl _ _ _) ?hy)
        case hr => go_simp; rfl
        case hy => rfl
      -- 8: t31 := Op.move (tmp 30)
      refine StepsOk.cons (i := 8) (fun V ws hS hD K hK => ?_) ?_
      · have d7 : V 7 = _ := hD.out 7 (by kernel_rfl)
        refine' sure_val (v := _) (w' := ws) rfl ?hr (hK.out _ _ hS (Fr.refl _ _ _) ?hy)
        case hr => go_simp; rfl
        case hy => rfl
      -- 9: t32 := Op.load 39 (tmp 1)   GUARD 8
      refine StepsOk.cons (i := 9) (fun V ws hS hD K hK => ?_) ?_
      · have d8 : V 8 = _ := hD.out 8 (by kernel_rfl)
        refine su_load_blk (hB1.kept hS (.inr (Nat.zero_le _))) row39 (by rw [siz39, HL.out]) (by rw [d8]; rfl) rfl rfl (hK.out _ _ hS (Fr.refl _ _ _) ?_); rfl
      -- 10: t33 := Op.call { callee := Callee.value (48), args := #[tmp 32], argTypes := #[39] }   GUARD 8
      refine StepsOk.cons (i := 10) (fun V ws hS hD K hK => ?_) ?_
      · have d8 : V 8 = _ := hD.out 8 (by kernel_rfl)
        have d9 : V 9 = _ := hD.out 9 (by kernel_rfl)
        refine sure_call (f := 48) (args := #[_]) (by rw [d8]; rfl) (by go_simp) (c_txId x HX.out ((hk.kept hF1 (.inr (Nat.zero_le _))).kept hS (.inr (Nat.zero_le _)))) ?_
        rintro e w4 ⟨rfl, hF4⟩
        rw [← HID.out]
        refine ⟨_, rfl, hK.out _ _ (hS.trans hF4) hF4 ?_⟩; rfl
      -- 11: t34 := Op.load 39 (tmp 1)   GUARD 8
      refine StepsOk.cons (i := 11) (fun V ws hS hD K hK => ?_) ?_
      · have d8 : V 8 = _ := hD.out 8 (by kernel_rfl)
        refine su_load_blk (hB1.kept hS (.inr (Nat.zero_le _))) row39 (by rw [siz39, HL.out]) (by rw [d8]; rfl) rfl rfl (hK.out _ _ hS (Fr.refl _ _ _) ?_); rfl
      -- 12: t35 := Op.call { callee := Callee.value (49), args := #[tmp 34], argTypes := #[39] }   GUARD 8
      refine StepsOk.cons (i := 12) (fun V ws hS hD K hK => ?_) ?_
      · have d8 : V 8 = _ := hD.out 8 (by kernel_rfl)
        have d11 : V 11 = _ := hD.out 11 (by kernel_rfl)
        refine sure_call (f := 49) (args := #[_]) (by rw [d8]; rfl) (by go_simp) (c_refTId x HX.out) ?_
        rintro e w4 ⟨rfl, hF4⟩
        rw [← HID.out]
        refine ⟨_, rfl, hK.out _ _ (hS.trans hF4) hF4 ?_⟩; rfl
      -- 13: t36 := Op.binOp BinOp.eql 30 (tmp 33) (tmp 35) 30   GUARD 8
      refine StepsOk.cons (i := 13) (fun V ws hS hD K hK => ?_) ?_
      · have d8 : V 8 = _ := hD.out 8 (by kernel_rfl)
        have d10 : V 10 = _ := hD.out 10 (by kernel_rfl)
        have d12 : V 12 = _ := hD.out 12 (by kernel_rfl)
        refine su_eqt leaves30 (by omega) row30 eqg30 (LF.bytes32 I hIl) (LF.bytes32 I hIl) rfl (by rw [d8]; rfl) rfl d10 d12 (hK.out _ _ hS (Fr.refl _ _ _) ?_); rfl
      -- 14: t37 := Op.pick (tmp 31) (tmp 36) (const (Value.bool false))
      refine StepsOk.cons (i := 14) (fun V ws hS hD K hK => ?_) ?_
      · have d8 : V 8 = _ := hD.out 8 (by kernel_rfl)
        have d13 : V 13 = _ := hD.out 13 (by kernel_rfl)
        refine' sure_val (v := _) (w' := ws) rfl ?hr (hK.out _ _ hS (Fr.refl _ _ _) ?hy)
        case hr => go_simp; rfl
        case hy => rfl
      -- 15: t38 := Op.move (tmp 37)
      refine StepsOk.cons (i := 15) (fun V ws hS hD K hK => ?_) ?_
      · have d14 : V 14 = _ := hD.out 14 (by kernel_rfl)
        refine' sure_val (v := _) (w' := ws) rfl ?hr (hK.out _ _ hS (Fr.refl _ _ _) ?hy)
        case hr => go_simp; rfl
        case hy => rfl
      -- 16: t39 := Op.load 39 (tmp 1)   GUARD 15
      refine StepsOk.cons (i := 16) (fun V ws hS hD K hK => ?_) ?_
      · have d15 : V 15 = _ := hD.out 15 (by kernel_rfl)
        refine su_load_blk (hB1.kept hS (.inr (Nat.zero_le _))) row39 (by rw [siz39, HL.out]) (by rw [d15]; rfl) rfl rfl (hK.out _ _ hS (Fr.refl _ _ _) ?_); rfl
      -- 17: t40 := Op.call { callee := Callee.value (38), args := #[tmp 39], argTypes := #[39] }   GUARD 15
      refine StepsOk.cons (i := 17) (fun V ws hS hD K hK => ?_) ?_
      · have d15 : V 15 = _ := hD.out 15 (by kernel_rfl)
        have d16 : V 16 = _ := hD.out 16 (by kernel_rfl)
        refine sure_call (f := 38) (args := #[_]) (by rw [d15]; rfl) (by go_simp) (c_txBytes x HX.out) ?_
        rintro e w4 ⟨v4, rfl, hO4, hF4⟩
        exact ⟨_, rfl, hK.out _ _ (hS.trans hF4) hF4 ⟨_, _, hO4.rd⟩⟩
      -- 18: t41 := Op.load 39 (tmp 1)   GUARD 15
      refine StepsOk.cons (i := 18) (fun V ws hS hD K hK => ?_) ?_
      · have d15 : V 15 = _ := hD.out 15 (by kernel_rfl)
        refine su_load_blk (hB1.kept hS (.inr (Nat.zero_le _))) row39 (by rw [siz39, HL.out]) (by rw [d15]; rfl) rfl rfl (hK.out _ _ hS (Fr.refl _ _ _) ?_); rfl
      -- 19: t42 := Op.call { callee := Callee.value (50), args := #[tmp 41], argTypes := #[39] }   GUARD 15
      refine StepsOk.cons (i := 19) (fun V ws hS hD K hK => ?_) ?_
      · have d15 : V 15 = _ := hD.out 15 (by kernel_rfl)
        have d18 : V 18 = _ := hD.out 18 (by kernel_rfl)
        refine sure_call (f := 50) (args := #[_]) (by rw [d15]; rfl) (by go_simp) (c_refTBytes x HX.out) ?_
        rintro e w4 ⟨v4, rfl, hO4, hF4⟩
        exact ⟨_, rfl, hK.out _ _ (hS.trans hF4) hF4 ⟨_, _, hO4.rd⟩⟩
      -- 20: t43 := Op.call { callee := Callee.value (23), args := #[tmp 40, tmp 42], argTypes := #[24, 24] }   GUARD 15
      refine StepsOk.cons (i := 20) (fun V ws hS hD K hK => ?_) ?_
      · have d15 : V 15 = _ := hD.out 15 (by kernel_rfl)
        obtain ⟨lo17, hi17, hO17⟩ : ∃ lo hi, RdB ws lo hi (V 17) _ := hD.out 17 (by kernel_rfl)
        obtain ⟨lo19, hi19, hO19⟩ : ∃ lo hi, RdB ws lo hi (V 19) _ := hD.out 19 (by kernel_rfl)
        refine sure_call (f := 23) (args := #[V 17, V 19]) (by rw [d15]; rfl) (by go_simp) (c_Same hO17 hO19) ?_
        rintro e w4 ⟨rfl, rfl⟩
        rw [beq_self_eq_true]
        refine ⟨_, rfl, hK.out _ _ hS (Fr.refl _ _ _) ?_⟩; rfl
      -- 21: t44 := Op.pick (tmp 38) (tmp 43) (const (Value.bool false))
      refine StepsOk.cons (i := 21) (fun V ws hS hD K hK => ?_) ?_
      · have d15 : V 15 = _ := hD.out 15 (by kernel_rfl)
        have d20 : V 20 = _ := hD.out 20 (by kernel_rfl)
        refine' sure_val (v := _) (w' := ws) rfl ?hr (hK.out _ _ hS (Fr.refl _ _ _) ?hy)
        case hr => go_simp; rfl
        case hy => rfl
      -- 22: t2 := Op.assign (tmp 44)
      refine StepsOk.cons (i := 22) (fun V ws hS hD K hK => ?_) ?_
      · have d21 : V 21 = _ := hD.out 21 (by kernel_rfl)
        refine' sure_val (v := _) (w' := ws) rfl ?hr (hK.out _ _ hS (Fr.refl _ _ _) ?hy)
        case hr => go_simp; rfl
        case hy => rfl
      exact StepsOk.nil
    case hY =>
      repeat first
        | exact yKeep.nil
        | refine yKeep.eq ?_
        | refine yKeep.cons (fun i v w w' _ hE h => by obtain ⟨lo, hi, h1⟩ := h; exact ⟨lo, hi, h1.kept hE (.inr (Nat.zero_le _))⟩) ?_
    case hend =>
      intro V wt hS hall
      have d22 : V 22 = _ := hall.out 22 (by kernel_rfl)
      rw [d22]
      clear d22 hall
      go_wp2_with fail
      go_ret
      exact ⟨rfl, hF1.trans hS⟩

end Go.Proofs.YtgndidjfjdaagaaDoor
