/-
  The reference's header: Follows.
-/
import Derived.Test.YtgndidjfjdaagaaDoorRefH
import Derived.Test.YtgndidjfjdaagaaDoorSure
set_option linter.unusedSimpArgs false
set_option linter.unusedVariables false
set_option linter.unnecessarySimpa false
namespace Go.Proofs.YtgndidjfjdaagaaDoor
open Go.RowKit

set_option maxRecDepth 100000 in
set_option maxHeartbeats 4000000 in
theorem c_refFol1 {w : World} (h : Int) (p s r : List UInt8) (m : Int) (hp : p.length = 32) (hs : s.length = 32) (hr : r.length = 32)
    (h' : Int) (p' s' r' : List UInt8) (m' : Int) (hp' : p'.length = 32) (hs' : s'.length = 32) (hr' : r'.length = 32) (hf : ¬ hdrChk h m = 0) :
    Calls Tryd.prog 61 #[.agg (hdrL h p s r m).toArray, .agg (hdrL h' p' s' r' m').toArray] w fun e w' => e = .returned (.bool false) ∧ Fr 0 0 w w' := by
  have HD1 : Hid (decide (hdrChk h m = 0) = false) := Lib.hid (decide_eq_false hf)
  clear hf
  have HL1 := Lib.hid (hdrL_length h p s r m hp hs hr)
  have HL2 := Lib.hid (hdrL_length h' p' s' r' m' hp' hs' hr')
  have HP := Lib.hid hp
  have t1 := trivial
  go_enter Tryd.func61, Tryd.ntmps61
  go_wp2_with (first
    | (have _t := t1; refine wpl_box (hdrL h p s r m) rfl rfl rfl rfl ?_; intro g2 w1 hB1' hF1 hg2 hgs2; clear t1 _t)
    | (refine wpl_box (hdrL h' p' s' r' m') rfl rfl rfl rfl ?_; intro g3 w2 hB2 hF2 hg3 hgs3))
  have hB1 := hB1'.kept hF2 (.inr (Nat.zero_le _))
  refine' wp_region_sure (S := fun ws => Fr 0 0 w2 ws) (E := fun _ => Fr 0 0) (kill := fun _ => []) (Y := [yEq _, yEq _, yEq _, yEq _, yEq _, yEq _, yEq _, yEq _, yEq _, yEq _, yEq _, yEq _, yEq _, yEq _, yEq _, yEq _, yEq _, yEq _, yEq _, yEq _, yEq _, yEq _]) (F := _) (by kernel_rfl) (by kernel_rfl) (by kernel_rfl) (fun V => ?hF) ?hS ?hstep ?hY ?hend
  case hF => simp only [fillA, Act.put, List.setIfInBounds_toArray, List.set_cons_zero, List.set_cons_succ, Nat.reduceAdd, Nat.zero_add]; rfl
  case hS => exact Fr.drew _
  case hstep =>
    -- 0: t5 := Op.load 61 (tmp 2)
    refine StepsOk.cons (i := 0) (fun V ws hS hD K hK => ?_) ?_
    · refine su_load_blk (hB1.kept hS (.inr (Nat.zero_le _))) row27 (by rw [siz27, HL1.out]) rfl rfl rfl (hK.out _ _ hS (Fr.refl _ _ _) ?_); rfl
    -- 1: t6 := Op.call { callee := Callee.value (103), args := #[tmp 5], argTypes := #[61] }
    refine StepsOk.cons (i := 1) (fun V ws hS hD K hK => ?_) ?_
    · have d0 : V 0 = _ := hD.out 0 (by kernel_rfl)
      refine sure_call (f := 103) (args := #[_]) rfl (by go_simp) (c_refMay h p s r m hp hs hr) ?_
      rintro e w4 ⟨rfl, hF4⟩
      rw [HD1.out]
      refine ⟨_, rfl, hK.out _ _ (hS.trans hF4) hF4 ?_⟩; rfl
    -- 2: t7 := Op.move (tmp 6)
    refine StepsOk.cons (i := 2) (fun V ws hS hD K hK => ?_) ?_
    · have d1 : V 1 = _ := hD.out 1 (by kernel_rfl)
      refine' sure_val (v := _) (w' := ws) rfl ?hr (hK.out _ _ hS (Fr.refl _ _ _) ?hy)
      case hr => go_simp; rfl
      case hy => rfl
    -- 3: t8 := Op.load 61 (tmp 3)   GUARD 2
    refine StepsOk.cons (i := 3) (fun V ws hS hD K hK => ?_) ?_
    · have d2 : V 2 = _ := hD.out 2 (by kernel_rfl)
      refine sure_not (by rw [d2]; rfl) (hK.out _ _ hS (Fr.refl _ _ _) ?_); rfl
    -- 4: t9 := Op.call { callee := Callee.value (103), args := #[tmp 8], argTypes := #[61] }   GUARD 2
    refine StepsOk.cons (i := 4) (fun V ws hS hD K hK => ?_) ?_
    · have d2 : V 2 = _ := hD.out 2 (by kernel_rfl)
      refine sure_not (by rw [d2]; rfl) (hK.out _ _ hS (Fr.refl _ _ _) ?_); rfl
    -- 5: t10 := Op.pick (tmp 7) (tmp 9) (const (Value.bool false))
    refine StepsOk.cons (i := 5) (fun V ws hS hD K hK => ?_) ?_
    · have d2 : V 2 = _ := hD.out 2 (by kernel_rfl)
      have d4 : V 4 = _ := hD.out 4 (by kernel_rfl)
      refine' sure_val (v := _) (w' := ws) rfl ?hr (hK.out _ _ hS (Fr.refl _ _ _) ?hy)
      case hr => go_simp; rfl
      case hy => rfl
    -- 6: t11 := Op.move (tmp 10)
    refine StepsOk.cons (i := 6) (fun V ws hS hD K hK => ?_) ?_
    · have d5 : V 5 = _ := hD.out 5 (by kernel_rfl)
      refine' sure_val (v := _) (w' := ws) rfl ?hr (hK.out _ _ hS (Fr.refl _ _ _) ?hy)
      case hr => go_simp; rfl
      case hy => rfl
    -- 7: t12 := Op.fieldAddr 61 (tmp 2) 0   GUARD 6
    refine StepsOk.cons (i := 7) (fun V ws hS hD K hK => ?_) ?_
    · have d6 : V 6 = _ := hD.out 6 (by kernel_rfl)
      refine sure_not (by rw [d6]; rfl) (hK.out _ _ hS (Fr.refl _ _ _) ?_); rfl
    -- 8: t13 := Op.load 3 (tmp 12)   GUARD 6
    refine StepsOk.cons (i := 8) (fun V ws hS hD K hK => ?_) ?_
    · have d6 : V 6 = _ := hD.out 6 (by kernel_rfl)
      refine sure_not (by rw [d6]; rfl) (hK.out _ _ hS (Fr.refl _ _ _) ?_); rfl
    -- 9: t14 := Op.fieldAddr 61 (tmp 3) 0   GUARD 6
    refine StepsOk.cons (i := 9) (fun V ws hS hD K hK => ?_) ?_
    · have d6 : V 6 = _ := hD.out 6 (by kernel_rfl)
      refine sure_not (by rw [d6]; rfl) (hK.out _ _ hS (Fr.refl _ _ _) ?_); rfl
    -- 10: t15 := Op.load 3 (tmp 14)   GUARD 6
    refine StepsOk.cons (i := 10) (fun V ws hS hD K hK => ?_) ?_
    · have d6 : V 6 = _ := hD.out 6 (by kernel_rfl)
      refine sure_not (by rw [d6]; rfl) (hK.out _ _ hS (Fr.refl _ _ _) ?_); rfl
    -- 11: t16 := Op.binOp BinOp.add 3 (tmp 15) (const (Value.int IntKind.i64 1)) 3   GUARD 6
    refine StepsOk.cons (i := 11) (fun V ws hS hD K hK => ?_) ?_
    · have d6 : V 6 = _ := hD.out 6 (by kernel_rfl)
      refine sure_not (by rw [d6]; rfl) (hK.out _ _ hS (Fr.refl _ _ _) ?_); rfl
    -- 12: t17 := Op.binOp BinOp.eql 3 (tmp 13) (tmp 16) 3   GUARD 6
    refine StepsOk.cons (i := 12) (fun V ws hS hD K hK => ?_) ?_
    · have d6 : V 6 = _ := hD.out 6 (by kernel_rfl)
      refine sure_not (by rw [d6]; rfl) (hK.out _ _ hS (Fr.refl _ _ _) ?_); rfl
    -- 13: t18 := Op.pick (tmp 11) (tmp 17) (const (Value.bool false))
    refine StepsOk.cons (i := 13) (fun V ws hS hD K hK => ?_) ?_
    · have d6 : V 6 = _ := hD.out 6 (by kernel_rfl)
      have d12 : V 12 = _ := hD.out 12 (by kernel_rfl)
      refine' sure_val (v := _) (w' := ws) rfl ?hr (hK.out _ _ hS (Fr.refl _ _ _) ?hy)
      case hr => go_simp; rfl
      case hy => rfl
    -- 14: t19 := Op.move (tmp 18)
    refine StepsOk.cons (i := 14) (fun V ws hS hD K hK => ?_) ?_
    · have d13 : V 13 = _ := hD.out 13 (by kernel_rfl)
      refine' sure_val (v := _) (w' := ws) rfl ?hr (hK.out _ _ hS (Fr.refl _ _ _) ?hy)
      case hr => go_simp; rfl
      case hy => rfl
    -- 15: t20 := Op.fieldAddr 61 (tmp 2) 1   GUARD 14
    refine StepsOk.cons (i := 15) (fun V ws hS hD K hK => ?_) ?_
    · have d14 : V 14 = _ := hD.out 14 (by kernel_rfl)
      refine sure_not (by rw [d14]; rfl) (hK.out _ _ hS (Fr.refl _ _ _) ?_); rfl
    -- 16: t21 := Op.load 30 (tmp 20)   GUARD 14
    refine StepsOk.cons (i := 16) (fun V ws hS hD K hK => ?_) ?_
    · have d14 : V 14 = _ := hD.out 14 (by kernel_rfl)
      refine sure_not (by rw [d14]; rfl) (hK.out _ _ hS (Fr.refl _ _ _) ?_); rfl
    -- 17: t22 := Op.load 61 (tmp 3)   GUARD 14
    refine StepsOk.cons (i := 17) (fun V ws hS hD K hK => ?_) ?_
    · have d14 : V 14 = _ := hD.out 14 (by kernel_rfl)
      refine sure_not (by rw [d14]; rfl) (hK.out _ _ hS (Fr.refl _ _ _) ?_); rfl
    -- 18: t23 := Op.call { callee := Callee.value (105), args := #[tmp 22], argTypes := #[61] }   GUARD 14
    refine StepsOk.cons (i := 18) (fun V ws hS hD K hK => ?_) ?_
    · have d14 : V 14 = _ := hD.out 14 (by kernel_rfl)
      refine sure_not (by rw [d14]; rfl) (hK.out _ _ hS (Fr.refl _ _ _) ?_); rfl
    -- 19: t24 := Op.binOp BinOp.eql 30 (tmp 21) (tmp 23) 30   GUARD 14
    refine StepsOk.cons (i := 19) (fun V ws hS hD K hK => ?_) ?_
    · have d14 : V 14 = _ := hD.out 14 (by kernel_rfl)
      refine sure_not (by rw [d14]; rfl) (hK.out _ _ hS (Fr.refl _ _ _) ?_); rfl
    -- 20: t25 := Op.pick (tmp 19) (tmp 24) (const (Value.bool false))
    refine StepsOk.cons (i := 20) (fun V ws hS hD K hK => ?_) ?_
    · have d14 : V 14 = _ := hD.out 14 (by kernel_rfl)
      have d19 : V 19 = _ := hD.out 19 (by kernel_rfl)
      refine' sure_val (v := _) (w' := ws) rfl ?hr (hK.out _ _ hS (Fr.refl _ _ _) ?hy)
      case hr => go_simp; rfl
      case hy => rfl
    -- 21: t4 := Op.assign (tmp 25)
    refine StepsOk.cons (i := 21) (fun V ws hS hD K hK => ?_) ?_
    · have d20 : V 20 = _ := hD.out 20 (by kernel_rfl)
      refine' sure_val (v := _) (w' := ws) rfl ?hr (hK.out _ _ hS (Fr.refl _ _ _) ?hy)
      case hr => go_simp; rfl
      case hy => rfl
    exact StepsOk.nil
  case hY => repeat first | exact yKeep.nil | refine yKeep.eq ?_
  case hend =>
    intro V ws hS hall
    have d21 : V 21 = _ := hall.out 21 (by kernel_rfl)
    rw [d21]
    clear d21 hall
    go_wp2_with fail
    go_ret
    exact ⟨rfl, (hF1.trans hF2).trans hS⟩

set_option maxRecDepth 100000 in
set_option maxHeartbeats 4000000 in
theorem c_refFol2 {w : World} (h : Int) (p s r : List UInt8) (m : Int) (hp : p.length = 32) (hs : s.length = 32) (hr : r.length = 32)
    (h' : Int) (p' s' r' : List UInt8) (m' : Int) (hp' : p'.length = 32) (hs' : s'.length = 32) (hr' : r'.length = 32) (ht : hdrChk h m = 0) (hf : ¬ hdrChk h' m' = 0) :
    Calls Tryd.prog 61 #[.agg (hdrL h p s r m).toArray, .agg (hdrL h' p' s' r' m').toArray] w fun e w' => e = .returned (.bool false) ∧ Fr 0 0 w w' := by
  have HD1 : Hid (decide (hdrChk h m = 0) = true) := Lib.hid (decide_eq_true ht)
  have HD2 : Hid (decide (hdrChk h' m' = 0) = false) := Lib.hid (decide_eq_false hf)
  clear ht hf
  have HL1 := Lib.hid (hdrL_length h p s r m hp hs hr)
  have HL2 := Lib.hid (hdrL_length h' p' s' r' m' hp' hs' hr')
  have HP := Lib.hid hp
  have t1 := trivial
  go_enter Tryd.func61, Tryd.ntmps61
  go_wp2_with (first
    | (have _t := t1; refine wpl_box (hdrL h p s r m) rfl rfl rfl rfl ?_; intro g2 w1 hB1' hF1 hg2 hgs2; clear t1 _t)
    | (refine wpl_box (hdrL h' p' s' r' m') rfl rfl rfl rfl ?_; intro g3 w2 hB2 hF2 hg3 hgs3))
  have hB1 := hB1'.kept hF2 (.inr (Nat.zero_le _))
  refine' wp_region_sure (S := fun ws => Fr 0 0 w2 ws) (E := fun _ => Fr 0 0) (kill := fun _ => []) (Y := [yEq _, yEq _, yEq _, yEq _, yEq _, yEq _, yEq _, yEq _, yEq _, yEq _, yEq _, yEq _, yEq _, yEq _, yEq _, yEq _, yEq _, yEq _, yEq _, yEq _, yEq _, yEq _]) (F := _) (by kernel_rfl) (by kernel_rfl) (by kernel_rfl) (fun V => ?hF) ?hS ?hstep ?hY ?hend
  case hF => simp only [fillA, Act.put, List.setIfInBounds_toArray, List.set_cons_zero, List.set_cons_succ, Nat.reduceAdd, Nat.zero_add]; rfl
  case hS => exact Fr.drew _
  case hstep =>
    -- 0: t5 := Op.load 61 (tmp 2)
    refine StepsOk.cons (i := 0) (fun V ws hS hD K hK => ?_) ?_
    · refine su_load_blk (hB1.kept hS (.inr (Nat.zero_le _))) row27 (by rw [siz27, HL1.out]) rfl rfl rfl (hK.out _ _ hS (Fr.refl _ _ _) ?_); rfl
    -- 1: t6 := Op.call { callee := Callee.value (103), args := #[tmp 5], argTypes := #[61] }
    refine StepsOk.cons (i := 1) (fun V ws hS hD K hK => ?_) ?_
    · have d0 : V 0 = _ := hD.out 0 (by kernel_rfl)
      refine sure_call (f := 103) (args := #[_]) rfl (by go_simp) (c_refMay h p s r m hp hs hr) ?_
      rintro e w4 ⟨rfl, hF4⟩
      rw [HD1.out]
      refine ⟨_, rfl, hK.out _ _ (hS.trans hF4) hF4 ?_⟩; rfl
    -- 2: t7 := Op.move (tmp 6)
    refine StepsOk.cons (i := 2) (fun V ws hS hD K hK => ?_) ?_
    · have d1 : V 1 = _ := hD.out 1 (by kernel_rfl)
      refine' sure_val (v := _) (w' := ws) rfl ?hr (hK.out _ _ hS (Fr.refl _ _ _) ?hy)
      case hr => go_simp; rfl
      case hy => rfl
    -- 3: t8 := Op.load 61 (tmp 3)   GUARD 2
    refine StepsOk.cons (i := 3) (fun V ws hS hD K hK => ?_) ?_
    · have d2 : V 2 = _ := hD.out 2 (by kernel_rfl)
      refine su_load_blk (hB2.kept hS (.inr (Nat.zero_le _))) row27 (by rw [siz27, HL2.out]) (by rw [d2]; rfl) rfl rfl (hK.out _ _ hS (Fr.refl _ _ _) ?_); rfl
    -- 4: t9 := Op.call { callee := Callee.value (103), args := #[tmp 8], argTypes := #[61] }   GUARD 2
    refine StepsOk.cons (i := 4) (fun V ws hS hD K hK => ?_) ?_
    · have d2 : V 2 = _ := hD.out 2 (by kernel_rfl)
      have d3 : V 3 = _ := hD.out 3 (by kernel_rfl)
      refine sure_call (f := 103) (args := #[_]) (by rw [d2]; rfl) (by go_simp) (c_refMay h' p' s' r' m' hp' hs' hr') ?_
      rintro e w4 ⟨rfl, hF4⟩
      rw [HD2.out]
      refine ⟨_, rfl, hK.out _ _ (hS.trans hF4) hF4 ?_⟩; rfl
    -- 5: t10 := Op.pick (tmp 7) (tmp 9) (const (Value.bool false))
    refine StepsOk.cons (i := 5) (fun V ws hS hD K hK => ?_) ?_
    · have d2 : V 2 = _ := hD.out 2 (by kernel_rfl)
      have d4 : V 4 = _ := hD.out 4 (by kernel_rfl)
      refine' sure_val (v := _) (w' := ws) rfl ?hr (hK.out _ _ hS (Fr.refl _ _ _) ?hy)
      case hr => go_simp; rfl
      case hy => rfl
    -- 6: t11 := Op.move (tmp 10)
    refine StepsOk.cons (i := 6) (fun V ws hS hD K hK => ?_) ?_
    · have d5 : V 5 = _ := hD.out 5 (by kernel_rfl)
      refine' sure_val (v := _) (w' := ws) rfl ?hr (hK.out _ _ hS (Fr.refl _ _ _) ?hy)
      case hr => go_simp; rfl
      case hy => rfl
    -- 7: t12 := Op.fieldAddr 61 (tmp 2) 0   GUARD 6
    refine StepsOk.cons (i := 7) (fun V ws hS hD K hK => ?_) ?_
    · have d6 : V 6 = _ := hD.out 6 (by kernel_rfl)
      refine sure_not (by rw [d6]; rfl) (hK.out _ _ hS (Fr.refl _ _ _) ?_); rfl
    -- 8: t13 := Op.load 3 (tmp 12)   GUARD 6
    refine StepsOk.cons (i := 8) (fun V ws hS hD K hK => ?_) ?_
    · have d6 : V 6 = _ := hD.out 6 (by kernel_rfl)
      refine sure_not (by rw [d6]; rfl) (hK.out _ _ hS (Fr.refl _ _ _) ?_); rfl
    -- 9: t14 := Op.fieldAddr 61 (tmp 3) 0   GUARD 6
    refine StepsOk.cons (i := 9) (fun V ws hS hD K hK => ?_) ?_
    · have d6 : V 6 = _ := hD.out 6 (by kernel_rfl)
      refine sure_not (by rw [d6]; rfl) (hK.out _ _ hS (Fr.refl _ _ _) ?_); rfl
    -- 10: t15 := Op.load 3 (tmp 14)   GUARD 6
    refine StepsOk.cons (i := 10) (fun V ws hS hD K hK => ?_) ?_
    · have d6 : V 6 = _ := hD.out 6 (by kernel_rfl)
      refine sure_not (by rw [d6]; rfl) (hK.out _ _ hS (Fr.refl _ _ _) ?_); rfl
    -- 11: t16 := Op.binOp BinOp.add 3 (tmp 15) (const (Value.int IntKind.i64 1)) 3   GUARD 6
    refine StepsOk.cons (i := 11) (fun V ws hS hD K hK => ?_) ?_
    · have d6 : V 6 = _ := hD.out 6 (by kernel_rfl)
      refine sure_not (by rw [d6]; rfl) (hK.out _ _ hS (Fr.refl _ _ _) ?_); rfl
    -- 12: t17 := Op.binOp BinOp.eql 3 (tmp 13) (tmp 16) 3   GUARD 6
    refine StepsOk.cons (i := 12) (fun V ws hS hD K hK => ?_) ?_
    · have d6 : V 6 = _ := hD.out 6 (by kernel_rfl)
      refine sure_not (by rw [d6]; rfl) (hK.out _ _ hS (Fr.refl _ _ _) ?_); rfl
    -- 13: t18 := Op.pick (tmp 11) (tmp 17) (const (Value.bool false))
    refine StepsOk.cons (i := 13) (fun V ws hS hD K hK => ?_) ?_
    · have d6 : V 6 = _ := hD.out 6 (by kernel_rfl)
      have d12 : V 12 = _ := hD.out 12 (by kernel_rfl)
      refine' sure_val (v := _) (w' := ws) rfl ?hr (hK.out _ _ hS (Fr.refl _ _ _) ?hy)
      case hr => go_simp; rfl
      case hy => rfl
    -- 14: t19 := Op.move (tmp 18)
    refine StepsOk.cons (i := 14) (fun V ws hS hD K hK => ?_) ?_
    · have d13 : V 13 = _ := hD.out 13 (by kernel_rfl)
      refine' sure_val (v := _) (w' := ws) rfl ?hr (hK.out _ _ hS (Fr.refl _ _ _) ?hy)
      case hr => go_simp; rfl
      case hy => rfl
    -- 15: t20 := Op.fieldAddr 61 (tmp 2) 1   GUARD 14
    refine StepsOk.cons (i := 15) (fun V ws hS hD K hK => ?_) ?_
    · have d14 : V 14 = _ := hD.out 14 (by kernel_rfl)
      refine sure_not (by rw [d14]; rfl) (hK.out _ _ hS (Fr.refl _ _ _) ?_); rfl
    -- 16: t21 := Op.load 30 (tmp 20)   GUARD 14
    refine StepsOk.cons (i := 16) (fun V ws hS hD K hK => ?_) ?_
    · have d14 : V 14 = _ := hD.out 14 (by kernel_rfl)
      refine sure_not (by rw [d14]; rfl) (hK.out _ _ hS (Fr.refl _ _ _) ?_); rfl
    -- 17: t22 := Op.load 61 (tmp 3)   GUARD 14
    refine StepsOk.cons (i := 17) (fun V ws hS hD K hK => ?_) ?_
    · have d14 : V 14 = _ := hD.out 14 (by kernel_rfl)
      refine sure_not (by rw [d14]; rfl) (hK.out _ _ hS (Fr.refl _ _ _) ?_); rfl
    -- 18: t23 := Op.call { callee := Callee.value (105), args := #[tmp 22], argTypes := #[61] }   GUARD 14
    refine StepsOk.cons (i := 18) (fun V ws hS hD K hK => ?_) ?_
    · have d14 : V 14 = _ := hD.out 14 (by kernel_rfl)
      refine sure_not (by rw [d14]; rfl) (hK.out _ _ hS (Fr.refl _ _ _) ?_); rfl
    -- 19: t24 := Op.binOp BinOp.eql 30 (tmp 21) (tmp 23) 30   GUARD 14
    refine StepsOk.cons (i := 19) (fun V ws hS hD K hK => ?_) ?_
    · have d14 : V 14 = _ := hD.out 14 (by kernel_rfl)
      refine sure_not (by rw [d14]; rfl) (hK.out _ _ hS (Fr.refl _ _ _) ?_); rfl
    -- 20: t25 := Op.pick (tmp 19) (tmp 24) (const (Value.bool false))
    refine StepsOk.cons (i := 20) (fun V ws hS hD K hK => ?_) ?_
    · have d14 : V 14 = _ := hD.out 14 (by kernel_rfl)
      have d19 : V 19 = _ := hD.out 19 (by kernel_rfl)
      refine' sure_val (v := _) (w' := ws) rfl ?hr (hK.out _ _ hS (Fr.refl _ _ _) ?hy)
      case hr => go_simp; rfl
      case hy => rfl
    -- 21: t4 := Op.assign (tmp 25)
    refine StepsOk.cons (i := 21) (fun V ws hS hD K hK => ?_) ?_
    · have d20 : V 20 = _ := hD.out 20 (by kernel_rfl)
      refine' sure_val (v := _) (w' := ws) rfl ?hr (hK.out _ _ hS (Fr.refl _ _ _) ?hy)
      case hr => go_simp; rfl
      case hy => rfl
    exact StepsOk.nil
  case hY => repeat first | exact yKeep.nil | refine yKeep.eq ?_
  case hend =>
    intro V ws hS hall
    have d21 : V 21 = _ := hall.out 21 (by kernel_rfl)
    rw [d21]
    clear d21 hall
    go_wp2_with fail
    go_ret
    exact ⟨rfl, (hF1.trans hF2).trans hS⟩

set_option maxRecDepth 100000 in
set_option maxHeartbeats 4000000 in
theorem c_refFol3 {w : World} (h : Int) (p s r : List UInt8) (m : Int) (hp : p.length = 32) (hs : s.length = 32) (hr : r.length = 32)
    (h' : Int) (p' s' r' : List UInt8) (m' : Int) (hp' : p'.length = 32) (hs' : s'.length = 32) (hr' : r'.length = 32) (ht : hdrChk h m = 0) (ht' : hdrChk h' m' = 0) (hf : ¬ h = h' + 1) :
    Calls Tryd.prog 61 #[.agg (hdrL h p s r m).toArray, .agg (hdrL h' p' s' r' m').toArray] w fun e w' => e = .returned (.bool false) ∧ Fr 0 0 w w' := by
  have HD1 : Hid (decide (hdrChk h m = 0) = true) := Lib.hid (decide_eq_true ht)
  have HD2 : Hid (decide (hdrChk h' m' = 0) = true) := Lib.hid (decide_eq_true ht')
  have HB3 : Hid ((h == h' + 1) = false) := Lib.hid (by simpa using hf)
  have hr' := hdrChk_range ht'
  have HW : Hid (IntKind.i64.wrap (h' + 1) = h' + 1) := Lib.hid (IntWalk.i64_in _ (by omega))
  clear ht ht' hf hr'
  have HL1 := Lib.hid (hdrL_length h p s r m hp hs hr)
  have HL2 := Lib.hid (hdrL_length h' p' s' r' m' hp' hs' hr')
  have HP := Lib.hid hp
  have t1 := trivial
  go_enter Tryd.func61, Tryd.ntmps61
  go_wp2_with (first
    | (have _t := t1; refine wpl_box (hdrL h p s r m) rfl rfl rfl rfl ?_; intro g2 w1 hB1' hF1 hg2 hgs2; clear t1 _t)
    | (refine wpl_box (hdrL h' p' s' r' m') rfl rfl rfl rfl ?_; intro g3 w2 hB2 hF2 hg3 hgs3))
  have hB1 := hB1'.kept hF2 (.inr (Nat.zero_le _))
  refine' wp_region_sure (S := fun ws => Fr 0 0 w2 ws) (E := fun _ => Fr 0 0) (kill := fun _ => []) (Y := [yEq _, yEq _, yEq _, yEq _, yEq _, yEq _, yEq _, yEq _, yEq _, yEq _, yEq _, yEq _, yEq _, yEq _, yEq _, yEq _, yEq _, yEq _, yEq _, yEq _, yEq _, yEq _]) (F := _) (by kernel_rfl) (by kernel_rfl) (by kernel_rfl) (fun V => ?hF) ?hS ?hstep ?hY ?hend
  case hF => simp only [fillA, Act.put, List.setIfInBounds_toArray, List.set_cons_zero, List.set_cons_succ, Nat.reduceAdd, Nat.zero_add]; rfl
  case hS => exact Fr.drew _
  case hstep =>
    -- 0: t5 := Op.load 61 (tmp 2)
    refine StepsOk.cons (i := 0) (fun V ws hS hD K hK => ?_) ?_
    · refine su_load_blk (hB1.kept hS (.inr (Nat.zero_le _))) row27 (by rw [siz27, HL1.out]) rfl rfl rfl (hK.out _ _ hS (Fr.refl _ _ _) ?_); rfl
    -- 1: t6 := Op.call { callee := Callee.value (103), args := #[tmp 5], argTypes := #[61] }
    refine StepsOk.cons (i := 1) (fun V ws hS hD K hK => ?_) ?_
    · have d0 : V 0 = _ := hD.out 0 (by kernel_rfl)
      refine sure_call (f := 103) (args := #[_]) rfl (by go_simp) (c_refMay h p s r m hp hs hr) ?_
      rintro e w4 ⟨rfl, hF4⟩
      rw [HD1.out]
      refine ⟨_, rfl, hK.out _ _ (hS.trans hF4) hF4 ?_⟩; rfl
    -- 2: t7 := Op.move (tmp 6)
    refine StepsOk.cons (i := 2) (fun V ws hS hD K hK => ?_) ?_
    · have d1 : V 1 = _ := hD.out 1 (by kernel_rfl)
      refine' sure_val (v := _) (w' := ws) rfl ?hr (hK.out _ _ hS (Fr.refl _ _ _) ?hy)
      case hr => go_simp; rfl
      case hy => rfl
    -- 3: t8 := Op.load 61 (tmp 3)   GUARD 2
    refine StepsOk.cons (i := 3) (fun V ws hS hD K hK => ?_) ?_
    · have d2 : V 2 = _ := hD.out 2 (by kernel_rfl)
      refine su_load_blk (hB2.kept hS (.inr (Nat.zero_le _))) row27 (by rw [siz27, HL2.out]) (by rw [d2]; rfl) rfl rfl (hK.out _ _ hS (Fr.refl _ _ _) ?_); rfl
    -- 4: t9 := Op.call { callee := Callee.value (103), args := #[tmp 8], argTypes := #[61] }   GUARD 2
    refine StepsOk.cons (i := 4) (fun V ws hS hD K hK => ?_) ?_
    · have d2 : V 2 = _ := hD.out 2 (by kernel_rfl)
      have d3 : V 3 = _ := hD.out 3 (by kernel_rfl)
      refine sure_call (f := 103) (args := #[_]) (by rw [d2]; rfl) (by go_simp) (c_refMay h' p' s' r' m' hp' hs' hr') ?_
      rintro e w4 ⟨rfl, hF4⟩
      rw [HD2.out]
      refine ⟨_, rfl, hK.out _ _ (hS.trans hF4) hF4 ?_⟩; rfl
    -- 5: t10 := Op.pick (tmp 7) (tmp 9) (const (Value.bool false))
    refine StepsOk.cons (i := 5) (fun V ws hS hD K hK => ?_) ?_
    · have d2 : V 2 = _ := hD.out 2 (by kernel_rfl)
      have d4 : V 4 = _ := hD.out 4 (by kernel_rfl)
      refine' sure_val (v := _) (w' := ws) rfl ?hr (hK.out _ _ hS (Fr.refl _ _ _) ?hy)
      case hr => go_simp; rfl
      case hy => rfl
    -- 6: t11 := Op.move (tmp 10)
    refine StepsOk.cons (i := 6) (fun V ws hS hD K hK => ?_) ?_
    · have d5 : V 5 = _ := hD.out 5 (by kernel_rfl)
      refine' sure_val (v := _) (w' := ws) rfl ?hr (hK.out _ _ hS (Fr.refl _ _ _) ?hy)
      case hr => go_simp; rfl
      case hy => rfl
    -- 7: t12 := Op.fieldAddr 61 (tmp 2) 0   GUARD 6
    refine StepsOk.cons (i := 7) (fun V ws hS hD K hK => ?_) ?_
    · have d6 : V 6 = _ := hD.out 6 (by kernel_rfl)
      refine' sure_val (v := _) (w' := ws) (by rw [d6]; rfl) ?hr (hK.out _ _ hS (Fr.refl _ _ _) ?hy)
      case hr => go_simp; rfl
      case hy => rfl
    -- 8: t13 := Op.load 3 (tmp 12)   GUARD 6
    refine StepsOk.cons (i := 8) (fun V ws hS hD K hK => ?_) ?_
    · have d6 : V 6 = _ := hD.out 6 (by kernel_rfl)
      have d7 : V 7 = _ := hD.out 7 (by kernel_rfl)
      have c0 := (hB1.kept hS (.inr (Nat.zero_le _))).cell 0
      simp only [hdrL, List.getElem?_cons_zero] at c0
      refine' sure_val (v := _) (w' := ws) (by rw [d6]; rfl) ?hr (hK.out _ _ hS (Fr.refl _ _ _) ?hy)
      case hr => go_simp; rfl
      case hy => rfl
    -- 9: t14 := Op.fieldAddr 61 (tmp 3) 0   GUARD 6
    refine StepsOk.cons (i := 9) (fun V ws hS hD K hK => ?_) ?_
    · have d6 : V 6 = _ := hD.out 6 (by kernel_rfl)
      refine' sure_val (v := _) (w' := ws) (by rw [d6]; rfl) ?hr (hK.out _ _ hS (Fr.refl _ _ _) ?hy)
      case hr => go_simp; rfl
      case hy => rfl
    -- 10: t15 := Op.load 3 (tmp 14)   GUARD 6
    refine StepsOk.cons (i := 10) (fun V ws hS hD K hK => ?_) ?_
    · have d6 : V 6 = _ := hD.out 6 (by kernel_rfl)
      have d9 : V 9 = _ := hD.out 9 (by kernel_rfl)
      have c0 := (hB2.kept hS (.inr (Nat.zero_le _))).cell 0
      simp only [hdrL, List.getElem?_cons_zero] at c0
      refine' sure_val (v := _) (w' := ws) (by rw [d6]; rfl) ?hr (hK.out _ _ hS (Fr.refl _ _ _) ?hy)
      case hr => go_simp; rfl
      case hy => rfl
    -- 11: t16 := Op.binOp BinOp.add 3 (tmp 15) (const (Value.int IntKind.i64 1)) 3   GUARD 6
    refine StepsOk.cons (i := 11) (fun V ws hS hD K hK => ?_) ?_
    · have d6 : V 6 = _ := hD.out 6 (by kernel_rfl)
      have d10 : V 10 = _ := hD.out 10 (by kernel_rfl)
      have hw := HW.out
      refine' sure_val (v := .int .i64 (h' + 1)) (w' := ws) (by rw [d6]; rfl) ?hr (hK.out _ _ hS (Fr.refl _ _ _) ?hy)
      case hr => go_simp
      case hy => rfl
    -- 12: t17 := Op.binOp BinOp.eql 3 (tmp 13) (tmp 16) 3   GUARD 6
    refine StepsOk.cons (i := 12) (fun V ws hS hD K hK => ?_) ?_
    · have d6 : V 6 = _ := hD.out 6 (by kernel_rfl)
      have d8 : V 8 = _ := hD.out 8 (by kernel_rfl)
      have d11 : V 11 = _ := hD.out 11 (by kernel_rfl)
      have hb := HB3.out
      refine' sure_val (v := .bool false) (w' := ws) (by rw [d6]; rfl) ?hr (hK.out _ _ hS (Fr.refl _ _ _) ?hy)
      case hr => go_simp
      case hy => rfl
    -- 13: t18 := Op.pick (tmp 11) (tmp 17) (const (Value.bool false))
    refine StepsOk.cons (i := 13) (fun V ws hS hD K hK => ?_) ?_
    · have d6 : V 6 = _ := hD.out 6 (by kernel_rfl)
      have d12 : V 12 = _ := hD.out 12 (by kernel_rfl)
      refine' sure_val (v := _) (w' := ws) rfl ?hr (hK.out _ _ hS (Fr.refl _ _ _) ?hy)
      case hr => go_simp; rfl
      case hy => rfl
    -- 14: t19 := Op.move (tmp 18)
    refine StepsOk.cons (i := 14) (fun V ws hS hD K hK => ?_) ?_
    · have d13 : V 13 = _ := hD.out 13 (by kernel_rfl)
      refine' sure_val (v := _) (w' := ws) rfl ?hr (hK.out _ _ hS (Fr.refl _ _ _) ?hy)
      case hr => go_simp; rfl
      case hy => rfl
    -- 15: t20 := Op.fieldAddr 61 (tmp 2) 1   GUARD 14
    refine StepsOk.cons (i := 15) (fun V ws hS hD K hK => ?_) ?_
    · have d14 : V 14 = _ := hD.out 14 (by kernel_rfl)
      refine sure_not (by rw [d14]; rfl) (hK.out _ _ hS (Fr.refl _ _ _) ?_); rfl
    -- 16: t21 := Op.load 30 (tmp 20)   GUARD 14
    refine StepsOk.cons (i := 16) (fun V ws hS hD K hK => ?_) ?_
    · have d14 : V 14 = _ := hD.out 14 (by kernel_rfl)
      refine sure_not (by rw [d14]; rfl) (hK.out _ _ hS (Fr.refl _ _ _) ?_); rfl
    -- 17: t22 := Op.load 61 (tmp 3)   GUARD 14
    refine StepsOk.cons (i := 17) (fun V ws hS hD K hK => ?_) ?_
    · have d14 : V 14 = _ := hD.out 14 (by kernel_rfl)
      refine sure_not (by rw [d14]; rfl) (hK.out _ _ hS (Fr.refl _ _ _) ?_); rfl
    -- 18: t23 := Op.call { callee := Callee.value (105), args := #[tmp 22], argTypes := #[61] }   GUARD 14
    refine StepsOk.cons (i := 18) (fun V ws hS hD K hK => ?_) ?_
    · have d14 : V 14 = _ := hD.out 14 (by kernel_rfl)
      refine sure_not (by rw [d14]; rfl) (hK.out _ _ hS (Fr.refl _ _ _) ?_); rfl
    -- 19: t24 := Op.binOp BinOp.eql 30 (tmp 21) (tmp 23) 30   GUARD 14
    refine StepsOk.cons (i := 19) (fun V ws hS hD K hK => ?_) ?_
    · have d14 : V 14 = _ := hD.out 14 (by kernel_rfl)
      refine sure_not (by rw [d14]; rfl) (hK.out _ _ hS (Fr.refl _ _ _) ?_); rfl
    -- 20: t25 := Op.pick (tmp 19) (tmp 24) (const (Value.bool false))
    refine StepsOk.cons (i := 20) (fun V ws hS hD K hK => ?_) ?_
    · have d14 : V 14 = _ := hD.out 14 (by kernel_rfl)
      have d19 : V 19 = _ := hD.out 19 (by kernel_rfl)
      refine' sure_val (v := _) (w' := ws) rfl ?hr (hK.out _ _ hS (Fr.refl _ _ _) ?hy)
      case hr => go_simp; rfl
      case hy => rfl
    -- 21: t4 := Op.assign (tmp 25)
    refine StepsOk.cons (i := 21) (fun V ws hS hD K hK => ?_) ?_
    · have d20 : V 20 = _ := hD.out 20 (by kernel_rfl)
      refine' sure_val (v := _) (w' := ws) rfl ?hr (hK.out _ _ hS (Fr.refl _ _ _) ?hy)
      case hr => go_simp; rfl
      case hy => rfl
    exact StepsOk.nil
  case hY => repeat first | exact yKeep.nil | refine yKeep.eq ?_
  case hend =>
    intro V ws hS hall
    have d21 : V 21 = _ := hall.out 21 (by kernel_rfl)
    rw [d21]
    clear d21 hall
    go_wp2_with fail
    go_ret
    exact ⟨rfl, (hF1.trans hF2).trans hS⟩

set_option maxRecDepth 100000 in
set_option maxHeartbeats 4000000 in
theorem c_refFol4 {w : World} (h : Int) (p s r : List UInt8) (m : Int) (hp : p.length = 32) (hs : s.length = 32) (hr : r.length = 32)
    (n' : Nat) (p' s' r' : List UInt8) (k' : Nat) (hp' : p'.length = 32) (hs' : s'.length = 32) (hr' : r'.length = 32) (ht : hdrChk h m = 0) (ht' : hdrChk n' k' = 0) (hf : h = (n' : Int) + 1) (b4 : Bool) (hb4 : b4 = true ↔ p = hdrH n' p' s' r' k') :
    Calls Tryd.prog 61 #[.agg (hdrL h p s r m).toArray, .agg (hdrL n' p' s' r' k').toArray] w fun e w' => e = .returned (.bool b4) ∧ Fr 0 0 w w' := by
  have HD1 : Hid (decide (hdrChk h m = 0) = true) := Lib.hid (decide_eq_true ht)
  have HD2 : Hid (decide (hdrChk (n' : Int) k' = 0) = true) := Lib.hid (decide_eq_true ht')
  have HB3 : Hid ((h == (n' : Int) + 1) = true) := Lib.hid (by simpa using hf)
  have hr2 := hdrChk_range ht'
  have hn' : n' ≤ 1073741824 := by omega
  have hk' : k' ≤ 256 := by omega
  have HW : Hid (IntKind.i64.wrap ((n' : Int) + 1) = (n' : Int) + 1) := Lib.hid (IntWalk.i64_in _ (by omega))
  have HOK := Lib.hid ht'
  obtain ⟨D, hD⟩ : ∃ D, D = hdrH n' p' s' r' k' := ⟨_, rfl⟩
  have hDl : D.length = 32 := by rw [hD, hdrH_length]
  have hb4' : b4 = true ↔ p.map ub = D.map ub := by
    rw [hb4, hD]
    exact ⟨fun e => by rw [e], map_ub_inj⟩
  have HB4 := Lib.hid hb4'
  have HDD := Lib.hid hD
  have e1 : Hid (hdrL h p s r m = [.int .i64 h] ++ p.map ub ++ (s.map ub ++ (r.map ub ++ [.int .i64 m]))) := (show _ = _ by simp [hdrL])
  clear ht ht' hf hb4 hr2 hb4' hD
  have HL1 := Lib.hid (hdrL_length h p s r m hp hs hr)
  have HL2 := Lib.hid (hdrL_length n' p' s' r' k' hp' hs' hr')
  have HP := Lib.hid hp
  have t1 := trivial
  go_enter Tryd.func61, Tryd.ntmps61
  go_wp2_with (first
    | (have _t := t1; refine wpl_box (hdrL h p s r m) rfl rfl rfl rfl ?_; intro g2 w1 hB1' hF1 hg2 hgs2; clear t1 _t)
    | (refine wpl_box (hdrL n' p' s' r' k') rfl rfl rfl rfl ?_; intro g3 w2 hB2 hF2 hg3 hgs3))
  have hB1 := hB1'.kept hF2 (.inr (Nat.zero_le _))
  refine' wp_region_sure (S := fun ws => Fr 0 0 w2 ws) (E := fun _ => Fr 0 0) (kill := fun _ => []) (Y := [yEq _, yEq _, yEq _, yEq _, yEq _, yEq _, yEq _, yEq _, yEq _, yEq _, yEq _, yEq _, yEq _, yEq _, yEq _, yEq _, yEq _, yEq _, yEq _, yEq _, yEq _, yEq _]) (F := _) (by kernel_rfl) (by kernel_rfl) (by kernel_rfl) (fun V => ?hF) ?hS ?hstep ?hY ?hend
  case hF => simp only [fillA, Act.put, List.setIfInBounds_toArray, List.set_cons_zero, List.set_cons_succ, Nat.reduceAdd, Nat.zero_add]; rfl
  case hS => exact Fr.drew _
  case hstep =>
    -- 0: t5 := Op.load 61 (tmp 2)
    refine StepsOk.cons (i := 0) (fun V ws hS hD K hK => ?_) ?_
    · refine su_load_blk (hB1.kept hS (.inr (Nat.zero_le _))) row27 (by rw [siz27, HL1.out]) rfl rfl rfl (hK.out _ _ hS (Fr.refl _ _ _) ?_); rfl
    -- 1: t6 := Op.call { callee := Callee.value (103), args := #[tmp 5], argTypes := #[61] }
    refine StepsOk.cons (i := 1) (fun V ws hS hD K hK => ?_) ?_
    · have d0 : V 0 = _ := hD.out 0 (by kernel_rfl)
      refine sure_call (f := 103) (args := #[_]) rfl (by go_simp) (c_refMay h p s r m hp hs hr) ?_
      rintro e w4 ⟨rfl, hF4⟩
      rw [HD1.out]
      refine ⟨_, rfl, hK.out _ _ (hS.trans hF4) hF4 ?_⟩; rfl
    -- 2: t7 := Op.move (tmp 6)
    refine StepsOk.cons (i := 2) (fun V ws hS hD K hK => ?_) ?_
    · have d1 : V 1 = _ := hD.out 1 (by kernel_rfl)
      refine' sure_val (v := _) (w' := ws) rfl ?hr (hK.out _ _ hS (Fr.refl _ _ _) ?hy)
      case hr => go_simp; rfl
      case hy => rfl
    -- 3: t8 := Op.load 61 (tmp 3)   GUARD 2
    refine StepsOk.cons (i := 3) (fun V ws hS hD K hK => ?_) ?_
    · have d2 : V 2 = _ := hD.out 2 (by kernel_rfl)
      refine su_load_blk (hB2.kept hS (.inr (Nat.zero_le _))) row27 (by rw [siz27, HL2.out]) (by rw [d2]; rfl) rfl rfl (hK.out _ _ hS (Fr.refl _ _ _) ?_); rfl
    -- 4: t9 := Op.call { callee := Callee.value (103), args := #[tmp 8], argTypes := #[61] }   GUARD 2
    refine StepsOk.cons (i := 4) (fun V ws hS hD K hK => ?_) ?_
    · have d2 : V 2 = _ := hD.out 2 (by kernel_rfl)
      have d3 : V 3 = _ := hD.out 3 (by kernel_rfl)
      refine sure_call (f := 103) (args := #[_]) (by rw [d2]; rfl) (by go_simp) (c_refMay n' p' s' r' k' hp' hs' hr') ?_
      rintro e w4 ⟨rfl, hF4⟩
      rw [HD2.out]
      refine ⟨_, rfl, hK.out _ _ (hS.trans hF4) hF4 ?_⟩; rfl
    -- 5: t10 := Op.pick (tmp 7) (tmp 9) (const (Value.bool false))
    refine StepsOk.cons (i := 5) (fun V ws hS hD K hK => ?_) ?_
    · have d2 : V 2 = _ := hD.out 2 (by kernel_rfl)
      have d4 : V 4 = _ := hD.out 4 (by kernel_rfl)
      refine' sure_val (v := _) (w' := ws) rfl ?hr (hK.out _ _ hS (Fr.refl _ _ _) ?hy)
      case hr => go_simp; rfl
      case hy => rfl
    -- 6: t11 := Op.move (tmp 10)
    refine StepsOk.cons (i := 6) (fun V ws hS hD K hK => ?_) ?_
    · have d5 : V 5 = _ := hD.out 5 (by kernel_rfl)
      refine' sure_val (v := _) (w' := ws) rfl ?hr (hK.out _ _ hS (Fr.refl _ _ _) ?hy)
      case hr => go_simp; rfl
      case hy => rfl
    -- 7: t12 := Op.fieldAddr 61 (tmp 2) 0   GUARD 6
    refine StepsOk.cons (i := 7) (fun V ws hS hD K hK => ?_) ?_
    · have d6 : V 6 = _ := hD.out 6 (by kernel_rfl)
      refine' sure_val (v := _) (w' := ws) (by rw [d6]; rfl) ?hr (hK.out _ _ hS (Fr.refl _ _ _) ?hy)
      case hr => go_simp; rfl
      case hy => rfl
    -- 8: t13 := Op.load 3 (tmp 12)   GUARD 6
    refine StepsOk.cons (i := 8) (fun V ws hS hD K hK => ?_) ?_
    · have d6 : V 6 = _ := hD.out 6 (by kernel_rfl)
      have d7 : V 7 = _ := hD.out 7 (by kernel_rfl)
      have c0 := (hB1.kept hS (.inr (Nat.zero_le _))).cell 0
      simp only [hdrL, List.getElem?_cons_zero] at c0
      refine' sure_val (v := _) (w' := ws) (by rw [d6]; rfl) ?hr (hK.out _ _ hS (Fr.refl _ _ _) ?hy)
      case hr => go_simp; rfl
      case hy => rfl
    -- 9: t14 := Op.fieldAddr 61 (tmp 3) 0   GUARD 6
    refine StepsOk.cons (i := 9) (fun V ws hS hD K hK => ?_) ?_
    · have d6 : V 6 = _ := hD.out 6 (by kernel_rfl)
      refine' sure_val (v := _) (w' := ws) (by rw [d6]; rfl) ?hr (hK.out _ _ hS (Fr.refl _ _ _) ?hy)
      case hr => go_simp; rfl
      case hy => rfl
    -- 10: t15 := Op.load 3 (tmp 14)   GUARD 6
    refine StepsOk.cons (i := 10) (fun V ws hS hD K hK => ?_) ?_
    · have d6 : V 6 = _ := hD.out 6 (by kernel_rfl)
      have d9 : V 9 = _ := hD.out 9 (by kernel_rfl)
      have c0 := (hB2.kept hS (.inr (Nat.zero_le _))).cell 0
      simp only [hdrL, List.getElem?_cons_zero] at c0
      refine' sure_val (v := _) (w' := ws) (by rw [d6]; rfl) ?hr (hK.out _ _ hS (Fr.refl _ _ _) ?hy)
      case hr => go_simp; rfl
      case hy => rfl
    -- 11: t16 := Op.binOp BinOp.add 3 (tmp 15) (const (Value.int IntKind.i64 1)) 3   GUARD 6
    refine StepsOk.cons (i := 11) (fun V ws hS hD K hK => ?_) ?_
    · have d6 : V 6 = _ := hD.out 6 (by kernel_rfl)
      have d10 : V 10 = _ := hD.out 10 (by kernel_rfl)
      have hw := HW.out
      refine' sure_val (v := .int .i64 ((n' : Int) + 1)) (w' := ws) (by rw [d6]; rfl) ?hr (hK.out _ _ hS (Fr.refl _ _ _) ?hy)
      case hr => go_simp
      case hy => rfl
    -- 12: t17 := Op.binOp BinOp.eql 3 (tmp 13) (tmp 16) 3   GUARD 6
    refine StepsOk.cons (i := 12) (fun V ws hS hD K hK => ?_) ?_
    · have d6 : V 6 = _ := hD.out 6 (by kernel_rfl)
      have d8 : V 8 = _ := hD.out 8 (by kernel_rfl)
      have d11 : V 11 = _ := hD.out 11 (by kernel_rfl)
      have hb := HB3.out
      refine' sure_val (v := .bool true) (w' := ws) (by rw [d6]; rfl) ?hr (hK.out _ _ hS (Fr.refl _ _ _) ?hy)
      case hr => go_simp
      case hy => rfl
    -- 13: t18 := Op.pick (tmp 11) (tmp 17) (const (Value.bool false))
    refine StepsOk.cons (i := 13) (fun V ws hS hD K hK => ?_) ?_
    · have d6 : V 6 = _ := hD.out 6 (by kernel_rfl)
      have d12 : V 12 = _ := hD.out 12 (by kernel_rfl)
      refine' sure_val (v := _) (w' := ws) rfl ?hr (hK.out _ _ hS (Fr.refl _ _ _) ?hy)
      case hr => go_simp; rfl
      case hy => rfl
    -- 14: t19 := Op.move (tmp 18)
    refine StepsOk.cons (i := 14) (fun V ws hS hD K hK => ?_) ?_
    · have d13 : V 13 = _ := hD.out 13 (by kernel_rfl)
      refine' sure_val (v := _) (w' := ws) rfl ?hr (hK.out _ _ hS (Fr.refl _ _ _) ?hy)
      case hr => go_simp; rfl
      case hy => rfl
    -- 15: t20 := Op.fieldAddr 61 (tmp 2) 1   GUARD 14
    refine StepsOk.cons (i := 15) (fun V ws hS hD K hK => ?_) ?_
    · have d14 : V 14 = _ := hD.out 14 (by kernel_rfl)
      refine' sure_val (v := _) (w' := ws) (by rw [d14]; rfl) ?hr (hK.out _ _ hS (Fr.refl _ _ _) ?hy)
      case hr => go_simp; rfl
      case hy => rfl
    -- 16: t21 := Op.load 30 (tmp 20)   GUARD 14
    refine StepsOk.cons (i := 16) (fun V ws hS hD K hK => ?_) ?_
    · have d14 : V 14 = _ := hD.out 14 (by kernel_rfl)
      have d15 : V 15 = _ := hD.out 15 (by kernel_rfl)
      have hB := hB1.kept hS (.inr (Nat.zero_le _))
      rw [e1.out] at hB
      refine su_load_part hB rfl row30 (by rw [siz30, List.length_map, HP.out]) (by rw [d14]; rfl) rfl d15 (hK.out _ _ hS (Fr.refl _ _ _) ?_); rfl
    -- 17: t22 := Op.load 61 (tmp 3)   GUARD 14
    refine StepsOk.cons (i := 17) (fun V ws hS hD K hK => ?_) ?_
    · have d14 : V 14 = _ := hD.out 14 (by kernel_rfl)
      refine su_load_blk (hB2.kept hS (.inr (Nat.zero_le _))) row27 (by rw [siz27, HL2.out]) (by rw [d14]; rfl) rfl rfl (hK.out _ _ hS (Fr.refl _ _ _) ?_); rfl
    -- 18: t23 := Op.call { callee := Callee.value (105), args := #[tmp 22], argTypes := #[61] }   GUARD 14
    refine StepsOk.cons (i := 18) (fun V ws hS hD K hK => ?_) ?_
    · have d14 : V 14 = _ := hD.out 14 (by kernel_rfl)
      have d17 : V 17 = _ := hD.out 17 (by kernel_rfl)
      refine sure_call (f := 105) (args := #[_]) (by rw [d14]; rfl) (by go_simp) (c_refHName n' p' s' r' k' hp' hs' hr' hn' hk' HOK.out) ?_
      rintro e w4 ⟨rfl, hF4⟩
      rw [← HDD.out]
      refine ⟨_, rfl, hK.out _ _ (hS.trans hF4) hF4 ?_⟩; rfl
    -- 19: t24 := Op.binOp BinOp.eql 30 (tmp 21) (tmp 23) 30   GUARD 14
    refine StepsOk.cons (i := 19) (fun V ws hS hD K hK => ?_) ?_
    · have d14 : V 14 = _ := hD.out 14 (by kernel_rfl)
      have d16 : V 16 = _ := hD.out 16 (by kernel_rfl)
      have d18 : V 18 = _ := hD.out 18 (by kernel_rfl)
      refine su_eql leaves30 (by omega) row30 eqg30 (LF.bytes32 p HP.out) (LF.bytes32 D hDl) (r := b4) HB4.out (by rw [d14]; rfl) rfl d16 d18 (hK.out _ _ hS (Fr.refl _ _ _) ?_); rfl
    -- 20: t25 := Op.pick (tmp 19) (tmp 24) (const (Value.bool false))
    refine StepsOk.cons (i := 20) (fun V ws hS hD K hK => ?_) ?_
    · have d14 : V 14 = _ := hD.out 14 (by kernel_rfl)
      have d19 : V 19 = _ := hD.out 19 (by kernel_rfl)
      refine' sure_val (v := _) (w' := ws) rfl ?hr (hK.out _ _ hS (Fr.refl _ _ _) ?hy)
      case hr => go_simp; rfl
      case hy => rfl
    -- 21: t4 := Op.assign (tmp 25)
    refine StepsOk.cons (i := 21) (fun V ws hS hD K hK => ?_) ?_
    · have d20 : V 20 = _ := hD.out 20 (by kernel_rfl)
      refine' sure_val (v := _) (w' := ws) rfl ?hr (hK.out _ _ hS (Fr.refl _ _ _) ?hy)
      case hr => go_simp; rfl
      case hy => rfl
    exact StepsOk.nil
  case hY => repeat first | exact yKeep.nil | refine yKeep.eq ?_
  case hend =>
    intro V ws hS hall
    have d21 : V 21 = _ := hall.out 21 (by kernel_rfl)
    rw [d21]
    clear d21 hall
    go_wp2_with fail
    go_ret
    exact ⟨rfl, (hF1.trans hF2).trans hS⟩

theorem c_refFollows {w : World} (h : Int) (p s r : List UInt8) (m : Int) (hp : p.length = 32) (hs : s.length = 32) (hr : r.length = 32)
    (h' : Int) (p' s' r' : List UInt8) (m' : Int) (hp' : p'.length = 32) (hs' : s'.length = 32) (hr' : r'.length = 32) :
    Calls Tryd.prog 61 #[.agg (hdrL h p s r m).toArray, .agg (hdrL h' p' s' r' m').toArray] w fun e w' => e = .returned (.bool (decide (fol h p m h' p' s' r' m'))) ∧ Fr 0 0 w w' := by
  by_cases h1 : hdrChk h m = 0
  · by_cases h2 : hdrChk h' m' = 0
    · by_cases h3 : h = h' + 1
      · have hr2 := hdrChk_range h2
        obtain ⟨n', rfl⟩ := Int.eq_ofNat_of_zero_le hr2.1
        obtain ⟨k', rfl⟩ := Int.eq_ofNat_of_zero_le hr2.2.2.1
        refine c_refFol4 h p s r m hp hs hr n' p' s' r' k' hp' hs' hr' h1 h2 h3 _ ?_
        rw [decide_eq_true_eq]
        exact ⟨fun x => x.2.2.2, fun x => ⟨h2, h1, h3, x⟩⟩
      · rw [decide_eq_false (fun x : fol h p m h' p' s' r' m' => h3 x.2.2.1)]
        exact c_refFol3 h p s r m hp hs hr h' p' s' r' m' hp' hs' hr' h1 h2 h3
    · rw [decide_eq_false (fun x : fol h p m h' p' s' r' m' => h2 x.1)]
      exact c_refFol2 h p s r m hp hs hr h' p' s' r' m' hp' hs' hr' h1 h2
  · rw [decide_eq_false (fun x : fol h p m h' p' s' r' m' => h1 x.2.1)]
    exact c_refFol1 h p s r m hp hs hr h' p' s' r' m' hp' hs' hr' h1

end Go.Proofs.YtgndidjfjdaagaaDoor
