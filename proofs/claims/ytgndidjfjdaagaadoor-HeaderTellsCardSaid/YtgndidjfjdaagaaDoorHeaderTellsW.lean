/-
  The walk of the law HeaderTells.
-/
import Derived.Test.YtgndidjfjdaagaaDoorRefH2
set_option linter.unusedSimpArgs false
set_option linter.unusedVariables false
set_option linter.unnecessarySimpa false
namespace Go.Proofs.YtgndidjfjdaagaaDoor
open Go.RowKit

set_option maxRecDepth 100000 in
set_option maxHeartbeats 8000000 in
theorem w_HeaderTells {w : World} (h : Int) (p s r : List UInt8) (m : Int) (hp : p.length = 32) (hs : s.length = 32) (hr : r.length = 32)
    (h' : Int) (p' s' r' : List UInt8) (m' : Int) (hp' : p'.length = 32) (hs' : s'.length = 32) (hr' : r'.length = 32) (hk : KT w) :
    Calls Tryd.prog 10 #[.agg (hdrL h p s r m).toArray, .agg (hdrL h' p' s' r' m').toArray] w fun e w' => e = .returned (.bool true) ∧ Fr 0 0 w w' := by
  have HL1 := Lib.hid (hdrL_length h p s r m hp hs hr)
  have HL2 := Lib.hid (hdrL_length h' p' s' r' m' hp' hs' hr')
  obtain ⟨D, hD⟩ : ∃ D, D = hdrH h p s r m := ⟨_, rfl⟩
  have hDl : D.length = 32 := by rw [hD, hdrH_length]
  have hsl : (D.map ub).length = 32 := by rw [List.length_map, hDl]
  have HD := Lib.hid hD
  obtain ⟨c, hc⟩ : ∃ c, c = hdrChk h m := ⟨_, rfl⟩
  have HC := Lib.hid hc.symm
  obtain ⟨B, hB⟩ : ∃ B, B = hdrB h p s r m := ⟨_, rfl⟩
  have HB := Lib.hid hB
  have HBB : Hid ((B == B) = true) := Lib.hid (by simp)
  obtain ⟨b, hb⟩ : ∃ b, b = decide (fol h p m h' p' s' r' m') := ⟨_, rfl⟩
  have HFB := Lib.hid hb.symm
  clear hD hc hB hb
  have t1 := trivial
  have t2 := trivial
  have t3 := trivial
  go_enter Tryd.func10, Tryd.ntmps10
  go_wp2_with (first
    | (have _t := t1; refine wpl_box (hdrL h p s r m) rfl rfl rfl rfl ?_; intro g2 w1 hX1 hF1 hg2 hgs2; clear t1 _t)
    | (refine wpl_box (hdrL h' p' s' r' m') rfl rfl rfl rfl ?_; intro g3 w2 hX2 hF2 hg3 hgs3; have hY2 := hX1.kept hF2 (.inr (Nat.zero_le _)); have hW2 := hF1.trans hF2)
    | (have _t := hY2; refine wpl_load_blk hY2 row27 (by rw [siz27, HL1.out]) rfl rfl rfl ?_)
    | (go_at_call 54; refine (c_hdrBytes h p s r m hp hs hr).mono ?_; rintro e w3 ⟨v3, rfl, hR3', hF3⟩; rw [HC.out]; rw [← HB.out] at hR3'; have hY3 := hY2.kept hF3 (.inr (Nat.zero_le _)); have hW3 := hW2.trans hF3)
    | (refine wpl_load_blk hY3 row27 (by rw [siz27, HL1.out]) rfl rfl rfl ?_)
    | (go_at_call 55; refine (c_refHBytes h p s r m hp hs hr).mono ?_; rintro e w4 ⟨v4, rfl, hR4', hF4⟩; rw [HC.out]; rw [← HB.out] at hR4'; have hY4 := hY3.kept hF4 (.inr (Nat.zero_le _)); have hW4 := hW3.trans hF4)
    | (refine wpl_load_blk hY4 row27 (by rw [siz27, HL1.out]) rfl rfl rfl ?_)
    | (go_at_call 56; refine (c_hdrHash h p s r m hp hs hr (hk.kept hW4 (.inr (Nat.zero_le _)))).mono ?_; rintro e w5 ⟨rfl, hF5⟩; rw [HC.out, ← HD.out]; have hW5 := hW4.trans hF5)
    | (have _t := t2; refine wpl_alloc zer30 rfl rfl rfl ?_; intro g6 w6 hA6 hF6 hg6 hs6; have z5 := hW5.size; have q4 := hY4.lt; have q5 := hF5.size; clear t2 _t)
    | (have _t := hA6; refine wpl_store_blk hA6 (by rw [hsl]; rfl) (by rw [siz30, hsl]) (ub_oneCell _) rfl rfl rfl rfl ?_; intro w7 hB7 hF7; clear hA6 _t; have hF57 : Fr 0 0 w5 w7 := hF6.on hF7 hg6; have hW7 := hW5.trans hF57; have hY7 := (hY4.kept hF5 (.inr (Nat.zero_le _))).kept hF57 (.inr (Nat.zero_le _)))
    | (refine wpl_load_blk hY7 row27 (by rw [siz27, HL1.out]) rfl rfl rfl ?_)
    | (go_at_call 57; refine (c_refHHash h p s r m hp hs hr).mono ?_; rintro e w8 ⟨rfl, hF8⟩; rw [HC.out, ← HD.out]; have hW8 := hW7.trans hF8)
    | (refine wpl_alloc zer30 rfl rfl rfl ?_; intro g9 w9 hA9 hF9 hg9 hs9)
    | (refine wpl_store_blk hA9 (by rw [hsl]; rfl) (by rw [siz30, hsl]) (ub_oneCell _) rfl rfl rfl rfl ?_; intro w10 hB9 hF10; clear hA9; have hF810 : Fr 0 0 w8 w10 := hF9.on hF10 hg9; have hW10 := hW8.trans hF810))
  have hk10 := hk.kept hW10 (.inr (Nat.zero_le _))
  have hF710 := hF8.trans hF810
  have hB1 := hY7.kept hF710 (.inr (Nat.zero_le _))
  have hB6 := hB7.kept hF710 (.inr (Nat.zero_le _))
  have hF310 : Fr 0 0 w3 w10 := ((hF4.trans hF5).trans hF57).trans hF710
  have hF410 : Fr 0 0 w4 w10 := (hF5.trans hF57).trans hF710
  have hR3 := hR3'.kept hF310 (.inr (Nat.zero_le _))
  have hR4 := hR4'.kept hF410 (.inr (Nat.zero_le _))
  have hP1 := hX2.kept (hF3.trans hF310) (.inr (Nat.zero_le _))
  clear hY2 hY3 hY4 hY7 hX1 hX2 hR3' hR4' hB7
  refine' wp_region_sure (S := fun ws => Fr 0 0 w10 ws) (E := fun _ => Fr 0 0) (kill := fun _ => []) (Y := [yEq _, yEq _, yEq _, yEq _, yEq _, yEq _, yEq _, yEq _, yEq _, yEq _, yEq _, yEq _, yEq _, yEq _, yEq _, yEq _, yEq _, yEq _, yEq _, yEq _, yEq _, yEq _, yEq _, yEq _, yEq _, yEq _]) (F := _) (by kernel_rfl) (by kernel_rfl) (by kernel_rfl) (fun V => ?hF) ?hS ?hstep ?hY ?hend
  case hF => simp only [fillA, Act.put, List.setIfInBounds_toArray, List.set_cons_zero, List.set_cons_succ, Nat.reduceAdd, Nat.zero_add]; rfl
  case hS => exact Fr.drew _
  case hstep =>
    -- 0: t34 := Op.move (tmp 5)
    refine StepsOk.cons (i := 0) (fun V ws hS hD K hK => ?_) ?_
    · refine' sure_val (v := _) (w' := ws) rfl ?hr (hK.out _ _ hS (Fr.refl _ _ _) ?hy)
      case hr => go_simp; rfl
      case hy => rfl
    -- 1: t35 := Op.move (tmp 7)
    refine StepsOk.cons (i := 1) (fun V ws hS hD K hK => ?_) ?_
    · refine' sure_val (v := _) (w' := ws) rfl ?hr (hK.out _ _ hS (Fr.refl _ _ _) ?hy)
      case hr => go_simp; rfl
      case hy => rfl
    -- 2: t36 := Op.call { callee := Callee.value (23), args := #[tmp 34, tmp 35], argTypes := #[24, 24] }
    refine StepsOk.cons (i := 2) (fun V ws hS hD K hK => ?_) ?_
    · have d0 : V 0 = _ := hD.out 0 (by kernel_rfl)
      have d1 : V 1 = _ := hD.out 1 (by kernel_rfl)
      refine sure_call (f := 23) (args := #[_, _]) rfl (by go_simp) (c_Same (hR3.kept hS (.inr (Nat.zero_le _))) (hR4.kept hS (.inr (Nat.zero_le _)))) ?_
      rintro e w4 ⟨rfl, rfl⟩
      rw [HBB.out]
      refine ⟨_, rfl, hK.out _ _ hS (Fr.refl _ _ _) ?_⟩; rfl
    -- 3: t37 := Op.move (tmp 36)
    refine StepsOk.cons (i := 3) (fun V ws hS hD K hK => ?_) ?_
    · have d2 : V 2 = _ := hD.out 2 (by kernel_rfl)
      refine' sure_val (v := _) (w' := ws) rfl ?hr (hK.out _ _ hS (Fr.refl _ _ _) ?hy)
      case hr => go_simp; rfl
      case hy => rfl
    -- 4: t38 := Op.move (tmp 6)   GUARD 3
    refine StepsOk.cons (i := 4) (fun V ws hS hD K hK => ?_) ?_
    · have d3 : V 3 = _ := hD.out 3 (by kernel_rfl)
      refine' sure_val (v := _) (w' := ws) (by rw [d3]; rfl) ?hr (hK.out _ _ hS (Fr.refl _ _ _) ?hy)
      case hr => go_simp; rfl
      case hy => rfl
    -- 5: t39 := Op.move (tmp 8)   GUARD 3
    refine StepsOk.cons (i := 5) (fun V ws hS hD K hK => ?_) ?_
    · have d3 : V 3 = _ := hD.out 3 (by kernel_rfl)
      refine' sure_val (v := _) (w' := ws) (by rw [d3]; rfl) ?hr (hK.out _ _ hS (Fr.refl _ _ _) ?hy)
      case hr => go_simp; rfl
      case hy => rfl
    -- 6: t40 := Op.binOp BinOp.eql 3 (tmp 38) (tmp 39) 3   GUARD 3
    refine StepsOk.cons (i := 6) (fun V ws hS hD K hK => ?_) ?_
    · have d3 : V 3 = _ := hD.out 3 (by kernel_rfl)
      have d4 : V 4 = _ := hD.out 4 (by kernel_rfl)
      have d5 : V 5 = _ := hD.out 5 (by kernel_rfl)
      refine' sure_val (v := _) (w' := ws) (by rw [d3]; rfl) ?hr (hK.out _ _ hS (Fr.refl _ _ _) ?hy)
      case hr => go_simp; rfl
      case hy => rfl
    -- 7: t41 := Op.pick (tmp 37) (tmp 40) (const (Value.bool false))
    refine StepsOk.cons (i := 7) (fun V ws hS hD K hK => ?_) ?_
    · have d3 : V 3 = _ := hD.out 3 (by kernel_rfl)
      have d6 : V 6 = _ := hD.out 6 (by kernel_rfl)
      refine' sure_val (v := _) (w' := ws) rfl ?hr (hK.out _ _ hS (Fr.refl _ _ _) ?hy)
      case hr => go_simp; rfl
      case hy => rfl
    -- 8: t42 := Op.move (tmp 41)
    refine StepsOk.cons (i := 8) (fun V ws hS hD K hK => ?_) ?_
    · have d7 : V 7 = _ := hD.out 7 (by kernel_rfl)
      refine' sure_val (v := _) (w' := ws) rfl ?hr (hK.out _ _ hS (Fr.refl _ _ _) ?hy)
      case hr => go_simp; rfl
      case hy => rfl
    -- 9: t43 := Op.load 30 (tmp 9)   GUARD 8
    refine StepsOk.cons (i := 9) (fun V ws hS hD K hK => ?_) ?_
    · have d8 : V 8 = _ := hD.out 8 (by kernel_rfl)
      refine su_load_blk (hB6.kept hS (.inr (Nat.zero_le _))) row30 (by rw [siz30, hsl]) (by rw [d8]; rfl) rfl rfl (hK.out _ _ hS (Fr.refl _ _ _) ?_); rfl
    -- 10: t44 := Op.load 30 (tmp 11)   GUARD 8
    refine StepsOk.cons (i := 10) (fun V ws hS hD K hK => ?_) ?_
    · have d8 : V 8 = _ := hD.out 8 (by kernel_rfl)
      refine su_load_blk (hB9.kept hS (.inr (Nat.zero_le _))) row30 (by rw [siz30, hsl]) (by rw [d8]; rfl) rfl rfl (hK.out _ _ hS (Fr.refl _ _ _) ?_); rfl
    -- 11: t45 := Op.binOp BinOp.eql 30 (tmp 43) (tmp 44) 30   GUARD 8
    refine StepsOk.cons (i := 11) (fun V ws hS hD K hK => ?_) ?_
    · have d8 : V 8 = _ := hD.out 8 (by kernel_rfl)
      have d9 : V 9 = _ := hD.out 9 (by kernel_rfl)
      have d10 : V 10 = _ := hD.out 10 (by kernel_rfl)
      refine su_eqt leaves30 (by omega) row30 eqg30 (LF.bytes32 D hDl) (LF.bytes32 D hDl) rfl (by rw [d8]; rfl) rfl d9 d10 (hK.out _ _ hS (Fr.refl _ _ _) ?_); rfl
    -- 12: t46 := Op.pick (tmp 42) (tmp 45) (const (Value.bool false))
    refine StepsOk.cons (i := 12) (fun V ws hS hD K hK => ?_) ?_
    · have d8 : V 8 = _ := hD.out 8 (by kernel_rfl)
      have d11 : V 11 = _ := hD.out 11 (by kernel_rfl)
      refine' sure_val (v := _) (w' := ws) rfl ?hr (hK.out _ _ hS (Fr.refl _ _ _) ?hy)
      case hr => go_simp; rfl
      case hy => rfl
    -- 13: t47 := Op.move (tmp 46)
    refine StepsOk.cons (i := 13) (fun V ws hS hD K hK => ?_) ?_
    · have d12 : V 12 = _ := hD.out 12 (by kernel_rfl)
      refine' sure_val (v := _) (w' := ws) rfl ?hr (hK.out _ _ hS (Fr.refl _ _ _) ?hy)
      case hr => go_simp; rfl
      case hy => rfl
    -- 14: t48 := Op.move (tmp 10)   GUARD 13
    refine StepsOk.cons (i := 14) (fun V ws hS hD K hK => ?_) ?_
    · have d13 : V 13 = _ := hD.out 13 (by kernel_rfl)
      refine' sure_val (v := _) (w' := ws) (by rw [d13]; rfl) ?hr (hK.out _ _ hS (Fr.refl _ _ _) ?hy)
      case hr => go_simp; rfl
      case hy => rfl
    -- 15: t49 := Op.move (tmp 12)   GUARD 13
    refine StepsOk.cons (i := 15) (fun V ws hS hD K hK => ?_) ?_
    · have d13 : V 13 = _ := hD.out 13 (by kernel_rfl)
      refine' sure_val (v := _) (w' := ws) (by rw [d13]; rfl) ?hr (hK.out _ _ hS (Fr.refl _ _ _) ?hy)
      case hr => go_simp; rfl
      case hy => rfl
    -- 16: t50 := Op.binOp BinOp.eql 3 (tmp 48) (tmp 49) 3   GUARD 13
    refine StepsOk.cons (i := 16) (fun V ws hS hD K hK => ?_) ?_
    · have d13 : V 13 = _ := hD.out 13 (by kernel_rfl)
      have d14 : V 14 = _ := hD.out 14 (by kernel_rfl)
      have d15 : V 15 = _ := hD.out 15 (by kernel_rfl)
      refine' sure_val (v := _) (w' := ws) (by rw [d13]; rfl) ?hr (hK.out _ _ hS (Fr.refl _ _ _) ?hy)
      case hr => go_simp; rfl
      case hy => rfl
    -- 17: t51 := Op.pick (tmp 47) (tmp 50) (const (Value.bool false))
    refine StepsOk.cons (i := 17) (fun V ws hS hD K hK => ?_) ?_
    · have d13 : V 13 = _ := hD.out 13 (by kernel_rfl)
      have d16 : V 16 = _ := hD.out 16 (by kernel_rfl)
      refine' sure_val (v := _) (w' := ws) rfl ?hr (hK.out _ _ hS (Fr.refl _ _ _) ?hy)
      case hr => go_simp; rfl
      case hy => rfl
    -- 18: t52 := Op.move (tmp 51)
    refine StepsOk.cons (i := 18) (fun V ws hS hD K hK => ?_) ?_
    · have d17 : V 17 = _ := hD.out 17 (by kernel_rfl)
      refine' sure_val (v := _) (w' := ws) rfl ?hr (hK.out _ _ hS (Fr.refl _ _ _) ?hy)
      case hr => go_simp; rfl
      case hy => rfl
    -- 19: t53 := Op.load 61 (tmp 2)   GUARD 18
    refine StepsOk.cons (i := 19) (fun V ws hS hD K hK => ?_) ?_
    · have d18 : V 18 = _ := hD.out 18 (by kernel_rfl)
      refine su_load_blk (hB1.kept hS (.inr (Nat.zero_le _))) row27 (by rw [siz27, HL1.out]) (by rw [d18]; rfl) rfl rfl (hK.out _ _ hS (Fr.refl _ _ _) ?_); rfl
    -- 20: t54 := Op.call { callee := Callee.value (58), args := #[tmp 53], argTypes := #[61] }   GUARD 18
    refine StepsOk.cons (i := 20) (fun V ws hS hD K hK => ?_) ?_
    · have d18 : V 18 = _ := hD.out 18 (by kernel_rfl)
      have d19 : V 19 = _ := hD.out 19 (by kernel_rfl)
      refine sure_call (f := 58) (args := #[_]) (by rw [d18]; rfl) (by go_simp) (c_hdrCheck h p s r m hp hs hr) ?_
      rintro e w4 ⟨rfl, hF4⟩
      rw [HC.out]
      refine ⟨_, rfl, hK.out _ _ (hS.trans hF4) hF4 ?_⟩; rfl
    -- 21: t55 := Op.load 61 (tmp 2)   GUARD 18
    refine StepsOk.cons (i := 21) (fun V ws hS hD K hK => ?_) ?_
    · have d18 : V 18 = _ := hD.out 18 (by kernel_rfl)
      refine su_load_blk (hB1.kept hS (.inr (Nat.zero_le _))) row27 (by rw [siz27, HL1.out]) (by rw [d18]; rfl) rfl rfl (hK.out _ _ hS (Fr.refl _ _ _) ?_); rfl
    -- 22: t56 := Op.call { callee := Callee.value (59), args := #[tmp 55], argTypes := #[61] }   GUARD 18
    refine StepsOk.cons (i := 22) (fun V ws hS hD K hK => ?_) ?_
    · have d18 : V 18 = _ := hD.out 18 (by kernel_rfl)
      have d21 : V 21 = _ := hD.out 21 (by kernel_rfl)
      refine sure_call (f := 59) (args := #[_]) (by rw [d18]; rfl) (by go_simp) (c_refHCheck h p s r m hp hs hr) ?_
      rintro e w4 ⟨rfl, hF4⟩
      rw [HC.out]
      refine ⟨_, rfl, hK.out _ _ (hS.trans hF4) hF4 ?_⟩; rfl
    -- 23: t57 := Op.binOp BinOp.eql 3 (tmp 54) (tmp 56) 3   GUARD 18
    refine StepsOk.cons (i := 23) (fun V ws hS hD K hK => ?_) ?_
    · have d18 : V 18 = _ := hD.out 18 (by kernel_rfl)
      have d20 : V 20 = _ := hD.out 20 (by kernel_rfl)
      have d22 : V 22 = _ := hD.out 22 (by kernel_rfl)
      refine' sure_val (v := _) (w' := ws) (by rw [d18]; rfl) ?hr (hK.out _ _ hS (Fr.refl _ _ _) ?hy)
      case hr => go_simp; rfl
      case hy => rfl
    -- 24: t58 := Op.pick (tmp 52) (tmp 57) (const (Value.bool false))
    refine StepsOk.cons (i := 24) (fun V ws hS hD K hK => ?_) ?_
    · have d18 : V 18 = _ := hD.out 18 (by kernel_rfl)
      have d23 : V 23 = _ := hD.out 23 (by kernel_rfl)
      refine' sure_val (v := _) (w' := ws) rfl ?hr (hK.out _ _ hS (Fr.refl _ _ _) ?hy)
      case hr => go_simp; rfl
      case hy => rfl
    -- 25: t13 := Op.assign (tmp 58)
    refine StepsOk.cons (i := 25) (fun V ws hS hD K hK => ?_) ?_
    · have d24 : V 24 = _ := hD.out 24 (by kernel_rfl)
      refine' sure_val (v := _) (w' := ws) rfl ?hr (hK.out _ _ hS (Fr.refl _ _ _) ?hy)
      case hr => go_simp; rfl
      case hy => rfl
    exact StepsOk.nil
  case hY => repeat first | exact yKeep.nil | refine yKeep.eq ?_
  case hend =>
    intro V ws hS hall
    have d25 : V 25 = _ := hall.out 25 (by kernel_rfl)
    rw [d25]
    clear d25 hall
    go_wp2_with fail
    refine' wp_region_sure (S := fun wt => Fr 0 0 w10 wt) (E := fun _ => Fr 0 0) (kill := fun _ => []) (Y := [yEq _, yEq _, yEq _, yEq _, yEq _, yEq _, yEq _, yEq _, yEq _, yEq _, yEq _]) (F := _) (by kernel_rfl) (by kernel_rfl) (by kernel_rfl) (fun V => ?hF) ?hS ?hstep ?hY ?hend
    case hF => simp only [fillA, Act.put, List.setIfInBounds_toArray, List.set_cons_zero, List.set_cons_succ, Nat.reduceAdd, Nat.zero_add]; rfl
    case hS => exact hS.trans (Fr.drew _)
    case hstep =>
      -- 0: t59 := Op.move (tmp 13)
      refine StepsOk.cons (i := 0) (fun V ws hS hD K hK => ?_) ?_
      · refine' sure_val (v := _) (w' := ws) rfl ?hr (hK.out _ _ hS (Fr.refl _ _ _) ?hy)
        case hr => go_simp; rfl
        case hy => rfl
      -- 1: t60 := Op.move (tmp 59)
      refine StepsOk.cons (i := 1) (fun V ws hS hD K hK => ?_) ?_
      · have d0 : V 0 = _ := hD.out 0 (by kernel_rfl)
        refine' sure_val (v := _) (w' := ws) rfl ?hr (hK.out _ _ hS (Fr.refl _ _ _) ?hy)
        case hr => go_simp; rfl
        case hy => rfl
      -- 2: t61 := Op.load 61 (tmp 2)   GUARD 1
      refine StepsOk.cons (i := 2) (fun V ws hS hD K hK => ?_) ?_
      · have d1 : V 1 = _ := hD.out 1 (by kernel_rfl)
        refine su_load_blk (hB1.kept hS (.inr (Nat.zero_le _))) row27 (by rw [siz27, HL1.out]) (by rw [d1]; rfl) rfl rfl (hK.out _ _ hS (Fr.refl _ _ _) ?_); rfl
      -- 3: t62 := Op.load 61 (tmp 3)   GUARD 1
      refine StepsOk.cons (i := 3) (fun V ws hS hD K hK => ?_) ?_
      · have d1 : V 1 = _ := hD.out 1 (by kernel_rfl)
        refine su_load_blk (hP1.kept hS (.inr (Nat.zero_le _))) row27 (by rw [siz27, HL2.out]) (by rw [d1]; rfl) rfl rfl (hK.out _ _ hS (Fr.refl _ _ _) ?_); rfl
      -- 4: t63 := Op.call { callee := Callee.value (60), args := #[tmp 61, tmp 62], argTypes := #[61, 61] }   GUARD 1
      refine StepsOk.cons (i := 4) (fun V ws hS hD K hK => ?_) ?_
      · have d1 : V 1 = _ := hD.out 1 (by kernel_rfl)
        have d2 : V 2 = _ := hD.out 2 (by kernel_rfl)
        have d3 : V 3 = _ := hD.out 3 (by kernel_rfl)
        refine sure_call (f := 60) (args := #[_, _]) (by rw [d1]; rfl) (by go_simp) (c_Follows h p s r m hp hs hr h' p' s' r' m' hp' hs' hr' (hk10.kept hS (.inr (Nat.zero_le _)))) ?_
        rintro e w4 ⟨rfl, hF4⟩
        rw [HFB.out]
        refine ⟨_, rfl, hK.out _ _ (hS.trans hF4) hF4 ?_⟩; rfl
      -- 5: t64 := Op.load 61 (tmp 2)   GUARD 1
      refine StepsOk.cons (i := 5) (fun V ws hS hD K hK => ?_) ?_
      · have d1 : V 1 = _ := hD.out 1 (by kernel_rfl)
        refine su_load_blk (hB1.kept hS (.inr (Nat.zero_le _))) row27 (by rw [siz27, HL1.out]) (by rw [d1]; rfl) rfl rfl (hK.out _ _ hS (Fr.refl _ _ _) ?_); rfl
      -- 6: t65 := Op.load 61 (tmp 3)   GUARD 1
      refine StepsOk.cons (i := 6) (fun V ws hS hD K hK => ?_) ?_
      · have d1 : V 1 = _ := hD.out 1 (by kernel_rfl)
        refine su_load_blk (hP1.kept hS (.inr (Nat.zero_le _))) row27 (by rw [siz27, HL2.out]) (by rw [d1]; rfl) rfl rfl (hK.out _ _ hS (Fr.refl _ _ _) ?_); rfl
      -- 7: t66 := Op.call { callee := Callee.value (61), args := #[tmp 64, tmp 65], argTypes := #[61, 61] }   GUARD 1
      refine StepsOk.cons (i := 7) (fun V ws hS hD K hK => ?_) ?_
      · have d1 : V 1 = _ := hD.out 1 (by kernel_rfl)
        have d5 : V 5 = _ := hD.out 5 (by kernel_rfl)
        have d6 : V 6 = _ := hD.out 6 (by kernel_rfl)
        refine sure_call (f := 61) (args := #[_, _]) (by rw [d1]; rfl) (by go_simp) (c_refFollows h p s r m hp hs hr h' p' s' r' m' hp' hs' hr') ?_
        rintro e w4 ⟨rfl, hF4⟩
        rw [HFB.out]
        refine ⟨_, rfl, hK.out _ _ (hS.trans hF4) hF4 ?_⟩; rfl
      -- 8: t67 := Op.binOp BinOp.eql 4 (tmp 63) (tmp 66) 4   GUARD 1
      refine StepsOk.cons (i := 8) (fun V ws hS hD K hK => ?_) ?_
      · have d1 : V 1 = _ := hD.out 1 (by kernel_rfl)
        have d4 : V 4 = _ := hD.out 4 (by kernel_rfl)
        have d7 : V 7 = _ := hD.out 7 (by kernel_rfl)
        refine' sure_val (v := _) (w' := ws) (by rw [d1]; rfl) ?hr (hK.out _ _ hS (Fr.refl _ _ _) ?hy)
        case hr => go_simp; rfl
        case hy => rfl
      -- 9: t68 := Op.pick (tmp 60) (tmp 67) (const (Value.bool false))
      refine StepsOk.cons (i := 9) (fun V ws hS hD K hK => ?_) ?_
      · have d1 : V 1 = _ := hD.out 1 (by kernel_rfl)
        have d8 : V 8 = _ := hD.out 8 (by kernel_rfl)
        refine' sure_val (v := _) (w' := ws) rfl ?hr (hK.out _ _ hS (Fr.refl _ _ _) ?hy)
        case hr => go_simp; rfl
        case hy => rfl
      -- 10: t4 := Op.assign (tmp 68)
      refine StepsOk.cons (i := 10) (fun V ws hS hD K hK => ?_) ?_
      · have d9 : V 9 = _ := hD.out 9 (by kernel_rfl)
        refine' sure_val (v := _) (w' := ws) rfl ?hr (hK.out _ _ hS (Fr.refl _ _ _) ?hy)
        case hr => go_simp; rfl
        case hy => rfl
      exact StepsOk.nil
    case hY => repeat first | exact yKeep.nil | refine yKeep.eq ?_
    case hend =>
      intro V wt hS hall
      have d10 : V 10 = _ := hall.out 10 (by kernel_rfl)
      rw [d10]
      clear d10 hall
      go_wp2_with fail
      go_ret
      exact ⟨rfl, hW10.trans hS⟩

end Go.Proofs.YtgndidjfjdaagaaDoor
