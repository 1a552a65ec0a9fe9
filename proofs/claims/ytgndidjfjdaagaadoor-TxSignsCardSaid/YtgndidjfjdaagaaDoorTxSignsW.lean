/-
  The walk of the law TxSigns.
-/
import Derived.Test.YtgndidjfjdaagaaDoorTxPure
set_option linter.unusedSimpArgs false
set_option linter.unusedVariables false
set_option linter.unnecessarySimpa false
namespace Go.Proofs.YtgndidjfjdaagaaDoor
open Go.RowKit

set_option maxRecDepth 100000 in
set_option maxHeartbeats 8000000 in
theorem w_TxSigns {w : World} (x : TxD) (hx : TxOk x) (y : TxD) (hy : TxOk y) (hk : KT w) :
    Calls Tryd.prog 5 #[.agg (txL x).toArray, .agg (txL y).toArray] w fun e w' => e = .returned (.bool true) ∧ Fr 0 0 w w' := by
  have hl := txL_length hx
  have hly := txL_length hy
  have hls := txL_length (signed_ok hx)
  have hbok : TxOk { y with s := x.s } := ⟨hy.1, hy.2.1, hx.2.2.1, hy.2.2.2⟩
  have hlb := txL_length hbok
  have HX : Hid (TxOk x) := hx
  have HY : Hid (TxOk y) := hy
  have HSO : Hid (TxOk (signed x)) := signed_ok hx
  have hlfx := lfT_txL hx
  have hlfs := lfT_txL (signed_ok hx)
  have hlfb := lfT_txL hbok
  have HBX := Lib.hid (bodyB_length hx)
  have HBY := Lib.hid (bodyB_length hy)
  have HTX := Lib.hid (txB_length hx)
  have HTK : Hid ((txB x).take 88 = bodyB x) := (show _ = _ by rw [txB, List.take_left' (bodyB_length hx)])
  obtain ⟨q, hq⟩ : ∃ q, q = (bodyB x == bodyB y) := ⟨_, rfl⟩
  have HQ := Lib.hid hq.symm
  have HQ2 : Hid (q = true ↔ txL { y with s := x.s } = txL x) := (show _ ↔ _ by rw [hq, beq_iff_eq]; exact bodyB_iff hx hy)
  have hz0 : tx0.length = 99 := rfl
  have hAlx : (x.p.map ub ++ (x.t.map ub ++ txN x)).length = 67 := by simp [txN, hx.1, hx.2.1]
  have hAly : (y.p.map ub ++ (y.t.map ub ++ txN y)).length = 67 := by simp [txN, hy.1, hy.2.1]
  have hsm : (x.s.map ub).length = 32 := by rw [List.length_map, hx.2.2.1]
  have hsy : (y.s.map ub).length = 32 := by rw [List.length_map, hy.2.2.1]
  have hss : ((signH x).map ub).length = 32 := by rw [List.length_map, signH_length]
  have ex : Hid (txL x = (x.p.map ub ++ (x.t.map ub ++ txN x)) ++ x.s.map ub ++ []) := (show _ = _ by simp [txL])
  have es : Hid (txL (signed x) = (x.p.map ub ++ (x.t.map ub ++ txN x)) ++ (signH x).map ub ++ []) := (show _ = _ by simp [txL, signed, txN])
  have ey : Hid (txL y = (y.p.map ub ++ (y.t.map ub ++ txN y)) ++ y.s.map ub ++ []) := (show _ = _ by simp [txL])
  have eb : Hid (txL { y with s := x.s } = (y.p.map ub ++ (y.t.map ub ++ txN y)) ++ x.s.map ub ++ []) := (show _ = _ by simp [txL, txN])
  clear hq hx hy hbok
  have t1 := trivial
  have t2 := trivial
  have t3 := trivial
  have t4 := trivial
  go_enter Tryd.func5, Tryd.ntmps5
  go_wp2_with (first
    | (have _t := t1; refine wpl_box (txL x) rfl rfl rfl rfl ?_; intro g2 w1 hX1 hF1 hg2 hgs2; clear t1 _t)
    | (refine wpl_box (txL y) rfl rfl rfl rfl ?_; intro g3 w2 hY2 hF2 hg3 hgs3; have hW2 := hF1.trans hF2)
    | (go_at_call 35; refine (c_alive11 (hk.kept hW2 (.inr (Nat.zero_le _)))).mono ?_; rintro e w3 ⟨rfl, hF3⟩; have hX3 := (hX1.kept hF2 (.inr (Nat.zero_le _))).kept hF3 (.inr (Nat.zero_le _)); have hY3 := hY2.kept hF3 (.inr (Nat.zero_le _)); have hW3 := hW2.trans hF3)
    | (have _t := t2; refine wpl_load_blk hX3 row39 (by rw [siz39, hl]) rfl rfl rfl ?_; clear t2 _t)
    | (go_at_call 36; refine (c_txSign x HX.out (hk.kept hW3 (.inr (Nat.zero_le _)))).mono ?_; rintro e w4 ⟨rfl, hF4⟩; have hW4 := hW3.trans hF4)
    | (have _t := t3; refine wpl_alloc zer39 rfl rfl rfl ?_; intro g6 w5 hA5 hF5 hg6 hs6; clear t3 _t)
    | (have _t := hA5; refine wpl_store_blk hA5 (by rw [hls, hz0]) (by rw [siz39, hls]) (txL_one _) rfl rfl rfl rfl ?_; intro w6 hB6 hF6; clear hA5 _t; have hF46 : Fr 0 0 w4 w6 := hF5.on hF6 hg6; have hW6 := hW4.trans hF46; have z6 := hB6.lt; have z4 := hW4.size)
    | (refine wpl_load_blk hB6 row39 (by rw [siz39, hls]) rfl rfl rfl ?_)
    | (refine wpl_alloc zer39 rfl rfl rfl ?_; intro g7 w7 hA7 hF7 hg7 hs7)
    | (have _t := hA7; refine wpl_store_blk hA7 (by rw [hls, hz0]) (by rw [siz39, hls]) (txL_one _) rfl rfl rfl rfl ?_; intro w8 hB8 hF8; clear hA7 _t; rw [es.out] at hB8; have hF68 : Fr 0 0 w6 w8 := hF7.on hF8 hg7; have hX8 := ((hX3.kept hF4 (.inr (Nat.zero_le _))).kept hF46 (.inr (Nat.zero_le _))).kept hF68 (.inr (Nat.zero_le _)); rw [ex.out] at hX8)
    | (refine wpl_load_part hX8 hAlx row30 (by rw [siz30, hsm]) rfl rfl rfl ?_)
    | (refine wpl_store_part (L' := x.s.map ub) hB8 hAlx (by rw [hsm, hss]) (by rw [siz30, hsm]) (ub_oneCell _) rfl rfl rfl rfl ?_; intro w9 hB9 hF9; rw [← ex.out] at hB9))
  have hF69 : Fr 0 0 w6 w9 := hF68.on hF9 hg7
  have hW9 := hW6.trans hF69
  have hF39 : Fr 0 0 w3 w9 := (hF4.trans hF46).trans hF69
  have hX9 := hX3.kept hF39 (.inr (Nat.zero_le _))
  have hY9 := hY3.kept hF39 (.inr (Nat.zero_le _))
  have hG69 := hB6.kept hF69 (.inr (Nat.zero_le _))
  clear hX8 hB8 hX3 hY3 hX1 hY2 hB6
  refine' wp_region_sure (S := fun ws => Fr 0 0 w9 ws) (E := fun _ => Fr 0 0) (kill := fun _ => []) (Y := [yEq _, yW fun v ws => ∃ a c lo hi, v = .slice a 88 c ∧ RdB ws lo hi v (bodyB x), yEq _, yW fun v ws => ∃ a c lo hi, v = .slice a 88 c ∧ RdB ws lo hi v (bodyB y), yW fun v ws => ∃ a c lo hi, v = .slice a 88 c ∧ RdB ws lo hi v (bodyB x), yW fun v ws => ∃ a c lo hi, v = .slice a 88 c ∧ RdB ws lo hi v (bodyB y)]) (F := _) (by kernel_rfl) (by kernel_rfl) (by kernel_rfl) (fun V => ?hF) ?hS ?hstep ?hY ?hend
  case hF => simp only [fillA, Act.put, List.setIfInBounds_toArray, List.set_cons_zero, List.set_cons_succ, Nat.reduceAdd, Nat.zero_add]; rfl
  case hS => exact Fr.drew _
  case hstep =>
    -- 0: t18 := Op.load 39 (tmp 2)
    refine StepsOk.cons (i := 0) (fun V ws hS hD K hK => ?_) ?_
    · refine su_load_blk (hX9.kept hS (.inr (Nat.zero_le _))) row39 (by rw [siz39, hl]) rfl rfl rfl (hK.out _ _ hS (Fr.refl _ _ _) ?_); rfl
    -- 1: t19 := Op.call { callee := Callee.value (37), args := #[tmp 18], argTypes := #[39] }
    refine StepsOk.cons (i := 1) (fun V ws hS hD K hK => ?_) ?_
    · have d0 : V 0 = _ := hD.out 0 (by kernel_rfl)
      refine sure_call (f := 37) (args := #[_]) rfl (by go_simp) (c_txBody x HX.out) ?_
      rintro e w4 ⟨v4, rfl, hO4, hF4⟩
      obtain ⟨a4, c4, rfl⟩ : ∃ a c, v4 = .slice a 88 c := (let ⟨x, y, e, _⟩ := hO4.rd.form; ⟨x, y, by rw [e, HBX.out]⟩)
      exact ⟨_, rfl, hK.out _ _ (hS.trans hF4) hF4 ⟨_, _, _, _, rfl, hO4.rd⟩⟩
    -- 2: t20 := Op.load 39 (tmp 3)
    refine StepsOk.cons (i := 2) (fun V ws hS hD K hK => ?_) ?_
    · refine su_load_blk (hY9.kept hS (.inr (Nat.zero_le _))) row39 (by rw [siz39, hly]) rfl rfl rfl (hK.out _ _ hS (Fr.refl _ _ _) ?_); rfl
    -- 3: t21 := Op.call { callee := Callee.value (37), args := #[tmp 20], argTypes := #[39] }
    refine StepsOk.cons (i := 3) (fun V ws hS hD K hK => ?_) ?_
    · have d2 : V 2 = _ := hD.out 2 (by kernel_rfl)
      refine sure_call (f := 37) (args := #[_]) rfl (by go_simp) (c_txBody y HY.out) ?_
      rintro e w4 ⟨v4, rfl, hO4, hF4⟩
      obtain ⟨a4, c4, rfl⟩ : ∃ a c, v4 = .slice a 88 c := (let ⟨x, y, e, _⟩ := hO4.rd.form; ⟨x, y, by rw [e, HBY.out]⟩)
      exact ⟨_, rfl, hK.out _ _ (hS.trans hF4) hF4 ⟨_, _, _, _, rfl, hO4.rd⟩⟩
    -- 4: t8 := Op.assign (tmp 19)
    refine StepsOk.cons (i := 4) (fun V ws hS hD K hK => ?_) ?_
    · obtain ⟨a0, c0, lo0, hi0, e0, hR0⟩ : ∃ a c lo hi, V 1 = _ ∧ _ := hD.out 1 (by kernel_rfl)
      refine' sure_val (v := .slice a0 88 c0) (w' := ws) rfl ?hr (hK.out _ _ hS (Fr.refl _ _ _) ⟨_, _, _, _, rfl, by rw [e0] at hR0; exact hR0⟩)
      case hr => go_simp
    -- 5: t9 := Op.assign (tmp 21)
    refine StepsOk.cons (i := 5) (fun V ws hS hD K hK => ?_) ?_
    · obtain ⟨a0, c0, lo0, hi0, e0, hR0⟩ : ∃ a c lo hi, V 3 = _ ∧ _ := hD.out 3 (by kernel_rfl)
      refine' sure_val (v := .slice a0 88 c0) (w' := ws) rfl ?hr (hK.out _ _ hS (Fr.refl _ _ _) ⟨_, _, _, _, rfl, by rw [e0] at hR0; exact hR0⟩)
      case hr => go_simp
    exact StepsOk.nil
  case hY =>
    repeat first
      | exact yKeep.nil
      | refine yKeep.eq ?_
      | refine yKeep.cons (fun i v w w' _ hE h => by obtain ⟨a, c, lo, hi, h0, h1⟩ := h; exact ⟨a, c, lo, hi, h0, h1.kept hE (.inr (Nat.zero_le _))⟩) ?_
  case hend =>
    intro V w10 hS hall
    obtain ⟨aA, cA, loA, hiA, dA, hRA0⟩ : ∃ a c lo hi, V 4 = _ ∧ _ := hall.out 4 (by kernel_rfl)
    obtain ⟨aB, cB, loB, hiB, dB, hRB0⟩ : ∃ a c lo hi, V 5 = _ ∧ _ := hall.out 5 (by kernel_rfl)
    rw [dA] at hRA0 ⊢
    rw [dB] at hRB0 ⊢
    clear dA dB hall
    have hX10 := hX9.kept hS (.inr (Nat.zero_le _))
    have hY10 := hY9.kept hS (.inr (Nat.zero_le _))
    go_wp2_with (first
      | (refine wpl_load_blk hY10 row39 (by rw [siz39, hly]) rfl rfl rfl ?_)
      | (refine wpl_alloc zer39 rfl rfl rfl ?_; intro g10 w11 hA11 hF11 hg10 hs10)
      | (have _t := hA11; refine wpl_store_blk hA11 (by rw [hly, hz0]) (by rw [siz39, hly]) (txL_one _) rfl rfl rfl rfl ?_; intro w12 hB12 hF12; clear hA11 _t; rw [ey.out] at hB12; have hF102 : Fr 0 0 w10 w12 := hF11.on hF12 hg10; have hX12 := hX10.kept hF102 (.inr (Nat.zero_le _)); rw [ex.out] at hX12)
      | (refine wpl_load_part hX12 hAlx row30 (by rw [siz30, hsm]) rfl rfl rfl ?_)
      | (refine wpl_store_part (L' := x.s.map ub) hB12 hAly (by rw [hsm, hsy]) (by rw [siz30, hsm]) (ub_oneCell _) rfl rfl rfl rfl ?_; intro w13 hB13 hF13; rw [← eb.out] at hB13))
    have hF1013 : Fr 0 0 w10 w13 := hF102.on hF13 hg10
    have hF913 := hS.trans hF1013
    have hW13 := hW9.trans hF913
    have hX13 := hX9.kept hF913 (.inr (Nat.zero_le _))
    have hG6 := hG69.kept hF913 (.inr (Nat.zero_le _))
    have hG7 := hB9.kept hF913 (.inr (Nat.zero_le _))
    have hG10 := hB13
    have hRA := hRA0.kept hF1013 (.inr (Nat.zero_le _))
    have hRB := hRB0.kept hF1013 (.inr (Nat.zero_le _))
    clear hX12 hB12 hX10 hY10 hRA0 hRB0 hB9 hG69 hX9 hY9
    have t5 := trivial
    refine' wp_region_sure (S := fun wt => Fr 0 0 w13 wt) (E := fun _ => Fr 0 0) (kill := fun _ => []) (Y := [yEq _, yEq _, yEq _, yEq _, yEq _, yEq _, yEq _, yEq _, yEq _, yEq _, yEq _, yEq _, yEq _, yEq _, yEq _, yEq _, yEq _, yEq _, yEq _, yW fun v ws => ∃ a c lo hi, v = .slice a 120 c ∧ RdB ws lo hi v (txB x), yEq _, yEq _, yEq _, yEq _, yEq _, yW fun v ws => ∃ a c lo hi, v = .slice a 120 c ∧ RdB ws lo hi v (txB x), yW fun v ws => ∃ a c lo hi, v = .slice a 88 c ∧ RdB ws lo hi v (bodyB x), yEq _, yEq _, yEq _, yEq _, yEq _, yEq _, yEq _, yEq _, yEq _, yEq _, yEq _, yEq _, yEq _]) (F := _) (by kernel_rfl) (by kernel_rfl) (by kernel_rfl) (fun V => ?hF) ?hS ?hstep ?hY ?hend
    case hF => simp only [fillA, Act.put, List.setIfInBounds_toArray, List.set_cons_zero, List.set_cons_succ, Nat.reduceAdd, Nat.zero_add]; rfl
    case hS => exact Fr.drew _
    case hstep =>
      -- 0: t26 := Op.move (tmp 5)
      refine StepsOk.cons (i := 0) (fun V ws hS hD K hK => ?_) ?_
      · refine' sure_val (v := _) (w' := ws) rfl ?hr (hK.out _ _ hS (Fr.refl _ _ _) ?hy)
        case hr => go_simp; rfl
        case hy => rfl
      -- 1: t27 := Op.move (tmp 26)
      refine StepsOk.cons (i := 1) (fun V ws hS hD K hK => ?_) ?_
      · have d0 : V 0 = _ := hD.out 0 (by kernel_rfl)
        refine' sure_val (v := _) (w' := ws) rfl ?hr (hK.out _ _ hS (Fr.refl _ _ _) ?hy)
        case hr => go_simp; rfl
        case hy => rfl
      -- 2: t28 := Op.load 39 (tmp 7)   GUARD 1
      refine StepsOk.cons (i := 2) (fun V ws hS hD K hK => ?_) ?_
      · have d1 : V 1 = _ := hD.out 1 (by kernel_rfl)
        refine su_load_blk (hG7.kept hS (.inr (Nat.zero_le _))) row39 (by rw [siz39, hl]) (by rw [d1]; rfl) rfl rfl (hK.out _ _ hS (Fr.refl _ _ _) ?_); rfl
      -- 3: t29 := Op.load 39 (tmp 2)   GUARD 1
      refine StepsOk.cons (i := 3) (fun V ws hS hD K hK => ?_) ?_
      · have d1 : V 1 = _ := hD.out 1 (by kernel_rfl)
        refine su_load_blk (hX13.kept hS (.inr (Nat.zero_le _))) row39 (by rw [siz39, hl]) (by rw [d1]; rfl) rfl rfl (hK.out _ _ hS (Fr.refl _ _ _) ?_); rfl
      -- 4: t30 := Op.binOp BinOp.eql 39 (tmp 28) (tmp 29) 39   GUARD 1
      refine StepsOk.cons (i := 4) (fun V ws hS hD K hK => ?_) ?_
      · have d1 : V 1 = _ := hD.out 1 (by kernel_rfl)
        have d2 : V 2 = _ := hD.out 2 (by kernel_rfl)
        have d3 : V 3 = _ := hD.out 3 (by kernel_rfl)
        refine su_eqt leaves39 (by omega) row39 eqg39 hlfx hlfx rfl (by rw [d1]; rfl) rfl d2 d3 (hK.out _ _ hS (Fr.refl _ _ _) ?_); rfl
      -- 5: t31 := Op.pick (tmp 27) (tmp 30) (const (Value.bool false))
      refine StepsOk.cons (i := 5) (fun V ws hS hD K hK => ?_) ?_
      · have d1 : V 1 = _ := hD.out 1 (by kernel_rfl)
        have d4 : V 4 = _ := hD.out 4 (by kernel_rfl)
        refine' sure_val (v := _) (w' := ws) rfl ?hr (hK.out _ _ hS (Fr.refl _ _ _) ?hy)
        case hr => go_simp; rfl
        case hy => rfl
      -- 6: t32 := Op.move (tmp 31)
      refine StepsOk.cons (i := 6) (fun V ws hS hD K hK => ?_) ?_
      · have d5 : V 5 = _ := hD.out 5 (by kernel_rfl)
        refine' sure_val (v := _) (w' := ws) rfl ?hr (hK.out _ _ hS (Fr.refl _ _ _) ?hy)
        case hr => go_simp; rfl
        case hy => rfl
      -- 7: t33 := Op.load 39 (tmp 6)   GUARD 6
      refine StepsOk.cons (i := 7) (fun V ws hS hD K hK => ?_) ?_
      · have d6 : V 6 = _ := hD.out 6 (by kernel_rfl)
        refine su_load_blk (hG6.kept hS (.inr (Nat.zero_le _))) row39 (by rw [siz39, hls]) (by rw [d6]; rfl) rfl rfl (hK.out _ _ hS (Fr.refl _ _ _) ?_); rfl
      -- 8: t34 := Op.call { callee := Callee.value (36), args := #[tmp 33], argTypes := #[39] }   GUARD 6
      refine StepsOk.cons (i := 8) (fun V ws hS hD K hK => ?_) ?_
      · have d6 : V 6 = _ := hD.out 6 (by kernel_rfl)
        have d7 : V 7 = _ := hD.out 7 (by kernel_rfl)
        refine sure_call (f := 36) (args := #[_]) (by rw [d6]; rfl) (by go_simp) (c_txSign (signed x) HSO.out ((hk.kept hW13 (.inr (Nat.zero_le _))).kept hS (.inr (Nat.zero_le _)))) ?_
        rintro e w4 ⟨rfl, hF4⟩
        rw [show txL (signed (signed x)) = txL (signed x) from rfl]
        refine ⟨_, rfl, hK.out _ _ (hS.trans hF4) hF4 ?_⟩; rfl
      -- 9: t35 := Op.load 39 (tmp 6)   GUARD 6
      refine StepsOk.cons (i := 9) (fun V ws hS hD K hK => ?_) ?_
      · have d6 : V 6 = _ := hD.out 6 (by kernel_rfl)
        refine su_load_blk (hG6.kept hS (.inr (Nat.zero_le _))) row39 (by rw [siz39, hls]) (by rw [d6]; rfl) rfl rfl (hK.out _ _ hS (Fr.refl _ _ _) ?_); rfl
      -- 10: t36 := Op.binOp BinOp.eql 39 (tmp 34) (tmp 35) 39   GUARD 6
      refine StepsOk.cons (i := 10) (fun V ws hS hD K hK => ?_) ?_
      · have d6 : V 6 = _ := hD.out 6 (by kernel_rfl)
        have d8 : V 8 = _ := hD.out 8 (by kernel_rfl)
        have d9 : V 9 = _ := hD.out 9 (by kernel_rfl)
        refine su_eqt leaves39 (by omega) row39 eqg39 hlfs hlfs rfl (by rw [d6]; rfl) rfl d8 d9 (hK.out _ _ hS (Fr.refl _ _ _) ?_); rfl
      -- 11: t37 := Op.pick (tmp 32) (tmp 36) (const (Value.bool false))
      refine StepsOk.cons (i := 11) (fun V ws hS hD K hK => ?_) ?_
      · have d6 : V 6 = _ := hD.out 6 (by kernel_rfl)
        have d10 : V 10 = _ := hD.out 10 (by kernel_rfl)
        refine' sure_val (v := _) (w' := ws) rfl ?hr (hK.out _ _ hS (Fr.refl _ _ _) ?hy)
        case hr => go_simp; rfl
        case hy => rfl
      -- 12: t38 := Op.move (tmp 37)
      refine StepsOk.cons (i := 12) (fun V ws hS hD K hK => ?_) ?_
      · have d11 : V 11 = _ := hD.out 11 (by kernel_rfl)
        refine' sure_val (v := _) (w' := ws) rfl ?hr (hK.out _ _ hS (Fr.refl _ _ _) ?hy)
        case hr => go_simp; rfl
        case hy => rfl
      -- 13: t39 := Op.move (tmp 8)   GUARD 12
      refine StepsOk.cons (i := 13) (fun V ws hS hD K hK => ?_) ?_
      · have d12 : V 12 = _ := hD.out 12 (by kernel_rfl)
        refine' sure_val (v := _) (w' := ws) (by rw [d12]; rfl) ?hr (hK.out _ _ hS (Fr.refl _ _ _) ?hy)
        case hr => go_simp; rfl
        case hy => rfl
      -- 14: t40 := Op.call { callee := Callee.builtin Builtin.len, args := #[tmp 39], argTypes := #[24] }   GUARD 12
      refine StepsOk.cons (i := 14) (fun V ws hS hD K hK => ?_) ?_
      · have d12 : V 12 = _ := hD.out 12 (by kernel_rfl)
        have d13 : V 13 = _ := hD.out 13 (by kernel_rfl)
        refine' sure_val (v := _) (w' := ws) (by rw [d12]; rfl) ?hr (hK.out _ _ hS (Fr.refl _ _ _) ?hy)
        case hr => go_simp; rfl
        case hy => rfl
      -- 15: t41 := Op.binOp BinOp.eql 3 (tmp 40) (const (Value.int IntKind.i64 88)) 3   GUARD 12
      refine StepsOk.cons (i := 15) (fun V ws hS hD K hK => ?_) ?_
      · have d12 : V 12 = _ := hD.out 12 (by kernel_rfl)
        have d14 : V 14 = _ := hD.out 14 (by kernel_rfl)
        refine' sure_val (v := _) (w' := ws) (by rw [d12]; rfl) ?hr (hK.out _ _ hS (Fr.refl _ _ _) ?hy)
        case hr => go_simp; rfl
        case hy => rfl
      -- 16: t42 := Op.pick (tmp 38) (tmp 41) (const (Value.bool false))
      refine StepsOk.cons (i := 16) (fun V ws hS hD K hK => ?_) ?_
      · have d12 : V 12 = _ := hD.out 12 (by kernel_rfl)
        have d15 : V 15 = _ := hD.out 15 (by kernel_rfl)
        refine' sure_val (v := _) (w' := ws) rfl ?hr (hK.out _ _ hS (Fr.refl _ _ _) ?hy)
        case hr => go_simp; rfl
        case hy => rfl
      -- 17: t43 := Op.move (tmp 42)
      refine StepsOk.cons (i := 17) (fun V ws hS hD K hK => ?_) ?_
      · have d16 : V 16 = _ := hD.out 16 (by kernel_rfl)
        refine' sure_val (v := _) (w' := ws) rfl ?hr (hK.out _ _ hS (Fr.refl _ _ _) ?hy)
        case hr => go_simp; rfl
        case hy => rfl
      -- 18: t44 := Op.load 39 (tmp 2)   GUARD 17
      refine StepsOk.cons (i := 18) (fun V ws hS hD K hK => ?_) ?_
      · have d17 : V 17 = _ := hD.out 17 (by kernel_rfl)
        refine su_load_blk (hX13.kept hS (.inr (Nat.zero_le _))) row39 (by rw [siz39, hl]) (by rw [d17]; rfl) rfl rfl (hK.out _ _ hS (Fr.refl _ _ _) ?_); rfl
      -- 19: t45 := Op.call { callee := Callee.value (38), args := #[tmp 44], argTypes := #[39] }   GUARD 17
      refine StepsOk.cons (i := 19) (fun V ws hS hD K hK => ?_) ?_
      · have d17 : V 17 = _ := hD.out 17 (by kernel_rfl)
        have d18 : V 18 = _ := hD.out 18 (by kernel_rfl)
        refine sure_call (f := 38) (args := #[_]) (by rw [d17]; rfl) (by go_simp) (c_txBytes x HX.out) ?_
        rintro e w4 ⟨v4, rfl, hO4, hF4⟩
        obtain ⟨a4, c4, rfl⟩ : ∃ a c, v4 = .slice a 120 c := (let ⟨x, y, e, _⟩ := hO4.rd.form; ⟨x, y, by rw [e, HTX.out]⟩)
        exact ⟨_, rfl, hK.out _ _ (hS.trans hF4) hF4 ⟨_, _, _, _, rfl, hO4.rd⟩⟩
      -- 20: t46 := Op.call { callee := Callee.builtin Builtin.len, args := #[tmp 45], argTypes := #[24] }   GUARD 17
      refine StepsOk.cons (i := 20) (fun V ws hS hD K hK => ?_) ?_
      · have d17 : V 17 = _ := hD.out 17 (by kernel_rfl)
        obtain ⟨a0, c0, lo0, hi0, e0, hR0⟩ : ∃ a c lo hi, V 19 = _ ∧ _ := hD.out 19 (by kernel_rfl)
        refine' sure_val (v := .int .i64 120) (w' := ws) (by rw [d17]; rfl) ?hr (hK.out _ _ hS (Fr.refl _ _ _) ?hy)
        case hr => go_simp
        case hy => rfl
      -- 21: t47 := Op.binOp BinOp.geq 3 (tmp 46) (const (Value.int IntKind.i64 88)) 3   GUARD 17
      refine StepsOk.cons (i := 21) (fun V ws hS hD K hK => ?_) ?_
      · have d17 : V 17 = _ := hD.out 17 (by kernel_rfl)
        have d20 : V 20 = _ := hD.out 20 (by kernel_rfl)
        refine' sure_val (v := _) (w' := ws) (by rw [d17]; rfl) ?hr (hK.out _ _ hS (Fr.refl _ _ _) ?hy)
        case hr => go_simp; rfl
        case hy => rfl
      -- 22: t48 := Op.pick (tmp 43) (tmp 47) (const (Value.bool false))
      refine StepsOk.cons (i := 22) (fun V ws hS hD K hK => ?_) ?_
      · have d17 : V 17 = _ := hD.out 17 (by kernel_rfl)
        have d21 : V 21 = _ := hD.out 21 (by kernel_rfl)
        refine' sure_val (v := _) (w' := ws) rfl ?hr (hK.out _ _ hS (Fr.refl _ _ _) ?hy)
        case hr => go_simp; rfl
        case hy => rfl
      -- 23: t49 := Op.move (tmp 48)
      refine StepsOk.cons (i := 23) (fun V ws hS hD K hK => ?_) ?_
      · have d22 : V 22 = _ := hD.out 22 (by kernel_rfl)
        refine' sure_val (v := _) (w' := ws) rfl ?hr (hK.out _ _ hS (Fr.refl _ _ _) ?hy)
        case hr => go_simp; rfl
        case hy => rfl
      -- 24: t50 := Op.load 39 (tmp 2)   GUARD 23
      refine StepsOk.cons (i := 24) (fun V ws hS hD K hK => ?_) ?_
      · have d23 : V 23 = _ := hD.out 23 (by kernel_rfl)
        refine su_load_blk (hX13.kept hS (.inr (Nat.zero_le _))) row39 (by rw [siz39, hl]) (by rw [d23]; rfl) rfl rfl (hK.out _ _ hS (Fr.refl _ _ _) ?_); rfl
      -- 25: t51 := Op.call { callee := Callee.value (38), args := #[tmp 50], argTypes := #[39] }   GUARD 23
      refine StepsOk.cons (i := 25) (fun V ws hS hD K hK => ?_) ?_
      · have d23 : V 23 = _ := hD.out 23 (by kernel_rfl)
        have d24 : V 24 = _ := hD.out 24 (by kernel_rfl)
        refine sure_call (f := 38) (args := #[_]) (by rw [d23]; rfl) (by go_simp) (c_txBytes x HX.out) ?_
        rintro e w4 ⟨v4, rfl, hO4, hF4⟩
        obtain ⟨a4, c4, rfl⟩ : ∃ a c, v4 = .slice a 120 c := (let ⟨x, y, e, _⟩ := hO4.rd.form; ⟨x, y, by rw [e, HTX.out]⟩)
        exact ⟨_, rfl, hK.out _ _ (hS.trans hF4) hF4 ⟨_, _, _, _, rfl, hO4.rd⟩⟩
      -- 26: t52 := Op.slice 24 (tmp 51) none (some (const (Value.int IntKind.i64 88))) none   GUARD 23
      refine StepsOk.cons (i := 26) (fun V ws hS hD K hK => ?_) ?_
      · have d23 : V 23 = _ := hD.out 23 (by kernel_rfl)
        obtain ⟨a0, c0, lo0, hi0, e0, hR0⟩ : ∃ a c lo hi, V 25 = _ ∧ _ := hD.out 25 (by kernel_rfl)
        rw [e0] at hR0
        refine su_slice_to (J := 88) hR0 (by omega) (by rw [d23]; rfl) rfl e0 rfl ?_
        intro ad' cap' hr
        rw [HTK.out] at hr
        exact hK.out _ _ hS (Fr.refl _ _ _) ⟨_, _, _, _, rfl, hr⟩
      -- 27: t53 := Op.move (tmp 8)   GUARD 23
      refine StepsOk.cons (i := 27) (fun V ws hS hD K hK => ?_) ?_
      · have d23 : V 23 = _ := hD.out 23 (by kernel_rfl)
        refine' sure_val (v := _) (w' := ws) (by rw [d23]; rfl) ?hr (hK.out _ _ hS (Fr.refl _ _ _) ?hy)
        case hr => go_simp; rfl
        case hy => rfl
      -- 28: t54 := Op.call { callee := Callee.value (23), args := #[tmp 52, tmp 53], argTypes := #[24, 24] }   GUARD 23
      refine StepsOk.cons (i := 28) (fun V ws hS hD K hK => ?_) ?_
      · have d23 : V 23 = _ := hD.out 23 (by kernel_rfl)
        have d27 : V 27 = _ := hD.out 27 (by kernel_rfl)
        obtain ⟨a0, c0, lo0, hi0, e0, hR0⟩ : ∃ a c lo hi, V 26 = _ ∧ _ := hD.out 26 (by kernel_rfl)
        refine sure_call (f := 23) (args := #[V 26, .slice aA 88 cA]) (by rw [d23]; rfl) (by go_simp) (c_Same hR0 (hRA.kept hS (.inr (Nat.zero_le _)))) ?_
        rintro e w4 ⟨rfl, rfl⟩
        rw [beq_self_eq_true]
        refine ⟨_, rfl, hK.out _ _ hS (Fr.refl _ _ _) ?_⟩; rfl
      -- 29: t55 := Op.pick (tmp 49) (tmp 54) (const (Value.bool false))
      refine StepsOk.cons (i := 29) (fun V ws hS hD K hK => ?_) ?_
      · have d23 : V 23 = _ := hD.out 23 (by kernel_rfl)
        have d28 : V 28 = _ := hD.out 28 (by kernel_rfl)
        refine' sure_val (v := _) (w' := ws) rfl ?hr (hK.out _ _ hS (Fr.refl _ _ _) ?hy)
        case hr => go_simp; rfl
        case hy => rfl
      -- 30: t56 := Op.move (tmp 55)
      refine StepsOk.cons (i := 30) (fun V ws hS hD K hK => ?_) ?_
      · have d29 : V 29 = _ := hD.out 29 (by kernel_rfl)
        refine' sure_val (v := _) (w' := ws) rfl ?hr (hK.out _ _ hS (Fr.refl _ _ _) ?hy)
        case hr => go_simp; rfl
        case hy => rfl
      -- 31: t57 := Op.move (tmp 8)   GUARD 30
      refine StepsOk.cons (i := 31) (fun V ws hS hD K hK => ?_) ?_
      · have d30 : V 30 = _ := hD.out 30 (by kernel_rfl)
        refine' sure_val (v := _) (w' := ws) (by rw [d30]; rfl) ?hr (hK.out _ _ hS (Fr.refl _ _ _) ?hy)
        case hr => go_simp; rfl
        case hy => rfl
      -- 32: t58 := Op.move (tmp 9)   GUARD 30
      refine StepsOk.cons (i := 32) (fun V ws hS hD K hK => ?_) ?_
      · have d30 : V 30 = _ := hD.out 30 (by kernel_rfl)
        refine' sure_val (v := _) (w' := ws) (by rw [d30]; rfl) ?hr (hK.out _ _ hS (Fr.refl _ _ _) ?hy)
        case hr => go_simp; rfl
        case hy => rfl
      -- 33: t59 := Op.call { callee := Callee.value (23), args := #[tmp 57, tmp 58], argTypes := #[24, 24] }   GUARD 30
      refine StepsOk.cons (i := 33) (fun V ws hS hD K hK => ?_) ?_
      · have d30 : V 30 = _ := hD.out 30 (by kernel_rfl)
        have d31 : V 31 = _ := hD.out 31 (by kernel_rfl)
        have d32 : V 32 = _ := hD.out 32 (by kernel_rfl)
        refine sure_call (f := 23) (args := #[.slice aA 88 cA, .slice aB 88 cB]) (by rw [d30]; rfl) (by go_simp) (c_Same (hRA.kept hS (.inr (Nat.zero_le _))) (hRB.kept hS (.inr (Nat.zero_le _)))) ?_
        rintro e w4 ⟨rfl, rfl⟩
        rw [HQ.out]
        refine ⟨_, rfl, hK.out _ _ hS (Fr.refl _ _ _) ?_⟩; rfl
      -- 34: t60 := Op.load 39 (tmp 10)   GUARD 30
      refine StepsOk.cons (i := 34) (fun V ws hS hD K hK => ?_) ?_
      · have d30 : V 30 = _ := hD.out 30 (by kernel_rfl)
        refine su_load_blk (hG10.kept hS (.inr (Nat.zero_le _))) row39 (by rw [siz39, hlb]) (by rw [d30]; rfl) rfl rfl (hK.out _ _ hS (Fr.refl _ _ _) ?_); rfl
      -- 35: t61 := Op.load 39 (tmp 2)   GUARD 30
      refine StepsOk.cons (i := 35) (fun V ws hS hD K hK => ?_) ?_
      · have d30 : V 30 = _ := hD.out 30 (by kernel_rfl)
        refine su_load_blk (hX13.kept hS (.inr (Nat.zero_le _))) row39 (by rw [siz39, hl]) (by rw [d30]; rfl) rfl rfl (hK.out _ _ hS (Fr.refl _ _ _) ?_); rfl
      -- 36: t62 := Op.binOp BinOp.eql 39 (tmp 60) (tmp 61) 39   GUARD 30
      refine StepsOk.cons (i := 36) (fun V ws hS hD K hK => ?_) ?_
      · have d30 : V 30 = _ := hD.out 30 (by kernel_rfl)
        have d34 : V 34 = _ := hD.out 34 (by kernel_rfl)
        have d35 : V 35 = _ := hD.out 35 (by kernel_rfl)
        refine su_eql leaves39 (by omega) row39 eqg39 hlfb hlfx (r := q) HQ2.out (by rw [d30]; rfl) rfl d34 d35 (hK.out _ _ hS (Fr.refl _ _ _) ?_); rfl
      -- 37: t63 := Op.binOp BinOp.eql 4 (tmp 59) (tmp 62) 4   GUARD 30
      refine StepsOk.cons (i := 37) (fun V ws hS hD K hK => ?_) ?_
      · have d30 : V 30 = _ := hD.out 30 (by kernel_rfl)
        have d33 : V 33 = _ := hD.out 33 (by kernel_rfl)
        have d36 : V 36 = _ := hD.out 36 (by kernel_rfl)
        refine' sure_val (v := _) (w' := ws) (by rw [d30]; rfl) ?hr (hK.out _ _ hS (Fr.refl _ _ _) ?hy)
        case hr => go_simp; rfl
        case hy => rfl
      -- 38: t64 := Op.pick (tmp 56) (tmp 63) (const (Value.bool false))
      refine StepsOk.cons (i := 38) (fun V ws hS hD K hK => ?_) ?_
      · have d30 : V 30 = _ := hD.out 30 (by kernel_rfl)
        have d37 : V 37 = _ := hD.out 37 (by kernel_rfl)
        refine' sure_val (v := _) (w' := ws) rfl ?hr (hK.out _ _ hS (Fr.refl _ _ _) ?hy)
        case hr => go_simp; rfl
        case hy => rfl
      -- 39: t4 := Op.assign (tmp 64)
      refine StepsOk.cons (i := 39) (fun V ws hS hD K hK => ?_) ?_
      · have d38 : V 38 = _ := hD.out 38 (by kernel_rfl)
        refine' sure_val (v := _) (w' := ws) rfl ?hr (hK.out _ _ hS (Fr.refl _ _ _) ?hy)
        case hr => go_simp; rfl
        case hy => rfl
      exact StepsOk.nil
    case hY =>
      repeat first
        | exact yKeep.nil
        | refine yKeep.eq ?_
        | refine yKeep.cons (fun i v w w' _ hE h => by obtain ⟨a, c, lo, hi, h0, h1⟩ := h; exact ⟨a, c, lo, hi, h0, h1.kept hE (.inr (Nat.zero_le _))⟩) ?_
    case hend =>
      intro V wt hS hall
      have d39 : V 39 = _ := hall.out 39 (by kernel_rfl)
      rw [d39]
      clear d39 hall
      go_wp2_with fail
      go_ret
      exact ⟨rfl, hW13.trans hS⟩

end Go.Proofs.YtgndidjfjdaagaaDoor
