/-
  tx.Check, Bytes.
-/
import Derived.Test.YtgndidjfjdaagaaDoorTx2
import Derived.Test.YtgndidjfjdaagaaDoorSure
set_option linter.unusedSimpArgs false
set_option linter.unusedVariables false
namespace Go.Proofs.YtgndidjfjdaagaaDoor
open Go.RowKit

set_option maxRecDepth 100000 in
set_option maxHeartbeats 1000000 in
theorem c_txCheck {w : World} (x : TxD) (hx : TxOk x) (hk : KT w) : Calls Tryd.prog 34 #[.agg (txL x).toArray] w fun e w' => e = .returned (.int .i64 (if x.s = signH x then 0 else 110)) ∧ Fr 0 0 w w' := by
  have hl := txL_length hx
  have HX : Hid (TxOk x) := hx
  obtain ⟨h1, h2, h3, _⟩ := hx
  have hAl : (x.p.map ub ++ (x.t.map ub ++ txN x)).length = 67 := by simp [txN, h1, h2]
  have hsm : (x.s.map ub).length = 32 := by rw [List.length_map, h3]
  have e1 : Hid (txL x = (x.p.map ub ++ (x.t.map ub ++ txN x)) ++ x.s.map ub ++ []) := (show _ = _ by simp [txL])
  have H3 := Lib.hid h3
  clear h1 h2 h3
  have key : ∀ r : Bool, (r = true ↔ x.s ≠ signH x) → Calls Tryd.prog 34 #[.agg (txL x).toArray] w fun e w' => e = .returned (.int .i64 (if r = true then 110 else 0)) ∧ Fr 0 0 w w' := by
    intro r hr
    have HR := Lib.hid hr
    clear hr
    obtain ⟨S, hS⟩ : ∃ S, S = signH x := ⟨_, rfl⟩
    have hSl : S.length = 32 := by rw [hS, signH_length]
    have HS := Lib.hid hS
    clear hS
    go_enter Tryd.func34, Tryd.ntmps34
    go_wp2_with (refine wpl_box (txL x) rfl rfl rfl rfl ?_; intro g1 w1 hB1 hF1 hg1 hgs1)
    refine' wp_region_sure (S := fun ws => Fr 0 0 w1 ws) (E := fun _ => Fr 0 0) (kill := fun _ => []) (Y := [yEq _, yEq _, yEq _, yEq _, yEq _]) (F := _) (by kernel_rfl) (by kernel_rfl) (by kernel_rfl) (fun V => ?hF) ?hS ?hstep ?hY ?hend
    case hF => simp only [fillA, Act.put, List.setIfInBounds_toArray, List.set_cons_zero, List.set_cons_succ, Nat.reduceAdd, Nat.zero_add]; rfl
    case hS => exact Fr.drew _
    case hstep =>
      -- 0: t3 := Op.fieldAddr 39 (tmp 1) 5
      refine StepsOk.cons (i := 0) (fun V ws hS hD K hK => ?_) ?_
      · refine' sure_val (v := _) (w' := ws) rfl ?hr (hK.out _ _ hS (Fr.refl _ _ _) ?hy)
        case hr => go_simp; rfl
        case hy => rfl
      -- 1: t4 := Op.load 30 (tmp 3)
      refine StepsOk.cons (i := 1) (fun V ws hS hD K hK => ?_) ?_
      · have d0 : V 0 = _ := hD.out 0 (by kernel_rfl)
        have hB := hB1.kept hS (.inr (Nat.zero_le _))
        rw [e1.out] at hB
        refine su_load_part hB hAl.symm row30 (by rw [siz30, hsm]) rfl rfl d0 (hK.out _ _ hS (Fr.refl _ _ _) ?_); rfl
      -- 2: t5 := Op.load 39 (tmp 1)
      refine StepsOk.cons (i := 2) (fun V ws hS hD K hK => ?_) ?_
      · refine su_load_blk (hB1.kept hS (.inr (Nat.zero_le _))) row39 (by rw [siz39, hl]) rfl rfl rfl (hK.out _ _ hS (Fr.refl _ _ _) ?_); rfl
      -- 3: t6 := Op.call tx.sign
      refine StepsOk.cons (i := 3) (fun V ws hS hD K hK => ?_) ?_
      · have d2 : V 2 = _ := hD.out 2 (by kernel_rfl)
        refine sure_call (f := 84) (args := #[_]) (by rfl) (by go_simp) (c_txSign0 x HX.out ((hk.kept hF1 (.inr (Nat.zero_le _))).kept hS (.inr (Nat.zero_le _)))) ?_
        rintro e w4 ⟨rfl, hF4⟩
        rw [← HS.out]
        refine ⟨_, rfl, hK.out _ _ (hS.trans hF4) hF4 ?_⟩; rfl
      -- 4: t7 := Op.binOp BinOp.neq 30 (tmp 4) (tmp 6) 30
      refine StepsOk.cons (i := 4) (fun V ws hS hD K hK => ?_) ?_
      · have d1 : V 1 = _ := hD.out 1 (by kernel_rfl)
        have d3 : V 3 = _ := hD.out 3 (by kernel_rfl)
        refine su_neq leaves30 (by omega) row30 eqg30 (LF.bytes32 x.s H3.out) (LF.bytes32 S hSl) (r := r) ?_ rfl rfl d1 d3 (hK.out _ _ hS (Fr.refl _ _ _) ?_)
        rotate_left
        rfl
        rw [HR.out, HS.out]
        exact ⟨fun h k => h (map_ub_inj k), fun h k => h (by rw [k])⟩
      exact StepsOk.nil
    case hY => repeat first | exact yKeep.nil | refine yKeep.eq ?_
    case hend =>
      intro V ws hS hall
      have d4 : V 4 = _ := hall.out 4 (by kernel_rfl)
      rw [d4]
      clear d4 hall
      cases r
      · go_wp2_with fail
        go_ret
        exact ⟨rfl, hF1.trans hS⟩
      · go_wp2_with fail
        go_ret
        exact ⟨rfl, hF1.trans hS⟩
  refine (key (decide (x.s ≠ signH x)) (by simp)).mono ?_
  rintro e w' ⟨rfl, hF⟩
  refine ⟨?_, hF⟩
  by_cases h : x.s = signH x <;> simp [h]

set_option maxRecDepth 100000 in
set_option maxHeartbeats 1000000 in
theorem c_txBytes {w : World} (x : TxD) (hx : TxOk x) : Calls Tryd.prog 38 #[.agg (txL x).toArray] w fun e w' => ∃ v', e = .returned v' ∧ OwB w' w.heap.size w'.heap.size v' (txB x) ∧ Fr 0 0 w w' := by
  have hl := txL_length hx
  have HX : Hid (TxOk x) := hx
  have hbl := bodyB_length hx
  have HBL := Lib.hid hbl
  obtain ⟨h1, h2, h3, _⟩ := hx
  have hAl : (x.p.map ub ++ (x.t.map ub ++ txN x)).length = 67 := by simp [txN, h1, h2]
  have e1 : Hid (txL x = (x.p.map ub ++ (x.t.map ub ++ txN x)) ++ x.s.map ub ++ []) := (show _ = _ by simp [txL])
  have H3 := Lib.hid h3
  have HT : Hid (txB x = bodyB x ++ x.s) := (show _ = _ from rfl)
  clear hbl h1 h2 h3
  go_enter Tryd.func38, Tryd.ntmps38
  go_wp2_with (refine wpl_box (txL x) rfl rfl rfl rfl ?_; intro g1 w1 hB1 hF1 hg1 hgs1)
  have q1 := hB1.lt
  have z1 := hF1.size
  refine' wp_region_sure (S := fun ws => Fr 0 0 w1 ws) (E := fun i w w' => match i with | 4 => Fr w1.heap.size w.heap.size w w' | _ => Fr 0 0 w w') (kill := fun i => if i = 4 then [1] else []) (Y := [yEq _, yW fun v ws => ∃ a c lo hi, v = .slice a 88 c ∧ w1.heap.size ≤ lo ∧ hi ≤ ws.heap.size ∧ OwB ws lo hi v (bodyB x), yEq _, yEq _, yW fun v ws => ∃ lo hi, w1.heap.size ≤ lo ∧ hi ≤ ws.heap.size ∧ OwB ws lo hi v (txB x), yW fun v ws => ∃ lo hi, w1.heap.size ≤ lo ∧ hi ≤ ws.heap.size ∧ OwB ws lo hi v (txB x)]) (F := _) (by kernel_rfl) (by kernel_rfl) (by kernel_rfl) (fun V => ?hF) ?hS ?hstep ?hY ?hend
  case hF => simp only [fillA, Act.put, List.setIfInBounds_toArray, List.set_cons_zero, List.set_cons_succ, Nat.reduceAdd, Nat.zero_add]; rfl
  case hS => exact Fr.drew _
  case hstep =>
    -- 0: t3 := Op.load 39 (tmp 1)
    refine StepsOk.cons (i := 0) (fun V ws hS hD K hK => ?_) ?_
    · refine su_load_blk (hB1.kept hS (.inr (Nat.zero_le _))) row39 (by rw [siz39, hl]) rfl rfl rfl (hK.out _ _ hS (Fr.refl _ _ _) ?_); rfl
    -- 1: t4 := Op.call { callee := Callee.value (37), args := #[tmp 3], argTypes := #[39] }
    refine StepsOk.cons (i := 1) (fun V ws hS hD K hK => ?_) ?_
    · have d0 : V 0 = _ := hD.out 0 (by kernel_rfl)
      refine sure_call (f := 37) (args := #[_]) (by rfl) (by go_simp) (c_txBody x HX.out) ?_
      rintro e w4 ⟨v4, rfl, hO4, hF4⟩
      obtain ⟨a4, c4, rfl⟩ : ∃ a c, v4 = .slice a 88 c := (let ⟨x, y, e, _⟩ := hO4.rd.form; ⟨x, y, by rw [e, HBL.out]⟩)
      exact ⟨_, rfl, hK.out _ _ (hS.trans hF4) hF4 ⟨a4, c4, _, _, rfl, hS.size, Nat.le_refl _, hO4⟩⟩
    -- 2: t5 := Op.fieldAddr 39 (tmp 1) 5
    refine StepsOk.cons (i := 2) (fun V ws hS hD K hK => ?_) ?_
    · refine' sure_val (v := _) (w' := ws) rfl ?hr (hK.out _ _ hS (Fr.refl _ _ _) ?hy)
      case hr => go_simp; rfl
      case hy => rfl
    -- 3: t6 := Op.slice 30 (tmp 5) none none none
    refine StepsOk.cons (i := 3) (fun V ws hS hD K hK => ?_) ?_
    · have d2 : V 2 = _ := hD.out 2 (by kernel_rfl)
      refine' sure_val (v := _) (w' := ws) rfl ?hr (hK.out _ _ hS (Fr.refl _ _ _) ?hy)
      case hr => go_simp; rfl
      case hy => rfl
    -- 4: t7 := Op.call { callee := Callee.builtin Builtin.append, args := #[tmp 4, tmp 6], argTypes := #[24, 24] }
    refine StepsOk.cons (i := 4) (fun V ws hS hD K hK => ?_) ?_
    · obtain ⟨a1, c1, lo1, hi1, d1, h11, h12, hO1⟩ : ∃ a c lo hi, V 1 = _ ∧ _ := hD.out 1 (by kernel_rfl)
      have d3 : V 3 = _ := hD.out 3 (by kernel_rfl)
      have hB := hB1.kept hS (.inr (Nat.zero_le _))
      rw [e1.out] at hB
      have hR : RdB ws g1 (g1 + 1) (.slice (some ⟨g1, 67, none⟩) 32 32) x.s := Blk.rd hB hAl H3.out (Nat.le_refl _) (by omega)
      refine st_append hO1 hR (by rw [HBL.out, H3.out]; omega) rfl rfl rfl d3 ?_
      intro v5 w5 lo5 hi5 hO5 hF5 hz5
      rw [← HT.out] at hO5
      have z5 := hF5.size
      have zs := hS.size
      exact hK.out _ _ (hS.on hF5 h11) (hF5.mono (.inl h11) (.inl h12)) ⟨lo5, hi5, by omega, by omega, hO5⟩
    -- 5: t2 := Op.assign (tmp 7)
    refine StepsOk.cons (i := 5) (fun V ws hS hD K hK => ?_) ?_
    · obtain ⟨lo, hi, h1, h2, hO⟩ : ∃ lo hi, _ := hD.out 4 (by kernel_rfl)
      refine' sure_val (v := _) (w' := ws) rfl ?hr (hK.out _ _ hS (Fr.refl _ _ _) ?hy)
      case hr => go_simp; rfl
      case hy => exact ⟨lo, hi, h1, h2, hO⟩
    exact StepsOk.nil
  case hY =>
    refine yKeep.eq (yKeep.cons ?_ (yKeep.eq (yKeep.eq (yKeep.cons ?_ (yKeep.cons ?_ yKeep.nil)))))
    · intro i v w w' hk hE h
      by_cases hi : i = 4
      · subst hi
        exact mayNot hk (by kernel_rfl)
      · have hF : Fr 0 0 w w' := by
          revert hE
          split
          · exact absurd rfl hi
          · exact id
        obtain ⟨a, c, lo, hi, h0, h1, h2, h3⟩ := h
        have := hF.size
        exact ⟨a, c, lo, hi, h0, h1, by omega, h3.kept hF (.inr (Nat.zero_le _))⟩
    all_goals
      intro i v w w' hk hE h
      by_cases hi : i = 4
      · subst hi
        exact mayNot hk (by kernel_rfl)
      · have hF : Fr 0 0 w w' := by
          revert hE
          split
          · exact absurd rfl hi
          · exact id
        obtain ⟨lo, hi, h1, h2, h3⟩ := h
        have := hF.size
        exact ⟨lo, hi, h1, by omega, h3.kept hF (.inr (Nat.zero_le _))⟩
  case hend =>
    intro V ws hS hall
    obtain ⟨lo, hi, h1, h2, hO⟩ : ∃ lo hi, _ := hall.out 5 (by kernel_rfl)
    go_wp2_with fail
    go_ret
    exact ⟨_, rfl, hO.mono (by omega) h2, hF1.trans hS⟩

end Go.Proofs.YtgndidjfjdaagaaDoor
