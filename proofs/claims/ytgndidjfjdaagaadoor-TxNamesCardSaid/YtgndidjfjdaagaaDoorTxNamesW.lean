/-
  The walk of the law TxNames.
-/
import Derived.Test.YtgndidjfjdaagaaDoorTxPure
set_option linter.unusedSimpArgs false
set_option linter.unusedVariables false
set_option linter.unnecessarySimpa false
namespace Go.Proofs.YtgndidjfjdaagaaDoor
open Go.RowKit

def tx1 : TxD := ⟨List.replicate 32 0, List.replicate 32 0, 1, 0, 0, List.replicate 32 0⟩
theorem tx1_ok : TxOk tx1 := ⟨by simp [tx1], by simp [tx1], by simp [tx1], by simp [tx1], by simp [tx1], by simp [tx1]⟩
theorem built39n : Tryd.prog.built 39 [(2, .int .u64 1)] = some (txL tx1).toArray := by kernel_rfl
theorem txB_Z : txB txZ = List.replicate 120 0 := by decide +kernel
theorem tr119 : txRead (List.replicate 119 0) = (tx0, 10) := by rw [txRead, if_pos (by simp)]
theorem tr121 : txRead (List.replicate 121 0) = (tx0, 11) := by rw [txRead, if_neg (by simp), if_pos (by simp)]
theorem tr120 : txRead (List.replicate 120 0) = (tx0, 110) := by rw [← txB_Z, txRead_txB txZ_ok, if_neg txZ_ne]

set_option maxRecDepth 100000 in
set_option maxHeartbeats 8000000 in
theorem w_TxNames {w : World} (hk : KT w) :
    Calls Tryd.prog 16 #[] w fun e w' => e = .returned (.bool true) ∧ Fr 0 0 w w' := by
  have H119 := Lib.hid tr119
  have H121 := Lib.hid tr121
  have H120 := Lib.hid tr120
  have hz0 : tx0.length = 99 := rfl
  have hz39 : (Tryd.prog.info? 39).map (·.size) = some tx0.length := by kernel_rfl
  have h1tx : ∀ v ∈ tx0, v.oneCell' = true := txL_one txZ
  obtain ⟨X, hX⟩ : ∃ X, X = signed tx1 := ⟨_, rfl⟩
  have HXO : Hid (TxOk X) := (show TxOk X by rw [hX]; exact signed_ok tx1_ok)
  have HXE : Hid (txL (signed tx1) = txL X) := Lib.hid (by rw [hX])
  have HXP := Lib.hid HXO.out.1
  have HXS := Lib.hid HXO.out.2.2.1
  have HBX := Lib.hid (bodyB_length HXO.out)
  have HTX := Lib.hid (txB_length HXO.out)
  have hXl := txL_length HXO.out
  have HS2 : Hid (shaB (tagB 4 [bodyB X]) = X.s) := (show _ = _ by rw [hX]; rfl)
  obtain ⟨A, hA⟩ : ∃ A, A = keyH X.p := ⟨_, rfl⟩
  have hAl : A.length = 32 := by rw [hA, keyH, shaB_length]
  have HKA := Lib.hid hA
  have HKA2 : Hid (shaB (tagB 3 [X.p]) = A) := (show _ = _ by rw [hA]; rfl)
  obtain ⟨I, hI⟩ : ∃ I, I = idH X := ⟨_, rfl⟩
  have hIl : I.length = 32 := by rw [hI, idH, shaB_length]
  have HI := Lib.hid hI
  have HI2 : Hid (shaB (tagB 5 [txB X]) = I) := (show _ = _ by rw [hI]; rfl)
  have e0 : Hid (txL X = [] ++ X.p.map ub ++ (X.t.map ub ++ (txN X ++ X.s.map ub))) := (show _ = _ by simp [txL])
  have e5 : Hid (txL X = (X.p.map ub ++ (X.t.map ub ++ txN X)) ++ X.s.map ub ++ []) := (show _ = _ by simp [txL])
  have hAl' : (X.p.map ub ++ (X.t.map ub ++ txN X)).length = 67 := by simp [txN, HXO.out.1, HXO.out.2.1]
  have HT1 : Hid (TxOk tx1) := tx1_ok
  clear hX hA hI
  have t1 := trivial
  have t2 := trivial
  have t3 := trivial
  have t4 := trivial
  have t5 := trivial
  have t6 := trivial
  have t7 := trivial
  have t8 := trivial
  go_enter Tryd.func16, Tryd.ntmps16
  go_wp2_with (first
    | (have _t := t1; refine wpl_make (n := 119) und22 inf5 rfl rfl rfl rfl (by omega) (by omega) (by omega) ?_; intro g1 w1 hB1 hF1 hg1 hs1; clear t1 _t)
    | (have _t := t2; go_at_call 72; refine (c_txRead (OwB.of_blk (lo := g1) (hi := g1 + 1) (n := 119) hB1 (by simp) (Nat.le_refl _) (by omega) (by omega)).rd (by simp) (hk.kept hF1 (.inr (Nat.zero_le _)))).mono ?_; rintro e w2 ⟨rfl, hF2⟩; rw [H119.out]; clear t2 _t; have hW2 := hF1.trans hF2)
    | (have _t := t3; refine wpl_alloc zer39 rfl rfl rfl ?_; intro g3 w3 hA3 hF3 hg3 hs3; clear t3 _t)
    | (have _t := hA3; refine wpl_store_blk hA3 rfl hz39 h1tx rfl rfl rfl rfl ?_; intro w4 hB4 hF4; clear hA3 _t; have hW4 := hW2.trans (hF3.on hF4 hg3))
    | (have _t := t4; refine wpl_make (n := 121) und22 inf5 rfl rfl rfl rfl (by omega) (by omega) (by omega) ?_; intro g5 w5 hB5 hF5 hg5 hs5; clear t4 _t; have hW5 := hW4.trans hF5)
    | (have _t := t5; go_at_call 72; refine (c_txRead (OwB.of_blk (lo := g5) (hi := g5 + 1) (n := 121) hB5 (by simp) (Nat.le_refl _) (by omega) (by omega)).rd (by simp) (hk.kept hW5 (.inr (Nat.zero_le _)))).mono ?_; rintro e w6 ⟨rfl, hF6⟩; rw [H121.out]; clear t5 _t; have hW6 := hW5.trans hF6)
    | (have _t := t6; refine wpl_alloc zer39 rfl rfl rfl ?_; intro g7 w7 hA7 hF7 hg7 hs7; clear t6 _t)
    | (have _t := hA7; refine wpl_store_blk hA7 rfl hz39 h1tx rfl rfl rfl rfl ?_; intro w8 hB8 hF8; clear hA7 _t; have hW8 := hW6.trans (hF7.on hF8 hg7))
    | (have _t := t7; refine wpl_make (n := 120) und22 inf5 rfl rfl rfl rfl (by omega) (by omega) (by omega) ?_; intro g9 w9 hB9 hF9 hg9 hs9; clear t7 _t; have hW9 := hW8.trans hF9)
    | (go_at_call 72; refine (c_txRead (OwB.of_blk (lo := g9) (hi := g9 + 1) (n := 120) hB9 (by simp) (Nat.le_refl _) (by omega) (by omega)).rd (by simp) (hk.kept hW9 (.inr (Nat.zero_le _)))).mono ?_; rintro e w10 ⟨rfl, hF10⟩; rw [H120.out]; have hW10 := hW9.trans hF10)
    | (have _t := t8; refine wpl_alloc zer39 rfl rfl rfl ?_; intro g11 w11 hA11 hF11 hg11 hs11; clear t8 _t)
    | (have _t := hA11; refine wpl_store_blk hA11 rfl hz39 h1tx rfl rfl rfl rfl ?_; intro w12 hB12 hF12; clear hA11 _t; have hW12 := hW10.trans (hF11.on hF12 hg11))
    | (refine wpl_build (parts := [(2, _)]) built39n rfl rfl rfl ?_)
    | (go_at_call 36; refine (c_txSign tx1 HT1.out (hk.kept hW12 (.inr (Nat.zero_le _)))).mono ?_; rintro e w13 ⟨rfl, hF13⟩; rw [HXE.out]; have hW13 := hW12.trans hF13)
    | (refine wpl_alloc zer39 rfl rfl rfl ?_; intro g7 w14 hA14 hF14 hg14 hs14)
    | (refine wpl_store_blk hA14 (by rw [hXl, hz0]) (by rw [siz39, hXl]) (txL_one X) rfl rfl rfl rfl ?_; intro w16 hB16 hF16; clear hA14; have hW16 := hW13.trans (hF14.on hF16 hg14)))
  clear hB12 hB8 hB4 hB1 hB5 hB9
  refine' wp_region_sure (S := fun ws => Fr 0 0 w16 ws) (E := fun _ => Fr 0 0) (kill := fun _ => []) (Y := [yEq _, yEq _, yEq _, yEq _, yEq _, yEq _, yEq _, yEq _, yEq _, yEq _, yEq _, yEq _, yEq _, yEq _, yEq _, yEq _, yEq _, yEq _, yEq _, yW fun v ws => ∃ a c lo hi, v = .slice a 32 c ∧ RdB ws lo hi v (X.p), yW fun v ws => ∃ g, v = .slice (some ⟨g, 0, none⟩) 1 1 ∧ g + 1 ≤ ws.heap.size ∧ RdS ws 0 (g + 1) v [X.p], yEq _, yEq _, yEq _, yEq _, yEq _, yEq _, yEq _, yW fun v ws => ∃ a c lo hi, v = .slice a 120 c ∧ RdB ws lo hi v (txB X), yW fun v ws => ∃ g, v = .slice (some ⟨g, 0, none⟩) 1 1 ∧ g + 1 ≤ ws.heap.size ∧ RdS ws 0 (g + 1) v [txB X], yEq _, yEq _, yEq _, yEq _, yEq _, yEq _, yEq _, yW fun v ws => ∃ a c lo hi, v = .slice a 88 c ∧ RdB ws lo hi v (bodyB X), yW fun v ws => ∃ g, v = .slice (some ⟨g, 0, none⟩) 1 1 ∧ g + 1 ≤ ws.heap.size ∧ RdS ws 0 (g + 1) v [bodyB X], yEq _, yEq _, yEq _, yEq _]) (F := _) (by kernel_rfl) (by kernel_rfl) (by kernel_rfl) (fun V => ?hF) ?hS ?hstep ?hY ?hend
  case hF => simp only [fillA, Act.put, List.setIfInBounds_toArray, List.set_cons_zero, List.set_cons_succ, Nat.reduceAdd, Nat.zero_add]; rfl
  case hS => exact Fr.drew _
  case hstep =>
    -- 0: t25 := Op.move (const (Value.bool true))
    refine StepsOk.cons (i := 0) (fun V ws hS hD K hK => ?_) ?_
    · refine' sure_val (v := _) (w' := ws) rfl ?hr (hK.out _ _ hS (Fr.refl _ _ _) ?hy)
      case hr => go_simp; rfl
      case hy => rfl
    -- 1: t26 := Op.call { callee := Callee.value (35), args := #[], argTypes := #[] }   GUARD 0
    refine StepsOk.cons (i := 1) (fun V ws hS hD K hK => ?_) ?_
    · have d0 : V 0 = _ := hD.out 0 (by kernel_rfl)
      refine sure_call (f := 35) (args := #[]) (by rw [d0]; rfl) (by go_simp) (c_alive11 ((hk.kept hW16 (.inr (Nat.zero_le _))).kept hS (.inr (Nat.zero_le _)))) ?_
      rintro e w4 ⟨rfl, hF4⟩
      refine ⟨_, rfl, hK.out _ _ (hS.trans hF4) hF4 ?_⟩; rfl
    -- 2: t27 := Op.pick (tmp 25) (tmp 26) (const (Value.bool false))
    refine StepsOk.cons (i := 2) (fun V ws hS hD K hK => ?_) ?_
    · have d0 : V 0 = _ := hD.out 0 (by kernel_rfl)
      have d1 : V 1 = _ := hD.out 1 (by kernel_rfl)
      refine' sure_val (v := _) (w' := ws) rfl ?hr (hK.out _ _ hS (Fr.refl _ _ _) ?hy)
      case hr => go_simp; rfl
      case hy => rfl
    -- 3: t28 := Op.move (tmp 27)
    refine StepsOk.cons (i := 3) (fun V ws hS hD K hK => ?_) ?_
    · have d2 : V 2 = _ := hD.out 2 (by kernel_rfl)
      refine' sure_val (v := _) (w' := ws) rfl ?hr (hK.out _ _ hS (Fr.refl _ _ _) ?hy)
      case hr => go_simp; rfl
      case hy => rfl
    -- 4: t29 := Op.move (tmp 2)   GUARD 3
    refine StepsOk.cons (i := 4) (fun V ws hS hD K hK => ?_) ?_
    · have d3 : V 3 = _ := hD.out 3 (by kernel_rfl)
      refine' sure_val (v := _) (w' := ws) (by rw [d3]; rfl) ?hr (hK.out _ _ hS (Fr.refl _ _ _) ?hy)
      case hr => go_simp; rfl
      case hy => rfl
    -- 5: t30 := Op.binOp BinOp.eql 43 (tmp 29) (const (Value.int IntKind.i64 10)) 43   GUARD 3
    refine StepsOk.cons (i := 5) (fun V ws hS hD K hK => ?_) ?_
    · have d3 : V 3 = _ := hD.out 3 (by kernel_rfl)
      have d4 : V 4 = _ := hD.out 4 (by kernel_rfl)
      refine' sure_val (v := _) (w' := ws) (by rw [d3]; rfl) ?hr (hK.out _ _ hS (Fr.refl _ _ _) ?hy)
      case hr => go_simp; rfl
      case hy => rfl
    -- 6: t31 := Op.pick (tmp 28) (tmp 30) (const (Value.bool false))
    refine StepsOk.cons (i := 6) (fun V ws hS hD K hK => ?_) ?_
    · have d3 : V 3 = _ := hD.out 3 (by kernel_rfl)
      have d5 : V 5 = _ := hD.out 5 (by kernel_rfl)
      refine' sure_val (v := _) (w' := ws) rfl ?hr (hK.out _ _ hS (Fr.refl _ _ _) ?hy)
      case hr => go_simp; rfl
      case hy => rfl
    -- 7: t32 := Op.move (tmp 31)
    refine StepsOk.cons (i := 7) (fun V ws hS hD K hK => ?_) ?_
    · have d6 : V 6 = _ := hD.out 6 (by kernel_rfl)
      refine' sure_val (v := _) (w' := ws) rfl ?hr (hK.out _ _ hS (Fr.refl _ _ _) ?hy)
      case hr => go_simp; rfl
      case hy => rfl
    -- 8: t33 := Op.move (tmp 4)   GUARD 7
    refine StepsOk.cons (i := 8) (fun V ws hS hD K hK => ?_) ?_
    · have d7 : V 7 = _ := hD.out 7 (by kernel_rfl)
      refine' sure_val (v := _) (w' := ws) (by rw [d7]; rfl) ?hr (hK.out _ _ hS (Fr.refl _ _ _) ?hy)
      case hr => go_simp; rfl
      case hy => rfl
    -- 9: t34 := Op.binOp BinOp.eql 43 (tmp 33) (const (Value.int IntKind.i64 11)) 43   GUARD 7
    refine StepsOk.cons (i := 9) (fun V ws hS hD K hK => ?_) ?_
    · have d7 : V 7 = _ := hD.out 7 (by kernel_rfl)
      have d8 : V 8 = _ := hD.out 8 (by kernel_rfl)
      refine' sure_val (v := _) (w' := ws) (by rw [d7]; rfl) ?hr (hK.out _ _ hS (Fr.refl _ _ _) ?hy)
      case hr => go_simp; rfl
      case hy => rfl
    -- 10: t35 := Op.pick (tmp 32) (tmp 34) (const (Value.bool false))
    refine StepsOk.cons (i := 10) (fun V ws hS hD K hK => ?_) ?_
    · have d7 : V 7 = _ := hD.out 7 (by kernel_rfl)
      have d9 : V 9 = _ := hD.out 9 (by kernel_rfl)
      refine' sure_val (v := _) (w' := ws) rfl ?hr (hK.out _ _ hS (Fr.refl _ _ _) ?hy)
      case hr => go_simp; rfl
      case hy => rfl
    -- 11: t36 := Op.move (tmp 35)
    refine StepsOk.cons (i := 11) (fun V ws hS hD K hK => ?_) ?_
    · have d10 : V 10 = _ := hD.out 10 (by kernel_rfl)
      refine' sure_val (v := _) (w' := ws) rfl ?hr (hK.out _ _ hS (Fr.refl _ _ _) ?hy)
      case hr => go_simp; rfl
      case hy => rfl
    -- 12: t37 := Op.move (tmp 6)   GUARD 11
    refine StepsOk.cons (i := 12) (fun V ws hS hD K hK => ?_) ?_
    · have d11 : V 11 = _ := hD.out 11 (by kernel_rfl)
      refine' sure_val (v := _) (w' := ws) (by rw [d11]; rfl) ?hr (hK.out _ _ hS (Fr.refl _ _ _) ?hy)
      case hr => go_simp; rfl
      case hy => rfl
    -- 13: t38 := Op.binOp BinOp.eql 43 (tmp 37) (const (Value.int IntKind.i64 110)) 43   GUARD 11
    refine StepsOk.cons (i := 13) (fun V ws hS hD K hK => ?_) ?_
    · have d11 : V 11 = _ := hD.out 11 (by kernel_rfl)
      have d12 : V 12 = _ := hD.out 12 (by kernel_rfl)
      refine' sure_val (v := _) (w' := ws) (by rw [d11]; rfl) ?hr (hK.out _ _ hS (Fr.refl _ _ _) ?hy)
      case hr => go_simp; rfl
      case hy => rfl
    -- 14: t39 := Op.pick (tmp 36) (tmp 38) (const (Value.bool false))
    refine StepsOk.cons (i := 14) (fun V ws hS hD K hK => ?_) ?_
    · have d11 : V 11 = _ := hD.out 11 (by kernel_rfl)
      have d13 : V 13 = _ := hD.out 13 (by kernel_rfl)
      refine' sure_val (v := _) (w' := ws) rfl ?hr (hK.out _ _ hS (Fr.refl _ _ _) ?hy)
      case hr => go_simp; rfl
      case hy => rfl
    -- 15: t40 := Op.move (tmp 39)
    refine StepsOk.cons (i := 15) (fun V ws hS hD K hK => ?_) ?_
    · have d14 : V 14 = _ := hD.out 14 (by kernel_rfl)
      refine' sure_val (v := _) (w' := ws) rfl ?hr (hK.out _ _ hS (Fr.refl _ _ _) ?hy)
      case hr => go_simp; rfl
      case hy => rfl
    -- 16: t41 := Op.load 39 (tmp 7)   GUARD 15
    refine StepsOk.cons (i := 16) (fun V ws hS hD K hK => ?_) ?_
    · have d15 : V 15 = _ := hD.out 15 (by kernel_rfl)
      refine su_load_blk (hB16.kept hS (.inr (Nat.zero_le _))) row39 (by rw [siz39, hXl]) (by rw [d15]; rfl) rfl rfl (hK.out _ _ hS (Fr.refl _ _ _) ?_); rfl
    -- 17: t42 := Op.call { callee := Callee.value (46), args := #[tmp 41], argTypes := #[39] }   GUARD 15
    refine StepsOk.cons (i := 17) (fun V ws hS hD K hK => ?_) ?_
    · have d15 : V 15 = _ := hD.out 15 (by kernel_rfl)
      have d16 : V 16 = _ := hD.out 16 (by kernel_rfl)
      refine sure_call (f := 46) (args := #[_]) (by rw [d15]; rfl) (by go_simp) (c_txFrom X HXO.out ((hk.kept hW16 (.inr (Nat.zero_le _))).kept hS (.inr (Nat.zero_le _)))) ?_
      rintro e w4 ⟨rfl, hF4⟩
      rw [← HKA.out]
      refine ⟨_, rfl, hK.out _ _ (hS.trans hF4) hF4 ?_⟩; rfl
    -- 18: t43 := Op.fieldAddr 39 (tmp 7) 0   GUARD 15
    refine StepsOk.cons (i := 18) (fun V ws hS hD K hK => ?_) ?_
    · have d15 : V 15 = _ := hD.out 15 (by kernel_rfl)
      refine' sure_val (v := _) (w' := ws) (by rw [d15]; rfl) ?hr (hK.out _ _ hS (Fr.refl _ _ _) ?hy)
      case hr => go_simp; rfl
      case hy => rfl
    -- 19: t44 := Op.slice 30 (tmp 43) none none none   GUARD 15
    refine StepsOk.cons (i := 19) (fun V ws hS hD K hK => ?_) ?_
    · have d15 : V 15 = _ := hD.out 15 (by kernel_rfl)
      have d18 : V 18 = _ := hD.out 18 (by kernel_rfl)
      have hB := hB16.kept hS (.inr (Nat.zero_le _))
      rw [e0.out] at hB
      have hR : RdB ws g7 (g7 + 1) (.slice (some ⟨g7, 0, none⟩) 32 32) X.p := Blk.rd hB rfl HXP.out (Nat.le_refl _) (by omega)
      refine' sure_val (v := .slice (some ⟨g7, 0, none⟩) 32 32) (w' := ws) (by rw [d15]; rfl) ?hr (hK.out _ _ hS (Fr.refl _ _ _) ⟨_, _, _, _, rfl, hR⟩)
      case hr => go_simp
    -- 20: t45 := Op.buildSlice 22 1 #[(0, tmp 44)]   GUARD 15
    refine StepsOk.cons (i := 20) (fun V ws hS hD K hK => ?_) ?_
    · have d15 : V 15 = _ := hD.out 15 (by kernel_rfl)
      obtain ⟨a0, c0, lo0, hi0, e0, hR0⟩ : ∃ a c lo hi, V 19 = _ ∧ _ := hD.out 19 (by kernel_rfl)
      rw [e0] at hR0
      have hRS := RdS.one hR0
      refine sure_val (v := .slice (some ⟨ws.heap.size, 0, none⟩) 1 1) (w' := ws.alloc (.cells #[.slice a0 32 c0] 24)) (by rw [d15]; rfl) ?_ (hK.out _ _ (hS.trans (Fr.alloc _ _)) (Fr.alloc _ _) ⟨ws.heap.size, rfl, by rw [World.size_alloc]; omega, hRS⟩)
      go_simp
    -- 21: t46 := Op.call { callee := Callee.value (25), args := #[const (Value.int IntKind.u8 3), tmp 45], argTypes := #[5, 22] }   GUARD 15
    refine StepsOk.cons (i := 21) (fun V ws hS hD K hK => ?_) ?_
    · have d15 : V 15 = _ := hD.out 15 (by kernel_rfl)
      obtain ⟨gS, dS, hgS, hRS⟩ : ∃ g, V 20 = _ ∧ _ ∧ _ := hD.out 20 (by kernel_rfl)
      rw [dS] at hRS
      refine sure_call (f := 25) (args := #[.int .u8 3, .slice (some ⟨gS, 0, none⟩) 1 1]) (by rw [d15]; rfl) (by go_simp) (c_tagOf 3 hRS hgS (by simp [lens, HXP.out]) ((hk.kept hW16 (.inr (Nat.zero_le _))).kept hS (.inr (Nat.zero_le _)))) ?_
      rintro e w4 ⟨rfl, hF4⟩
      rw [HKA2.out]
      refine ⟨_, rfl, hK.out _ _ (hS.trans hF4) hF4 ?_⟩; rfl
    -- 22: t47 := Op.binOp BinOp.eql 30 (tmp 42) (tmp 46) 30   GUARD 15
    refine StepsOk.cons (i := 22) (fun V ws hS hD K hK => ?_) ?_
    · have d15 : V 15 = _ := hD.out 15 (by kernel_rfl)
      have d17 : V 17 = _ := hD.out 17 (by kernel_rfl)
      have d21 : V 21 = _ := hD.out 21 (by kernel_rfl)
      refine su_eqt leaves30 (by omega) row30 eqg30 (LF.bytes32 A hAl) (LF.bytes32 A hAl) rfl (by rw [d15]; rfl) rfl d17 d21 (hK.out _ _ hS (Fr.refl _ _ _) ?_); rfl
    -- 23: t48 := Op.pick (tmp 40) (tmp 47) (const (Value.bool false))
    refine StepsOk.cons (i := 23) (fun V ws hS hD K hK => ?_) ?_
    · have d15 : V 15 = _ := hD.out 15 (by kernel_rfl)
      have d22 : V 22 = _ := hD.out 22 (by kernel_rfl)
      refine' sure_val (v := _) (w' := ws) rfl ?hr (hK.out _ _ hS (Fr.refl _ _ _) ?hy)
      case hr => go_simp; rfl
      case hy => rfl
    -- 24: t49 := Op.move (tmp 48)
    refine StepsOk.cons (i := 24) (fun V ws hS hD K hK => ?_) ?_
    · have d23 : V 23 = _ := hD.out 23 (by kernel_rfl)
      refine' sure_val (v := _) (w' := ws) rfl ?hr (hK.out _ _ hS (Fr.refl _ _ _) ?hy)
      case hr => go_simp; rfl
      case hy => rfl
    -- 25: t50 := Op.load 39 (tmp 7)   GUARD 24
    refine StepsOk.cons (i := 25) (fun V ws hS hD K hK => ?_) ?_
    · have d24 : V 24 = _ := hD.out 24 (by kernel_rfl)
      refine su_load_blk (hB16.kept hS (.inr (Nat.zero_le _))) row39 (by rw [siz39, hXl]) (by rw [d24]; rfl) rfl rfl (hK.out _ _ hS (Fr.refl _ _ _) ?_); rfl
    -- 26: t51 := Op.call { callee := Callee.value (48), args := #[tmp 50], argTypes := #[39] }   GUARD 24
    refine StepsOk.cons (i := 26) (fun V ws hS hD K hK => ?_) ?_
    · have d24 : V 24 = _ := hD.out 24 (by kernel_rfl)
      have d25 : V 25 = _ := hD.out 25 (by kernel_rfl)
      refine sure_call (f := 48) (args := #[_]) (by rw [d24]; rfl) (by go_simp) (c_txId X HXO.out ((hk.kept hW16 (.inr (Nat.zero_le _))).kept hS (.inr (Nat.zero_le _)))) ?_
      rintro e w4 ⟨rfl, hF4⟩
      rw [← HI.out]
      refine ⟨_, rfl, hK.out _ _ (hS.trans hF4) hF4 ?_⟩; rfl
    -- 27: t52 := Op.load 39 (tmp 7)   GUARD 24
    refine StepsOk.cons (i := 27) (fun V ws hS hD K hK => ?_) ?_
    · have d24 : V 24 = _ := hD.out 24 (by kernel_rfl)
      refine su_load_blk (hB16.kept hS (.inr (Nat.zero_le _))) row39 (by rw [siz39, hXl]) (by rw [d24]; rfl) rfl rfl (hK.out _ _ hS (Fr.refl _ _ _) ?_); rfl
    -- 28: t53 := Op.call { callee := Callee.value (38), args := #[tmp 52], argTypes := #[39] }   GUARD 24
    refine StepsOk.cons (i := 28) (fun V ws hS hD K hK => ?_) ?_
    · have d24 : V 24 = _ := hD.out 24 (by kernel_rfl)
      have d27 : V 27 = _ := hD.out 27 (by kernel_rfl)
      refine sure_call (f := 38) (args := #[_]) (by rw [d24]; rfl) (by go_simp) (c_txBytes X HXO.out) ?_
      rintro e w4 ⟨v4, rfl, hO4, hF4⟩
      obtain ⟨a4, c4, rfl⟩ : ∃ a c, v4 = .slice a 120 c := (let ⟨x, y, e, _⟩ := hO4.rd.form; ⟨x, y, by rw [e, HTX.out]⟩)
      exact ⟨_, rfl, hK.out _ _ (hS.trans hF4) hF4 ⟨_, _, _, _, rfl, hO4.rd⟩⟩
    -- 29: t54 := Op.buildSlice 22 1 #[(0, tmp 53)]   GUARD 24
    refine StepsOk.cons (i := 29) (fun V ws hS hD K hK => ?_) ?_
    · have d24 : V 24 = _ := hD.out 24 (by kernel_rfl)
      obtain ⟨a0, c0, lo0, hi0, e0, hR0⟩ : ∃ a c lo hi, V 28 = _ ∧ _ := hD.out 28 (by kernel_rfl)
      rw [e0] at hR0
      have hRS := RdS.one hR0
      refine sure_val (v := .slice (some ⟨ws.heap.size, 0, none⟩) 1 1) (w' := ws.alloc (.cells #[.slice a0 120 c0] 24)) (by rw [d24]; rfl) ?_ (hK.out _ _ (hS.trans (Fr.alloc _ _)) (Fr.alloc _ _) ⟨ws.heap.size, rfl, by rw [World.size_alloc]; omega, hRS⟩)
      go_simp
    -- 30: t55 := Op.call { callee := Callee.value (25), args := #[const (Value.int IntKind.u8 5), tmp 54], argTypes := #[5, 22] }   GUARD 24
    refine StepsOk.cons (i := 30) (fun V ws hS hD K hK => ?_) ?_
    · have d24 : V 24 = _ := hD.out 24 (by kernel_rfl)
      obtain ⟨gS, dS, hgS, hRS⟩ : ∃ g, V 29 = _ ∧ _ ∧ _ := hD.out 29 (by kernel_rfl)
      rw [dS] at hRS
      refine sure_call (f := 25) (args := #[.int .u8 5, .slice (some ⟨gS, 0, none⟩) 1 1]) (by rw [d24]; rfl) (by go_simp) (c_tagOf 5 hRS hgS (by simp [lens, HTX.out]) ((hk.kept hW16 (.inr (Nat.zero_le _))).kept hS (.inr (Nat.zero_le _)))) ?_
      rintro e w4 ⟨rfl, hF4⟩
      rw [HI2.out]
      refine ⟨_, rfl, hK.out _ _ (hS.trans hF4) hF4 ?_⟩; rfl
    -- 31: t56 := Op.binOp BinOp.eql 30 (tmp 51) (tmp 55) 30   GUARD 24
    refine StepsOk.cons (i := 31) (fun V ws hS hD K hK => ?_) ?_
    · have d24 : V 24 = _ := hD.out 24 (by kernel_rfl)
      have d26 : V 26 = _ := hD.out 26 (by kernel_rfl)
      have d30 : V 30 = _ := hD.out 30 (by kernel_rfl)
      refine su_eqt leaves30 (by omega) row30 eqg30 (LF.bytes32 I hIl) (LF.bytes32 I hIl) rfl (by rw [d24]; rfl) rfl d26 d30 (hK.out _ _ hS (Fr.refl _ _ _) ?_); rfl
    -- 32: t57 := Op.pick (tmp 49) (tmp 56) (const (Value.bool false))
    refine StepsOk.cons (i := 32) (fun V ws hS hD K hK => ?_) ?_
    · have d24 : V 24 = _ := hD.out 24 (by kernel_rfl)
      have d31 : V 31 = _ := hD.out 31 (by kernel_rfl)
      refine' sure_val (v := _) (w' := ws) rfl ?hr (hK.out _ _ hS (Fr.refl _ _ _) ?hy)
      case hr => go_simp; rfl
      case hy => rfl
    -- 33: t58 := Op.move (tmp 57)
    refine StepsOk.cons (i := 33) (fun V ws hS hD K hK => ?_) ?_
    · have d32 : V 32 = _ := hD.out 32 (by kernel_rfl)
      refine' sure_val (v := _) (w' := ws) rfl ?hr (hK.out _ _ hS (Fr.refl _ _ _) ?hy)
      case hr => go_simp; rfl
      case hy => rfl
    -- 34: t59 := Op.fieldAddr 39 (tmp 7) 5   GUARD 33
    refine StepsOk.cons (i := 34) (fun V ws hS hD K hK => ?_) ?_
    · have d33 : V 33 = _ := hD.out 33 (by kernel_rfl)
      refine' sure_val (v := _) (w' := ws) (by rw [d33]; rfl) ?hr (hK.out _ _ hS (Fr.refl _ _ _) ?hy)
      case hr => go_simp; rfl
      case hy => rfl
    -- 35: t60 := Op.load 30 (tmp 59)   GUARD 33
    refine StepsOk.cons (i := 35) (fun V ws hS hD K hK => ?_) ?_
    · have d33 : V 33 = _ := hD.out 33 (by kernel_rfl)
      have d34 : V 34 = _ := hD.out 34 (by kernel_rfl)
      have hB := hB16.kept hS (.inr (Nat.zero_le _))
      rw [e5.out] at hB
      refine su_load_part hB hAl'.symm row30 (by rw [siz30, List.length_map, HXS.out]) (by rw [d33]; rfl) rfl d34 (hK.out _ _ hS (Fr.refl _ _ _) ?_); rfl
    -- 36: t61 := Op.load 39 (tmp 7)   GUARD 33
    refine StepsOk.cons (i := 36) (fun V ws hS hD K hK => ?_) ?_
    · have d33 : V 33 = _ := hD.out 33 (by kernel_rfl)
      refine su_load_blk (hB16.kept hS (.inr (Nat.zero_le _))) row39 (by rw [siz39, hXl]) (by rw [d33]; rfl) rfl rfl (hK.out _ _ hS (Fr.refl _ _ _) ?_); rfl
    -- 37: t62 := Op.call { callee := Callee.value (37), args := #[tmp 61], argTypes := #[39] }   GUARD 33
    refine StepsOk.cons (i := 37) (fun V ws hS hD K hK => ?_) ?_
    · have d33 : V 33 = _ := hD.out 33 (by kernel_rfl)
      have d36 : V 36 = _ := hD.out 36 (by kernel_rfl)
      refine sure_call (f := 37) (args := #[_]) (by rw [d33]; rfl) (by go_simp) (c_txBody X HXO.out) ?_
      rintro e w4 ⟨v4, rfl, hO4, hF4⟩
      obtain ⟨a4, c4, rfl⟩ : ∃ a c, v4 = .slice a 88 c := (let ⟨x, y, e, _⟩ := hO4.rd.form; ⟨x, y, by rw [e, HBX.out]⟩)
      exact ⟨_, rfl, hK.out _ _ (hS.trans hF4) hF4 ⟨_, _, _, _, rfl, hO4.rd⟩⟩
    -- 38: t63 := Op.buildSlice 22 1 #[(0, tmp 62)]   GUARD 33
    refine StepsOk.cons (i := 38) (fun V ws hS hD K hK => ?_) ?_
    · have d33 : V 33 = _ := hD.out 33 (by kernel_rfl)
      obtain ⟨a0, c0, lo0, hi0, e0, hR0⟩ : ∃ a c lo hi, V 37 = _ ∧ _ := hD.out 37 (by kernel_rfl)
      rw [e0] at hR0
      have hRS := RdS.one hR0
      refine sure_val (v := .slice (some ⟨ws.heap.size, 0, none⟩) 1 1) (w' := ws.alloc (.cells #[.slice a0 88 c0] 24)) (by rw [d33]; rfl) ?_ (hK.out _ _ (hS.trans (Fr.alloc _ _)) (Fr.alloc _ _) ⟨ws.heap.size, rfl, by rw [World.size_alloc]; omega, hRS⟩)
      go_simp
    -- 39: t64 := Op.call { callee := Callee.value (25), args := #[const (Value.int IntKind.u8 4), tmp 63], argTypes := #[5, 22] }   GUARD 33
    refine StepsOk.cons (i := 39) (fun V ws hS hD K hK => ?_) ?_
    · have d33 : V 33 = _ := hD.out 33 (by kernel_rfl)
      obtain ⟨gS, dS, hgS, hRS⟩ : ∃ g, V 38 = _ ∧ _ ∧ _ := hD.out 38 (by kernel_rfl)
      rw [dS] at hRS
      refine sure_call (f := 25) (args := #[.int .u8 4, .slice (some ⟨gS, 0, none⟩) 1 1]) (by rw [d33]; rfl) (by go_simp) (c_tagOf 4 hRS hgS (by simp [lens, HBX.out]) ((hk.kept hW16 (.inr (Nat.zero_le _))).kept hS (.inr (Nat.zero_le _)))) ?_
      rintro e w4 ⟨rfl, hF4⟩
      rw [HS2.out]
      refine ⟨_, rfl, hK.out _ _ (hS.trans hF4) hF4 ?_⟩; rfl
    -- 40: t65 := Op.binOp BinOp.eql 30 (tmp 60) (tmp 64) 30   GUARD 33
    refine StepsOk.cons (i := 40) (fun V ws hS hD K hK => ?_) ?_
    · have d33 : V 33 = _ := hD.out 33 (by kernel_rfl)
      have d35 : V 35 = _ := hD.out 35 (by kernel_rfl)
      have d39 : V 39 = _ := hD.out 39 (by kernel_rfl)
      refine su_eqt leaves30 (by omega) row30 eqg30 (LF.bytes32 X.s HXS.out) (LF.bytes32 X.s HXS.out) rfl (by rw [d33]; rfl) rfl d35 d39 (hK.out _ _ hS (Fr.refl _ _ _) ?_); rfl
    -- 41: t66 := Op.pick (tmp 58) (tmp 65) (const (Value.bool false))
    refine StepsOk.cons (i := 41) (fun V ws hS hD K hK => ?_) ?_
    · have d33 : V 33 = _ := hD.out 33 (by kernel_rfl)
      have d40 : V 40 = _ := hD.out 40 (by kernel_rfl)
      refine' sure_val (v := _) (w' := ws) rfl ?hr (hK.out _ _ hS (Fr.refl _ _ _) ?hy)
      case hr => go_simp; rfl
      case hy => rfl
    -- 42: t0 := Op.assign (tmp 66)
    refine StepsOk.cons (i := 42) (fun V ws hS hD K hK => ?_) ?_
    · have d41 : V 41 = _ := hD.out 41 (by kernel_rfl)
      refine' sure_val (v := _) (w' := ws) rfl ?hr (hK.out _ _ hS (Fr.refl _ _ _) ?hy)
      case hr => go_simp; rfl
      case hy => rfl
    exact StepsOk.nil
  case hY =>
    repeat first
      | exact yKeep.nil
      | refine yKeep.eq ?_
      | refine yKeep.cons (fun i v w w' _ hE h => by obtain ⟨a, c, lo, hi, h0, h1⟩ := h; exact ⟨a, c, lo, hi, h0, h1.kept hE (.inr (Nat.zero_le _))⟩) ?_
      | refine yKeep.cons (fun i v w w' _ hE h => by obtain ⟨g, h1, h2, h3⟩ := h; exact ⟨g, h1, Nat.le_trans h2 hE.size, h3.kept hE (.inr (Nat.zero_le _))⟩) ?_
  case hend =>
    intro V ws hS hall
    have d42 : V 42 = _ := hall.out 42 (by kernel_rfl)
    rw [d42]
    clear d42 hall
    go_wp2_with fail
    go_ret
    exact ⟨rfl, hW16.trans hS⟩

end Go.Proofs.YtgndidjfjdaagaaDoor
