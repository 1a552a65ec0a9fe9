/-
  The walk of the law HeaderNames.
-/
import Derived.Test.YtgndidjfjdaagaaDoorDep
import Derived.Test.YtgndidjfjdaagaaDoorSure
import Derived.Deep.OwnRows
set_option linter.unusedSimpArgs false
set_option linter.unusedVariables false
namespace Go.Proofs.YtgndidjfjdaagaaDoor
open Go.RowKit

def z32 : List UInt8 := List.replicate 32 0
theorem hr107 : hdrRead (List.replicate 107 0) = (hdr0, 10) := by kernel_rfl
theorem hr109 : hdrRead (List.replicate 109 0) = (hdr0, 11) := by kernel_rfl
theorem hr108 : hdrRead (List.replicate 108 255) = (hdr0, 8) := by kernel_rfl
theorem bltN1 : Tryd.prog.built 61 [(0, .int .i64 (-1))] = some (hdrL (-1) z32 z32 z32 0).toArray := by kernel_rfl
theorem bltP1 : Tryd.prog.built 61 [(0, .int .i64 1)] = some (hdrL 1 z32 z32 z32 0).toArray := by kernel_rfl
theorem bltN2 : Tryd.prog.built 61 [(4, .int .i64 257)] = some (hdrL 0 z32 z32 z32 257).toArray := by kernel_rfl
set_option maxRecDepth 1000000 in
theorem hdrH_ne : hdrH 0 z32 z32 z32 0 ≠ z32 := by decide +kernel

set_option maxRecDepth 20000 in
set_option maxHeartbeats 2000000 in
theorem w_HeaderNames {w : World} (hk : KT w) :
    Calls Tryd.prog 17 #[] w fun e w' => e = .returned (.bool true) ∧ Fr 0 0 w w' := by
  have H107 := Lib.hid hr107
  have H109 := Lib.hid hr109
  have H108 := Lib.hid hr108
  have hzl : z32.length = 32 := by kernel_rfl
  have t1 := trivial
  have t2 := trivial
  have t3 := trivial
  have t4 := trivial
  have t5 := trivial
  go_enter Tryd.func17, Tryd.ntmps17
  go_wp2_with (first
    | (have _t := t1; refine wpl_make (n := 107) und22 inf5 rfl rfl rfl rfl (by omega) (by omega) (by omega) ?_; intro g1 w1 hB1 hF1 hg1 hs1; clear t1 _t)
    | (have _t := t2; go_at_call 74; refine (c_hdrRead (OwB.of_blk (lo := g1) (hi := g1 + 1) (n := 107) hB1 (by simp) (Nat.le_refl _) (by omega) (by omega)).rd (by simp)).mono ?_; rintro e w2 ⟨rfl, hF2⟩; rw [H107.out]; clear t2 _t; have hW2 := hF1.trans hF2)
    | (have _t := t3; refine wpl_alloc zer27 rfl rfl rfl ?_; intro g3 w3 hB3 hF3 hg3 hs3; clear t3 _t)
    | (have _t := hB3; refine wpl_store_blk hB3 rfl siz27 (hdrL_one _ _ _ _ _) rfl rfl rfl rfl ?_; intro w4 hB4 hF4; clear hB3 _t; have z2 := hW2.size; have hW4 := (hW2.trans hF3).on hF4 (by omega))
    | (have _t := t4; refine wpl_make (n := 109) und22 inf5 rfl rfl rfl rfl (by omega) (by omega) (by omega) ?_; intro g5 w5 hB5 hF5 hg5 hs5; clear t4 _t)
    | (go_at_call 74; refine (c_hdrRead (OwB.of_blk (lo := g5) (hi := g5 + 1) (n := 109) hB5 (by simp) (Nat.le_refl _) (by omega) (by omega)).rd (by simp)).mono ?_; rintro e w6 ⟨rfl, hF6⟩; rw [H109.out]; have hW6 := (hW4.trans hF5).trans hF6)
    | (have _t := t5; refine wpl_alloc zer27 rfl rfl rfl ?_; intro g7 w7 hB7 hF7 hg7 hs7; clear t5 _t)
    | (have _t := hB7; refine wpl_store_blk hB7 rfl siz27 (hdrL_one _ _ _ _ _) rfl rfl rfl rfl ?_; intro w8 hB8 hF8; clear hB7 _t; have z6 := hW6.size; have hW8 := (hW6.trans hF7).on hF8 (by omega))
    | (refine wpl_make (n := 108) und22 inf5 rfl rfl rfl rfl (by omega) (by omega) (by omega) ?_; intro g9 w9 hB9 hF9 hg9 hs9; have hW9 := hW8.trans hF9))
  go_loopw [6] (fun i ws => ∃ t : Nat, t ≤ 108 ∧ i = .int .i64 t ∧ Blk ws g9 ((fillB (List.replicate 108 255) t 108).map ub) 5 ∧ Fr g9 (g9 + 1) w9 ws) (fun i _ => 108 - (intOf i).toNat)
  case atStart => exact ⟨0, Nat.zero_le _, rfl, by rw [fillB_zero]; exact hB9, Fr.refl _ _ _⟩
  case round =>
    obtain ⟨t, ht, rfl, hBt, hFt⟩ := hrel
    by_cases hlt : t < 108
    · go_wp2_with (refine wpl_store_cell (off := t) (v := ub 255) hBt (by rw [List.length_map, fillB_length _ t 108 (by simp; omega) ht]; omega) siz5' rfl rfl rfl rfl rfl rfl ?_; intro w10 hB10 hF10)
      go_roundw
      case rel =>
        refine ⟨t + 1, by omega, by go_num, ?_, hFt.trans hF10⟩
        rw [← fillB_set (List.replicate 108 255) t 108 (by simp; omega) hlt, List.map_set, List.getElem_replicate]
        exact hB10
      case measure => simp [intOf]; omega
    · obtain rfl : t = 108 := by omega
      rw [fillB_all, List.take_of_length_le (by simp)] at hBt
      have z8 := hW8.size
      have z9 := hW9.size
      have z99 := hF9.size
      have hW10 := hW9.on hFt (by omega)
      obtain ⟨D, hD⟩ : ∃ D, D = hdrH 0 z32 z32 z32 0 := ⟨_, rfl⟩
      have hDl : D.length = 32 := by rw [hD, hdrH_length]
      have hsl : (D.map ub).length = 32 := by rw [List.length_map, hDl]
      have HD := Lib.hid hD
      have HC0 : Hid (hdrChk 0 0 = 0) := by show _ = _; decide
      have HC1 : Hid (hdrChk (-1) 0 = 8) := by show _ = _; decide
      have HC2 : Hid (hdrChk 0 257 = 8) := by show _ = _; decide
      have hz9 := hBt.lt
      clear hD
      have t6 := trivial
      have t7 := trivial
      go_upto_region 11 with (first
        | (go_at_call 74; refine (c_hdrRead (OwB.of_blk (lo := g9) (hi := g9 + 1) (n := 108) hBt (by simp) (Nat.le_refl _) (by omega) (by omega)).rd (by simp)).mono ?_; rintro e w11 ⟨rfl, hF11⟩; rw [H108.out]; have hW11 := hW10.trans hF11)
        | (have _t := t6; refine wpl_alloc zer27 rfl rfl rfl ?_; intro g12 w12 hB12 hF12 hg12 hs12; clear t6 _t)
        | (have _t := hB12; refine wpl_store_blk hB12 rfl siz27 (hdrL_one _ _ _ _ _) rfl rfl rfl rfl ?_; intro w13 hB13 hF13; clear hB12 _t; have z11 := hW11.size; have hW13 := (hW11.trans hF12).on hF13 (by omega))
        | (refine wpl_build (parts := []) built27z rfl rfl rfl ?_)
        | (go_at_call 56; refine (c_hdrHash 0 z32 z32 z32 0 hzl hzl hzl (hk.kept hW13 (.inr (Nat.zero_le _)))).mono ?_; rintro e w14 ⟨rfl, hF14⟩; rw [HC0.out, ← HD.out]; have hW14 := hW13.trans hF14)
        | (refine wpl_alloc zer30 rfl rfl rfl ?_; intro g15 w15 hB15 hF15 hg15 hs15)
        | (refine wpl_store_blk hB15 (by rw [hsl]; rfl) (by rw [siz30, hsl]) (ub_oneCell _) rfl rfl rfl rfl ?_; intro w16 hB16 hF16; have z14 := hW14.size; have hW16 := (hW14.trans hF15).on hF16 (by omega))
        | (refine wpl_build (parts := [(0, _)]) bltN1 rfl rfl rfl ?_)
        | (have _t := t7; go_at_call 58; refine (c_hdrCheck (-1) z32 z32 z32 0 hzl hzl hzl).mono ?_; rintro e w17 ⟨rfl, hF17⟩; rw [HC1.out]; clear t7 _t; have hW17 := hW16.trans hF17; have hB17 := hB16.kept hF17 (.inr (Nat.zero_le _)))
        | (refine wpl_buildG (parts := [(4, _)]) bltN2 rfl rfl rfl ?_)
        | (go_at_call 58; refine (c_hdrCheck 0 z32 z32 z32 257 hzl hzl hzl).mono ?_; rintro e w18 ⟨rfl, hF18⟩; rw [HC2.out]; have hW18 := hW17.trans hF18; have hB18 := hB17.kept hF18 (.inr (Nat.zero_le _))))
      have hDe : hdrH 0 z32 z32 z32 0 = shaB (tagB 6 [List.replicate 108 0]) := by
        have e : hdrB 0 z32 z32 z32 0 = List.replicate 108 0 := by kernel_rfl
        rw [hdrH, if_pos HC0.out, e]
      have HDE : Hid (shaB (tagB 6 [List.replicate 108 0]) = D) := by show _ = _; rw [← hDe, ← HD.out]
      have HT : Hid (decide (fol 1 D 0 0 z32 z32 z32 0) = true) := by
        refine decide_eq_true (⟨HC0.out, by decide, rfl, HD.out⟩ : fol 1 D 0 0 z32 z32 z32 0)
      have HFF : Hid (decide (fol 1 z32 0 0 z32 z32 z32 0) = false) := by
        refine decide_eq_false (fun x : fol 1 z32 0 0 z32 z32 z32 0 => hdrH_ne x.2.2.2.symm)
      -- REGION 11
      obtain ⟨Z, hZ⟩ : ∃ Z, Z = madeCells #[.int .u8 0] 108 := ⟨_, rfl⟩
      have HZ : Hid (Z = ((List.replicate 108 (0 : UInt8)).map ub).toArray) := by show _ = _; rw [hZ]; kernel_rfl
      have hMk : ∀ w, (Instr.makeSlice 24 (.int .i64 108) (.int .i64 108)).run Tryd.prog w = .ok (.slice (some ⟨w.heap.size, 0, none⟩) 108 108) (w.alloc (.cells Z 5)) := fun w => by
        rw [hZ]
        exact run_make_row' 24 5 (.int .u8 0) 1 und22 inf5 rfl .i64 .i64 108 (by omega) (by omega) w
      have hbl : Tryd.prog.built 61 [(0, .int .i64 1), (1, .agg (bs D))] = some (hdrL 1 D z32 z32 0).toArray := by
        rw [built_struct _ zer27 plc27, show (Value.agg hdr0.toArray).cells = ([[.int .i64 0], (List.replicate 32 (0 : UInt8)).map ub, (List.replicate 32 (0 : UInt8)).map ub, (List.replicate 32 (0 : UInt8)).map ub, [.int .i64 0]] : List (List Value)).flatten.toArray by simp [hdr0, hdrL, Value.cells],
          fill_seg [.int .i64 1] _ (by simp) (by simp) rfl (by simp), fill_seg (D.map ub) _ (by simp) (by simp [hDl]) rfl (by simp [hDl])]
        simp [Instr.fill, hdrL, z32]
      clear hZ hDe
      refine' wp_region_sure (S := fun ws => Fr 0 0 w18 ws) (E := fun _ => Fr 0 0) (kill := fun _ => []) (Y := [yEq _, yEq _, yEq _, yEq _, yEq _, yEq _, yEq _, yEq _, yEq _, yEq _, yEq _, yEq _, yEq _, yEq _, yEq _, yEq _, yEq _, yEq _, yEq _, yEq _, yEq _, yW fun v ws => ∃ g, v = .slice (some ⟨g, 0, none⟩) 108 108 ∧ Blk ws g ((List.replicate 108 (0 : UInt8)).map ub) 5, yW fun v ws => ∃ g, v = .slice (some ⟨g, 0, none⟩) 1 1 ∧ g + 1 ≤ ws.heap.size ∧ RdS ws 0 (g + 1) v [List.replicate 108 (0 : UInt8)], yEq _, yEq _, yEq _, yEq _, yEq _, yEq _, yEq _, yEq _, yEq _, yEq _, yEq _, yEq _, yEq _, yEq _, yEq _, yEq _, yEq _, yEq _, yEq _]) (F := _) (by kernel_rfl) (by kernel_rfl) (by kernel_rfl) (fun V => ?hF) ?hS ?hstep ?hY ?hend
      case hF => simp only [fillA, Act.put, List.setIfInBounds_toArray, List.set_cons_zero, List.set_cons_succ, Nat.reduceAdd, Nat.zero_add]; rfl
      case hS => exact Fr.drew _
      case hstep =>
        -- 0: t50 := Op.move (const (Value.bool true))
        refine StepsOk.cons (i := 0) (fun V ws hS hD K hK => ?_) ?_
        · refine' sure_val (v := _) (w' := ws) rfl ?hr (hK.out _ _ hS (Fr.refl _ _ _) ?hy)
          case hr => go_simp; rfl
          case hy => rfl
        -- 1: t51 := Op.call { callee := Callee.value (62), args := #[], argTypes := #[] }   GUARD 0
        refine StepsOk.cons (i := 1) (fun V ws hS hD K hK => ?_) ?_
        · have d0 : V 0 = _ := hD.out 0 (by kernel_rfl)
          refine sure_call (f := 62) (args := #[]) (by rw [d0]; rfl) (by go_simp) (c_alive14) ?_
          rintro e w4 ⟨rfl, hF4⟩
          refine ⟨_, rfl, hK.out _ _ (hS.trans hF4) hF4 ?_⟩; rfl
        -- 2: t52 := Op.pick (tmp 50) (tmp 51) (const (Value.bool false))
        refine StepsOk.cons (i := 2) (fun V ws hS hD K hK => ?_) ?_
        · have d0 : V 0 = _ := hD.out 0 (by kernel_rfl)
          have d1 : V 1 = _ := hD.out 1 (by kernel_rfl)
          refine' sure_val (v := _) (w' := ws) rfl ?hr (hK.out _ _ hS (Fr.refl _ _ _) ?hy)
          case hr => go_simp; rfl
          case hy => rfl
        -- 3: t53 := Op.move (tmp 52)
        refine StepsOk.cons (i := 3) (fun V ws hS hD K hK => ?_) ?_
        · have d2 : V 2 = _ := hD.out 2 (by kernel_rfl)
          refine' sure_val (v := _) (w' := ws) rfl ?hr (hK.out _ _ hS (Fr.refl _ _ _) ?hy)
          case hr => go_simp; rfl
          case hy => rfl
        -- 4: t54 := Op.move (tmp 2)   GUARD 3
        refine StepsOk.cons (i := 4) (fun V ws hS hD K hK => ?_) ?_
        · have d3 : V 3 = _ := hD.out 3 (by kernel_rfl)
          refine' sure_val (v := _) (w' := ws) (by rw [d3]; rfl) ?hr (hK.out _ _ hS (Fr.refl _ _ _) ?hy)
          case hr => go_simp; rfl
          case hy => rfl
        -- 5: t55 := Op.binOp BinOp.eql 43 (tmp 54) (const (Value.int IntKind.i64 10)) 43   GUARD 3
        refine StepsOk.cons (i := 5) (fun V ws hS hD K hK => ?_) ?_
        · have d3 : V 3 = _ := hD.out 3 (by kernel_rfl)
          have d4 : V 4 = _ := hD.out 4 (by kernel_rfl)
          refine' sure_val (v := _) (w' := ws) (by rw [d3]; rfl) ?hr (hK.out _ _ hS (Fr.refl _ _ _) ?hy)
          case hr => go_simp; rfl
          case hy => rfl
        -- 6: t56 := Op.pick (tmp 53) (tmp 55) (const (Value.bool false))
        refine StepsOk.cons (i := 6) (fun V ws hS hD K hK => ?_) ?_
        · have d3 : V 3 = _ := hD.out 3 (by kernel_rfl)
          have d5 : V 5 = _ := hD.out 5 (by kernel_rfl)
          refine' sure_val (v := _) (w' := ws) rfl ?hr (hK.out _ _ hS (Fr.refl _ _ _) ?hy)
          case hr => go_simp; rfl
          case hy => rfl
        -- 7: t57 := Op.move (tmp 56)
        refine StepsOk.cons (i := 7) (fun V ws hS hD K hK => ?_) ?_
        · have d6 : V 6 = _ := hD.out 6 (by kernel_rfl)
          refine' sure_val (v := _) (w' := ws) rfl ?hr (hK.out _ _ hS (Fr.refl _ _ _) ?hy)
          case hr => go_simp; rfl
          case hy => rfl
        -- 8: t58 := Op.move (tmp 4)   GUARD 7
        refine StepsOk.cons (i := 8) (fun V ws hS hD K hK => ?_) ?_
        · have d7 : V 7 = _ := hD.out 7 (by kernel_rfl)
          refine' sure_val (v := _) (w' := ws) (by rw [d7]; rfl) ?hr (hK.out _ _ hS (Fr.refl _ _ _) ?hy)
          case hr => go_simp; rfl
          case hy => rfl
        -- 9: t59 := Op.binOp BinOp.eql 43 (tmp 58) (const (Value.int IntKind.i64 11)) 43   GUARD 7
        refine StepsOk.cons (i := 9) (fun V ws hS hD K hK => ?_) ?_
        · have d7 : V 7 = _ := hD.out 7 (by kernel_rfl)
          have d8 : V 8 = _ := hD.out 8 (by kernel_rfl)
          refine' sure_val (v := _) (w' := ws) (by rw [d7]; rfl) ?hr (hK.out _ _ hS (Fr.refl _ _ _) ?hy)
          case hr => go_simp; rfl
          case hy => rfl
        -- 10: t60 := Op.pick (tmp 57) (tmp 59) (const (Value.bool false))
        refine StepsOk.cons (i := 10) (fun V ws hS hD K hK => ?_) ?_
        · have d7 : V 7 = _ := hD.out 7 (by kernel_rfl)
          have d9 : V 9 = _ := hD.out 9 (by kernel_rfl)
          refine' sure_val (v := _) (w' := ws) rfl ?hr (hK.out _ _ hS (Fr.refl _ _ _) ?hy)
          case hr => go_simp; rfl
          case hy => rfl
        -- 11: t61 := Op.move (tmp 60)
        refine StepsOk.cons (i := 11) (fun V ws hS hD K hK => ?_) ?_
        · have d10 : V 10 = _ := hD.out 10 (by kernel_rfl)
          refine' sure_val (v := _) (w' := ws) rfl ?hr (hK.out _ _ hS (Fr.refl _ _ _) ?hy)
          case hr => go_simp; rfl
          case hy => rfl
        -- 12: t62 := Op.move (tmp 8)   GUARD 11
        refine StepsOk.cons (i := 12) (fun V ws hS hD K hK => ?_) ?_
        · have d11 : V 11 = _ := hD.out 11 (by kernel_rfl)
          refine' sure_val (v := _) (w' := ws) (by rw [d11]; rfl) ?hr (hK.out _ _ hS (Fr.refl _ _ _) ?hy)
          case hr => go_simp; rfl
          case hy => rfl
        -- 13: t63 := Op.binOp BinOp.eql 43 (tmp 62) (const (Value.int IntKind.i64 8)) 43   GUARD 11
        refine StepsOk.cons (i := 13) (fun V ws hS hD K hK => ?_) ?_
        · have d11 : V 11 = _ := hD.out 11 (by kernel_rfl)
          have d12 : V 12 = _ := hD.out 12 (by kernel_rfl)
          refine' sure_val (v := _) (w' := ws) (by rw [d11]; rfl) ?hr (hK.out _ _ hS (Fr.refl _ _ _) ?hy)
          case hr => go_simp; rfl
          case hy => rfl
        -- 14: t64 := Op.pick (tmp 61) (tmp 63) (const (Value.bool false))
        refine StepsOk.cons (i := 14) (fun V ws hS hD K hK => ?_) ?_
        · have d11 : V 11 = _ := hD.out 11 (by kernel_rfl)
          have d13 : V 13 = _ := hD.out 13 (by kernel_rfl)
          refine' sure_val (v := _) (w' := ws) rfl ?hr (hK.out _ _ hS (Fr.refl _ _ _) ?hy)
          case hr => go_simp; rfl
          case hy => rfl
        -- 15: t65 := Op.move (tmp 64)
        refine StepsOk.cons (i := 15) (fun V ws hS hD K hK => ?_) ?_
        · have d14 : V 14 = _ := hD.out 14 (by kernel_rfl)
          refine' sure_val (v := _) (w' := ws) rfl ?hr (hK.out _ _ hS (Fr.refl _ _ _) ?hy)
          case hr => go_simp; rfl
          case hy => rfl
        -- 16: t66 := Op.move (tmp 10)   GUARD 15
        refine StepsOk.cons (i := 16) (fun V ws hS hD K hK => ?_) ?_
        · have d15 : V 15 = _ := hD.out 15 (by kernel_rfl)
          refine' sure_val (v := _) (w' := ws) (by rw [d15]; rfl) ?hr (hK.out _ _ hS (Fr.refl _ _ _) ?hy)
          case hr => go_simp; rfl
          case hy => rfl
        -- 17: t67 := Op.binOp BinOp.eql 43 (tmp 66) (const (Value.int IntKind.i64 0)) 43   GUARD 15
        refine StepsOk.cons (i := 17) (fun V ws hS hD K hK => ?_) ?_
        · have d15 : V 15 = _ := hD.out 15 (by kernel_rfl)
          have d16 : V 16 = _ := hD.out 16 (by kernel_rfl)
          refine' sure_val (v := _) (w' := ws) (by rw [d15]; rfl) ?hr (hK.out _ _ hS (Fr.refl _ _ _) ?hy)
          case hr => go_simp; rfl
          case hy => rfl
        -- 18: t68 := Op.pick (tmp 65) (tmp 67) (const (Value.bool false))
        refine StepsOk.cons (i := 18) (fun V ws hS hD K hK => ?_) ?_
        · have d15 : V 15 = _ := hD.out 15 (by kernel_rfl)
          have d17 : V 17 = _ := hD.out 17 (by kernel_rfl)
          refine' sure_val (v := _) (w' := ws) rfl ?hr (hK.out _ _ hS (Fr.refl _ _ _) ?hy)
          case hr => go_simp; rfl
          case hy => rfl
        -- 19: t69 := Op.move (tmp 68)
        refine StepsOk.cons (i := 19) (fun V ws hS hD K hK => ?_) ?_
        · have d18 : V 18 = _ := hD.out 18 (by kernel_rfl)
          refine' sure_val (v := _) (w' := ws) rfl ?hr (hK.out _ _ hS (Fr.refl _ _ _) ?hy)
          case hr => go_simp; rfl
          case hy => rfl
        -- 20: t70 := Op.load 30 (tmp 9)   GUARD 19
        refine StepsOk.cons (i := 20) (fun V ws hS hD K hK => ?_) ?_
        · have d19 : V 19 = _ := hD.out 19 (by kernel_rfl)
          refine su_load_blk (hB18.kept hS (.inr (Nat.zero_le _))) row30 (by rw [siz30, hsl]) (by rw [d19]; rfl) rfl rfl (hK.out _ _ hS (Fr.refl _ _ _) ?_); rfl
        -- 21: t71 := Op.makeSlice 24 (const (Value.int IntKind.i64 108)) (const (Value.int IntKind.i64 108))   GUARD 19
        refine StepsOk.cons (i := 21) (fun V ws hS hD K hK => ?_) ?_
        · have d19 : V 19 = _ := hD.out 19 (by kernel_rfl)
          refine sure_val (v := .slice (some ⟨ws.heap.size, 0, none⟩) 108 108) (w' := ws.alloc (.cells Z 5)) (by rw [d19]; rfl) ?_ (hK.out _ _ (hS.trans (Fr.alloc _ _)) (Fr.alloc _ _) ⟨ws.heap.size, rfl, by rw [HZ.out]; exact heap_alloc_new ws _⟩)
          have := hMk ws
          go_simp
        -- 22: t72 := Op.buildSlice 22 1 #[(0, tmp 71)]   GUARD 19
        refine StepsOk.cons (i := 22) (fun V ws hS hD K hK => ?_) ?_
        · have d19 : V 19 = _ := hD.out 19 (by kernel_rfl)
          obtain ⟨g21, d21, hB21⟩ : ∃ g, V 21 = _ ∧ _ := hD.out 21 (by kernel_rfl)
          have hRS := RdS.one (OwB.of_blk (lo := g21) (hi := g21 + 1) (n := 108) hB21 (by simp) (Nat.le_refl _) (by omega) (by omega)).rd
          refine sure_val (v := .slice (some ⟨ws.heap.size, 0, none⟩) 1 1) (w' := ws.alloc (.cells #[.slice (some ⟨g21, 0, none⟩) 108 108] 24)) (by rw [d19]; rfl) ?_ (hK.out _ _ (hS.trans (Fr.alloc _ _)) (Fr.alloc _ _) ⟨ws.heap.size, rfl, by rw [World.size_alloc]; omega, hRS⟩)
          have d21 := d21
          go_simp
        -- 23: t73 := Op.call { callee := Callee.value (25), args := #[const (Value.int IntKind.u8 6), tmp 72], argTypes := #[5, 22] }   GUARD 19
        refine StepsOk.cons (i := 23) (fun V ws hS hD K hK => ?_) ?_
        · have d19 : V 19 = _ := hD.out 19 (by kernel_rfl)
          obtain ⟨g22, d22, hg22, hRS⟩ : ∃ g, V 22 = _ ∧ _ ∧ _ := hD.out 22 (by kernel_rfl)
          rw [d22] at hRS
          refine sure_call (f := 25) (args := #[.int .u8 6, .slice (some ⟨g22, 0, none⟩) 1 1]) (by rw [d19]; rfl) (by go_simp) (c_tagOf 6 hRS hg22 (by simp [lens]) ((hk.kept hW18 (.inr (Nat.zero_le _))).kept hS (.inr (Nat.zero_le _)))) ?_
          rintro e w4 ⟨rfl, hF4⟩
          rw [HDE.out]
          refine ⟨_, rfl, hK.out _ _ (hS.trans hF4) hF4 ?_⟩; rfl
        -- 24: t74 := Op.binOp BinOp.eql 30 (tmp 70) (tmp 73) 30   GUARD 19
        refine StepsOk.cons (i := 24) (fun V ws hS hD K hK => ?_) ?_
        · have d19 : V 19 = _ := hD.out 19 (by kernel_rfl)
          have d20 : V 20 = _ := hD.out 20 (by kernel_rfl)
          have d23 : V 23 = _ := hD.out 23 (by kernel_rfl)
          refine su_eqt leaves30 (by omega) row30 eqg30 (LF.bytes32 D hDl) (LF.bytes32 D hDl) rfl (by rw [d19]; rfl) rfl d20 d23 (hK.out _ _ hS (Fr.refl _ _ _) ?_); rfl
        -- 25: t75 := Op.pick (tmp 69) (tmp 74) (const (Value.bool false))
        refine StepsOk.cons (i := 25) (fun V ws hS hD K hK => ?_) ?_
        · have d19 : V 19 = _ := hD.out 19 (by kernel_rfl)
          have d24 : V 24 = _ := hD.out 24 (by kernel_rfl)
          refine' sure_val (v := _) (w' := ws) rfl ?hr (hK.out _ _ hS (Fr.refl _ _ _) ?hy)
          case hr => go_simp; rfl
          case hy => rfl
        -- 26: t76 := Op.move (tmp 75)
        refine StepsOk.cons (i := 26) (fun V ws hS hD K hK => ?_) ?_
        · have d25 : V 25 = _ := hD.out 25 (by kernel_rfl)
          refine' sure_val (v := _) (w' := ws) rfl ?hr (hK.out _ _ hS (Fr.refl _ _ _) ?hy)
          case hr => go_simp; rfl
          case hy => rfl
        -- 27: t77 := Op.move (tmp 11)   GUARD 26
        refine StepsOk.cons (i := 27) (fun V ws hS hD K hK => ?_) ?_
        · have d26 : V 26 = _ := hD.out 26 (by kernel_rfl)
          refine' sure_val (v := _) (w' := ws) (by rw [d26]; rfl) ?hr (hK.out _ _ hS (Fr.refl _ _ _) ?hy)
          case hr => go_simp; rfl
          case hy => rfl
        -- 28: t78 := Op.pick (tmp 76) (tmp 77) (const (Value.bool false))
        refine StepsOk.cons (i := 28) (fun V ws hS hD K hK => ?_) ?_
        · have d26 : V 26 = _ := hD.out 26 (by kernel_rfl)
          have d27 : V 27 = _ := hD.out 27 (by kernel_rfl)
          refine' sure_val (v := _) (w' := ws) rfl ?hr (hK.out _ _ hS (Fr.refl _ _ _) ?hy)
          case hr => go_simp; rfl
          case hy => rfl
        -- 29: t79 := Op.move (tmp 78)
        refine StepsOk.cons (i := 29) (fun V ws hS hD K hK => ?_) ?_
        · have d28 : V 28 = _ := hD.out 28 (by kernel_rfl)
          refine' sure_val (v := _) (w' := ws) rfl ?hr (hK.out _ _ hS (Fr.refl _ _ _) ?hy)
          case hr => go_simp; rfl
          case hy => rfl
        -- 30: t80 := Op.load 30 (tmp 9)   GUARD 29
        refine StepsOk.cons (i := 30) (fun V ws hS hD K hK => ?_) ?_
        · have d29 : V 29 = _ := hD.out 29 (by kernel_rfl)
          refine su_load_blk (hB18.kept hS (.inr (Nat.zero_le _))) row30 (by rw [siz30, hsl]) (by rw [d29]; rfl) rfl rfl (hK.out _ _ hS (Fr.refl _ _ _) ?_); rfl
        -- 31: t81 := Op.build 61 #[(0, const (Value.int IntKind.i64 1)), (1, tmp 80)]   GUARD 29
        refine StepsOk.cons (i := 31) (fun V ws hS hD K hK => ?_) ?_
        · have d29 : V 29 = _ := hD.out 29 (by kernel_rfl)
          have d30 : V 30 = _ := hD.out 30 (by kernel_rfl)
          refine su_build (parts := [(0, _), (1, _)]) hbl (by rw [d29]; rfl) rfl (by show [(0, _), (1, V 30)] = _; rw [d30]; rfl) (hK.out _ _ hS (Fr.refl _ _ _) ?_); rfl
        -- 32: t82 := Op.build 61 #[]   GUARD 29
        refine StepsOk.cons (i := 32) (fun V ws hS hD K hK => ?_) ?_
        · have d29 : V 29 = _ := hD.out 29 (by kernel_rfl)
          refine su_build (parts := []) (show Tryd.prog.built 61 [] = some (hdrL 0 z32 z32 z32 0).toArray from built27z) (by rw [d29]; rfl) rfl rfl (hK.out _ _ hS (Fr.refl _ _ _) ?_); rfl
        -- 33: t83 := Op.call { callee := Callee.value (60), args := #[tmp 81, tmp 82], argTypes := #[61, 61] }   GUARD 29
        refine StepsOk.cons (i := 33) (fun V ws hS hD K hK => ?_) ?_
        · have d29 : V 29 = _ := hD.out 29 (by kernel_rfl)
          have d31 : V 31 = _ := hD.out 31 (by kernel_rfl)
          have d32 : V 32 = _ := hD.out 32 (by kernel_rfl)
          refine sure_call (f := 60) (args := #[_, _]) (by rw [d29]; rfl) (by go_simp) (c_Follows 1 D z32 z32 0 hDl hzl hzl 0 z32 z32 z32 0 hzl hzl hzl ((hk.kept hW18 (.inr (Nat.zero_le _))).kept hS (.inr (Nat.zero_le _)))) ?_
          rintro e w4 ⟨rfl, hF4⟩
          rw [HT.out]
          refine ⟨_, rfl, hK.out _ _ (hS.trans hF4) hF4 ?_⟩; rfl
        -- 34: t84 := Op.pick (tmp 79) (tmp 83) (const (Value.bool false))
        refine StepsOk.cons (i := 34) (fun V ws hS hD K hK => ?_) ?_
        · have d29 : V 29 = _ := hD.out 29 (by kernel_rfl)
          have d33 : V 33 = _ := hD.out 33 (by kernel_rfl)
          refine' sure_val (v := _) (w' := ws) rfl ?hr (hK.out _ _ hS (Fr.refl _ _ _) ?hy)
          case hr => go_simp; rfl
          case hy => rfl
        -- 35: t85 := Op.move (tmp 84)
        refine StepsOk.cons (i := 35) (fun V ws hS hD K hK => ?_) ?_
        · have d34 : V 34 = _ := hD.out 34 (by kernel_rfl)
          refine' sure_val (v := _) (w' := ws) rfl ?hr (hK.out _ _ hS (Fr.refl _ _ _) ?hy)
          case hr => go_simp; rfl
          case hy => rfl
        -- 36: t86 := Op.build 61 #[(0, const (Value.int IntKind.i64 1))]   GUARD 35
        refine StepsOk.cons (i := 36) (fun V ws hS hD K hK => ?_) ?_
        · have d35 : V 35 = _ := hD.out 35 (by kernel_rfl)
          refine su_build (parts := [(0, _)]) bltP1 (by rw [d35]; rfl) rfl rfl (hK.out _ _ hS (Fr.refl _ _ _) ?_); rfl
        -- 37: t87 := Op.build 61 #[]   GUARD 35
        refine StepsOk.cons (i := 37) (fun V ws hS hD K hK => ?_) ?_
        · have d35 : V 35 = _ := hD.out 35 (by kernel_rfl)
          refine su_build (parts := []) (show Tryd.prog.built 61 [] = some (hdrL 0 z32 z32 z32 0).toArray from built27z) (by rw [d35]; rfl) rfl rfl (hK.out _ _ hS (Fr.refl _ _ _) ?_); rfl
        -- 38: t88 := Op.call { callee := Callee.value (60), args := #[tmp 86, tmp 87], argTypes := #[61, 61] }   GUARD 35
        refine StepsOk.cons (i := 38) (fun V ws hS hD K hK => ?_) ?_
        · have d35 : V 35 = _ := hD.out 35 (by kernel_rfl)
          have d36 : V 36 = _ := hD.out 36 (by kernel_rfl)
          have d37 : V 37 = _ := hD.out 37 (by kernel_rfl)
          refine sure_call (f := 60) (args := #[_, _]) (by rw [d35]; rfl) (by go_simp) (c_Follows 1 z32 z32 z32 0 hzl hzl hzl 0 z32 z32 z32 0 hzl hzl hzl ((hk.kept hW18 (.inr (Nat.zero_le _))).kept hS (.inr (Nat.zero_le _)))) ?_
          rintro e w4 ⟨rfl, hF4⟩
          rw [HFF.out]
          refine ⟨_, rfl, hK.out _ _ (hS.trans hF4) hF4 ?_⟩; rfl
        -- 39: t89 := Op.unOp UnOp.not 4 (tmp 88)   GUARD 35
        refine StepsOk.cons (i := 39) (fun V ws hS hD K hK => ?_) ?_
        · have d35 : V 35 = _ := hD.out 35 (by kernel_rfl)
          have d38 : V 38 = _ := hD.out 38 (by kernel_rfl)
          refine' sure_val (v := _) (w' := ws) (by rw [d35]; rfl) ?hr (hK.out _ _ hS (Fr.refl _ _ _) ?hy)
          case hr => go_simp; rfl
          case hy => rfl
        -- 40: t90 := Op.pick (tmp 85) (tmp 89) (const (Value.bool false))
        refine StepsOk.cons (i := 40) (fun V ws hS hD K hK => ?_) ?_
        · have d35 : V 35 = _ := hD.out 35 (by kernel_rfl)
          have d39 : V 39 = _ := hD.out 39 (by kernel_rfl)
          refine' sure_val (v := _) (w' := ws) rfl ?hr (hK.out _ _ hS (Fr.refl _ _ _) ?hy)
          case hr => go_simp; rfl
          case hy => rfl
        -- 41: t0 := Op.assign (tmp 90)
        refine StepsOk.cons (i := 41) (fun V ws hS hD K hK => ?_) ?_
        · have d40 : V 40 = _ := hD.out 40 (by kernel_rfl)
          refine' sure_val (v := _) (w' := ws) rfl ?hr (hK.out _ _ hS (Fr.refl _ _ _) ?hy)
          case hr => go_simp; rfl
          case hy => rfl
        exact StepsOk.nil
      case hY =>
        repeat first
          | exact yKeep.nil
          | refine yKeep.eq ?_
          | refine yKeep.cons (fun i v w w' _ hE h => by obtain ⟨g, h1, h2⟩ := h; exact ⟨g, h1, h2.kept hE (.inr (Nat.zero_le _))⟩) ?_
          | refine yKeep.cons (fun i v w w' _ hE h => by obtain ⟨g, h1, h2, h3⟩ := h; exact ⟨g, h1, Nat.le_trans h2 hE.size, h3.kept hE (.inr (Nat.zero_le _))⟩) ?_
      case hend =>
        intro V ws hS hall
        have d41 : V 41 = _ := hall.out 41 (by kernel_rfl)
        rw [d41]
        clear d41 hall
        go_wp2_with fail
        go_ret
        exact ⟨rfl, hW18.trans hS⟩

end Go.Proofs.YtgndidjfjdaagaaDoor
