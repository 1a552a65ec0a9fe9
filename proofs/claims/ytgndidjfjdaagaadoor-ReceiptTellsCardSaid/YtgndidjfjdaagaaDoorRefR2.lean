/-
  The reference's receipts: Read.
-/
import Derived.Test.YtgndidjfjdaagaaDoorRefR
import Derived.Test.YtgndidjfjdaagaaDoorSure
set_option linter.unusedSimpArgs false
set_option linter.unusedVariables false
set_option linter.unnecessarySimpa false
namespace Go.Proofs.YtgndidjfjdaagaaDoor
open Go.RowKit

theorem plc43 : placesOf Tryd.prog 56 = some [(0, 1), (1, 32), (33, 1)] := by kernel_rfl
theorem built43k (k : UInt8) (c : Nat) : Tryd.prog.built 56 [(0, ub k), (2, .int .i64 c)] = some (recL k (List.replicate 32 0) c).toArray := by
  rw [built_struct _ zer43 plc43, show (Value.agg rec0.toArray).cells = ([[ub 0], (List.replicate 32 (0 : UInt8)).map ub, [.int .i64 0]] : List (List Value)).flatten.toArray by simp [rec0, recL, Value.cells],
    fill_seg (i := 0) [ub k] _ (by simp) (by simp) rfl (by simp), fill_seg (i := 2) [.int .i64 c] _ (by simp) (by simp) rfl (by simp)]
  simp [Instr.fill, recL]

set_option maxRecDepth 100000 in
set_option maxHeartbeats 2000000 in
theorem c_refRRead {w : World} {lo hi : Nat} {v : Value} {l : List UInt8} (h : RdB w lo hi v l) (hl : l.length ≤ 1073741824) :
    Calls Tryd.prog 69 #[v] w fun e w' => e = .returned (.tuple #[.agg (recRead l).1.toArray, .int .i64 (recRead l).2]) ∧ Fr 0 0 w w' := by
  obtain ⟨a, cap, rfl, hc1, hc2, hc3⟩ := h.form
  rcases Nat.lt_trichotomy l.length 35 with hn | hn | hn
  · have hfin : recRead l = (rec0, 10) := by rw [recRead, if_pos hn]
    rw [hfin]
    go_enter Tryd.func69, Tryd.ntmps69
    go_wp2_with (first
      | (refine wpl_alloc zer43 rfl rfl rfl ?_; intro g4 w1 hB4 hF1 hg4 hs4)
      | (refine wpl_build (parts := []) built43z rfl rfl rfl ?_)
      | (refine wpl_store_blk hB4 rfl siz43 (recL_one _ _ _) rfl rfl rfl rfl ?_; intro w4 hB6 hF6))
    refine bodyPost_ret (res_blk_tmp rfl rfl hB6 row43 siz43) rfl ⟨rfl, ?_⟩
    exact hF1.on hF6 hg4
  · obtain ⟨b, off, cap, e, _⟩ := h.spot (by omega)
    cases e
    obtain ⟨k, hk⟩ : ∃ k, k = l.getD 0 0 := ⟨_, rfl⟩
    have hcell : w.cell? ⟨b, off, none⟩ = some (.int .u8 (k.toNat : Int)) := by
      have := h.cel 0 (by omega)
      rw [hk, List.getD_eq_getElem?_getD, List.getElem?_eq_getElem (by omega)]
      exact this
    obtain ⟨c, hc⟩ : ∃ c, c = beN (l.drop 33) := ⟨_, rfl⟩
    have hcl : c < 65536 := by
      have := beN_lt (l.drop 33)
      rw [List.length_drop, hn] at this
      omega
    have hfin : recRead l = if recChk k c = 0 then (recL k ((l.drop 1).take 32) c, 0) else (rec0, 8) := by
      rw [recRead, if_neg (by omega), if_neg (by omega), ← hk, ← hc]
    have HFIN := Lib.hid hfin
    have HC := Lib.hid hc
    have h35 := Lib.hid hn
    have HCW : Hid (IntKind.i64.wrap (c : Int) = c) := Lib.hid (IntWalk.i64_in _ (by omega))
    rw [hn] at hc1 h ⊢
    have HCELL := Lib.hid hcell
    have hbl := built43k k c
    clear hn hfin hk hc hcell
    go_enter Tryd.func69, Tryd.ntmps69
    go_wp2_with (refine wpl_alloc zer43 rfl rfl rfl ?_; intro g2 w1 hB2 hF1 hg2 hs2)
    have HCELL1 := Lib.hid (hF1.cell HCELL.out (.inr (Nat.zero_le _)))
    have hA1 := (h.kept hF1 (.inr (Nat.zero_le _))).fit
    refine' wp_region_sure (S := fun ws => Fr 0 0 w1 ws) (E := fun i w w' => match i with | 9 => Fr w1.heap.size w.heap.size w w' | _ => Fr 0 0 w w') (kill := fun i => if i = 9 then [8] else []) (Y := [yEq _, yEq _, yEq _, yEq _, yW fun v ws => ∃ a c, v = .slice a 2 c ∧ RdB ws lo w1.heap.size (.slice a 2 c) (l.drop 33), yEq _, yEq _, yEq _, yW fun v ws => ∃ g, v = .pointer (some ⟨g, 0, none⟩) ∧ w1.heap.size ≤ g ∧ g < ws.heap.size ∧ Blk ws g rec0 56, fun v V ws => ∃ g, V 8 = .pointer (some ⟨g, 0, none⟩) ∧ w1.heap.size ≤ g ∧ Blk ws g (recL k (List.replicate 32 0) c) 56]) (F := _) (by kernel_rfl) (by kernel_rfl) (by kernel_rfl) (fun V => ?hF) ?hS ?hstep ?hY ?hend
    case hF => simp only [fillA, Act.put, List.setIfInBounds_toArray, List.set_cons_zero, List.set_cons_succ, Nat.reduceAdd, Nat.zero_add]; rfl
    case hS => exact Fr.drew _
    case hstep =>
      -- 0: t14 := Op.move (tmp 0)
      refine StepsOk.cons (i := 0) (fun V ws hS hD K hK => ?_) ?_
      · refine' sure_val (v := _) (w' := ws) rfl ?hr (hK.out _ _ hS (Fr.refl _ _ _) ?hy)
        case hr => go_simp; rfl
        case hy => rfl
      -- 1: t15 := Op.indexAddr 24 (tmp 14) (const (Value.int IntKind.i64 0))
      refine StepsOk.cons (i := 1) (fun V ws hS hD K hK => ?_) ?_
      · have d0 : V 0 = _ := hD.out 0 (by kernel_rfl)
        refine' sure_val (v := _) (w' := ws) rfl ?hr (hK.out _ _ hS (Fr.refl _ _ _) ?hy)
        case hr => go_simp; rfl
        case hy => rfl
      -- 2: t16 := Op.load 5 (tmp 15)
      refine StepsOk.cons (i := 2) (fun V ws hS hD K hK => ?_) ?_
      · have d1 : V 1 = _ := hD.out 1 (by kernel_rfl)
        have hcell := hS.cell HCELL1.out (.inr (Nat.zero_le _))
        refine' sure_val (v := _) (w' := ws) rfl ?hr (hK.out _ _ hS (Fr.refl _ _ _) ?hy)
        case hr => go_simp; rfl
        case hy => rfl
      -- 3: t17 := Op.move (tmp 0)
      refine StepsOk.cons (i := 3) (fun V ws hS hD K hK => ?_) ?_
      · refine' sure_val (v := _) (w' := ws) rfl ?hr (hK.out _ _ hS (Fr.refl _ _ _) ?hy)
        case hr => go_simp; rfl
        case hy => rfl
      -- 4: t18 := Op.slice 24 (tmp 17) (some (const (Value.int IntKind.i64 33))) none none
      refine StepsOk.cons (i := 4) (fun V ws hS hD K hK => ?_) ?_
      · have d3 : V 3 = _ := hD.out 3 (by kernel_rfl)
        refine su (wpl_slice_from (I := 33) (hA1.kept hS (.inr (Nat.zero_le _))) (by omega) rfl rfl d3 rfl ?_)
        intro ad' cap' hr
        exact hK.out _ _ hS (Fr.refl _ _ _) ⟨_, _, rfl, hr⟩
      -- 5: t19 := Op.call { callee := Callee.value (109), args := #[tmp 18], argTypes := #[24] }
      refine StepsOk.cons (i := 5) (fun V ws hS hD K hK => ?_) ?_
      · obtain ⟨ad', cap', d4, hr⟩ : ∃ a c, V 4 = _ ∧ _ := hD.out 4 (by kernel_rfl)
        refine sure_call (f := 109) (args := #[_]) rfl (by go_simp) (c_Number (l := l.drop 33) hr (by rw [List.length_drop, h35.out]; omega)) ?_
        rintro e w4 ⟨rfl, rfl⟩
        rw [← HC.out]
        refine ⟨_, rfl, hK.out _ _ hS (Fr.refl _ _ _) ?_⟩; rfl
      -- 6: t20 := Op.convert 37 43 (tmp 19)
      refine StepsOk.cons (i := 6) (fun V ws hS hD K hK => ?_) ?_
      · have d5 : V 5 = _ := hD.out 5 (by kernel_rfl)
        have hcw := HCW.out
        refine' sure_val (v := .int .i64 c) (w' := ws) rfl ?hr (hK.out _ _ hS (Fr.refl _ _ _) ?hy)
        case hr => go_simp
        case hy => rfl
      -- 7: t21 := Op.build 56 #[(0, tmp 16), (2, tmp 20)]
      refine StepsOk.cons (i := 7) (fun V ws hS hD K hK => ?_) ?_
      · have d2 : V 2 = _ := hD.out 2 (by kernel_rfl)
        have d6 : V 6 = _ := hD.out 6 (by kernel_rfl)
        refine su_build (parts := [(0, _), (2, _)]) hbl rfl rfl (by show [(0, V 2), (2, V 6)] = _; rw [d2, d6]; rfl) (hK.out _ _ hS (Fr.refl _ _ _) ?_); rfl
      -- 8: t4 := Op.alloc 56
      refine StepsOk.cons (i := 8) (fun V ws hS hD K hK => ?_) ?_
      · refine su (wpl_alloc zer43 rfl rfl rfl ?_)
        intro g8 w8 hB8 hF8 hg8 hs8
        exact hK.out _ _ (hS.trans hF8) hF8 ⟨g8, rfl, Nat.le_trans hS.size hg8, hs8, hB8⟩
      -- 9: tNone := Op.store 56 (tmp 4) (tmp 21)
      refine StepsOk.cons (i := 9) (fun V ws hS hD K hK => ?_) ?_
      · have d7 : V 7 = _ := hD.out 7 (by kernel_rfl)
        obtain ⟨g8, d8, hg8, hs8, hB8⟩ : ∃ g, V 8 = _ ∧ _ ∧ _ ∧ _ := hD.out 8 (by kernel_rfl)
        refine su (wpl_store_blk hB8 (by rw [recL_length _ _ _ (by simp)]; rfl) (by rw [siz43, recL_length _ _ _ (by simp)]) (recL_one _ _ _) rfl rfl d8 d7 ?_)
        intro w9 hB9 hF9
        exact hK.out _ _ (hS.on hF9 hg8) (hF9.mono (.inl hg8) (.inl (by omega))) ⟨g8, d8, hg8, hB9⟩
      exact StepsOk.nil
    case hY =>
      have hE : ∀ (i : Nat) (w w' : World), i ≠ 9 → (match i with | 9 => Fr w1.heap.size w.heap.size w w' | _ => Fr 0 0 w w') → Fr 0 0 w w' := by
        intro i w w' hi h
        revert h
        split
        · exact absurd rfl hi
        · exact id
      refine yKeep.eq (yKeep.eq (yKeep.eq (yKeep.eq (yKeep.cons ?_ (yKeep.eq (yKeep.eq (yKeep.eq (yKeep.cons ?_ (yKeep.link ?_ ?_ yKeep.nil)))))))))
      · intro i v w w' hk hEi hy
        obtain ⟨a, c, h1, h2⟩ := hy
        by_cases hi : i = 9
        · subst hi
          exact ⟨a, c, h1, h2.kept hEi (.inl (Nat.le_refl _))⟩
        · exact ⟨a, c, h1, h2.kept (hE i w w' hi hEi) (.inr (Nat.zero_le _))⟩
      · intro i v w w' hk hEi hy
        by_cases hi : i = 9
        · subst hi
          exact mayNot hk (by kernel_rfl)
        · obtain ⟨g, h1, h2, h3, h4⟩ := hy
          have hF := hE i w w' hi hEi
          exact ⟨g, h1, h2, Nat.lt_of_lt_of_le h3 hF.size, h4.kept hF (.inr (Nat.zero_le _))⟩
      · intro i v V w w' hk hEi hy
        by_cases hi : i = 9
        · subst hi
          exact mayNot hk (by kernel_rfl)
        · obtain ⟨g, h1, h2, h4⟩ := hy
          exact ⟨g, h1, h2, h4.kept (hE i w w' hi hEi) (.inr (Nat.zero_le _))⟩
      · intro v V V' w hV hy
        obtain ⟨g, h1, h2⟩ := hy
        exact ⟨g, (hV 8 (by kernel_rfl)).symm.trans h1, h2⟩
    case hend =>
      intro V ws hS hall
      obtain ⟨g, d8, hg, hB⟩ : ∃ g, V 8 = _ ∧ _ ∧ _ := hall.out 9 (by kernel_rfl)
      rw [d8]
      clear d8 hall
      have hBr := hB2.kept hS (.inr (Nat.zero_le _))
      have hAs := hA1.kept hS (.inr (Nat.zero_le _))
      obtain ⟨src, hsrc⟩ : ∃ src, src = l.drop 1 := ⟨_, rfl⟩
      have hsl : 32 ≤ src.length := by rw [hsrc, List.length_drop, h35.out]; omega
      have HS := Lib.hid hsrc
      have zg := hB.lt
      have zr := hB2.lt
      clear hsrc
      go_wp2_with fail
      go_loopw [5] (fun i wr => ∃ t : Nat, t ≤ 32 ∧ i = .int .i64 t ∧ Blk wr g (ub k :: ((fillB src t 32).map ub ++ [.int .i64 c])) 56 ∧ Fr g (g + 1) ws wr) (fun i _ => 32 - (intOf i).toNat)
      case atStart => exact ⟨0, Nat.zero_le _, rfl, by rw [fillB_zero]; exact hB, Fr.refl _ _ _⟩
      case round =>
        obtain ⟨t, ht, rfl, hBt, hFt⟩ := hrel
        by_cases hlt : t < 32
        · obtain ⟨x, hx⟩ : ∃ x, x = src[t] := ⟨_, rfl⟩
          have hA3 := hAs.kept hFt (.inl hg)
          have hcell : wr.cell? ⟨b, off + (t + 1), none⟩ = some (.int .u8 (x.toNat : Int)) := by
            rw [hA3.cel (t + 1) (by rw [h35.out]; omega), hx]
            simp [HS.out, ub, Nat.add_comm]
          have hcell' : wr.cell? ⟨b, off + (1 + t), none⟩ = some (.int .u8 (x.toNat : Int)) := by rw [Nat.add_comm 1 t]; exact hcell
          have HX := Lib.hid hx
          clear hx hA3 hAs hA1 h hB hB2 hBr
          go_wp2_with (refine wpl_store_cell (off := 1 + t) (v := ub x) hBt (by simp [fillB_length src t 32 (by omega) ht]; omega) siz5' rfl rfl rfl rfl rfl rfl ?_; intro w3 hB3 hF3)
          go_roundw
          case rel =>
            refine ⟨t + 1, by omega, by go_num, ?_, hFt.trans hF3⟩
            rw [Nat.add_comm 1 t, List.set_cons_succ, List.set_append_left _ _ (by rw [List.length_map, fillB_length src t 32 (by omega) ht]; omega), ← List.map_set, HX.out, fillB_set src t 32 (by omega) hlt] at hB3
            exact hB3
          case measure => simp [intOf]; omega
        · obtain rfl : t = 32 := by omega
          rw [fillB_all] at hBt
          obtain ⟨d, hd⟩ : ∃ d, d = src.take 32 := ⟨_, rfl⟩
          have hdl : d.length = 32 := by rw [hd, List.length_take]; omega
          have hd' : d = (l.drop 1).take 32 := by rw [hd, HS.out]
          rw [← hd] at hBt
          rw [← hd'] at HFIN
          have HDL := Lib.hid hdl
          have hBd : Blk wr g (recL k d c) 56 := hBt
          have hBw := hBr.kept hFt (.inl (by omega))
          have hW : Fr 0 0 w wr := (hF1.trans hS).on hFt (by have := hF1.size; omega)
          clear hd hdl hd' hBt hBr
          by_cases hok : recChk k c = 0
          · have HOK : Hid (decide (recChk k c = 0) = true) := Lib.hid (decide_eq_true hok)
            replace HFIN : Hid (recRead l = (recL k d c, 0)) := by have := HFIN.out; rw [if_pos hok] at this; exact this
            clear hok
            go_wp2_with (first
              | (refine wpl_load_blk hBd row43 (by rw [siz43, recL_length _ _ _ HDL.out]) rfl rfl rfl ?_)
              | (go_at_call 107; refine (c_refRMay k d c HDL.out).mono ?_; rintro e w8 ⟨rfl, hF11⟩; rw [HOK.out]; have hB11 := hBd.kept hF11 (.inr (Nat.zero_le _)); have hB12 := hBw.kept hF11 (.inr (Nat.zero_le _)))
              | (refine wpl_load_blk hB11 row43 (by rw [siz43, recL_length _ _ _ HDL.out]) rfl rfl rfl ?_)
              | (refine wpl_store_blk hB12 (by rw [recL_length _ _ _ HDL.out]; rfl) (by rw [siz43, recL_length _ _ _ HDL.out]) (recL_one _ _ _) rfl rfl rfl rfl ?_; intro w9 hB13 hF13))
            refine bodyPost_ret (res_blk_tmp rfl rfl hB13 row43 (by rw [siz43, recL_length _ _ _ HDL.out])) rfl ⟨by rw [HFIN.out]; rfl, ?_⟩
            exact (hW.trans hF11).on hF13 hg2
          · have HOK : Hid (decide (recChk k c = 0) = false) := Lib.hid (decide_eq_false hok)
            replace HFIN : Hid (recRead l = (rec0, 8)) := by have := HFIN.out; rw [if_neg hok] at this; exact this
            clear hok
            go_wp2_with (first
              | (refine wpl_load_blk hBd row43 (by rw [siz43, recL_length _ _ _ HDL.out]) rfl rfl rfl ?_)
              | (go_at_call 107; refine (c_refRMay k d c HDL.out).mono ?_; rintro e w8 ⟨rfl, hF11⟩; rw [HOK.out]; have hB12 := hBw.kept hF11 (.inr (Nat.zero_le _)))
              | (refine wpl_build (parts := []) built43z rfl rfl rfl ?_)
              | (refine wpl_store_blk hB12 rfl siz43 (recL_one _ _ _) rfl rfl rfl rfl ?_; intro w9 hB13 hF13))
            refine bodyPost_ret (res_blk_tmp rfl rfl hB13 row43 siz43) rfl ⟨by rw [HFIN.out]; rfl, ?_⟩
            exact (hW.trans hF11).on hF13 hg2
  · have hfin : recRead l = (rec0, 11) := by rw [recRead, if_neg (by omega), if_pos hn]
    rw [hfin]
    go_enter Tryd.func69, Tryd.ntmps69
    go_wp2_with (first
      | (refine wpl_alloc zer43 rfl rfl rfl ?_; intro g4 w1 hB4 hF1 hg4 hs4)
      | (refine wpl_build (parts := []) built43z rfl rfl rfl ?_)
      | (refine wpl_store_blk hB4 rfl siz43 (recL_one _ _ _) rfl rfl rfl rfl ?_; intro w4 hB6 hF6))
    refine bodyPost_ret (res_blk_tmp rfl rfl hB6 row43 siz43) rfl ⟨rfl, ?_⟩
    exact hF1.on hF6 hg4

end Go.Proofs.YtgndidjfjdaagaaDoor
