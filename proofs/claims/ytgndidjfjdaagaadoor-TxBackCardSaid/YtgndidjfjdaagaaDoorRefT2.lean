/-
  The reference's transactions: Read.
-/
import Derived.Test.YtgndidjfjdaagaaDoorRefT
import Derived.Test.YtgndidjfjdaagaaDoorTx6
set_option linter.unusedSimpArgs false
set_option linter.unusedVariables false
set_option linter.unnecessarySimpa false
namespace Go.Proofs.YtgndidjfjdaagaaDoor
open Go.RowKit

set_option maxHeartbeats 400000 in
theorem c_digest11 {w : World} {lo hi : Nat} {v : Value} {l : List UInt8} (t : Nat) (h : RdB w lo hi v l) (hl : l.length ≤ 1073741824) (ht : t + 32 ≤ l.length) :
    Calls Tryd.prog 112 #[v, .int .i64 t] w fun e w' => e = .returned (.agg (bs ((l.drop t).take 32))) ∧ Fr 0 0 w w' := by
  have h0 := h.fit
  obtain ⟨b, off, cap, rfl, hc1, hc2, hb1, hb2⟩ := h0.spot (by omega)
  go_enter Tryd.func112, Tryd.ntmps112
  have t1 := trivial
  go_wp2_with (first
    | (have _t := t1; refine wpl_alloc zer30 rfl rfl rfl ?_; intro g4 w1 hB4 hF1 hg4 hs4; clear t1 _t)
    | (refine wpl_alloc zer30 rfl rfl rfl ?_; intro g5 w2 hB5 hF2 hg5 hs5))
  have hB4' := hB4.kept hF2 (.inr (Nat.zero_le _))
  have h2 := (h0.kept hF1 (.inr (Nat.zero_le _))).kept hF2 (.inr (Nat.zero_le _))
  obtain ⟨src, hsrc⟩ : ∃ src, src = l.drop t := ⟨_, rfl⟩
  have hsl : 32 ≤ src.length := by rw [hsrc]; simp; omega
  have HS := Lib.hid hsrc
  clear hsrc
  go_loopw [6] (fun i wr => ∃ k : Nat, k ≤ 32 ∧ i = .int .i64 k ∧ Blk wr g5 ((fillB src k 32).map ub) 30 ∧ Fr g5 (g5 + 1) w2 wr) (fun i _ => 32 - (intOf i).toNat)
  case atStart => exact ⟨0, Nat.zero_le _, rfl, by rw [fillB_zero]; exact hB5, Fr.refl _ _ _⟩
  case round =>
    obtain ⟨k, hk, rfl, hB, hF⟩ := hrel
    by_cases hlt : k < 32
    · obtain ⟨x, hx⟩ : ∃ x, x = src[k] := ⟨_, rfl⟩
      have h3 := h2.kept hF (.inl (by omega))
      have hcell : wr.cell? ⟨b, off + (t + k), none⟩ = some (.int .u8 (x.toNat : Int)) := by
        rw [h3.cel (t + k) (by omega), hx]
        simp [HS.out, ub]
      have HX := Lib.hid hx
      clear hx h3 h2 h0 h hB4 hB5
      go_wp2_with (refine wpl_store_cell (v := ub x) hB (by simp [fillB_length src k 32 (by omega) hk]; omega) siz5 rfl rfl rfl rfl rfl rfl ?_; intro w3 hB3 hF3)
      go_roundw
      case rel => exact ⟨k + 1, by omega, by go_num, by rw [← fillB_set src k 32 (by omega) hlt, List.map_set, ← HX.out]; exact hB3, hF.trans hF3⟩
      case measure => simp [intOf]; omega
    · obtain rfl : k = 32 := by omega
      rw [fillB_all] at hB
      have hB4 := hB4'.kept hF (.inl (by omega))
      have hl32 : ((src.take 32).map ub).length = 32 := by simp; omega
      go_wp2_with (first
        | (refine wpl_load_blk hB row30 (by rw [siz30, hl32]) rfl rfl rfl ?_)
        | (refine wpl_store_blk hB4 (by rw [hl32]; rfl) (by rw [siz30, hl32]) (ub_oneCell _) rfl rfl rfl rfl ?_; intro w4 hB6 hF6))
      refine bodyPost_ret (v := .agg (bs (src.take 32))) (res_blk rfl rfl hB6 row30 (by rw [siz30, hl32])) rfl ⟨by rw [HS.out], ?_⟩
      exact Fr.of_new ((hF1.new.trans ((hF2.below (by have := hF1.size; omega) (by omega)).trans ((hF.below (by have := hF1.size; have := hF2.size; omega) (by omega))))).trans (hF6.below (by have := hF1.size; have := hF2.size; have := hF.size; omega) (by omega)))


theorem plc39 : placesOf Tryd.prog 39 = some [(0, 32), (32, 32), (64, 1), (65, 1), (66, 1), (67, 32)] := by kernel_rfl
theorem built39 (x : TxD) (hx : TxOk x) : Tryd.prog.built 39 [(0, .agg (bs x.p)), (1, .agg (bs x.t)), (2, .int .u64 (x.n : Int)), (3, .int .u64 (x.a : Int)), (4, .int .u64 (x.f : Int)), (5, .agg (bs x.s))] = some (txL x).toArray := by
  obtain ⟨h1, h2, h3, _⟩ := hx
  rw [built_struct _ zer39 plc39, show (Value.agg tx0.toArray).cells = ([(List.replicate 32 (0 : UInt8)).map ub, (List.replicate 32 (0 : UInt8)).map ub, [.int .u64 0], [.int .u64 0], [.int .u64 0], (List.replicate 32 (0 : UInt8)).map ub] : List (List Value)).flatten.toArray by simp [tx0, txL, txN, Value.cells],
    fill_seg (i := 0) (x.p.map ub) _ (by simp) (by simp [h1]) rfl (by simp [h1]), fill_seg (i := 1) (x.t.map ub) _ (by simp) (by simp [h1, h2]) rfl (by simp [h2]),
    fill_seg (i := 2) [.int .u64 (x.n : Int)] _ (by simp) (by simp [h1, h2]) rfl (by simp), fill_seg (i := 3) [.int .u64 (x.a : Int)] _ (by simp) (by simp [h1, h2]) rfl (by simp), fill_seg (i := 4) [.int .u64 (x.f : Int)] _ (by simp) (by simp [h1, h2]) rfl (by simp),
    fill_seg (i := 5) (x.s.map ub) _ (by simp) (by simp [h1, h2, h3]) rfl (by simp [h3])]
  simp [Instr.fill, txL, txN]

set_option maxRecDepth 100000 in
set_option maxHeartbeats 4000000 in
theorem c_refTRead {w : World} {lo hi : Nat} {v : Value} {l : List UInt8} (h : RdB w lo hi v l) (hl : l.length ≤ 1073741824) :
    Calls Tryd.prog 73 #[v] w fun e w' => e = .returned (.tuple #[.agg (txRead l).1.toArray, .int .i64 (txRead l).2]) ∧ Fr 0 0 w w' := by
  obtain ⟨a, cap, rfl, hc1, hc2, hc3⟩ := h.form
  have h1tx : ∀ v ∈ tx0, v.oneCell' = true := txL_one txZ
  have hz39 : (Tryd.prog.info? 39).map (·.size) = some tx0.length := by kernel_rfl
  rcases Nat.lt_trichotomy l.length 120 with hn | hn | hn
  · have hfin : txRead l = (tx0, 10) := by rw [txRead, if_pos hn]
    rw [hfin]
    go_enter Tryd.func73, Tryd.ntmps73
    go_wp2_with (first
      | (refine wpl_alloc zer39 rfl rfl rfl ?_; intro g4 w1 hB4 hF1 hg4 hs4)
      | (refine wpl_build (parts := []) built39z rfl rfl rfl ?_)
      | (refine wpl_store_blk hB4 rfl hz39 h1tx rfl rfl rfl rfl ?_; intro w4 hB6 hF6))
    refine bodyPost_ret (res_blk_tmp rfl rfl hB6 row39 hz39) rfl ⟨rfl, ?_⟩
    exact hF1.on hF6 hg4
  · have hXO := txOf_ok hn
    obtain ⟨X, hX⟩ : ∃ X, X = txOf l := ⟨_, rfl⟩
    have HXO : Hid (TxOk X) := (show TxOk X by rw [hX]; exact hXO)
    have HX := Lib.hid hX
    have HP : Hid (X.p = (l.drop 0).take 32) := Lib.hid (by rw [hX]; rfl)
    have HT : Hid (X.t = (l.drop 32).take 32) := Lib.hid (by rw [hX]; rfl)
    have HN : Hid (X.n = beN ((l.drop 64).take 8)) := Lib.hid (by rw [hX]; rfl)
    have HA : Hid (X.a = beN ((l.drop 72).take 8)) := Lib.hid (by rw [hX]; rfl)
    have HFE : Hid (X.f = beN ((l.drop 80).take 8)) := Lib.hid (by rw [hX]; rfl)
    have HS : Hid (X.s = (l.drop 88).take 32) := Lib.hid (by rw [hX]; rfl)
    have hXl := txL_length HXO.out
    have h120 := Lib.hid hn
    have hcap : (120 : Int) ≤ (cap : Int) := by omega
    rw [hn] at hc1 h ⊢
    clear hn hX hXO
    go_enter Tryd.func73, Tryd.ntmps73
    go_wp2_with (refine wpl_alloc zer39 rfl rfl rfl ?_; intro g2 w1 hB2 hF1 hg2 hs2)
    have hA1 := (h.kept hF1 (.inr (Nat.zero_le _))).fit
    refine' wp_region_sure (S := fun ws => Fr 0 0 w1 ws) (E := fun i w w' => match i with | 17 => Fr w1.heap.size w.heap.size w w' | _ => Fr 0 0 w w') (kill := fun i => if i = 17 then [16] else []) (Y := [yEq _, yEq _, yEq _, yEq _, yEq _, yW fun v ws => ∃ a c, v = .slice a 8 c ∧ RdB ws lo w1.heap.size (.slice a 8 c) ((l.drop 64).take 8), yEq _, yEq _, yW fun v ws => ∃ a c, v = .slice a 8 c ∧ RdB ws lo w1.heap.size (.slice a 8 c) ((l.drop 72).take 8), yEq _, yEq _, yW fun v ws => ∃ a c, v = .slice a 8 c ∧ RdB ws lo w1.heap.size (.slice a 8 c) ((l.drop 80).take 8), yEq _, yEq _, yEq _, yEq _, yW fun v ws => ∃ g, v = .pointer (some ⟨g, 0, none⟩) ∧ w1.heap.size ≤ g ∧ g < ws.heap.size ∧ Blk ws g tx0 39, fun v V ws => ∃ g, V 16 = .pointer (some ⟨g, 0, none⟩) ∧ w1.heap.size ≤ g ∧ Blk ws g (txL X) 39]) (F := _) (by kernel_rfl) (by kernel_rfl) (by kernel_rfl) (fun V => ?hF) ?hS ?hstep ?hY ?hend
    case hF => simp only [fillA, Act.put, List.setIfInBounds_toArray, List.set_cons_zero, List.set_cons_succ, Nat.reduceAdd, Nat.zero_add]; rfl
    case hS => exact Fr.drew _
    case hstep =>
      -- 0: t13 := Op.move (tmp 0)
      refine StepsOk.cons (i := 0) (fun V ws hS hD K hK => ?_) ?_
      · refine' sure_val (v := _) (w' := ws) rfl ?hr (hK.out _ _ hS (Fr.refl _ _ _) ?hy)
        case hr => go_simp; rfl
        case hy => rfl
      -- 1: t14 := Op.call { callee := Callee.value (112), args := #[tmp 13, const (Value.int IntKind.i64 0)], argTypes := #[24, 3] }
      refine StepsOk.cons (i := 1) (fun V ws hS hD K hK => ?_) ?_
      · have d0 : V 0 = _ := hD.out 0 (by kernel_rfl)
        refine sure_call (f := 112) (args := #[_, .int .i64 ((0 : Nat) : Int)]) rfl (by go_simp) (c_digest11 0 (hA1.kept hS (.inr (Nat.zero_le _))) hl (by rw [h120.out]; omega)) ?_
        rintro e w4 ⟨rfl, hF4⟩
        rw [← HP.out]
        refine ⟨_, rfl, hK.out _ _ (hS.trans hF4) hF4 ?_⟩; rfl
      -- 2: t15 := Op.move (tmp 0)
      refine StepsOk.cons (i := 2) (fun V ws hS hD K hK => ?_) ?_
      · refine' sure_val (v := _) (w' := ws) rfl ?hr (hK.out _ _ hS (Fr.refl _ _ _) ?hy)
        case hr => go_simp; rfl
        case hy => rfl
      -- 3: t16 := Op.call { callee := Callee.value (112), args := #[tmp 15, const (Value.int IntKind.i64 32)], argTypes := #[24, 3] }
      refine StepsOk.cons (i := 3) (fun V ws hS hD K hK => ?_) ?_
      · have d2 : V 2 = _ := hD.out 2 (by kernel_rfl)
        refine sure_call (f := 112) (args := #[_, .int .i64 ((32 : Nat) : Int)]) rfl (by go_simp) (c_digest11 32 (hA1.kept hS (.inr (Nat.zero_le _))) hl (by rw [h120.out]; omega)) ?_
        rintro e w4 ⟨rfl, hF4⟩
        rw [← HT.out]
        refine ⟨_, rfl, hK.out _ _ (hS.trans hF4) hF4 ?_⟩; rfl
      -- 4: t17 := Op.move (tmp 0)
      refine StepsOk.cons (i := 4) (fun V ws hS hD K hK => ?_) ?_
      · refine' sure_val (v := _) (w' := ws) rfl ?hr (hK.out _ _ hS (Fr.refl _ _ _) ?hy)
        case hr => go_simp; rfl
        case hy => rfl
      -- 5: t18 := Op.slice 24 (tmp 17) (some (const (Value.int IntKind.i64 64))) (some (const (Value.int IntKind.i64 72))) none
      refine StepsOk.cons (i := 5) (fun V ws hS hD K hK => ?_) ?_
      · have d4 : V 4 = _ := hD.out 4 (by kernel_rfl)
        refine su (wpl_slice_mid (I := 64) (J := 72) (hA1.kept hS (.inr (Nat.zero_le _))) (by omega) (by omega) rfl rfl d4 rfl rfl ?_)
        intro ad' cap' hr
        rw [List.drop_take] at hr
        exact hK.out _ _ hS (Fr.refl _ _ _) ⟨_, _, rfl, hr⟩
      -- 6: t19 := Op.call { callee := Callee.value (109), args := #[tmp 18], argTypes := #[24] }
      refine StepsOk.cons (i := 6) (fun V ws hS hD K hK => ?_) ?_
      · obtain ⟨ad', cap', e5, hr⟩ : ∃ a c, V 5 = _ ∧ _ := hD.out 5 (by kernel_rfl)
        refine sure_call (f := 109) (args := #[_]) rfl (by go_simp) (c_Number hr (by rw [List.length_take]; omega)) ?_
        rintro e w4 ⟨rfl, rfl⟩
        rw [show beN (List.take _ (List.drop _ l)) = _ from HN.out.symm]
        refine ⟨_, rfl, hK.out _ _ hS (Fr.refl _ _ _) ?_⟩; rfl
      -- 7: t20 := Op.move (tmp 0)
      refine StepsOk.cons (i := 7) (fun V ws hS hD K hK => ?_) ?_
      · refine' sure_val (v := _) (w' := ws) rfl ?hr (hK.out _ _ hS (Fr.refl _ _ _) ?hy)
        case hr => go_simp; rfl
        case hy => rfl
      -- 8: t21 := Op.slice 24 (tmp 20) (some (const (Value.int IntKind.i64 72))) (some (const (Value.int IntKind.i64 80))) none
      refine StepsOk.cons (i := 8) (fun V ws hS hD K hK => ?_) ?_
      · have d7 : V 7 = _ := hD.out 7 (by kernel_rfl)
        refine su (wpl_slice_mid (I := 72) (J := 80) (hA1.kept hS (.inr (Nat.zero_le _))) (by omega) (by omega) rfl rfl d7 rfl rfl ?_)
        intro ad' cap' hr
        rw [List.drop_take] at hr
        exact hK.out _ _ hS (Fr.refl _ _ _) ⟨_, _, rfl, hr⟩
      -- 9: t22 := Op.call { callee := Callee.value (109), args := #[tmp 21], argTypes := #[24] }
      refine StepsOk.cons (i := 9) (fun V ws hS hD K hK => ?_) ?_
      · obtain ⟨ad', cap', e8, hr⟩ : ∃ a c, V 8 = _ ∧ _ := hD.out 8 (by kernel_rfl)
        refine sure_call (f := 109) (args := #[_]) rfl (by go_simp) (c_Number hr (by rw [List.length_take]; omega)) ?_
        rintro e w4 ⟨rfl, rfl⟩
        rw [show beN (List.take _ (List.drop _ l)) = _ from HA.out.symm]
        refine ⟨_, rfl, hK.out _ _ hS (Fr.refl _ _ _) ?_⟩; rfl
      -- 10: t23 := Op.move (tmp 0)
      refine StepsOk.cons (i := 10) (fun V ws hS hD K hK => ?_) ?_
      · refine' sure_val (v := _) (w' := ws) rfl ?hr (hK.out _ _ hS (Fr.refl _ _ _) ?hy)
        case hr => go_simp; rfl
        case hy => rfl
      -- 11: t24 := Op.slice 24 (tmp 23) (some (const (Value.int IntKind.i64 80))) (some (const (Value.int IntKind.i64 88))) none
      refine StepsOk.cons (i := 11) (fun V ws hS hD K hK => ?_) ?_
      · have d10 : V 10 = _ := hD.out 10 (by kernel_rfl)
        refine su (wpl_slice_mid (I := 80) (J := 88) (hA1.kept hS (.inr (Nat.zero_le _))) (by omega) (by omega) rfl rfl d10 rfl rfl ?_)
        intro ad' cap' hr
        rw [List.drop_take] at hr
        exact hK.out _ _ hS (Fr.refl _ _ _) ⟨_, _, rfl, hr⟩
      -- 12: t25 := Op.call { callee := Callee.value (109), args := #[tmp 24], argTypes := #[24] }
      refine StepsOk.cons (i := 12) (fun V ws hS hD K hK => ?_) ?_
      · obtain ⟨ad', cap', e11, hr⟩ : ∃ a c, V 11 = _ ∧ _ := hD.out 11 (by kernel_rfl)
        refine sure_call (f := 109) (args := #[_]) rfl (by go_simp) (c_Number hr (by rw [List.length_take]; omega)) ?_
        rintro e w4 ⟨rfl, rfl⟩
        rw [show beN (List.take _ (List.drop _ l)) = _ from HFE.out.symm]
        refine ⟨_, rfl, hK.out _ _ hS (Fr.refl _ _ _) ?_⟩; rfl
      -- 13: t26 := Op.move (tmp 0)
      refine StepsOk.cons (i := 13) (fun V ws hS hD K hK => ?_) ?_
      · refine' sure_val (v := _) (w' := ws) rfl ?hr (hK.out _ _ hS (Fr.refl _ _ _) ?hy)
        case hr => go_simp; rfl
        case hy => rfl
      -- 14: t27 := Op.call { callee := Callee.value (112), args := #[tmp 26, const (Value.int IntKind.i64 88)], argTypes := #[24, 3] }
      refine StepsOk.cons (i := 14) (fun V ws hS hD K hK => ?_) ?_
      · have d13 : V 13 = _ := hD.out 13 (by kernel_rfl)
        refine sure_call (f := 112) (args := #[_, .int .i64 ((88 : Nat) : Int)]) rfl (by go_simp) (c_digest11 88 (hA1.kept hS (.inr (Nat.zero_le _))) hl (by rw [h120.out]; omega)) ?_
        rintro e w4 ⟨rfl, hF4⟩
        rw [← HS.out]
        refine ⟨_, rfl, hK.out _ _ (hS.trans hF4) hF4 ?_⟩; rfl
      -- 15: t28 := Op.build 39 #[(0, tmp 14), (1, tmp 16), (2, tmp 19), (3, tmp 22), (4, tmp 25), (5, tmp 27)]
      refine StepsOk.cons (i := 15) (fun V ws hS hD K hK => ?_) ?_
      · have d1 : V 1 = _ := hD.out 1 (by kernel_rfl)
        have d3 : V 3 = _ := hD.out 3 (by kernel_rfl)
        have d6 : V 6 = _ := hD.out 6 (by kernel_rfl)
        have d9 : V 9 = _ := hD.out 9 (by kernel_rfl)
        have d12 : V 12 = _ := hD.out 12 (by kernel_rfl)
        have d14 : V 14 = _ := hD.out 14 (by kernel_rfl)
        refine su_build (parts := [(0, _), (1, _), (2, _), (3, _), (4, _), (5, _)]) (built39 X HXO.out) rfl rfl (by show [(0, V 1), (1, V 3), (2, V 6), (3, V 9), (4, V 12), (5, V 14)] = _; rw [d1, d3, d6, d9, d12, d14]) (hK.out _ _ hS (Fr.refl _ _ _) ?_); rfl
      -- 16: t4 := Op.alloc 39
      refine StepsOk.cons (i := 16) (fun V ws hS hD K hK => ?_) ?_
      · refine su (wpl_alloc zer39 rfl rfl rfl ?_)
        intro g8 w8 hB8 hF8 hg8 hs8
        exact hK.out _ _ (hS.trans hF8) hF8 ⟨g8, rfl, Nat.le_trans hS.size hg8, hs8, hB8⟩
      -- 17: tNone := Op.store 39 (tmp 4) (tmp 28)
      refine StepsOk.cons (i := 17) (fun V ws hS hD K hK => ?_) ?_
      · have d15 : V 15 = _ := hD.out 15 (by kernel_rfl)
        obtain ⟨g8, d16, hg8, hs8, hB8⟩ : ∃ g, V 16 = _ ∧ _ ∧ _ ∧ _ := hD.out 16 (by kernel_rfl)
        refine su (wpl_store_blk hB8 (by rw [hXl]; rfl) (by rw [siz39, hXl]) (txL_one X) rfl rfl d16 d15 ?_)
        intro w9 hB9 hF9
        exact hK.out _ _ (hS.on hF9 hg8) (hF9.mono (.inl hg8) (.inl (by omega))) ⟨g8, d16, hg8, hB9⟩
      exact StepsOk.nil
    case hY =>
      have hE : ∀ (i : Nat) (w w' : World), i ≠ 17 → (match i with | 17 => Fr w1.heap.size w.heap.size w w' | _ => Fr 0 0 w w') → Fr 0 0 w w' := by
        intro i w w' hi h
        revert h
        split
        · exact absurd rfl hi
        · exact id
      have hsl : ∀ (i : Nat) (v : Value) (k : Nat) (w w' : World), (match i with | 17 => Fr w1.heap.size w.heap.size w w' | _ => Fr 0 0 w w') → (∃ a c, v = .slice a 8 c ∧ RdB w lo w1.heap.size (.slice a 8 c) ((l.drop k).take 8)) → (∃ a c, v = .slice a 8 c ∧ RdB w' lo w1.heap.size (.slice a 8 c) ((l.drop k).take 8)) := by
        intro i v k w w' hEi hy
        obtain ⟨a, c, h1, h2⟩ := hy
        by_cases hi : i = 17
        · subst hi
          exact ⟨a, c, h1, h2.kept hEi (.inl (Nat.le_refl _))⟩
        · exact ⟨a, c, h1, h2.kept (hE i w w' hi hEi) (.inr (Nat.zero_le _))⟩
      refine yKeep.eq (yKeep.eq (yKeep.eq (yKeep.eq (yKeep.eq (yKeep.cons (fun i v w w' _ h k => hsl i v 64 w w' h k) (yKeep.eq (yKeep.eq (yKeep.cons (fun i v w w' _ h k => hsl i v 72 w w' h k) (yKeep.eq (yKeep.eq (yKeep.cons (fun i v w w' _ h k => hsl i v 80 w w' h k) (yKeep.eq (yKeep.eq (yKeep.eq (yKeep.eq (yKeep.cons ?_ (yKeep.link ?_ ?_ yKeep.nil)))))))))))))))))
      · intro i v w w' hk hEi hy
        by_cases hi : i = 17
        · subst hi
          exact mayNot hk (by kernel_rfl)
        · obtain ⟨g, h1, h2, h3, h4⟩ := hy
          have hF := hE i w w' hi hEi
          exact ⟨g, h1, h2, Nat.lt_of_lt_of_le h3 hF.size, h4.kept hF (.inr (Nat.zero_le _))⟩
      · intro i v V w w' hk hEi hy
        by_cases hi : i = 17
        · subst hi
          exact mayNot hk (by kernel_rfl)
        · obtain ⟨g, h1, h2, h4⟩ := hy
          exact ⟨g, h1, h2, h4.kept (hE i w w' hi hEi) (.inr (Nat.zero_le _))⟩
      · intro v V V' w hV hy
        obtain ⟨g, h1, h2⟩ := hy
        exact ⟨g, (hV 16 (by kernel_rfl)).symm.trans h1, h2⟩
    case hend =>
      intro V ws hS hall
      obtain ⟨g, d16, hg, hB⟩ : ∃ g, V 16 = _ ∧ _ ∧ _ := hall.out 17 (by kernel_rfl)
      rw [d16]
      clear d16 hall
      have hBr := hB2.kept hS (.inr (Nat.zero_le _))
      have hW := hF1.trans hS
      by_cases hok : X.s = signH X
      · have HOK : Hid (txRead l = (txL X, 0)) := (show _ = _ by rw [txRead, if_neg (by rw [h120.out]; omega), if_neg (by rw [h120.out]; omega), if_pos (by rw [← HX.out]; exact hok), HX.out])
        have HC := Lib.hid hok
        clear hok
        go_wp2_with (first
          | (refine wpl_load_blk hB row39 (by rw [siz39, hXl]) rfl rfl rfl ?_)
          | (go_at_call 45; refine (c_refTCheck X HXO.out).mono ?_; rintro e w11 ⟨rfl, hF11⟩; rw [if_pos HC.out]; have hB11 := hB.kept hF11 (.inr (Nat.zero_le _)); have hB12 := hBr.kept hF11 (.inr (Nat.zero_le _)))
          | (refine wpl_load_blk hB11 row39 (by rw [siz39, hXl]) rfl rfl rfl ?_)
          | (refine wpl_store_blk hB12 (by rw [hXl]; rfl) (by rw [siz39, hXl]) (txL_one X) rfl rfl rfl rfl ?_; intro w12 hB13 hF12))
        refine bodyPost_ret (res_blk_tmp rfl rfl hB13 row39 (by rw [siz39, hXl])) rfl ⟨by rw [HOK.out]; rfl, ?_⟩
        exact (hW.trans hF11).on hF12 hg2
      · have HOK : Hid (txRead l = (tx0, 110)) := (show _ = _ by rw [txRead, if_neg (by rw [h120.out]; omega), if_neg (by rw [h120.out]; omega), if_neg (by rw [← HX.out]; exact hok)])
        have HC := Lib.hid hok
        clear hok
        go_wp2_with (first
          | (refine wpl_load_blk hB row39 (by rw [siz39, hXl]) rfl rfl rfl ?_)
          | (go_at_call 45; refine (c_refTCheck X HXO.out).mono ?_; rintro e w11 ⟨rfl, hF11⟩; rw [if_neg HC.out]; have hB12 := hBr.kept hF11 (.inr (Nat.zero_le _)))
          | (refine wpl_build (parts := []) built39z rfl rfl rfl ?_)
          | (refine wpl_store_blk hB12 rfl hz39 h1tx rfl rfl rfl rfl ?_; intro w12 hB13 hF12))
        refine bodyPost_ret (res_blk_tmp rfl rfl hB13 row39 hz39) rfl ⟨by rw [HOK.out]; rfl, ?_⟩
        exact (hW.trans hF11).on hF12 hg2
  · have hfin : txRead l = (tx0, 11) := by rw [txRead, if_neg (by omega), if_pos hn]
    rw [hfin]
    go_enter Tryd.func73, Tryd.ntmps73
    go_wp2_with (first
      | (refine wpl_alloc zer39 rfl rfl rfl ?_; intro g4 w1 hB4 hF1 hg4 hs4)
      | (refine wpl_build (parts := []) built39z rfl rfl rfl ?_)
      | (refine wpl_store_blk hB4 rfl hz39 h1tx rfl rfl rfl rfl ?_; intro w4 hB6 hF6))
    refine bodyPost_ret (res_blk_tmp rfl rfl hB6 row39 hz39) rfl ⟨rfl, ?_⟩
    exact hF1.on hF6 hg4

end Go.Proofs.YtgndidjfjdaagaaDoor
