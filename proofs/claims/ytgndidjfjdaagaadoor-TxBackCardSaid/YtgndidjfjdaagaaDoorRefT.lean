/-
  The reference's transactions: Body, Sign, Check, From, Bytes, Id.
-/
import Derived.Test.YtgndidjfjdaagaaDoorTx4
import Derived.Test.YtgndidjfjdaagaaDoorRef03
set_option linter.unusedSimpArgs false
set_option linter.unusedVariables false
set_option linter.unnecessarySimpa false
namespace Go.Proofs.YtgndidjfjdaagaaDoor
open Go.RowKit

set_option maxRecDepth 100000 in
set_option maxHeartbeats 4000000 in
theorem c_refTBody {w : World} (x : TxD) (hx : TxOk x) : Calls Tryd.prog 43 #[.agg (txL x).toArray] w fun e w' => ∃ v', e = .returned v' ∧ OwB w' w.heap.size w'.heap.size v' (bodyB x) ∧ Fr 0 0 w w' := by
  obtain ⟨h1, h2, h3, h4, h5, h6⟩ := hx
  have hpm : (x.p.map ub).length = 32 := by rw [List.length_map, h1]
  have htm : (x.t.map ub).length = 32 := by rw [List.length_map, h2]
  have hB0 : Hid (bodyB x = x.p ++ x.t ++ beB 8 x.n ++ beB 8 x.a ++ beB 8 x.f) := (show _ = _ by simp [bodyB])
  have hAt : (x.p.map ub).length = 32 := hpm
  have H1 := Lib.hid h1
  have H2 := Lib.hid h2
  have eP : Hid (txL x = [] ++ x.p.map ub ++ (x.t.map ub ++ (txN x ++ x.s.map ub))) := (show _ = _ by simp [txL])
  have eT : Hid (txL x = x.p.map ub ++ x.t.map ub ++ (txN x ++ x.s.map ub)) := (show _ = _ by simp [txL])
  have e8 : Hid (∀ n, (beB 8 n).length = 8) := fun n => beB_length 8 n
  clear h1 h2 h3
  have t1 := trivial
  have t2 := trivial
  have t3 := trivial
  have t4 := trivial
  have t5 := trivial
  have t6 := trivial
  go_enter Tryd.func43, Tryd.ntmps43
  go_wp2_with (first
    | (refine wpl_box (txL x) rfl rfl rfl rfl ?_; intro g1 w1 hB1 hF1 hg1 hgs1;
        have zg := hB1.lt;
        have hRp : RdB w1 g1 (g1 + 1) (.slice (some ⟨g1, 0, none⟩) 32 32) x.p := Blk.rd (by rw [← eP.out]; exact hB1) rfl H1.out (Nat.le_refl _) (by omega))
    | (have _t := t1; at_builtin; refine wpl_append (OwB.nil _ w1.heap.size w1.heap.size) hRp (by rw [H1.out]; simp) rfl rfl rfl rfl ?_; intro v2 w2 lo2 hi2 hO2 hF2 hz2; rw [List.nil_append] at hO2; have z2 := hF2.size; have hB2 := hB1.kept hF2 (.inl (by omega)); have hRt : RdB w2 g1 (g1 + 1) (.slice (some ⟨g1, 32, none⟩) 32 32) x.t := Blk.rd (by rw [← eT.out]; exact hB2) hpm H2.out (Nat.le_refl _) (by omega); clear t1 _t)
    | (have _t := t2; at_builtin; refine wpl_append hO2 hRt (by rw [H1.out, H2.out]; omega) rfl rfl rfl rfl ?_; intro v3 w3 lo3 hi3 hO3 hF3 hz3; have z3 := hF3.size; have hB3 := hB2.kept hF3 (.inl (by omega));
        have c64 : w3.cell? ⟨g1, 64, none⟩ = some (.int .u64 (x.n : Int)) := (by rw [hB3.cell, txL, List.getElem?_append_right (by omega), hpm, List.getElem?_append_right (by omega), htm]; rfl); clear t2 _t)
    | (have _t := t3; go_at_call 78; refine (c_Digits x.n 8 h4 (by omega)).mono ?_; rintro e w4 ⟨v4, b4, rfl, hO4, hF4⟩; clear t3 _t c64; have z4 := hF4.size; have hB4 := hB3.kept hF4 (.inr (Nat.zero_le _));
        have c65 : w4.cell? ⟨g1, 65, none⟩ = some (.int .u64 (x.a : Int)) := (by rw [hB4.cell, txL, List.getElem?_append_right (by omega), hpm, List.getElem?_append_right (by omega), htm]; rfl))
    | (have _t := t4; go_at_call 78; refine (c_Digits x.a 8 h5 (by omega)).mono ?_; rintro e w5 ⟨v5, b5, rfl, hO5, hF5⟩; clear t4 _t c65; have z5 := hF5.size; have hB5 := hB4.kept hF5 (.inr (Nat.zero_le _));
        have c66 : w5.cell? ⟨g1, 66, none⟩ = some (.int .u64 (x.f : Int)) := (by rw [hB5.cell, txL, List.getElem?_append_right (by omega), hpm, List.getElem?_append_right (by omega), htm]; rfl))
    | (go_at_call 78; refine (c_Digits x.f 8 h6 (by omega)).mono ?_; rintro e w6 ⟨v6, b6, rfl, hO6, hF6⟩; clear c66; have z6 := hF6.size; have hO36 := ((hO3.kept hF4 (.inr (Nat.zero_le _))).kept hF5 (.inr (Nat.zero_le _))).kept hF6 (.inr (Nat.zero_le _)); have hR46 := (hO4.rd.kept hF5 (.inr (Nat.zero_le _))).kept hF6 (.inr (Nat.zero_le _)); have hR56 := hO5.rd.kept hF6 (.inr (Nat.zero_le _)))
    | (have _t := t5; at_builtin; refine wpl_append hO36 hR46 (by simp [H1.out, H2.out, beB_length]) rfl rfl rfl rfl ?_; intro v7 w7 lo7 hi7 hO7 hF7 hz7; have z7 := hF7.size; have hR57 := hR56.kept hF7 (.inr (by omega)); have hR67 := hO6.rd.kept hF7 (.inr (by omega)); clear t5 _t)
    | (have _t := t6; at_builtin; refine wpl_append hO7 hR57 (by simp [H1.out, H2.out, beB_length]) rfl rfl rfl rfl ?_; intro v8 w8 lo8 hi8 hO8 hF8 hz8; have z8 := hF8.size; have hR68 := hR67.kept hF8 (by omega); clear t6 _t)
    | (at_builtin; refine wpl_append hO8 hR68 (by simp [H1.out, H2.out, beB_length]) rfl rfl rfl rfl ?_; intro v9 w9 lo9 hi9 hO9 hF9 hz9; have z9 := hF9.size))
  go_ret
  have z1 := hF1.size
  rw [← hB0.out] at hO9
  exact ⟨v9, rfl, hO9.mono (by omega) (by omega), ((((((((hF1.on hF2 (by omega)).on hF3 (by omega)).trans hF4).trans hF5).trans hF6).on hF7 (by omega)).on hF8 (by omega)).on hF9 (by omega))⟩

set_option maxRecDepth 100000 in
set_option maxHeartbeats 1000000 in
theorem c_refTSign {w : World} (x : TxD) (hx : TxOk x) : Calls Tryd.prog 44 #[.agg (txL x).toArray] w fun e w' => e = .returned (.agg (txL (signed x)).toArray) ∧ Fr 0 0 w w' := by
  have hl := txL_length hx
  have hl2 := txL_length (signed_ok hx)
  have HX : Hid (TxOk x) := hx
  have HBL := Lib.hid (bodyB_length hx)
  obtain ⟨h1, h2, h3, _⟩ := hx
  have hAl : (x.p.map ub ++ (x.t.map ub ++ txN x)).length = 67 := by simp [txN, h1, h2]
  have hsm : (x.s.map ub).length = 32 := by rw [List.length_map, h3]
  have hsl : ((signH x).map ub).length = 32 := by rw [List.length_map, signH_length]
  have e1 : Hid (txL x = (x.p.map ub ++ (x.t.map ub ++ txN x)) ++ x.s.map ub ++ []) := (show _ = _ by simp [txL])
  have e2 : Hid ((x.p.map ub ++ (x.t.map ub ++ txN x)) ++ (signH x).map ub ++ [] = txL (signed x)) := (show _ = _ by simp [txL, signed, txN])
  obtain ⟨S, hSS⟩ : ∃ S, S = signH x := ⟨_, rfl⟩
  obtain ⟨Y, hY⟩ : ∃ Y, Y = txL (signed x) := ⟨_, rfl⟩
  have HY := Lib.hid hY
  have hY1 : ∀ v ∈ Y, v.oneCell' = true := by rw [hY]; exact txL_one _
  have HSS : Hid (shaB (tagB 4 [bodyB x]) = S) := (show _ = _ by rw [hSS]; rfl)
  rw [← hSS] at hsl e2
  rw [← hY] at hl2 e2
  clear hSS hY h1 h2 h3
  go_enter Tryd.func44, Tryd.ntmps44
  have t1 := trivial
  go_wp2_with (first
    | (refine wpl_box (txL x) rfl rfl rfl rfl ?_; intro g1 w1 hB1 hF1 hg1 hgs1)
    | (refine wpl_alloc zer39 rfl rfl rfl ?_; intro g2 w2 hB2 hF2 hg2 hs2; have hB12 := hB1.kept hF2 (.inr (Nat.zero_le _)))
    | (have _t := t1; refine wpl_load_blk hB12 row39 (by rw [siz39, hl]) rfl rfl rfl ?_; clear t1 _t)
    | (go_at_call 43; refine (c_refTBody x HX.out).mono ?_; rintro e w3' ⟨v3', rfl, hO3', hF3'⟩)
    | (go_at_call 96; refine (c_refOne 4 hO3'.rd (by rw [HBL.out]; omega)).mono ?_; rintro e w3 ⟨rfl, hF3''⟩; rw [HSS.out]; have hF3 := hF3'.trans hF3''; have hB13 := hB12.kept hF3 (.inr (Nat.zero_le _)); rw [e1.out] at hB13; have hB23 := hB2.kept hF3 (.inr (Nat.zero_le _)); have z1 := hF1.size; have z2 := hF2.size; have z3 := hF3.size; have q1 := hB1.lt; have q2 := hB2.lt)
    | (refine wpl_store_part (L' := S.map ub) hB13 hAl (by rw [hsl, hsm]) (by rw [siz30, hsl]) (ub_oneCell _) rfl rfl rfl rfl ?_; intro w4 hB4 hF4; rw [e2.out] at hB4; have hB24 := hB23.kept hF4 (.inr (by omega)))
    | (refine wpl_load_blk hB4 row39 (by rw [siz39, hl2]) rfl rfl rfl ?_)
    | (refine wpl_store_blk hB24 (by rw [hl2]; rfl) (by rw [siz39, hl2]) hY1 rfl rfl rfl rfl ?_; intro w6 hB6 hF6))
  refine bodyPost_ret (v := .agg Y.toArray) (res_blk rfl rfl hB6 row39 (by rw [siz39, hl2])) rfl ⟨by rw [HY.out], ?_⟩
  exact (((hF1.trans hF2).trans hF3).on hF4 (by omega)).on hF6 (by omega)

set_option maxRecDepth 100000 in
set_option maxHeartbeats 1000000 in
theorem c_refTCheck {w : World} (x : TxD) (hx : TxOk x) : Calls Tryd.prog 45 #[.agg (txL x).toArray] w fun e w' => e = .returned (.int .i64 (if x.s = signH x then 0 else 110)) ∧ Fr 0 0 w w' := by
  have hl := txL_length hx
  have HX : Hid (TxOk x) := hx
  have HBL := Lib.hid (bodyB_length hx)
  obtain ⟨h1, h2, h3, _⟩ := hx
  have hAl : (x.p.map ub ++ (x.t.map ub ++ txN x)).length = 67 := by simp [txN, h1, h2]
  have hsm : (x.s.map ub).length = 32 := by rw [List.length_map, h3]
  have e1 : Hid (txL x = (x.p.map ub ++ (x.t.map ub ++ txN x)) ++ x.s.map ub ++ []) := (show _ = _ by simp [txL])
  have H3 := Lib.hid h3
  clear h1 h2 h3
  have key : ∀ r : Bool, (r = true ↔ x.s ≠ signH x) → Calls Tryd.prog 45 #[.agg (txL x).toArray] w fun e w' => e = .returned (.int .i64 (if r = true then 110 else 0)) ∧ Fr 0 0 w w' := by
    intro r hr
    have HR := Lib.hid hr
    clear hr
    obtain ⟨S, hS⟩ : ∃ S, S = signH x := ⟨_, rfl⟩
    have hSl : S.length = 32 := by rw [hS, signH_length]
    have HS : Hid (shaB (tagB 4 [bodyB x]) = S) := (show _ = _ by rw [hS]; rfl)
    have HS0 := Lib.hid hS
    clear hS
    go_enter Tryd.func45, Tryd.ntmps45
    go_wp2_with (refine wpl_box (txL x) rfl rfl rfl rfl ?_; intro g1 w1 hB1 hF1 hg1 hgs1)
    refine' wp_region_sure (S := fun ws => Fr 0 0 w1 ws) (E := fun _ => Fr 0 0) (kill := fun _ => []) (Y := [yEq _, yEq _, yEq _, yW fun v ws => ∃ lo hi, RdB ws lo hi v (bodyB x), yEq _, yEq _]) (F := _) (by kernel_rfl) (by kernel_rfl) (by kernel_rfl) (fun V => ?hF) ?hS ?hstep ?hY ?hend
    case hF => simp only [fillA, Act.put, List.setIfInBounds_toArray, List.set_cons_zero, List.set_cons_succ, Nat.reduceAdd, Nat.zero_add]; rfl
    case hS => exact Fr.drew _
    case hstep =>
      -- 0: t3 := Op.fieldAddr 39 (tmp 1) 5
      refine StepsOk.cons (i := 0) (fun V ws hS hD K hK => ?_) ?_
      · refine' sure_val (v := _) (w' := ws) rfl ?hr (hK.out _ _ hS (Fr.refl _ _ _) ?hy)
        case hr => go_simp; rfl
        case hy => rfl
      -- 1: t4 := Op.load 30 (tmp 3)
      refine StepsOk.cons (i := 1) (fun V ws hS hD K hK => ?_) ?_
      · have d0 : V 0 = _ := hD.out 0 (by kernel_rfl)
        have hB := hB1.kept hS (.inr (Nat.zero_le _))
        rw [e1.out] at hB
        refine su_load_part hB hAl.symm row30 (by rw [siz30, hsm]) rfl rfl d0 (hK.out _ _ hS (Fr.refl _ _ _) ?_); rfl
      -- 2: t5 := Op.load 39 (tmp 1)
      refine StepsOk.cons (i := 2) (fun V ws hS hD K hK => ?_) ?_
      · refine su_load_blk (hB1.kept hS (.inr (Nat.zero_le _))) row39 (by rw [siz39, hl]) rfl rfl rfl (hK.out _ _ hS (Fr.refl _ _ _) ?_); rfl
      -- 3: t6 := Op.call { callee := Callee.value (43), args := #[tmp 5], argTypes := #[39] }
      refine StepsOk.cons (i := 3) (fun V ws hS hD K hK => ?_) ?_
      · have d2 : V 2 = _ := hD.out 2 (by kernel_rfl)
        refine sure_call (f := 43) (args := #[_]) rfl (by go_simp) (c_refTBody x HX.out) ?_
        rintro e w4 ⟨v4, rfl, hO4, hF4⟩
        exact ⟨_, rfl, hK.out _ _ (hS.trans hF4) hF4 ⟨_, _, hO4.rd⟩⟩
      -- 4: t7 := Op.call { callee := Callee.value (96), args := #[const (Value.int IntKind.u8 4), tmp 6], argTypes := #[5, 24] }
      refine StepsOk.cons (i := 4) (fun V ws hS hD K hK => ?_) ?_
      · obtain ⟨lo3, hi3, hR3⟩ : ∃ lo hi, RdB ws lo hi (V 3) _ := hD.out 3 (by kernel_rfl)
        refine sure_call (f := 96) (args := #[.int .u8 4, V 3]) rfl (by go_simp) (c_refOne 4 hR3 (by rw [HBL.out]; omega)) ?_
        rintro e w4 ⟨rfl, hF4⟩
        rw [HS.out]
        refine ⟨_, rfl, hK.out _ _ (hS.trans hF4) hF4 ?_⟩; rfl
      -- 5: t8 := Op.binOp BinOp.neq 30 (tmp 4) (tmp 7) 30
      refine StepsOk.cons (i := 5) (fun V ws hS hD K hK => ?_) ?_
      · have d1 : V 1 = _ := hD.out 1 (by kernel_rfl)
        have d4 : V 4 = _ := hD.out 4 (by kernel_rfl)
        refine su_neq leaves30 (by omega) row30 eqg30 (LF.bytes32 x.s H3.out) (LF.bytes32 S hSl) (r := r) ?_ rfl rfl d1 d4 (hK.out _ _ hS (Fr.refl _ _ _) ?_)
        rotate_left
        rfl
        rw [HR.out, ← HS0.out]
        exact ⟨fun h k => h (map_ub_inj k), fun h k => h (by rw [k])⟩
      exact StepsOk.nil
    case hY =>
      repeat first
        | exact yKeep.nil
        | refine yKeep.eq ?_
        | refine yKeep.cons (fun i v w w' _ hE h => by obtain ⟨lo, hi, h1⟩ := h; exact ⟨lo, hi, h1.kept hE (.inr (Nat.zero_le _))⟩) ?_
    case hend =>
      intro V ws hS hall
      have d5 : V 5 = _ := hall.out 5 (by kernel_rfl)
      rw [d5]
      clear d5 hall
      cases r
      · go_wp2_with fail
        go_ret
        exact ⟨rfl, hF1.trans hS⟩
      · go_wp2_with fail
        go_ret
        exact ⟨rfl, hF1.trans hS⟩
  refine (key (decide (x.s ≠ signH x)) (by simp)).mono ?_
  rintro e w' ⟨rfl, hF⟩
  refine ⟨?_, hF⟩
  by_cases h : x.s = signH x <;> simp [h]

set_option maxRecDepth 100000 in
set_option maxHeartbeats 1000000 in
theorem c_refKey {w : World} (d : List UInt8) (hd : d.length = 32) : Calls Tryd.prog 98 #[.agg (bs d)] w fun e w' => e = .returned (.agg (bs (keyH d))) ∧ Fr 0 0 w w' := by
  have hsl : ((keyH d).map ub).length = 32 := by rw [List.length_map, keyH, shaB_length]
  obtain ⟨S, hSS⟩ : ∃ S, S = keyH d := ⟨_, rfl⟩
  have hS : Hid (shaB (tagB 3 [d]) = S) := (show _ = _ by rw [hSS]; rfl)
  rw [← hSS] at hsl ⊢
  have HD := Lib.hid hd
  clear hSS hd
  go_enter Tryd.func98, Tryd.ntmps98
  go_wp2_with (first
    | (refine wpl_box (d.map ub) rfl rfl rfl rfl ?_; intro g1 w1 hB1 hF1 hg1 hgs1)
    | (refine wpl_alloc zer30 rfl rfl rfl ?_; intro g2 w2 hB2 hF2 hg2 hs2; have hR2 : RdB w2 g1 (g1 + 1) (.slice (some ⟨g1, 0, none⟩) 32 32) d := Blk.rd (A := []) (Z := []) (by simpa using hB1.kept hF2 (.inr (Nat.zero_le _))) rfl HD.out (Nat.le_refl _) (by omega))
    | (go_at_call 96; refine (c_refOne 3 hR2 (by rw [HD.out]; omega)).mono ?_; rintro e w4 ⟨rfl, hF5⟩; rw [hS.out]; have hB4 := hB2.kept hF5 (.inr (Nat.zero_le _)))
    | (refine wpl_store_blk hB4 (by rw [hsl]; rfl) (by rw [siz30, hsl]) (ub_oneCell _) rfl rfl rfl rfl ?_; intro w6 hB6 hF6))
  refine bodyPost_ret (v := .agg (bs S)) (res_blk rfl rfl hB6 row30 (by rw [siz30, hsl])) rfl ⟨rfl, ?_⟩
  exact ((hF1.trans hF2).trans hF5).on hF6 (by have := hF1.size; omega)

set_option maxRecDepth 100000 in
set_option maxHeartbeats 1000000 in
theorem c_refTFrom {w : World} (x : TxD) (hx : TxOk x) : Calls Tryd.prog 47 #[.agg (txL x).toArray] w fun e w' => e = .returned (.agg (bs (keyH x.p))) ∧ Fr 0 0 w w' := by
  have hsl : ((keyH x.p).map ub).length = 32 := by rw [List.length_map, keyH, shaB_length]
  have h1 := hx.1
  have hpm : (x.p.map ub).length = 32 := by rw [List.length_map, h1]
  go_enter Tryd.func47, Tryd.ntmps47
  go_wp2_with (first
    | (refine wpl_box (txL x) rfl rfl rfl rfl ?_; intro g1 w1 hB1 hF1 hg1 hgs1)
    | (refine wpl_alloc zer30 rfl rfl rfl ?_; intro g2 w2 hB2 hF2 hg2 hs2; have hB12 := hB1.kept hF2 (.inr (Nat.zero_le _)))
    | (refine wpl_load_part (A := []) (L := x.p.map ub) (Z := x.t.map ub ++ (txN x ++ x.s.map ub)) (by simpa [txL] using hB12) rfl row30 (by rw [siz30, hpm]) rfl rfl rfl ?_)
    | (go_at_call 98; refine (c_refKey x.p h1).mono ?_; rintro e w4 ⟨rfl, hF4⟩; have hB4 := hB2.kept hF4 (.inr (Nat.zero_le _)))
    | (refine wpl_store_blk hB4 (by rw [hsl]; rfl) (by rw [siz30, hsl]) (ub_oneCell _) rfl rfl rfl rfl ?_; intro w6 hB6 hF6))
  refine bodyPost_ret (v := .agg (bs (keyH x.p))) (res_blk rfl rfl hB6 row30 (by rw [siz30, hsl])) rfl ⟨rfl, ?_⟩
  exact ((hF1.trans hF2).trans hF4).on hF6 (by have := hF1.size; omega)

set_option maxRecDepth 100000 in
set_option maxHeartbeats 1000000 in
theorem c_refTBytes {w : World} (x : TxD) (hx : TxOk x) : Calls Tryd.prog 50 #[.agg (txL x).toArray] w fun e w' => ∃ v', e = .returned v' ∧ OwB w' w.heap.size w'.heap.size v' (txB x) ∧ Fr 0 0 w w' := by
  have hl := txL_length hx
  have HX : Hid (TxOk x) := hx
  have hbl := bodyB_length hx
  have HBL := Lib.hid hbl
  obtain ⟨h1, h2, h3, _⟩ := hx
  have hAl : (x.p.map ub ++ (x.t.map ub ++ txN x)).length = 67 := by simp [txN, h1, h2]
  have e1 : Hid (txL x = (x.p.map ub ++ (x.t.map ub ++ txN x)) ++ x.s.map ub ++ []) := (show _ = _ by simp [txL])
  have H3 := Lib.hid h3
  have HT : Hid (txB x = bodyB x ++ x.s) := (show _ = _ from rfl)
  clear hbl h1 h2 h3
  go_enter Tryd.func50, Tryd.ntmps50
  go_wp2_with (refine wpl_box (txL x) rfl rfl rfl rfl ?_; intro g1 w1 hB1 hF1 hg1 hgs1)
  have q1 := hB1.lt
  have z1 := hF1.size
  refine' wp_region_sure (S := fun ws => Fr 0 0 w1 ws) (E := fun i w w' => match i with | 4 => Fr w1.heap.size w.heap.size w w' | _ => Fr 0 0 w w') (kill := fun i => if i = 4 then [1] else []) (Y := [yEq _, yW fun v ws => ∃ a c lo hi, v = .slice a 88 c ∧ w1.heap.size ≤ lo ∧ hi ≤ ws.heap.size ∧ OwB ws lo hi v (bodyB x), yEq _, yEq _, yW fun v ws => ∃ lo hi, w1.heap.size ≤ lo ∧ hi ≤ ws.heap.size ∧ OwB ws lo hi v (txB x), yW fun v ws => ∃ lo hi, w1.heap.size ≤ lo ∧ hi ≤ ws.heap.size ∧ OwB ws lo hi v (txB x)]) (F := _) (by kernel_rfl) (by kernel_rfl) (by kernel_rfl) (fun V => ?hF) ?hS ?hstep ?hY ?hend
  case hF => simp only [fillA, Act.put, List.setIfInBounds_toArray, List.set_cons_zero, List.set_cons_succ, Nat.reduceAdd, Nat.zero_add]; rfl
  case hS => exact Fr.drew _
  case hstep =>
    -- 0: t3 := Op.load 39 (tmp 1)
    refine StepsOk.cons (i := 0) (fun V ws hS hD K hK => ?_) ?_
    · refine su_load_blk (hB1.kept hS (.inr (Nat.zero_le _))) row39 (by rw [siz39, hl]) rfl rfl rfl (hK.out _ _ hS (Fr.refl _ _ _) ?_); rfl
    -- 1: t4 := Op.call { callee := Callee.value (43), args := #[tmp 3], argTypes := #[39] }
    refine StepsOk.cons (i := 1) (fun V ws hS hD K hK => ?_) ?_
    · have d0 : V 0 = _ := hD.out 0 (by kernel_rfl)
      refine sure_call (f := 43) (args := #[_]) (by rfl) (by go_simp) (c_refTBody x HX.out) ?_
      rintro e w4 ⟨v4, rfl, hO4, hF4⟩
      obtain ⟨a4, c4, rfl⟩ : ∃ a c, v4 = .slice a 88 c := (let ⟨x, y, e, _⟩ := hO4.rd.form; ⟨x, y, by rw [e, HBL.out]⟩)
      exact ⟨_, rfl, hK.out _ _ (hS.trans hF4) hF4 ⟨a4, c4, _, _, rfl, hS.size, Nat.le_refl _, hO4⟩⟩
    -- 2: t5 := Op.fieldAddr 39 (tmp 1) 5
    refine StepsOk.cons (i := 2) (fun V ws hS hD K hK => ?_) ?_
    · refine' sure_val (v := _) (w' := ws) rfl ?hr (hK.out _ _ hS (Fr.refl _ _ _) ?hy)
      case hr => go_simp; rfl
      case hy => rfl
    -- 3: t6 := Op.slice 30 (tmp 5) none none none
    refine StepsOk.cons (i := 3) (fun V ws hS hD K hK => ?_) ?_
    · have d2 : V 2 = _ := hD.out 2 (by kernel_rfl)
      refine' sure_val (v := _) (w' := ws) rfl ?hr (hK.out _ _ hS (Fr.refl _ _ _) ?hy)
      case hr => go_simp; rfl
      case hy => rfl
    -- 4: t7 := Op.call { callee := Callee.builtin Builtin.append, args := #[tmp 4, tmp 6], argTypes := #[24, 24] }
    refine StepsOk.cons (i := 4) (fun V ws hS hD K hK => ?_) ?_
    · obtain ⟨a1, c1, lo1, hi1, d1, h11, h12, hO1⟩ : ∃ a c lo hi, V 1 = _ ∧ _ := hD.out 1 (by kernel_rfl)
      have d3 : V 3 = _ := hD.out 3 (by kernel_rfl)
      have hB := hB1.kept hS (.inr (Nat.zero_le _))
      rw [e1.out] at hB
      have hR : RdB ws g1 (g1 + 1) (.slice (some ⟨g1, 67, none⟩) 32 32) x.s := Blk.rd hB hAl H3.out (Nat.le_refl _) (by omega)
      refine st_append hO1 hR (by rw [HBL.out, H3.out]; omega) rfl rfl rfl d3 ?_
      intro v5 w5 lo5 hi5 hO5 hF5 hz5
      rw [← HT.out] at hO5
      have z5 := hF5.size
      have zs := hS.size
      exact hK.out _ _ (hS.on hF5 h11) (hF5.mono (.inl h11) (.inl h12)) ⟨lo5, hi5, by omega, by omega, hO5⟩
    -- 5: t2 := Op.assign (tmp 7)
    refine StepsOk.cons (i := 5) (fun V ws hS hD K hK => ?_) ?_
    · obtain ⟨lo, hi, h1, h2, hO⟩ : ∃ lo hi, _ := hD.out 4 (by kernel_rfl)
      refine' sure_val (v := _) (w' := ws) rfl ?hr (hK.out _ _ hS (Fr.refl _ _ _) ?hy)
      case hr => go_simp; rfl
      case hy => exact ⟨lo, hi, h1, h2, hO⟩
    exact StepsOk.nil
  case hY =>
    refine yKeep.eq (yKeep.cons ?_ (yKeep.eq (yKeep.eq (yKeep.cons ?_ (yKeep.cons ?_ yKeep.nil)))))
    · intro i v w w' hk hE h
      by_cases hi : i = 4
      · subst hi
        exact mayNot hk (by kernel_rfl)
      · have hF : Fr 0 0 w w' := by
          revert hE
          split
          · exact absurd rfl hi
          · exact id
        obtain ⟨a, c, lo, hi, h0, h1, h2, h3⟩ := h
        have := hF.size
        exact ⟨a, c, lo, hi, h0, h1, by omega, h3.kept hF (.inr (Nat.zero_le _))⟩
    all_goals
      intro i v w w' hk hE h
      by_cases hi : i = 4
      · subst hi
        exact mayNot hk (by kernel_rfl)
      · have hF : Fr 0 0 w w' := by
          revert hE
          split
          · exact absurd rfl hi
          · exact id
        obtain ⟨lo, hi, h1, h2, h3⟩ := h
        have := hF.size
        exact ⟨lo, hi, h1, by omega, h3.kept hF (.inr (Nat.zero_le _))⟩
  case hend =>
    intro V ws hS hall
    obtain ⟨lo, hi, h1, h2, hO⟩ : ∃ lo hi, _ := hall.out 5 (by kernel_rfl)
    go_wp2_with fail
    go_ret
    exact ⟨_, rfl, hO.mono (by omega) h2, hF1.trans hS⟩

set_option maxRecDepth 100000 in
set_option maxHeartbeats 1000000 in
theorem c_refTId {w : World} (x : TxD) (hx : TxOk x) : Calls Tryd.prog 49 #[.agg (txL x).toArray] w fun e w' => e = .returned (.agg (bs (idH x))) ∧ Fr 0 0 w w' := by
  have hl := txL_length hx
  have HBL := Lib.hid (txB_length hx)
  have HX : Hid (TxOk x) := hx
  have hsl : ((idH x).map ub).length = 32 := by rw [List.length_map, idH, shaB_length]
  obtain ⟨S, hSS⟩ : ∃ S, S = idH x := ⟨_, rfl⟩
  have hS : Hid (shaB (tagB 5 [txB x]) = S) := (show _ = _ by rw [hSS]; rfl)
  rw [← hSS] at hsl ⊢
  clear hx hSS
  go_enter Tryd.func49, Tryd.ntmps49
  go_wp2_with (first
    | (refine wpl_box (txL x) rfl rfl rfl rfl ?_; intro g1 w1 hB1 hF1 hg1 hgs1)
    | (refine wpl_alloc zer30 rfl rfl rfl ?_; intro g2 w2 hB2 hF2 hg2 hs2; have hB12 := hB1.kept hF2 (.inr (Nat.zero_le _)))
    | (refine wpl_load_blk hB12 row39 (by rw [siz39, hl]) rfl rfl rfl ?_)
    | (go_at_call 50; refine (c_refTBytes x HX.out).mono ?_; rintro e w3 ⟨v3, rfl, hO3, hF3⟩)
    | (go_at_call 96; refine (c_refOne 5 hO3.rd (by rw [HBL.out]; omega)).mono ?_; rintro e w4 ⟨rfl, hF5⟩; rw [hS.out]; have hB4 := (hB2.kept hF3 (.inr (Nat.zero_le _))).kept hF5 (.inr (Nat.zero_le _)))
    | (refine wpl_store_blk hB4 (by rw [hsl]; rfl) (by rw [siz30, hsl]) (ub_oneCell _) rfl rfl rfl rfl ?_; intro w6 hB6 hF6))
  refine bodyPost_ret (v := .agg (bs S)) (res_blk rfl rfl hB6 row30 (by rw [siz30, hsl])) rfl ⟨rfl, ?_⟩
  exact (((hF1.trans hF2).trans hF3).trans hF5).on hF6 (by have := hF1.size; omega)

end Go.Proofs.YtgndidjfjdaagaaDoor
