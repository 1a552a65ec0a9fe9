/-
  The reference's SHA-256 is the program's.
-/
import Derived.Test.YtgndidjfjdaagaaDoorRef02
import Derived.Test.YtgndidjfjdaagaaDoorRefPad
import Derived.Deep.RegionWith
set_option linter.unusedSimpArgs false
set_option linter.unusedVariables false
namespace Go.Proofs.YtgndidjfjdaagaaDoor
open Go.RowKit

theorem builtH0 : Tryd.prog.built 149 [(0, .int .u32 0x6a09e667), (1, .int .u32 0xbb67ae85), (2, .int .u32 0x3c6ef372), (3, .int .u32 0xa54ff53a), (4, .int .u32 0x510e527f), (5, .int .u32 0x9b05688c), (6, .int .u32 0x1f83d9ab), (7, .int .u32 0x5be0cd19)] = some (H0.map uw).toArray := by kernel_rfl

theorem run_storeVar_blk {P : Program} {w : World} {t t' : TypeId} {g : Nat} {L L' : List Value} (hb : Blk w g L t') (hl : L'.length = L.length) (hi : (P.info? t).map (·.size) = some L'.length) (h1 : ∀ v ∈ L', v.oneCell' = true) :
    ∃ w', (storeVar t ⟨g, 0, none⟩ (.agg L'.toArray)).run P w = .ok () w' ∧ Blk w' g L' t' ∧ Fr g (g + 1) w w' := by
  have hst := run_storeCells_at P g 0 t' L' 0 L.toArray w hb (by simp; omega) h1
  have e : ((L.toArray.toList.take (0 + 0)) ++ L' ++ L.toArray.toList.drop (0 + 0 + L'.length)) = L' := by
    simp [hl]
  rw [e] at hst
  obtain ⟨i, hi1, hi2⟩ := Option.map_eq_some_iff.1 hi
  have r := (hb.setRow (L' := L'))
  refine ⟨_, ?_, r.1, r.2⟩
  simp [storeVar, sizeOf, typeInfo, hi1, hi2, Value.cells]
  rw [hst]

theorem still_val {P : Program} {ops : Array Oper} {rest : List Oper} {o : Oper} {a : Act} {w : World} {Q : Act → Prop} {v : Value} (hg : o.guard = none) (hr : (execOp a.eval o).run P w = .ok (.value v) w) (h : wpStill P ops w Q rest (a.put o.dst v)) : wpStill P ops w Q (o :: rest) a := by
  refine wpStill_step fun K hK => ?_
  have hw : Region.wanted o (yielded ops a.tmps) = true := by simp [Region.wanted, hg]
  rw [if_pos hw]
  unfold Oper.still
  rw [hr]
  exact ⟨rfl, hK _ h⟩

theorem still_load_blk {P : Program} {ops : Array Oper} {rest : List Oper} {o : Oper} {a : Act} {w : World} {Q : Act → Prop} {t t' : TypeId} {x : Operand} {g : Nat} {L : List Value} (hb : Blk w g L t') (hu : (P.underlying t).map (·.isRow) = some true) (hi : (P.info? t).map (·.size) = some L.length)
    (hg : o.guard = none) (hop : o.op = .load t x) (hx : a.eval x = .pointer (some ⟨g, 0, none⟩)) (h : wpStill P ops w Q rest (a.put o.dst (.agg L.toArray))) : wpStill P ops w Q (o :: rest) a := by
  refine still_val hg (v := .agg L.toArray) ?_ h
  have := run_loadVar_blk hb hu hi
  simp [execOp, hop, hx, Instr.sureAddr, Instr.loadAt, this]

set_option maxRecDepth 100000 in
set_option maxHeartbeats 1500000 in
theorem c_Sum {w : World} {lo hi : Nat} {v : Value} {l : List UInt8} (h : RdB w lo hi v l) (hl : l.length ≤ 1073741824) (hhi : hi ≤ w.heap.size) :
    Calls Tryd.prog 79 #[v] w fun e w' => e = .returned (.agg (bs (shaB l))) ∧ Fr 0 0 w w' := by
  obtain ⟨P, hP⟩ : ∃ P, P = padB l := ⟨_, rfl⟩
  obtain ⟨T, hT⟩ : ∃ T, T = P.length / 64 := ⟨_, rfl⟩
  have hPT : P.length = 64 * T := by have : P.length % 64 = 0 := by rw [hP]; exact padB_mod l
                                     omega
  have hTl : 64 * T ≤ 1073742824 := by
    have := padB_length l
    have hz : zerosOf l.length < 64 := Nat.mod_lt _ (by omega)
    rw [← hP] at this
    omega
  have HP := Lib.hid hP
  have HT := Lib.hid hT
  have HPT := Lib.hid hPT
  have hkl : (KL.map uw).length = 64 := by rw [List.length_map, KL_length]
  clear hP hT hPT
  have t1 := trivial
  go_enter Tryd.func79, Tryd.ntmps79
  go_wp2_with (first
    | (have _t := t1; refine wpl_alloc zer30 rfl rfl rfl ?_; intro g2 w1 hB2 hF1 hg2 hs2; clear t1 _t)
    | (refine wpl_build (parts := [(0, _), (1, _), (2, _), (3, _), (4, _), (5, _), (6, _), (7, _)]) builtH0 rfl rfl rfl ?_)
    | (refine wpl_alloc zer149 rfl rfl rfl ?_; intro g3 w2 hB3' hF2 hg3 hs3)
    | (refine wpl_store_blk (L' := H0.map uw) hB3' rfl siz149 (uw_one _) rfl rfl rfl rfl ?_; intro w3 hB3 hF3; clear hB3'; have z1 := hF1.size; have z2 := hF2.size; have z3 := hF3.size; have hh3 := ((h.kept hF1 (.inr (Nat.zero_le _))).kept hF2 (.inr (Nat.zero_le _))).kept hF3 (.inl (by omega)))
    | (go_at_call 117; refine (c_padded hh3 hl).mono ?_; rintro e w4 ⟨v4, rfl, hO4, hF4⟩; rw [← HP.out] at hO4; obtain ⟨a4, c4, rfl⟩ : ∃ a c, v4 = .slice a (64 * T) c := (let ⟨x, y, e, _⟩ := hO4.rd.form; ⟨x, y, by rw [e, HPT.out]⟩); have z4 := hF4.size)
    | (go_at_call 118; refine c_words.mono ?_; rintro e w5 ⟨rfl, hF5⟩; have z5 := hF5.size)
    | (refine wpl_alloc zer175 rfl rfl rfl ?_; intro g5 w6 hB5' hF6 hg5 hs5; have z6 := hF6.size)
    | (refine wpl_store_blk (L' := KL.map uw) hB5' (by rw [hkl]; rfl) (by rw [siz175, hkl]) (uw_one _) rfl rfl rfl rfl ?_; intro wA hB5 hF7; clear hB5'; have z7 := hF7.size))
  have hB3A := (((hB3.kept hF4 (.inr (Nat.zero_le _))).kept hF5 (.inr (Nat.zero_le _))).kept hF6 (.inr (Nat.zero_le _))).kept hF7 (.inl (by have := hB3.lt; omega))
  have hB2A := (((((hB2.kept hF2 (.inr (Nat.zero_le _))).kept hF3 (.inl (by have := hB2.lt; omega))).kept hF4 (.inr (Nat.zero_le _))).kept hF5 (.inr (Nat.zero_le _))).kept hF6 (.inr (Nat.zero_le _))).kept hF7 (.inl (by have := hB2.lt; omega))
  have hOA := ((hO4.kept hF5 (.inr (Nat.zero_le _))).kept hF6 (.inr (Nat.zero_le _))).kept hF7 (.inl (by omega))
  have hWA : Fr 0 0 w wA := (((((hF1.trans hF2).on hF3 (by omega)).trans hF4).trans hF5).trans hF6).on hF7 (by omega)
  have hg23 : g2 < g3 := by have := hB2.lt; omega
  have hg3w : g3 < w3.heap.size := hB3.lt
  have hg5A : g5 < wA.heap.size := hB5.lt
  clear hB2 hB3 hO4 hF1 hF2 hF3 hF4 hF5 hF6 hF7 h hh3
  go_loopw [6] (fun i wr => ∃ j : Nat, j ≤ T ∧ i = .int .i64 ((64 * j : Nat) : Int) ∧ Blk wr g3 ((stK P j).map uw) 149 ∧ Fr g3 (g3 + 1) wA wr) (fun i _ => 64 * T - (intOf i).toNat)
  case atStart => exact ⟨0, Nat.zero_le _, rfl, hB3A, Fr.refl _ _ _⟩
  case round =>
    obtain ⟨j, hj, rfl, hB, hF⟩ := hrel
    have zr := hF.size
    have hB5r := hB5.kept hF (.inr (by omega))
    have hB2r := hB2A.kept hF (.inl (by omega))
    have hOr := hOA.kept hF (.inr (by omega))
    by_cases hlt : j < T
    · obtain ⟨A, hA⟩ : ∃ A, A = 64 * j := ⟨_, rfl⟩
      have HA := Lib.hid hA
      have hA1 : A + 64 ≤ 64 * T := by omega
      rw [← hA]
      have hbl : ((P.take (A + 64)).drop A).length = 64 := by rw [List.length_drop, List.length_take, HPT.out]; omega
      obtain ⟨X, hX⟩ : ∃ X, X = (P.take (A + 64)).drop A := ⟨_, rfl⟩
      have HX : Hid (X = (P.drop (64 * j)).take 64) := by show _ = _; rw [hX, List.drop_take, ← hA, Nat.add_sub_cancel_left]
      have HXe := Lib.hid hX
      rw [← hX] at hbl
      have HXl := Lib.hid hbl
      obtain ⟨H, hH⟩ : ∃ H, H = stK P j := ⟨_, rfl⟩
      have hHl : H.length = 8 := by rw [hH, stK_length]
      have hHw : ∀ x ∈ H, W32 x := by rw [hH]; exact W32.st P j
      rw [← hH] at hB
      have HH := Lib.hid hH
      have hHm : (H.map uw).length = 8 := by rw [List.length_map, hHl]
      obtain ⟨W, hW⟩ : ∃ W, W = schW X 64 := ⟨_, rfl⟩
      have hWl : W.length = 64 := by rw [hW, schW_length]
      have HW := Lib.hid hW
      have hSm : (W.map uw).length = 64 := by rw [List.length_map, hWl]
      clear hW
      clear hA hX hbl hH
      obtain ⟨wT, hwT⟩ : ∃ x, x = wr := ⟨_, rfl⟩
      rw [← hwT] at hB hF zr hB5r hB2r hOr ⊢
      clear hwT
      have t2 := trivial
      go_wp2_with (first
        | (refine wpl_slice_mid (I := A) (J := A + 64) hOr.rd (by omega) hA1 rfl rfl rfl rfl (congrArg (Value.int .i64) (show ((A : Int) + 64) = ((A + 64 : Nat) : Int) by omega)) ?_; intro ad' cap' hr; rw [← HXe.out] at hr; rw [Nat.add_sub_cancel_left] at hr ⊢)
        | (go_at_call 119; refine (c_schedule hr HXl.out (by omega)).mono ?_; rintro e w8 ⟨rfl, hF8⟩; rw [← HW.out]; have z8 := hF8.size)
        | (refine wpl_alloc zer175 rfl rfl rfl ?_; intro g7 w9 hB7' hF9 hg7 hs7; have z9 := hF9.size)
        | (have _t := t2; refine wpl_store_blk (L' := W.map uw) hB7' (by rw [hSm]; rfl) (by rw [siz175, hSm]) (uw_one _) rfl rfl rfl rfl ?_; intro w10 hB7 hF10; clear hB7' t2 _t; have z10 := hF10.size; have hB10 := ((hB.kept hF8 (.inr (Nat.zero_le _))).kept hF9 (.inr (Nat.zero_le _))).kept hF10 (.inl (by omega)))
        | (refine wpl_load_blk hB10 row149 (by rw [siz149, hHm]) rfl rfl rfl ?_)
        | (refine wpl_alloc zer149 rfl rfl rfl ?_; intro g8 w11 hB8' hF11 hg8 hs8; have z11 := hF11.size)
        | (refine wpl_store_blk (L' := H.map uw) hB8' (by rw [hHm]; rfl) (by rw [siz149, hHm]) (uw_one _) rfl rfl rfl rfl ?_; intro wB hB8 hF12; have z12 := hF12.size; clear hB8'))
      have hB7B := (hB7.kept hF11 (.inr (Nat.zero_le _))).kept hF12 (.inl (by have := hB7.lt; omega))
      have hB5B := ((((hB5r.kept hF8 (.inr (Nat.zero_le _))).kept hF9 (.inr (Nat.zero_le _))).kept hF10 (.inl (by omega))).kept hF11 (.inr (Nat.zero_le _))).kept hF12 (.inl (by omega))
      have hB3B := (hB10.kept hF11 (.inr (Nat.zero_le _))).kept hF12 (.inl (by omega))
      have hWB : Fr 0 0 wT wB := (((hF8.trans hF9).on hF10 (by omega)).trans hF11).on hF12 (by omega)
      have hg78 : g7 < g8 := by have := hB7.lt; omega
      have hg8B : g8 < wB.heap.size := hB8.lt
      clear hB7 hB10 hF8 hF9 hF10 hF11 hF12
      go_loopw [9] (fun i ws => ∃ t : Nat, t ≤ 64 ∧ i = .int .i64 t ∧ Blk ws g8 ((rndsW H X t).map uw) 149 ∧ Fr g8 (g8 + 1) wB ws) (fun i _ => 64 - (intOf i).toNat)
      case atStart => exact ⟨0, Nat.zero_le _, rfl, hB8, Fr.refl _ _ _⟩
      case round =>
        obtain ⟨t, ht, rfl, hBt, hFt⟩ := hrel
        have zt := hFt.size
        by_cases h64 : t < 64
        · obtain ⟨V, hV⟩ : ∃ V, V = rndsW H X t := ⟨_, rfl⟩
          have hVl : V.length = 8 := by rw [hV, rndsW_length _ _ hHl]
          have hVw : ∀ x ∈ V, W32 x := by rw [hV]; exact W32.rnds H X hHw t
          rw [← hV] at hBt
          have HV := Lib.hid hV
          obtain ⟨kk, hkk⟩ : ∃ k, k = KL.getD t 0 := ⟨_, rfl⟩
          obtain ⟨ww, hww⟩ : ∃ x, x = W.getD t 0 := ⟨_, rfl⟩
          have hd : Fr 0 0 wr wr.drew := Fr.drew _
          have kc : wr.drew.cell? ⟨g5, t, none⟩ = some (.int .u32 kk) := by
            rw [((hB5B.kept hFt (.inl (by omega))).kept hd (.inr (Nat.zero_le _))).cell, List.getElem?_map, List.getElem?_eq_getElem (show t < KL.length by rw [KL_length]; omega), hkk, List.getD_eq_getElem?_getD, List.getElem?_eq_getElem (show t < KL.length by rw [KL_length]; omega)]
            rfl
          have wc : wr.drew.cell? ⟨g7, t, none⟩ = some (.int .u32 ww) := by
            rw [((hB7B.kept hFt (.inl (by omega))).kept hd (.inr (Nat.zero_le _))).cell, List.getElem?_map, List.getElem?_eq_getElem (show t < W.length by omega), hww, List.getD_eq_getElem?_getD, List.getElem?_eq_getElem (show t < W.length by omega)]
            rfl
          have HKK := Lib.hid hkk
          have HWW := Lib.hid hww
          have hVm : (V.map uw).length = 8 := by rw [List.length_map, hVl]
          have hRm : ((rnd V kk ww).map uw).length = 8 := by rw [List.length_map, rnd_length _ _ _ hVl]
          have hBd := hBt.kept hd (.inr (Nat.zero_le _))
          have tI : (t : Int) < 64 := by omega
          have tJ : (0 : Int) ≤ (t : Int) := by omega
          clear hV hkk hww
          go_wp2_with fail
          refine wp_region_still_tail 7 (by kernel_rfl) (by kernel_rfl) ?_
          simp only [List.take_succ_cons, List.take_zero, List.drop_succ_cons, List.drop_zero]
          refine still_load_blk (w := wr.drew) hBd row149 (by rw [siz149, hVm]) rfl rfl rfl ?_
          repeat still_step
          try refine wpStill_nil ?_
          change wpList _ _ _ _ _ (World.drew wr)
          go_wp2_with (first
            | (go_at_call 120; refine (c_round V kk ww hVl hVw).mono ?_; rintro e w5 ⟨rfl, hF5⟩; have hBe := hBd.kept hF5 (.inr (Nat.zero_le _)))
            | (refine wpl_store_blk (L' := (rnd V kk ww).map uw) hBe (by rw [hRm, hVm]) (by rw [siz149, hRm]) (uw_one _) rfl rfl rfl rfl ?_; intro w6 hB6 hF6))
          go_roundw
          case rel =>
            refine ⟨t + 1, by omega, by go_num, ?_, ((hFt.trans (hd.mono (.inr (Nat.le_refl _)) (.inr (Nat.le_refl _)))).trans (hF5.mono (.inr (Nat.le_refl _)) (.inr (Nat.le_refl _)))).trans hF6⟩
            rw [rndsW, ← HV.out, ← HKK.out, ← HW.out, ← HWW.out]
            exact hB6
          case measure => simp [intOf]; omega
        · obtain rfl : t = 64 := by omega
          obtain ⟨V, hV⟩ : ∃ V, V = rndsW H X 64 := ⟨_, rfl⟩
          have hVl : V.length = 8 := by rw [hV, rndsW_length _ _ hHl]
          rw [← hV] at hBt
          obtain ⟨F, hFF⟩ : ∃ F, F = blkW H X := ⟨_, rfl⟩
          have hFl : F.length = 8 := by rw [hFF, blkW_length]
          have hfg : Hid (∀ i, i < 8 → F.getD i 0 = (H.getD i 0 + V.getD i 0) % 4294967296) := by
            show ∀ i, i < 8 → _
            intro i hi
            rw [hFF, blkW_get H X i hi, hV]
          have HFF := Lib.hid hFF
          have hB3t := hB3B.kept hFt (.inl (by omega))
          obtain ⟨wC, hwC⟩ : ∃ x, x = wr := ⟨_, rfl⟩
          rw [← hwC] at hBt hFt hB3t zt ⊢
          clear hV hFF hwC
          go_wp2_with fail
          go_loopw [10] (fun i ws => ∃ t : Nat, t ≤ 8 ∧ i = .int .i64 t ∧ Blk ws g3 ((mixL F H t).map uw) 149 ∧ Fr g3 (g3 + 1) wC ws) (fun i _ => 8 - (intOf i).toNat)
          case atStart => exact ⟨0, Nat.zero_le _, rfl, hB3t, Fr.refl _ _ _⟩
          case round =>
            obtain ⟨t, ht, rfl, hBs, hFs⟩ := hrel
            by_cases h8 : t < 8
            · have hBv := hBt.kept hFs (.inr (by omega))
              obtain ⟨x, hx⟩ : ∃ x, x = H.getD t 0 := ⟨_, rfl⟩
              obtain ⟨y, hy⟩ : ∃ y, y = V.getD t 0 := ⟨_, rfl⟩
              have hcx : wr.cell? ⟨g3, t, none⟩ = some (.int .u32 x) := by
                rw [hBs.cell, List.getElem?_map, mixL_get F H t (by omega) (by omega), hx]
                rfl
              have hcy : wr.cell? ⟨g8, t, none⟩ = some (.int .u32 y) := by
                rw [hBv.cell, List.getElem?_map, List.getElem?_eq_getElem (show t < V.length by omega), hy, List.getD_eq_getElem?_getD, List.getElem?_eq_getElem (show t < V.length by omega)]
                rfl
              have hxy : Hid ((x + y) % 4294967296 = F.getD t 0) := by show _ = _; rw [hfg.out t h8, hx, hy]
              have tI : (t : Int) < 8 := by omega
              have tJ : (0 : Int) ≤ (t : Int) := by omega
              clear hx hy
              go_wp2_with fail
              go_still_tail 8, (by kernel_rfl)
              refine wpl_store_cell (g := g3) (off := t) (v := uw ((x + y) % 4294967296)) (hBs.kept (Fr.drew _) (.inr (Nat.zero_le _))) (by rw [List.length_map, mixL_length _ _ _ (by omega) (by omega)]; omega) siz115 rfl rfl rfl rfl rfl rfl ?_
              intro w5 hB5 hF5
              go_wp2_with fail
              refine ⟨⟨_, _, _, _, _, _, _, _, _, _, _, _, _, ?relC, rfl⟩, ?measureC⟩
              case relC =>
                refine ⟨t + 1, by omega, by go_num, ?_, (hFs.trans ((Fr.drew _).mono (.inr (Nat.le_refl _)) (.inr (Nat.le_refl _)))).trans hF5⟩
                rw [← mixL_set F H t (by omega) (by omega), ← hxy.out, List.map_set]
                exact hB5
              case measureC => simp [intOf]; omega
            · obtain rfl : t = 8 := by omega
              have hfin : mixL F H 8 = stK P (j + 1) := by
                rw [stK, ← HX.out, ← HH.out, ← HFF.out]
                simp [mixL, List.take_of_length_le (show F.length ≤ 8 by omega), List.drop_eq_nil_of_le (show H.length ≤ 8 by omega)]
              rw [hfin] at hBs
              have hFA : Fr g3 (g3 + 1) wA wr := ((hF.trans (hWB.mono (.inr (Nat.le_refl _)) (.inr (Nat.le_refl _)))).on' hFt (by omega)).trans hFs
              have hAI : (A : Int) + 64 = ((64 * (j + 1) : Nat) : Int) := by have := HA.out; omega
              go_wp2_with fail
              go_roundw
              case rel =>
                exact ⟨j + 1, by omega, congrArg (Value.int .i64) (by have := HA.out; omega), hBs, hFA⟩
              case measure => simp [intOf]; have := HA.out; omega
    · obtain rfl : j = T := by omega
      obtain ⟨S, hS⟩ : ∃ S, S = stK P j := ⟨_, rfl⟩
      have hSl : S.length = 8 := by rw [hS, stK_length]
      rw [← hS] at hB
      obtain ⟨D, hD⟩ : ∃ D, D = shaB l := ⟨_, rfl⟩
      have hDl : D.length = 32 := by rw [hD, shaB_length]
      have hDg : Hid (∀ i (h : i < 32), D[i]'(by omega) = digB8 S i) := by
        show ∀ i (h : i < 32), _
        intro i h
        simp only [hD, shaB, List.getElem_map, List.getElem_range]
        rw [← HP.out, ← HT.out, hS]
      have HD := Lib.hid hD
      clear hS hD
      obtain ⟨wT, hwT⟩ : ∃ x, x = wr := ⟨_, rfl⟩
      rw [← hwT] at hB hF zr hB5r hB2r hOr ⊢
      clear hwT hOr hB5r
      go_wp2_with (refine wpl_alloc zer30 rfl rfl rfl ?_; intro g11 w7 hB11 hF7 hg11 hs11)
      have z7 := hF7.size
      have hB37 := hB.kept hF7 (.inr (Nat.zero_le _))
      have hB27 := hB2r.kept hF7 (.inr (Nat.zero_le _))
      go_loopw [12] (fun i ws => ∃ t : Nat, t ≤ 8 ∧ i = .int .i64 t ∧ Blk ws g11 ((fillB D (4 * t) 32).map ub) 30 ∧ Fr g11 (g11 + 1) w7 ws) (fun i _ => 8 - (intOf i).toNat)
      case atStart => exact ⟨0, Nat.zero_le _, rfl, by rw [Nat.mul_zero, fillB_zero]; exact hB11, Fr.refl _ _ _⟩
      case round =>
        obtain ⟨t, ht, rfl, hBt, hFt⟩ := hrel
        have zt := hFt.size
        by_cases h8 : t < 8
        · have tI : (t : Int) < 8 := by omega
          obtain ⟨wU, hwU⟩ : ∃ x, x = wr := ⟨_, rfl⟩
          rw [← hwU] at hBt hFt zt ⊢
          clear hwU
          go_wp2_with fail
          go_loopw [13] (fun i ws => ∃ k : Nat, k ≤ 4 ∧ i = .int .i64 k ∧ Blk ws g11 ((fillB D (4 * t + k) 32).map ub) 30 ∧ Fr g11 (g11 + 1) wU ws) (fun i _ => 4 - (intOf i).toNat)
          case atStart => exact ⟨0, Nat.zero_le _, rfl, hBt, Fr.refl _ _ _⟩
          case round =>
            obtain ⟨k, hk, rfl, hBk, hFk⟩ := hrel
            by_cases h4 : k < 4
            · obtain ⟨y, hy⟩ : ∃ y, y = S.getD t 0 := ⟨_, rfl⟩
              have hyc : wr.cell? ⟨g3, t, none⟩ = some (.int .u32 y) := by
                rw [((hB37.kept hFt (.inl (by omega))).kept hFk (.inl (by omega))).cell, List.getElem?_map, List.getElem?_eq_getElem (show t < S.length by omega), hy, List.getD_eq_getElem?_getD, List.getElem?_eq_getElem (show t < S.length by omega)]
                rfl
              obtain ⟨x, hx⟩ : ∃ x, x = D[4 * t + k]'(by omega) := ⟨_, rfl⟩
              have hxv : x = UInt8.ofNat (y / 2 ^ (24 - 8 * k) % 256).toNat := by
                rw [hx, hDg.out (4 * t + k) (by omega), digB8, show (4 * t + k) / 4 = t by omega, show (4 * t + k) % 4 = k by omega, hy]
              have hxn : y / 2 ^ (24 - 8 * k) % 256 = (x.toNat : Int) := by
                rw [hxv, UInt8.toNat_ofNat']
                generalize y / 2 ^ (24 - 8 * k) = q
                omega
              have HX := Lib.hid hx
              have tJ : (0 : Int) ≤ (t : Int) := by omega
              have e4 : IntKind.i64.wrap (4 * (t : Int)) = 4 * (t : Int) := IntWalk.i64_in _ (by omega)
              have n4 : (4 * (t : Int) + k).toNat = 4 * t + k := by omega
              have p4 : 4 * (t : Int) + k < 32 := by omega
              have q4 : 0 ≤ 4 * (t : Int) + k := by omega
              clear hx hy hxv
              have hk' : k = 0 ∨ k = 1 ∨ k = 2 ∨ k = 3 := by omega
              rcases hk' with rfl | rfl | rfl | rfl
              · have HXN : Hid (y / 16777216 % 256 = (x.toNat : Int)) := hxn
                clear hxn
                go_wp2_with (refine wpl_store_cell (off := 4 * t + 0) (v := ub x) hBk (by rw [List.length_map, fillB_length D _ 32 (by omega) (by omega)]; omega) siz5' rfl rfl rfl rfl rfl (congrArg (Value.int .u8) HXN.out) ?_; intro w11 hB11 hF11)
                refine ⟨⟨1, by omega, rfl, ?_, hFk.trans hF11⟩, by simp [intOf]⟩
                rw [show 4 * t + 1 = (4 * t + 0) + 1 by omega, ← fillB_set D (4 * t + 0) 32 (by omega) (by omega), List.map_set, ← HX.out]
                exact hB11
              · have HXN : Hid (y / 65536 % 256 = (x.toNat : Int)) := hxn
                clear hxn
                go_wp2_with (refine wpl_store_cell (off := 4 * t + 1) (v := ub x) hBk (by rw [List.length_map, fillB_length D _ 32 (by omega) (by omega)]; omega) siz5' rfl rfl rfl rfl rfl (congrArg (Value.int .u8) HXN.out) ?_; intro w11 hB11 hF11)
                refine ⟨⟨2, by omega, rfl, ?_, hFk.trans hF11⟩, by simp [intOf]⟩
                rw [show 4 * t + 2 = (4 * t + 1) + 1 by omega, ← fillB_set D (4 * t + 1) 32 (by omega) (by omega), List.map_set, ← HX.out]
                exact hB11
              · have HXN : Hid (y / 256 % 256 = (x.toNat : Int)) := hxn
                clear hxn
                go_wp2_with (refine wpl_store_cell (off := 4 * t + 2) (v := ub x) hBk (by rw [List.length_map, fillB_length D _ 32 (by omega) (by omega)]; omega) siz5' rfl rfl rfl rfl rfl (congrArg (Value.int .u8) HXN.out) ?_; intro w11 hB11 hF11)
                refine ⟨⟨3, by omega, rfl, ?_, hFk.trans hF11⟩, by simp [intOf]⟩
                rw [show 4 * t + 3 = (4 * t + 2) + 1 by omega, ← fillB_set D (4 * t + 2) 32 (by omega) (by omega), List.map_set, ← HX.out]
                exact hB11
              · have HXN : Hid (y % 256 = (x.toNat : Int)) := (by show _ = _; simpa using hxn)
                clear hxn
                go_wp2_with (refine wpl_store_cell (off := 4 * t + 3) (v := ub x) hBk (by rw [List.length_map, fillB_length D _ 32 (by omega) (by omega)]; omega) siz5' rfl rfl rfl rfl rfl (congrArg (Value.int .u8) HXN.out) ?_; intro w11 hB11 hF11)
                refine ⟨⟨4, by omega, rfl, ?_, hFk.trans hF11⟩, by simp [intOf]⟩
                rw [show 4 * t + 4 = (4 * t + 3) + 1 by omega, ← fillB_set D (4 * t + 3) 32 (by omega) (by omega), List.map_set, ← HX.out]
                exact hB11
            · obtain rfl : k = 4 := by omega
              have hBn : Blk wr g11 ((fillB D (4 * (t + 1)) 32).map ub) 30 := by rw [Nat.mul_add]; exact hBk
              go_wp2_with fail
              go_roundw
              case rel => exact ⟨t + 1, by omega, by go_num, hBn, hFt.trans hFk⟩
              case measure => simp [intOf]; omega
        · obtain rfl : t = 8 := by omega
          have hfin : fillB D (4 * 8) 32 = shaB l := by rw [show 4 * 8 = 32 from rfl, fillB_all, List.take_of_length_le (by omega), HD.out]
          rw [hfin] at hBt
          have hsl : ((shaB l).map ub).length = 32 := by rw [List.length_map, shaB_length]
          obtain ⟨E, hE⟩ : ∃ E, E = shaB l := ⟨_, rfl⟩
          have HE := Lib.hid hE
          have hB2t := hB27.kept hFt (.inl (by have := hB2r.lt; omega))
          rw [← hE] at hBt hsl
          clear hE hfin hDg
          go_wp2_with (first
            | (refine wpl_load_blk hBt row30 (by rw [siz30, hsl]) rfl rfl rfl ?_)
            | (refine wpl_store_blk (L' := E.map ub) hB2t (by rw [hsl]; rfl) (by rw [siz30, hsl]) (ub_oneCell _) rfl rfl rfl rfl ?_; intro w12 hB12 hF12))
          refine bodyPost_ret (v := .agg (bs E)) (res_blk rfl rfl hB12 row30 (by rw [siz30, hsl])) rfl ⟨by rw [HE.out], ?_⟩
          exact ((((hWA.on hF (by omega)).trans hF7).on hFt (by omega))).on hF12 (by omega)

end Go.Proofs.YtgndidjfjdaagaaDoor
