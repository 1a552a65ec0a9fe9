/-
  The reference's SHA-256, in parts: words, padded, schedule, round.
-/
import Derived.Test.YtgndidjfjdaagaaDoorShaPure
import Derived.Deep.RegionWith
set_option linter.unusedSimpArgs false
set_option linter.unusedVariables false
namespace Go.Proofs.YtgndidjfjdaagaaDoor
open Go.RowKit

theorem row175 : (Tryd.prog.underlying 175).map (·.isRow) = some true := by kernel_rfl
theorem siz175 : (Tryd.prog.info? 175).map (·.size) = some 64 := by kernel_rfl
theorem row149 : (Tryd.prog.underlying 149).map (·.isRow) = some true := by kernel_rfl
theorem siz149 : (Tryd.prog.info? 149).map (·.size) = some 8 := by kernel_rfl
theorem zer149 : (Tryd.prog.info? 149).map (·.zero) = some (some (.agg ((padW [] 8).map uw).toArray)) := by kernel_rfl
theorem built149 (a b c d e f g h : Int) : Tryd.prog.built 149 [(0, .int .u32 a), (1, .int .u32 b), (2, .int .u32 c), (3, .int .u32 d), (4, .int .u32 e), (5, .int .u32 f), (6, .int .u32 g), (7, .int .u32 h)] = some ([.int .u32 a, .int .u32 b, .int .u32 c, .int .u32 d, .int .u32 e, .int .u32 f, .int .u32 g, .int .u32 h] : List Value).toArray := by kernel_rfl
theorem uw_one (l : List Int) : ∀ v ∈ l.map uw, v.oneCell' = true := by
  intro v hv
  obtain ⟨x, _, rfl⟩ := List.mem_map.1 hv
  rfl
theorem builtKL : Tryd.prog.built 175 [(0, .int .u32 1116352408), (1, .int .u32 1899447441), (2, .int .u32 3049323471), (3, .int .u32 3921009573), (4, .int .u32 961987163), (5, .int .u32 1508970993), (6, .int .u32 2453635748), (7, .int .u32 2870763221), (8, .int .u32 3624381080), (9, .int .u32 310598401), (10, .int .u32 607225278), (11, .int .u32 1426881987), (12, .int .u32 1925078388), (13, .int .u32 2162078206), (14, .int .u32 2614888103), (15, .int .u32 3248222580), (16, .int .u32 3835390401), (17, .int .u32 4022224774), (18, .int .u32 264347078), (19, .int .u32 604807628), (20, .int .u32 770255983), (21, .int .u32 1249150122), (22, .int .u32 1555081692), (23, .int .u32 1996064986), (24, .int .u32 2554220882), (25, .int .u32 2821834349), (26, .int .u32 2952996808), (27, .int .u32 3210313671), (28, .int .u32 3336571891), (29, .int .u32 3584528711), (30, .int .u32 113926993), (31, .int .u32 338241895), (32, .int .u32 666307205), (33, .int .u32 773529912), (34, .int .u32 1294757372), (35, .int .u32 1396182291), (36, .int .u32 1695183700), (37, .int .u32 1986661051), (38, .int .u32 2177026350), (39, .int .u32 2456956037), (40, .int .u32 2730485921), (41, .int .u32 2820302411), (42, .int .u32 3259730800), (43, .int .u32 3345764771), (44, .int .u32 3516065817), (45, .int .u32 3600352804), (46, .int .u32 4094571909), (47, .int .u32 275423344), (48, .int .u32 430227734), (49, .int .u32 506948616), (50, .int .u32 659060556), (51, .int .u32 883997877), (52, .int .u32 958139571), (53, .int .u32 1322822218), (54, .int .u32 1537002063), (55, .int .u32 1747873779), (56, .int .u32 1955562222), (57, .int .u32 2024104815), (58, .int .u32 2227730452), (59, .int .u32 2361852424), (60, .int .u32 2428436474), (61, .int .u32 2756734187), (62, .int .u32 3204031479), (63, .int .u32 3329325298)] = some (KL.map uw).toArray := by kernel_rfl
theorem KL_length : KL.length = 64 := rfl

set_option maxRecDepth 100000 in
set_option maxHeartbeats 1000000 in
theorem c_words {w : World} : Calls Tryd.prog 118 #[] w fun e w' => e = .returned (.agg (KL.map uw).toArray) ∧ Fr 0 0 w w' := by
  have hkl : (KL.map uw).length = 64 := by rw [List.length_map, KL_length]
  go_enter Tryd.func118, Tryd.ntmps118
  go_wp2_with (first
    | (refine wpl_alloc zer175 rfl rfl rfl ?_; intro g2 w1 hB1 hF1 hg2 hs2)
    | (refine wpl_build (parts := [(0, _), (1, _), (2, _), (3, _), (4, _), (5, _), (6, _), (7, _), (8, _), (9, _), (10, _), (11, _), (12, _), (13, _), (14, _), (15, _), (16, _), (17, _), (18, _), (19, _), (20, _), (21, _), (22, _), (23, _), (24, _), (25, _), (26, _), (27, _), (28, _), (29, _), (30, _), (31, _), (32, _), (33, _), (34, _), (35, _), (36, _), (37, _), (38, _), (39, _), (40, _), (41, _), (42, _), (43, _), (44, _), (45, _), (46, _), (47, _), (48, _), (49, _), (50, _), (51, _), (52, _), (53, _), (54, _), (55, _), (56, _), (57, _), (58, _), (59, _), (60, _), (61, _), (62, _), (63, _)]) builtKL rfl rfl rfl ?_)
    | (refine wpl_store_blk (L' := KL.map uw) hB1 (by rw [hkl]; rfl) (by rw [siz175, hkl]) (uw_one _) rfl rfl rfl rfl ?_; intro w5 hB5 hF5))
  refine bodyPost_ret (v := .agg (KL.map uw).toArray) (res_blk rfl rfl hB5 row175 (by rw [siz175, hkl])) rfl ⟨rfl, ?_⟩
  exact hF1.on hF5 hg2

set_option maxRecDepth 100000 in
set_option maxHeartbeats 4000000 in
theorem c_round {w : World} (V : List Int) (k x : Int) (hV : V.length = 8) (hW : ∀ y ∈ V, W32 y) : Calls Tryd.prog 120 #[.agg (V.map uw).toArray, .int .u32 k, .int .u32 x] w fun e w' => e = .returned (.agg ((rnd V k x).map uw).toArray) ∧ Fr 0 0 w w' := by
  obtain ⟨a, b', c, d, e, f, g, h', rfl⟩ : ∃ a b c d e f g h, V = [a, b, c, d, e, f, g, h] := by
    match V, hV with
    | [a, b, c, d, e, f, g, h], _ => exact ⟨a, b, c, d, e, f, g, h, rfl⟩
  have he : W32 e := hW e (by simp)
  have hx : Hid (((4294967295 : Int) - e) % 4294967296 = bits .xor .u32 (if IntKind.u32.signed = true then -1 else IntKind.u32.max) e) := by
    show _ = _
    rw [xor_max e he]
    obtain ⟨h1, h2⟩ := he
    omega
  clear he hW hV
  go_enter Tryd.func120, Tryd.ntmps120
  go_wp2_with (first
    | (refine wpl_box [.int .u32 a, .int .u32 b', .int .u32 c, .int .u32 d, .int .u32 e, .int .u32 f, .int .u32 g, .int .u32 h'] rfl rfl rfl rfl ?_; intro g3 w1 hB1 hF1 hg3 hgs3)
    | (refine wpl_alloc zer149 rfl rfl rfl ?_; intro g6 w2 hB2 hF2 hg6 hs6; have hBt := hB1.kept hF2 (.inr (Nat.zero_le _));
        have v0 : w2.cell? ⟨g3, 0, none⟩ = some (.int .u32 a) := hBt.cell 0;
        have v1 : w2.cell? ⟨g3, 1, none⟩ = some (.int .u32 b') := hBt.cell 1;
        have v2 : w2.cell? ⟨g3, 2, none⟩ = some (.int .u32 c) := hBt.cell 2;
        have v3 : w2.cell? ⟨g3, 3, none⟩ = some (.int .u32 d) := hBt.cell 3;
        have v4 : w2.cell? ⟨g3, 4, none⟩ = some (.int .u32 e) := hBt.cell 4;
        have v5 : w2.cell? ⟨g3, 5, none⟩ = some (.int .u32 f) := hBt.cell 5;
        have v6 : w2.cell? ⟨g3, 6, none⟩ = some (.int .u32 g) := hBt.cell 6;
        have v7 : w2.cell? ⟨g3, 7, none⟩ = some (.int .u32 h') := hBt.cell 7))
  go_quiet (fail)
  obtain ⟨w5, hw5⟩ : ∃ w5, w5 = w2.drewN nq := ⟨_, rfl⟩
  rw [← hw5]
  have hF5 : Fr 0 0 w2 w5 := by rw [hw5]; exact Fr.drewN _ _
  have hB5 := hB2.kept hF5 (.inr (Nat.zero_le _))
  clear hw5 v0 v1 v2 v3 v4 v5 v6 v7
  go_upto_region 3 with (first
    | (go_at_call_of 147 (Value.int .u32 6); refine (c_turn e 6 (by decide)).mono ?_; rintro e w7 ⟨rfl, rfl⟩)
    | (go_at_call_of 147 (Value.int .u32 11); refine (c_turn e 11 (by decide)).mono ?_; rintro e w7 ⟨rfl, rfl⟩)
    | (go_at_call_of 147 (Value.int .u32 25); refine (c_turn e 25 (by decide)).mono ?_; rintro e w7 ⟨rfl, rfl⟩))
  rw [hx.out]
  rw [show ((h' + bits .xor .u32 (bits .xor .u32 (rot e 6) (rot e 11)) (rot e 25) + bits .xor .u32 (bits .and .u32 e f) (bits .and .u32 (bits .xor .u32 (if IntKind.u32.signed = true then -1 else IntKind.u32.max) e) g) + k) % 4294967296 + x) % 4294967296 = rnd1 e f g h' k x from rfl]
  obtain ⟨one, hone⟩ : ∃ y, y = rnd1 e f g h' k x := ⟨_, rfl⟩
  rw [← hone]
  have HONE := Lib.hid hone
  clear hone
  go_upto_region 4 with (first
    | (go_at_call_of 147 (Value.int .u32 2); refine (c_turn a 2 (by decide)).mono ?_; rintro e w7 ⟨rfl, rfl⟩)
    | (go_at_call_of 147 (Value.int .u32 13); refine (c_turn a 13 (by decide)).mono ?_; rintro e w7 ⟨rfl, rfl⟩)
    | (go_at_call_of 147 (Value.int .u32 22); refine (c_turn a 22 (by decide)).mono ?_; rintro e w7 ⟨rfl, rfl⟩))
  rw [show (bits .xor .u32 (bits .xor .u32 (rot a 2) (rot a 13)) (rot a 22) + bits .xor .u32 (bits .xor .u32 (bits .and .u32 a b') (bits .and .u32 a c)) (bits .and .u32 b' c)) % 4294967296 = rnd2 a b' c from rfl]
  obtain ⟨two, htwo⟩ : ∃ y, y = rnd2 a b' c := ⟨_, rfl⟩
  rw [← htwo]
  have HTWO := Lib.hid htwo
  clear htwo
  go_wp2_with (first
    | (refine wpl_build (parts := [(0, _), (1, _), (2, _), (3, _), (4, _), (5, _), (6, _), (7, _)]) (built149 ((one + two) % 4294967296) a b' c ((d + one) % 4294967296) e f g) rfl rfl rfl ?_)
    | (refine wpl_store_blk (L' := [.int .u32 ((one + two) % 4294967296), .int .u32 a, .int .u32 b', .int .u32 c, .int .u32 ((d + one) % 4294967296), .int .u32 e, .int .u32 f, .int .u32 g]) hB5 rfl siz149 (by intro v hv; simp only [List.mem_cons, List.not_mem_nil, or_false] at hv; rcases hv with rfl | rfl | rfl | rfl | rfl | rfl | rfl | rfl <;> rfl) rfl rfl rfl rfl ?_; intro w8 hB8 hF8))
  refine bodyPost_ret (v := .agg ([.int .u32 ((one + two) % 4294967296), .int .u32 a, .int .u32 b', .int .u32 c, .int .u32 ((d + one) % 4294967296), .int .u32 e, .int .u32 f, .int .u32 g] : List Value).toArray) (res_blk rfl rfl hB8 row149 siz149) rfl ⟨?_, ((hF1.trans hF2).trans hF5).on hF8 (by have := hF1.size; omega)⟩
  rw [rnd, ← HONE.out, ← HTWO.out]
  rfl

theorem s_turn {w : World} (x : Int) (n : Nat) (hn : n ∈ turns) : Calls Tryd.prog 147 #[.int .u32 x, .int .u32 n] w fun e w' => e = .returned (.int .u32 (rot x n)) ∧ w' = w :=
  (c_turn x n hn).mono fun _ _ ⟨a, b⟩ => ⟨a, b.symm⟩

set_option maxRecDepth 100000 in
set_option maxHeartbeats 4000000 in
theorem c_schedule {w : World} {lo hi : Nat} {v : Value} {l : List UInt8} (h : RdB w lo hi v l) (hl : l.length = 64) (hhi : hi ≤ w.heap.size) :
    Calls Tryd.prog 119 #[v] w fun e w' => e = .returned (.agg ((schW l 64).map uw).toArray) ∧ Fr 0 0 w w' := by
  obtain ⟨b, off, cap, rfl, hc1, hc2, hb1, hb2⟩ := h.spot (by omega)
  have h64 := Lib.hid hl
  rw [hl] at hc1 h ⊢
  clear hl
  go_enter Tryd.func119, Tryd.ntmps119
  have t1 := trivial
  go_wp2_with (first
    | (have _t := t1; refine wpl_alloc zer175 rfl rfl rfl ?_; intro g2 w0 hB2 hF0 hg2 hs2; clear t1 _t)
    | (refine wpl_alloc zer175 rfl rfl rfl ?_; intro g4 w1 hB4 hF1 hg4 hs4))
  have hR1 := (h.kept hF0 (.inr (Nat.zero_le _))).kept hF1 (.inr (Nat.zero_le _))
  have zz0 := hF0.size
  have zz1 := hF1.size
  have hB21 := hB2.kept hF1 (.inr (Nat.zero_le _))
  clear h
  go_loopw [4] (fun i wr => ∃ t : Nat, t ≤ 16 ∧ i = .int .i64 t ∧ Blk wr g4 ((padW (schW l t) 64).map uw) 175 ∧ Fr g4 (g4 + 1) w1 wr) (fun i _ => 16 - (intOf i).toNat)
  case atStart => exact ⟨0, Nat.zero_le _, rfl, hB4, Fr.refl _ _ _⟩
  case round =>
    obtain ⟨t, ht, rfl, hB, hF⟩ := hrel
    by_cases hlt : t < 16
    · have hBs : Blk wr g4 ((padW (schW l t ++ [horner l t 0]) 64).map uw) 175 := by
        have : padW (schW l t ++ [horner l t 0]) 64 = padW (schW l t) 64 := by
          rw [← padW_set _ _ _ (by rw [schW_length]; omega), schW_length]
          apply List.ext_getElem (by simp)
          intro i h1 h2
          rw [List.getElem_set]
          split
          · subst_vars
            rw [horner, List.getElem_of_eq (show padW (schW l i) 64 = schW l i ++ List.replicate (64 - i) 0 by rw [padW, schW_length]), List.getElem_append_right (by rw [schW_length]; exact Nat.le_refl _)]
            simp
          · rfl
        rw [this]
        exact hB
      have hltI : (t : Int) < 16 := by omega
      obtain ⟨wT, hwT⟩ : ∃ x, x = wr := ⟨_, rfl⟩
      have hFT : Fr g4 (g4 + 1) w1 wT := by rw [hwT]; exact hF
      rw [← hwT] at hBs ⊢
      clear hwT hB hF
      go_wp2_with fail
      go_loopw [5] (fun i ws => ∃ k : Nat, k ≤ 4 ∧ i = .int .i64 k ∧ Blk ws g4 ((padW (schW l t ++ [horner l t k]) 64).map uw) 175 ∧ Fr g4 (g4 + 1) wT ws) (fun i _ => 4 - (intOf i).toNat)
      case atStart => exact ⟨0, Nat.zero_le _, rfl, hBs, Fr.refl _ _ _⟩
      case round =>
        obtain ⟨k, hk, rfl, hB, hF⟩ := hrel
        by_cases hk4 : k < 4
        · have hR := (hR1.kept hFT (.inl (by omega))).kept hF (.inl (by omega))
          obtain ⟨y, hy⟩ : ∃ y, y = horner l t k := ⟨_, rfl⟩
          obtain ⟨x, hx⟩ : ∃ x, x = l.getD (4 * t + k) 0 := ⟨_, rfl⟩
          have hyb := horner_lt l t k
          rw [← hy] at hyb hB
          have hyl : y < 16777216 := by
            have : (256 : Int) ^ k ≤ 256 ^ 3 := by
              have : (256 : Nat) ^ k ≤ 256 ^ 3 := Nat.pow_le_pow_right (by omega) (by omega)
              exact_mod_cast this
            have h2 := hyb.2
            omega
          have hy0 : 0 ≤ y := hyb.1
          have hcx : wr.cell? ⟨b, off + (4 * t + k), none⟩ = some (.int .u8 (x.toNat : Int)) := by
            rw [hR.cel (4 * t + k) (by rw [h64.out]; omega), hx, List.getD_eq_getElem?_getD, List.getElem?_eq_getElem (by rw [h64.out]; omega)]
            rfl
          have hcy : wr.cell? ⟨g4, t, none⟩ = some (.int .u32 y) := by
            rw [hB.cell, List.getElem?_map, padW, List.getElem?_append_left (by rw [List.length_append, schW_length]; simp), List.getElem?_append_right (by rw [schW_length]; exact Nat.le_refl _), schW_length, Nat.sub_self]
            rfl
          have hxl : (x.toNat : Int) ≤ 255 := by have := x.toNat_lt; omega
          have hst : Hid (256 * y + (x.toNat : Int) = horner l t (k + 1)) := by show _ = _; rw [hx, hy]; rfl
          have HY := Lib.hid hy
          clear hx hy hyb hR
          have p64 : (t : Int) < 64 := by omega
          have q64 : 0 ≤ (t : Int) := by omega
          have e0 : IntKind.i64.wrap (4 * (t : Int)) = 4 * (t : Int) := IntWalk.i64_in _ (by omega)
          have e1 : IntKind.i64.wrap (4 * (t : Int) + k) = 4 * (t : Int) + k := IntWalk.i64_in _ (by omega)
          have n1 : (4 * (t : Int) + k).toNat = 4 * t + k := by omega
          have p1 : 4 * (t : Int) + k < 64 := by omega
          have q1 : 0 ≤ 4 * (t : Int) + k := by omega
          have m1 : (256 * y + (x.toNat : Int)) % 4294967296 = 256 * y + (x.toNat : Int) := by omega
          have m2 : (x.toNat : Int) % 4294967296 = (x.toNat : Int) := by omega
          have m3 : (256 * y) % 4294967296 = 256 * y := by omega
          go_wp2_with fail
          go_still_tail 15, (by kernel_rfl)
          repeat still_step
          try refine wpStill_nil ?_
          refine wpl_store_cell (g := g4) (off := t) (v := uw (256 * y + (x.toNat : Int))) (hB.kept (Fr.drew _) (.inr (Nat.zero_le _))) (by rw [List.length_map, padW_length _ _ (by rw [List.length_append, schW_length]; simp; omega)]; omega) siz115 rfl rfl rfl rfl rfl (congrArg (Value.int .u32) (show IntKind.u32.wrap (IntKind.u32.wrap (256 * y) + IntKind.u32.wrap (x.toNat : Int)) = 256 * y + (x.toNat : Int) by rw [IntKind.wrap_u32, IntKind.wrap_u32, IntKind.wrap_u32]; omega)) ?_
          intro w2 hB2 hF2
          clear e0 e1 n1 p1 q1 m1 m2 m3 hcx hcy p64 q64
          go_wp2_with fail
          go_roundw
          case rel =>
            refine ⟨k + 1, by omega, by go_num, ?_, (hF.trans ((Fr.drew _).mono (.inr (Nat.le_refl _)) (.inr (Nat.le_refl _)))).trans hF2⟩
            have e : (padW (schW l t ++ [y]) 64).set t (256 * y + (x.toNat : Int)) = padW (schW l t ++ [horner l t (k + 1)]) 64 := by
              rw [← hst.out]
              unfold padW
              rw [List.append_assoc, List.append_assoc, List.set_append_right _ _ (by rw [schW_length]; exact Nat.le_refl _), schW_length, Nat.sub_self]
              simp
            rw [← e, List.map_set]
            exact hB2
          case measure => simp [intOf]; omega
        · obtain rfl : k = 4 := by omega
          have hBn : Blk wr g4 ((padW (schW l (t + 1)) 64).map uw) 175 := by
            rw [schW, if_pos hlt, ← horner_4]
            exact hB
          go_wp2_with fail
          go_roundw
          case rel => exact ⟨t + 1, by omega, by go_num, hBn, hFT.trans hF⟩
          case measure => simp [intOf]; omega
    · obtain rfl : t = 16 := by omega
      obtain ⟨wT, hwT⟩ : ∃ x, x = wr := ⟨_, rfl⟩
      have hFT : Fr g4 (g4 + 1) w1 wT := by rw [hwT]; exact hF
      have hBT : Blk wT g4 ((padW (schW l 16) 64).map uw) 175 := by rw [hwT]; exact hB
      rw [← hwT]
      clear hwT hB hF
      go_wp2_with fail
      go_loopw [6] (fun i ws => ∃ t : Nat, 16 ≤ t ∧ t ≤ 64 ∧ i = .int .i64 t ∧ Blk ws g4 ((padW (schW l t) 64).map uw) 175 ∧ Fr g4 (g4 + 1) wT ws) (fun i _ => 64 - (intOf i).toNat)
      case atStart => exact ⟨16, Nat.le_refl _, by omega, rfl, hBT, Fr.refl _ _ _⟩
      case round =>
        obtain ⟨t, h16, ht, rfl, hB, hF⟩ := hrel
        by_cases hlt : t < 64
        · have hce : ∀ j, j < t → wr.cell? ⟨g4, j, none⟩ = some (.int .u32 ((schW l t).getD j 0)) := fun j hj => by
            rw [hB.cell, List.getElem?_map, padW, List.getElem?_append_left (by rw [schW_length]; exact hj), List.getD_eq_getElem?_getD, List.getElem?_eq_getElem (by rw [schW_length]; exact hj)]
            rfl
          obtain ⟨W, hW⟩ : ∃ W, W = schW l t := ⟨_, rfl⟩
          have HW := Lib.hid hW
          rw [← hW] at hce
          obtain ⟨x15, hx15⟩ : ∃ x, x = W.getD (t - 15) 0 := ⟨_, rfl⟩
          obtain ⟨x2, hx2⟩ : ∃ x, x = W.getD (t - 2) 0 := ⟨_, rfl⟩
          obtain ⟨x16, hx16⟩ : ∃ x, x = W.getD (t - 16) 0 := ⟨_, rfl⟩
          obtain ⟨x7, hx7⟩ : ∃ x, x = W.getD (t - 7) 0 := ⟨_, rfl⟩
          have k15 := hce (t - 15) (by omega)
          have k2 := hce (t - 2) (by omega)
          have k16 := hce (t - 16) (by omega)
          have k7 := hce (t - 7) (by omega)
          rw [← hx15] at k15
          rw [← hx2] at k2
          rw [← hx16] at k16
          rw [← hx7] at k7
          have H15 := Lib.hid hx15
          have H2 := Lib.hid hx2
          have H16 := Lib.hid hx16
          have H7 := Lib.hid hx7
          clear hce hW hx15 hx2 hx16 hx7
          have e15 : IntKind.i64.wrap ((t : Int) - 15) = (t : Int) - 15 := IntWalk.i64_in _ (by omega)
          have e2 : IntKind.i64.wrap ((t : Int) - 2) = (t : Int) - 2 := IntWalk.i64_in _ (by omega)
          have e16 : IntKind.i64.wrap ((t : Int) - 16) = (t : Int) - 16 := IntWalk.i64_in _ (by omega)
          have e7 : IntKind.i64.wrap ((t : Int) - 7) = (t : Int) - 7 := IntWalk.i64_in _ (by omega)
          have n15 : ((t : Int) - 15).toNat = t - 15 := by omega
          have n2 : ((t : Int) - 2).toNat = t - 2 := by omega
          have n16 : ((t : Int) - 16).toNat = t - 16 := by omega
          have n7 : ((t : Int) - 7).toNat = t - 7 := by omega
          have p15 : (t : Int) - 15 < 64 := by omega
          have p2 : (t : Int) - 2 < 64 := by omega
          have p16 : (t : Int) - 16 < 64 := by omega
          have p7 : (t : Int) - 7 < 64 := by omega
          have r2 : (2 : Int) ≤ (t : Int) := by omega
          have r7 : (7 : Int) ≤ (t : Int) := by omega
          have r15 : (15 : Int) ≤ (t : Int) := by omega
          have r16 : (16 : Int) ≤ (t : Int) := by omega
          have q15 : 0 ≤ (t : Int) - 15 := by omega
          have q2 : 0 ≤ (t : Int) - 2 := by omega
          have q16 : 0 ≤ (t : Int) - 16 := by omega
          have q7 : 0 ≤ (t : Int) - 7 := by omega
          have hltI : (t : Int) < 64 := by omega
          go_wp2_with fail
          go_quiet (fail)
          obtain ⟨w2, hw2⟩ : ∃ w2, w2 = wr.drewN nq := ⟨_, rfl⟩
          rw [← hw2]
          have hF2 : Fr 0 0 wr w2 := by rw [hw2]; exact Fr.drewN _ _
          have k16' := hF2.cell k16 (.inr (Nat.zero_le _))
          have k7' := hF2.cell k7 (.inr (Nat.zero_le _))
          have hB' := hB.kept hF2 (.inr (Nat.zero_le _))
          clear hw2
          go_wp2_with fail
          go_still_tail 29, (by kernel_rfl)
          still_call (s_turn _ 7 (by decide))
          repeat still_step
          still_call (s_turn _ 18 (by decide))
          repeat still_step
          still_call (s_turn _ 17 (by decide))
          repeat still_step
          still_call (s_turn _ 19 (by decide))
          repeat still_step
          try refine wpStill_nil ?_
          refine wpl_store_cell (g := g4) (off := t) (v := uw (step4 x16 x15 x7 x2)) (hB'.kept (Fr.drew _) (.inr (Nat.zero_le _))) (by rw [List.length_map, padW_length _ _ (by rw [schW_length]; omega)]; omega) siz115 rfl rfl rfl rfl rfl rfl ?_
          intro w3 hB3 hF3
          clear e15 e2 e16 e7 n15 n2 n16 n7 p15 p2 p16 p7 q15 q2 q16 q7 r15 r2 r16 r7 k15 k2 k16 k7 k16' k7'
          go_wp2_with fail
          refine ⟨⟨_, _, _, _, _, _, _, _, _, _, _, _, _, _, _, _, _, _, _, _, _, _, _, _, _, _, _, _, _, _, _, _, _, _, _, _, _, _, _, _, _, _, _, _, ?rel3, rfl⟩, ?measure3⟩
          case rel3 =>
            refine ⟨t + 1, by omega, by omega, by go_num, ?_, ((hF.trans (hF2.mono (.inr (Nat.le_refl _)) (.inr (Nat.le_refl _)))).trans ((Fr.drew _).mono (.inr (Nat.le_refl _)) (.inr (Nat.le_refl _)))).trans hF3⟩
            rw [schW, if_neg (by omega), stepW, ← HW.out, ← H15.out, ← H2.out, ← H16.out, ← H7.out, HW.out, ← padW_set _ _ _ (by rw [schW_length]; omega), schW_length, List.map_set]
            exact hB3
          case measure3 => simp [intOf]; omega
        · obtain rfl : t = 64 := by omega
          have hBf : Blk wr g4 ((schW l 64).map uw) 175 := by
            have e : padW (schW l 64) 64 = schW l 64 := by rw [padW, schW_length]; simp
            rw [e] at hB
            exact hB
          have hsl : ((schW l 64).map uw).length = 64 := by rw [List.length_map, schW_length]
          have zT := hFT.size
          have zr := hF.size
          have hB2r := (hB21.kept hFT (.inl (by have := hB21.lt; have := hB2.lt; omega))).kept hF (.inl (by have := hB2.lt; omega))
          obtain ⟨S, hS⟩ : ∃ S, S = (schW l 64).map uw := ⟨_, rfl⟩
          have HS := Lib.hid hS
          have hS1 : ∀ v ∈ S, v.oneCell' = true := by rw [hS]; exact uw_one _
          rw [← hS] at hBf hsl
          clear hS hB
          go_wp2_with (first
            | (refine wpl_load_blk hBf row175 (by rw [siz175, hsl]) rfl rfl rfl ?_)
            | (refine wpl_store_blk (L' := S) hB2r (by rw [hsl]; rfl) (by rw [siz175, hsl]) hS1 rfl rfl rfl rfl ?_; intro w5 hB5 hF5))
          refine bodyPost_ret (v := .agg S.toArray) (res_blk rfl rfl hB5 row175 (by rw [siz175, hsl])) rfl ⟨by rw [HS.out], ?_⟩
          exact (((hF0.trans hF1).on hFT (by omega)).on hF (by omega)).on hF5 hg2

end Go.Proofs.YtgndidjfjdaagaaDoor
