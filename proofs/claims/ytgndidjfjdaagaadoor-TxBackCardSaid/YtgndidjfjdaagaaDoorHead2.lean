/-
  The contract of header.Read: it answers as beadrollref14.Read does.
-/
import Derived.Test.YtgndidjfjdaagaaDoorHdr
set_option linter.unusedSimpArgs false
set_option linter.unusedVariables false
namespace Go.Proofs.YtgndidjfjdaagaaDoor
open Go.RowKit

theorem zer82 : (Tryd.prog.info? 171).map (·.zero) = some (some (.agg ([.pointer none, .pointer none, .pointer none] : List Value).toArray)) := by kernel_rfl
theorem siz82 : (Tryd.prog.info? 171).map (·.size) = some 3 := by kernel_rfl
theorem siz3 : (Tryd.prog.info? 3).map (·.size) = some 1 := by kernel_rfl

theorem hdr0_one : ∀ v ∈ hdr0, v.oneCell' = true := hdrL_one _ _ _ _ _

/-- The header under way: k of its three digests are there. -/
def hdrK (src : List UInt8) (k : Nat) : List Value := [.int .i64 0] ++ (fillB src (32 * k) 96).map ub ++ [.int .i64 0]

theorem hdrK_zero (src : List UInt8) : hdrK src 0 = hdr0 := by
  simp [hdrK, fillB, hdr0, hdrL]

theorem hdrK_split (src : List UInt8) (k : Nat) (hk : k < 3) :
    hdrK src k = ([.int .i64 0] ++ (src.take (32 * k)).map ub) ++ (List.replicate 32 (0 : UInt8)).map ub ++ ((List.replicate (64 - 32 * k) (0 : UInt8)).map ub ++ [.int .i64 0]) := by
  unfold hdrK fillB
  rw [show 96 - 32 * k = 32 + (64 - 32 * k) by omega, ← List.replicate_append_replicate]
  simp

theorem hdrK_join (src : List UInt8) (k : Nat) (hk : k < 3) :
    ([.int .i64 0] ++ (src.take (32 * k)).map ub) ++ ((src.drop (32 * k)).take 32).map ub ++ ((List.replicate (64 - 32 * k) (0 : UInt8)).map ub ++ [.int .i64 0]) = hdrK src (k + 1) := by
  unfold hdrK fillB
  rw [show 96 - 32 * (k + 1) = 64 - 32 * k by omega, show 32 * (k + 1) = 32 * k + 32 by omega, List.take_add]
  simp

theorem hdrK_fin (src : List UInt8) (hs : src.length = 100) (h m : Int) :
    ((hdrK src 3).set 0 (.int .i64 h)).set 97 (.int .i64 m) = hdrL h (src.take 32) ((src.drop 32).take 32) ((src.drop 64).take 32) m := by
  have e : src.take 96 = src.take 32 ++ ((src.drop 32).take 32 ++ (src.drop 64).take 32) := by
    rw [show 96 = 32 + 64 by omega, List.take_add, show 64 = 32 + 32 by omega, List.take_add, List.drop_drop]
  have e3 : hdrK src 3 = .int .i64 0 :: ((src.take 96).map ub ++ [.int .i64 0]) := by
    simp [hdrK, fillB]
  have hl : ((src.take 96).map ub).length = 96 := by simp [hs]
  rw [e3, List.set_cons_zero, List.set_cons_succ, List.set_append_right _ _ (by rw [hl]; omega), hl, List.set_cons_zero, e]
  simp [hdrL]

set_option maxHeartbeats 1000000 in
theorem c_hdrRead {w : World} {lo hi : Nat} {v : Value} {l : List UInt8} (h : RdB w lo hi v l) (hl : l.length ≤ 1073741824) :
    Calls Tryd.prog 74 #[v] w fun e w' => e = .returned (.tuple #[.agg (hdrRead l).1.toArray, .int .i64 (hdrRead l).2]) ∧ Fr 0 0 w w' := by
  obtain ⟨a, cap, rfl, hc1, hc2, hc3⟩ := h.form
  rcases Nat.lt_trichotomy l.length 108 with hn | hn | hn
  · have hfin : hdrRead l = (hdr0, 10) := by rw [hdrRead, if_pos hn]
    rw [hfin]
    go_enter Tryd.func74, Tryd.ntmps74
    go_wp2_with (first
      | (refine wpl_alloc zer27 rfl rfl rfl ?_; intro g4 w1 hB4 hF1 hg4 hs4)
      | (refine wpl_load_blk hB4 row27 siz27 rfl rfl rfl ?_)
      | (refine wpl_store_blk hB4 rfl siz27 (hdrL_one _ _ _ _ _) rfl rfl rfl rfl ?_; intro w4 hB6 hF6))
    refine bodyPost_ret (res_blk_tmp rfl rfl hB6 row27 siz27) rfl ⟨rfl, ?_⟩
    exact hF1.on hF6 hg4
  · have hwhole := h
    rw [hn] at hc1 h ⊢
    have h108 := Lib.hid hn
    clear hn
    go_enter Tryd.func74, Tryd.ntmps74
    have t1 := trivial
    go_wp2_with (first
      | (have _t := t1; refine wpl_alloc zer27 rfl rfl rfl ?_; intro g2 w1 hB1 hF1 hg2 hs2; clear t1 _t)
      | (go_at_call 106; refine (c_Take 8 (h.kept hF1 (.inr (Nat.zero_le _))) hl (by omega) (by omega) (by rw [h108.out]; omega)).mono ?_; rintro e w2 ⟨r, rfl, hO2, hF2⟩; have hB2 := hB1.kept hF2 (.inr (Nat.zero_le _)))
      | (refine wpl_alloc zer82 rfl rfl rfl ?_; intro g7 w3 hB7 hF3 hg7 hs7; have hB3 := hB2.kept hF3 (.inr (Nat.zero_le _)))
      | (refine wpl_store_blk hB7 (L' := [.pointer (some ⟨g2, 1, none⟩), .pointer (some ⟨g2, 33, none⟩), .pointer (some ⟨g2, 65, none⟩)]) rfl siz82 (by simp [Value.oneCell']) rfl rfl rfl rfl ?_; intro w4 hB7' hF4; have z2 := hF2.size; have hB4 := hB3.kept hF4 (.inl (by omega))))
    have z2 := hF2.size
    have hR := (hO2.rd.kept hF3 (.inr (Nat.zero_le _))).kept hF4 (.inl hg7)
    have hF14 := (hF1.trans (hF2.trans hF3)).on hF4 (by have := hF1.size; omega)
    obtain ⟨src, hsrc⟩ : ∃ src, src = l.drop 8 := ⟨_, rfl⟩
    have hsl : src.length = 100 := by rw [hsrc]; simp [h108.out]
    have HSL := Lib.hid hsl
    rw [← hsrc] at hR
    rw [← hdrK_zero src] at hB4
    have HS := Lib.hid hsrc
    clear hsl hsrc hO2 hB1 hB2 hB3 hB7 h
    go_loopw [5, 33] (fun r i wr => ∃ k : Nat, k ≤ 3 ∧ i = .int .i64 k ∧ RdB wr w1.heap.size w2.heap.size r (src.drop (32 * k)) ∧ Blk wr g2 (hdrK src k) 61 ∧
        Blk wr g7 [.pointer (some ⟨g2, 1, none⟩), .pointer (some ⟨g2, 33, none⟩), .pointer (some ⟨g2, 65, none⟩)] 171 ∧ Fr g2 (g2 + 1) w4 wr) (fun _ i _ => 3 - (intOf i).toNat)
    case atStart => exact ⟨0, Nat.zero_le _, rfl, by simpa using hR, hB4, hB7', Fr.refl _ _ _⟩
    case round =>
      obtain ⟨k, hk, rfl, hRk, hBk, hPk, hFk⟩ := hrel
      by_cases hlt : k < 3
      · obtain ⟨of, hof⟩ : ∃ of, of = 1 + 32 * k := ⟨_, rfl⟩
        have HOF := Lib.hid hof
        have hp : wr.cell? ⟨g7, k, none⟩ = some (.pointer (some ⟨g2, of, none⟩)) := by
          rw [hPk.cell, hof]
          match k, hlt with
          | 0, _ => rfl
          | 1, _ => rfl
          | 2, _ => rfl
        obtain ⟨ra, rcap, rfl, _⟩ := hRk.form
        have hrl : (src.drop (32 * k)).length = 100 - 32 * k := by simp [HSL.out]
        have HRL := Lib.hid hrl
        have hRk' := hRk
        rw [hrl] at hRk ⊢
        have hBk' := hBk
        rw [hdrK_split src k hlt] at hBk'
        clear hrl hBk hof
        go_wp2_with (first
          | (refine wpl_copy 32 hBk' (by rw [HOF.out]; simp [HSL.out]; omega) (by simp) (.inl ⟨by rw [HRL.out]; omega, rfl⟩) hRk rfl rfl rfl rfl ?_; intro w5 hB5 hF5; rw [hdrK_join src k hlt] at hB5; have hR5 := hRk.kept hF5 (.inr (by omega)); have hP5 := hPk.kept hF5 (.inr (by omega)))
          | (refine wpl_slice_from hR5 (I := 32) (by omega) rfl rfl rfl rfl ?_; intro ad' cap' hR6))
        go_roundw
        case rel => exact ⟨k + 1, by omega, by go_num, by rw [show 32 * (k + 1) = 32 * k + 32 by omega, ← List.drop_drop]; exact hR6, hB5, hP5, hFk.trans hF5⟩
        case measure => simp [intOf]; omega
      · obtain rfl : k = 3 := by omega
        have hM : RdB wr w1.heap.size w2.heap.size u5 (l.drop 104) := by
          have := hRk
          rw [HS.out, List.drop_drop] at this
          exact this
        have hlM : (l.drop 104).length = 4 := by simp [h108.out]
        have eM : (l.drop 104).take 4 = l.drop 104 := List.take_of_length_le (by omega)
        obtain ⟨M, hMM⟩ : ∃ M, M = beN (l.drop 104) := ⟨_, rfl⟩
        obtain ⟨N, hNN⟩ : ∃ N, N = beN (l.take 8) := ⟨_, rfl⟩
        have HM := Lib.hid hMM
        have HN := Lib.hid hNN
        have hc := c_Take 4 hM (by omega) (by omega) (by omega) (by omega)
        rw [eM, ← hMM] at hc
        rw [← hNN]
        have HC := Lib.hid hc
        have hlen : (hdrK src 3).length = 98 := by simp [hdrK, fillB, HSL.out]
        have HLEN := Lib.hid hlen
        clear hlen
        have z1 := hF1.size
        have zk := hFk.size
        clear hc hMM hNN eM hlM hM hRk hPk hB4 hR hB7'
        by_cases hbad : 1073741824 < N ∨ 256 < M
        · have hfin : hdrRead l = (hdr0, 8) := by rw [hdrRead, if_neg (by rw [h108.out]; omega), if_neg (by rw [h108.out]; omega), if_pos (by rw [← HM.out, ← HN.out]; exact hbad)]
          have HFIN := Lib.hid hfin
          clear hfin
          by_cases hb1 : 1073741824 < N
          · clear hbad
            go_wp2_with (first
              | (go_at_call 106; refine HC.out.mono ?_; rintro e w5 ⟨r5, rfl, _, hF5⟩; have hB5 := hBk.kept hF5 (.inr (Nat.zero_le _)))
              | (refine wpl_store_blk (L' := hdr0) hB5 (by rw [hdr0_length, HLEN.out]) siz27 hdr0_one rfl rfl rfl (congrArg Value.agg zc27) ?_; intro w6 hB6 hF6))
            refine bodyPost_ret (res_blk_tmp rfl rfl hB6 row27 siz27) rfl ⟨by rw [HFIN.out]; rfl, ((hF14.on hFk hg2).trans hF5).on hF6 hg2⟩
          · have hb2 : 256 < M := by omega
            clear hbad
            go_wp2_with (first
              | (go_at_call 106; refine HC.out.mono ?_; rintro e w5 ⟨r5, rfl, _, hF5⟩; have hB5 := hBk.kept hF5 (.inr (Nat.zero_le _)))
              | (refine wpl_store_blk (L' := hdr0) hB5 (by rw [hdr0_length, HLEN.out]) siz27 hdr0_one rfl rfl rfl (congrArg Value.agg zc27) ?_; intro w6 hB6 hF6))
            refine bodyPost_ret (res_blk_tmp rfl rfl hB6 row27 siz27) rfl ⟨by rw [HFIN.out]; rfl, ((hF14.on hFk hg2).trans hF5).on hF6 hg2⟩
        · have hfin : hdrRead l = (hdrL N ((l.drop 8).take 32) ((l.drop 40).take 32) ((l.drop 72).take 32) M, 0) := by rw [hdrRead, if_neg (by rw [h108.out]; omega), if_neg (by rw [h108.out]; omega), if_neg (by rw [← HM.out, ← HN.out]; exact hbad), ← HM.out, ← HN.out]
          have HFIN := Lib.hid hfin
          have hb1 : N ≤ 1073741824 := by omega
          have hb2 : M ≤ 256 := by omega
          clear hfin hbad
          have hK : ((hdrK src 3).set 0 (.int .i64 N)).set 97 (.int .i64 M) = hdrL N ((l.drop 8).take 32) ((l.drop 40).take 32) ((l.drop 72).take 32) M := by
            rw [hdrK_fin src HSL.out, HS.out, List.drop_drop, List.drop_drop]
          have HK := Lib.hid hK
          have hL := hdrL_length N ((l.drop 8).take 32) ((l.drop 40).take 32) ((l.drop 72).take 32) M (by simp [h108.out]) (by simp [h108.out]) (by simp [h108.out])
          have HL := Lib.hid hL
          clear hK hL
          go_wp2_with (first
            | (go_at_call 106; refine HC.out.mono ?_; rintro e w5 ⟨r5, rfl, _, hF5⟩; have hB5 := hBk.kept hF5 (.inr (Nat.zero_le _)); clear hBk)
            | (refine wpl_store_cell (off := 0) (v := .int .i64 N) hB5 (by rw [HLEN.out]; omega) siz3 rfl rfl rfl rfl rfl rfl ?_; intro w6 hB6 hF6; clear hB5)
            | (refine wpl_store_cell (off := 97) (v := .int .i64 M) hB6 (by rw [List.length_set, HLEN.out]; omega) siz3 rfl rfl rfl rfl rfl rfl ?_; intro w7 hB7 hF7; rw [HK.out] at hB7; clear hB6)
            | (refine wpl_load_blk hB7 row27 (by rw [siz27, HL.out]) rfl rfl rfl ?_)
            | (refine wpl_store_blk hB7 rfl (by rw [siz27, HL.out]) (hdrL_one _ _ _ _ _) rfl rfl rfl rfl ?_; intro w8 hB8 hF8; clear hB7))
          refine bodyPost_ret (res_blk_tmp rfl rfl hB8 row27 (by rw [siz27, HL.out])) rfl ⟨by rw [HFIN.out]; rfl, ((((hF14.on hFk hg2).trans hF5).on hF6 hg2).on hF7 hg2).on hF8 hg2⟩
  · have hfin : hdrRead l = (hdr0, 11) := by rw [hdrRead, if_neg (by omega), if_pos hn]
    rw [hfin]
    go_enter Tryd.func74, Tryd.ntmps74
    go_wp2_with (first
      | (refine wpl_alloc zer27 rfl rfl rfl ?_; intro g4 w1 hB4 hF1 hg4 hs4)
      | (refine wpl_load_blk hB4 row27 siz27 rfl rfl rfl ?_)
      | (refine wpl_store_blk hB4 rfl siz27 (hdrL_one _ _ _ _ _) rfl rfl rfl rfl ?_; intro w4 hB6 hF6))
    refine bodyPost_ret (res_blk_tmp rfl rfl hB6 row27 siz27) rfl ⟨rfl, ?_⟩
    exact hF1.on hF6 hg4

end Go.Proofs.YtgndidjfjdaagaaDoor
