/-
  Contracts of headers' readers: beadrollref14.digest, beadrollref14.Read, header.Read.
-/
import Derived.Test.YtgndidjfjdaagaaNum
set_option linter.unusedSimpArgs false
set_option linter.unusedVariables false
namespace Go.Proofs.Ytgndidjfjdaagaa
open Go.RowKit

theorem zer25 : (Try.prog.info? 25).map (·.zero) = some (some (.agg ((List.replicate 32 (0 : UInt8)).map ub).toArray)) := by kernel_rfl
theorem row25 : (Try.prog.underlying 25).map (·.isRow) = some true := by kernel_rfl
theorem siz25 : (Try.prog.info? 25).map (·.size) = some 32 := by kernel_rfl
theorem siz5 : (Try.prog.info? 5).map (·.size) = some 1 := by kernel_rfl

set_option maxHeartbeats 400000 in
theorem c_digest14 {w : World} {lo hi : Nat} {v : Value} {l : List UInt8} (t : Nat) (h : RdB w lo hi v l) (hl : l.length ≤ 1073741824) (ht : t + 32 ≤ l.length) :
    Calls Try.prog 36 #[v, .int .i64 t] w fun e w' => e = .returned (.agg (bs ((l.drop t).take 32))) ∧ Fr 0 0 w w' := by
  have h0 := h.fit
  obtain ⟨b, off, cap, rfl, hc1, hc2, hb1, hb2⟩ := h0.spot (by omega)
  go_enter Try.func36, Try.ntmps36
  have t1 := trivial
  go_wp2_with (first
    | (have _t := t1; refine wpl_alloc zer25 rfl rfl rfl ?_; intro g4 w1 hB4 hF1 hg4 hs4; clear t1 _t)
    | (refine wpl_alloc zer25 rfl rfl rfl ?_; intro g5 w2 hB5 hF2 hg5 hs5))
  have hB4' := hB4.kept hF2 (.inr (Nat.zero_le _))
  have h2 := (h0.kept hF1 (.inr (Nat.zero_le _))).kept hF2 (.inr (Nat.zero_le _))
  obtain ⟨src, hsrc⟩ : ∃ src, src = l.drop t := ⟨_, rfl⟩
  have hsl : 32 ≤ src.length := by rw [hsrc]; simp; omega
  have HS := Lib.hid hsrc
  clear hsrc
  go_loopw [6] (fun i wr => ∃ k : Nat, k ≤ 32 ∧ i = .int .i64 k ∧ Blk wr g5 ((fillB src k 32).map ub) 25 ∧ Fr g5 (g5 + 1) w2 wr) (fun i _ => 32 - (intOf i).toNat)
  case atStart => exact ⟨0, Nat.zero_le _, rfl, by rw [fillB_zero]; exact hB5, Fr.refl _ _ _⟩
  case round =>
    obtain ⟨k, hk, rfl, hB, hF⟩ := hrel
    by_cases hlt : k < 32
    · obtain ⟨x, hx⟩ : ∃ x, x = src[k] := ⟨_, rfl⟩
      have h3 := h2.kept hF (.inl (by omega))
      have hcell : wr.cell? ⟨b, off + (t + k), none⟩ = some (.int .u8 (x.toNat : Int)) := by
        rw [h3.cel (t + k) (by omega), hx]
        simp [HS.out, ub]
      have HX := Lib.hid hx
      clear hx h3 h2 h0 h hB4 hB5
      go_wp2_with (refine wpl_store_cell (v := ub x) hB (by simp [fillB_length src k 32 (by omega) hk]; omega) siz5 rfl rfl rfl rfl rfl rfl ?_; intro w3 hB3 hF3)
      go_roundw
      case rel => exact ⟨k + 1, by omega, by go_num, by rw [← fillB_set src k 32 (by omega) hlt, List.map_set, ← HX.out]; exact hB3, hF.trans hF3⟩
      case measure => simp [intOf]; omega
    · obtain rfl : k = 32 := by omega
      rw [fillB_all] at hB
      have hB4 := hB4'.kept hF (.inl (by omega))
      have hl32 : ((src.take 32).map ub).length = 32 := by simp; omega
      go_wp2_with (first
        | (refine wpl_load_blk hB row25 (by rw [siz25, hl32]) rfl rfl rfl ?_)
        | (refine wpl_store_blk hB4 (by rw [hl32]; rfl) (by rw [siz25, hl32]) (ub_oneCell _) rfl rfl rfl rfl ?_; intro w4 hB6 hF6))
      refine bodyPost_ret (v := .agg (bs (src.take 32))) (res_blk rfl rfl hB6 row25 (by rw [siz25, hl32])) rfl ⟨by rw [HS.out], ?_⟩
      exact Fr.of_new ((hF1.new.trans ((hF2.below (by have := hF1.size; omega) (by omega)).trans ((hF.below (by have := hF1.size; have := hF2.size; omega) (by omega))))).trans (hF6.below (by have := hF1.size; have := hF2.size; have := hF.size; omega) (by omega)))

/-- A header's cells. -/
def hdrL (h : Int) (p s r : List UInt8) (m : Int) : List Value := .int .i64 h :: (p.map ub ++ s.map ub ++ r.map ub) ++ [.int .i64 m]
def hdr0 : List Value := hdrL 0 (List.replicate 32 0) (List.replicate 32 0) (List.replicate 32 0) 0
theorem hdrL_length (h : Int) (p s r : List UInt8) (m : Int) (hp : p.length = 32) (hs : s.length = 32) (hr : r.length = 32) : (hdrL h p s r m).length = 98 := by simp [hdrL, hp, hs, hr]
theorem hdrL_one (h : Int) (p s r : List UInt8) (m : Int) : ∀ v ∈ hdrL h p s r m, v.oneCell' = true := by
  intro v hv
  simp only [hdrL, List.cons_append, List.mem_cons, List.mem_append, List.mem_map, List.not_mem_nil, or_false] at hv
  rcases hv with rfl | ((⟨x, _, rfl⟩ | ⟨x, _, rfl⟩) | ⟨x, _, rfl⟩) | rfl <;> rfl
theorem zer27 : (Try.prog.info? 27).map (·.zero) = some (some (.agg hdr0.toArray)) := by kernel_rfl
theorem row27 : (Try.prog.underlying 27).map (·.isRow) = some true := by kernel_rfl
theorem siz27 : (Try.prog.info? 27).map (·.size) = some 98 := by kernel_rfl
theorem zc27 : Try.zeroCells27 = hdr0.toArray := by kernel_rfl
theorem hdr0_length : hdr0.length = 98 := by kernel_rfl

theorem plc27 : placesOf Try.prog 27 = some [(0, 1), (1, 32), (33, 32), (65, 32), (97, 1)] := by kernel_rfl

theorem built27 (h : Int) (p s r : List UInt8) (m : Int) (hp : p.length = 32) (hs : s.length = 32) (hr : r.length = 32) :
    Try.prog.built 27 [(0, .int .i64 h), (1, .agg (bs p)), (2, .agg (bs s)), (3, .agg (bs r)), (4, .int .i64 m)] = some (hdrL h p s r m).toArray := by
  rw [built_struct _ zer27 plc27, show (Value.agg hdr0.toArray).cells = ([[.int .i64 0], (List.replicate 32 (0 : UInt8)).map ub, (List.replicate 32 (0 : UInt8)).map ub, (List.replicate 32 (0 : UInt8)).map ub, [.int .i64 0]] : List (List Value)).flatten.toArray by simp [hdr0, hdrL, Value.cells],
    fill_seg [.int .i64 h] _ (by simp) (by simp) rfl (by simp), fill_seg (p.map ub) _ (by simp) (by simp [hp]) rfl (by simp [hp]), fill_seg (s.map ub) _ (by simp) (by simp [hp, hs]) rfl (by simp [hs]),
    fill_seg (r.map ub) _ (by simp) (by simp [hp, hs, hr]) rfl (by simp [hr]), fill_seg [.int .i64 m] _ (by simp) (by simp [hp, hs, hr]) rfl (by simp)]
  simp [Instr.fill, hdrL]

/-- The header of bytes, or the error. -/
def hdrRead (l : List UInt8) : List Value × Int :=
  if l.length < 108 then (hdr0, 10) else if 108 < l.length then (hdr0, 11)
  else if 1073741824 < beN (l.take 8) ∨ 256 < beN (l.drop 104) then (hdr0, 8)
  else (hdrL (beN (l.take 8)) ((l.drop 8).take 32) ((l.drop 40).take 32) ((l.drop 72).take 32) (beN (l.drop 104)), 0)

set_option maxHeartbeats 1000000 in
theorem c_Read14 {w : World} {lo hi : Nat} {v : Value} {l : List UInt8} (h : RdB w lo hi v l) (hl : l.length ≤ 1073741824) :
    Calls Try.prog 11 #[v] w fun e w' => e = .returned (.tuple #[.agg (hdrRead l).1.toArray, .int .i64 (hdrRead l).2]) ∧ Fr 0 0 w w' := by
  obtain ⟨a, cap, rfl, hc1, hc2, hc3⟩ := h.form
  rcases Nat.lt_trichotomy l.length 108 with hn | hn | hn
  · have hfin : hdrRead l = (hdr0, 10) := by rw [hdrRead, if_pos hn]
    rw [hfin]
    go_enter Try.func11, Try.ntmps11
    go_wp2_with (first
      | (refine wpl_alloc zer27 rfl rfl rfl ?_; intro g4 w1 hB4 hF1 hg4 hs4)
      | (refine wpl_store_blk hB4 rfl siz27 (hdrL_one _ _ _ _ _) rfl rfl rfl (congrArg Value.agg zc27) ?_; intro w4 hB6 hF6))
    refine bodyPost_ret (res_blk_tmp rfl rfl hB6 row27 siz27) rfl ⟨rfl, ?_⟩
    exact hF1.on hF6 hg4
  · obtain ⟨b, off, cap, e, _⟩ := h.spot (by omega)
    cases e
    have hA : RdB w lo hi (.slice (some ⟨b, off, none⟩) 8 cap) (l.take 8) := by
      simpa [subA, show cap ≠ 0 by omega, Addr.add_lit] using h.sub 0 8 cap (by omega) (by omega) (by omega) (Nat.le_refl _)
    have hB : RdB w lo hi (.slice (some ⟨b, off + 104, none⟩) 4 (cap - 104)) (l.drop 104) := by
      have := h.sub 104 108 cap (by omega) (by omega) (by omega) (Nat.le_refl _)
      rw [List.take_of_length_le (by omega)] at this
      simpa [subA, show cap ≠ 104 by omega, Addr.add_lit] using this
    have hcp : (108 : Int) ≤ (cap : Int) := by omega
    have h108 := Lib.hid hn
    rw [hn] at hc1 h ⊢
    clear hn
    go_enter Try.func11, Try.ntmps11
    go_wp2_with (first
      | (refine wpl_alloc zer27 rfl rfl rfl ?_; intro g4 w1 hB4 hF1 hg4 hs4))
    have hA1 := hA.kept hF1 (.inr (Nat.zero_le _))
    have hB1 := hB.kept hF1 (.inr (Nat.zero_le _))
    go_quiet ((first
      | (go_at_call_of 35 (Value.slice (some ⟨b, off, none⟩) 8 cap); exact Calls.quiet_of_same ((c_Number (hA1.kept (Fr.drewN _ _) (.inr (Nat.zero_le _))) (by simp; omega)).mono fun _ _ ⟨x, y⟩ => ⟨x, y.symm⟩))
      | (go_at_call 35; exact Calls.quiet_of_same ((c_Number (hB1.kept (Fr.drewN _ _) (.inr (Nat.zero_le _))) (by simp [h108.out])).mono fun _ _ ⟨x, y⟩ => ⟨x, y.symm⟩))))
    obtain ⟨w2, hw2⟩ : ∃ w2, w2 = w1.drewN nq := ⟨_, rfl⟩
    rw [← hw2]
    have hF2 : Fr 0 0 w1 w2 := by rw [hw2]; exact Fr.drewN _ _
    clear hw2
    have hB5 := hB4.kept hF2 (.inr (Nat.zero_le _))
    have h2 := ((h.kept hF1 (.inr (Nat.zero_le _))).kept hF2 (.inr (Nat.zero_le _)))
    have hF12 := hF1.trans hF2
    have hs := hF12.size
    clear hA hB hA1 hB1 hB4 h
    by_cases hbad : 1073741824 < beN (l.take 8) ∨ 256 < beN (l.drop 104)
    · have hfin : hdrRead l = (hdr0, 8) := by rw [hdrRead, if_neg (by rw [h108.out]; omega), if_neg (by rw [h108.out]; omega), if_pos hbad]
      have HFIN := Lib.hid hfin
      clear hfin
      by_cases hb1 : 1073741824 < beN (l.take 8)
      · clear hbad
        go_wp2_with (refine wpl_store_blk hB5 rfl siz27 (hdrL_one _ _ _ _ _) rfl rfl rfl (congrArg Value.agg zc27) ?_; intro w4 hB6 hF6)
        refine bodyPost_ret (res_blk_tmp rfl rfl hB6 row27 siz27) rfl ⟨by rw [HFIN.out]; rfl, hF12.on hF6 hg4⟩
      · have hb2 : 256 < beN (l.drop 104) := by omega
        clear hbad
        go_wp2_with (refine wpl_store_blk hB5 rfl siz27 (hdrL_one _ _ _ _ _) rfl rfl rfl (congrArg Value.agg zc27) ?_; intro w4 hB6 hF6)
        refine bodyPost_ret (res_blk_tmp rfl rfl hB6 row27 siz27) rfl ⟨by rw [HFIN.out]; rfl, hF12.on hF6 hg4⟩
    · have hfin : hdrRead l = (hdrL (beN (l.take 8)) ((l.drop 8).take 32) ((l.drop 40).take 32) ((l.drop 72).take 32) (beN (l.drop 104)), 0) := by rw [hdrRead, if_neg (by rw [h108.out]; omega), if_neg (by rw [h108.out]; omega), if_neg hbad]
      have HFIN := Lib.hid hfin
      have hb1 : beN (l.take 8) ≤ 1073741824 := by omega
      have hb2 : beN (l.drop 104) ≤ 256 := by omega
      clear hfin hbad
      have t1 := trivial
      have t2 := trivial
      go_wp2_with (first
        | (go_at_call 36; have _t := t1; refine (c_digest14 8 h2 hl (by rw [h108.out]; omega)).mono ?_; clear t1 _t; rintro e w3 ⟨rfl, hF3⟩; have h3 := h2.kept hF3 (.inr (Nat.zero_le _)))
        | (go_at_call 36; have _t := t2; refine (c_digest14 40 h3 hl (by rw [h108.out]; omega)).mono ?_; clear t2 _t; rintro e w4 ⟨rfl, hF4⟩; have h4 := h3.kept hF4 (.inr (Nat.zero_le _)))
        | (go_at_call 36; refine (c_digest14 72 h4 hl (by rw [h108.out]; omega)).mono ?_; rintro e w5 ⟨rfl, hF5⟩; have hB6 := ((hB5.kept hF3 (.inr (Nat.zero_le _))).kept hF4 (.inr (Nat.zero_le _))).kept hF5 (.inr (Nat.zero_le _)))
        | (refine wpl_build (built27 (beN (l.take 8)) ((l.drop 8).take 32) ((l.drop 40).take 32) ((l.drop 72).take 32) (beN (l.drop 104)) (by simp [h108.out]) (by simp [h108.out]) (by simp [h108.out])) rfl rfl rfl ?_)
        | (refine wpl_store_blk hB6 (by rw [hdrL_length _ _ _ _ _ (by simp [h108.out]) (by simp [h108.out]) (by simp [h108.out])]; rfl) (by rw [siz27, hdrL_length _ _ _ _ _ (by simp [h108.out]) (by simp [h108.out]) (by simp [h108.out])]) (hdrL_one _ _ _ _ _) rfl rfl rfl rfl ?_; intro w6 hB7 hF7))
      refine bodyPost_ret (res_blk_tmp rfl rfl hB7 row27 (by rw [siz27, hdrL_length _ _ _ _ _ (by simp [h108.out]) (by simp [h108.out]) (by simp [h108.out])])) rfl ⟨by rw [HFIN.out]; rfl, (((hF12.trans hF3).trans hF4).trans hF5).on hF7 hg4⟩
  · have hfin : hdrRead l = (hdr0, 11) := by rw [hdrRead, if_neg (by omega), if_pos hn]
    rw [hfin]
    go_enter Try.func11, Try.ntmps11
    go_wp2_with (first
      | (refine wpl_alloc zer27 rfl rfl rfl ?_; intro g4 w1 hB4 hF1 hg4 hs4)
      | (refine wpl_store_blk hB4 rfl siz27 (hdrL_one _ _ _ _ _) rfl rfl rfl (congrArg Value.agg zc27) ?_; intro w4 hB6 hF6))
    refine bodyPost_ret (res_blk_tmp rfl rfl hB6 row27 siz27) rfl ⟨rfl, ?_⟩
    exact hF1.on hF6 hg4
end Go.Proofs.Ytgndidjfjdaagaa
