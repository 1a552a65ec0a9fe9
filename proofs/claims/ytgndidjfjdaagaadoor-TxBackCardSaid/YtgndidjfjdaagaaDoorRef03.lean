/-
  beadrollref03.Bytes, Of, One, None.
-/
import Derived.Test.YtgndidjfjdaagaaDoorRefSum
import Derived.Test.YtgndidjfjdaagaaDoorTagOf
set_option linter.unusedSimpArgs false
set_option linter.unusedVariables false
namespace Go.Proofs.YtgndidjfjdaagaaDoor
open Go.RowKit

set_option maxHeartbeats 1000000 in
theorem c_refTagBytes {w : World} {lo hi : Nat} {v : Value} {ls : List (List UInt8)} (k : UInt8) (h : RdS w lo hi v ls) (hh : hi ≤ w.heap.size) (hl : lens ls ≤ 1073741824) :
    Calls Tryd.prog 24 #[.int .u8 (k.toNat : Int), v] w fun e w' => ∃ v', e = .returned v' ∧ OwB w' w.heap.size w'.heap.size v' (tagB k ls) ∧ Fr 0 0 w w' := by
  have key : ∀ a n cap, v = .slice a n cap → n = ls.length → n ≤ cap → cap ≤ maxLen → (0 < ls.length → ∃ b off, a = some ⟨b, off, none⟩) →
      Calls Tryd.prog 24 #[.int .u8 (k.toNat : Int), v] w fun e w' => ∃ v', e = .returned v' ∧ OwB w' w.heap.size w'.heap.size v' (tagB k ls) ∧ Fr 0 0 w w' := by
    rintro a n cap rfl rfl hc1 hc2 hpos
    have hm : ls.length ≤ 1073741824 := by have := lens_ge ls; omega
    go_enter Tryd.func24, Tryd.ntmps24
    go_wp2_with fail
    have hX : Fr 0 0 w (w.alloc (.cells #[.int .u8 (k.toNat : Int)] 5)) := Fr.alloc _ _
    have hK : OwB (w.alloc (.cells #[.int .u8 (k.toNat : Int)] 5)) w.heap.size (w.heap.size + 1) (.slice (some ⟨w.heap.size, 0, none⟩) 1 1) [k] := OwB.of_blk (l := [k]) (heap_alloc_new w _) rfl (Nat.le_refl _) (by omega) (by omega)
    go_loopw [5, 6] (fun o i wr => ∃ j : Nat, j ≤ ls.length ∧ i = .int .i64 j ∧ (∃ a5 l5 h5 c5, o = .slice a5 (tagB k (ls.take j)).length c5 ∧ w.heap.size ≤ l5 ∧ h5 ≤ wr.heap.size ∧ OwB wr l5 h5 o (tagB k (ls.take j))) ∧ Fr 0 0 w wr) (fun _ i _ => ls.length - (intOf i).toNat)
    case atStart => exact ⟨0, Nat.zero_le _, rfl, ⟨_, _, w.heap.size + 1, _, rfl, Nat.le_refl _, by simp, by simpa [tagB, tagT] using hK⟩, hX⟩
    case round =>
      obtain ⟨j, hj, rfl, ⟨a5, l5, h5, c5, rfl, hl5, hh5, hO⟩, hF⟩ := hrel
      by_cases hlt : j < ls.length
      · obtain ⟨b, off, rfl⟩ := hpos (by omega)
        have hR := h.kept hF (.inr (Nat.zero_le _))
        obtain ⟨x, hx⟩ : ∃ x, x = ls[j] := ⟨_, rfl⟩
        obtain ⟨a7, c7, hcell, h7⟩ := hR.cel j hlt
        have hst : Hid (tagB k (ls.take (j + 1)) = tagB k (ls.take j) ++ beB 4 x.length ++ x) := by
          show _ = _
          rw [tagB, tagT_take ls j hlt, ← hx]
          simp [tagB]
        have hbd := lens_take ls j hlt
        rw [← hx] at hbd hcell h7
        have hxl : x.length ≤ 1073741824 := by omega
        have hol : (tagB k (ls.take j)).length = 1 + lens (ls.take j) := by simp [tagB, tagT_length]; omega
        have HOL := Lib.hid hol
        clear hx hol hR hX hK
        have hbw : b < w.heap.size := by
          obtain ⟨_, _, hc0, _⟩ := h.cel j hlt
          exact World.block_lt_of_cell? w _ hc0
        clear h
        have hmod : (x.length : Int) % 4294967296 = (x.length : Int) := by omega
        have t1 := trivial
        go_wp2_with (first
          | (go_at_call 78; refine (c_Digits x.length 4 (by omega) (by omega)).mono ?_; rintro e w3 ⟨v3, b3, rfl, hO3, hF3⟩; have z3 := hF3.size; have hO4 := hO.kept hF3 (.inr (Nat.zero_le _)); have hR7 := h7.kept hF3 (.inr (Nat.zero_le _)); have hc3 := hF3.cell hcell (.inr (Nat.zero_le _)); have z1 := hF.size)
          | (at_builtin; have _t := t1; refine wpl_append hO4 hO3.rd (by rw [HOL.out, beB_length]; omega) rfl rfl rfl rfl ?_; intro v5 w5 lo5 hi5 hO5 hF5 hz5; clear t1 _t; have hR8 := hR7.kept hF5 (.inl (by omega)); have hc5 := hF5.cell hc3 (.inl (by show b < l5; omega)))
          | (at_builtin; refine wpl_append hO5 hR8 (by rw [List.length_append, HOL.out, beB_length]; omega) rfl rfl rfl rfl ?_; intro v6 w6 lo6 hi6 hO6 hF6 hz6))
        go_roundw
        case rel =>
          have s5 := hF5.size
          have s6 := hF6.size
          obtain ⟨a6, c6, e6, _⟩ := hO6.rd.form
          refine ⟨j + 1, by omega, by go_num, ⟨a6, lo6, hi6, c6, by rw [hst.out]; exact e6, by omega, by omega, by rw [hst.out]; exact hO6⟩, ((hF.trans hF3).on hF5 (by omega)).on hF6 (by omega)⟩
        case measure => simp [intOf]; omega
      · obtain rfl : j = ls.length := by omega
        rw [List.take_length] at *
        go_wp2_with fail
        go_ret
        exact ⟨_, rfl, hO.mono hl5 hh5, hF⟩
  obtain ⟨a, cap, e, r1, r2, r3⟩ := h.form
  refine key a _ cap e rfl r1 r2 (fun hp => ?_)
  obtain ⟨b, off, cap', e', _⟩ := h.spot hp
  rw [e] at e'
  cases e'
  exact ⟨b, off, rfl⟩

set_option maxHeartbeats 1000000 in
theorem c_refOf {w : World} {lo hi : Nat} {v : Value} {ls : List (List UInt8)} (k : UInt8) (h : RdS w lo hi v ls) (hh : hi ≤ w.heap.size) (hl : lens ls ≤ 1073741000) :
    Calls Tryd.prog 26 #[.int .u8 (k.toNat : Int), v] w fun e w' => e = .returned (.agg (bs (shaB (tagB k ls)))) ∧ Fr 0 0 w w' := by
  have htl : (tagB k ls).length ≤ 1073741824 := by rw [tagB, List.length_cons, tagT_length]; omega
  have hsl : ((shaB (tagB k ls)).map ub).length = 32 := by rw [List.length_map, shaB_length]
  obtain ⟨B, hB0⟩ : ∃ B, B = tagB k ls := ⟨_, rfl⟩
  rw [← hB0] at htl hsl ⊢
  have HB0 := Lib.hid hB0
  clear hB0
  go_enter Tryd.func26, Tryd.ntmps26
  go_wp2_with (first
    | (refine wpl_alloc zer30 rfl rfl rfl ?_; intro g2 w1 hB1 hF1 hg2 hs2)
    | (go_at_call 24; refine (c_refTagBytes k (h.kept hF1 (.inr (Nat.zero_le _))) (by have := hF1.size; omega) (by omega)).mono ?_; rintro e w2 ⟨v2, rfl, hO2, hF2⟩; rw [← HB0.out] at hO2; obtain ⟨a2, c2, rfl⟩ : ∃ a c, v2 = .slice a B.length c := (let ⟨x, y, e, _⟩ := hO2.rd.form; ⟨x, y, e⟩))
    | (go_at_call 79; refine (c_Sum hO2.rd htl (Nat.le_refl _)).mono ?_; rintro e w3 ⟨rfl, hF3⟩; have hB2 := (hB1.kept hF2 (.inr (Nat.zero_le _))).kept hF3 (.inr (Nat.zero_le _)))
    | (refine wpl_store_blk hB2 (by rw [hsl]; rfl) (by rw [siz30, hsl]) (ub_oneCell _) rfl rfl rfl rfl ?_; intro w5 hB5 hF5))
  refine bodyPost_ret (v := .agg (bs (shaB B))) (res_blk rfl rfl hB5 row30 (by rw [siz30, hsl])) rfl ⟨rfl, ?_⟩
  exact ((hF1.trans hF2).trans hF3).on hF5 hg2

set_option maxHeartbeats 1000000 in
theorem c_refOne {w : World} {lo hi : Nat} {v : Value} {l : List UInt8} (k : UInt8) (h : RdB w lo hi v l) (hl : l.length ≤ 1073740000) :
    Calls Tryd.prog 96 #[.int .u8 (k.toNat : Int), v] w fun e w' => e = .returned (.agg (bs (shaB (tagB k [l])))) ∧ Fr 0 0 w w' := by
  have hsl : ((shaB (tagB k [l])).map ub).length = 32 := by rw [List.length_map, shaB_length]
  obtain ⟨a0, c0, rfl, _⟩ := h.form
  obtain ⟨D, hD⟩ : ∃ D, D = shaB (tagB k [l]) := ⟨_, rfl⟩
  rw [← hD] at hsl ⊢
  have HD := Lib.hid hD
  clear hD
  go_enter Tryd.func96, Tryd.ntmps96
  go_wp2_with (first
    | (refine wpl_alloc zer30 rfl rfl rfl ?_; intro g2 w1 hB1 hF1 hg2 hs2)
    | (go_at_call 26; refine (c_refOf k (RdS.one (h.kept hF1 (.inr (Nat.zero_le _)))) (by simp) (by simp [lens]; omega)).mono ?_; rintro e w2 ⟨rfl, hF2⟩; rw [← HD.out]; have hB2 := (hB1.kept (Fr.alloc _ _) (.inr (Nat.zero_le _))).kept hF2 (.inr (Nat.zero_le _)); have hF3 : Fr 0 0 w1 w2 := (Fr.alloc _ _).trans hF2)
    | (refine wpl_store_blk hB2 (by rw [hsl]; rfl) (by rw [siz30, hsl]) (ub_oneCell _) rfl rfl rfl rfl ?_; intro w5 hB5 hF5))
  refine bodyPost_ret (v := .agg (bs D)) (res_blk rfl rfl hB5 row30 (by rw [siz30, hsl])) rfl ⟨rfl, ?_⟩
  exact (hF1.trans hF3).on hF5 hg2

set_option maxHeartbeats 1000000 in
theorem c_refNone {w : World} : Calls Tryd.prog 28 #[] w fun e w' => e = .returned (.agg (bs (shaB [0]))) ∧ Fr 0 0 w w' := by
  have hsl : ((shaB [0]).map ub).length = 32 := by rw [List.length_map, shaB_length]
  have HT : Hid (tagB 0 [] = [0]) := (show _ = _ from rfl)
  go_enter Tryd.func28, Tryd.ntmps28
  go_wp2_with (first
    | (refine wpl_alloc zer30 rfl rfl rfl ?_; intro g2 w1 hB1 hF1 hg2 hs2)
    | (go_at_call 26; refine (c_refOf 0 (RdS.nil w1 0 0) (Nat.zero_le _) (by simp [lens])).mono ?_; rintro e w2 ⟨rfl, hF2⟩; rw [HT.out]; have hB2 := hB1.kept hF2 (.inr (Nat.zero_le _)))
    | (refine wpl_store_blk hB2 (by rw [hsl]; rfl) (by rw [siz30, hsl]) (ub_oneCell _) rfl rfl rfl rfl ?_; intro w5 hB5 hF5))
  refine bodyPost_ret (v := .agg (bs (shaB [0]))) (res_blk rfl rfl hB5 row30 (by rw [siz30, hsl])) rfl ⟨rfl, ?_⟩
  exact (hF1.trans hF2).on hF5 hg2

end Go.Proofs.YtgndidjfjdaagaaDoor
