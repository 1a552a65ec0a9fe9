/-
  The walk of the law TxReads.
-/
import Derived.Test.YtgndidjfjdaagaaDoorRefT2
import Derived.Test.YtgndidjfjdaagaaDoorTxTellsW
set_option linter.unusedSimpArgs false
set_option linter.unusedVariables false
set_option linter.unnecessarySimpa false
namespace Go.Proofs.YtgndidjfjdaagaaDoor
open Go.RowKit

theorem txRead_cases (l : List UInt8) : (∃ x, TxOk x ∧ x.s = signH x ∧ l.length = 120 ∧ txOf l = x ∧ txRead l = (txL x, 0)) ∨ (∃ c, c ≠ 0 ∧ txRead l = (tx0, c)) := by
  by_cases h1 : l.length < 120
  · exact .inr ⟨10, by decide, by rw [txRead, if_pos h1]⟩
  · by_cases h2 : 120 < l.length
    · exact .inr ⟨11, by decide, by rw [txRead, if_neg h1, if_pos h2]⟩
    · have hn : l.length = 120 := by omega
      by_cases h3 : (txOf l).s = signH (txOf l)
      · exact .inl ⟨txOf l, txOf_ok hn, h3, hn, rfl, by rw [txRead, if_neg h1, if_neg h2, if_pos h3]⟩
      · exact .inr ⟨110, by decide, by rw [txRead, if_neg h1, if_neg h2, if_neg h3]⟩
theorem lfT_tx0 : LF lfT tx0 := lfT_txL txZ_ok
theorem txRead_LF (l : List UInt8) : LF lfT (txRead l).1 := by
  rcases txRead_cases l with ⟨x, hx, _, _, _, e⟩ | ⟨c, _, e⟩
  · rw [e]; exact lfT_txL hx
  · rw [e]; exact lfT_tx0

set_option maxRecDepth 100000 in
set_option maxHeartbeats 4000000 in
theorem w_TxReads {w : World} {v : Value} {l : List UInt8} (h : RdB w 0 w.heap.size v l) (hk : KT w) :
    Calls Tryd.prog 14 #[v] w fun e w' => e = .returned (.bool true) ∧ Fr 0 0 w w' := by
  obtain ⟨a, cap, rfl, hc1, hc2, hc3⟩ := h.form
  by_cases hl : 300 < l.length
  · go_enter Tryd.func14, Tryd.ntmps14
    go_wp2_with fail
    go_ret
    exact ⟨rfl, Fr.refl _ _ _⟩
  · obtain ⟨L, hL⟩ : ∃ L, L = (txRead l).1 := ⟨_, rfl⟩
    obtain ⟨C, hC⟩ : ∃ C, C = (txRead l).2 := ⟨_, rfl⟩
    have HL := Lib.hid hL
    have HC := Lib.hid hC
    have hlf : LF lfT L := by rw [hL]; exact txRead_LF l
    have hlen : L.length = 99 := by rw [hlf.length]; rfl
    have HLEN := Lib.hid hlen
    have hll : l.length ≤ 1073741824 := by omega
    have HLE : Hid ((l == l) = true) := Lib.hid (by simp)
    have hz0 : tx0.length = 99 := rfl
    clear hL hC hlen
    have t1 := trivial
    go_enter Tryd.func14, Tryd.ntmps14
    go_wp2_with (first
      | (go_at_call 21; refine (c_Twin h hll).mono ?_; rintro e w1 ⟨v1, rfl, hO1, hF1⟩)
      | (go_at_call 72; refine (c_txRead hO1.rd hll (hk.kept hF1 (.inr (Nat.zero_le _)))).mono ?_; rintro e w2 ⟨rfl, hF2⟩; rw [← HL.out, ← HC.out]; have hW2 := hF1.trans hF2)
      | (have _t := t1; refine wpl_alloc zer39 rfl rfl rfl ?_; intro g3 w3 hA3 hF3 hg3 hs3; clear t1 _t)
      | (have _t := hA3; refine wpl_store_blk hA3 (by rw [hz0, HLEN.out]) (by rw [siz39, HLEN.out]) hlf.one rfl rfl rfl rfl ?_; intro w4 hB4 hF4; clear hA3 _t; have hF24 : Fr 0 0 w2 w4 := hF3.on hF4 hg3; have hW4 := hW2.trans hF24; have h4 := h.kept hW4 (.inr (Nat.zero_le _)))
      | (go_at_call 73; refine (c_refTRead h4 hll).mono ?_; rintro e w5 ⟨rfl, hF5⟩; rw [← HL.out, ← HC.out]; have hW5 := hW4.trans hF5)
      | (refine wpl_alloc zer39 rfl rfl rfl ?_; intro g6 w6 hA6 hF6 hg6 hs6)
      | (refine wpl_store_blk hA6 (by rw [hz0, HLEN.out]) (by rw [siz39, HLEN.out]) hlf.one rfl rfl rfl rfl ?_; intro w7 hB7 hF7; clear hA6; have hF57 : Fr 0 0 w5 w7 := hF6.on hF7 hg6; have hW7 := hW5.trans hF57; have hB47 := (hB4.kept hF5 (.inr (Nat.zero_le _))).kept hF57 (.inr (Nat.zero_le _)); have h7 := h.kept hW7 (.inr (Nat.zero_le _)); have h17 := (((hO1.rd.kept hF2 (.inr (Nat.zero_le _))).kept hF24 (.inr (Nat.zero_le _))).kept hF5 (.inr (Nat.zero_le _))).kept hF57 (.inr (Nat.zero_le _)))
      | (refine wpl_load_blk hB47 row39 (by rw [siz39, HLEN.out]) rfl rfl rfl ?_)
      | (refine wpl_load_blk hB7 row39 (by rw [siz39, HLEN.out]) rfl rfl rfl ?_)
      | (refine wpl_eql leaves39 (by omega) row39 eqg39 hlf hlf rfl rfl rfl rfl ?_; intro r hr; obtain rfl : r = true := hr.2 rfl; clear hr)
      | (go_at_call 23; refine (c_Same h17 h7).mono ?_; rintro e w8 ⟨rfl, rfl⟩; rw [HLE.out]))
    go_ret
    exact ⟨rfl, hW7⟩

end Go.Proofs.YtgndidjfjdaagaaDoor
