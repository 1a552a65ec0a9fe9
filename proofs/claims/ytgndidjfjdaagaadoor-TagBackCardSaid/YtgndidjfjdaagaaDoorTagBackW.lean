/-
  The walk of the law TagBack.
-/
import Derived.Test.YtgndidjfjdaagaaDoorAlive03
import Derived.Test.YtgndidjfjdaagaaDoorTagOf
set_option linter.unusedSimpArgs false
set_option linter.unusedVariables false
namespace Go.Proofs.YtgndidjfjdaagaaDoor
open Go.RowKit

set_option maxRecDepth 100000 in
set_option maxHeartbeats 2000000 in
theorem w_TagBack {w : World} {v : Value} {l : List UInt8} (h : RdB w 0 w.heap.size v l) (hk : KT w) :
    Calls Tryd.prog 8 #[v] w fun e w' => e = .returned (.bool true) ∧ Fr 0 0 w w' := by
  obtain ⟨a, cap, rfl, hc1, hc2, hc3⟩ := h.form
  by_cases hl : 3000 < l.length
  · have hlI : 3000 < (l.length : Int) := by omega
    go_enter Tryd.func8, Tryd.ntmps8
    go_wp2_with (go_at_call 51; refine c_alive03.mono ?_; rintro e w1 ⟨rfl, hF1⟩)
    go_ret
    exact ⟨rfl, hF1⟩
  · have hlI : ¬ 3000 < (l.length : Int) := by omega
    have hl2 : l.length ≤ 1073741824 := by omega
    by_cases hE : (partsR l).2.2 = 0
    · obtain ⟨⟨K, ls, E⟩, hK⟩ : ∃ K, K = partsR l := ⟨_, rfl⟩
      have hT := partsR_ok hE
      have hK1 : Hid ((partsR l).1 = K) := (show _ = _ by rw [← hK])
      have hK2 : Hid ((partsR l).2.1 = ls) := (show _ = _ by rw [← hK])
      have hK3 : Hid (((partsR l).2.2 : Int) = 0) := (show _ = _ by rw [hE]; rfl)
      rw [hK1.out, hK2.out] at hT
      have hlen : lens ls ≤ 3000 := by
        have := congrArg List.length hT
        rw [tagB, List.length_cons, tagT_length] at this
        omega
      have HT := Lib.hid hT
      have hlen1 : lens ls ≤ 1073741000 := by omega
      have hlen2 : lens ls ≤ 1073741824 := by omega
      clear hK hT hE
      have HS : Hid ((l == l) = true) := (show _ = _ by simp)
      go_enter Tryd.func8, Tryd.ntmps8
      go_wp2_with (first
        | (go_at_call 51; refine c_alive03.mono ?_; rintro e w1 ⟨rfl, hF1⟩; have h1 := h.kept hF1 (.inr (Nat.zero_le _)); have k1 := hk.kept hF1 (.inr (Nat.zero_le _)); have hz1 := hF1.size)
        | (go_at_call 52; refine (c_Parts h1 hl2 hz1).mono ?_; rintro e w2 ⟨p, rfl, hP, hF2⟩; rw [hK1.out, hK3.out]; rw [hK2.out] at hP; obtain ⟨ap, cp, rfl⟩ := hP.form; have hz2 := hF2.size; have h2 := h1.kept hF2 (.inr (Nat.zero_le _)); have k2 := k1.kept hF2 (.inr (Nat.zero_le _)))
        | (go_at_call 22; refine (c_tagBytes K hP.rds (Nat.le_refl _) hlen2).mono ?_; rintro e w3 ⟨b3, rfl, hO3, hF3⟩; rw [HT.out] at hO3; have hz3 := hF3.size; have h3 := h2.kept hF3 (.inr (Nat.zero_le _)); have k3 := k2.kept hF3 (.inr (Nat.zero_le _)); have hP3 := hP.kept hF3 (.inr (Nat.zero_le _)))
        | (go_at_call 23; refine (c_Same hO3.rd h3).mono ?_; rintro e w8 ⟨rfl, rfl⟩; rw [HS.out])
        | (go_at_call 25; refine (c_tagOf K hP3.rds (by omega) hlen1 k3).mono ?_; rintro e w4 ⟨rfl, hF4⟩; rw [HT.out]; have h4 := h3.kept hF4 (.inr (Nat.zero_le _)); have k4 := k3.kept hF4 (.inr (Nat.zero_le _)))
        | (go_at_call 53; refine (c_shaOf (RdS.one h4) hl2 (k4.kept (Fr.alloc _ _) (.inr (Nat.zero_le _)))).mono ?_; rintro e w5 ⟨rfl, hF5⟩)
        | (refine wpl_eql leaves30 (by omega) row30 eqg30 (LF.bytes32 _ (shaB_length l)) (LF.bytes32 _ (shaB_length l)) rfl rfl rfl rfl ?_; intro q hq; obtain rfl : q = true := hq.2 rfl; clear hq))
      go_ret
      exact ⟨rfl, (((hF1.trans hF2).trans hF3).trans hF4).trans ((Fr.alloc _ _).trans hF5)⟩
    · have hB := partsR_bad hE
      obtain ⟨E, hEE⟩ : ∃ E, E = (partsR l).2.2 := ⟨_, rfl⟩
      rw [← hEE] at hE
      have hEI : ¬ (E : Int) = 0 := by omega
      have hK1 : Hid ((((partsR l).1).toNat : Int) = 0) := (show _ = _ by rw [hB.1]; rfl)
      have hK2 : Hid ((partsR l).2.1 = []) := hB.2
      have hK3 : Hid (((partsR l).2.2 : Int) = (E : Int)) := (show _ = _ by rw [hEE])
      clear hB hEE hE
      go_enter Tryd.func8, Tryd.ntmps8
      go_wp2_with (first
        | (go_at_call 51; refine c_alive03.mono ?_; rintro e w1 ⟨rfl, hF1⟩; have h1 := h.kept hF1 (.inr (Nat.zero_le _)); have hz1 := hF1.size)
        | (go_at_call 52; refine (c_Parts h1 hl2 hz1).mono ?_; rintro e w2 ⟨p, rfl, hP, hF2⟩; rw [hK1.out, hK3.out]; rw [hK2.out] at hP; obtain ⟨ap, cp, rfl⟩ := hP.form; have hz2 := hF2.size))
      go_ret
      exact ⟨rfl, hF1.trans hF2⟩

end Go.Proofs.YtgndidjfjdaagaaDoor
