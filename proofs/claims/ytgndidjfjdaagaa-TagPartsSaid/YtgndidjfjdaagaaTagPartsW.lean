/-
  The walk of the law TagParts.
-/
import Derived.Test.YtgndidjfjdaagaaParts3
set_option linter.unusedSimpArgs false
set_option linter.unusedVariables false
namespace Go.Proofs.Ytgndidjfjdaagaa
open Go.RowKit

set_option maxRecDepth 100000 in
set_option maxHeartbeats 1000000 in
theorem w_TagParts {w : World} {v : Value} {l : List UInt8} (h : RdB w 0 w.heap.size v l) :
    Calls Try.prog 4 #[v] w fun e w' => e = .returned (.bool true) ∧ Fr 0 0 w w' := by
  obtain ⟨a, cap, rfl, hc1, hc2, hc3⟩ := h.form
  by_cases hl : 6000 < l.length
  · go_enter Try.func4, Try.ntmps4
    go_wp2_with fail
    go_ret
    exact ⟨rfl, Fr.refl _ _ _⟩
  · obtain ⟨⟨K, ls, E⟩, hK⟩ : ∃ K, K = partsR l := ⟨_, rfl⟩
    have hK1 : Hid ((partsR l).1 = K) := (show _ = _ by rw [← hK])
    have hK2 : Hid ((partsR l).2.1 = ls) := (show _ = _ by rw [← hK])
    have hK3 : Hid ((partsR l).2.2 = E) := (show _ = _ by rw [← hK])
    clear hK
    have hl2 : l.length ≤ 1073741824 := by omega
    go_enter Try.func4, Try.ntmps4
    go_wp2_with (first
      | (go_at_call 9; refine (c_Twin h hl2).mono ?_; rintro e w1 ⟨o1, rfl, hO1, hF1⟩; have hz1 := hF1.size; have hh1 := (h.kept hF1 (.inr (Nat.zero_le _))))
      | (go_at_call 13; refine (c_Parts hO1.rd hl2 (Nat.le_refl _)).mono ?_; rintro e w2 ⟨p, rfl, hP, hF2⟩; rw [hK1.out, hK3.out]; rw [hK2.out] at hP; obtain ⟨ap, cp, rfl⟩ := hP.form; have hz2 := hF2.size; have hh2 := hh1.kept hF2 (.inr (Nat.zero_le _)))
      | (go_at_call 14; refine (c_refParts hh2 hl2 (by omega)).mono ?_; rintro e w3 ⟨q, rfl, hQ, hF3⟩; rw [hK1.out, hK3.out]; rw [hK2.out] at hQ; obtain ⟨aq, cq, rfl⟩ := hQ.form; have hz3 := hF3.size; have hP3 := hP.kept hF3 (.inr (Nat.zero_le _)))
      | (go_at_call 15; refine (c_Same03 hP3.rds hQ.rds).mono ?_; rintro e w4 ⟨rfl, hF4⟩; simp only [decide_true]; have hz4 := hF4.size))
    have hO4 := ((hO1.kept hF2 (.inr (Nat.zero_le _))).kept hF3 (.inr (Nat.zero_le _))).kept hF4 (.inr (Nat.zero_le _))
    have hh4 := (hh2.kept hF3 (.inr (Nat.zero_le _))).kept hF4 (.inr (Nat.zero_le _))
    have hP4 := hP3.kept hF4 (.inr (Nat.zero_le _))
    have hW4 : Fr 0 0 w w4 := ((hF1.trans hF2).trans hF3).trans hF4
    clear hP hQ hP3 hO1 hh1 hh2
    rcases hP4 with ⟨e, rfl⟩ | ⟨g, cp', us, rest, los, his, e, g1, g2, g3, g4, g5, g6, g7⟩
    · cases e
      go_loop [11] (fun i => i = .int .i64 0) (fun _ => 0)
      case atStart => rfl
      case round =>
        subst hrel
        go_wp2_with (go_at_call 12; refine (c_Same hO4.rd hh4).mono ?_; rintro e w8 ⟨rfl, rfl⟩)
        go_ret
        exact ⟨by simp, hW4⟩
    · cases e
      have g6' : cp ≤ 9223372036854775807 := by unfold maxLen at g6; omega
      have hlen : us.length ≤ 9223372036854775807 := by omega
      obtain ⟨n, hn⟩ : ∃ n, n = ls.length := ⟨_, rfl⟩
      have HN := Lib.hid hn
      rw [← hn]
      have hnl : n ≤ 9223372036854775807 := by omega
      have HG : Hid (∀ j (hj : j < ls.length), ∃ a c, us[j]? = some (.slice a ls[j].length c) ∧ RdU w4 (los j) (his j) (.slice a ls[j].length c) ls[j] ∧ w1.heap.size ≤ los j ∧ his j ≤ w2.heap.size ∧ (g < los j ∨ his j ≤ g) ∧ ∀ i, i < j → his i ≤ los j) := g7
      have HU : Hid (us.length = ls.length) := g4
      clear g7 g4 hn g5 hlen
      go_loopw [11] (fun i wr => ∃ j : Nat, j ≤ n ∧ i = .int .i64 j ∧ Fr w1.heap.size w2.heap.size w4 wr ∧ Blk wr g (us ++ rest) 22 ∧ Hid (∀ k, j ≤ k → k < n → ∀ m, los k ≤ m → m < his k → wr.heap[m]? = w4.heap[m]?)) (fun i _ => n - (intOf i).toNat)
      case atStart => exact ⟨0, Nat.zero_le _, rfl, Fr.refl _ _ _, g3, (fun _ _ _ _ _ _ => rfl)⟩
      case round =>
        obtain ⟨j, hj, rfl, hF, hB, hK⟩ := hrel
        by_cases hlt : j < n
        · obtain ⟨a5, c5, q1, q2, q3, q4, q5, q6⟩ := HG.out j (by rw [← HN.out]; exact hlt)
          obtain ⟨x, hx⟩ : ∃ x, x = ls[j]'(by rw [← HN.out]; exact hlt) := ⟨_, rfl⟩
          rw [← hx] at q1 q2
          have hcj : wr.cell? ⟨g, j, none⟩ = some (.slice a5 x.length c5) := by
            rw [hB.cell, List.getElem?_append_left (by rw [HU.out, ← HN.out]; exact hlt), q1]
          have hUj : RdU wr (los j) (his j) (.slice a5 x.length c5) x := by
            have hk := hK.out j (Nat.le_refl _) hlt
            refine ⟨q2.1.keptK hk, fun b off n' cap' e hl => ?_⟩
            obtain ⟨cur, t, hb⟩ := q2.2 b off n' cap' e hl
            obtain ⟨_, _, _, e2, _, _, r1, r2, _⟩ := q2.1.place (List.length_pos_iff.2 hl)
            rw [e] at e2
            cases e2
            exact ⟨cur, t, (hk _ r1 r2).trans hb⟩
          have HX := Lib.hid hx
          have HQ1 := Lib.hid q1
          clear hx q1 q2
          go_wp2_with (go_at_call 16; refine (c_spoil hUj).mono ?_; rintro e w5 ⟨rfl, hF5⟩)
          go_roundw
          case rel =>
            refine ⟨j + 1, by omega, by go_num, hF.trans (hF5.mono (by omega) (by omega)), hB.kept hF5 (by omega), ?_⟩
            show ∀ k, j + 1 ≤ k → k < n → _
            intro k h1 h2
            intro m h3 h4
            obtain ⟨_, _, _, _, p3, p4, _, p6⟩ := HG.out k (by rw [← HN.out]; exact h2)
            have hml : m < wr.heap.size := by
              have := hF.size
              have := p4
              have zz : w2.heap.size ≤ w4.heap.size := by omega
              omega
            exact (hF5.block m hml (by have := p6 j (by omega); omega)).trans (hK.out k (by omega) h2 m h3 h4)
          case measure => simp [intOf]; omega
        · obtain rfl : j = n := by omega
          have hO5 := hO4.kept hF (.inl (Nat.le_refl _))
          have hh5 := hh4.kept hF (.inl hz1)
          go_wp2_with (go_at_call 12; refine (c_Same hO5.rd hh5).mono ?_; rintro e w8 ⟨rfl, rfl⟩)
          go_ret
          exact ⟨by simp, hW4.on hF hz1⟩

end Go.Proofs.Ytgndidjfjdaagaa
