/-
  The walk of the law TagTells.
-/
import Derived.Test.YtgndidjfjdaagaaDoorRef03
import Derived.Test.YtgndidjfjdaagaaDoorParts2
import Derived.Test.YtgndidjfjdaagaaDoorSpoil
import Derived.Test.YtgndidjfjdaagaaDoorTagNamesW
set_option linter.unusedSimpArgs false
set_option linter.unusedVariables false
namespace Go.Proofs.YtgndidjfjdaagaaDoor
open Go.RowKit

theorem great_lens {ls : List (List UInt8)} (h : great ls = false) : ls.length ≤ 8 ∧ lens ls ≤ 3000 ∧ ∀ l ∈ ls, l.length ≤ 300 := by
  unfold great at h
  rw [Bool.or_eq_false_iff] at h
  have h1 : ls.length ≤ 8 := by have := h.1; simp at this; exact this
  have h2 : ∀ l ∈ ls, l.length ≤ 300 := by have := h.2; simpa using this
  refine ⟨h1, ?_, h2⟩
  have : ∀ ms : List (List UInt8), (∀ l ∈ ms, l.length ≤ 300) → lens ms ≤ 304 * ms.length := by
    intro ms
    induction ms with
    | nil => intro _; simp [lens]
    | cons x xs ih =>
      intro hm
      have := ih (fun l hl => hm l (by simp [hl]))
      have := hm x (by simp)
      simp only [lens, List.map_cons, List.sum_cons, List.length_cons] at *
      omega
  have := this ls h2
  omega

set_option maxRecDepth 100000 in
set_option maxHeartbeats 4000000 in
theorem w_TagTells {w : World} (k : UInt8) {v : Value} {ls : List (List UInt8)} (h : RdS w 0 w.heap.size v ls) (hk : KT w) :
    Calls Tryd.prog 3 #[.int .u8 (k.toNat : Int), v] w fun e w' => e = .returned (.bool true) ∧ Fr 0 0 w w' := by
  obtain ⟨G, hG⟩ : ∃ G, G = great ls := ⟨_, rfl⟩
  have HG := Lib.hid hG
  cases G with
  | true =>
    obtain ⟨a1, cap1, rfl, _⟩ := h.form
    clear hG
    go_enter Tryd.func3, Tryd.ntmps3
    go_wp2_with (go_at_call 20; refine (c_Great h).mono ?_; rintro e w2 ⟨rfl, rfl⟩; rw [← HG.out])
    go_ret
    exact ⟨rfl, Fr.refl _ _ _⟩
  | false =>
    obtain ⟨hn8, hl1, hp1⟩ := great_lens hG.symm
    obtain ⟨n, hn⟩ : ∃ n, n = ls.length := ⟨_, rfl⟩
    have HN := Lib.hid hn
    have key : ∀ a cap, v = .slice a n cap → (0 < n → ∃ b off, a = some ⟨b, off, none⟩) →
        Calls Tryd.prog 3 #[.int .u8 (k.toNat : Int), v] w fun e w' => e = .returned (.bool true) ∧ Fr 0 0 w w' := by
      rintro a cap rfl hpos
      have hn8' : n ≤ 8 := by omega
      have hl2 : lens ls ≤ 1073741824 := by omega
      have hl3 : lens ls ≤ 1073741000 := by omega
      have HP := Lib.hid hp1
      have HS : Hid ((tagB k ls == tagB k ls) = true) := (show _ = _ by simp)
      have HLS : Hid (decide (ls = ls) = true) := (show _ = _ by simp)
      clear hG hn8 hn hp1
      go_enter Tryd.func3, Tryd.ntmps3
      go_wp2_with (go_at_call 20; refine (c_Great h).mono ?_; rintro e w2 ⟨rfl, rfl⟩; rw [← HG.out])
      go_loopw [5, 6] (fun o i wr => ∃ j : Nat, j ≤ n ∧ i = .int .i64 j ∧ (∃ a c, o = .slice a j c ∧ OwS wr w.heap.size wr.heap.size (.slice a j c) (ls.take j)) ∧ Fr 0 0 w wr) (fun _ i _ => n - (intOf i).toNat)
      case atStart => exact ⟨0, Nat.zero_le _, rfl, ⟨none, 0, rfl, OwS.nil _ _ _⟩, Fr.refl _ _ _⟩
      case round =>
        obtain ⟨j, hj, rfl, ⟨a5, c5, rfl, hO⟩, hF⟩ := hrel
        have z1 := hF.size
        have hR := h.kept hF (.inr (Nat.zero_le _))
        by_cases hlt : j < n
        · obtain ⟨b, off, rfl⟩ := hpos (by omega)
          obtain ⟨x, hx⟩ : ∃ x, x = ls[j]'(by rw [← HN.out]; exact hlt) := ⟨_, rfl⟩
          obtain ⟨a7, c7, hcell, h7⟩ := hR.cel j (by rw [← HN.out]; exact hlt)
          rw [← hx] at hcell h7
          have hxl : x.length ≤ 300 := by rw [hx]; exact HP.out _ (List.getElem_mem _)
          have htk : (ls.take j).length = j := by rw [List.length_take, ← HN.out]; omega
          have hst : Hid (ls.take (j + 1) = ls.take j ++ [x]) := by
            show _ = _
            rw [List.take_add_one, List.getElem?_eq_getElem (by rw [← HN.out]; exact hlt), ← hx]
            rfl
          have HTK := Lib.hid htk
          have hO' : OwS wr w.heap.size wr.heap.size (.slice a5 (ls.take j).length c5) (ls.take j) := by rw [htk]; exact hO
          clear hx hR htk
          go_wp2_with (first
            | (go_at_call 21; refine (c_Twin h7 (by omega)).mono ?_; rintro e w2 ⟨v2, rfl, hO2, hF2⟩; obtain ⟨a2, c2, rfl⟩ : ∃ a c, v2 = .slice a x.length c := (let ⟨x, y, e, _⟩ := hO2.rd.form; ⟨x, y, e⟩); have z2 := hF2.size)
            | (at_builtin; refine wpl_append_slice (x := w2.heap.size) und35 ((hO.kept hF2 (.inr (Nat.zero_le _))).kept (Fr.alloc _ _) (.inr (Nat.zero_le _))) (hO2.rdU.kept (Fr.alloc _ _) (.inr (Nat.zero_le _))) (heap_alloc_new w2 _) (Nat.le_refl _) (by simp) z1 (by simp; omega) (by rw [HTK.out]; omega) rfl rfl rfl rfl ?_; intro a' c' w5 hO5 hF5 hk5; rw [HTK.out] at hO5 ⊢))
          go_roundw
          case rel =>
            have z5 := hF5.size
            refine ⟨j + 1, by omega, by go_num, ⟨a', c', rfl, ?_⟩, ((hF.trans hF2).trans (Fr.alloc _ _)).on hF5 (Nat.le_refl _)⟩
            rw [hst.out]
            exact hO5
          case measure => simp [intOf]; omega
        · obtain rfl : j = n := by omega
          have hOf : OwS wr w.heap.size wr.heap.size (.slice a5 j c5) ls := by
            rw [List.take_of_length_le (by rw [← HN.out]; exact Nat.le_refl _)] at hO
            exact hO
          have k1 := hk.kept hF (.inr (Nat.zero_le _))
          clear hO
          obtain ⟨wT, hwT⟩ : ∃ x, x = wr := ⟨_, rfl⟩
          rw [← hwT] at hOf k1 hF z1 hR ⊢
          clear hwT
          have t1 := trivial
          go_wp2_with (first
            | (go_at_call 22; refine (c_tagBytes k hOf.rds (Nat.le_refl _) hl2).mono ?_; rintro e w3 ⟨b3, rfl, hO3, hF3⟩; have z3 := hF3.size; have h3 := hR.kept hF3 (.inr (Nat.zero_le _)); have hOf3 := hOf.kept hF3 (.inr (Nat.zero_le _)); have k3 := k1.kept hF3 (.inr (Nat.zero_le _)))
            | (go_at_call 24; refine (c_refTagBytes k h3 (by omega) hl2).mono ?_; rintro e w4 ⟨b4, rfl, hO4, hF4⟩; have z4 := hF4.size; have h4 := h3.kept hF4 (.inr (Nat.zero_le _)); have hOf4 := hOf3.kept hF4 (.inr (Nat.zero_le _)); have k4 := k3.kept hF4 (.inr (Nat.zero_le _)); have hO34 := hO3.kept hF4 (.inr (Nat.zero_le _)))
            | (go_at_call 23; refine (c_Same hO34.rd hO4.rd).mono ?_; rintro e w8 ⟨rfl, rfl⟩; rw [HS.out])
            | (go_at_call 25; refine (c_tagOf k hOf4.rds (by omega) hl3 k4).mono ?_; rintro e w5 ⟨rfl, hF5⟩; have z5 := hF5.size; have h5 := h4.kept hF5 (.inr (Nat.zero_le _)); have hOf5 := hOf4.kept hF5 (.inr (Nat.zero_le _)); have k5 := k4.kept hF5 (.inr (Nat.zero_le _)); have hO35 := hO34.kept hF5 (.inr (Nat.zero_le _)))
            | (go_at_call 26; refine (c_refOf k h5 (by omega) hl3).mono ?_; rintro e w6 ⟨rfl, hF6⟩; have z6 := hF6.size; have h6 := h5.kept hF6 (.inr (Nat.zero_le _)); have hOf6 := hOf5.kept hF6 (.inr (Nat.zero_le _)); have k6 := k5.kept hF6 (.inr (Nat.zero_le _)); have hO36 := hO35.kept hF6 (.inr (Nat.zero_le _)))
            | (have _t := t1; refine wpl_eql leaves30 (by omega) row30 eqg30 (LF.bytes32 _ (shaB_length (tagB k ls))) (LF.bytes32 _ (shaB_length (tagB k ls))) rfl rfl rfl rfl ?_; intro q hq; obtain rfl : q = true := hq.2 rfl; clear hq t1 _t)
            | (go_at_call 27; refine (c_tagNone k6).mono ?_; rintro e w7 ⟨rfl, hF7⟩; have z7 := hF7.size; have h7 := h6.kept hF7 (.inr (Nat.zero_le _)); have hOf7 := hOf6.kept hF7 (.inr (Nat.zero_le _)); have hO37 := hO36.kept hF7 (.inr (Nat.zero_le _)))
            | (go_at_call 28; refine c_refNone.mono ?_; rintro e w8 ⟨rfl, hF8⟩; have z8 := hF8.size; have h8 := h7.kept hF8 (.inr (Nat.zero_le _)); have hOf8 := hOf7.kept hF8 (.inr (Nat.zero_le _)); have hO38 := hO37.kept hF8 (.inr (Nat.zero_le _)))
            | (refine wpl_eql leaves30 (by omega) row30 eqg30 (LF.bytes32 _ (shaB_length [0])) (LF.bytes32 _ (shaB_length [0])) rfl rfl rfl rfl ?_; intro q hq; obtain rfl : q = true := hq.2 rfl; clear hq)
            | (go_at_call 29; refine (c_spoil hO38.rdU).mono ?_; rintro e w9 ⟨rfl, hF9⟩; have h9 := h8.kept hF9 (.inl z1); have hOf9 := hOf8.kept hF9 (.inl (Nat.le_refl _)))
            | (go_at_call 30; refine (c_Same03 hOf9.rds h9).mono ?_; rintro e w10 ⟨rfl, hF10⟩; simp only [decide_true]))
          go_ret
          exact ⟨rfl, (((((((hF.trans hF3).trans hF4).trans hF5).trans hF6).trans hF7).trans hF8).on hF9 z1).trans hF10⟩
    obtain ⟨a, cap, e, r1, r2, r3⟩ := h.form
    refine key a cap (by rw [e, hn]) (fun hp => ?_)
    obtain ⟨b, off, cap', e', _⟩ := h.spot (by omega)
    rw [e] at e'
    cases e'
    exact ⟨b, off, rfl⟩

end Go.Proofs.YtgndidjfjdaagaaDoor
