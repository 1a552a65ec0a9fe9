/-
  beadrolllaw03.spoil, beadrollref03.Parts.
-/
import Derived.Test.YtgndidjfjdaagaaParts2
set_option linter.unusedSimpArgs false
set_option linter.unusedVariables false
namespace Go.Proofs.Ytgndidjfjdaagaa
open Go.RowKit

set_option maxHeartbeats 1000000 in
theorem c_spoil {w : World} {lo hi : Nat} {v : Value} {l : List UInt8} (h : RdU w lo hi v l) : Calls Try.prog 16 #[v] w fun e w' => e = .returned (.tuple #[]) ∧ Fr lo hi w w' := by
  rcases Nat.eq_zero_or_pos l.length with h0 | h0
  · obtain ⟨a, c, rfl, _⟩ := h.1.form
    rw [h0]
    clear h
    go_enter Try.func16, Try.ntmps16
    go_wp2_with fail
    go_loop [2] (fun i => i = .int .i64 0) (fun _ => 0)
    case atStart => rfl
    case round =>
      subst hrel
      go_wp2_with fail
      go_end0
      exact ⟨rfl, Fr.refl _ _ _⟩
  · obtain ⟨b, off, cap, rfl, hc1, hc2, hb1, hb2⟩ := h.1.spot h0
    obtain ⟨cur, t, hB⟩ := h.2 b off _ cap rfl (List.length_pos_iff.1 h0)
    have hce : ∀ j (hj : j < l.length), w.cell? ⟨b, off + j, none⟩ = .some (ub l[j]) := fun j hj => h.1.cel j hj
    obtain ⟨n, hn⟩ : ∃ n, n = l.length := ⟨_, rfl⟩
    have HN := Lib.hid hn
    unfold maxLen at hc2
    have hce' : ∀ j, j < n → ∃ x : UInt8, w.cell? ⟨b, off + j, none⟩ = .some (.int .u8 (x.toNat : Int)) := fun j hj => ⟨l[j]'(by omega), hce j (by omega)⟩
    have hcl : ∀ j, j < n → off + j < cur.length := fun j hj => by
      obtain ⟨x, hx⟩ := hce' j hj
      rw [hB.cell] at hx
      exact (List.getElem?_eq_some_iff.1 hx).1
    rw [← hn] at hc1 h0 ⊢
    clear h hce hn
    go_enter Try.func16, Try.ntmps16
    go_wp2_with fail
    go_loopw [2] (fun i wr => ∃ (j : Nat) (c : List Value), j ≤ n ∧ i = .int .i64 j ∧ Blk wr b c t ∧ c.length = cur.length ∧ (∀ k, j ≤ k → k < n → wr.cell? ⟨b, off + k, none⟩ = w.cell? ⟨b, off + k, none⟩) ∧ Fr b (b + 1) w wr) (fun i _ => n - (intOf i).toNat)
    case atStart => exact ⟨0, cur, Nat.zero_le _, rfl, hB, rfl, fun _ _ _ => rfl, Fr.refl _ _ _⟩
    case round =>
      obtain ⟨j, c, hj, rfl, hBc, hcc, hkc, hF⟩ := hrel
      have HKC := Lib.hid hkc
      by_cases hlt : j < n
      · obtain ⟨x, hx⟩ := hce' j hlt
        have hcx : wr.cell? ⟨b, off + j, none⟩ = .some (.int .u8 (x.toNat : Int)) := by rw [hkc j (Nat.le_refl _) hlt]; exact hx
        have hxl := x.toNat_lt
        have hof := hcl j hlt
        have hfz := hBc.frozen (off + j)
        have HCE := Lib.hid hce'
        have HCL := Lib.hid hcl
        clear hce' hcl hx hkc
        go_wp2_with (refine wpl_store_cell (off := off + j) hBc (by rw [hcc]; exact hof) siz5' rfl rfl rfl rfl rfl rfl ?_; intro w3 hB3 hF3)
        go_roundw
        case rel =>
          refine ⟨j + 1, _, by omega, by go_num, hB3, by rw [List.length_set]; exact hcc, fun k h1 h2 => ?_, hF.trans hF3⟩
          rw [← HKC.out k (by omega) h2, hB3.cell, hBc.cell, List.getElem?_set_ne (by omega)]
        case measure => simp [intOf]; omega
      · obtain rfl : j = n := by omega
        clear hce' hcl hkc
        go_wp2_with fail
        go_end0
        exact ⟨rfl, hF.mono (.inl hb1) (.inl (by omega))⟩

theorem prts_bound : ∀ (f : Nat) (l : List UInt8), (prts f l).2 ≤ 10
  | 0, l => by simp [prts]
  | f + 1, l => by
    rw [prts]
    split
    · simp
    · split
      · simp
      · split
        · simp
        · split
          · simp
          · exact prts_bound f _

set_option maxRecDepth 100000 in
set_option maxHeartbeats 1000000 in
theorem c_refParts {w : World} {lo hi : Nat} {v : Value} {L : List UInt8} (h : RdB w lo hi v L) (hl : L.length ≤ 1073741824) (hhi : hi ≤ w.heap.size) :
    Calls Try.prog 14 #[v] w fun e w' => ∃ v', e = .returned (.tuple #[.int .u8 ((partsR L).1.toNat : Int), v', .int .i64 ((partsR L).2.2 : Int)]) ∧ OwS w' w.heap.size w'.heap.size v' (partsR L).2.1 ∧ Fr 0 0 w w' := by
  cases L with
  | nil =>
    obtain ⟨a, c, rfl, _⟩ := h.form
    clear h
    go_enter Try.func14, Try.ntmps14
    go_wp2_with fail
    go_ret3
    exact ⟨.slice none 0 0, rfl, OwS.nil _ _ _, Fr.refl _ _ _⟩
  | cons x0 t =>
    obtain ⟨b, off, cap, rfl, hc1, hc2, hb1, hb2⟩ := h.spot (by simp)
    have hce := h.cel 0 (by simp)
    simp only [List.getElem_cons_zero, Nat.add_zero, ub] at hce
    obtain ⟨M, hM⟩ : ∃ M, M = (x0 :: t).length := ⟨_, rfl⟩
    have HM := Lib.hid hM
    have hM1 : 1 ≤ M := by rw [hM]; simp
    have HMt : Hid (t.length = M - 1) := by show _ = _; rw [hM]; simp
    have HX : Hid ((x0 :: t).drop 1 = t) := (show _ = _ from rfl)
    have HR : Hid (partsR (x0 :: t) = if (prts t.length t).2 = 0 then (x0, (prts t.length t).1, 0) else (0, [], (prts t.length t).2)) := (show _ = _ from rfl)
    obtain ⟨X, hX⟩ : ∃ X, X = x0 :: t := ⟨_, rfl⟩
    rw [← hX] at h HR HX HM hM hc1 hl ⊢
    rw [← hM] at hc1 hl h ⊢
    clear hM hX
    have hMne : ¬ M = 0 := by omega
    have hMe : ((M : Int) == 0) = false := by simp; omega
    go_enter Try.func14, Try.ntmps14
    go_wp2_with fail
    go_loopw [5, 6] (fun o i wr => ∃ (s : List (List UInt8)) (rest : List UInt8) (k at_ : Nat) (a : Option Addr) (c : Nat), i = .int .i64 at_ ∧ 1 ≤ at_ ∧ at_ ≤ M ∧ Hid (X.drop at_ = rest) ∧ Hid (prts t.length t = (s ++ (prts k rest).1, (prts k rest).2)) ∧ rest.length ≤ k ∧ 4 * s.length + rest.length ≤ t.length ∧ o = .slice a s.length c ∧ OwS wr w.heap.size wr.heap.size (.slice a s.length c) s ∧ Fr 0 0 w wr) (fun _ i _ => M - (intOf i).toNat)
    case atStart => exact ⟨[], t, t.length, 1, none, 0, rfl, Nat.le_refl _, hM1, HX, (show _ = _ by simp), Nat.le_refl _, by simp, rfl, OwS.nil _ _ _, Fr.refl _ _ _⟩
    case round =>
      obtain ⟨s, rest, k, at_, a, c, rfl, ha1, ha2, hD, hP, hk, hs, rfl, hO, hF⟩ := hrel
      have hrl : rest.length = M - at_ := by rw [← hD.out, List.length_drop, ← HM.out]
      have hw := h.kept hF (.inr (Nat.zero_le _))
      have cx := hF.cell hce (.inr (Nat.zero_le _))
      have HRL := Lib.hid hrl
      by_cases hlt : at_ < M
      · have hrest : rest ≠ [] := by rintro rfl; simp at hrl; omega
        obtain ⟨k, rfl⟩ : ∃ k', k = k' + 1 := ⟨k - 1, by omega⟩
        have hP' := hP.out
        rw [prts, if_neg hrest, hrl] at hP'
        clear hrest hce h
        by_cases h4 : M - at_ < 4
        · rw [if_pos h4] at hP'
          have HP := Lib.hid hP'
          have hq : (M : Int) - at_ < 4 := by omega
          clear hP hP' hrl cx
          go_wp2_with fail
          go_ret3
          rw [HR.out, HP.out]
          exact ⟨.slice none 0 0, rfl, OwS.nil _ _ _, hF⟩
        · rw [if_neg h4] at hP'
          obtain ⟨N, hN⟩ : ∃ N, N = beN (rest.take 4) := ⟨_, rfl⟩
          have hNb : N < 4294967296 := by rw [hN]; have := beN_lt (rest.take 4); rw [List.length_take, Nat.min_eq_left (by omega)] at this; simpa using this
          rw [← hN] at hP'
          have HN := Lib.hid hN
          have h4' : at_ + 4 ≤ M := by omega
          have h4i : ¬ (M : Int) - at_ < 4 := by omega
          have hdl : (rest.drop 4).length = M - (at_ + 4) := by rw [List.length_drop, hrl]; omega
          rw [hdl] at hP'
          have HDL := Lib.hid hdl
          have HT : Hid ((X.take (at_ + 4)).drop at_ = rest.take 4) := by show _ = _; rw [List.drop_take, hD.out, Nat.add_sub_cancel_left]
          have HT4 : Hid ((rest.take 4).length = 4) := by show _ = _; rw [List.length_take, hrl]; omega
          clear hN hrl h4 hdl
          by_cases hm : 4096 < N
          · rw [if_pos hm] at hP'
            have HP := Lib.hid hP'
            clear hP hP' cx
            go_wp2_with (first
              | (refine wpl_slice_mid (I := at_) (J := at_ + 4) hw (by omega) h4' rfl rfl rfl rfl (congrArg (Value.int .i64) (show ((at_ : Int) + 4) = ((at_ + 4 : Nat) : Int) by omega)) ?_; intro ad' cap' hr; rw [HT.out] at hr; rw [Nat.add_sub_cancel_left] at hr ⊢)
              | (go_at_call 35; refine (c_Number hr (by rw [HT4.out]; omega)).mono ?_; rintro e w' ⟨rfl, rfl⟩; rw [← HN.out]))
            go_ret3
            rw [HR.out, HP.out]
            exact ⟨.slice none 0 0, rfl, OwS.nil _ _ _, hF⟩
          · rw [if_neg hm] at hP'
            have hNi : (N : Int) ≤ 4096 := by omega
            by_cases hs2 : M - (at_ + 4) < N
            · rw [if_pos hs2] at hP'
              have HP := Lib.hid hP'
              have hsi : (M : Int) - (at_ + 4) < N := by omega
              clear hP hP' cx
              go_wp2_with (first
                | (refine wpl_slice_mid (I := at_) (J := at_ + 4) hw (by omega) h4' rfl rfl rfl rfl (congrArg (Value.int .i64) (show ((at_ : Int) + 4) = ((at_ + 4 : Nat) : Int) by omega)) ?_; intro ad' cap' hr; rw [HT.out] at hr; rw [Nat.add_sub_cancel_left] at hr ⊢)
                | (go_at_call 35; refine (c_Number hr (by rw [HT4.out]; omega)).mono ?_; rintro e w' ⟨rfl, rfl⟩; rw [← HN.out]))
              go_ret3
              rw [HR.out, HP.out]
              exact ⟨.slice none 0 0, rfl, OwS.nil _ _ _, hF⟩
            · rw [if_neg hs2] at hP'
              have HP := Lib.hid hP'
              have hsi : ¬ (M : Int) - (at_ + 4) < N := by omega
              have hle : at_ + 4 + N ≤ M := by omega
              have HT2 : Hid ((X.take (at_ + 4 + N)).drop (at_ + 4) = (rest.drop 4).take N) := by show _ = _; rw [List.drop_take, ← List.drop_drop, hD.out, Nat.add_sub_cancel_left]
              have HT3 : Hid (((rest.drop 4).take N).length = N) := by show _ = _; rw [List.length_take, HDL.out]; omega
              have z1 := hF.size
              clear hP hP' cx
              have t1 := trivial
              go_wp2_with (first
                | (have _t := t1; refine wpl_slice_mid (I := at_) (J := at_ + 4) hw (by omega) h4' rfl rfl rfl rfl (congrArg (Value.int .i64) (show ((at_ : Int) + 4) = ((at_ + 4 : Nat) : Int) by omega)) ?_; intro ad' cap' hr; rw [HT.out] at hr; rw [Nat.add_sub_cancel_left] at hr ⊢; clear t1 _t)
                | (go_at_call 35; refine (c_Number hr (by rw [HT4.out]; omega)).mono ?_; rintro e w' ⟨rfl, rfl⟩; rw [← HN.out])
                | (refine wpl_slice_mid (I := at_ + 4) (J := at_ + 4 + N) (hw.kept (Fr.refl 0 0 _) (.inr (Nat.zero_le _))) (by omega) hle rfl rfl rfl (congrArg (Value.int .i64) (show ((at_ : Int) + 4) = ((at_ + 4 : Nat) : Int) by omega)) (congrArg (Value.int .i64) (show ((at_ : Int) + 4 + N) = ((at_ + 4 + N : Nat) : Int) by omega)) ?_; intro ad2 cap2 hr2; rw [HT2.out] at hr2; rw [Nat.add_sub_cancel_left] at hr2 ⊢)
                | (go_at_call 9; refine (c_Twin hr2 (by rw [HT3.out]; omega)).mono ?_; rintro e w2 ⟨v2, rfl, hO2, hF2⟩; obtain ⟨a2, c2, rfl⟩ : ∃ a c, v2 = .slice a N c := (let ⟨x, y, e, _⟩ := hO2.rd.form; ⟨x, y, by rw [e, HT3.out]⟩); have hU2 : RdU w2 wr.heap.size w2.heap.size (.slice a2 ((rest.drop 4).take N).length c2) ((rest.drop 4).take N) := (by rw [HT3.out]; exact hO2.rdU); have z2 := hF2.size)
                | (at_builtin; refine wpl_append_slice (x := w2.heap.size) und35 ((hO.kept hF2 (.inr (Nat.zero_le _))).kept (Fr.alloc _ _) (.inr (Nat.zero_le _))) (hU2.kept (Fr.alloc _ _) (.inr (Nat.zero_le _))) (by rw [HT3.out]; exact heap_alloc_new w2 _) (Nat.le_refl _) (by simp) z1 (by simp; omega) (by have := HMt.out; omega) rfl rfl rfl rfl ?_; intro a' c' w5 hO5 hF5 hk5))
              go_roundw
              case rel =>
                have z5 := hF5.size
                refine ⟨s ++ [(rest.drop 4).take N], (rest.drop 4).drop N, k, at_ + 4 + N, a', c', by go_num, by omega, hle, ?_, ?_, ?_, ?_, by simp, by simpa using hO5, ?_⟩
                · show _ = _
                  rw [← List.drop_drop, ← List.drop_drop, hD.out]
                · show _ = _
                  rw [HP.out]
                  simp
                · rw [List.length_drop, HDL.out]; have := HRL.out; omega
                · rw [List.length_drop, HDL.out, List.length_append, List.length_singleton]; have := HRL.out; omega
                · exact ((hF.trans hF2).trans (Fr.alloc _ _)).on hF5 (Nat.le_refl _)
              case measure => simp [intOf]; omega
      · have hrest : rest = [] := List.eq_nil_of_length_eq_zero (by omega)
        subst hrest
        have hP' := hP.out
        rw [prts_nil] at hP'
        have HP := Lib.hid hP'
        have hM0 : (0 : Int) < (M : Int) := by omega
        clear hP hP' hrl hce h
        go_wp2_with fail
        go_ret3
        rw [HR.out, HP.out]
        refine ⟨.slice a s.length c, rfl, ?_, hF⟩
        simpa using hO

end Go.Proofs.Ytgndidjfjdaagaa
