/-
  beadrolllaw03.spoil.
-/
import Derived.Test.YtgndidjfjdaagaaDoorSlices
set_option linter.unusedSimpArgs false
set_option linter.unusedVariables false
namespace Go.Proofs.YtgndidjfjdaagaaDoor
open Go.RowKit

set_option maxHeartbeats 1000000 in
theorem c_spoil {w : World} {lo hi : Nat} {v : Value} {l : List UInt8} (h : RdU w lo hi v l) : Calls Tryd.prog 29 #[v] w fun e w' => e = .returned (.tuple #[]) ∧ Fr lo hi w w' := by
  rcases Nat.eq_zero_or_pos l.length with h0 | h0
  · obtain ⟨a, c, rfl, _⟩ := h.1.form
    rw [h0]
    clear h
    go_enter Tryd.func29, Tryd.ntmps29
    go_wp2_with fail
    go_loop [2] (fun i => i = .int .i64 0) (fun _ => 0)
    case atStart => rfl
    case round =>
      subst hrel
      go_wp2_with fail
      go_end0
      exact ⟨rfl, Fr.refl _ _ _⟩
  · obtain ⟨b, off, cap, rfl, hc1, hc2, hb1, hb2⟩ := h.1.spot h0
    obtain ⟨cur, t, hB⟩ := h.2 b off _ cap rfl (List.length_pos_iff.1 h0)
    have hce : ∀ j (hj : j < l.length), w.cell? ⟨b, off + j, none⟩ = .some (ub l[j]) := fun j hj => h.1.cel j hj
    obtain ⟨n, hn⟩ : ∃ n, n = l.length := ⟨_, rfl⟩
    have HN := Lib.hid hn
    unfold maxLen at hc2
    have hce' : ∀ j, j < n → ∃ x : UInt8, w.cell? ⟨b, off + j, none⟩ = .some (.int .u8 (x.toNat : Int)) := fun j hj => ⟨l[j]'(by omega), hce j (by omega)⟩
    have hcl : ∀ j, j < n → off + j < cur.length := fun j hj => by
      obtain ⟨x, hx⟩ := hce' j hj
      rw [hB.cell] at hx
      exact (List.getElem?_eq_some_iff.1 hx).1
    rw [← hn] at hc1 h0 ⊢
    clear h hce hn
    go_enter Tryd.func29, Tryd.ntmps29
    go_wp2_with fail
    go_loopw [2] (fun i wr => ∃ (j : Nat) (c : List Value), j ≤ n ∧ i = .int .i64 j ∧ Blk wr b c t ∧ c.length = cur.length ∧ (∀ k, j ≤ k → k < n → wr.cell? ⟨b, off + k, none⟩ = w.cell? ⟨b, off + k, none⟩) ∧ Fr b (b + 1) w wr) (fun i _ => n - (intOf i).toNat)
    case atStart => exact ⟨0, cur, Nat.zero_le _, rfl, hB, rfl, fun _ _ _ => rfl, Fr.refl _ _ _⟩
    case round =>
      obtain ⟨j, c, hj, rfl, hBc, hcc, hkc, hF⟩ := hrel
      have HKC := Lib.hid hkc
      by_cases hlt : j < n
      · obtain ⟨x, hx⟩ := hce' j hlt
        have hcx : wr.cell? ⟨b, off + j, none⟩ = .some (.int .u8 (x.toNat : Int)) := by rw [hkc j (Nat.le_refl _) hlt]; exact hx
        have hxl := x.toNat_lt
        have hof := hcl j hlt
        have hfz := hBc.frozen (off + j)
        have HCE := Lib.hid hce'
        have HCL := Lib.hid hcl
        clear hce' hcl hx hkc
        go_wp2_with (refine wpl_store_cell (off := off + j) hBc (by rw [hcc]; exact hof) siz5' rfl rfl rfl rfl rfl rfl ?_; intro w3 hB3 hF3)
        go_roundw
        case rel =>
          refine ⟨j + 1, _, by omega, by go_num, hB3, by rw [List.length_set]; exact hcc, fun k h1 h2 => ?_, hF.trans hF3⟩
          rw [← HKC.out k (by omega) h2, hB3.cell, hBc.cell, List.getElem?_set_ne (by omega)]
        case measure => simp [intOf]; omega
      · obtain rfl : j = n := by omega
        clear hce' hcl hkc
        go_wp2_with fail
        go_end0
        exact ⟨rfl, hF.mono (.inl hb1) (.inl (by omega))⟩

end Go.Proofs.YtgndidjfjdaagaaDoor
