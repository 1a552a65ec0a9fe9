/-
  Contracts of small functions on bytes: Twin, Same, Number, slices.Clone, num.Take.
-/
import Derived.Test.YtgndidjfjdaagaaDoorLaws
import Derived.Test.YtgndidjfjdaagaaDoorPlain
set_option linter.unusedSimpArgs false
set_option linter.unusedVariables false
namespace Go.Proofs.YtgndidjfjdaagaaDoor
open Go.RowKit

set_option maxHeartbeats 400000 in
theorem c_Twin {w : World} {lo hi : Nat} {v : Value} {l : List UInt8} (h : RdB w lo hi v l) (hl : l.length ≤ 1073741824) :
    Calls Tryd.prog 21 #[v] w fun e w' => ∃ v', e = .returned v' ∧ OwB w' w.heap.size w'.heap.size v' l ∧ Fr 0 0 w w' := by
  go_enter Tryd.func21, Tryd.ntmps21
  go_wp2_with (at_builtin; refine wpl_append (OwB.nil w w.heap.size w.heap.size) h (by simp; omega) rfl rfl rfl rfl ?_; intro v' w' lo' hi' h1 h2 h3)
  go_ret
  exact ⟨_, rfl, h1.mono (by omega) (by have := h2.size; omega), h2.mono (by omega) (by omega)⟩

set_option maxHeartbeats 400000 in
theorem c_Same {w : World} {a b c d : Nat} {v u : Value} {l m : List UInt8} (h : RdB w a b v l) (k : RdB w c d u m) :
    Calls Tryd.prog 23 #[v, u] w fun e w' => e = .returned (.bool (l == m)) ∧ w = w' := by
  have h1 := run_string h
  have h2 := run_string k
  go_enter Tryd.func23, Tryd.ntmps23
  go_wp2
  go_ret
  exact ⟨by simp, rfl⟩

set_option maxHeartbeats 400000 in
theorem c_Number {w : World} {lo hi : Nat} {v : Value} {l : List UInt8} (h : RdB w lo hi v l) (hl : l.length ≤ 8) :
    Calls Tryd.prog 109 #[v] w fun e w' => e = .returned (.int .u64 (beN l)) ∧ w = w' := by
  rcases Nat.eq_zero_or_pos l.length with h0 | h0
  · obtain ⟨a, cap, rfl, _⟩ := h.form
    obtain rfl := List.length_eq_zero_iff.1 h0
    go_enter Tryd.func109, Tryd.ntmps109
    go_wp2
    go_loop [3, 4] (fun n i => n = .int .u64 0 ∧ i = .int .i64 0) (fun _ _ => 0)
    case atStart => exact ⟨rfl, rfl⟩
    case round =>
      obtain ⟨rfl, rfl⟩ := hrel
      go_wp2
      go_ret
      exact ⟨rfl, rfl⟩
  · obtain ⟨b, off, cap, rfl, _⟩ := h.spot h0
    go_enter Tryd.func109, Tryd.ntmps109
    go_wp2
    go_loop [3, 4] (fun n i => ∃ k : Nat, k ≤ l.length ∧ i = .int .i64 k ∧ n = .int .u64 (beN (l.take k))) (fun _ i => l.length - (intOf i).toNat)
    case atStart => exact ⟨0, Nat.zero_le _, rfl, rfl⟩
    case round =>
      obtain ⟨k, hk, rfl, rfl⟩ := hrel
      by_cases hlt : k < l.length
      · obtain ⟨x, hx⟩ : ∃ x, x = l[k] := ⟨_, rfl⟩
        obtain ⟨m, hm⟩ : ∃ m, m = beN (l.take k) := ⟨_, rfl⟩
        have hcell : w.cell? ⟨b, off + k, none⟩ = some (.int .u8 (x.toNat : Int)) := by rw [hx]; exact h.cel k hlt
        have HS : Hid (beN (l.take (k + 1)) = 256 * m + x.toNat) := by rw [hx, hm]; exact beN_take l k hlt
        have HB : Hid (beN (l.take (k + 1)) < 18446744073709551616) := beN_take_lt l (k + 1) (by omega)
        have hxl : (x.toNat : Int) ≤ 255 := by have := x.toNat_lt; omega
        rw [← hm]
        clear hx hm h
        go_wp2
        go_round
        case rel => exact ⟨k + 1, by omega, by go_num, by rw [HS.out]; have := HB.out; rw [HS.out] at this; rw [IntWalk.u64_in (256 * (m : Int)) (by omega), IntWalk.u64_in _ (by omega)]; go_num⟩
        case measure => simp [intOf]; omega
      · go_wp2
        go_ret
        exact ⟨by rw [List.take_of_length_le (by omega)]; rfl, rfl⟩

set_option maxHeartbeats 400000 in
theorem c_Clone {w : World} {lo hi : Nat} {v : Value} {l : List UInt8} (h : RdB w lo hi v l) (hl : l.length ≤ 1073741824) :
    Calls Tryd.prog 82 #[v] w fun e w' => ∃ v', e = .returned v' ∧ OwB w' w.heap.size w'.heap.size v' l ∧ Fr 0 0 w w' := by
  obtain ⟨a, cap, rfl, h1, h2, h3⟩ := h.form
  cases a with
  | none =>
    have h0 : l = [] := List.eq_nil_of_length_eq_zero (by have := h3 rfl; omega)
    subst h0
    obtain rfl := h3 rfl
    have hn := fun w => Lib.run_eql_slice_nil (P := Tryd.prog) w 24 5 none 0 0 0 0 und22
    go_enter Tryd.func82, Tryd.ntmps82
    go_wp2
    go_ret
    exact ⟨_, rfl, OwB.nil _ _ _, Fr.refl _ _ _⟩
  | some a =>
    have hn := fun w => Lib.run_eql_slice_nil (P := Tryd.prog) w 24 5 (some a) l.length cap 0 0 und22
    simp only [Option.isNone_some] at hn
    go_enter Tryd.func82, Tryd.ntmps82
    go_wp2_with (at_builtin; refine wpl_append (lo := w.heap.size) (hi := w.heap.size) (.inr (.inl ⟨rfl, _, rfl⟩)) (h.kept (Fr.alloc w _) (by omega)) (by simp; omega) rfl rfl rfl rfl ?_; intro v' w' lo' hi' g1 g2 g3)
    go_ret
    simp only [World.size_alloc] at g3
    exact ⟨_, rfl, g1.mono (by omega) (by have := g2.size; simp at this; omega), (Fr.alloc w _).trans (g2.mono (by omega) (by omega))⟩


set_option maxHeartbeats 400000 in
theorem c_Take {w : World} {lo hi : Nat} {v : Value} {l : List UInt8} (n : Nat) (h : RdB w lo hi v l) (hl : l.length ≤ 1073741824) (h1 : 1 ≤ n) (h8 : n ≤ 8) (hn : n ≤ l.length) :
    Calls Tryd.prog 106 #[v, .int .i64 n] w fun e w' => ∃ v', e = .returned (.tuple #[.int .u64 (beN (l.take n)), v', .int .i64 0]) ∧ OwB w' w.heap.size w'.heap.size v' (l.drop n) ∧ Fr 0 0 w w' := by
  obtain ⟨b, off, cap, rfl, hc1, hc2, hb1, hb2⟩ := h.spot (by omega)
  unfold maxLen at hc2
  go_enter Tryd.func106, Tryd.ntmps106
  go_wp2_with fail
  go_loop [4, 26] (fun r i => ∃ k : Nat, k ≤ n ∧ i = .int .i64 k ∧ r = .int .u64 (beN (l.take k))) (fun _ i => n - (intOf i).toNat)
  case atStart => exact ⟨0, Nat.zero_le _, rfl, rfl⟩
  case round =>
    obtain ⟨k, hk, rfl, rfl⟩ := hrel
    by_cases hlt : k < n
    · obtain ⟨x, hx⟩ : ∃ x, x = l[k] := ⟨_, rfl⟩
      obtain ⟨m, hm⟩ : ∃ m, m = beN (l.take k) := ⟨_, rfl⟩
      have hcell : w.cell? ⟨b, off + k, none⟩ = some (.int .u8 (x.toNat : Int)) := by rw [hx]; exact h.cel k (by omega)
      have HS : Hid (beN (l.take (k + 1)) = 256 * m + x.toNat) := by rw [hx, hm]; exact beN_take l k (by omega)
      have HB : Hid (beN (l.take (k + 1)) < 18446744073709551616) := beN_take_lt l (k + 1) (by omega)
      have hxl : (x.toNat : Int) ≤ 255 := by have := x.toNat_lt; omega
      rw [← hm]
      clear hx hm h
      go_wp2
      go_round
      case rel => exact ⟨k + 1, by omega, by go_num, by rw [or_u64 m _ (by omega) (by rw [← HS.out]; exact HB.out), ← HS.out]⟩
      case measure => simp [intOf]; omega
    · obtain rfl : k = n := by omega
      go_wp2_with (first | (refine wpl_slice_from h hn rfl rfl rfl rfl ?_; intro ad' cap' hr) | (go_at_call 82; refine (c_Clone hr (by simp; omega)).mono ?_; rintro e w' ⟨v', rfl, g1, g2⟩))
      go_ret3
      exact ⟨v', rfl, g1, g2⟩

end Go.Proofs.YtgndidjfjdaagaaDoor
