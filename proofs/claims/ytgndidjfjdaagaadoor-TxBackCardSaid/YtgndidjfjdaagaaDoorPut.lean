/-
  Contracts of num.Put and beadrollref01.Digits.
-/
import Derived.Test.YtgndidjfjdaagaaDoorNum
set_option linter.unusedSimpArgs false
set_option linter.unusedVariables false
namespace Go.Proofs.YtgndidjfjdaagaaDoor
open Go.RowKit

theorem siz5' : (Tryd.prog.info? 5).map (·.size) = some 1 := by kernel_rfl

theorem shr_nat (n k : Nat) : (n : Int) / (2 : Int) ^ (8 * k) = ((n / 256 ^ k : Nat) : Int) := by
  have h : (2 : Int) ^ (8 * k) = ((2 ^ (8 * k) : Nat) : Int) := (Int.natCast_pow 2 (8 * k)).symm
  rw [h, Nat.pow_mul]
  exact (Int.natCast_ediv _ _).symm

theorem shr_byte (n k : Nat) : (n : Int) / 2 ^ (8 * k) % 256 = ((UInt8.ofNat (n / 256 ^ k % 256)).toNat : Int) := by
  rw [shr_nat]
  simp

theorem OwB.of_blk {w : World} {lo hi g n : Nat} {l : List UInt8} (h : Blk w g (l.map ub) 5) (hl : l.length = n) (h1 : lo ≤ g) (h2 : g < hi) (hm : n ≤ 1099511627776) : OwB w lo hi (.slice (some ⟨g, 0, none⟩) n n) l := by
  subst hl
  exact .inr (.inr ⟨g, 0, l.length, _, rfl, h1, h2, h, Nat.le_refl _, by unfold maxLen; omega, by simp, List.take_of_length_le (by simp)⟩)

set_option maxHeartbeats 1000000 in
theorem c_Put {w : World} (n s : Nat) (hn : n < 18446744073709551616) (h1 : 1 ≤ s) (h8 : s ≤ 8) (hlt : n < 256 ^ s) :
    Calls Tryd.prog 77 #[.int .u64 n, .int .i64 s] w fun e w' => ∃ v', e = .returned (.tuple #[v', .int .i64 0]) ∧ OwB w' w.heap.size w'.heap.size v' (beB s n) ∧ Fr 0 0 w w' := by
  rcases Nat.lt_or_ge s 8 with hs8 | hs8
  · have hz : ((n : Int) / 2 ^ (8 * s)) = 0 := by
      rw [shr_nat, Nat.div_eq_of_lt hlt]
      rfl
    go_enter Tryd.func77, Tryd.ntmps77
    go_wp2_with (refine wpl_make (n := s) und22 inf5 rfl rfl rfl rfl (by omega) (by omega) (by omega) ?_; intro g w1 hB hF hg hs; clear hz)
    have hR := Lib.hid hlt
    clear hlt
    go_loopw [28] (fun i wr => ∃ k : Nat, k ≤ s ∧ i = .int .i64 k ∧ Blk wr g ((digB s k n).map ub) 5 ∧ Fr g (g + 1) w1 wr) (fun i _ => s - (intOf i).toNat)
    case atStart => exact ⟨0, Nat.zero_le _, rfl, by rw [digB_zero]; exact hB, Fr.refl _ _ _⟩
    case round =>
      obtain ⟨k, hk, rfl, hBk, hFk⟩ := hrel
      by_cases hkl : k < s
      · obtain ⟨x, hx⟩ : ∃ x, x = UInt8.ofNat (n / 256 ^ k % 256) := ⟨_, rfl⟩
        have HX := Lib.hid hx
        have hxe : Hid ((n : Int) / 2 ^ (8 * k) % 256 = (x.toNat : Int)) := by rw [hx]; exact shr_byte n k
        clear hx hB
        go_wp2_with (refine wpl_store_cell (off := s - 1 - k) (v := ub x) hBk (by rw [List.length_map, digB_length s k n hk]; omega) siz5' rfl rfl rfl rfl rfl (congrArg (Value.int .u8) hxe.out) ?_; intro w3 hB3 hF3)
        go_roundw
        case rel => exact ⟨k + 1, by omega, by go_num, by rw [← digB_set s k n hkl, List.map_set, ← HX.out]; exact hB3, hFk.trans hF3⟩
        case measure => simp [intOf]; omega
      · obtain rfl : k = s := by omega
        go_wp2_with fail
        go_ret2
        rw [digB_all] at hBk
        exact ⟨_, rfl, OwB.of_blk hBk (beB_length _ _) (by have := hF.size; omega) (by have := hF.size; have := hFk.size; omega) (by omega), hF.on hFk hg⟩
  · obtain rfl : s = 8 := by omega
    go_enter Tryd.func77, Tryd.ntmps77
    go_wp2_with (refine wpl_make (n := 8) und22 inf5 rfl rfl rfl rfl (by omega) (by omega) (by omega) ?_; intro g w1 hB hF hg hs)
    have hR := Lib.hid hlt
    clear hlt
    go_loopw [28] (fun i wr => ∃ k : Nat, k ≤ 8 ∧ i = .int .i64 k ∧ Blk wr g ((digB 8 k n).map ub) 5 ∧ Fr g (g + 1) w1 wr) (fun i _ => 8 - (intOf i).toNat)
    case atStart => exact ⟨0, Nat.zero_le _, rfl, by rw [digB_zero]; exact hB, Fr.refl _ _ _⟩
    case round =>
      obtain ⟨k, hk, rfl, hBk, hFk⟩ := hrel
      by_cases hkl : k < 8
      · obtain ⟨x, hx⟩ : ∃ x, x = UInt8.ofNat (n / 256 ^ k % 256) := ⟨_, rfl⟩
        have HX := Lib.hid hx
        have hxe : Hid ((n : Int) / 2 ^ (8 * k) % 256 = (x.toNat : Int)) := by rw [hx]; exact shr_byte n k
        clear hx hB
        go_wp2_with (refine wpl_store_cell (off := 8 - 1 - k) (v := ub x) hBk (by rw [List.length_map, digB_length 8 k n hk]; omega) siz5' rfl rfl rfl rfl rfl (congrArg (Value.int .u8) hxe.out) ?_; intro w3 hB3 hF3)
        go_roundw
        case rel => exact ⟨k + 1, by omega, by go_num, by rw [← digB_set 8 k n hkl, List.map_set, ← HX.out]; exact hB3, hFk.trans hF3⟩
        case measure => simp [intOf]; omega
      · obtain rfl : k = 8 := by omega
        go_wp2_with fail
        go_ret2
        rw [digB_all] at hBk
        exact ⟨_, rfl, OwB.of_blk hBk (beB_length _ _) (by have := hF.size; omega) (by have := hF.size; have := hFk.size; omega) (by omega), hF.on hFk hg⟩


set_option maxHeartbeats 1000000 in
theorem c_Put_many {w : World} (n s : Nat) (hn : n < 18446744073709551616) (h1 : 1 ≤ s) (h8 : s < 8) (hge : 256 ^ s ≤ n) :
    Calls Tryd.prog 77 #[.int .u64 n, .int .i64 s] w fun e w' => e = .returned (.tuple #[.slice none 0 0, .int .i64 4]) ∧ w = w' := by
  have hz : 0 < ((n : Int) / 2 ^ (8 * s)) := by
    rw [shr_nat]
    have := Nat.div_pos hge (Nat.pow_pos (by omega))
    omega
  have hS := Lib.hid hge
  clear hge
  go_enter Tryd.func77, Tryd.ntmps77
  go_wp2_with fail
  go_ret2
  exact ⟨rfl, rfl⟩

theorem digB_mod (s k n : Nat) : digB s k (n % 256 ^ s) = digB s k n ∨ s < k := by
  by_cases h : s < k
  · exact .inr h
  · refine .inl ?_
    unfold digB
    congr 1
    have : ∀ j, j ≤ s → beB j (n % 256 ^ s) = beB j n := by
      intro j
      induction j with
      | zero => intro _; rfl
      | succ j ih =>
        intro hj
        simp only [beB]
        rw [ih (by omega)]
        congr 2
        obtain ⟨m, rfl⟩ : ∃ m, s = j + 1 + m := ⟨s - (j + 1), by omega⟩
        rw [Nat.pow_add, Nat.pow_succ, Nat.mul_assoc, Nat.mod_mul_right_div_self, Nat.mod_mul_right_mod]
    exact this k (by omega)

set_option maxHeartbeats 1000000 in
theorem c_Digits {w : World} (n s : Nat) (hn : n < 18446744073709551616) (h8 : s ≤ 8) :
    Calls Tryd.prog 78 #[.int .u64 n, .int .i64 s] w fun e w' => ∃ v' b, e = .returned (.tuple #[v', .bool b]) ∧ OwB w' w.heap.size w'.heap.size v' (beB s n) ∧ Fr 0 0 w w' := by
  go_enter Tryd.func78, Tryd.ntmps78
  go_wp2_with (refine wpl_make (n := s) und22 inf5 rfl rfl rfl rfl (by omega) (by omega) (by omega) ?_; intro g w1 hB hF hg hs)
  go_loopw [0, 7] (fun m i wr => ∃ k : Nat, k ≤ s ∧ i = .int .i64 ((s : Int) - 1 - k) ∧ m = .int .u64 ((n / 256 ^ k : Nat) : Int) ∧ Blk wr g ((digB s k n).map ub) 5 ∧ Fr g (g + 1) w1 wr) (fun _ i _ => (intOf i + 1).toNat)
  case atStart => exact ⟨0, Nat.zero_le _, by go_num, by simp, by rw [digB_zero]; exact hB, Fr.refl _ _ _⟩
  case round =>
    obtain ⟨k, hk, rfl, rfl, hBk, hFk⟩ := hrel
    by_cases hkl : k < s
    · obtain ⟨m, hm⟩ : ∃ m, m = n / 256 ^ k := ⟨_, rfl⟩
      have hml : m ≤ n := by rw [hm]; exact Nat.div_le_self _ _
      have HM := Lib.hid hm
      rw [← hm]
      obtain ⟨x, hx⟩ : ∃ x, x = UInt8.ofNat (m % 256) := ⟨_, rfl⟩
      have HX := Lib.hid hx
      have hxe : Hid ((m : Int) % 256 = (x.toNat : Int)) := by show (m : Int) % 256 = (x.toNat : Int); rw [hx]; simp
      clear hx hm hB
      go_wp2_with (refine wpl_store_cell (off := s - 1 - k) (v := ub x) hBk (by rw [List.length_map, digB_length s k n hk]; omega) siz5' rfl rfl rfl rfl rfl (congrArg (Value.int .u8) hxe.out) ?_; intro w3 hB3 hF3)
      go_roundw
      case rel => exact ⟨k + 1, by omega, by go_num, by rw [Nat.pow_succ, ← Nat.div_div_eq_div_mul, ← HM.out]; go_num, by rw [← digB_set s k n hkl, List.map_set, ← HM.out, ← HX.out]; exact hB3, hFk.trans hF3⟩
      case measure => simp [intOf]; omega
    · obtain rfl : k = s := by omega
      go_wp2_with fail
      go_ret2
      rw [digB_all] at hBk
      exact ⟨_, _, rfl, OwB.of_blk hBk (beB_length _ _) (by have := hF.size; omega) (by have := hF.size; have := hFk.size; omega) (by omega), hF.on hFk hg⟩

end Go.Proofs.YtgndidjfjdaagaaDoor
