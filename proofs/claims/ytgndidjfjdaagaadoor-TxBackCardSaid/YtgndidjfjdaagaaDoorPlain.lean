/-
  Plain laws on lists of bytes and numbers: no program in sight.
-/
import Derived.Test.YtgndidjfjdaagaaDoorRows
set_option linter.unusedSimpArgs false
set_option linter.unusedVariables false
namespace Go.Proofs.YtgndidjfjdaagaaDoor

/-- What bytes are, the first one the greatest. -/
def beN (l : List UInt8) : Nat := l.foldl (fun n c => 256 * n + c.toNat) 0

theorem beN_snoc (l : List UInt8) (c : UInt8) : beN (l ++ [c]) = 256 * beN l + c.toNat := by simp [beN]

theorem beN_from (l : List UInt8) : ∀ n : Nat, l.foldl (fun n c => 256 * n + c.toNat) n < (n + 1) * 256 ^ l.length := by
  induction l with
  | nil => intro n; simp
  | cons c l ih =>
    intro n
    have h := ih (256 * n + c.toNat)
    have hc := c.toNat_lt
    rw [List.foldl_cons, List.length_cons, Nat.pow_succ]
    refine Nat.lt_of_lt_of_le h ?_
    rw [Nat.mul_comm (256 ^ l.length) 256, ← Nat.mul_assoc]
    exact Nat.mul_le_mul_right _ (by omega)

theorem beN_lt (l : List UInt8) : beN l < 256 ^ l.length := by
  have h := beN_from l 0
  rw [Nat.zero_add, Nat.one_mul] at h
  exact h

theorem take_snoc {α : Type} (l : List α) (k : Nat) (h : k < l.length) : l.take (k + 1) = l.take k ++ [l[k]] := by
  rw [List.take_succ_eq_append_getElem h]

theorem beN_take (l : List UInt8) (k : Nat) (h : k < l.length) : beN (l.take (k + 1)) = 256 * beN (l.take k) + l[k].toNat := by
  rw [take_snoc l k h, beN_snoc]

theorem beN_take_lt (l : List UInt8) (k : Nat) (hk : k ≤ 8) : beN (l.take k) < 18446744073709551616 := by
  refine Nat.lt_of_lt_of_le (beN_lt _) ?_
  refine Nat.le_trans (Nat.pow_le_pow_right (by omega) (show (l.take k).length ≤ 8 by simp; omega)) (by decide)

/-- The lowest k bytes of n, the first one the greatest. -/
def beB : Nat → Nat → List UInt8
  | 0, _ => []
  | k + 1, n => UInt8.ofNat (n / 256 ^ k % 256) :: beB k n

theorem beB_length (k n : Nat) : (beB k n).length = k := by
  induction k with
  | zero => rfl
  | succ k ih => simp [beB, ih]

/-- s bytes, of which the last k are those of n, the others nought. -/
def digB (s k n : Nat) : List UInt8 := List.replicate (s - k) 0 ++ beB k n

theorem digB_length (s k n : Nat) (h : k ≤ s) : (digB s k n).length = s := by simp [digB, beB_length]; omega
theorem digB_zero (s n : Nat) : digB s 0 n = List.replicate s 0 := by simp [digB, beB]
theorem digB_all (s n : Nat) : digB s s n = beB s n := by simp [digB]
theorem digB_set (s k n : Nat) (h : k < s) : (digB s k n).set (s - 1 - k) (UInt8.ofNat (n / 256 ^ k % 256)) = digB s (k + 1) n := by
  obtain ⟨m, rfl⟩ : ∃ m, s = k + 1 + m := ⟨s - (k + 1), by omega⟩
  unfold digB
  rw [show k + 1 + m - k = m + 1 by omega, show k + 1 + m - (k + 1) = m by omega, show k + 1 + m - 1 - k = m by omega, List.replicate_succ', List.append_assoc, List.set_append_right _ _ (by simp)]
  simp [beB]

theorem beN_cons (c : UInt8) (l : List UInt8) : beN (c :: l) = c.toNat * 256 ^ l.length + beN l := by
  have aux : ∀ (l : List UInt8) (n : Nat), l.foldl (fun n c => 256 * n + c.toNat) n = n * 256 ^ l.length + l.foldl (fun n c => 256 * n + c.toNat) 0 := by
    intro l
    induction l with
    | nil => intro n; simp
    | cons x l ih =>
      intro n
      rw [List.foldl_cons, List.foldl_cons, ih (256 * n + x.toNat), ih (256 * 0 + x.toNat), List.length_cons, Nat.pow_succ, Nat.add_mul, Nat.mul_zero, Nat.zero_add, Nat.add_assoc]
      congr 1
      rw [Nat.mul_comm 256 n, Nat.mul_assoc, Nat.mul_comm 256]
  unfold beN
  rw [List.foldl_cons, aux l (256 * 0 + c.toNat), Nat.mul_zero, Nat.zero_add]

theorem beN_beB (k n : Nat) : beN (beB k n) = n % 256 ^ k := by
  induction k with
  | zero => simp [beB, beN, Nat.mod_one]
  | succ k ih =>
    rw [beB, beN_cons, ih, beB_length]
    have h : (UInt8.ofNat (n / 256 ^ k % 256)).toNat = n / 256 ^ k % 256 := by simp
    rw [h, Nat.pow_succ, Nat.mod_mul, Nat.add_comm, Nat.mul_comm]

theorem beB_beN (l : List UInt8) : beB l.length (beN l) = l := by
  induction l with
  | nil => rfl
  | cons c l ih =>
    have hl := beN_lt l
    have aux : ∀ k m, k ≤ l.length → beB k (m * 256 ^ l.length + beN l) = beB k (beN l) := by
      intro k
      induction k with
      | zero => intro m _; rfl
      | succ k ihk =>
        intro m hk
        simp only [beB]
        rw [ihk m (by omega)]
        congr 2
        obtain ⟨j, hj⟩ : ∃ j, l.length = k + 1 + j := ⟨l.length - (k + 1), by omega⟩
        rw [hj, show m * 256 ^ (k + 1 + j) = 256 ^ k * (256 * (m * 256 ^ j)) by rw [Nat.pow_add, Nat.pow_succ]; simp only [Nat.mul_assoc, Nat.mul_left_comm, Nat.mul_comm], Nat.mul_add_div (Nat.pow_pos (by omega)), Nat.mul_add_mod]
    rw [List.length_cons, beB, beN_cons, aux _ _ (Nat.le_refl _), ih]
    congr 1
    rw [Nat.mul_comm, Nat.mul_add_div (Nat.pow_pos (by omega)), Nat.div_eq_of_lt hl, Nat.add_zero, Nat.mod_eq_of_lt c.toNat_lt]
    simp

/-- n bytes, of which the first k are src's, the others nought. -/
def fillB (src : List UInt8) (k n : Nat) : List UInt8 := src.take k ++ List.replicate (n - k) 0

theorem fillB_length (src : List UInt8) (k n : Nat) (h : k ≤ src.length) (hk : k ≤ n) : (fillB src k n).length = n := by simp [fillB]; omega
theorem fillB_zero (src : List UInt8) (n : Nat) : fillB src 0 n = List.replicate n 0 := by simp [fillB]
theorem fillB_all (src : List UInt8) (n : Nat) : fillB src n n = src.take n := by simp [fillB]
theorem fillB_set (src : List UInt8) (k n : Nat) (h : k < src.length) (hk : k < n) : (fillB src k n).set k src[k] = fillB src (k + 1) n := by
  obtain ⟨m, rfl⟩ : ∃ m, n = k + 1 + m := ⟨n - (k + 1), by omega⟩
  unfold fillB
  rw [take_snoc src k h, show k + 1 + m - k = m + 1 by omega, show k + 1 + m - (k + 1) = m by omega, List.replicate_succ, List.set_append_right _ _ (by simp; omega), List.append_assoc]
  simp only [List.length_take, Nat.min_eq_left (Nat.le_of_lt h), Nat.sub_self, List.set_cons_zero, List.singleton_append]

end Go.Proofs.YtgndidjfjdaagaaDoor
