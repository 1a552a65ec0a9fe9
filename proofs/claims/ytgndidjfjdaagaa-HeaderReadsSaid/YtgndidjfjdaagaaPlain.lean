/-
  Plain laws on lists of bytes and numbers: no program in sight.
-/
import Derived.Test.YtgndidjfjdaagaaRows
set_option linter.unusedSimpArgs false
set_option linter.unusedVariables false
namespace Go.Proofs.Ytgndidjfjdaagaa

/-- What bytes are, the first one the greatest. -/
def beN (l : List UInt8) : Nat := l.foldl (fun n c => 256 * n + c.toNat) 0

theorem beN_snoc (l : List UInt8) (c : UInt8) : beN (l ++ [c]) = 256 * beN l + c.toNat := by simp [beN]

theorem beN_from (l : List UInt8) : ∀ n : Nat, l.foldl (fun n c => 256 * n + c.toNat) n < (n + 1) * 256 ^ l.length := by
  induction l with
  | nil => intro n; simp
  | cons c l ih =>
    intro n
    have h := ih (256 * n + c.toNat)
    have hc := c.toNat_lt
    rw [List.foldl_cons, List.length_cons, Nat.pow_succ]
    refine Nat.lt_of_lt_of_le h ?_
    rw [Nat.mul_comm (256 ^ l.length) 256, ← Nat.mul_assoc]
    exact Nat.mul_le_mul_right _ (by omega)

theorem beN_lt (l : List UInt8) : beN l < 256 ^ l.length := by
  have h := beN_from l 0
  rw [Nat.zero_add, Nat.one_mul] at h
  exact h

theorem take_snoc {α : Type} (l : List α) (k : Nat) (h : k < l.length) : l.take (k + 1) = l.take k ++ [l[k]] := by
  rw [List.take_succ_eq_append_getElem h]

theorem beN_take (l : List UInt8) (k : Nat) (h : k < l.length) : beN (l.take (k + 1)) = 256 * beN (l.take k) + l[k].toNat := by
  rw [take_snoc l k h, beN_snoc]

theorem beN_take_lt (l : List UInt8) (k : Nat) (hk : k ≤ 8) : beN (l.take k) < 18446744073709551616 := by
  refine Nat.lt_of_lt_of_le (beN_lt _) ?_
  refine Nat.le_trans (Nat.pow_le_pow_right (by omega) (show (l.take k).length ≤ 8 by simp; omega)) (by decide)

/-- n bytes, of which the first k are src's, the others nought. -/
def fillB (src : List UInt8) (k n : Nat) : List UInt8 := src.take k ++ List.replicate (n - k) 0

theorem fillB_length (src : List UInt8) (k n : Nat) (h : k ≤ src.length) (hk : k ≤ n) : (fillB src k n).length = n := by simp [fillB]; omega
theorem fillB_zero (src : List UInt8) (n : Nat) : fillB src 0 n = List.replicate n 0 := by simp [fillB]
theorem fillB_all (src : List UInt8) (n : Nat) : fillB src n n = src.take n := by simp [fillB]
theorem fillB_set (src : List UInt8) (k n : Nat) (h : k < src.length) (hk : k < n) : (fillB src k n).set k src[k] = fillB src (k + 1) n := by
  obtain ⟨m, rfl⟩ : ∃ m, n = k + 1 + m := ⟨n - (k + 1), by omega⟩
  unfold fillB
  rw [take_snoc src k h, show k + 1 + m - k = m + 1 by omega, show k + 1 + m - (k + 1) = m by omega, List.replicate_succ, List.set_append_right _ _ (by simp; omega), List.append_assoc]
  simp only [List.length_take, Nat.min_eq_left (Nat.le_of_lt h), Nat.sub_self, List.set_cons_zero, List.singleton_append]

end Go.Proofs.Ytgndidjfjdaagaa
