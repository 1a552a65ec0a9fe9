/-
  Words of 32 bits: what a reference's round and schedule come to, beside the program's own.
-/
import Derived.Test.YtgndidjfjdaagaaDoorShaOf
import Derived.Laws.BitsLemmas
import Derived.Laws.Closers25b
set_option linter.unusedSimpArgs false
set_option linter.unusedVariables false
namespace Go.Proofs.YtgndidjfjdaagaaDoor

/-- A word of 32 bits. -/
def W32 (x : Int) : Prop := 0 ≤ x ∧ x < 4294967296

theorem W32.bits (op : BinOp) (a b : Int) : W32 (bits op .u32 a b) := ⟨bits_lo_u32 op a b, by have := bits_hi_u32 op a b; omega⟩
theorem W32.mod (x : Int) : W32 (x % 4294967296) := ⟨Int.emod_nonneg _ (by omega), Int.emod_lt_of_pos _ (by omega)⟩
theorem W32.wrap (x : Int) : W32 (IntKind.u32.wrap x) := by rw [IntKind.wrap_u32]; exact W32.mod x
theorem W32.rot (x : Int) (n : Nat) : W32 (rot x n) := W32.bits _ _ _
theorem W32.zero : W32 0 := ⟨by omega, by omega⟩

/-- 'not e', as the program has it, is what is left of 2^32 - 1. -/
theorem xor_max (e : Int) (h : W32 e) : Go.bits .xor .u32 (if IntKind.u32.signed = true then -1 else IntKind.u32.max) e = 4294967295 - e := by
  obtain ⟨n, rfl⟩ := Int.eq_ofNat_of_zero_le h.1
  have hn : n < 4294967296 := by have := h.2; omega
  have e1 : (if IntKind.u32.signed = true then -1 else IntKind.u32.max) = ((4294967295 : Nat) : Int) := by decide
  rw [e1]
  have e2 : (BitVec.ofNat 32 4294967295) = BitVec.allOnes 32 := by decide
  have key : ((BitVec.ofNat 32 4294967295) ^^^ (BitVec.ofNat 32 n)).toNat = 4294967295 - n := by
    rw [e2, BitVec.allOnes_xor, BitVec.toNat_not, BitVec.toNat_ofNat, Nat.mod_eq_of_lt (by simpa using hn)]
  unfold Go.bits
  simp only [IntKind.bits, BitVec.ofInt_natCast, BitVec.toNat_xor]
  refine (congrArg (fun m : Nat => IntKind.u32.wrap (m : Int)) ?_).trans (b := IntKind.u32.wrap ((4294967295 - n : Nat) : Int)) ?_
  · exact key
  · rw [IntKind.wrap_u32]
    omega

/-- A word of four bytes, by hand. -/
theorem word4_eq (a b c d : UInt8) : word4 a b c d = 256 * (256 * (256 * (a.toNat : Int) + b.toNat) + c.toNat) + d.toNat := by
  have ha := a.toNat_lt
  have hb := b.toNat_lt
  have hc := c.toNat_lt
  have hd := d.toNat_lt
  have hk : ∀ n : Int, 0 ≤ n → n < 2 ^ 32 → IntKind.u32.wrap n = n := fun n h0 h1 => by rw [IntKind.wrap_u32]; exact Int.emod_eq_of_lt h0 (by simpa using h1)
  have w1 : IntKind.u32.wrap (a.toNat : Int) = a.toNat := hk _ (by omega) (by simp <;> omega)
  have w2 : IntKind.u32.wrap (b.toNat : Int) = b.toNat := hk _ (by omega) (by simp <;> omega)
  have w3 : IntKind.u32.wrap (c.toNat : Int) = c.toNat := hk _ (by omega) (by simp <;> omega)
  have w4 : IntKind.u32.wrap (d.toNat : Int) = d.toNat := hk _ (by omega) (by simp <;> omega)
  unfold word4
  rw [w1, w2, w3, w4, hk ((a.toNat : Int) * 16777216) (by omega) (by simp <;> omega), hk ((b.toNat : Int) * 65536) (by omega) (by simp <;> omega), hk ((c.toNat : Int) * 256) (by omega) (by simp <;> omega)]
  rw [bits_join .u32 32 (by decide) hk 24 ((a.toNat : Int) * 16777216) ((b.toNat : Int) * 65536) (by omega) (by simp <;> omega) (by simp <;> omega) (by omega) (by simp <;> omega) (by simp <;> omega)]
  rw [bits_join .u32 32 (by decide) hk 16 ((a.toNat : Int) * 16777216 + (b.toNat : Int) * 65536) ((c.toNat : Int) * 256) (by omega) (by simp <;> omega) (by simp <;> omega) (by omega) (by simp <;> omega) (by simp <;> omega)]
  rw [bits_join .u32 32 (by decide) hk 8 ((a.toNat : Int) * 16777216 + (b.toNat : Int) * 65536 + (c.toNat : Int) * 256) (d.toNat : Int) (by omega) (by simp <;> omega) (by simp <;> omega) (by omega) (by simp <;> omega) (by simp <;> omega)]
  omega

/-- A word's first i bytes of l from 4t on. -/
def horner (l : List UInt8) (t : Nat) : Nat → Int
  | 0 => 0
  | i + 1 => 256 * horner l t i + (l.getD (4 * t + i) 0).toNat
theorem horner_lt (l : List UInt8) (t i : Nat) : 0 ≤ horner l t i ∧ horner l t i < 256 ^ i := by
  induction i with
  | zero => simp [horner]
  | succ i ih =>
    have := (l.getD (4 * t + i) 0).toNat_lt
    simp only [horner]
    refine ⟨by omega, ?_⟩
    rw [Int.pow_succ]
    omega
theorem horner_4 (l : List UInt8) (t : Nat) : horner l t 4 = word4 (l.getD (4 * t) 0) (l.getD (4 * t + 1) 0) (l.getD (4 * t + 2) 0) (l.getD (4 * t + 3) 0) := by
  rw [word4_eq]
  simp [horner]

theorem W32.step4 (x16 x15 x7 x2 : Int) : W32 (step4 x16 x15 x7 x2) := W32.wrap _
theorem W32.word4 (a b c d : UInt8) : W32 (word4 a b c d) := W32.bits _ _ _

theorem W32.sch (l : List UInt8) (t : Nat) : ∀ x ∈ schW l t, W32 x := by
  induction t with
  | zero => intro x hx; simp [schW] at hx
  | succ t ih =>
    intro x hx
    rw [schW, List.mem_append, List.mem_singleton] at hx
    rcases hx with hx | rfl
    · exact ih x hx
    · split
      · exact W32.word4 _ _ _ _
      · exact W32.step4 _ _ _ _
theorem getD_mem {l : List Int} {t : Nat} {p : Int → Prop} (h : ∀ x ∈ l, p x) (h0 : p 0) : p (l.getD t 0) := by
  rw [List.getD_eq_getElem?_getD]
  cases e : l[t]? with
  | none => exact h0
  | some x => exact h x (List.mem_of_getElem? e)
theorem W32.KL (t : Nat) : W32 (KL.getD t 0) := getD_mem (p := W32) (by unfold Go.Proofs.YtgndidjfjdaagaaDoor.KL; intro x hx; simp only [List.mem_cons, List.not_mem_nil, or_false] at hx; unfold W32; omega) W32.zero
theorem W32.H0 : ∀ x ∈ H0, W32 x := by unfold Go.Proofs.YtgndidjfjdaagaaDoor.H0; intro x hx; simp only [List.mem_cons, List.not_mem_nil, or_false] at hx; unfold W32; omega
theorem W32.rnd (v : List Int) (k w : Int) (h : ∀ x ∈ v, W32 x) : ∀ x ∈ rnd v k w, W32 x := by
  unfold Go.Proofs.YtgndidjfjdaagaaDoor.rnd
  split
  · rename_i a b c d e f g h'
    intro x hx
    simp only [List.mem_cons, List.not_mem_nil, or_false] at hx h
    rcases hx with rfl | rfl | rfl | rfl | rfl | rfl | rfl | rfl
    · exact W32.mod _
    · exact h _ (by simp)
    · exact h _ (by simp)
    · exact h _ (by simp)
    · exact W32.mod _
    · exact h _ (by simp)
    · exact h _ (by simp)
    · exact h _ (by simp)
  · exact h
theorem W32.rnds (H : List Int) (l : List UInt8) (h : ∀ x ∈ H, W32 x) (t : Nat) : ∀ x ∈ rndsW H l t, W32 x := by
  induction t with
  | zero => exact h
  | succ t ih => exact W32.rnd _ _ _ ih
theorem W32.blk (H : List Int) (l : List UInt8) : ∀ x ∈ blkW H l, W32 x := by
  intro x hx
  unfold blkW at hx
  obtain ⟨i, _, rfl⟩ := List.mem_map.1 hx
  exact W32.mod _
theorem W32.st (P : List UInt8) (k : Nat) : ∀ x ∈ stK P k, W32 x := by
  cases k with
  | zero => exact W32.H0
  | succ k => exact W32.blk _ _

end Go.Proofs.YtgndidjfjdaagaaDoor
