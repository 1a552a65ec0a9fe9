/-
  Arguments of a row: slices of slices of bytes; a byte.
-/
import Derived.Test.YtgndidjfjdaagaaDoorFrame
import Derived.Test.YtgndidjfjdaagaaDoorTag
set_option linter.unusedSimpArgs false
set_option linter.unusedVariables false
set_option linter.constructorNameAsVariable false
namespace Go.Proofs.YtgndidjfjdaagaaDoor
open Go.ChangeShapes Go.WideShapes Go.ChangeAt Go.RowKit

theorem RdB.of_cell {H : Type} {enc : TypeId × Value → H} {W : World} {n : Nat} {c : Value} {x : DataW H × List MemPlace} (h : DataW.trod enc Tryd.prog W 0 (fun _ => true) true n 24 [c] = some x) : ∃ l, RdB W 0 W.heap.size c l := by
  have hs : ∃ a l cp, c = .slice a l cp := by
    rcases open_ints Tryd.underlying24 Tryd.underlying5 (by kernel_rfl) h with ⟨hcs, _⟩ | ⟨a, m, cp, zs, hcs, _⟩
    · simp at hcs
      exact ⟨_, _, _, hcs⟩
    · simp at hcs
      exact ⟨_, _, _, hcs⟩
  obtain ⟨a, l, cp, rfl⟩ := hs
  exact RdB.of_trod (d := x.1) (p := x.2) ⟨n, by simpa [Value.cells] using h⟩ (f := 0) rfl

theorem RdS.of_trod {H : Type} {enc : TypeId × Value → H} {W : World} {f : Nat} {a0 : Option Addr} {len0 cap0 : Nat} {d : DataW H} {p : List MemPlace}
    (h0 : DataW.Trod enc Tryd.prog W 0 (fun _ => true) true 22 (.slice a0 len0 cap0) d p) (hf : f = 0) : ∃ ls, RdS W 0 W.heap.size (.slice a0 len0 cap0) ls := by
  obtain ⟨fuel, hf⟩ := h0
  have c1 : Tryd.prog.cellsOf 24 = 1 := by kernel_rfl
  rcases DataW.trod_slice Tryd.underlying22 hf with ⟨hcs, _⟩ | ⟨a, len, cap, elems, rest, n, _, hcs, _, _, hl, hm, hlen, hel, _⟩
  · simp [Value.cells] at hcs
    obtain ⟨rfl, rfl, rfl⟩ := hcs
    exact ⟨[], RdS.nil _ _ _⟩
  · simp [Value.cells] at hcs
    obtain ⟨rfl, rfl, rfl⟩ := hcs
    have key : ∀ i, i < len0 → ∃ c l, W.cell? (a.add i) = some c ∧ RdB W 0 W.heap.size c l := by
      intro i hi
      have hE := hel i hi
      rw [c1, Nat.mul_one, List.getElem?_eq_getElem (by omega)] at hE
      simp only [Option.bind_eq_some_iff] at hE
      obtain ⟨cs1, hc1, hy1⟩ := hE
      have e0 : (a.add i).add 0 = a.add i := by simp [Addr.add]
      have hcc : ∃ c, cs1 = [c] ∧ W.cell? (a.add i) = some c := by
        unfold World.cells? at hc1
        split at hc1
        · simp only [List.range_succ, List.range_zero, List.nil_append, List.mapM_cons, List.mapM_nil, e0] at hc1
          cases hcc : W.cell? (a.add i) with
          | none => simp [hcc] at hc1
          | some c => simp [hcc] at hc1; exact ⟨c, hc1.symm, rfl⟩
        · cases hc1
      obtain ⟨c, rfl, hcell⟩ := hcc
      obtain ⟨l, hr⟩ := RdB.of_cell hy1
      exact ⟨c, l, hcell, hr⟩
    have hex : ∃ F : Nat → List UInt8, ∀ i, i < len0 → ∃ c, W.cell? (a.add i) = some c ∧ RdB W 0 W.heap.size c (F i) := by
      refine ⟨fun i => if h : i < len0 then (key i h).choose_spec.choose else [], fun i hi => ?_⟩
      simp only [dif_pos hi]
      exact ⟨(key i hi).choose, (key i hi).choose_spec.choose_spec⟩
    obtain ⟨F, hF⟩ := hex
    refine ⟨(List.range len0).map F, some a, cap0, by simp, by simpa using hl, hm, (fun h => by cases h), fun hne => ?_⟩
    have hpos : 0 < len0 := by
      rcases Nat.eq_zero_or_pos len0 with h | h
      · subst h; simp at hne
      · exact h
    obtain ⟨b, off, spot⟩ := a
    obtain ⟨c0, hc0, _⟩ := hF 0 hpos
    have hspot : spot = none := by simpa [Addr.add] using World.cell?_spot hc0
    subst hspot
    have hb : b < W.heap.size := by simpa [Addr.add] using World.block_lt_of_cell? W _ hc0
    refine ⟨b, off, rfl, Nat.zero_le _, hb, fun j hj => ?_⟩
    have hj' : j < len0 := by simpa using hj
    obtain ⟨c, hc, hr⟩ := hF j hj'
    rw [Addr.add_lit] at hc
    exact ⟨c, hc, by simpa using hr⟩

set_option maxRecDepth 100000 in
theorem open_u8 {H : Type} {enc : TypeId × Value → H} {W : World} {r : Reach} {base : Nat} {v : Value} {d : DataW H} {p : List MemPlace} (h : Value.okWide Tryd.prog W r base 5 v)
    (h0 : DataW.Trod enc Tryd.prog W 0 (fun _ => true) true 5 v d p) : ∃ k : UInt8, v = .int .u8 (k.toNat : Int) := by
  obtain ⟨n, rfl, _, _, hw⟩ := open_int Tryd.underlying5 h h0
  have hb := bounds_u8 hw
  refine ⟨UInt8.ofNat n.toNat, ?_⟩
  simp
  omega

end Go.Proofs.YtgndidjfjdaagaaDoor
