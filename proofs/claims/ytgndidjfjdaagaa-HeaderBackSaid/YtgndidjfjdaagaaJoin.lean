/-
  bytes.Join by the shelf's contract (the laying below was written by the kit's lay-plain.mjs), and header.join at five parts.
-/
import Derived.Shelf.Bytes.SlJoin
import Derived.Ground.SlbNamesProg
import Derived.Test.YtgndidjfjdaagaaLaws
set_option linter.unusedSimpArgs false
set_option linter.unusedVariables false
namespace Go.Proofs.Ytgndidjfjdaagaa
open Go.Shelf Go.RowKit
def laysJoin_ren : Go.Shelf.Ren := ⟨fun | 14 => 59 | 15 => 90 | n => n, fun | 26 => 35 | 22 => 22 | 3 => 3 | 4 => 4 | 0 => 0 | 9 => 9 | 20 => 20 | 5 => 5 | n => n, fun | n => n⟩
theorem laysJoin : Go.Proofs.SlLaysJ.n14 Try.prog laysJoin_ren := {
  mixed := by kernel_rfl
  f14 := Try.func59.trans (congrArg some (by kernel_rfl))
  f15 := Try.func90.trans (congrArg some (by kernel_rfl))
  t0 := Try.underlying0
  a0 := Try.isAgg0
  z0 := Try.sizeOf0
  v0 := Try.zeroValue0
  t3 := Try.underlying3
  a3 := Try.isAgg3
  z3 := Try.sizeOf3
  v3 := Try.zeroValue3
  t4 := Try.underlying4
  a4 := Try.isAgg4
  z4 := Try.sizeOf4
  v4 := Try.zeroValue4
  t9 := Try.underlying9
  a9 := Try.isAgg9
  z9 := Try.sizeOf9
  v9 := Try.zeroValue9
  t20 := Try.underlying20
  a20 := Try.isAgg20
  z20 := Try.sizeOf20
  v20 := Try.zeroValue20
  t22 := Try.underlying22
  a22 := Try.isAgg22
  z22 := Try.sizeOf22
  v22 := Try.zeroValue22
  t26 := Try.underlying35
  a26 := Try.isAgg35
  z26 := Try.sizeOf35
  v26 := Try.zeroValue35
  t5 := Try.underlying5
  z5 := Try.sizeOf5
  i5 := by kernel_rfl }

theorem RdB.holds {w : World} {lo hi : Nat} {v : Value} {l : List UInt8} (h : RdB w lo hi v l) : Lib.HoldsBytes w v l := by
  obtain ⟨a, cap, e, r1, r2, r3, r4⟩ := h
  refine ⟨a, cap, e, fun hn => List.eq_nil_of_length_eq_zero (by have := r3 hn; omega), fun x hx i y hi => ?_⟩
  obtain ⟨hlt, hy⟩ := List.getElem?_eq_some_iff.1 hi
  obtain ⟨b, off, e2, _, _, hc⟩ := r4 (fun e => by rw [e] at hlt; simp at hlt)
  rw [hx] at e2
  cases e2
  rw [Addr.add_lit, hc i hlt, ← hy]
  rfl

theorem RdB.of_fresh {B : Nat} {w : World} {v : Value} {l : List UInt8} (h : Lib.FreshBytes B w v l) : RdB w B w.heap.size v l := by
  obtain ⟨g, cap, zs, rfl, hB, hl, hm, hz, hb, hbs, hc, hf⟩ := h
  refine ⟨_, cap, rfl, hl, hm, (fun h => by cases h), fun hne => ⟨g, 0, rfl, hB, ?_, fun j hj => ?_⟩⟩
  · have hp := List.length_pos_iff.2 hne
    exact World.block_lt_of_cell? w _ (hc 0 (by omega))
  · rw [Nat.zero_add, hc j (by omega)]
    have e : l[j]? = (Lib.bytesOf (zs.take l.length))[j]? := by rw [hbs]
    rw [List.getElem?_eq_getElem hj] at e
    have hzb := hb (zs[j]'(by omega)) (List.getElem_mem _)
    simp [Lib.bytesOf, List.getElem?_take_of_lt hj, List.getElem?_eq_getElem (show j < zs.length by omega)] at e
    rw [e]
    simp [ub, List.getD, List.getElem?_eq_getElem (show j < zs.length by omega)]
    omega

theorem c_join {w : World} {g a1 b1 a2 b2 a3 b3 a4 b4 a5 b5 : Nat} {v1 v2 v3 v4 v5 : Value} {l1 l2 l3 l4 l5 : List UInt8} (hb : Blk w g [v1, v2, v3, v4, v5] 22)
    (h1 : RdB w a1 b1 v1 l1) (h2 : RdB w a2 b2 v2 l2) (h3 : RdB w a3 b3 v3 l3) (h4 : RdB w a4 b4 v4 l4) (h5 : RdB w a5 b5 v5 l5) (hl : l1.length + l2.length + l3.length + l4.length + l5.length ≤ 1000) :
    Calls Try.prog 39 #[.slice (some ⟨g, 0, none⟩) 5 5] w fun e w' => ∃ v', e = .returned v' ∧ RdB w' w.heap.size w'.heap.size v' (l1 ++ (l2 ++ (l3 ++ (l4 ++ l5)))) ∧ Fr 0 0 w w' := by
  have hP : Lib.PartsAt w ⟨g, 0, none⟩ [v1, v2, v3, v4, v5] [l1, l2, l3, l4, l5] := by
    refine ⟨rfl, fun i v hv => ?_, fun i v l hv hl => ?_⟩
    · rw [Addr.add_lit, Nat.zero_add, hb.cell]
      exact hv
    · match i, hv, hl with
      | 0, hv, hl => cases hv; cases hl; exact h1.holds
      | 1, hv, hl => cases hv; cases hl; exact h2.holds
      | 2, hv, hl => cases hv; cases hl; exact h3.holds
      | 3, hv, hl => cases hv; cases hl; exact h4.holds
      | 4, hv, hl => cases hv; cases hl; exact h5.holds
      | _ + 5, hv, hl => simp at hv
  have hj := Any.bytes_Join_many laysJoin g 0 5 5 [v1, v2, v3, v4, v5] [l1, l2, l3, l4, l5] (.slice none 0 0) [] w rfl (by decide) hP (by decide) ⟨none, 0, rfl, fun _ => rfl, fun _ h => by cases h⟩ (by decide) (by simp [Lib.lens]; omega)
  have hj' : Calls Try.prog 59 #[.slice (some ⟨g, 0, none⟩) 5 5, .slice none 0 0] w fun e w' => ∃ v', e = .returned v' ∧ RdB w' w.heap.size w'.heap.size v' (l1 ++ (l2 ++ (l3 ++ (l4 ++ l5)))) ∧ Fr 0 0 w w' :=
    Calls.mono hj fun e w' ⟨v', e1, e2, e3⟩ => ⟨v', e1, by have := RdB.of_fresh e2; simpa [Lib.join, List.intercalate] using this, Fr.of_new e3⟩
  go_enter Try.func39, Try.ntmps39
  go_wp2_with (go_at_call 59; refine hj'.mono ?_; rintro e w3 ⟨v3, rfl, hO3, hF3⟩)
  go_ret
  exact ⟨_, rfl, hO3, hF3⟩

end Go.Proofs.Ytgndidjfjdaagaa
