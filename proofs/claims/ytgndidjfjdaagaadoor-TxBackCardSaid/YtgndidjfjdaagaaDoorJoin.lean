/-
  bytes.Join by the shelf's contract (the laying below was written by the kit's lay-plain.mjs), and header.join at five parts.
-/
import Derived.Test.YtgndidjfjdaagaaDoorJoinLay
import Derived.Test.YtgndidjfjdaagaaDoorLaws
set_option linter.unusedSimpArgs false
set_option linter.unusedVariables false
namespace Go.Proofs.YtgndidjfjdaagaaDoor
open Go.Shelf Go.RowKit
theorem RdB.holds {w : World} {lo hi : Nat} {v : Value} {l : List UInt8} (h : RdB w lo hi v l) : Lib.HoldsBytes w v l := by
  obtain ⟨a, cap, e, r1, r2, r3, r4⟩ := h
  refine ⟨a, cap, e, fun hn => List.eq_nil_of_length_eq_zero (by have := r3 hn; omega), fun x hx i y hi => ?_⟩
  obtain ⟨hlt, hy⟩ := List.getElem?_eq_some_iff.1 hi
  obtain ⟨b, off, e2, _, _, hc⟩ := r4 (fun e => by rw [e] at hlt; simp at hlt)
  rw [hx] at e2
  cases e2
  rw [Addr.add_lit, hc i hlt, ← hy]
  rfl

theorem RdB.of_fresh {B : Nat} {w : World} {v : Value} {l : List UInt8} (h : Lib.FreshBytes B w v l) : RdB w B w.heap.size v l := by
  obtain ⟨g, cap, zs, rfl, hB, hl, hm, hz, hb, hbs, hc, hf⟩ := h
  refine ⟨_, cap, rfl, hl, hm, (fun h => by cases h), fun hne => ⟨g, 0, rfl, hB, ?_, fun j hj => ?_⟩⟩
  · have hp := List.length_pos_iff.2 hne
    exact World.block_lt_of_cell? w _ (hc 0 (by omega))
  · rw [Nat.zero_add, hc j (by omega)]
    have e : l[j]? = (Lib.bytesOf (zs.take l.length))[j]? := by rw [hbs]
    rw [List.getElem?_eq_getElem hj] at e
    have hzb := hb (zs[j]'(by omega)) (List.getElem_mem _)
    simp [Lib.bytesOf, List.getElem?_take_of_lt hj, List.getElem?_eq_getElem (show j < zs.length by omega)] at e
    rw [e]
    simp [ub, List.getD, List.getElem?_eq_getElem (show j < zs.length by omega)]
    omega

theorem c_join {w : World} {g a1 b1 a2 b2 a3 b3 a4 b4 a5 b5 : Nat} {v1 v2 v3 v4 v5 : Value} {l1 l2 l3 l4 l5 : List UInt8} (hb : Blk w g [v1, v2, v3, v4, v5] 24)
    (h1 : RdB w a1 b1 v1 l1) (h2 : RdB w a2 b2 v2 l2) (h3 : RdB w a3 b3 v3 l3) (h4 : RdB w a4 b4 v4 l4) (h5 : RdB w a5 b5 v5 l5) (hl : l1.length + l2.length + l3.length + l4.length + l5.length ≤ 1000) :
    Calls Tryd.prog 101 #[.slice (some ⟨g, 0, none⟩) 5 5] w fun e w' => ∃ v', e = .returned v' ∧ RdB w' w.heap.size w'.heap.size v' (l1 ++ (l2 ++ (l3 ++ (l4 ++ l5)))) ∧ Fr 0 0 w w' := by
  have hP : Lib.PartsAt w ⟨g, 0, none⟩ [v1, v2, v3, v4, v5] [l1, l2, l3, l4, l5] := by
    refine ⟨rfl, fun i v hv => ?_, fun i v l hv hl => ?_⟩
    · rw [Addr.add_lit, Nat.zero_add, hb.cell]
      exact hv
    · match i, hv, hl with
      | 0, hv, hl => cases hv; cases hl; exact h1.holds
      | 1, hv, hl => cases hv; cases hl; exact h2.holds
      | 2, hv, hl => cases hv; cases hl; exact h3.holds
      | 3, hv, hl => cases hv; cases hl; exact h4.holds
      | 4, hv, hl => cases hv; cases hl; exact h5.holds
      | _ + 5, hv, hl => simp at hv
  have hj := Any.bytes_Join_many laysJoin g 0 5 5 [v1, v2, v3, v4, v5] [l1, l2, l3, l4, l5] (.slice none 0 0) [] w rfl (by decide) hP (by decide) ⟨none, 0, rfl, fun _ => rfl, fun _ h => by cases h⟩ (by decide) (by simp [Lib.lens]; omega)
  have hj' : Calls Tryd.prog 145 #[.slice (some ⟨g, 0, none⟩) 5 5, .slice none 0 0] w fun e w' => ∃ v', e = .returned v' ∧ RdB w' w.heap.size w'.heap.size v' (l1 ++ (l2 ++ (l3 ++ (l4 ++ l5)))) ∧ Fr 0 0 w w' :=
    Calls.mono hj fun e w' ⟨v', e1, e2, e3⟩ => ⟨v', e1, by have := RdB.of_fresh e2; simpa [Lib.join, List.intercalate] using this, Fr.of_new e3⟩
  go_enter Tryd.func101, Tryd.ntmps101
  go_wp2_with (go_at_call 145; refine hj'.mono ?_; rintro e w3 ⟨v3, rfl, hO3, hF3⟩)
  go_ret
  exact ⟨_, rfl, hO3, hF3⟩

end Go.Proofs.YtgndidjfjdaagaaDoor
