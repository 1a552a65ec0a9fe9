/-
  The listed variable sha.k: from the row's condition to the cells.
-/
import Derived.Test.YtgndidjfjdaagaaDoorSha
import Derived.Test.YtgndidjfjdaagaaDoorFrame
import Derived.LaidMore
import Derived.Stop.Joined
set_option linter.unusedSimpArgs false
set_option linter.unusedVariables false
namespace Go.Proofs.YtgndidjfjdaagaaDoor
open Go.ChangeShapes Go.WideShapes Go.ChangeAt Go.RowKit

def laidK : List (String × DataW Unit) := [("beadroll/sha.k", Rows.laid_beadroll_sha_k)]
theorem gK : Tryd.prog.globalNamed "beadroll/sha.k" = some 0 := by kernel_rfl
theorem tK : (Tryd.prog.globals[0]?).map (·.type) = some 175 := by kernel_rfl
theorem datK : (Rows.laid_beadroll_sha_k : DataW Unit) = .agg (KL.map fun n => .lit (.int .u32 n)) := by kernel_rfl

/-- The door's own heap meets the condition. -/
theorem door_met (os : Os) (args : Array Value) : laidMetH Tryd.prog laidK ((World.doorLaid Tryd.prog 400 os).forCall (fun _ _ => 0) ⟨#[], args, []⟩).memory :=
  laidMetH_of_parts3 (fuel := 8) (laidMet_of_run' 8 (by kernel_rfl) (by kernel_rfl)) (by kernel_rfl) (by kernel_rfl)

theorem KT.of_laid {W : World} (h : laidMetH Tryd.prog laidK W) : KT W := by
  rw [MakeChecks.laidMetH_plain _ _ _ (by kernel_rfl)] at h
  obtain ⟨ps, ⟨g0, t0, cs0, f0, p0, q0, hg0, ht0, hv0, hd0, _, _⟩, _, _⟩ := h
  obtain rfl := Option.some.inj (gK.symm.trans hg0)
  obtain rfl := Option.some.inj (tK.symm.trans ht0)
  obtain ⟨xs, m1, rfl, hx1, hlen, hn, hel⟩ := DataW.trod_array Tryd.underlying175 hd0
  simp only [Prod.mk.injEq] at hx1
  have hdat := datK.symm.trans hx1.1
  simp only [DataW.agg.injEq] at hdat
  have c1 : Tryd.prog.cellsOf 115 = 1 := by kernel_rfl
  intro j hj
  have hj' := hel j hj
  rw [c1, Nat.mul_one] at hj'
  obtain ⟨x, hx⟩ : ∃ x, xs[j]? = some x := ⟨xs[j]'(by omega), List.getElem?_eq_getElem (by omega)⟩
  rw [hx] at hj'
  obtain ⟨n, e1, e2, _⟩ := DataW.trod_int Tryd.underlying115 hj'
  have hk : KL[j]? = some n := by
    have e3 : (xs.map (·.1))[j]? = some x.1 := by rw [List.getElem?_map, hx]; rfl
    rw [← hdat, e2, List.getElem?_map] at e3
    cases hq : KL[j]? with
    | none => rw [hq] at e3; cases e3
    | some q =>
      rw [hq] at e3
      simp at e3
      rw [e3]
  have hcs : cs0.toList[j]? = some (.int .u32 n) := by
    have : ((cs0.toList.drop j).take 1)[0]? = some (.int .u32 n) := by rw [e1]; rfl
    simpa using this
  have hc := World.var?_cell hg0 hv0 j
  rw [List.getD_eq_getElem?_getD, hk]
  simpa using hc.trans (by simpa using hcs)

end Go.Proofs.YtgndidjfjdaagaaDoor
