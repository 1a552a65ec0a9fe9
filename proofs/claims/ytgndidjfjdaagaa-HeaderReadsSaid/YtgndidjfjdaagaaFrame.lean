/-
  From a row's reading of its arguments to what the walks ask, and back: laws whose arguments are slices of bytes.
-/
import Derived.Test.YtgndidjfjdaagaaBase
import Derived.ProofKit
import Derived.OpenShut
import Derived.ShutString
import Derived.ChangeOld
import Derived.Carry
set_option linter.unusedSimpArgs false
set_option linter.unusedVariables false
namespace Go.Proofs.Ytgndidjfjdaagaa
open Go.ChangeShapes Go.WideShapes Go.ChangeAt Go.RowKit

theorem ownG : ownKnob Try.prog.godebug = none := by kernel_rfl
theorem laidOutG : laidOutB Try.prog = true := by kernel_rfl

/-- A slice of bytes that can be read reads as bytes. -/
theorem RdB.of_trod {H : Type} {enc : TypeId × Value → H} {W : World} {f : Nat} {a0 : Option Addr} {len0 cap0 : Nat} {d : DataW H} {p : List MemPlace}
    (h0 : DataW.Trod enc Try.prog W 0 (fun _ => true) true 22 (.slice a0 len0 cap0) d p) (hf : f = 0) : ∃ l, RdB W 0 W.heap.size (.slice a0 len0 cap0) l := by
  obtain ⟨fuel, hf⟩ := h0
  rcases open_ints Try.underlying22 Try.underlying5 (by kernel_rfl) hf with ⟨hcs, _⟩ | ⟨x, n, c, zs, hcs, _, hl, hm, hz, _, hcell, hwz⟩
  · simp [Value.cells] at hcs
    obtain ⟨rfl, rfl, rfl⟩ := hcs
    exact ⟨[], RdB.nil _ _ _⟩
  · simp [Value.cells] at hcs
    obtain ⟨rfl, rfl, rfl⟩ := hcs
    have hz' : zs.length = cap0 := by simpa using hz
    have hlen : ((zs.take len0).map (fun n => UInt8.ofNat n.toNat)).length = len0 := by simp; omega
    refine ⟨(zs.take len0).map (fun n => UInt8.ofNat n.toNat), some x, cap0, by rw [hlen], by rw [hlen]; exact hl, hm, (by intro h; cases h), fun hne => ?_⟩
    have hpos : 0 < len0 := by
      have := List.length_pos_iff.2 hne
      omega
    obtain ⟨b, off, spot⟩ := x
    have hc0 := hcell 0 (by omega)
    have hspot : spot = none := by simpa [Addr.add] using World.cell?_spot hc0
    subst hspot
    have hb : b < W.heap.size := by
      have := World.block_lt_of_cell? W _ hc0
      simpa [Addr.add] using this
    refine ⟨b, off, rfl, Nat.zero_le _, hb, fun j hj => ?_⟩
    rw [hlen] at hj
    have hcj := hcell j (by omega)
    rw [Addr.add_lit] at hcj
    rw [hcj]
    have hw : (Lit.int .u8 (zs[j]'(by omega))).wf = true := hwz _ (List.getElem_mem _)
    have hbd := bounds_u8 hw
    simp [ub, List.getD, List.getElem?_eq_getElem (show j < zs.length by omega)]
    omega

end Go.Proofs.Ytgndidjfjdaagaa
