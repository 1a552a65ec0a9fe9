/-
  From a row's reading of its arguments to what the walks ask, and back: laws whose arguments are slices of bytes.
-/
import Derived.Test.YtgndidjfjdaagaaDoorBase
import Derived.ProofKit
import Derived.OpenShut
import Derived.ShutString
import Derived.ChangeOld
import Derived.Carry
set_option linter.unusedSimpArgs false
set_option linter.unusedVariables false
namespace Go.Proofs.YtgndidjfjdaagaaDoor
open Go.ChangeShapes Go.WideShapes Go.ChangeAt Go.RowKit

theorem ownG : ownKnob Tryd.prog.godebug = none := by kernel_rfl
theorem laidOutG : laidOutB Tryd.prog = true := by kernel_rfl

/-- A slice of bytes that can be read reads as bytes. -/
theorem RdB.of_trod {H : Type} {enc : TypeId × Value → H} {W : World} {f : Nat} {a0 : Option Addr} {len0 cap0 : Nat} {d : DataW H} {p : List MemPlace}
    (h0 : DataW.Trod enc Tryd.prog W 0 (fun _ => true) true 24 (.slice a0 len0 cap0) d p) (hf : f = 0) : ∃ l, RdB W 0 W.heap.size (.slice a0 len0 cap0) l := by
  obtain ⟨fuel, hf⟩ := h0
  rcases open_ints Tryd.underlying24 Tryd.underlying5 (by kernel_rfl) hf with ⟨hcs, _⟩ | ⟨x, n, c, zs, hcs, _, hl, hm, hz, _, hcell, hwz⟩
  · simp [Value.cells] at hcs
    obtain ⟨rfl, rfl, rfl⟩ := hcs
    exact ⟨[], RdB.nil _ _ _⟩
  · simp [Value.cells] at hcs
    obtain ⟨rfl, rfl, rfl⟩ := hcs
    have hz' : zs.length = cap0 := by simpa using hz
    have hlen : ((zs.take len0).map (fun n => UInt8.ofNat n.toNat)).length = len0 := by simp; omega
    refine ⟨(zs.take len0).map (fun n => UInt8.ofNat n.toNat), some x, cap0, by rw [hlen], by rw [hlen]; exact hl, hm, (by intro h; cases h), fun hne => ?_⟩
    have hpos : 0 < len0 := by
      have := List.length_pos_iff.2 hne
      omega
    obtain ⟨b, off, spot⟩ := x
    have hc0 := hcell 0 (by omega)
    have hspot : spot = none := by simpa [Addr.add] using World.cell?_spot hc0
    subst hspot
    have hb : b < W.heap.size := by
      have := World.block_lt_of_cell? W _ hc0
      simpa [Addr.add] using this
    refine ⟨b, off, rfl, Nat.zero_le _, hb, fun j hj => ?_⟩
    rw [hlen] at hj
    have hcj := hcell j (by omega)
    rw [Addr.add_lit] at hcj
    rw [hcj]
    have hw : (Lit.int .u8 (zs[j]'(by omega))).wf = true := hwz _ (List.getElem_mem _)
    have hbd := bounds_u8 hw
    simp [ub, List.getD, List.getElem?_eq_getElem (show j < zs.length by omega)]
    omega

/-! ### Flat structs and arrays of integers -/

/-- Cells of these kinds, each in its kind's bounds. -/
def LK : List IntKind → List Value → Prop
  | [], [] => True
  | k :: ks, v :: vs => (∃ n, v = .int k n ∧ k.has n) ∧ LK ks vs
  | _, _ => False

theorem cell_int {P : Program} {w : World} {r : Reach} {base : Nat} {t : TypeId} {v : Value} {k : IntKind} (ht : P.underlying t = some (.int k)) (h : Cell.okWide P w r base t v) : ∃ n, v = .int k n ∧ k.has n := by
  simp only [Cell.okWide, ht] at h
  cases v <;> simp_all [Cell.ok]

theorem LK.of_cells {P : Program} {w : World} {r : Reach} {base : Nat} : ∀ {ts : List TypeId} {ks : List IntKind} {cs : List Value}, ts.map P.underlying = ks.map (fun k => some (.int k)) → cs.length = ts.length →
    (∀ (i : Nat) (v : Value), cs[i]? = some v → ∃ u, ts[i]? = some u ∧ Cell.okWide P w r base u v) → LK ks cs
  | [], [], [], _, _, _ => trivial
  | [], _ :: _, _, h, _, _ => by simp at h
  | _ :: _, [], _, h, _, _ => by simp at h
  | [], [], _ :: _, _, h, _ => by simp at h
  | _ :: _, _ :: _, [], _, h, _ => by simp at h
  | t :: ts, k :: ks, c :: cs, h, hl, hc => by
    simp only [List.map_cons, List.cons.injEq] at h
    refine ⟨?_, LK.of_cells (w := w) (r := r) (base := base) h.2 (by simpa using hl) (fun i v hi => ?_)⟩
    · obtain ⟨u, hu, hk⟩ := hc 0 c rfl
      simp only [List.getElem?_cons_zero, Option.some.injEq] at hu
      subst hu
      exact cell_int h.1 hk
    · obtain ⟨u, hu, hk⟩ := hc (i + 1) v (by simpa using hi)
      exact ⟨u, by simpa using hu, hk⟩

/-- A struct or an array of integers alone, as its cells. -/
theorem okWide_flat {P : Program} {w : World} {r : Reach} {base : Nat} {t : TypeId} {v : Value} {ts : List TypeId} {ks : List IntKind} (hr : (P.underlying t).map (·.isRow) = some true)
    (hct : P.cellTypes P.depth t = some ts) (hk : ts.map P.underlying = ks.map (fun k => some (.int k))) (hn : P.cellsOf t = ts.length) (h : Value.okWide P w r base t v) :
    ∃ cs : List Value, v = .agg cs.toArray ∧ LK ks cs := by
  have h' : ∃ cs, v = .agg cs ∧ cs.size = P.cellsOf t ∧ Row.okWide P w r base t cs := by
    unfold Value.okWide at h
    split at h
    · exact h
    · exact h
    · rename_i h1 h2
      obtain ⟨d, hd, hd2⟩ := Option.map_eq_some_iff.1 hr
      cases d <;> simp_all [TypeDesc.isRow]
  obtain ⟨cs, rfl, hs, ts', h1, _, h3⟩ := h'
  rw [hct] at h1
  cases h1
  refine ⟨cs.toList, rfl, LK.of_cells (w := w) (r := r) (base := base) hk (by simp [hs, hn]) (fun i v hi => ?_)⟩
  have hi' : cs[i]? = some v := by simpa using hi
  have hlt : i < ts.length := by
    rw [← hn, ← hs]
    exact (Array.getElem?_eq_some_iff.1 hi').1
  obtain ⟨u, hu, hw⟩ := h3 i v hi'
  rw [Nat.mod_eq_of_lt hlt] at hu
  exact ⟨u, hu, hw⟩

theorem LK.append : ∀ {ks ms : List IntKind} {cs : List Value}, LK (ks ++ ms) cs → ∃ x y, cs = x ++ y ∧ LK ks x ∧ LK ms y
  | [], _, cs, h => ⟨[], cs, rfl, trivial, h⟩
  | _ :: _, _, [], h => h.elim
  | _ :: ks, ms, c :: cs, h => by
    obtain ⟨x, y, rfl, h1, h2⟩ := LK.append h.2
    exact ⟨c :: x, y, rfl, ⟨h.1, h1⟩, h2⟩

theorem LK.bytes : ∀ {n : Nat} {cs : List Value}, LK (List.replicate n .u8) cs → ∃ d : List UInt8, d.length = n ∧ cs = d.map ub
  | 0, [], _ => ⟨[], rfl, rfl⟩
  | 0, _ :: _, h => h.elim
  | _ + 1, [], h => h.elim
  | n + 1, c :: cs, h => by
    obtain ⟨⟨m, rfl, hm⟩, h2⟩ := (h : (∃ n, c = .int .u8 n ∧ IntKind.u8.has n) ∧ LK (List.replicate n .u8) cs)
    obtain ⟨d, hd, rfl⟩ := LK.bytes h2
    have hb : 0 ≤ m ∧ m ≤ 255 := hm
    refine ⟨UInt8.ofNat m.toNat :: d, by simp [hd], ?_⟩
    simp [ub]
    omega

theorem LK.one {k : IntKind} {cs : List Value} (h : LK [k] cs) : ∃ n, cs = [.int k n] ∧ k.has n := by
  match cs, h with
  | [c], h =>
    obtain ⟨n, rfl, hn⟩ := h.1
    exact ⟨n, rfl, hn⟩
  | [], h => exact h.elim
  | _ :: _ :: _, h => exact h.2.elim

end Go.Proofs.YtgndidjfjdaagaaDoor