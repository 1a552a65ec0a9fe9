/-
  A header among the arguments.
-/
import Derived.Test.YtgndidjfjdaagaaDoorFrame
import Derived.Test.YtgndidjfjdaagaaDoorHdr
set_option linter.unusedSimpArgs false
set_option linter.unusedVariables false
set_option linter.constructorNameAsVariable false
namespace Go.Proofs.YtgndidjfjdaagaaDoor
open Go.ChangeShapes Go.WideShapes Go.ChangeAt Go.RowKit

def ts27 : List TypeId := [3] ++ (List.replicate 32 5 ++ (List.replicate 32 5 ++ (List.replicate 32 5 ++ [3])))
def ks27 : List IntKind := [.i64] ++ (List.replicate 32 .u8 ++ (List.replicate 32 .u8 ++ (List.replicate 32 .u8 ++ [.i64])))
theorem ct27 : Tryd.prog.cellTypes Tryd.prog.depth 61 = some ts27 := by kernel_rfl
theorem ck27 : ts27.map Tryd.prog.underlying = ks27.map (fun k => some (.int k)) := by kernel_rfl
theorem cn27 : Tryd.prog.cellsOf 61 = ts27.length := by kernel_rfl

set_option maxRecDepth 100000 in
theorem open27 {W : World} {v : Value} (h : Value.okWide Tryd.prog W .any 0 61 v) : ∃ k p s r m, p.length = 32 ∧ s.length = 32 ∧ r.length = 32 ∧ v = .agg (hdrL k p s r m).toArray := by
  obtain ⟨cs, rfl, hk⟩ := okWide_flat row27 ct27 ck27 cn27 h
  obtain ⟨x, y, rfl, h1, h2⟩ := LK.append hk
  obtain ⟨y1, y2, rfl, h3, h4⟩ := LK.append h2
  obtain ⟨z1, z2, rfl, h5, h6⟩ := LK.append h4
  obtain ⟨q1, q2, rfl, h7, h8⟩ := LK.append h6
  obtain ⟨p, hp, rfl⟩ := LK.bytes h3
  obtain ⟨s, hs, rfl⟩ := LK.bytes h5
  obtain ⟨r, hr, rfl⟩ := LK.bytes h7
  obtain ⟨m, rfl, _⟩ := LK.one h8
  obtain ⟨k, rfl, _⟩ := LK.one h1
  exact ⟨k, p, s, r, m, hp, hs, hr, by simp [hdrL]⟩

end Go.Proofs.YtgndidjfjdaagaaDoor
