/-
  Equality of headers.
-/
import Derived.Test.YtgndidjfjdaagaaDoorHdr
import Derived.Test.YtgndidjfjdaagaaDoorEq
set_option linter.unusedSimpArgs false
set_option linter.unusedVariables false
namespace Go.Proofs.YtgndidjfjdaagaaDoor
open Go.RowKit

/-- The kinds of a header's cells. -/
def lfH : List (Option IntKind) := some .i64 :: (List.replicate 96 (some .u8) ++ [some .i64])
theorem leaves27 : leaves Tryd.prog 4 61 = some lfH := by kernel_rfl
theorem eqg27 : Tryd.prog.eqGuardType Tryd.prog.depth 61 = false := by kernel_rfl

theorem lfH_hdrL (h : Int) (p s r : List UInt8) (m : Int) (hp : p.length = 32) (hs : s.length = 32) (hr : r.length = 32) : LF lfH (hdrL h p s r m) := by
  refine ⟨⟨_, rfl⟩, ?_⟩
  refine LF.append (ms := [some .i64]) ?_ ⟨⟨_, rfl⟩, trivial⟩
  have := LF.bytes (p ++ s ++ r)
  simp only [List.length_append, hp, hs, hr] at this
  simpa using this

theorem lfH_hdr0 : LF lfH hdr0 := lfH_hdrL _ _ _ _ _ (by simp) (by simp) (by simp)

theorem lfH_hdrRead (l : List UInt8) : LF lfH (hdrRead l).1 := by
  unfold hdrRead
  split
  · exact lfH_hdr0
  · split
    · exact lfH_hdr0
    · split
      · exact lfH_hdr0
      · exact lfH_hdrL _ _ _ _ _ (by simp; omega) (by simp; omega) (by simp; omega)

end Go.Proofs.YtgndidjfjdaagaaDoor
