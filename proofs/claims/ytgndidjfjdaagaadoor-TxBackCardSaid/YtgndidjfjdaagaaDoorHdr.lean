/-
  A header's cells, and what is read of bytes.
-/
import Derived.Test.YtgndidjfjdaagaaDoorNum
set_option linter.unusedSimpArgs false
set_option linter.unusedVariables false
namespace Go.Proofs.YtgndidjfjdaagaaDoor
open Go.RowKit

theorem zer25 : (Tryd.prog.info? 30).map (·.zero) = some (some (.agg ((List.replicate 32 (0 : UInt8)).map ub).toArray)) := by kernel_rfl
theorem row25 : (Tryd.prog.underlying 30).map (·.isRow) = some true := by kernel_rfl
theorem siz25 : (Tryd.prog.info? 30).map (·.size) = some 32 := by kernel_rfl
theorem siz5 : (Tryd.prog.info? 5).map (·.size) = some 1 := by kernel_rfl

/-- A header's cells. -/
def hdrL (h : Int) (p s r : List UInt8) (m : Int) : List Value := .int .i64 h :: (p.map ub ++ s.map ub ++ r.map ub) ++ [.int .i64 m]
def hdr0 : List Value := hdrL 0 (List.replicate 32 0) (List.replicate 32 0) (List.replicate 32 0) 0
theorem hdrL_length (h : Int) (p s r : List UInt8) (m : Int) (hp : p.length = 32) (hs : s.length = 32) (hr : r.length = 32) : (hdrL h p s r m).length = 98 := by simp [hdrL, hp, hs, hr]
theorem hdrL_one (h : Int) (p s r : List UInt8) (m : Int) : ∀ v ∈ hdrL h p s r m, v.oneCell' = true := by
  intro v hv
  simp only [hdrL, List.cons_append, List.mem_cons, List.mem_append, List.mem_map, List.not_mem_nil, or_false] at hv
  rcases hv with rfl | ((⟨x, _, rfl⟩ | ⟨x, _, rfl⟩) | ⟨x, _, rfl⟩) | rfl <;> rfl
theorem zer27 : (Tryd.prog.info? 61).map (·.zero) = some (some (.agg hdr0.toArray)) := by kernel_rfl
theorem row27 : (Tryd.prog.underlying 61).map (·.isRow) = some true := by kernel_rfl
theorem siz27 : (Tryd.prog.info? 61).map (·.size) = some 98 := by kernel_rfl
theorem zc27 : Tryd.zeroCells61 = hdr0.toArray := by kernel_rfl
theorem hdr0_length : hdr0.length = 98 := by kernel_rfl

theorem plc27 : placesOf Tryd.prog 61 = some [(0, 1), (1, 32), (33, 32), (65, 32), (97, 1)] := by kernel_rfl

theorem built27 (h : Int) (p s r : List UInt8) (m : Int) (hp : p.length = 32) (hs : s.length = 32) (hr : r.length = 32) :
    Tryd.prog.built 61 [(0, .int .i64 h), (1, .agg (bs p)), (2, .agg (bs s)), (3, .agg (bs r)), (4, .int .i64 m)] = some (hdrL h p s r m).toArray := by
  rw [built_struct _ zer27 plc27, show (Value.agg hdr0.toArray).cells = ([[.int .i64 0], (List.replicate 32 (0 : UInt8)).map ub, (List.replicate 32 (0 : UInt8)).map ub, (List.replicate 32 (0 : UInt8)).map ub, [.int .i64 0]] : List (List Value)).flatten.toArray by simp [hdr0, hdrL, Value.cells],
    fill_seg [.int .i64 h] _ (by simp) (by simp) rfl (by simp), fill_seg (p.map ub) _ (by simp) (by simp [hp]) rfl (by simp [hp]), fill_seg (s.map ub) _ (by simp) (by simp [hp, hs]) rfl (by simp [hs]),
    fill_seg (r.map ub) _ (by simp) (by simp [hp, hs, hr]) rfl (by simp [hr]), fill_seg [.int .i64 m] _ (by simp) (by simp [hp, hs, hr]) rfl (by simp)]
  simp [Instr.fill, hdrL]

/-- The header of bytes, or the error. -/
def hdrRead (l : List UInt8) : List Value × Int :=
  if l.length < 108 then (hdr0, 10) else if 108 < l.length then (hdr0, 11)
  else if 1073741824 < beN (l.take 8) ∨ 256 < beN (l.drop 104) then (hdr0, 8)
  else (hdrL (beN (l.take 8)) ((l.drop 8).take 32) ((l.drop 40).take 32) ((l.drop 72).take 32) (beN (l.drop 104)), 0)

end Go.Proofs.YtgndidjfjdaagaaDoor
