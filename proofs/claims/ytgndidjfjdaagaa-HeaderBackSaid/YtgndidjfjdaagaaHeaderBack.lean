/-
  HeaderBack: a header goes over to bytes and back. No condition.
-/
import Derived.Test.YtgndidjfjdaagaaHeaderBackW
import Derived.Test.YtgndidjfjdaagaaFrame
set_option linter.unusedSimpArgs false
set_option linter.unusedVariables false
set_option linter.constructorNameAsVariable false
namespace Go.Proofs.Ytgndidjfjdaagaa.lawHeaderBack
open Go.ChangeShapes Go.WideShapes Go.ChangeAt Go.RowKit

def ts27 : List TypeId := [3] ++ (List.replicate 32 5 ++ (List.replicate 32 5 ++ (List.replicate 32 5 ++ [3])))
def ks27 : List IntKind := [.i64] ++ (List.replicate 32 .u8 ++ (List.replicate 32 .u8 ++ (List.replicate 32 .u8 ++ [.i64])))
theorem ct27 : Try.prog.cellTypes Try.prog.depth 27 = some ts27 := by kernel_rfl
theorem ck27 : ts27.map Try.prog.underlying = ks27.map (fun k => some (.int k)) := by kernel_rfl
theorem cn27 : Try.prog.cellsOf 27 = ts27.length := by kernel_rfl

set_option maxRecDepth 100000 in
theorem open27 {W : World} {v : Value} (h : Value.okWide Try.prog W .any 0 27 v) : ∃ k p s r m, p.length = 32 ∧ s.length = 32 ∧ r.length = 32 ∧ v = .agg (hdrL k p s r m).toArray := by
  obtain ⟨cs, rfl, hk⟩ := okWide_flat row27 ct27 ck27 cn27 h
  obtain ⟨x, y, rfl, h1, h2⟩ := LK.append hk
  obtain ⟨y1, y2, rfl, h3, h4⟩ := LK.append h2
  obtain ⟨z1, z2, rfl, h5, h6⟩ := LK.append h4
  obtain ⟨q1, q2, rfl, h7, h8⟩ := LK.append h6
  obtain ⟨p, hp, rfl⟩ := LK.bytes h3
  obtain ⟨s, hs, rfl⟩ := LK.bytes h5
  obtain ⟨r, hr, rfl⟩ := LK.bytes h7
  obtain ⟨m, rfl, _⟩ := LK.one h8
  obtain ⟨k, rfl, _⟩ := LK.one h1
  exact ⟨k, p, s, r, m, hp, hs, hr, by simp [hdrL]⟩

set_option maxRecDepth 100000 in
theorem lifted (os : Os) (started : os.Started) (H : Type) (enc : TypeId × Value → H) :
    ReturnsInHanded {} Try.checked os 7 .any (Rows.headerBackSpec.pre6 enc Try.prog Try.f7 Rows.headerBackRow.domain false) (Rows.headerBackSpec.post enc Try.prog Try.f7 false true false false) := by
  refine returnsInHanded_of_change (C := Try.checked) ownG started (by kernel_rfl) Try.func7
    (ChangeSpec.witness6 (enc := enc) (C := Try.checked) false ⟨#[], #[.agg hdr0.toArray, .slice none 0 0], []⟩ 8 (by kernel_rfl) (by kernel_rfl) (by kernel_rfl) (by kernel_rfl)) ?_
  intro W base args ds gs before hval0 hW hcnd _
  have hval : ∀ (j : Nat) t v, Try.f7.params[j]? = some t → args[j]? = some v → Value.okWide Try.prog W .any base t v := hval0
  have hW' := hW
  obtain ⟨p, q, hA0, hV, rfl, hfz, hnd⟩ := hW
  have hA : DataW.TrodAll enc Try.prog W 0 (fun _ => true) true Try.f7.params.toList args.toList ds p := hA0
  rw [Try.params7] at hA hval
  obtain ⟨v0, vs0, d0, ds0, p0, q0, hargs, rfl, rfl, h0, r0⟩ := trodAll_cons hA
  obtain ⟨v1, vs1, d1, ds1, p1, q1, rfl, rfl, rfl, h1, r1⟩ := trodAll_cons r0
  obtain ⟨rfl, rfl, rfl⟩ := trodAll_nil r1
  obtain rfl : args = #[v0, v1] := by cases args; simp_all
  obtain ⟨rfl, rfl⟩ := trodVars_none hV
  obtain ⟨k, pp, ss, rr, mm, hp, hs, hr0, rfl⟩ := open27 (hval 0 27 v0 rfl rfl)
  obtain ⟨a1, len1, cap1, rfl⟩ := okWide_slice Try.underlying22 (hval 1 22 v1 rfl rfl)
  have lt0 : ∀ x ∈ p0, x.block < W.heap.size := by obtain ⟨m, hm⟩ := h0; exact DataW.trod_lt m _ _ _ hm
  have lt1 : ∀ x ∈ p1, x.block < W.heap.size := by obtain ⟨m, hm⟩ := h1; exact DataW.trod_lt m _ _ _ hm
  obtain ⟨l, hr⟩ := RdB.of_trod h1 (f := 0) rfl
  clear hA0 hval0
  refine (w_HeaderBack k pp ss rr mm hp hs hr0 hr).mono fun e W' ⟨he, bel⟩ => ?_
  subst he
  exact ⟨_, rfl, _, _, _, [], _, [], hW', trodAll_mk1 (shut_bool Try.underlying4 _), trodAll_cons_mk (Below.trod laidOutG (by kernel_rfl) (of_decide_eq_true (by kernel_rfl)) h0 bel.new lt0) (trodAll_cons_mk (Below.trod laidOutG (by kernel_rfl) (of_decide_eq_true (by kernel_rfl)) h1 bel.new lt1) trodAll_mk0), rfl, bel.new.frame _, fun h => by cases h⟩

theorem proved : Rows.HeaderBackSaid :=
  OpenClaim.holds_of_wide 7 Try.f7 rfl rfl rfl rfl rfl rfl rfl ⟨rfl, rfl, rfl, rfl, rfl⟩ rfl rfl rfl rfl rfl (by kernel_rfl) Try.func7 (by kernel_rfl)
    (of_decide_eq_true (by kernel_rfl)) (by unfold Func.isWrapper; first | (rw [if_pos (by decide +kernel)]; kernel_rfl) | (rw [if_neg (by decide +kernel)]; exact ⟨rfl, rfl⟩))
    (fun os started H enc _ => lifted os started H enc)
#print axioms proved
end Go.Proofs.Ytgndidjfjdaagaa.lawHeaderBack
