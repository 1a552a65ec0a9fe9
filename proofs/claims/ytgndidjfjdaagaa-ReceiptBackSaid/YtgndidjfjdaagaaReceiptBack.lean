/-
  ReceiptBack: a receipt goes over to bytes and back. No condition.
-/
import Derived.Test.YtgndidjfjdaagaaReceiptBackW
import Derived.Test.YtgndidjfjdaagaaFrame
set_option linter.unusedSimpArgs false
set_option linter.unusedVariables false
set_option linter.constructorNameAsVariable false
namespace Go.Proofs.Ytgndidjfjdaagaa.lawReceiptBack
open Go.ChangeShapes Go.WideShapes Go.ChangeAt Go.RowKit

def ts43 : List TypeId := [5] ++ (List.replicate 32 5 ++ [28])
def ks43 : List IntKind := [.u8] ++ (List.replicate 32 .u8 ++ [.i64])
theorem ct43 : Try.prog.cellTypes Try.prog.depth 43 = some ts43 := by kernel_rfl
theorem ck43 : ts43.map Try.prog.underlying = ks43.map (fun k => some (.int k)) := by kernel_rfl
theorem cn43 : Try.prog.cellsOf 43 = ts43.length := by kernel_rfl

set_option maxRecDepth 100000 in
theorem open43 {W : World} {v : Value} (h : Value.okWide Try.prog W .any 0 43 v) : ∃ k d c, d.length = 32 ∧ v = .agg (recL k d c).toArray := by
  obtain ⟨cs, rfl, hk⟩ := okWide_flat row43 ct43 ck43 cn43 h
  obtain ⟨x, y, rfl, h1, h2⟩ := LK.append hk
  obtain ⟨y1, y2, rfl, h3, h4⟩ := LK.append h2
  obtain ⟨d, hd, rfl⟩ := LK.bytes h3
  obtain ⟨c, rfl, _⟩ := LK.one h4
  obtain ⟨dk, hdk, rfl⟩ := LK.bytes (n := 1) h1
  match dk, hdk with
  | [k], _ => exact ⟨k, d, c, hd, by simp [recL]⟩

set_option maxRecDepth 100000 in
theorem lifted (os : Os) (started : os.Started) (H : Type) (enc : TypeId × Value → H) :
    ReturnsInHanded {} Try.checked os 5 .any (Rows.receiptBackSpec.pre6 enc Try.prog Try.f5 Rows.receiptBackRow.domain false) (Rows.receiptBackSpec.post enc Try.prog Try.f5 false true false false) := by
  refine returnsInHanded_of_change (C := Try.checked) ownG started (by kernel_rfl) Try.func5
    (ChangeSpec.witness6 (enc := enc) (C := Try.checked) false ⟨#[], #[.agg rec0.toArray, .slice none 0 0], []⟩ 8 (by kernel_rfl) (by kernel_rfl) (by kernel_rfl) (by kernel_rfl)) ?_
  intro W base args ds gs before hval0 hW hcnd _
  have hval : ∀ (j : Nat) t v, Try.f5.params[j]? = some t → args[j]? = some v → Value.okWide Try.prog W .any base t v := hval0
  have hW' := hW
  obtain ⟨p, q, hA0, hV, rfl, hfz, hnd⟩ := hW
  have hA : DataW.TrodAll enc Try.prog W 0 (fun _ => true) true Try.f5.params.toList args.toList ds p := hA0
  rw [Try.params5] at hA hval
  obtain ⟨v0, vs0, d0, ds0, p0, q0, hargs, rfl, rfl, h0, r0⟩ := trodAll_cons hA
  obtain ⟨v1, vs1, d1, ds1, p1, q1, rfl, rfl, rfl, h1, r1⟩ := trodAll_cons r0
  obtain ⟨rfl, rfl, rfl⟩ := trodAll_nil r1
  obtain rfl : args = #[v0, v1] := by cases args; simp_all
  obtain ⟨rfl, rfl⟩ := trodVars_none hV
  obtain ⟨k, d, c, hd, rfl⟩ := open43 (hval 0 43 v0 rfl rfl)
  obtain ⟨a1, len1, cap1, rfl⟩ := okWide_slice Try.underlying22 (hval 1 22 v1 rfl rfl)
  have lt0 : ∀ x ∈ p0, x.block < W.heap.size := by obtain ⟨m, hm⟩ := h0; exact DataW.trod_lt m _ _ _ hm
  have lt1 : ∀ x ∈ p1, x.block < W.heap.size := by obtain ⟨m, hm⟩ := h1; exact DataW.trod_lt m _ _ _ hm
  obtain ⟨l, hr⟩ := RdB.of_trod h1 (f := 0) rfl
  clear hA0 hval0
  refine (w_ReceiptBack k d c hd hr).mono fun e W' ⟨he, bel⟩ => ?_
  subst he
  exact ⟨_, rfl, _, _, _, [], _, [], hW', trodAll_mk1 (shut_bool Try.underlying4 _), trodAll_cons_mk (Below.trod laidOutG (by kernel_rfl) (of_decide_eq_true (by kernel_rfl)) h0 bel.new lt0) (trodAll_cons_mk (Below.trod laidOutG (by kernel_rfl) (of_decide_eq_true (by kernel_rfl)) h1 bel.new lt1) trodAll_mk0), rfl, bel.new.frame _, fun h => by cases h⟩

theorem proved : Rows.ReceiptBackSaid :=
  OpenClaim.holds_of_wide 5 Try.f5 rfl rfl rfl rfl rfl rfl rfl ⟨rfl, rfl, rfl, rfl, rfl⟩ rfl rfl rfl rfl rfl (by kernel_rfl) Try.func5 (by kernel_rfl)
    (of_decide_eq_true (by kernel_rfl)) (by unfold Func.isWrapper; first | (rw [if_pos (by decide +kernel)]; kernel_rfl) | (rw [if_neg (by decide +kernel)]; exact ⟨rfl, rfl⟩))
    (fun os started H enc _ => lifted os started H enc)
#print axioms proved
end Go.Proofs.Ytgndidjfjdaagaa.lawReceiptBack
