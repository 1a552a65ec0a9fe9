/-
  A receipt, a deposit, a transaction among the arguments.
-/
import Derived.Test.YtgndidjfjdaagaaDoorFrame
import Derived.Test.YtgndidjfjdaagaaDoorDep
import Derived.Test.YtgndidjfjdaagaaDoorTx2
set_option linter.unusedSimpArgs false
set_option linter.unusedVariables false
set_option linter.constructorNameAsVariable false
namespace Go.Proofs.YtgndidjfjdaagaaDoor
open Go.ChangeShapes Go.WideShapes Go.ChangeAt Go.RowKit

def ts43 : List TypeId := [5] ++ (List.replicate 32 5 ++ [43])
def ks43 : List IntKind := [.u8] ++ (List.replicate 32 .u8 ++ [.i64])
theorem ct43 : Tryd.prog.cellTypes Tryd.prog.depth 56 = some ts43 := by kernel_rfl
theorem ck43 : ts43.map Tryd.prog.underlying = ks43.map (fun k => some (.int k)) := by kernel_rfl
theorem cn43 : Tryd.prog.cellsOf 56 = ts43.length := by kernel_rfl

set_option maxRecDepth 100000 in
theorem open43 {W : World} {v : Value} (h : Value.okWide Tryd.prog W .any 0 56 v) : ∃ k d c, d.length = 32 ∧ v = .agg (recL k d c).toArray := by
  obtain ⟨cs, rfl, hk⟩ := okWide_flat row43 ct43 ck43 cn43 h
  obtain ⟨x, y, rfl, h1, h2⟩ := LK.append hk
  obtain ⟨y1, y2, rfl, h3, h4⟩ := LK.append h2
  obtain ⟨d, hd, rfl⟩ := LK.bytes h3
  obtain ⟨c, rfl, _⟩ := LK.one h4
  obtain ⟨dk, hdk, rfl⟩ := LK.bytes (n := 1) h1
  match dk, hdk with
  | [k], _ => exact ⟨k, d, c, hd, by simp [recL]⟩

theorem u64_nat {n : Int} (h : IntKind.u64.has n) : ∃ m : Nat, n = m ∧ m < 18446744073709551616 := by
  have hmin : IntKind.u64.min = 0 := rfl
  have hmax : IntKind.u64.max = 18446744073709551615 := rfl
  simp only [IntKind.has, hmin, hmax] at h
  obtain ⟨m, rfl⟩ := Int.eq_ofNat_of_zero_le h.1
  exact ⟨m, rfl, by omega⟩

def tsDep : List TypeId := [37] ++ (List.replicate 32 5 ++ [37])
def ksDep : List IntKind := [.u64] ++ (List.replicate 32 .u8 ++ [.u64])
theorem rowDep : (Tryd.prog.underlying 97).map (·.isRow) = some true := by kernel_rfl
theorem ctDep : Tryd.prog.cellTypes Tryd.prog.depth 97 = some tsDep := by kernel_rfl
theorem ckDep : tsDep.map Tryd.prog.underlying = ksDep.map (fun k => some (.int k)) := by kernel_rfl
theorem cnDep : Tryd.prog.cellsOf 97 = tsDep.length := by kernel_rfl
def dep0 : List Value := depL 0 (List.replicate 32 0) 0

set_option maxRecDepth 100000 in
theorem openDep {W : World} {v : Value} (h : Value.okWide Tryd.prog W .any 0 97 v) : ∃ n d a, d.length = 32 ∧ n < 18446744073709551616 ∧ a < 18446744073709551616 ∧ v = .agg (depL n d a).toArray := by
  obtain ⟨cs, rfl, hk⟩ := okWide_flat rowDep ctDep ckDep cnDep h
  obtain ⟨x, y, rfl, h1, h2⟩ := LK.append hk
  obtain ⟨y1, y2, rfl, h3, h4⟩ := LK.append h2
  obtain ⟨d, hd, rfl⟩ := LK.bytes h3
  obtain ⟨a', rfl, ha⟩ := LK.one h4
  obtain ⟨n', rfl, hn⟩ := LK.one h1
  obtain ⟨n, rfl, hn2⟩ := u64_nat hn
  obtain ⟨a, rfl, ha2⟩ := u64_nat ha
  exact ⟨n, d, a, hd, hn2, ha2, by simp [depL]⟩

def tsTx : List TypeId := List.replicate 32 5 ++ (List.replicate 32 5 ++ ([37] ++ ([37] ++ ([37] ++ List.replicate 32 5))))
def ksTx : List IntKind := List.replicate 32 .u8 ++ (List.replicate 32 .u8 ++ ([.u64] ++ ([.u64] ++ ([.u64] ++ List.replicate 32 .u8))))
theorem ctTx : Tryd.prog.cellTypes Tryd.prog.depth 39 = some tsTx := by kernel_rfl
theorem ckTx : tsTx.map Tryd.prog.underlying = ksTx.map (fun k => some (.int k)) := by kernel_rfl
theorem cnTx : Tryd.prog.cellsOf 39 = tsTx.length := by kernel_rfl

set_option maxRecDepth 100000 in
theorem openTx {W : World} {v : Value} (h : Value.okWide Tryd.prog W .any 0 39 v) : ∃ x, TxOk x ∧ v = .agg (txL x).toArray := by
  obtain ⟨cs, rfl, hk⟩ := okWide_flat row39 ctTx ckTx cnTx h
  obtain ⟨x, y, rfl, h1, h2⟩ := LK.append hk
  obtain ⟨y1, y2, rfl, h3, h4⟩ := LK.append h2
  obtain ⟨z1, z2, rfl, h5, h6⟩ := LK.append h4
  obtain ⟨q1, q2, rfl, h7, h8⟩ := LK.append h6
  obtain ⟨r1, r2, rfl, h9, h10⟩ := LK.append h8
  obtain ⟨p, hp, rfl⟩ := LK.bytes h1
  obtain ⟨t, ht, rfl⟩ := LK.bytes h3
  obtain ⟨s, hs, rfl⟩ := LK.bytes h10
  obtain ⟨n', rfl, hn⟩ := LK.one h5
  obtain ⟨a', rfl, ha⟩ := LK.one h7
  obtain ⟨f', rfl, hf⟩ := LK.one h9
  obtain ⟨n, rfl, hn2⟩ := u64_nat hn
  obtain ⟨a, rfl, ha2⟩ := u64_nat ha
  obtain ⟨f, rfl, hf2⟩ := u64_nat hf
  exact ⟨⟨p, t, n, a, f, s⟩, ⟨hp, ht, hs, hn2, ha2, hf2⟩, by simp [txL, txN]⟩

end Go.Proofs.YtgndidjfjdaagaaDoor
