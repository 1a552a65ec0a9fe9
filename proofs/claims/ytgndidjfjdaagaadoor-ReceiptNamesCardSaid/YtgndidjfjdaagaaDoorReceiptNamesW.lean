/-
  The walk of the law ReceiptNames.
-/
import Derived.Test.YtgndidjfjdaagaaDoorDep
import Derived.Deep.OwnRows
set_option linter.unusedSimpArgs false
set_option linter.unusedVariables false
namespace Go.Proofs.YtgndidjfjdaagaaDoor
open Go.RowKit

theorem zer97 : depL 0 (List.replicate 32 0) 0 = [.int .u64 0] ++ (List.replicate 32 (0 : UInt8)).map ub ++ [.int .u64 0] := rfl
theorem b1 : Tryd.prog.built 56 [(0, .int .u8 1), (2, .int .i64 150)] = some (recL 1 (List.replicate 32 0) 150).toArray := by kernel_rfl
theorem b2 : Tryd.prog.built 56 [(0, .int .u8 3)] = some (recL 3 (List.replicate 32 0) 0).toArray := by kernel_rfl
theorem b3 : Tryd.prog.built 56 [(0, .int .u8 2), (2, .int .i64 150)] = some (recL 2 (List.replicate 32 0) 150).toArray := by kernel_rfl
theorem rr34 : recRead (List.replicate 34 0) = (rec0, 10) := by kernel_rfl
theorem rr36 : recRead (List.replicate 36 0) = (rec0, 11) := by kernel_rfl
theorem rr35 : recRead (List.replicate 35 0) = (rec0, 8) := by kernel_rfl
theorem rec0_one : ∀ v ∈ rec0, v.oneCell' = true := recL_one _ _ _

set_option maxRecDepth 20000 in
set_option maxHeartbeats 2000000 in
theorem w_ReceiptNames {w : World} (hk : KT w) :
    Calls Tryd.prog 12 #[] w fun e w' => e = .returned (.bool true) ∧ Fr 0 0 w w' := by
  have H34 := Lib.hid rr34
  have H35 := Lib.hid rr35
  have H36 := Lib.hid rr36
  have HK1 : Hid (recChk 1 150 = 8) := by show _ = _; decide
  have HK2 : Hid (recChk 3 0 = 8) := by show _ = _; decide
  have HK3 : Hid (recChk 2 150 = 0) := by show _ = _; decide
  have t1 := trivial
  have t2 := trivial
  have t3 := trivial
  have t4 := trivial
  have t5 := trivial
  have t6 := trivial
  have t7 := trivial
  go_enter Tryd.func12, Tryd.ntmps12
  go_wp2_with (first
    | (have _t := t1; refine wpl_make (n := 34) und22 inf5 rfl rfl rfl rfl (by omega) (by omega) (by omega) ?_; intro g1 w1 hB1 hF1 hg1 hs1; clear t1 _t)
    | (have _t := t2; go_at_call 63; refine (c_recRead (OwB.of_blk (lo := g1) (hi := g1 + 1) (n := 34) hB1 (by simp) (Nat.le_refl _) (by omega) (by omega)).rd (by simp)).mono ?_; rintro e w2 ⟨rfl, hF2⟩; rw [H34.out]; clear t2 _t; have hW2 := hF1.trans hF2)
    | (have _t := t3; refine wpl_alloc zer43 rfl rfl rfl ?_; intro g3 w3 hB3 hF3 hg3 hs3; clear t3 _t)
    | (have _t := hB3; refine wpl_store_blk hB3 rfl siz43 rec0_one rfl rfl rfl rfl ?_; intro w4 hB4 hF4; clear hB3 _t; have z2 := hW2.size; have hW4 := (hW2.trans hF3).on hF4 (by omega))
    | (have _t := t4; refine wpl_make (n := 36) und22 inf5 rfl rfl rfl rfl (by omega) (by omega) (by omega) ?_; intro g5 w5 hB5 hF5 hg5 hs5; clear t4 _t)
    | (have _t := t5; go_at_call 63; refine (c_recRead (OwB.of_blk (lo := g5) (hi := g5 + 1) (n := 36) hB5 (by simp) (Nat.le_refl _) (by omega) (by omega)).rd (by simp)).mono ?_; rintro e w6 ⟨rfl, hF6⟩; rw [H36.out]; clear t5 _t; have hW6 := (hW4.trans hF5).trans hF6)
    | (have _t := t6; refine wpl_alloc zer43 rfl rfl rfl ?_; intro g7 w7 hB7 hF7 hg7 hs7; clear t6 _t)
    | (have _t := hB7; refine wpl_store_blk hB7 rfl siz43 rec0_one rfl rfl rfl rfl ?_; intro w8 hB8 hF8; clear hB7 _t; have z6 := hW6.size; have hW8 := (hW6.trans hF7).on hF8 (by omega))
    | (have _t := t7; refine wpl_make (n := 35) und22 inf5 rfl rfl rfl rfl (by omega) (by omega) (by omega) ?_; intro g9 w9 hB9 hF9 hg9 hs9; clear t7 _t)
    | (go_at_call 63; refine (c_recRead (OwB.of_blk (lo := g9) (hi := g9 + 1) (n := 35) hB9 (by simp) (Nat.le_refl _) (by omega) (by omega)).rd (by simp)).mono ?_; rintro e w10 ⟨rfl, hF10⟩; rw [H35.out]; have hW10 := (hW8.trans hF9).trans hF10; have t8 := trivial; have t9 := trivial; have t10 := trivial)
    | (refine wpl_alloc zer43 rfl rfl rfl ?_; intro g11 w11 hB11 hF11 hg11 hs11)
    | (refine wpl_store_blk hB11 rfl siz43 rec0_one rfl rfl rfl rfl ?_; intro w12 hB12 hF12; clear hB11; have z10 := hW10.size; have hW12 := (hW10.trans hF11).on hF12 (by omega))
    | (refine wpl_build (parts := [(0, _), (2, _)]) b1 rfl rfl rfl ?_)
    | (have _t := t8; go_at_call 64; refine (c_recCheck 1 (List.replicate 32 0) 150 (by simp)).mono ?_; rintro e w13 ⟨rfl, hF13⟩; rw [HK1.out]; clear t8 _t; have hW13 := hW12.trans hF13)
    | (refine wpl_buildG (parts := [(0, _)]) b2 rfl rfl rfl ?_)
    | (have _t := t9; go_at_call 64; refine (c_recCheck 3 (List.replicate 32 0) 0 (by simp)).mono ?_; rintro e w14 ⟨rfl, hF14⟩; rw [HK2.out]; clear t9 _t; have hW14 := hW13.trans hF14)
    | (refine wpl_buildG (parts := [(0, _), (2, _)]) b3 rfl rfl rfl ?_)
    | (go_at_call 64; refine (c_recCheck 2 (List.replicate 32 0) 150 (by simp)).mono ?_; rintro e w15 ⟨rfl, hF15⟩; rw [HK3.out]; have hW15 := hW14.trans hF15))
  have hD0 : depH 0 (List.replicate 32 0) 0 = shaB (tagB 9 [List.replicate 48 0]) := by
    have e : beB 8 0 ++ List.replicate 32 (0 : UInt8) ++ beB 8 0 = List.replicate 48 0 := by kernel_rfl
    rw [depH, e]
  obtain ⟨S, hS⟩ : ∃ S, S = shaB (tagB 9 [List.replicate 48 0]) := ⟨_, rfl⟩
  have hSl : S.length = 32 := by rw [hS, shaB_length]
  have HS := Lib.hid hS
  have HD0 : Hid (depH 0 (List.replicate 32 0) 0 = S) := by show _ = _; rw [hD0, hS]
  have hEq : ∀ w, (binOp .eql 30 (.agg (bs S)) (.agg (bs S))).run Tryd.prog w = .ok (.bool true) w := fun w => run_eql_self leaves30 (by omega) row30 (LF.bytes32 S hSl) w
  clear hD0 hS
  obtain ⟨Z, hZ⟩ : ∃ Z, Z = madeCells #[.int .u8 0] 48 := ⟨_, rfl⟩
  have HZ : Hid (Z = ((List.replicate 48 (0 : UInt8)).map ub).toArray) := by show _ = _; rw [hZ]; kernel_rfl
  have hMk : ∀ w, (Instr.makeSlice 24 (.int .i64 48) (.int .i64 48)).run Tryd.prog w = .ok (.slice (some ⟨w.heap.size, 0, none⟩) 48 48) (w.alloc (.cells Z 5)) := fun w => by
    rw [hZ]
    exact run_make_row' 24 5 (.int .u8 0) 1 und22 inf5 rfl .i64 .i64 48 (by omega) (by omega) w
  clear hZ
  go_region_held3 (fun _ => True) (trivial) ((first
    | (go_at_call 65; refine c_alive12.mono ?_; rintro e w16 ⟨rfl, hF16⟩; have hW16 := (hW15.trans (Fr.drew _)).trans hF16)
    | (go_at_call 66; refine (c_Deposit 0 (List.replicate 32 0) 0 (by simp) (by omega) (by omega) (hk.kept hW16 (.inr (Nat.zero_le _)))).mono ?_; rintro e w17 ⟨rfl, hF17⟩; rw [HD0.out]; have hW17 := hW16.trans hF17; have ta := trivial)
    | (go_at_call 66; refine (c_Deposit 0 (List.replicate 32 0) 0 (by simp) (by omega) (by omega) (hk.kept (hW16.trans (Fr.alloc _ _)) (.inr (Nat.zero_le _)))).mono ?_; rintro e w17 ⟨rfl, hF17⟩; rw [HD0.out]; have hW17 := (hW16.trans (Fr.alloc _ _)).trans hF17; have tb := trivial)
    | (go_at_call 66; refine (c_Deposit 0 (List.replicate 32 0) 0 (by simp) (by omega) (by omega) (hk.kept ((hW16.trans (Fr.alloc _ _)).trans (Fr.alloc _ _)) (.inr (Nat.zero_le _)))).mono ?_; rintro e w17 ⟨rfl, hF17⟩; rw [HD0.out]; have hW17 := ((hW16.trans (Fr.alloc _ _)).trans (Fr.alloc _ _)).trans hF17; have tc := trivial)
    | (have _t := ta; go_at_call 25; have hbz : Blk (w17.alloc (.cells Z 5)) w17.heap.size ((List.replicate 48 (0 : UInt8)).map ub) 5 := (by rw [HZ.out]; exact heap_alloc_new w17 _); have hRS := RdS.one (OwB.of_blk (lo := w17.heap.size) (hi := w17.heap.size + 1) (n := 48) hbz (by simp) (Nat.le_refl _) (by omega) (by omega)).rd; rw [World.size_alloc] at hRS; refine (c_tagOf 9 hRS (by simp) (by simp [lens]) (((hk.kept hW17 (.inr (Nat.zero_le _))).kept (Fr.alloc _ _) (.inr (Nat.zero_le _))).kept (Fr.alloc _ _) (.inr (Nat.zero_le _)))).mono ?_; rintro e w18 ⟨rfl, hF18⟩; rw [← HS.out]; have hW18 := ((hW17.trans (Fr.alloc _ _)).trans (Fr.alloc _ _)).trans hF18)
    | (have _t := tb; go_at_call 25; have hbz : Blk (w16.alloc (.cells Z 5)) w16.heap.size ((List.replicate 48 (0 : UInt8)).map ub) 5 := (by rw [HZ.out]; exact heap_alloc_new w16 _); have hRS := RdS.one ((OwB.of_blk (lo := w16.heap.size) (hi := w16.heap.size + 1) (n := 48) hbz (by simp) (Nat.le_refl _) (by omega) (by omega)).rd.kept hF17 (.inr (Nat.zero_le _))); refine (c_tagOf 9 hRS (by simp) (by simp [lens]) ((hk.kept hW17 (.inr (Nat.zero_le _))).kept (Fr.alloc _ _) (.inr (Nat.zero_le _)))).mono ?_; rintro e w18 ⟨rfl, hF18⟩; rw [← HS.out]; have hW18 := (hW17.trans (Fr.alloc _ _)).trans hF18)
    | (have _t := tc; go_at_call 25; have hbz : Blk (w16.alloc (.cells Z 5)) w16.heap.size ((List.replicate 48 (0 : UInt8)).map ub) 5 := (by rw [HZ.out]; exact heap_alloc_new w16 _); have hRS := (RdS.one (OwB.of_blk (lo := w16.heap.size) (hi := w16.heap.size + 1) (n := 48) hbz (by simp) (Nat.le_refl _) (by omega) (by omega)).rd).kept hF17 (.inr (Nat.zero_le _)); rw [World.size_alloc] at hRS; refine (c_tagOf 9 hRS (by have := hF17.size; simp at this; omega) (by simp [lens]) (hk.kept hW17 (.inr (Nat.zero_le _)))).mono ?_; rintro e w18 ⟨rfl, hF18⟩; rw [← HS.out]; have hW18 := hW17.trans hF18)))
  all_goals
    go_wp2_with fail
    go_ret
    exact ⟨rfl, hW18⟩

end Go.Proofs.YtgndidjfjdaagaaDoor
