/-
  tx.Body and what hangs on it.
-/
import Derived.Test.YtgndidjfjdaagaaDoorTx
set_option linter.unusedSimpArgs false
set_option linter.unusedVariables false
namespace Go.Proofs.YtgndidjfjdaagaaDoor
open Go.RowKit

set_option maxRecDepth 100000 in
set_option maxHeartbeats 1000000 in
theorem c_txBody {w : World} (x : TxD) (hx : TxOk x) : Calls Tryd.prog 37 #[.agg (txL x).toArray] w fun e w' => ∃ v', e = .returned v' ∧ OwB w' w.heap.size w'.heap.size v' (bodyB x) ∧ Fr 0 0 w w' := by
  obtain ⟨h1, h2, h3, h4, h5, h6⟩ := hx
  have hpm : (x.p.map ub).length = 32 := by rw [List.length_map, h1]
  have htm : (x.t.map ub).length = 32 := by rw [List.length_map, h2]
  have hB0 : Hid (bodyB x = x.p ++ x.t ++ (beB 8 x.n ++ beB 8 x.a ++ beB 8 x.f)) := (show _ = _ from rfl)
  have hpt : (x.p ++ x.t).length = 64 := by rw [List.length_append, h1, h2]
  have HPT := Lib.hid hpt
  have H1 := Lib.hid h1
  have H2 := Lib.hid h2
  clear hpt h1 h2 h3
  go_enter Tryd.func37, Tryd.ntmps37
  have t1 := trivial
  go_wp2_with (first
    | (refine wpl_box (txL x) rfl rfl rfl rfl ?_; intro g1 w1 hB1 hF1 hg1 hgs1;
        have c64 : w1.cell? ⟨g1, 64, none⟩ = some (.int .u64 (x.n : Int)) := (by rw [hB1.cell, txL, List.getElem?_append_right (by omega), hpm, List.getElem?_append_right (by omega), htm]; rfl);
        have c65 : w1.cell? ⟨g1, 65, none⟩ = some (.int .u64 (x.a : Int)) := (by rw [hB1.cell, txL, List.getElem?_append_right (by omega), hpm, List.getElem?_append_right (by omega), htm]; rfl);
        have c66 : w1.cell? ⟨g1, 66, none⟩ = some (.int .u64 (x.f : Int)) := (by rw [hB1.cell, txL, List.getElem?_append_right (by omega), hpm, List.getElem?_append_right (by omega), htm]; rfl))
    | (have _t := t1; refine wpl_load_part (A := []) (L := x.p.map ub) (Z := x.t.map ub ++ (txN x ++ x.s.map ub)) (by simpa [txL] using hB1) rfl row30 (by rw [siz30, hpm]) rfl rfl rfl ?_; clear t1 _t)
    | (refine wpl_load_part (A := x.p.map ub) (L := x.t.map ub) (Z := txN x ++ x.s.map ub) (by simpa [txL] using hB1) hpm row30 (by rw [siz30, htm]) rfl rfl rfl ?_)
    | (refine wpl_buildDig2 x.p x.t H1.out H2.out rfl rfl rfl rfl ?_; intro g2 w2 hB2 hF2 hg2; have hgw := hB2.lt)
    | (go_at_call 85; refine (c_putD x.p x.t H1.out H2.out hB2).mono ?_; rintro e w3 ⟨v3, rfl, hO3, hF3⟩; have z1 := hF1.size; have z2 := hF2.size; have z3 := hF3.size; have d64 := hF3.cell (hF2.cell c64 (.inr (Nat.zero_le _))) (.inr (Nat.zero_le _)); have d65 := hF3.cell (hF2.cell c65 (.inr (Nat.zero_le _))) (.inr (Nat.zero_le _)); have d66 := hF3.cell (hF2.cell c66 (.inr (Nat.zero_le _))) (.inr (Nat.zero_le _)))
    | (go_at_call 87; refine (c_putN (g := w3.heap.size) x.n x.a x.f h4 h5 h6 (heap_alloc_new w3 _) (hO3.kept (Fr.alloc _ _) (.inr (Nat.zero_le _))) HPT.out (Nat.le_refl _) (by simp)).mono ?_; rintro e w4 ⟨v4, lo4, hi4, rfl, hO4, hz4, hF4⟩))
  go_ret
  have z4 := hF4.size
  simp only [World.size_alloc] at z4 hz4
  rw [hB0.out]
  exact ⟨v4, rfl, hO4.mono (by omega) (by omega), (((hF1.trans hF2).trans hF3).trans (Fr.alloc _ _)).on hF4 (by omega)⟩

set_option maxRecDepth 100000 in
set_option maxHeartbeats 1000000 in
theorem c_txSign0 {w : World} (x : TxD) (hx : TxOk x) (hk : KT w) : Calls Tryd.prog 84 #[.agg (txL x).toArray] w fun e w' => e = .returned (.agg (bs (signH x))) ∧ Fr 0 0 w w' := by
  have hl := txL_length hx
  have hbl := bodyB_length hx
  have HBL := Lib.hid hbl
  have HX : Hid (TxOk x) := hx
  have hS : Hid (shaB (tagB 4 [bodyB x]) = signH x) := (show _ = _ from rfl)
  have hsl : ((signH x).map ub).length = 32 := by rw [List.length_map, signH_length]
  obtain ⟨S, hSS⟩ : ∃ S, S = signH x := ⟨_, rfl⟩
  have HSS := Lib.hid hSS
  rw [← hSS] at hsl
  clear hx hbl hSS
  go_enter Tryd.func84, Tryd.ntmps84
  go_wp2_with (first
    | (refine wpl_box (txL x) rfl rfl rfl rfl ?_; intro g1 w1 hB1 hF1 hg1 hgs1)
    | (refine wpl_alloc zer30 rfl rfl rfl ?_; intro g2 w2 hB2 hF2 hg2 hs2; have hB12 := hB1.kept hF2 (.inr (Nat.zero_le _)))
    | (refine wpl_load_blk hB12 row39 (by rw [siz39, hl]) rfl rfl rfl ?_)
    | (go_at_call 37; refine (c_txBody x HX.out).mono ?_; rintro e w3 ⟨v3, rfl, hO3, hF3⟩; obtain ⟨a3, c3, rfl⟩ : ∃ a c, v3 = .slice a 88 c := (let ⟨x, y, e, _⟩ := hO3.rd.form; ⟨x, y, by rw [e, HBL.out]⟩))
    | (go_at_call 25; refine (c_tagOf 4 (RdS.one hO3.rd) (by simp) (by simp [lens, HBL.out]) ((((hk.kept hF1 (.inr (Nat.zero_le _))).kept hF2 (.inr (Nat.zero_le _))).kept hF3 (.inr (Nat.zero_le _))).kept (Fr.alloc _ _) (.inr (Nat.zero_le _)))).mono ?_; rintro e w4 ⟨rfl, hF4⟩; rw [hS.out, ← HSS.out]; have hB4 := ((hB2.kept hF3 (.inr (Nat.zero_le _))).kept (Fr.alloc _ _) (.inr (Nat.zero_le _))).kept hF4 (.inr (Nat.zero_le _)); have hF5 : Fr 0 0 w3 w4 := (Fr.alloc _ _).trans hF4)
    | (refine wpl_store_blk hB4 (by rw [hsl]; rfl) (by rw [siz30, hsl]) (ub_oneCell _) rfl rfl rfl rfl ?_; intro w6 hB6 hF6))
  refine bodyPost_ret (v := .agg (bs S)) (res_blk rfl rfl hB6 row30 (by rw [siz30, hsl])) rfl ⟨by rw [HSS.out], ?_⟩
  exact (((hF1.trans hF2).trans hF3).trans hF5).on hF6 (by have := hF1.size; omega)

/-- Signed. -/
def signed (x : TxD) : TxD := { x with s := signH x }
theorem signed_ok {x : TxD} (h : TxOk x) : TxOk (signed x) := ⟨h.1, h.2.1, signH_length x, h.2.2.2⟩
def tx0 : List Value := txL ⟨List.replicate 32 0, List.replicate 32 0, 0, 0, 0, List.replicate 32 0⟩
theorem tx0_length : tx0.length = 99 := rfl
theorem zer39 : (Tryd.prog.info? 39).map (·.zero) = some (some (.agg tx0.toArray)) := by kernel_rfl
theorem txL_one (x : TxD) : ∀ v ∈ txL x, v.oneCell' = true := by
  intro v hv
  simp only [txL, txN, List.mem_append, List.mem_map, List.mem_cons, List.not_mem_nil, or_false] at hv
  rcases hv with ⟨_, _, rfl⟩ | ⟨_, _, rfl⟩ | (rfl | rfl | rfl) | ⟨_, _, rfl⟩ <;> rfl

set_option maxRecDepth 100000 in
set_option maxHeartbeats 1000000 in
theorem c_txSign {w : World} (x : TxD) (hx : TxOk x) (hk : KT w) : Calls Tryd.prog 36 #[.agg (txL x).toArray] w fun e w' => e = .returned (.agg (txL (signed x)).toArray) ∧ Fr 0 0 w w' := by
  have hl := txL_length hx
  have hl2 := txL_length (signed_ok hx)
  have HX : Hid (TxOk x) := hx
  obtain ⟨h1, h2, h3, _⟩ := hx
  have hAl : (x.p.map ub ++ (x.t.map ub ++ txN x)).length = 67 := by simp [txN, h1, h2]
  have hsm : (x.s.map ub).length = 32 := by rw [List.length_map, h3]
  have hsl : ((signH x).map ub).length = 32 := by rw [List.length_map, signH_length]
  have e1 : Hid (txL x = (x.p.map ub ++ (x.t.map ub ++ txN x)) ++ x.s.map ub ++ []) := (show _ = _ by simp [txL])
  have e2 : Hid ((x.p.map ub ++ (x.t.map ub ++ txN x)) ++ (signH x).map ub ++ [] = txL (signed x)) := (show _ = _ by simp [txL, signed, txN])
  obtain ⟨S, hSS⟩ : ∃ S, S = signH x := ⟨_, rfl⟩
  obtain ⟨Y, hY⟩ : ∃ Y, Y = txL (signed x) := ⟨_, rfl⟩
  have HY := Lib.hid hY
  have hY1 : ∀ v ∈ Y, v.oneCell' = true := by rw [hY]; exact txL_one _
  rw [← hSS] at hsl e2
  rw [← hY] at hl2 e2
  have HSS := Lib.hid hSS
  clear hSS hY h1 h2 h3
  go_enter Tryd.func36, Tryd.ntmps36
  have t1 := trivial
  go_wp2_with (first
    | (refine wpl_box (txL x) rfl rfl rfl rfl ?_; intro g1 w1 hB1 hF1 hg1 hgs1)
    | (refine wpl_alloc zer39 rfl rfl rfl ?_; intro g2 w2 hB2 hF2 hg2 hs2; have hB12 := hB1.kept hF2 (.inr (Nat.zero_le _)))
    | (have _t := t1; refine wpl_load_blk hB12 row39 (by rw [siz39, hl]) rfl rfl rfl ?_; clear t1 _t)
    | (go_at_call 84; refine (c_txSign0 x HX.out ((hk.kept hF1 (.inr (Nat.zero_le _))).kept hF2 (.inr (Nat.zero_le _)))).mono ?_; rintro e w3 ⟨rfl, hF3⟩; rw [← HSS.out]; have hB13 := hB12.kept hF3 (.inr (Nat.zero_le _)); rw [e1.out] at hB13; have hB23 := hB2.kept hF3 (.inr (Nat.zero_le _)); have z1 := hF1.size; have z2 := hF2.size; have z3 := hF3.size; have q1 := hB1.lt; have q2 := hB2.lt)
    | (refine wpl_store_part (L' := S.map ub) hB13 hAl (by rw [hsl, hsm]) (by rw [siz30, hsl]) (ub_oneCell _) rfl rfl rfl rfl ?_; intro w4 hB4 hF4; rw [e2.out] at hB4; have hB24 := hB23.kept hF4 (.inr (by omega)))
    | (refine wpl_load_blk hB4 row39 (by rw [siz39, hl2]) rfl rfl rfl ?_)
    | (refine wpl_store_blk hB24 (by rw [hl2]; rfl) (by rw [siz39, hl2]) hY1 rfl rfl rfl rfl ?_; intro w6 hB6 hF6))
  refine bodyPost_ret (v := .agg Y.toArray) (res_blk rfl rfl hB6 row39 (by rw [siz39, hl2])) rfl ⟨by rw [HY.out], ?_⟩
  exact (((hF1.trans hF2).trans hF3).on hF4 (by omega)).on hF6 (by omega)

end Go.Proofs.YtgndidjfjdaagaaDoor
