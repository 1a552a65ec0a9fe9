/-
  tx.From, Id, and the law's first examples.
-/
import Derived.Test.YtgndidjfjdaagaaDoorTx3
set_option linter.unusedSimpArgs false
set_option linter.unusedVariables false
set_option linter.unnecessarySimpa false
namespace Go.Proofs.YtgndidjfjdaagaaDoor
open Go.RowKit

def keyH (d : List UInt8) : List UInt8 := shaB (tagB 3 [d])
def idH (x : TxD) : List UInt8 := shaB (tagB 5 [txB x])

set_option maxRecDepth 100000 in
set_option maxHeartbeats 1000000 in
theorem c_acctKey {w : World} (d : List UInt8) (hd : d.length = 32) (hk : KT w) : Calls Tryd.prog 97 #[.agg (bs d)] w fun e w' => e = .returned (.agg (bs (keyH d))) ∧ Fr 0 0 w w' := by
  have hsl : ((keyH d).map ub).length = 32 := by rw [List.length_map, keyH, shaB_length]
  obtain ⟨S, hSS⟩ : ∃ S, S = keyH d := ⟨_, rfl⟩
  have hS : Hid (shaB (tagB 3 [d]) = S) := (show _ = _ by rw [hSS]; rfl)
  rw [← hSS] at hsl ⊢
  have HD := Lib.hid hd
  clear hSS hd
  go_enter Tryd.func97, Tryd.ntmps97
  go_wp2_with (first
    | (refine wpl_box (d.map ub) rfl rfl rfl rfl ?_; intro g1 w1 hB1 hF1 hg1 hgs1)
    | (refine wpl_alloc zer30 rfl rfl rfl ?_; intro g2 w2 hB2 hF2 hg2 hs2; have hR2 : RdB w2 g1 (g1 + 1) (.slice (some ⟨g1, 0, none⟩) 32 32) d := Blk.rd (A := []) (Z := []) (by simpa using hB1.kept hF2 (.inr (Nat.zero_le _))) rfl HD.out (Nat.le_refl _) (by omega))
    | (go_at_call 25; refine (c_tagOf 3 (RdS.one hR2) (by simp) (by simp [lens, HD.out]) (((hk.kept hF1 (.inr (Nat.zero_le _))).kept hF2 (.inr (Nat.zero_le _))).kept (Fr.alloc _ _) (.inr (Nat.zero_le _)))).mono ?_; rintro e w4 ⟨rfl, hF4⟩; rw [hS.out]; have hF5 : Fr 0 0 w2 w4 := (Fr.alloc _ _).trans hF4; have hB4 := hB2.kept hF5 (.inr (Nat.zero_le _)))
    | (refine wpl_store_blk hB4 (by rw [hsl]; rfl) (by rw [siz30, hsl]) (ub_oneCell _) rfl rfl rfl rfl ?_; intro w6 hB6 hF6))
  refine bodyPost_ret (v := .agg (bs S)) (res_blk rfl rfl hB6 row30 (by rw [siz30, hsl])) rfl ⟨rfl, ?_⟩
  exact ((hF1.trans hF2).trans hF5).on hF6 (by have := hF1.size; omega)

set_option maxRecDepth 100000 in
set_option maxHeartbeats 1000000 in
theorem c_txFrom {w : World} (x : TxD) (hx : TxOk x) (hk : KT w) : Calls Tryd.prog 46 #[.agg (txL x).toArray] w fun e w' => e = .returned (.agg (bs (keyH x.p))) ∧ Fr 0 0 w w' := by
  have hsl : ((keyH x.p).map ub).length = 32 := by rw [List.length_map, keyH, shaB_length]
  have h1 := hx.1
  have hpm : (x.p.map ub).length = 32 := by rw [List.length_map, h1]
  go_enter Tryd.func46, Tryd.ntmps46
  go_wp2_with (first
    | (refine wpl_box (txL x) rfl rfl rfl rfl ?_; intro g1 w1 hB1 hF1 hg1 hgs1)
    | (refine wpl_alloc zer30 rfl rfl rfl ?_; intro g2 w2 hB2 hF2 hg2 hs2; have hB12 := hB1.kept hF2 (.inr (Nat.zero_le _)))
    | (refine wpl_load_part (A := []) (L := x.p.map ub) (Z := x.t.map ub ++ (txN x ++ x.s.map ub)) (by simpa [txL] using hB12) rfl row30 (by rw [siz30, hpm]) rfl rfl rfl ?_)
    | (go_at_call 97; refine (c_acctKey x.p h1 ((hk.kept hF1 (.inr (Nat.zero_le _))).kept hF2 (.inr (Nat.zero_le _)))).mono ?_; rintro e w4 ⟨rfl, hF4⟩; have hB4 := hB2.kept hF4 (.inr (Nat.zero_le _)))
    | (refine wpl_store_blk hB4 (by rw [hsl]; rfl) (by rw [siz30, hsl]) (ub_oneCell _) rfl rfl rfl rfl ?_; intro w6 hB6 hF6))
  refine bodyPost_ret (v := .agg (bs (keyH x.p))) (res_blk rfl rfl hB6 row30 (by rw [siz30, hsl])) rfl ⟨rfl, ?_⟩
  exact ((hF1.trans hF2).trans hF4).on hF6 (by have := hF1.size; omega)

set_option maxRecDepth 100000 in
set_option maxHeartbeats 1000000 in
theorem c_txId {w : World} (x : TxD) (hx : TxOk x) (hk : KT w) : Calls Tryd.prog 48 #[.agg (txL x).toArray] w fun e w' => e = .returned (.agg (bs (idH x))) ∧ Fr 0 0 w w' := by
  have hl := txL_length hx
  have HBL := Lib.hid (txB_length hx)
  have HX : Hid (TxOk x) := hx
  have hsl : ((idH x).map ub).length = 32 := by rw [List.length_map, idH, shaB_length]
  obtain ⟨S, hSS⟩ : ∃ S, S = idH x := ⟨_, rfl⟩
  have hS : Hid (shaB (tagB 5 [txB x]) = S) := (show _ = _ by rw [hSS]; rfl)
  rw [← hSS] at hsl ⊢
  clear hx hSS
  go_enter Tryd.func48, Tryd.ntmps48
  go_wp2_with (first
    | (refine wpl_box (txL x) rfl rfl rfl rfl ?_; intro g1 w1 hB1 hF1 hg1 hgs1)
    | (refine wpl_alloc zer30 rfl rfl rfl ?_; intro g2 w2 hB2 hF2 hg2 hs2; have hB12 := hB1.kept hF2 (.inr (Nat.zero_le _)))
    | (refine wpl_load_blk hB12 row39 (by rw [siz39, hl]) rfl rfl rfl ?_)
    | (go_at_call 38; refine (c_txBytes x HX.out).mono ?_; rintro e w3 ⟨v3, rfl, hO3, hF3⟩; obtain ⟨a3, c3, rfl⟩ : ∃ a c, v3 = .slice a 120 c := (let ⟨x, y, e, _⟩ := hO3.rd.form; ⟨x, y, by rw [e, HBL.out]⟩))
    | (go_at_call 25; refine (c_tagOf 5 (RdS.one hO3.rd) (by simp) (by simp [lens, HBL.out]) ((((hk.kept hF1 (.inr (Nat.zero_le _))).kept hF2 (.inr (Nat.zero_le _))).kept hF3 (.inr (Nat.zero_le _))).kept (Fr.alloc _ _) (.inr (Nat.zero_le _)))).mono ?_; rintro e w4 ⟨rfl, hF4⟩; rw [hS.out]; have hF5 : Fr 0 0 w3 w4 := (Fr.alloc _ _).trans hF4; have hB4 := (hB2.kept hF3 (.inr (Nat.zero_le _))).kept hF5 (.inr (Nat.zero_le _)))
    | (refine wpl_store_blk hB4 (by rw [hsl]; rfl) (by rw [siz30, hsl]) (ub_oneCell _) rfl rfl rfl rfl ?_; intro w6 hB6 hF6))
  refine bodyPost_ret (v := .agg (bs S)) (res_blk rfl rfl hB6 row30 (by rw [siz30, hsl])) rfl ⟨rfl, ?_⟩
  exact (((hF1.trans hF2).trans hF3).trans hF5).on hF6 (by have := hF1.size; omega)

def txZ : TxD := ⟨List.replicate 32 0, List.replicate 32 0, 0, 0, 0, List.replicate 32 0⟩
theorem txZ_ok : TxOk txZ := ⟨by simp [txZ], by simp [txZ], by simp [txZ], by simp [txZ], by simp [txZ], by simp [txZ]⟩
set_option maxRecDepth 1000000 in
theorem txZ_ne : ¬ txZ.s = signH txZ := by decide +kernel
theorem signH_signed (x : TxD) : signH (signed x) = signH x := rfl

set_option maxRecDepth 100000 in
set_option maxHeartbeats 1000000 in
theorem c_alive11 {w : World} (hk : KT w) : Calls Tryd.prog 35 #[] w fun e w' => e = .returned (.bool true) ∧ Fr 0 0 w w' := by
  have hl := txL_length txZ_ok
  have hl2 := txL_length (signed_ok txZ_ok)
  have HBL := Lib.hid (txB_length txZ_ok)
  have HN := Lib.hid txZ_ne
  have HSS : Hid ((signed txZ).s = signH (signed txZ)) := (show _ = _ from rfl)
  have HZ0 : Hid (tx0 = txL txZ) := (show _ = _ from rfl)
  obtain ⟨x, hx⟩ : ∃ x, x = txZ := ⟨_, rfl⟩
  obtain ⟨y, hy⟩ : ∃ y, y = signed txZ := ⟨_, rfl⟩
  have HXO : Hid (TxOk x) := (show TxOk x by rw [hx]; exact txZ_ok)
  have HYO : Hid (TxOk y) := (show TxOk y by rw [hy]; exact signed_ok txZ_ok)
  have HY : Hid (signed x = y) := (show _ = _ by rw [hx, hy])
  rw [← hx] at hl HBL HN HZ0
  rw [← hy] at hl2 HSS
  clear hx hy
  have t1 := trivial
  have t2 := trivial
  have t3 := trivial
  go_enter Tryd.func35, Tryd.ntmps35
  go_wp2_with (first
    | (refine wpl_alloc zer39 rfl rfl rfl ?_; intro g1 w1 hB1 hF1 hg1 hs1; rw [HZ0.out] at hB1)
    | (have _t := t1; refine wpl_load_blk hB1 row39 (by rw [siz39, hl]) rfl rfl rfl ?_; clear t1 _t)
    | (have _t := t2; go_at_call 34; refine (c_txCheck x HXO.out (hk.kept hF1 (.inr (Nat.zero_le _)))).mono ?_; rintro e w2 ⟨rfl, hF2⟩; rw [if_neg HN.out]; clear t2 _t; have hB2 := hB1.kept hF2 (.inr (Nat.zero_le _)); have hW2 := hF1.trans hF2)
    | (have _t := t3; refine wpl_load_blkG hB2 row39 (by rw [siz39, hl]) rfl rfl rfl ?_; clear t3 _t)
    | (go_at_call 36; refine (c_txSign x HXO.out (hk.kept hW2 (.inr (Nat.zero_le _)))).mono ?_; rintro e w3 ⟨rfl, hF3⟩; rw [HY.out]; have hW3 := hW2.trans hF3)
    | (go_at_call 34; refine (c_txCheck y HYO.out (hk.kept hW3 (.inr (Nat.zero_le _)))).mono ?_; rintro e w4 ⟨rfl, hF4⟩; rw [if_pos HSS.out]; have hW4 := hW3.trans hF4; have hB4 := (hB2.kept hF3 (.inr (Nat.zero_le _))).kept hF4 (.inr (Nat.zero_le _)))
    | (refine wpl_load_blkG hB4 row39 (by rw [siz39, hl]) rfl rfl rfl ?_)
    | (go_at_call 38; refine (c_txBytes x HXO.out).mono ?_; rintro e w5 ⟨v5, rfl, hO5, hF5⟩; obtain ⟨a5, c5, rfl⟩ : ∃ a c, v5 = .slice a 120 c := (let ⟨x, y, e, _⟩ := hO5.rd.form; ⟨x, y, by rw [e, HBL.out]⟩)))
  go_ret
  exact ⟨rfl, hW4.trans hF5⟩

end Go.Proofs.YtgndidjfjdaagaaDoor
