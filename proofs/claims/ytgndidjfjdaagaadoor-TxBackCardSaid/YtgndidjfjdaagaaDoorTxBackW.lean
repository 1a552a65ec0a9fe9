/-
  The walk of the law TxBack.
-/
import Derived.Test.YtgndidjfjdaagaaDoorTxPure
set_option linter.unusedSimpArgs false
set_option linter.unusedVariables false
set_option linter.unnecessarySimpa false
namespace Go.Proofs.YtgndidjfjdaagaaDoor
open Go.RowKit

set_option maxRecDepth 100000 in
set_option maxHeartbeats 8000000 in
theorem w_TxBack11 {w : World} {a : Option Addr} {cap : Nat} {l : List UInt8} (x : TxD) (hx : TxOk x) (h : RdB w 0 w.heap.size (.slice a l.length cap) l) (hk : KT w) (hl : ¬ 300 < l.length) (hsx : x.s = signH x) (X : TxD) (hX : TxOk X) (hXs : X.s = signH X) (hXl : txB X = l) (hr : txRead l = (txL X, 0)) :
    Calls Tryd.prog 15 #[.agg (txL x).toArray, .slice a l.length cap] w fun e w' => e = .returned (.bool true) ∧ Fr 0 0 w w' := by
  have hlx := txL_length hx
  have hls := txL_length (signed_ok hx)
  have HX : Hid (TxOk x) := hx
  have HSO : Hid (TxOk (signed x)) := signed_ok hx
  have HTX := Lib.hid (txB_length hx)
  have HTS := Lib.hid (txB_length (signed_ok hx))
  have hz0 : tx0.length = 99 := rfl
  have h1tx : ∀ v ∈ tx0, v.oneCell' = true := txL_one txZ
  have hlfx := lfT_txL hx
  have hlfs := lfT_txL (signed_ok hx)
  have hlf0 := lfT_tx0
  have hll : l.length ≤ 1073741824 := by omega
  have HR1 : Hid (txRead (txB (signed x)) = (txL (signed x), 0)) := (show _ = _ by rw [txRead_txB (signed_ok hx), if_pos (signed_s x)])
  have HR2 : Hid (txRead (txB x) = ((txL x), 0)) := (show _ = _ by rw [txRead_txB hx, if_pos hsx])
  have HR3 := Lib.hid hr
  have HCX := Lib.hid hsx
  have hlX := txL_length hX
  have hlfX := lfT_txL hX
  have HXO : Hid (TxOk X) := hX
  have HXS := Lib.hid hXs
  have HXL := Lib.hid hXl
  have HLE : Hid ((l == l) = true) := Lib.hid (by simp)
  clear hX hXs hXl
  clear hx hr hsx
  have t1 := trivial
  have t2 := trivial
  have t3 := trivial
  have t4 := trivial
  have t5 := trivial
  have t6 := trivial
  have t7 := trivial
  have t8 := trivial
  go_enter Tryd.func15, Tryd.ntmps15
  go_wp2_with (first
    | (refine wpl_box (txL x) rfl rfl rfl rfl ?_; intro g2 w1 hX1 hF1 hg2 hgs2)
    | (go_at_call 35; refine (c_alive11 (hk.kept hF1 (.inr (Nat.zero_le _)))).mono ?_; rintro e w2 ⟨rfl, hF2⟩; have hX2 := hX1.kept hF2 (.inr (Nat.zero_le _)); have hW2 := hF1.trans hF2)
    | (have _t := t1; refine wpl_load_blk hX2 row39 (by rw [siz39, hlx]) rfl rfl rfl ?_; clear t1 _t)
    | (go_at_call 36; refine (c_txSign x HX.out (hk.kept hW2 (.inr (Nat.zero_le _)))).mono ?_; rintro e w4 ⟨rfl, hF4⟩; have hW4 := hW2.trans hF4)
    | (have _t := t2; refine wpl_alloc zer39 rfl rfl rfl ?_; intro g6 w5 hA5 hF5 hg6 hs6; clear t2 _t)
    | (have _t := hA5; refine wpl_store_blk hA5 (by rw [hls, hz0]) (by rw [siz39, hls]) (txL_one _) rfl rfl rfl rfl ?_; intro w6 hB6 hF6; clear hA5 _t; have hF26 : Fr 0 0 w2 w6 := hF4.trans (hF5.on hF6 hg6); have hW6 := hW2.trans hF26)
    | (have _t := t3; refine wpl_load_blk hB6 row39 (by rw [siz39, hls]) rfl rfl rfl ?_; clear t3 _t)
    | (have _t := t4; go_at_call 38; refine (c_txBytes (signed x) HSO.out).mono ?_; rintro e w7 ⟨v7, rfl, hO7, hF7⟩; clear t4 _t; have hW7 := hW6.trans hF7)
    | (have _t := t5; go_at_call 72; refine (c_txRead hO7.rd (by rw [HTS.out]; omega) (hk.kept hW7 (.inr (Nat.zero_le _)))).mono ?_; rintro e w8 ⟨rfl, hF8⟩; rw [HR1.out]; clear t5 _t; have hW8 := hW7.trans hF8)
    | (have _t := t6; refine wpl_alloc zer39 rfl rfl rfl ?_; intro g9 w9 hA9 hF9 hg9 hs9; clear t6 _t)
    | (have _t := hA9; refine wpl_store_blk hA9 (by rw [hls, hz0]) (by rw [siz39, hls]) (txL_one _) rfl rfl rfl rfl ?_; intro w10 hB10 hF10; clear hA9 _t; have hF610 : Fr 0 0 w6 w10 := (hF7.trans hF8).trans (hF9.on hF10 hg9); have hW10 := hW6.trans hF610; have hX10 := (hX2.kept hF26 (.inr (Nat.zero_le _))).kept hF610 (.inr (Nat.zero_le _)); have hB610 := hB6.kept hF610 (.inr (Nat.zero_le _)))
    | (have _t := t7; refine wpl_load_blk hX10 row39 (by rw [siz39, hlx]) rfl rfl rfl ?_; clear t7 _t)
    | (have _t := t8; go_at_call 38; refine (c_txBytes x HX.out).mono ?_; rintro e w11 ⟨v11, rfl, hO11, hF11⟩; clear t8 _t; have t9 := trivial; have t10 := trivial; have hW11 := hW10.trans hF11)
    | (have _t := t9; go_at_call 72; refine (c_txRead hO11.rd (by rw [HTX.out]; omega) (hk.kept hW11 (.inr (Nat.zero_le _)))).mono ?_; rintro e w12 ⟨rfl, hF12⟩; rw [HR2.out]; clear t9 _t; have hW12 := hW11.trans hF12)
    | (have _t := t10; refine wpl_alloc zer39 rfl rfl rfl ?_; intro g13 w13 hA13 hF13 hg13 hs13; clear t10 _t)
    | (have _t := hA13; refine wpl_store_blk hA13 (by rw [hlx, hz0]) (by rw [siz39, hlx]) (txL_one x) rfl rfl rfl rfl ?_; intro w14 hB14 hF14; clear hA13 _t; have hF1014 : Fr 0 0 w10 w14 := (hF11.trans hF12).trans (hF13.on hF14 hg13); have hW14 := hW10.trans hF1014; have hX14 := hX10.kept hF1014 (.inr (Nat.zero_le _)); have hB614 := hB610.kept hF1014 (.inr (Nat.zero_le _)); have hB1014 := hB10.kept hF1014 (.inr (Nat.zero_le _)))
    | (refine wpl_load_blkG hB1014 row39 (by rw [siz39, hls]) rfl rfl rfl ?_)
    | (refine wpl_load_blkG hB614 row39 (by rw [siz39, hls]) rfl rfl rfl ?_)
    | (refine wpl_neq leaves39 (by omega) row39 eqg39 hlfs hlfs rfl rfl rfl rfl ?_; intro r hr; obtain rfl : r = true := hr.2 rfl; clear hr)
    | (refine wpl_load_blkG hX14 row39 (by rw [siz39, hlx]) rfl rfl rfl ?_)
    | (go_at_call 34; refine (c_txCheck x HX.out (hk.kept hW14 (.inr (Nat.zero_le _)))).mono ?_; rintro e w15 ⟨rfl, hF15⟩; rw [if_pos HCX.out]; have hW15 := hW14.trans hF15; have hX15 := hX14.kept hF15 (.inr (Nat.zero_le _)); have hB15 := hB14.kept hF15 (.inr (Nat.zero_le _)); have t11 := trivial; have t12 := trivial)
    | (refine wpl_load_blkG hB15 row39 (by rw [siz39, hlx]) rfl rfl rfl ?_)
    | (refine wpl_load_blkG hX15 row39 (by rw [siz39, hlx]) rfl rfl rfl ?_)
    | (refine wpl_neq leaves39 (by omega) row39 eqg39 hlfx hlfx rfl rfl rfl rfl ?_; intro r hr; obtain rfl : r = true := hr.2 rfl; clear hr)
    | (have _t := t11; go_at_call 72; refine (c_txRead (h.kept hW15 (.inr (Nat.zero_le _))) hll (hk.kept hW15 (.inr (Nat.zero_le _)))).mono ?_; rintro e w16 ⟨rfl, hF16⟩; rw [HR3.out]; clear t11 _t; have hW16 := hW15.trans hF16)
    | (have _t := t12; refine wpl_alloc zer39 rfl rfl rfl ?_; intro g17 w17 hA17 hF17 hg17 hs17; clear t12 _t)
    | (have _t := hA17; refine wpl_store_blk hA17 (by rw [hlX, hz0]) (by rw [siz39, hlX]) (txL_one X) rfl rfl rfl rfl ?_; intro w18 hB18 hF18; clear hA17 _t; have hW18 := hW16.trans (hF17.on hF18 hg17))
    | (refine wpl_load_blkG hB18 row39 (by rw [siz39, hlX]) rfl rfl rfl ?_)
    | (go_at_call 38; refine (c_txBytes X HXO.out).mono ?_; rintro e w19 ⟨v19, rfl, hO19, hF19⟩; rw [HXL.out] at hO19; have hW19 := hW18.trans hF19; have h19 := h.kept hW19 (.inr (Nat.zero_le _)); have hB19 := hB18.kept hF19 (.inr (Nat.zero_le _)))
    | (go_at_call 23; refine (c_Same hO19.rd h19).mono ?_; rintro e w20 ⟨rfl, rfl⟩; rw [HLE.out])
    | (refine wpl_load_blkG hB19 row39 (by rw [siz39, hlX]) rfl rfl rfl ?_)
    | (go_at_call 34; refine (c_txCheck X HXO.out (hk.kept hW19 (.inr (Nat.zero_le _)))).mono ?_; rintro e w21 ⟨rfl, hF21⟩; rw [if_pos HXS.out]))

  go_ret
  exact ⟨rfl, hW19.trans hF21⟩

set_option maxRecDepth 100000 in
set_option maxHeartbeats 8000000 in
theorem w_TxBack10 {w : World} {a : Option Addr} {cap : Nat} {l : List UInt8} (x : TxD) (hx : TxOk x) (h : RdB w 0 w.heap.size (.slice a l.length cap) l) (hk : KT w) (hl : ¬ 300 < l.length) (hsx : x.s = signH x) (c : Int) (hc : c ≠ 0) (hr : txRead l = (tx0, c)) :
    Calls Tryd.prog 15 #[.agg (txL x).toArray, .slice a l.length cap] w fun e w' => e = .returned (.bool true) ∧ Fr 0 0 w w' := by
  have hlx := txL_length hx
  have hls := txL_length (signed_ok hx)
  have HX : Hid (TxOk x) := hx
  have HSO : Hid (TxOk (signed x)) := signed_ok hx
  have HTX := Lib.hid (txB_length hx)
  have HTS := Lib.hid (txB_length (signed_ok hx))
  have hz0 : tx0.length = 99 := rfl
  have h1tx : ∀ v ∈ tx0, v.oneCell' = true := txL_one txZ
  have hlfx := lfT_txL hx
  have hlfs := lfT_txL (signed_ok hx)
  have hlf0 := lfT_tx0
  have hll : l.length ≤ 1073741824 := by omega
  have HR1 : Hid (txRead (txB (signed x)) = (txL (signed x), 0)) := (show _ = _ by rw [txRead_txB (signed_ok hx), if_pos (signed_s x)])
  have HR2 : Hid (txRead (txB x) = ((txL x), 0)) := (show _ = _ by rw [txRead_txB hx, if_pos hsx])
  have HR3 := Lib.hid hr
  have HCX := Lib.hid hsx
  have hc1 : (c != 0) = true := by simpa using hc
  have hc2 : (c == 0) = false := by simpa using hc
  clear hc
  clear hx hr hsx
  have t1 := trivial
  have t2 := trivial
  have t3 := trivial
  have t4 := trivial
  have t5 := trivial
  have t6 := trivial
  have t7 := trivial
  have t8 := trivial
  go_enter Tryd.func15, Tryd.ntmps15
  go_wp2_with (first
    | (refine wpl_box (txL x) rfl rfl rfl rfl ?_; intro g2 w1 hX1 hF1 hg2 hgs2)
    | (go_at_call 35; refine (c_alive11 (hk.kept hF1 (.inr (Nat.zero_le _)))).mono ?_; rintro e w2 ⟨rfl, hF2⟩; have hX2 := hX1.kept hF2 (.inr (Nat.zero_le _)); have hW2 := hF1.trans hF2)
    | (have _t := t1; refine wpl_load_blk hX2 row39 (by rw [siz39, hlx]) rfl rfl rfl ?_; clear t1 _t)
    | (go_at_call 36; refine (c_txSign x HX.out (hk.kept hW2 (.inr (Nat.zero_le _)))).mono ?_; rintro e w4 ⟨rfl, hF4⟩; have hW4 := hW2.trans hF4)
    | (have _t := t2; refine wpl_alloc zer39 rfl rfl rfl ?_; intro g6 w5 hA5 hF5 hg6 hs6; clear t2 _t)
    | (have _t := hA5; refine wpl_store_blk hA5 (by rw [hls, hz0]) (by rw [siz39, hls]) (txL_one _) rfl rfl rfl rfl ?_; intro w6 hB6 hF6; clear hA5 _t; have hF26 : Fr 0 0 w2 w6 := hF4.trans (hF5.on hF6 hg6); have hW6 := hW2.trans hF26)
    | (have _t := t3; refine wpl_load_blk hB6 row39 (by rw [siz39, hls]) rfl rfl rfl ?_; clear t3 _t)
    | (have _t := t4; go_at_call 38; refine (c_txBytes (signed x) HSO.out).mono ?_; rintro e w7 ⟨v7, rfl, hO7, hF7⟩; clear t4 _t; have hW7 := hW6.trans hF7)
    | (have _t := t5; go_at_call 72; refine (c_txRead hO7.rd (by rw [HTS.out]; omega) (hk.kept hW7 (.inr (Nat.zero_le _)))).mono ?_; rintro e w8 ⟨rfl, hF8⟩; rw [HR1.out]; clear t5 _t; have hW8 := hW7.trans hF8)
    | (have _t := t6; refine wpl_alloc zer39 rfl rfl rfl ?_; intro g9 w9 hA9 hF9 hg9 hs9; clear t6 _t)
    | (have _t := hA9; refine wpl_store_blk hA9 (by rw [hls, hz0]) (by rw [siz39, hls]) (txL_one _) rfl rfl rfl rfl ?_; intro w10 hB10 hF10; clear hA9 _t; have hF610 : Fr 0 0 w6 w10 := (hF7.trans hF8).trans (hF9.on hF10 hg9); have hW10 := hW6.trans hF610; have hX10 := (hX2.kept hF26 (.inr (Nat.zero_le _))).kept hF610 (.inr (Nat.zero_le _)); have hB610 := hB6.kept hF610 (.inr (Nat.zero_le _)))
    | (have _t := t7; refine wpl_load_blk hX10 row39 (by rw [siz39, hlx]) rfl rfl rfl ?_; clear t7 _t)
    | (have _t := t8; go_at_call 38; refine (c_txBytes x HX.out).mono ?_; rintro e w11 ⟨v11, rfl, hO11, hF11⟩; clear t8 _t; have t9 := trivial; have t10 := trivial; have hW11 := hW10.trans hF11)
    | (have _t := t9; go_at_call 72; refine (c_txRead hO11.rd (by rw [HTX.out]; omega) (hk.kept hW11 (.inr (Nat.zero_le _)))).mono ?_; rintro e w12 ⟨rfl, hF12⟩; rw [HR2.out]; clear t9 _t; have hW12 := hW11.trans hF12)
    | (have _t := t10; refine wpl_alloc zer39 rfl rfl rfl ?_; intro g13 w13 hA13 hF13 hg13 hs13; clear t10 _t)
    | (have _t := hA13; refine wpl_store_blk hA13 (by rw [hlx, hz0]) (by rw [siz39, hlx]) (txL_one x) rfl rfl rfl rfl ?_; intro w14 hB14 hF14; clear hA13 _t; have hF1014 : Fr 0 0 w10 w14 := (hF11.trans hF12).trans (hF13.on hF14 hg13); have hW14 := hW10.trans hF1014; have hX14 := hX10.kept hF1014 (.inr (Nat.zero_le _)); have hB614 := hB610.kept hF1014 (.inr (Nat.zero_le _)); have hB1014 := hB10.kept hF1014 (.inr (Nat.zero_le _)))
    | (refine wpl_load_blkG hB1014 row39 (by rw [siz39, hls]) rfl rfl rfl ?_)
    | (refine wpl_load_blkG hB614 row39 (by rw [siz39, hls]) rfl rfl rfl ?_)
    | (refine wpl_neq leaves39 (by omega) row39 eqg39 hlfs hlfs rfl rfl rfl rfl ?_; intro r hr; obtain rfl : r = true := hr.2 rfl; clear hr)
    | (refine wpl_load_blkG hX14 row39 (by rw [siz39, hlx]) rfl rfl rfl ?_)
    | (go_at_call 34; refine (c_txCheck x HX.out (hk.kept hW14 (.inr (Nat.zero_le _)))).mono ?_; rintro e w15 ⟨rfl, hF15⟩; rw [if_pos HCX.out]; have hW15 := hW14.trans hF15; have hX15 := hX14.kept hF15 (.inr (Nat.zero_le _)); have hB15 := hB14.kept hF15 (.inr (Nat.zero_le _)); have t11 := trivial; have t12 := trivial)
    | (refine wpl_load_blkG hB15 row39 (by rw [siz39, hlx]) rfl rfl rfl ?_)
    | (refine wpl_load_blkG hX15 row39 (by rw [siz39, hlx]) rfl rfl rfl ?_)
    | (refine wpl_neq leaves39 (by omega) row39 eqg39 hlfx hlfx rfl rfl rfl rfl ?_; intro r hr; obtain rfl : r = true := hr.2 rfl; clear hr)
    | (have _t := t11; go_at_call 72; refine (c_txRead (h.kept hW15 (.inr (Nat.zero_le _))) hll (hk.kept hW15 (.inr (Nat.zero_le _)))).mono ?_; rintro e w16 ⟨rfl, hF16⟩; rw [HR3.out]; clear t11 _t; have hW16 := hW15.trans hF16)
    | (have _t := t12; refine wpl_alloc zer39 rfl rfl rfl ?_; intro g17 w17 hA17 hF17 hg17 hs17; clear t12 _t)
    | (have _t := hA17; refine wpl_store_blk hA17 rfl (by rw [siz39, hz0]) h1tx rfl rfl rfl rfl ?_; intro w18 hB18 hF18; clear hA17 _t; have hW18 := hW16.trans (hF17.on hF18 hg17))
    | (refine wpl_load_blkG hB18 row39 (by rw [siz39, hz0]) rfl rfl rfl ?_)
    | (refine wpl_buildG (parts := []) built39z rfl rfl rfl ?_)
    | (refine wpl_eql leaves39 (by omega) row39 eqg39 hlf0 hlf0 rfl rfl rfl rfl ?_; intro r hr; obtain rfl : r = true := hr.2 rfl; clear hr))

  go_ret
  exact ⟨rfl, hW18⟩

set_option maxRecDepth 100000 in
set_option maxHeartbeats 8000000 in
theorem w_TxBack01 {w : World} {a : Option Addr} {cap : Nat} {l : List UInt8} (x : TxD) (hx : TxOk x) (h : RdB w 0 w.heap.size (.slice a l.length cap) l) (hk : KT w) (hl : ¬ 300 < l.length) (hsx : ¬ x.s = signH x) (X : TxD) (hX : TxOk X) (hXs : X.s = signH X) (hXl : txB X = l) (hr : txRead l = (txL X, 0)) :
    Calls Tryd.prog 15 #[.agg (txL x).toArray, .slice a l.length cap] w fun e w' => e = .returned (.bool true) ∧ Fr 0 0 w w' := by
  have hlx := txL_length hx
  have hls := txL_length (signed_ok hx)
  have HX : Hid (TxOk x) := hx
  have HSO : Hid (TxOk (signed x)) := signed_ok hx
  have HTX := Lib.hid (txB_length hx)
  have HTS := Lib.hid (txB_length (signed_ok hx))
  have hz0 : tx0.length = 99 := rfl
  have h1tx : ∀ v ∈ tx0, v.oneCell' = true := txL_one txZ
  have hlfx := lfT_txL hx
  have hlfs := lfT_txL (signed_ok hx)
  have hlf0 := lfT_tx0
  have hll : l.length ≤ 1073741824 := by omega
  have HR1 : Hid (txRead (txB (signed x)) = (txL (signed x), 0)) := (show _ = _ by rw [txRead_txB (signed_ok hx), if_pos (signed_s x)])
  have HR2 : Hid (txRead (txB x) = (tx0, 110)) := (show _ = _ by rw [txRead_txB hx, if_neg hsx])
  have HR3 := Lib.hid hr
  have HCX := Lib.hid hsx
  have hlX := txL_length hX
  have hlfX := lfT_txL hX
  have HXO : Hid (TxOk X) := hX
  have HXS := Lib.hid hXs
  have HXL := Lib.hid hXl
  have HLE : Hid ((l == l) = true) := Lib.hid (by simp)
  clear hX hXs hXl
  clear hx hr hsx
  have t1 := trivial
  have t2 := trivial
  have t3 := trivial
  have t4 := trivial
  have t5 := trivial
  have t6 := trivial
  have t7 := trivial
  have t8 := trivial
  go_enter Tryd.func15, Tryd.ntmps15
  go_wp2_with (first
    | (refine wpl_box (txL x) rfl rfl rfl rfl ?_; intro g2 w1 hX1 hF1 hg2 hgs2)
    | (go_at_call 35; refine (c_alive11 (hk.kept hF1 (.inr (Nat.zero_le _)))).mono ?_; rintro e w2 ⟨rfl, hF2⟩; have hX2 := hX1.kept hF2 (.inr (Nat.zero_le _)); have hW2 := hF1.trans hF2)
    | (have _t := t1; refine wpl_load_blk hX2 row39 (by rw [siz39, hlx]) rfl rfl rfl ?_; clear t1 _t)
    | (go_at_call 36; refine (c_txSign x HX.out (hk.kept hW2 (.inr (Nat.zero_le _)))).mono ?_; rintro e w4 ⟨rfl, hF4⟩; have hW4 := hW2.trans hF4)
    | (have _t := t2; refine wpl_alloc zer39 rfl rfl rfl ?_; intro g6 w5 hA5 hF5 hg6 hs6; clear t2 _t)
    | (have _t := hA5; refine wpl_store_blk hA5 (by rw [hls, hz0]) (by rw [siz39, hls]) (txL_one _) rfl rfl rfl rfl ?_; intro w6 hB6 hF6; clear hA5 _t; have hF26 : Fr 0 0 w2 w6 := hF4.trans (hF5.on hF6 hg6); have hW6 := hW2.trans hF26)
    | (have _t := t3; refine wpl_load_blk hB6 row39 (by rw [siz39, hls]) rfl rfl rfl ?_; clear t3 _t)
    | (have _t := t4; go_at_call 38; refine (c_txBytes (signed x) HSO.out).mono ?_; rintro e w7 ⟨v7, rfl, hO7, hF7⟩; clear t4 _t; have hW7 := hW6.trans hF7)
    | (have _t := t5; go_at_call 72; refine (c_txRead hO7.rd (by rw [HTS.out]; omega) (hk.kept hW7 (.inr (Nat.zero_le _)))).mono ?_; rintro e w8 ⟨rfl, hF8⟩; rw [HR1.out]; clear t5 _t; have hW8 := hW7.trans hF8)
    | (have _t := t6; refine wpl_alloc zer39 rfl rfl rfl ?_; intro g9 w9 hA9 hF9 hg9 hs9; clear t6 _t)
    | (have _t := hA9; refine wpl_store_blk hA9 (by rw [hls, hz0]) (by rw [siz39, hls]) (txL_one _) rfl rfl rfl rfl ?_; intro w10 hB10 hF10; clear hA9 _t; have hF610 : Fr 0 0 w6 w10 := (hF7.trans hF8).trans (hF9.on hF10 hg9); have hW10 := hW6.trans hF610; have hX10 := (hX2.kept hF26 (.inr (Nat.zero_le _))).kept hF610 (.inr (Nat.zero_le _)); have hB610 := hB6.kept hF610 (.inr (Nat.zero_le _)))
    | (have _t := t7; refine wpl_load_blk hX10 row39 (by rw [siz39, hlx]) rfl rfl rfl ?_; clear t7 _t)
    | (have _t := t8; go_at_call 38; refine (c_txBytes x HX.out).mono ?_; rintro e w11 ⟨v11, rfl, hO11, hF11⟩; clear t8 _t; have t9 := trivial; have t10 := trivial; have hW11 := hW10.trans hF11)
    | (have _t := t9; go_at_call 72; refine (c_txRead hO11.rd (by rw [HTX.out]; omega) (hk.kept hW11 (.inr (Nat.zero_le _)))).mono ?_; rintro e w12 ⟨rfl, hF12⟩; rw [HR2.out]; clear t9 _t; have hW12 := hW11.trans hF12)
    | (have _t := t10; refine wpl_alloc zer39 rfl rfl rfl ?_; intro g13 w13 hA13 hF13 hg13 hs13; clear t10 _t)
    | (have _t := hA13; refine wpl_store_blk hA13 rfl (by rw [siz39, hz0]) h1tx rfl rfl rfl rfl ?_; intro w14 hB14 hF14; clear hA13 _t; have hF1014 : Fr 0 0 w10 w14 := (hF11.trans hF12).trans (hF13.on hF14 hg13); have hW14 := hW10.trans hF1014; have hX14 := hX10.kept hF1014 (.inr (Nat.zero_le _)); have hB614 := hB610.kept hF1014 (.inr (Nat.zero_le _)); have hB1014 := hB10.kept hF1014 (.inr (Nat.zero_le _)))
    | (refine wpl_load_blkG hB1014 row39 (by rw [siz39, hls]) rfl rfl rfl ?_)
    | (refine wpl_load_blkG hB614 row39 (by rw [siz39, hls]) rfl rfl rfl ?_)
    | (refine wpl_neq leaves39 (by omega) row39 eqg39 hlfs hlfs rfl rfl rfl rfl ?_; intro r hr; obtain rfl : r = true := hr.2 rfl; clear hr)
    | (refine wpl_load_blkG hX14 row39 (by rw [siz39, hlx]) rfl rfl rfl ?_)
    | (go_at_call 34; refine (c_txCheck x HX.out (hk.kept hW14 (.inr (Nat.zero_le _)))).mono ?_; rintro e w15 ⟨rfl, hF15⟩; rw [if_neg HCX.out]; have hW15 := hW14.trans hF15; have hX15 := hX14.kept hF15 (.inr (Nat.zero_le _)); have hB15 := hB14.kept hF15 (.inr (Nat.zero_le _)); have t11 := trivial; have t12 := trivial)
    | (have _t := t11; go_at_call 72; refine (c_txRead (h.kept hW15 (.inr (Nat.zero_le _))) hll (hk.kept hW15 (.inr (Nat.zero_le _)))).mono ?_; rintro e w16 ⟨rfl, hF16⟩; rw [HR3.out]; clear t11 _t; have hW16 := hW15.trans hF16)
    | (have _t := t12; refine wpl_alloc zer39 rfl rfl rfl ?_; intro g17 w17 hA17 hF17 hg17 hs17; clear t12 _t)
    | (have _t := hA17; refine wpl_store_blk hA17 (by rw [hlX, hz0]) (by rw [siz39, hlX]) (txL_one X) rfl rfl rfl rfl ?_; intro w18 hB18 hF18; clear hA17 _t; have hW18 := hW16.trans (hF17.on hF18 hg17))
    | (refine wpl_load_blkG hB18 row39 (by rw [siz39, hlX]) rfl rfl rfl ?_)
    | (go_at_call 38; refine (c_txBytes X HXO.out).mono ?_; rintro e w19 ⟨v19, rfl, hO19, hF19⟩; rw [HXL.out] at hO19; have hW19 := hW18.trans hF19; have h19 := h.kept hW19 (.inr (Nat.zero_le _)); have hB19 := hB18.kept hF19 (.inr (Nat.zero_le _)))
    | (go_at_call 23; refine (c_Same hO19.rd h19).mono ?_; rintro e w20 ⟨rfl, rfl⟩; rw [HLE.out])
    | (refine wpl_load_blkG hB19 row39 (by rw [siz39, hlX]) rfl rfl rfl ?_)
    | (go_at_call 34; refine (c_txCheck X HXO.out (hk.kept hW19 (.inr (Nat.zero_le _)))).mono ?_; rintro e w21 ⟨rfl, hF21⟩; rw [if_pos HXS.out]))

  go_ret
  exact ⟨rfl, hW19.trans hF21⟩

set_option maxRecDepth 100000 in
set_option maxHeartbeats 8000000 in
theorem w_TxBack00 {w : World} {a : Option Addr} {cap : Nat} {l : List UInt8} (x : TxD) (hx : TxOk x) (h : RdB w 0 w.heap.size (.slice a l.length cap) l) (hk : KT w) (hl : ¬ 300 < l.length) (hsx : ¬ x.s = signH x) (c : Int) (hc : c ≠ 0) (hr : txRead l = (tx0, c)) :
    Calls Tryd.prog 15 #[.agg (txL x).toArray, .slice a l.length cap] w fun e w' => e = .returned (.bool true) ∧ Fr 0 0 w w' := by
  have hlx := txL_length hx
  have hls := txL_length (signed_ok hx)
  have HX : Hid (TxOk x) := hx
  have HSO : Hid (TxOk (signed x)) := signed_ok hx
  have HTX := Lib.hid (txB_length hx)
  have HTS := Lib.hid (txB_length (signed_ok hx))
  have hz0 : tx0.length = 99 := rfl
  have h1tx : ∀ v ∈ tx0, v.oneCell' = true := txL_one txZ
  have hlfx := lfT_txL hx
  have hlfs := lfT_txL (signed_ok hx)
  have hlf0 := lfT_tx0
  have hll : l.length ≤ 1073741824 := by omega
  have HR1 : Hid (txRead (txB (signed x)) = (txL (signed x), 0)) := (show _ = _ by rw [txRead_txB (signed_ok hx), if_pos (signed_s x)])
  have HR2 : Hid (txRead (txB x) = (tx0, 110)) := (show _ = _ by rw [txRead_txB hx, if_neg hsx])
  have HR3 := Lib.hid hr
  have HCX := Lib.hid hsx
  have hc1 : (c != 0) = true := by simpa using hc
  have hc2 : (c == 0) = false := by simpa using hc
  clear hc
  clear hx hr hsx
  have t1 := trivial
  have t2 := trivial
  have t3 := trivial
  have t4 := trivial
  have t5 := trivial
  have t6 := trivial
  have t7 := trivial
  have t8 := trivial
  go_enter Tryd.func15, Tryd.ntmps15
  go_wp2_with (first
    | (refine wpl_box (txL x) rfl rfl rfl rfl ?_; intro g2 w1 hX1 hF1 hg2 hgs2)
    | (go_at_call 35; refine (c_alive11 (hk.kept hF1 (.inr (Nat.zero_le _)))).mono ?_; rintro e w2 ⟨rfl, hF2⟩; have hX2 := hX1.kept hF2 (.inr (Nat.zero_le _)); have hW2 := hF1.trans hF2)
    | (have _t := t1; refine wpl_load_blk hX2 row39 (by rw [siz39, hlx]) rfl rfl rfl ?_; clear t1 _t)
    | (go_at_call 36; refine (c_txSign x HX.out (hk.kept hW2 (.inr (Nat.zero_le _)))).mono ?_; rintro e w4 ⟨rfl, hF4⟩; have hW4 := hW2.trans hF4)
    | (have _t := t2; refine wpl_alloc zer39 rfl rfl rfl ?_; intro g6 w5 hA5 hF5 hg6 hs6; clear t2 _t)
    | (have _t := hA5; refine wpl_store_blk hA5 (by rw [hls, hz0]) (by rw [siz39, hls]) (txL_one _) rfl rfl rfl rfl ?_; intro w6 hB6 hF6; clear hA5 _t; have hF26 : Fr 0 0 w2 w6 := hF4.trans (hF5.on hF6 hg6); have hW6 := hW2.trans hF26)
    | (have _t := t3; refine wpl_load_blk hB6 row39 (by rw [siz39, hls]) rfl rfl rfl ?_; clear t3 _t)
    | (have _t := t4; go_at_call 38; refine (c_txBytes (signed x) HSO.out).mono ?_; rintro e w7 ⟨v7, rfl, hO7, hF7⟩; clear t4 _t; have hW7 := hW6.trans hF7)
    | (have _t := t5; go_at_call 72; refine (c_txRead hO7.rd (by rw [HTS.out]; omega) (hk.kept hW7 (.inr (Nat.zero_le _)))).mono ?_; rintro e w8 ⟨rfl, hF8⟩; rw [HR1.out]; clear t5 _t; have hW8 := hW7.trans hF8)
    | (have _t := t6; refine wpl_alloc zer39 rfl rfl rfl ?_; intro g9 w9 hA9 hF9 hg9 hs9; clear t6 _t)
    | (have _t := hA9; refine wpl_store_blk hA9 (by rw [hls, hz0]) (by rw [siz39, hls]) (txL_one _) rfl rfl rfl rfl ?_; intro w10 hB10 hF10; clear hA9 _t; have hF610 : Fr 0 0 w6 w10 := (hF7.trans hF8).trans (hF9.on hF10 hg9); have hW10 := hW6.trans hF610; have hX10 := (hX2.kept hF26 (.inr (Nat.zero_le _))).kept hF610 (.inr (Nat.zero_le _)); have hB610 := hB6.kept hF610 (.inr (Nat.zero_le _)))
    | (have _t := t7; refine wpl_load_blk hX10 row39 (by rw [siz39, hlx]) rfl rfl rfl ?_; clear t7 _t)
    | (have _t := t8; go_at_call 38; refine (c_txBytes x HX.out).mono ?_; rintro e w11 ⟨v11, rfl, hO11, hF11⟩; clear t8 _t; have t9 := trivial; have t10 := trivial; have hW11 := hW10.trans hF11)
    | (have _t := t9; go_at_call 72; refine (c_txRead hO11.rd (by rw [HTX.out]; omega) (hk.kept hW11 (.inr (Nat.zero_le _)))).mono ?_; rintro e w12 ⟨rfl, hF12⟩; rw [HR2.out]; clear t9 _t; have hW12 := hW11.trans hF12)
    | (have _t := t10; refine wpl_alloc zer39 rfl rfl rfl ?_; intro g13 w13 hA13 hF13 hg13 hs13; clear t10 _t)
    | (have _t := hA13; refine wpl_store_blk hA13 rfl (by rw [siz39, hz0]) h1tx rfl rfl rfl rfl ?_; intro w14 hB14 hF14; clear hA13 _t; have hF1014 : Fr 0 0 w10 w14 := (hF11.trans hF12).trans (hF13.on hF14 hg13); have hW14 := hW10.trans hF1014; have hX14 := hX10.kept hF1014 (.inr (Nat.zero_le _)); have hB614 := hB610.kept hF1014 (.inr (Nat.zero_le _)); have hB1014 := hB10.kept hF1014 (.inr (Nat.zero_le _)))
    | (refine wpl_load_blkG hB1014 row39 (by rw [siz39, hls]) rfl rfl rfl ?_)
    | (refine wpl_load_blkG hB614 row39 (by rw [siz39, hls]) rfl rfl rfl ?_)
    | (refine wpl_neq leaves39 (by omega) row39 eqg39 hlfs hlfs rfl rfl rfl rfl ?_; intro r hr; obtain rfl : r = true := hr.2 rfl; clear hr)
    | (refine wpl_load_blkG hX14 row39 (by rw [siz39, hlx]) rfl rfl rfl ?_)
    | (go_at_call 34; refine (c_txCheck x HX.out (hk.kept hW14 (.inr (Nat.zero_le _)))).mono ?_; rintro e w15 ⟨rfl, hF15⟩; rw [if_neg HCX.out]; have hW15 := hW14.trans hF15; have hX15 := hX14.kept hF15 (.inr (Nat.zero_le _)); have hB15 := hB14.kept hF15 (.inr (Nat.zero_le _)); have t11 := trivial; have t12 := trivial)
    | (have _t := t11; go_at_call 72; refine (c_txRead (h.kept hW15 (.inr (Nat.zero_le _))) hll (hk.kept hW15 (.inr (Nat.zero_le _)))).mono ?_; rintro e w16 ⟨rfl, hF16⟩; rw [HR3.out]; clear t11 _t; have hW16 := hW15.trans hF16)
    | (have _t := t12; refine wpl_alloc zer39 rfl rfl rfl ?_; intro g17 w17 hA17 hF17 hg17 hs17; clear t12 _t)
    | (have _t := hA17; refine wpl_store_blk hA17 rfl (by rw [siz39, hz0]) h1tx rfl rfl rfl rfl ?_; intro w18 hB18 hF18; clear hA17 _t; have hW18 := hW16.trans (hF17.on hF18 hg17))
    | (refine wpl_load_blkG hB18 row39 (by rw [siz39, hz0]) rfl rfl rfl ?_)
    | (refine wpl_buildG (parts := []) built39z rfl rfl rfl ?_)
    | (refine wpl_eql leaves39 (by omega) row39 eqg39 hlf0 hlf0 rfl rfl rfl rfl ?_; intro r hr; obtain rfl : r = true := hr.2 rfl; clear hr))

  go_ret
  exact ⟨rfl, hW18⟩

set_option maxRecDepth 100000 in
set_option maxHeartbeats 2000000 in
theorem w_TxBack {w : World} {v : Value} {l : List UInt8} (x : TxD) (hx : TxOk x) (h : RdB w 0 w.heap.size v l) (hk : KT w) :
    Calls Tryd.prog 15 #[.agg (txL x).toArray, v] w fun e w' => e = .returned (.bool true) ∧ Fr 0 0 w w' := by
  obtain ⟨a, cap, rfl, hc1, hc2, hc3⟩ := h.form
  by_cases hl : 300 < l.length
  · go_enter Tryd.func15, Tryd.ntmps15
    go_wp2_with (first
      | (refine wpl_box (txL x) rfl rfl rfl rfl ?_; intro g2 w1 hX1 hF1 hg2 hgs2)
      | (go_at_call 35; refine (c_alive11 (hk.kept hF1 (.inr (Nat.zero_le _)))).mono ?_; rintro e w2 ⟨rfl, hF2⟩))
    go_ret
    exact ⟨rfl, hF1.trans hF2⟩
  · rcases txRead_cases l with ⟨X, hX, hs, hn, he, hr⟩ | ⟨c, hc, hr⟩
    · have hb : txB X = l := by rw [← he]; exact txB_txOf hn
      by_cases hsx : x.s = signH x
      · exact w_TxBack11 x hx h hk hl hsx X hX hs hb hr
      · exact w_TxBack01 x hx h hk hl hsx X hX hs hb hr
    · by_cases hsx : x.s = signH x
      · exact w_TxBack10 x hx h hk hl hsx c hc hr
      · exact w_TxBack00 x hx h hk hl hsx c hc hr

end Go.Proofs.YtgndidjfjdaagaaDoor
