/-
  Contracts of package receipt: Check, Bytes, Read.
-/
import Derived.Test.YtgndidjfjdaagaaDoorPut
import Derived.Test.YtgndidjfjdaagaaDoorEq
set_option linter.unusedSimpArgs false
set_option linter.unusedVariables false
namespace Go.Proofs.YtgndidjfjdaagaaDoor
open Go.RowKit

/-- A receipt's cells. -/
def recL (k : UInt8) (d : List UInt8) (c : Int) : List Value := [ub k] ++ d.map ub ++ [.int .i64 c]
def rec0 : List Value := recL 0 (List.replicate 32 0) 0
theorem recL_length (k : UInt8) (d : List UInt8) (c : Int) (hd : d.length = 32) : (recL k d c).length = 34 := by simp [recL, hd]
theorem zer43 : (Tryd.prog.info? 56).map (·.zero) = some (some (.agg rec0.toArray)) := by kernel_rfl
theorem row43 : (Tryd.prog.underlying 56).map (·.isRow) = some true := by kernel_rfl
theorem siz43 : (Tryd.prog.info? 56).map (·.size) = some 34 := by kernel_rfl
theorem siz28 : (Tryd.prog.info? 43).map (·.size) = some 1 := by kernel_rfl
theorem rec0_length : rec0.length = 34 := by kernel_rfl
/-- The kinds of a receipt's cells. -/
def lfR : List (Option IntKind) := some .u8 :: (List.replicate 32 (some .u8) ++ [some .i64])
theorem leaves43 : leaves Tryd.prog 4 56 = some lfR := by kernel_rfl
theorem eqg43 : Tryd.prog.eqGuardType Tryd.prog.depth 56 = false := by kernel_rfl
theorem lfR_recL (k : UInt8) (d : List UInt8) (c : Int) (hd : d.length = 32) : LF lfR (recL k d c) := by
  refine ⟨⟨_, rfl⟩, ?_⟩
  refine LF.append (ms := [some .i64]) ?_ ⟨⟨_, rfl⟩, trivial⟩
  have := LF.bytes d
  rw [hd] at this
  exact this

/-- What Check answers. -/
def recChk (k : UInt8) (c : Int) : Int :=
  if (k.toNat = 2 ∧ c = 150) ∨ ((k.toNat = 1 ∨ k.toNat = 2) ∧ (c = 0 ∨ c = 151)) then 0 else 8

theorem recChk_8 {k : UInt8} {c : Int} (h : ¬ recChk k c = 0) : recChk k c = 8 := by
  unfold recChk at h ⊢
  split at h
  · exact absurd rfl h
  · rename_i hn
    rw [if_neg hn]

set_option maxHeartbeats 1000000 in
theorem c_recCheck {w : World} (k : UInt8) (d : List UInt8) (c : Int) (hd : d.length = 32) :
    Calls Tryd.prog 64 #[.agg (recL k d c).toArray] w fun e w' => e = .returned (.int .i64 (recChk k c)) ∧ Fr 0 0 w w' := by
  go_enter Tryd.func64, Tryd.ntmps64
  go_wp2_with (refine wpl_box (recL k d c) rfl rfl rfl rfl ?_; intro g w1 hB hF hg hs; have c0 : w1.cell? ⟨g, 0, none⟩ = some (.int .u8 (k.toNat : Int)) := hB.cell 0; have c33 : w1.cell? ⟨g, 33, none⟩ = some (.int .i64 c) := by rw [hB.cell]; simp [recL, hd])
  all_goals
    go_ret
    refine ⟨ret_int ?_, hF⟩
    clear c0 c33 hB hF
    unfold recChk
    simp at *
    first | omega | (split <;> omega)


/-- A receipt's bytes. -/
def recB (k : UInt8) (d : List UInt8) (c : Int) : List UInt8 := if recChk k c = 0 then k :: (d ++ beB 2 c.toNat) else []

set_option maxHeartbeats 1000000 in
theorem c_recBytes {w : World} (k : UInt8) (d : List UInt8) (c : Int) (hd : d.length = 32) :
    Calls Tryd.prog 67 #[.agg (recL k d c).toArray] w fun e w' => ∃ v', e = .returned (.tuple #[v', .int .i64 (recChk k c)]) ∧ OwB w' w.heap.size w'.heap.size v' (recB k d c) ∧ Fr 0 0 w w' := by
  by_cases hok : recChk k c = 0
  · have hrb : recB k d c = k :: (d ++ beB 2 c.toNat) := by rw [recB, if_pos hok]
    have HRB := Lib.hid hrb
    have HOK := Lib.hid hok
    have hc : 0 ≤ c ∧ c ≤ 151 := by
      unfold recChk at hok
      split at hok
      · omega
      · omega
    obtain ⟨n, rfl⟩ := Int.eq_ofNat_of_zero_le hc.1
    have hn : (n : Int) ≤ 151 := hc.2
    rw [hok]
    clear hok hrb hc
    go_enter Tryd.func67, Tryd.ntmps67
    go_wp2_with (first
      | (refine wpl_box (recL k d n) rfl rfl rfl rfl ?_; intro g w1 hB hF1 hg hs)
      | (refine wpl_load_blk hB row43 (by rw [siz43, recL_length _ _ _ hd]) rfl rfl rfl ?_)
      | (go_at_call 64; refine (c_recCheck k d n hd).mono ?_; rintro e w2 ⟨rfl, hF2⟩; rw [HOK.out]; have hB2 := hB.kept hF2 (.inr (Nat.zero_le _)); have c33 : w2.cell? ⟨g, 33, none⟩ = some (.int .i64 n) := by rw [hB2.cell]; simp [recL, hd])
      | (go_at_call 77; refine (c_Put n 2 (by omega) (by omega) (by omega) (by omega)).mono ?_; rintro e w3 ⟨v3, rfl, hO3, hF3⟩; have hB3 := hB2.kept hF3 (.inr (Nat.zero_le _)); have c0 : w3.cell? ⟨g, 0, none⟩ = some (.int .u8 (k.toNat : Int)) := hB3.cell 0; clear c33))
    have hX : Fr 0 0 w3 (w3.alloc (.cells #[.int .u8 (k.toNat : Int)] 5)).drew := (Fr.alloc _ _).trans (Fr.drew _)
    have hB4 := hB3.kept hX (.inr (Nat.zero_le _))
    have hO4 := hO3.kept hX (.inr (Nat.zero_le _))
    have hK4 : OwB (w3.alloc (.cells #[.int .u8 (k.toNat : Int)] 5)).drew w3.heap.size (w3.heap.size + 1) (.slice (some ⟨w3.heap.size, 0, none⟩) 1 1) [k] := OwB.of_blk (l := [k]) (heap_alloc_new w3 _) rfl (Nat.le_refl _) (by omega) (by omega)
    have hR4 : RdB (w3.alloc (.cells #[.int .u8 (k.toNat : Int)] 5)).drew g (g + 1) (.slice (some ⟨g, 1, none⟩) 32 32) d := Blk.rd (A := [ub k]) (Z := [.int .i64 n]) hB4 rfl hd (by omega) (by omega)
    have z3 : g < w3.heap.size := hB3.lt
    have hc4 : (w3.alloc (.cells #[.int .u8 (k.toNat : Int)] 5)).drew.cell? ⟨g, 0, none⟩ = some (.int .u8 (k.toNat : Int)) := hB4.cell 0
    have HC4 := Lib.hid hc4
    clear hX hB4 hc4
    have t1 := trivial
    go_region_held3 (fun w' => w'.cell? ⟨g, 0, none⟩ = some (.int .u8 (k.toNat : Int))) (first | go_keep | exact hF5.cell HC4.out (.inl z3) | exact hF6.cell (hF5.cell HC4.out (.inl z3)) (.inl (by have h := hz5; simp only [World.size_drew, World.size_alloc] at h; show g < lo5; omega))) ((first
      | (have _t := t1; go_loud (refine st_append hK4 hR4 (by simp [hd]) rfl rfl (by rfl) (by rfl) ?_); intro v5 w5 lo5 hi5 hO5 hF5 hz5; clear _t t1)
      | (go_loud (refine st_append hO5 ((hO4.rd).kept hF5 (.inl (Nat.le_refl _))) (by simp [hd, beB_length]) rfl rfl (by rfl) (by rfl) ?_); intro v6 w6 lo6 hi6 hO6 hF6 hz6)))
    go_wp2_with fail
    go_ret2
    have hFX : Fr 0 0 w (w3.alloc (.cells #[.int .u8 (k.toNat : Int)] 5)).drew := ((hF1.trans hF2).trans hF3).trans ((Fr.alloc _ _).trans (Fr.drew _))
    have s3 := ((hF1.trans hF2).trans hF3).size
    have s5 := hF5.size
    have s6 := hF6.size
    simp only [World.size_drew, World.size_alloc] at s5 hz5
    refine ⟨v6, rfl, ?_, (hFX.on hF5 s3).on hF6 (by omega)⟩
    rw [HRB.out]
    have := hO6.mono (lo' := w.heap.size) (hi' := w6.heap.size) (by omega) (by omega)
    simpa using this
  · have hrb : recB k d c = [] := by rw [recB, if_neg hok]
    rw [hrb]
    have HOK := Lib.hid hok
    have hc8 : recChk k c = 8 := by
      unfold recChk at hok ⊢
      split
      · simp_all
      · rfl
    rw [hc8]
    have HC := Lib.hid hc8
    clear hok hrb hc8
    go_enter Tryd.func67, Tryd.ntmps67
    go_wp2_with (first
      | (refine wpl_box (recL k d c) rfl rfl rfl rfl ?_; intro g w1 hB hF1 hg hs)
      | (refine wpl_load_blk hB row43 (by rw [siz43, recL_length _ _ _ hd]) rfl rfl rfl ?_)
      | (go_at_call 64; refine (c_recCheck k d c hd).mono ?_; rintro e w2 ⟨rfl, hF2⟩; rw [HC.out]))
    go_ret2
    exact ⟨_, rfl, OwB.nil _ _ _, hF1.trans hF2⟩

/-- What Read answers. -/
def recRead (l : List UInt8) : List Value × Int :=
  if l.length < 35 then (rec0, 10) else if 35 < l.length then (rec0, 11)
  else if recChk (l.getD 0 0) (beN (l.drop 33)) = 0 then (recL (l.getD 0 0) ((l.drop 1).take 32) (beN (l.drop 33)), 0) else (rec0, 8)

theorem recL_one (k : UInt8) (d : List UInt8) (c : Int) : ∀ v ∈ recL k d c, v.oneCell' = true := by
  intro v hv
  simp only [recL, List.mem_append, List.mem_singleton, List.mem_map] at hv
  rcases hv with (rfl | ⟨x, _, rfl⟩) | rfl <;> rfl
theorem recL_set (k : UInt8) (d : List UInt8) (c e : Int) (hd : d.length = 32) : (recL k d c).set 33 (.int .i64 e) = recL k d e := by
  have h : ([ub k] ++ d.map ub).length = 33 := by simp [hd]
  unfold recL
  rw [List.set_append_right _ _ (by omega), h]
  rfl
theorem zc43 : rec0.toArray = #[] ++ rec0.toArray := by simp

set_option maxHeartbeats 1000000 in
theorem c_recRead {w : World} {lo hi : Nat} {v : Value} {l : List UInt8} (h : RdB w lo hi v l) (hl : l.length ≤ 1073741824) :
    Calls Tryd.prog 63 #[v] w fun e w' => e = .returned (.tuple #[.agg (recRead l).1.toArray, .int .i64 (recRead l).2]) ∧ Fr 0 0 w w' := by
  obtain ⟨a, cap, rfl, hc1, hc2, hc3⟩ := h.form
  rcases Nat.lt_trichotomy l.length 35 with hn | hn | hn
  · have hfin : recRead l = (rec0, 10) := by rw [recRead, if_pos hn]
    rw [hfin]
    go_enter Tryd.func63, Tryd.ntmps63
    go_wp2_with (first
      | (refine wpl_alloc zer43 rfl rfl rfl ?_; intro g4 w1 hB4 hF1 hg4 hs4)
      | (refine wpl_load_blk hB4 row43 siz43 rfl rfl rfl ?_)
      | (refine wpl_store_blk hB4 rfl siz43 (recL_one _ _ _) rfl rfl rfl rfl ?_; intro w4 hB6 hF6))
    refine bodyPost_ret (res_blk_tmp rfl rfl hB6 row43 siz43) rfl ⟨rfl, ?_⟩
    exact hF1.on hF6 hg4
  · obtain ⟨b, off, cap, e, _⟩ := h.spot (by omega)
    cases e
    have hA : RdB w lo hi (.slice (if cap = 1 then some ⟨b, off, none⟩ else some ⟨b, off + 1, none⟩) 34 (cap - 1)) (l.drop 1) := by
      have := h.sub 1 35 cap (by omega) (by omega) (by omega) (Nat.le_refl _)
      rw [List.take_of_length_le (by omega)] at this
      simpa [subA, Addr.add_lit] using this
    obtain ⟨k, hk⟩ : ∃ k, k = l.getD 0 0 := ⟨_, rfl⟩
    have hcell : w.cell? ⟨b, off, none⟩ = some (.int .u8 (k.toNat : Int)) := by
      have := h.cel 0 (by omega)
      rw [hk, List.getD_eq_getElem?_getD, List.getElem?_eq_getElem (by omega)]
      exact this
    obtain ⟨c, hc⟩ : ∃ c, c = beN (l.drop 33) := ⟨_, rfl⟩
    have hcl : c < 65536 := by
      have := beN_lt (l.drop 33)
      rw [List.length_drop, hn] at this
      omega
    have hcp : (35 : Int) ≤ (cap : Int) := by omega
    have hfin : recRead l = if recChk k c = 0 then (recL k ((l.drop 1).take 32) c, 0) else (rec0, 8) := by
      rw [recRead, if_neg (by omega), if_neg (by omega), ← hk, ← hc]
    have HFIN := Lib.hid hfin
    have HK := Lib.hid hk
    have HC := Lib.hid hc
    have h35 := Lib.hid hn
    rw [hn] at hc1 h ⊢
    have HCELL := Lib.hid hcell
    clear hn hfin hk hc hcell
    go_enter Tryd.func63, Tryd.ntmps63
    go_wp2_with (first
      | (refine wpl_alloc zer43 rfl rfl rfl ?_; intro g4 w1 hB4 hF1 hg4 hs4; have hcell := hF1.cell HCELL.out (.inr (Nat.zero_le _)))
      | (refine wpl_store_cell (off := 0) (v := ub k) hB4 (by rw [rec0_length]; omega) siz5' rfl rfl rfl rfl rfl rfl ?_; intro w4 hB6 hF6))
    have hB7 : Blk w4 g4 ([ub k] ++ (List.replicate 32 (0 : UInt8)).map ub ++ [.int .i64 0]) 56 := hB6
    have hc4 : w4.cell? ⟨g4, 0, none⟩ = some (.int .u8 (k.toNat : Int)) := hB6.cell 0
    have hA4 := (hA.fit.kept hF1 (.inr (Nat.zero_le _))).kept hF6 (.inl hg4)
    have hA5 := (h.fit.kept hF1 (.inr (Nat.zero_le _))).kept hF6 (.inl hg4)
    go_region_law (go_loud (refine st_copy 32 (hB7.kept (Fr.drew _) (.inr (Nat.zero_le _))) rfl rfl (.inl ⟨by rw [List.length_drop, h35.out]; omega, rfl⟩) (hA4.kept (Fr.drew _) (.inr (Nat.zero_le _))) rfl rfl (by rfl) (by rfl) ?_); intro w5 hB8 hF8)
    obtain ⟨d, hd⟩ : ∃ d, d = (l.drop 1).take 32 := ⟨_, rfl⟩
    rw [← hd] at hB8 HFIN
    have hdl : d.length = 32 := by rw [hd, List.length_take, List.length_drop, h35.out]; omega
    have HDL := Lib.hid hdl
    clear hd hdl
    have hB8' : Blk w5 g4 (recL k d 0) 56 := hB8
    clear hB8 hB7 hA4 hA5 hA hc4 hcell hB6 hB4
    have hA6 := (h.fit.kept hF1 (.inr (Nat.zero_le _))).kept hF6 (.inl hg4)
    replace hA6 := (hA6.kept (Fr.drew _) (.inr (Nat.zero_le _))).kept hF8 (.inl hg4)
    have hcl2 : (c : Int) ≤ 65535 := by omega
    by_cases hok : recChk k c = 0
    · have HOK := Lib.hid hok
      replace HFIN : Hid (recRead l = (recL k d c, 0)) := by have := HFIN.out; rw [if_pos hok] at this; exact this
      clear hok
      go_wp2_with (first
        | (refine wpl_slice_from (I := 33) hA6 (by omega) rfl rfl rfl rfl ?_; intro ad' cap' hr)
        | (go_at_call 106; refine (c_Take 2 hr (by rw [List.length_drop]; omega) (by omega) (by omega) (by rw [List.length_drop, h35.out]; omega)).mono ?_; rintro e w6 ⟨v6, rfl, hO6, hF6'⟩; rw [List.take_of_length_le (by rw [List.length_drop, h35.out]; omega), ← HC.out]; have hB9 := hB8'.kept hF6' (.inr (Nat.zero_le _)))
        | (refine wpl_store_cell (off := 33) (v := .int .i64 c) hB9 (by rw [recL_length _ _ _ HDL.out]; omega) siz28 rfl rfl rfl rfl rfl rfl ?_; intro w7 hB10 hF10; rw [recL_set _ _ _ _ HDL.out] at hB10; clear hB9)
        | (refine wpl_load_blk hB11 row43 (by rw [siz43, recL_length _ _ _ HDL.out]) rfl rfl rfl ?_)
        | (refine wpl_load_blk hB10 row43 (by rw [siz43, recL_length _ _ _ HDL.out]) rfl rfl rfl ?_)
        | (go_at_call 64; refine (c_recCheck k d c HDL.out).mono ?_; rintro e w8 ⟨rfl, hF11⟩; rw [HOK.out]; have hB11 := hB10.kept hF11 (.inr (Nat.zero_le _)))
        | (refine wpl_store_blk hB11 rfl (by rw [siz43, recL_length _ _ _ HDL.out]) (recL_one _ _ _) rfl rfl rfl rfl ?_; intro w9 hB12 hF12))
      have z4 := hF1.size
      refine bodyPost_ret (res_blk_tmp rfl rfl hB12 row43 (by rw [siz43, recL_length _ _ _ HDL.out])) rfl ⟨by rw [HFIN.out]; rfl, ?_⟩
      exact (((((hF1.on hF6 hg4).trans (Fr.drew _)).on hF8 hg4).trans hF6').on hF10 hg4 |>.trans hF11).on hF12 hg4
    · have hchk8 : recChk k c = 8 := recChk_8 hok
      have HOK := Lib.hid hchk8
      replace HFIN : Hid (recRead l = (rec0, 8)) := by have := HFIN.out; rw [if_neg hok] at this; exact this
      clear hok hchk8
      go_wp2_with (first
        | (refine wpl_slice_from (I := 33) hA6 (by omega) rfl rfl rfl rfl ?_; intro ad' cap' hr)
        | (go_at_call 106; refine (c_Take 2 hr (by rw [List.length_drop]; omega) (by omega) (by omega) (by rw [List.length_drop, h35.out]; omega)).mono ?_; rintro e w6 ⟨v6, rfl, hO6, hF6'⟩; rw [List.take_of_length_le (by rw [List.length_drop, h35.out]; omega), ← HC.out]; have hB9 := hB8'.kept hF6' (.inr (Nat.zero_le _)))
        | (refine wpl_store_cell (off := 33) (v := .int .i64 c) hB9 (by rw [recL_length _ _ _ HDL.out]; omega) siz28 rfl rfl rfl rfl rfl rfl ?_; intro w7 hB10 hF10; rw [recL_set _ _ _ _ HDL.out] at hB10; clear hB9)
        | (refine wpl_load_blk hB11 row43 (by rw [siz43, recL_length _ _ _ HDL.out]) rfl rfl rfl ?_)
        | (refine wpl_load_blk hB10 row43 (by rw [siz43, recL_length _ _ _ HDL.out]) rfl rfl rfl ?_)
        | (go_at_call 64; refine (c_recCheck k d c HDL.out).mono ?_; rintro e w8 ⟨rfl, hF11⟩; rw [HOK.out]; have hB11 := hB10.kept hF11 (.inr (Nat.zero_le _)))
        | (refine wpl_store_blk (L' := rec0) hB11 (by rw [recL_length _ _ _ HDL.out]; rfl) siz43 (recL_one _ _ _) rfl rfl rfl rfl ?_; intro w9 hB12 hF12))
      refine bodyPost_ret (res_blk_tmp rfl rfl hB12 row43 siz43) rfl ⟨by rw [HFIN.out]; rfl, ?_⟩
      exact (((((hF1.on hF6 hg4).trans (Fr.drew _)).on hF8 hg4).trans hF6').on hF10 hg4 |>.trans hF11).on hF12 hg4
  · have hfin : recRead l = (rec0, 11) := by rw [recRead, if_neg (by omega), if_pos hn]
    rw [hfin]
    go_enter Tryd.func63, Tryd.ntmps63
    go_wp2_with (first
      | (refine wpl_alloc zer43 rfl rfl rfl ?_; intro g4 w1 hB4 hF1 hg4 hs4)
      | (refine wpl_load_blk hB4 row43 siz43 rfl rfl rfl ?_)
      | (refine wpl_store_blk hB4 rfl siz43 (recL_one _ _ _) rfl rfl rfl rfl ?_; intro w4 hB6 hF6))
    refine bodyPost_ret (res_blk_tmp rfl rfl hB6 row43 siz43) rfl ⟨rfl, ?_⟩
    exact hF1.on hF6 hg4

theorem built43c : Tryd.prog.built 56 [(0, .int .u8 1), (2, .int .i64 151)] = some (recL 1 (List.replicate 32 0) 151).toArray := by kernel_rfl
theorem built43z : Tryd.prog.built 56 [] = some rec0.toArray := by kernel_rfl

theorem recB_alive : recB 1 (List.replicate 32 0) 151 = (((List.replicate 35 (0 : UInt8)).set 0 1).set 34 151) := by decide +kernel

set_option maxHeartbeats 1000000 in
theorem c_alive12 {w : World} : Calls Tryd.prog 65 #[] w fun e w' => e = .returned (.bool true) ∧ Fr 0 0 w w' := by
  obtain ⟨c, hc⟩ : ∃ c, c = recChk 1 151 := ⟨_, rfl⟩
  obtain rfl : c = 0 := by rw [hc]; decide
  have HC := Lib.hid hc
  clear hc
  go_enter Tryd.func65, Tryd.ntmps65
  have t1 := trivial
  go_wp2_with (first
    | (refine wpl_build (parts := [(0, _), (2, _)]) built43c rfl rfl rfl ?_)
    | (go_at_call 67; refine (c_recBytes 1 (List.replicate 32 0) 151 (by simp)).mono ?_; rintro e w1 ⟨v1, rfl, hO1, hF1⟩; rw [← HC.out])
    | (refine wpl_make (n := 35) und22 inf5 rfl rfl rfl rfl (by omega) (by omega) (by omega) ?_; intro g w2 hB2 hF2 hg hs)
    | (have _t := t1; refine wpl_store_cell (off := 0) (v := ub 1) hB2 (by simp) siz5' rfl rfl rfl rfl rfl rfl ?_; intro w3 hB3 hF3; clear t1 _t hB2)
    | (refine wpl_store_cell (off := 34) (v := ub 151) hB3 (by simp) siz5' rfl rfl rfl rfl rfl rfl ?_; intro w4 hB4 hF4; clear hB3; have hB4' : Blk w4 g ((((List.replicate 35 (0 : UInt8)).set 0 1).set 34 151).map ub) 5 := hB4; have z1 := hF1.size; have z2 := hF2.size; have hO4 := ((hO1.kept hF2 (.inr (Nat.zero_le _))).kept hF3 (.inl hg)).kept hF4 (.inl hg))
    | (go_at_call 23; refine (c_Same hO4.rd (OwB.of_blk (lo := g) (hi := g + 1) (n := 35) hB4' (by simp) (Nat.le_refl _) (by omega) (by omega)).rd).mono ?_; rintro e w5 ⟨rfl, rfl⟩; rw [recB_alive, beq_self_eq_true]))
  go_ret
  exact ⟨rfl, ((hF1.trans hF2).on hF3 (by omega)).on hF4 (by omega)⟩

end Go.Proofs.YtgndidjfjdaagaaDoor