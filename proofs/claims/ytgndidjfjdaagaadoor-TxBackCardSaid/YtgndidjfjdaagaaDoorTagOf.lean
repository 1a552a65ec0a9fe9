/-
  tag.Of; header.Hash, header.Follows.
-/
import Derived.Test.YtgndidjfjdaagaaDoorShaOf
import Derived.Test.YtgndidjfjdaagaaDoorHeadB
set_option linter.unusedSimpArgs false
set_option linter.unusedVariables false
namespace Go.Proofs.YtgndidjfjdaagaaDoor
open Go.RowKit

/-- A new row of one slice. -/
theorem RdS.one {w : World} {lo hi : Nat} {u : Value} {l : List UInt8} (h : RdB w lo hi u l) : RdS (w.alloc (.cells #[u] 24)) 0 (w.heap.size + 1) (.slice (some ⟨w.heap.size, 0, none⟩) 1 1) [l] := by
  refine ⟨_, 1, rfl, Nat.le_refl _, by unfold maxLen; omega, (fun h => by cases h), fun _ => ⟨w.heap.size, 0, rfl, Nat.zero_le _, by omega, fun j hj => ?_⟩⟩
  obtain rfl : j = 0 := by simpa using hj
  refine ⟨u, ?_, ((h.fit.kept (Fr.alloc w _) (.inr (Nat.zero_le _))).mono (Nat.zero_le _) (by omega))⟩
  have hb : Blk (w.alloc (.cells #[u] 24)) w.heap.size [u] 24 := heap_alloc_new w _
  exact hb.cell 0

set_option maxHeartbeats 1000000 in
theorem c_tagOf {w : World} {lo hi : Nat} {v : Value} {ls : List (List UInt8)} (k : UInt8) (h : RdS w lo hi v ls) (hh : hi ≤ w.heap.size) (hl : lens ls ≤ 1073741000) (hk : KT w) :
    Calls Tryd.prog 25 #[.int .u8 (k.toNat : Int), v] w fun e w' => e = .returned (.agg (bs (shaB (tagB k ls)))) ∧ Fr 0 0 w w' := by
  have htl : (tagB k ls).length ≤ 1073741824 := by rw [tagB, List.length_cons, tagT_length]; omega
  have hsl : ((shaB (tagB k ls)).map ub).length = 32 := by rw [List.length_map, shaB_length]
  obtain ⟨B, hB0⟩ : ∃ B, B = tagB k ls := ⟨_, rfl⟩
  rw [← hB0] at htl hsl ⊢
  have HB0 := Lib.hid hB0
  clear hB0
  go_enter Tryd.func25, Tryd.ntmps25
  go_wp2_with (first
    | (refine wpl_alloc zer30 rfl rfl rfl ?_; intro g2 w1 hB1 hF1 hg2 hs2)
    | (go_at_call 22; refine (c_tagBytes k (h.kept hF1 (.inr (Nat.zero_le _))) (by have := hF1.size; omega) (by omega)).mono ?_; rintro e w2 ⟨v2, rfl, hO2, hF2⟩; rw [← HB0.out] at hO2; obtain ⟨a2, c2, rfl⟩ : ∃ a c, v2 = .slice a B.length c := (let ⟨x, y, e, _⟩ := hO2.rd.form; ⟨x, y, e⟩))
    | (go_at_call 53; refine (c_shaOf (RdS.one hO2.rd) htl (((hk.kept hF1 (.inr (Nat.zero_le _))).kept hF2 (.inr (Nat.zero_le _))).kept (Fr.alloc _ _) (.inr (Nat.zero_le _)))).mono ?_; rintro e w3 ⟨rfl, hF3⟩; have hB2 := ((hB1.kept hF2 (.inr (Nat.zero_le _))).kept (Fr.alloc _ _) (.inr (Nat.zero_le _))).kept hF3 (.inr (Nat.zero_le _)); have hF4 : Fr 0 0 w2 w3 := (Fr.alloc _ _).trans hF3)
    | (refine wpl_store_blk hB2 (by rw [hsl]; rfl) (by rw [siz30, hsl]) (ub_oneCell _) rfl rfl rfl rfl ?_; intro w5 hB5 hF5))
  refine bodyPost_ret (v := .agg (bs (shaB B))) (res_blk rfl rfl hB5 row30 (by rw [siz30, hsl])) rfl ⟨rfl, ?_⟩
  exact ((hF1.trans hF2).trans hF4).on hF5 hg2

/-- A header's hash. -/
def hdrH (h : Int) (p s r : List UInt8) (m : Int) : List UInt8 := if hdrChk h m = 0 then shaB (tagB 6 [hdrB h p s r m]) else List.replicate 32 0
theorem hdrH_length (h : Int) (p s r : List UInt8) (m : Int) : (hdrH h p s r m).length = 32 := by
  unfold hdrH
  split
  · exact shaB_length _
  · simp

set_option maxHeartbeats 1000000 in
theorem c_hdrHash {w : World} (h : Int) (p s r : List UInt8) (m : Int) (hp : p.length = 32) (hs : s.length = 32) (hr : r.length = 32) (hk : KT w) :
    Calls Tryd.prog 56 #[.agg (hdrL h p s r m).toArray] w fun e w' => e = .returned (.tuple #[.agg (bs (hdrH h p s r m)), .int .i64 (hdrChk h m)]) ∧ Fr 0 0 w w' := by
  have hsl : ((hdrH h p s r m).map ub).length = 32 := by rw [List.length_map, hdrH_length]
  by_cases hok : hdrChk h m = 0
  · have hH : hdrH h p s r m = shaB (tagB 6 [hdrB h p s r m]) := by rw [hdrH, if_pos hok]
    have hbl := hdrB_length h p s r m hp hs hr hok
    obtain ⟨B, hB0⟩ : ∃ B, B = hdrB h p s r m := ⟨_, rfl⟩
    rw [← hB0] at hbl hH
    rw [hok]
    have HBL := Lib.hid hbl
    have HH := Lib.hid hH
    have HB0 := Lib.hid hB0
    have HOK := Lib.hid hok
    have hsl' : ((shaB (tagB 6 [B])).map ub).length = 32 := by rw [List.length_map, shaB_length]
    clear hbl hH hB0 hok
    go_enter Tryd.func56, Tryd.ntmps56
    go_wp2_with (first
      | (refine wpl_box (hdrL h p s r m) rfl rfl rfl rfl ?_; intro g w1 hB hF1 hg hgs)
      | (refine wpl_alloc zer30 rfl rfl rfl ?_; intro g2 w2 hB2 hF2 hg2 hs2)
      | (refine wpl_load_blk (hB.kept hF2 (.inr (Nat.zero_le _))) row27 (by rw [siz27, hdrL_length _ _ _ _ _ hp hs hr]) rfl rfl rfl ?_)
      | (go_at_call 54; refine (c_hdrBytes h p s r m hp hs hr).mono ?_; rintro e w3 ⟨v3, rfl, hO3, hF3⟩; rw [HOK.out]; rw [← HB0.out] at hO3; obtain ⟨a3, c3, rfl⟩ : ∃ a c, v3 = .slice a B.length c := (let ⟨x, y, e, _⟩ := hO3.form; ⟨x, y, e⟩))
      | (go_at_call 25; refine (c_tagOf 6 (RdS.one hO3) (by simp) (by simp [lens, HBL.out]) ((((hk.kept hF1 (.inr (Nat.zero_le _))).kept hF2 (.inr (Nat.zero_le _))).kept hF3 (.inr (Nat.zero_le _))).kept (Fr.alloc _ _) (.inr (Nat.zero_le _)))).mono ?_; rintro e w4 ⟨rfl, hF4⟩; have hB4 := ((hB2.kept hF3 (.inr (Nat.zero_le _))).kept (Fr.alloc _ _) (.inr (Nat.zero_le _))).kept hF4 (.inr (Nat.zero_le _)); have hF5 : Fr 0 0 w3 w4 := (Fr.alloc _ _).trans hF4)
      | (refine wpl_store_blk hB4 (by rw [hsl']; rfl) (by rw [siz30, hsl']) (ub_oneCell _) rfl rfl rfl rfl ?_; intro w6 hB6 hF6))
    refine bodyPost_ret (res_blk_tmp rfl rfl hB6 row30 (by rw [siz30, hsl'])) rfl ⟨by rw [HH.out]; rfl, ?_⟩
    exact (((hF1.trans hF2).trans hF3).trans hF5).on hF6 (by have := hF1.size; omega)
  · have hH : hdrH h p s r m = List.replicate 32 0 := by rw [hdrH, if_neg hok]
    have HH := Lib.hid hH
    have HC := Lib.hid (hdrChk_8 hok)
    rw [hdrChk_8 hok]
    clear hok hH
    go_enter Tryd.func56, Tryd.ntmps56
    go_wp2_with (first
      | (refine wpl_box (hdrL h p s r m) rfl rfl rfl rfl ?_; intro g w1 hB hF1 hg hgs)
      | (refine wpl_alloc zer30 rfl rfl rfl ?_; intro g2 w2 hB2 hF2 hg2 hs2)
      | (refine wpl_load_blk (hB.kept hF2 (.inr (Nat.zero_le _))) row27 (by rw [siz27, hdrL_length _ _ _ _ _ hp hs hr]) rfl rfl rfl ?_)
      | (go_at_call 54; refine (c_hdrBytes h p s r m hp hs hr).mono ?_; rintro e w3 ⟨v3, rfl, hO3, hF3⟩; rw [HC.out]; have hB4 := hB2.kept hF3 (.inr (Nat.zero_le _)))
      | (refine wpl_store_blk (L' := (List.replicate 32 (0 : UInt8)).map ub) hB4 rfl siz30 (ub_oneCell _) rfl rfl rfl rfl ?_; intro w6 hB6 hF6))
    refine bodyPost_ret (res_blk_tmp rfl rfl hB6 row30 siz30) rfl ⟨by rw [HH.out]; rfl, ?_⟩
    exact ((hF1.trans hF2).trans hF3).on hF6 (by have := hF1.size; omega)

theorem leaves30 : leaves Tryd.prog 4 30 = some (List.replicate 32 (some .u8)) := by kernel_rfl
theorem eqg30 : Tryd.prog.eqGuardType Tryd.prog.depth 30 = false := by kernel_rfl
theorem LF.bytes32 (d : List UInt8) (h : d.length = 32) : LF (List.replicate 32 (some .u8)) (d.map ub) := by
  have := LF.bytes d
  rwa [h] at this
theorem map_ub_inj : ∀ {a b : List UInt8}, a.map ub = b.map ub → a = b
  | [], [], _ => rfl
  | [], _ :: _, h => by simp at h
  | _ :: _, [], h => by simp at h
  | x :: a, y :: b, h => by
    simp only [List.map_cons, List.cons.injEq, ub, Value.int.injEq, true_and] at h
    rw [map_ub_inj h.2, UInt8.toNat_inj.1 (show x.toNat = y.toNat by omega)]

/-- Does the header follow the other? -/
def fol (h : Int) (p : List UInt8) (m : Int) (h' : Int) (p' s' r' : List UInt8) (m' : Int) : Prop := hdrChk h' m' = 0 ∧ hdrChk h m = 0 ∧ h = h' + 1 ∧ p = hdrH h' p' s' r' m'
instance (h : Int) (p : List UInt8) (m : Int) (h' : Int) (p' s' r' : List UInt8) (m' : Int) : Decidable (fol h p m h' p' s' r' m') := by unfold fol; infer_instance

set_option maxHeartbeats 2000000 in
theorem c_Follows {w : World} (h : Int) (p s r : List UInt8) (m : Int) (hp : p.length = 32) (hs : s.length = 32) (hr : r.length = 32)
    (h' : Int) (p' s' r' : List UInt8) (m' : Int) (hp' : p'.length = 32) (hs' : s'.length = 32) (hr' : r'.length = 32) (hk : KT w) :
    Calls Tryd.prog 60 #[.agg (hdrL h p s r m).toArray, .agg (hdrL h' p' s' r' m').toArray] w fun e w' => e = .returned (.bool (decide (fol h p m h' p' s' r' m'))) ∧ Fr 0 0 w w' := by
  obtain ⟨D, hD⟩ : ∃ D, D = hdrH h' p' s' r' m' := ⟨_, rfl⟩
  have hDl : D.length = 32 := by rw [hD, hdrH_length]
  have hsl : (D.map ub).length = 32 := by rw [List.length_map, hDl]
  have HD := Lib.hid hD
  clear hD
  have t1 := trivial
  have t2 := trivial
  by_cases hc1 : hdrChk h' m' = 0
  · have HC := Lib.hid hc1
    have hb := hdrChk_range hc1
    have hb1 := hb.1
    have hb2 := hb.2.1
    clear hb
    by_cases hc2 : hdrChk h m = 0
    · have HC2 := Lib.hid hc2
      clear hc1 hc2
      by_cases hh : h = h' + 1
      · subst hh
        go_enter Tryd.func60, Tryd.ntmps60
        go_wp2_with (first
      | (have _t := t1; refine wpl_box (hdrL (h' + 1) p s r m) rfl rfl rfl rfl ?_; intro g2 w1 hB1 hF1 hg2 hgs2; clear t1 _t)
      | (refine wpl_box (hdrL h' p' s' r' m') rfl rfl rfl rfl ?_; intro g3 w2 hB2 hF2 hg3 hgs3)
      | (have _t := t2; refine wpl_load_blk hB2 row27 (by rw [siz27, hdrL_length _ _ _ _ _ hp' hs' hr']) rfl rfl rfl ?_)
      | (go_at_call 56; refine (c_hdrHash h' p' s' r' m' hp' hs' hr' ((hk.kept hF1 (.inr (Nat.zero_le _))).kept hF2 (.inr (Nat.zero_le _)))).mono ?_; rintro e w3 ⟨rfl, hF3⟩; rw [HC.out, ← HD.out]; clear t2; have hB13 := (hB1.kept hF2 (.inr (Nat.zero_le _))).kept hF3 (.inr (Nat.zero_le _)); have hB23 := hB2.kept hF3 (.inr (Nat.zero_le _)))
      | (refine wpl_alloc zer30 rfl rfl rfl ?_; intro g5 w4 hB4 hF4 hg5 hs5)
      | (refine wpl_store_blk hB4 (by rw [hsl]; rfl) (by rw [siz30, hsl]) (ub_oneCell _) rfl rfl rfl rfl ?_; intro w5 hB5 hF5; have z3 := hF3.size; have hB15 := (hB13.kept hF4 (.inr (Nat.zero_le _))).kept hF5 (.inl (by have := hB13.lt; omega)); have hB25 := (hB23.kept hF4 (.inr (Nat.zero_le _))).kept hF5 (.inl (by have := hB23.lt; omega)); have c0 : w5.cell? ⟨g2, 0, none⟩ = some (.int .i64 (h' + 1)) := hB15.cell 0; have c0' : w5.cell? ⟨g3, 0, none⟩ = some (.int .i64 h') := hB25.cell 0)
      | (refine wpl_load_blkG hB15 row27 (by rw [siz27, hdrL_length _ _ _ _ _ hp hs hr]) rfl rfl rfl ?_)
      | (go_at_call 58; refine (c_hdrCheck (h' + 1) p s r m hp hs hr).mono ?_; rintro e w6 ⟨rfl, hF6⟩; rw [HC2.out]; have c1 := hF6.cell c0 (.inr (Nat.zero_le _)); have c1' := hF6.cell c0' (.inr (Nat.zero_le _)); have hB16 := hB15.kept hF6 (.inr (Nat.zero_le _)); have hB56 := hB5.kept hF6 (.inr (Nat.zero_le _)))
      | (refine wpl_load_partG (hdrL_p (h' + 1) p s r m ▸ hB16) rfl row30 (by rw [siz30, List.length_map, hp]) rfl rfl rfl ?_)
      | (refine wpl_load_blkG hB56 row30 (by rw [siz30, hsl]) rfl rfl rfl ?_)
      | (refine wpl_eql leaves30 (by omega) row30 eqg30 (LF.bytes32 p hp) (LF.bytes32 D hDl) rfl rfl rfl rfl ?_; intro q hq))
        go_ret
        refine ⟨?_, ((((hF1.trans hF2).trans hF3).trans hF4).on hF5 (by have := hF1.size; have := hF2.size; omega)).trans hF6⟩
        have e : q = decide (fol (h' + 1) p m h' p' s' r' m') := by
          have hiff : p.map ub = D.map ub ↔ p = D := ⟨map_ub_inj, fun e => by rw [e]⟩
          have h3 : fol (h' + 1) p m h' p' s' r' m' ↔ p = D := by
            unfold fol
            rw [← HD.out]
            exact ⟨fun x => x.2.2.2, fun x => ⟨HC.out, HC2.out, rfl, x⟩⟩
          cases q
          · exact (decide_eq_false (fun x => by have := hq.2 (hiff.2 (h3.1 x)); cases this)).symm
          · exact (decide_eq_true (h3.2 (hiff.1 (hq.1 rfl)))).symm
        rw [← e]
        rfl
      · have hf : ¬ fol h p m h' p' s' r' m' := fun x => hh x.2.2.1
        have HF := Lib.hid hf
        clear hf
        go_enter Tryd.func60, Tryd.ntmps60
        go_wp2_with (first
      | (have _t := t1; refine wpl_box (hdrL h p s r m) rfl rfl rfl rfl ?_; intro g2 w1 hB1 hF1 hg2 hgs2; clear t1 _t)
      | (refine wpl_box (hdrL h' p' s' r' m') rfl rfl rfl rfl ?_; intro g3 w2 hB2 hF2 hg3 hgs3)
      | (have _t := t2; refine wpl_load_blk hB2 row27 (by rw [siz27, hdrL_length _ _ _ _ _ hp' hs' hr']) rfl rfl rfl ?_)
      | (go_at_call 56; refine (c_hdrHash h' p' s' r' m' hp' hs' hr' ((hk.kept hF1 (.inr (Nat.zero_le _))).kept hF2 (.inr (Nat.zero_le _)))).mono ?_; rintro e w3 ⟨rfl, hF3⟩; rw [HC.out, ← HD.out]; clear t2; have hB13 := (hB1.kept hF2 (.inr (Nat.zero_le _))).kept hF3 (.inr (Nat.zero_le _)); have hB23 := hB2.kept hF3 (.inr (Nat.zero_le _)))
      | (refine wpl_alloc zer30 rfl rfl rfl ?_; intro g5 w4 hB4 hF4 hg5 hs5)
      | (refine wpl_store_blk hB4 (by rw [hsl]; rfl) (by rw [siz30, hsl]) (ub_oneCell _) rfl rfl rfl rfl ?_; intro w5 hB5 hF5; have z3 := hF3.size; have hB15 := (hB13.kept hF4 (.inr (Nat.zero_le _))).kept hF5 (.inl (by have := hB13.lt; omega)); have hB25 := (hB23.kept hF4 (.inr (Nat.zero_le _))).kept hF5 (.inl (by have := hB23.lt; omega)); have c0 : w5.cell? ⟨g2, 0, none⟩ = some (.int .i64 h) := hB15.cell 0; have c0' : w5.cell? ⟨g3, 0, none⟩ = some (.int .i64 h') := hB25.cell 0)
      | (refine wpl_load_blkG hB15 row27 (by rw [siz27, hdrL_length _ _ _ _ _ hp hs hr]) rfl rfl rfl ?_)
      | (go_at_call 58; refine (c_hdrCheck h p s r m hp hs hr).mono ?_; rintro e w6 ⟨rfl, hF6⟩; rw [HC2.out]; have c1 := hF6.cell c0 (.inr (Nat.zero_le _)); have c1' := hF6.cell c0' (.inr (Nat.zero_le _)); have hB16 := hB15.kept hF6 (.inr (Nat.zero_le _)); have hB56 := hB5.kept hF6 (.inr (Nat.zero_le _))))
        go_ret
        exact ⟨by rw [decide_eq_false HF.out]; rfl, ((((hF1.trans hF2).trans hF3).trans hF4).on hF5 (by have := hF1.size; have := hF2.size; omega)).trans hF6⟩
    · have hf : ¬ fol h p m h' p' s' r' m' := fun x => hc2 x.2.1
      have HF := Lib.hid hf
      have HC2 := Lib.hid (hdrChk_8 hc2)
      clear hf hc1 hc2
      go_enter Tryd.func60, Tryd.ntmps60
      go_wp2_with (first
      | (have _t := t1; refine wpl_box (hdrL h p s r m) rfl rfl rfl rfl ?_; intro g2 w1 hB1 hF1 hg2 hgs2; clear t1 _t)
      | (refine wpl_box (hdrL h' p' s' r' m') rfl rfl rfl rfl ?_; intro g3 w2 hB2 hF2 hg3 hgs3)
      | (have _t := t2; refine wpl_load_blk hB2 row27 (by rw [siz27, hdrL_length _ _ _ _ _ hp' hs' hr']) rfl rfl rfl ?_)
      | (go_at_call 56; refine (c_hdrHash h' p' s' r' m' hp' hs' hr' ((hk.kept hF1 (.inr (Nat.zero_le _))).kept hF2 (.inr (Nat.zero_le _)))).mono ?_; rintro e w3 ⟨rfl, hF3⟩; rw [HC.out, ← HD.out]; clear t2; have hB13 := (hB1.kept hF2 (.inr (Nat.zero_le _))).kept hF3 (.inr (Nat.zero_le _)); have hB23 := hB2.kept hF3 (.inr (Nat.zero_le _)))
      | (refine wpl_alloc zer30 rfl rfl rfl ?_; intro g5 w4 hB4 hF4 hg5 hs5)
      | (refine wpl_store_blk hB4 (by rw [hsl]; rfl) (by rw [siz30, hsl]) (ub_oneCell _) rfl rfl rfl rfl ?_; intro w5 hB5 hF5; have z3 := hF3.size; have hB15 := (hB13.kept hF4 (.inr (Nat.zero_le _))).kept hF5 (.inl (by have := hB13.lt; omega)); have hB25 := (hB23.kept hF4 (.inr (Nat.zero_le _))).kept hF5 (.inl (by have := hB23.lt; omega)); have c0 : w5.cell? ⟨g2, 0, none⟩ = some (.int .i64 h) := hB15.cell 0; have c0' : w5.cell? ⟨g3, 0, none⟩ = some (.int .i64 h') := hB25.cell 0)
      | (refine wpl_load_blkG hB15 row27 (by rw [siz27, hdrL_length _ _ _ _ _ hp hs hr]) rfl rfl rfl ?_)
      | (go_at_call 58; refine (c_hdrCheck h p s r m hp hs hr).mono ?_; rintro e w6 ⟨rfl, hF6⟩; rw [HC2.out]; have c1 := hF6.cell c0 (.inr (Nat.zero_le _)); have c1' := hF6.cell c0' (.inr (Nat.zero_le _)); have hB16 := hB15.kept hF6 (.inr (Nat.zero_le _)); have hB56 := hB5.kept hF6 (.inr (Nat.zero_le _))))
      go_ret
      exact ⟨by rw [decide_eq_false HF.out]; rfl, ((((hF1.trans hF2).trans hF3).trans hF4).on hF5 (by have := hF1.size; have := hF2.size; omega)).trans hF6⟩
  · have hf : ¬ fol h p m h' p' s' r' m' := fun x => hc1 x.1
    have HF := Lib.hid hf
    have HC := Lib.hid (hdrChk_8 hc1)
    clear hf hc1
    go_enter Tryd.func60, Tryd.ntmps60
    go_wp2_with (first
      | (have _t := t1; refine wpl_box (hdrL h p s r m) rfl rfl rfl rfl ?_; intro g2 w1 hB1 hF1 hg2 hgs2; clear t1 _t)
      | (refine wpl_box (hdrL h' p' s' r' m') rfl rfl rfl rfl ?_; intro g3 w2 hB2 hF2 hg3 hgs3)
      | (have _t := t2; refine wpl_load_blk hB2 row27 (by rw [siz27, hdrL_length _ _ _ _ _ hp' hs' hr']) rfl rfl rfl ?_)
      | (go_at_call 56; refine (c_hdrHash h' p' s' r' m' hp' hs' hr' ((hk.kept hF1 (.inr (Nat.zero_le _))).kept hF2 (.inr (Nat.zero_le _)))).mono ?_; rintro e w3 ⟨rfl, hF3⟩; rw [HC.out, ← HD.out]; clear t2; have hB13 := (hB1.kept hF2 (.inr (Nat.zero_le _))).kept hF3 (.inr (Nat.zero_le _)); have hB23 := hB2.kept hF3 (.inr (Nat.zero_le _)))
      | (refine wpl_alloc zer30 rfl rfl rfl ?_; intro g5 w4 hB4 hF4 hg5 hs5)
      | (refine wpl_store_blk hB4 (by rw [hsl]; rfl) (by rw [siz30, hsl]) (ub_oneCell _) rfl rfl rfl rfl ?_; intro w5 hB5 hF5; have z3 := hF3.size; have hB15 := (hB13.kept hF4 (.inr (Nat.zero_le _))).kept hF5 (.inl (by have := hB13.lt; omega)); have hB25 := (hB23.kept hF4 (.inr (Nat.zero_le _))).kept hF5 (.inl (by have := hB23.lt; omega)); have c0 : w5.cell? ⟨g2, 0, none⟩ = some (.int .i64 h) := hB15.cell 0; have c0' : w5.cell? ⟨g3, 0, none⟩ = some (.int .i64 h') := hB25.cell 0))
    go_ret
    exact ⟨by rw [decide_eq_false HF.out]; rfl, (((hF1.trans hF2).trans hF3).trans hF4).on hF5 (by have := hF1.size; have := hF2.size; omega)⟩

end Go.Proofs.YtgndidjfjdaagaaDoor
