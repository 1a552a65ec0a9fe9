/-
  Contracts of package header, the writing side: Check, number, join, Bytes.
-/
import Derived.Test.YtgndidjfjdaagaaDoorHead2
import Derived.Test.YtgndidjfjdaagaaDoorPut
import Derived.Test.YtgndidjfjdaagaaDoorJoin
import Derived.Test.YtgndidjfjdaagaaDoorEq
set_option linter.unusedSimpArgs false
set_option linter.unusedVariables false
namespace Go.Proofs.YtgndidjfjdaagaaDoor
open Go.RowKit

/-- What Check answers. -/
def hdrChk (h m : Int) : Int := if h < 0 ∨ 1073741824 < h ∨ m < 0 ∨ 256 < m then 8 else 0

theorem hdrChk_8 {h m : Int} (hc : ¬ hdrChk h m = 0) : hdrChk h m = 8 := by
  unfold hdrChk at hc ⊢
  split at hc
  · rename_i hn; rw [if_pos hn]
  · exact absurd rfl hc

set_option maxHeartbeats 1000000 in
theorem c_hdrCheck {w : World} (h : Int) (p s r : List UInt8) (m : Int) (hp : p.length = 32) (hs : s.length = 32) (hr : r.length = 32) :
    Calls Tryd.prog 58 #[.agg (hdrL h p s r m).toArray] w fun e w' => e = .returned (.int .i64 (hdrChk h m)) ∧ Fr 0 0 w w' := by
  go_enter Tryd.func58, Tryd.ntmps58
  go_wp2_with (refine wpl_box (hdrL h p s r m) rfl rfl rfl rfl ?_; intro g w1 hB hF hg hs1; have c0 : w1.cell? ⟨g, 0, none⟩ = some (.int .i64 h) := hB.cell 0; have c97 : w1.cell? ⟨g, 97, none⟩ = some (.int .i64 m) := by rw [hB.cell]; simp [hdrL, hp, hs, hr])
  all_goals
    go_ret
    refine ⟨ret_int ?_, hF⟩
    clear c0 c97 hB hF
    unfold hdrChk
    simp at *
    first | omega | (split <;> omega)

set_option maxHeartbeats 1000000 in
theorem c_number {w : World} (n s : Nat) (h1 : 1 ≤ s) (h8 : s ≤ 8) (hn : n ≤ 1073741824) (hlt : n < 256 ^ s) :
    Calls Tryd.prog 102 #[.int .i64 n, .int .i64 s] w fun e w' => ∃ v', e = .returned v' ∧ OwB w' w.heap.size w'.heap.size v' (beB s n) ∧ Fr 0 0 w w' := by
  have HLT := Lib.hid hlt
  clear hlt
  go_enter Tryd.func102, Tryd.ntmps102
  go_wp2_with (go_at_call 77; refine (c_Put n s (by omega) h1 h8 HLT.out).mono ?_; rintro e w3 ⟨v3, rfl, hO3, hF3⟩)
  go_ret
  exact ⟨_, rfl, hO3, hF3⟩

/-- A header's bytes. -/
def hdrB (h : Int) (p s r : List UInt8) (m : Int) : List UInt8 := if hdrChk h m = 0 then beB 8 h.toNat ++ (p ++ (s ++ (r ++ beB 4 m.toNat))) else []

theorem hdrL_p (h : Int) (p s r : List UInt8) (m : Int) : hdrL h p s r m = [.int .i64 h] ++ p.map ub ++ (s.map ub ++ r.map ub ++ [.int .i64 m]) := by simp [hdrL]
theorem hdrL_s (h : Int) (p s r : List UInt8) (m : Int) : hdrL h p s r m = ([.int .i64 h] ++ p.map ub) ++ s.map ub ++ (r.map ub ++ [.int .i64 m]) := by simp [hdrL]
theorem hdrL_r (h : Int) (p s r : List UInt8) (m : Int) : hdrL h p s r m = ([.int .i64 h] ++ p.map ub ++ s.map ub) ++ r.map ub ++ [.int .i64 m] := by simp [hdrL]

theorem Blk.digests {w : World} {g : Nat} {h : Int} {p s r : List UInt8} {m : Int} {t : TypeId} (hp : p.length = 32) (hs : s.length = 32) (hr : r.length = 32) (hB : Blk w g (hdrL h p s r m) t) :
    RdB w g (g + 1) (.slice (some ⟨g, 1, none⟩) 32 32) p ∧ RdB w g (g + 1) (.slice (some ⟨g, 33, none⟩) 32 32) s ∧ RdB w g (g + 1) (.slice (some ⟨g, 65, none⟩) 32 32) r := by
  refine ⟨?_, ?_, ?_⟩
  · rw [hdrL_p] at hB
    exact Blk.rd hB rfl hp (by omega) (by omega)
  · rw [hdrL_s] at hB
    exact Blk.rd hB (by simp [hp]) hs (by omega) (by omega)
  · rw [hdrL_r] at hB
    exact Blk.rd hB (by simp [hp, hs]) hr (by omega) (by omega)

set_option maxHeartbeats 2000000 in
theorem c_hdrBytes {w : World} (h : Int) (p s r : List UInt8) (m : Int) (hp : p.length = 32) (hs : s.length = 32) (hr : r.length = 32) :
    Calls Tryd.prog 54 #[.agg (hdrL h p s r m).toArray] w fun e w' => ∃ v', e = .returned (.tuple #[v', .int .i64 (hdrChk h m)]) ∧ RdB w' w.heap.size w'.heap.size v' (hdrB h p s r m) ∧ Fr 0 0 w w' := by
  by_cases hok : hdrChk h m = 0
  · have hrb : hdrB h p s r m = beB 8 h.toNat ++ (p ++ (s ++ (r ++ beB 4 m.toNat))) := by rw [hdrB, if_pos hok]
    have HRB := Lib.hid hrb
    have HOK := Lib.hid hok
    have hc : 0 ≤ h ∧ h ≤ 1073741824 ∧ 0 ≤ m ∧ m ≤ 256 := by
      unfold hdrChk at hok
      split at hok
      · omega
      · omega
    obtain ⟨n, rfl⟩ := Int.eq_ofNat_of_zero_le hc.1
    obtain ⟨k, rfl⟩ := Int.eq_ofNat_of_zero_le hc.2.2.1
    have hn : (n : Int) ≤ 1073741824 := hc.2.1
    have hk : (k : Int) ≤ 256 := hc.2.2.2
    rw [hok]
    clear hok hrb hc
    go_enter Tryd.func54, Tryd.ntmps54
    go_wp2_with (first
      | (refine wpl_box (hdrL n p s r k) rfl rfl rfl rfl ?_; intro g w1 hB hF1 hg hs1)
      | (refine wpl_load_blk hB row27 (by rw [siz27, hdrL_length _ _ _ _ _ hp hs hr]) rfl rfl rfl ?_)
      | (go_at_call 58; refine (c_hdrCheck n p s r k hp hs hr).mono ?_; rintro e w2 ⟨rfl, hF2⟩; rw [HOK.out]; have hB2 := hB.kept hF2 (.inr (Nat.zero_le _))))
    have c0 : w2.cell? ⟨g, 0, none⟩ = some (.int .i64 n) := hB2.cell 0
    have c97 : w2.cell? ⟨g, 97, none⟩ = some (.int .i64 k) := by rw [hB2.cell]; simp [hdrL, hp, hs, hr]
    have C0 := Lib.hid c0
    have C97 := Lib.hid c97
    have t1 := trivial
    go_region_held3 (fun w' => w'.cell? ⟨g, 0, none⟩ = some (.int .i64 n) ∧ w'.cell? ⟨g, 97, none⟩ = some (.int .i64 k)) (first | go_keep | exact ⟨hF5.cell (hX.cell (hF4.cell (hF3.cell C0.out (.inr (Nat.zero_le _))) (.inr (Nat.zero_le _))) (.inr (Nat.zero_le _))) (.inr (Nat.zero_le _)), hF5.cell (hX.cell (hF4.cell (hF3.cell C97.out (.inr (Nat.zero_le _))) (.inr (Nat.zero_le _))) (.inr (Nat.zero_le _))) (.inr (Nat.zero_le _))⟩ | exact ⟨hF3.cell C0.out (.inr (Nat.zero_le _)), hF3.cell C97.out (.inr (Nat.zero_le _))⟩ | exact ⟨hF4.cell (hF3.cell C0.out (.inr (Nat.zero_le _))) (.inr (Nat.zero_le _)), hF4.cell (hF3.cell C97.out (.inr (Nat.zero_le _))) (.inr (Nat.zero_le _))⟩) ((first
      | (have _t := t1; go_at_call 102; refine (c_number n 8 (by omega) (by omega) (by omega) (by omega)).mono ?_; rintro e w3 ⟨v3, rfl, hO3, hF3⟩; clear t1 _t; obtain ⟨a3, cap3, rfl⟩ : ∃ a3 cap3, v3 = .slice a3 8 cap3 := (by obtain ⟨x, y, e, _⟩ := hO3.rd.form; exact ⟨x, y, by rw [e, beB_length]⟩))
      | (go_at_call 102; refine (c_number k 4 (by omega) (by omega) (by omega) (by omega)).mono ?_; rintro e w4 ⟨v4, rfl, hO4, hF4⟩; obtain ⟨a4, cap4, rfl⟩ : ∃ a4 cap4, v4 = .slice a4 4 cap4 := (by obtain ⟨x, y, e, _⟩ := hO4.rd.form; exact ⟨x, y, by rw [e, beB_length]⟩); have hB4 := ((hB2.kept (Fr.drew _) (.inr (Nat.zero_le _))).kept hF3 (.inr (Nat.zero_le _))).kept hF4 (.inr (Nat.zero_le _)); have hO3' := hO3.kept hF4 (.inr (Nat.zero_le _)))
      | (go_at_call 101; have hX := Fr.alloc w4 (.cells #[.slice a3 8 cap3, .slice (some ⟨g, 1, none⟩) 32 32, .slice (some ⟨g, 33, none⟩) 32 32, .slice (some ⟨g, 65, none⟩) 32 32, .slice a4 4 cap4] 24); have hD := (hB4.kept hX (.inr (Nat.zero_le _))).digests hp hs hr; refine (c_join (heap_alloc_new w4 _) (hO3'.rd.kept hX (.inr (Nat.zero_le _))) hD.1 hD.2.1 hD.2.2 (hO4.rd.kept hX (.inr (Nat.zero_le _))) (by simp only [beB_length]; omega)).mono ?_; rintro e w5 ⟨v5, rfl, hO5, hF5⟩)))
    have hFX := ((((hF1.trans hF2).trans (Fr.drew _)).trans hF3).trans hF4).trans hX
    go_wp2_with fail
    go_ret2
    refine ⟨_, rfl, ?_, hFX.trans hF5⟩
    rw [HRB.out]
    exact hO5.mono hFX.size (Nat.le_refl _)
  · have hrb : hdrB h p s r m = [] := by rw [hdrB, if_neg hok]
    rw [hrb]
    have HC := Lib.hid (hdrChk_8 hok)
    rw [hdrChk_8 hok]
    clear hok hrb
    go_enter Tryd.func54, Tryd.ntmps54
    go_wp2_with (first
      | (refine wpl_box (hdrL h p s r m) rfl rfl rfl rfl ?_; intro g w1 hB hF1 hg hs1)
      | (refine wpl_load_blk hB row27 (by rw [siz27, hdrL_length _ _ _ _ _ hp hs hr]) rfl rfl rfl ?_)
      | (go_at_call 58; refine (c_hdrCheck h p s r m hp hs hr).mono ?_; rintro e w2 ⟨rfl, hF2⟩; rw [HC.out]))
    go_ret2
    exact ⟨_, rfl, RdB.nil _ _ _, hF1.trans hF2⟩

end Go.Proofs.YtgndidjfjdaagaaDoor
