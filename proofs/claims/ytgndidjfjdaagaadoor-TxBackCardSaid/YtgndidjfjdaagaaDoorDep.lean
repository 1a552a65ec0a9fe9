/-
  receipt.Deposit.
-/
import Derived.Test.YtgndidjfjdaagaaDoorTagOf
import Derived.Test.YtgndidjfjdaagaaDoorRec
set_option linter.unusedSimpArgs false
set_option linter.unusedVariables false
namespace Go.Proofs.YtgndidjfjdaagaaDoor
open Go.RowKit

/-- A flat struct or array is itself. -/
theorem run_eql_self {P : Program} {t : TypeId} {d : Nat} {ks : List (Option IntKind)} {xs : List Value} (hk : leaves P d t = some ks) (hd : d ≤ 10000) (hr : (P.underlying t).map (·.isRow) = some true) (hx : LF ks xs) (w : World) :
    (binOp .eql t (.agg xs.toArray) (.agg xs.toArray)).run P w = .ok (.bool true) w := by
  obtain ⟨r, h1, h2⟩ := eq_leaves w d t ks hk 10000 hd xs xs hx hx
  have hv : ∀ zs, valOf P t zs = .agg zs.toArray := fun zs => by unfold valOf; rw [if_pos hr]
  rw [hv] at h1
  obtain rfl : r = true := h2.2 rfl
  simp [run_eql_struct, h1]

/-- A deposit's cells. -/
def depL (n : Nat) (d : List UInt8) (a : Nat) : List Value := [.int .u64 n] ++ d.map ub ++ [.int .u64 a]
theorem depL_length (n : Nat) (d : List UInt8) (a : Nat) (hd : d.length = 32) : (depL n d a).length = 34 := by simp [depL, hd]
def depH (n : Nat) (d : List UInt8) (a : Nat) : List UInt8 := shaB (tagB 9 [beB 8 n ++ d ++ beB 8 a])

set_option maxHeartbeats 1000000 in
theorem c_Deposit {w : World} (n : Nat) (d : List UInt8) (a : Nat) (hd : d.length = 32) (hn : n < 18446744073709551616) (ha : a < 18446744073709551616) (hk : KT w) :
    Calls Tryd.prog 66 #[.agg (depL n d a).toArray] w fun e w' => e = .returned (.agg (bs (depH n d a))) ∧ Fr 0 0 w w' := by
  obtain ⟨B, hB0⟩ : ∃ B, B = beB 8 n ++ d ++ beB 8 a := ⟨_, rfl⟩
  have hBl : B.length = 48 := by rw [hB0]; simp [beB_length, hd]
  have hsl : ((shaB (tagB 9 [B])).map ub).length = 32 := by rw [List.length_map, shaB_length]
  have HB0 := Lib.hid hB0
  have HBL := Lib.hid hBl
  have hfin : depH n d a = shaB (tagB 9 [B]) := by rw [depH, hB0]
  rw [hfin]
  clear hB0 hBl hfin
  have HN : Hid (n < 256 ^ 8) := hn
  have HA : Hid (a < 256 ^ 8) := ha
  have t1 := trivial
  have t2 := trivial
  go_enter Tryd.func66, Tryd.ntmps66
  go_wp2_with (first
    | (refine wpl_box (depL n d a) rfl rfl rfl rfl ?_; intro g w1 hB hF1 hg hs)
    | (refine wpl_alloc zer30 rfl rfl rfl ?_; intro g2 w2 hB2 hF2 hg2 hs2; have hBd := hB.kept hF2 (.inr (Nat.zero_le _)); have c0 : w2.cell? ⟨g, 0, none⟩ = some (.int .u64 n) := hBd.cell 0; have C0 := Lib.hid c0)
    | (have _t := t1; go_at_call 77; refine (c_Put n 8 hn (by omega) (by omega) HN.out).mono ?_; rintro e w3 ⟨v3, rfl, hO3, hF3⟩; clear t1 _t; have hB3 := hBd.kept hF3 (.inr (Nat.zero_le _)); have c33 : w3.cell? ⟨g, 33, none⟩ = some (.int .u64 a) := (by rw [hB3.cell]; simp [depL, hd]); have c00 := hF3.cell C0.out (.inr (Nat.zero_le _)))
    | (go_at_call 77; refine (c_Put a 8 ha (by omega) (by omega) HA.out).mono ?_; rintro e w4 ⟨v4, rfl, hO4, hF4⟩; have hB4 := hB3.kept hF4 (.inr (Nat.zero_le _)); have hO34 := hO3.kept hF4 (.inr (Nat.zero_le _)); have cc0 := hF4.cell c00 (.inr (Nat.zero_le _)); have hR4 : RdB w4 g (g + 1) (.slice (some ⟨g, 1, none⟩) 32 32) d := Blk.rd (A := [.int .u64 n]) (Z := [.int .u64 a]) hB4 rfl hd (by omega) (by omega); have z3 := hF3.size; have zg := hBd.lt)
    | (at_builtin; have _t := t2; refine wpl_append hO34 hR4 (by simp [hd, beB_length]) rfl rfl rfl rfl ?_; intro v5 w5 lo5 hi5 hO5 hF5 hz5; clear t2 _t; have hO45 := hO4.rd.kept hF5 (.inr (by omega)))
    | (at_builtin; refine wpl_append hO5 hO45 (by simp [hd, beB_length]) rfl rfl rfl rfl ?_; intro v6 w6 lo6 hi6 hO6 hF6 hz6; rw [← HB0.out] at hO6; obtain ⟨a6, c6, rfl⟩ : ∃ x c, v6 = .slice x B.length c := (let ⟨x, y, e, _⟩ := hO6.rd.form; ⟨x, y, e⟩); have hW4 := ((hF1.trans hF2).trans hF3).trans hF4; have z4 := hW4.size; have z2 := hF1.size; have z22 := hF2.size; have hW6 := (hW4.on hF5 (by omega)).on hF6 (by omega))
    | (go_at_call 25; refine (c_tagOf 9 (RdS.one hO6.rd) (by simp) (by simp [lens, HBL.out]) ((hk.kept hW6 (.inr (Nat.zero_le _))).kept (Fr.alloc _ _) (.inr (Nat.zero_le _)))).mono ?_; rintro e w7 ⟨rfl, hF7⟩; have hF7' : Fr 0 0 w6 w7 := (Fr.alloc _ _).trans hF7; have hB27 := ((((hB2.kept hF3 (.inr (Nat.zero_le _))).kept hF4 (.inr (Nat.zero_le _))).kept hF5 (.inl (by omega))).kept hF6 (.inl (by have := hF5.size; have := hF4.size; omega))).kept hF7' (.inr (Nat.zero_le _)))
    | (refine wpl_store_blk hB27 (by rw [hsl]; rfl) (by rw [siz30, hsl]) (ub_oneCell _) rfl rfl rfl rfl ?_; intro w8 hB8 hF8))
  refine bodyPost_ret (v := .agg (bs (shaB (tagB 9 [B])))) (res_blk rfl rfl hB8 row30 (by rw [siz30, hsl])) rfl ⟨rfl, ?_⟩
  exact (hW6.trans hF7').on hF8 (by omega)

end Go.Proofs.YtgndidjfjdaagaaDoor
