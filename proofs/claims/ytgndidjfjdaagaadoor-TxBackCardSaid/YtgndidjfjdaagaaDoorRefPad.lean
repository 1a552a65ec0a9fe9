/-
  The reference's padding.
-/
import Derived.Test.YtgndidjfjdaagaaDoorShaPure
set_option linter.unusedSimpArgs false
set_option linter.unusedVariables false
namespace Go.Proofs.YtgndidjfjdaagaaDoor
open Go.RowKit

theorem zer208 : (Tryd.prog.info? 208).map (·.zero) = some (some (.agg ((List.replicate 8 (0 : UInt8)).map ub).toArray)) := by kernel_rfl

set_option maxRecDepth 100000 in
set_option maxHeartbeats 2000000 in
theorem c_padded {w : World} {lo hi : Nat} {v : Value} {l : List UInt8} (h : RdB w lo hi v l) (hl : l.length ≤ 1073741824) :
    Calls Tryd.prog 117 #[v] w fun e w' => ∃ v', e = .returned v' ∧ OwB w' w.heap.size w'.heap.size v' (padB l) ∧ Fr 0 0 w w' := by
  obtain ⟨a0, c0, rfl, _⟩ := h.form
  obtain ⟨L, hL⟩ : ∃ L, L = l.length := ⟨_, rfl⟩
  have HL := Lib.hid hL
  rw [← hL] at hl h ⊢
  clear hL
  have h128 : RdB (w.alloc (.cells #[.int .u8 128] 5)) w.heap.size (w.heap.size + 1) (.slice (some ⟨w.heap.size, 0, none⟩) 1 1) [128] := (OwB.of_blk (l := [128]) (n := 1) (heap_alloc_new w _) rfl (Nat.le_refl _) (by omega) (by omega)).rd
  clear h128
  have h128 (w : World) : RdB (w.alloc (.cells #[.int .u8 128] 5)) w.heap.size (w.heap.size + 1) (.slice (some ⟨w.heap.size, 0, none⟩) 1 1) [128] := (OwB.of_blk (l := [128]) (n := 1) (heap_alloc_new w _) rfl (Nat.le_refl _) (by omega) (by omega)).rd
  have h00 (w : World) : RdB (w.alloc (.cells #[.int .u8 0] 5)) w.heap.size (w.heap.size + 1) (.slice (some ⟨w.heap.size, 0, none⟩) 1 1) [0] := (OwB.of_blk (l := [0]) (n := 1) (heap_alloc_new w _) rfl (Nat.le_refl _) (by omega) (by omega)).rd
  have t1 := trivial
  go_enter Tryd.func117, Tryd.ntmps117
  go_wp2_with (first
    | (at_builtin; have _t := t1; refine wpl_append (OwB.nil w w.heap.size w.heap.size) h (by rw [← HL.out]; simp; omega) rfl rfl rfl rfl ?_; intro v1 w1 lo1 hi1 hO1 hF1 hz1; rw [List.nil_append] at hO1; obtain ⟨a1, c1, rfl⟩ : ∃ a c, v1 = .slice a L c := (let ⟨x, y, e, _⟩ := hO1.rd.form; ⟨x, y, by rw [e, HL.out]⟩); clear t1 _t)
    | (at_builtin; refine wpl_append (hO1.kept (Fr.alloc _ _) (.inr (Nat.zero_le _))) (h128 w1) (by rw [← HL.out, List.length_singleton]; omega) rfl rfl rfl rfl ?_; intro v2 w2 lo2 hi2 hO2 hF2 hz2; obtain ⟨a2, c2, rfl⟩ : ∃ a c, v2 = .slice a (L + 1) c := (let ⟨x, y, e, _⟩ := hO2.rd.form; ⟨x, y, by rw [e, List.length_append, HL.out]; rfl⟩)))
  have z1 := hF1.size
  have z2 := hF2.size
  simp only [World.size_alloc] at z2 hz2
  have hW1 : Fr 0 0 w w1 := hF1.mono (.inr (by omega)) (.inr (by omega))
  have hW2 : Fr 0 0 w w2 := (hW1.trans (Fr.alloc _ _)).on hF2 (by omega)
  have hb2 : w.heap.size ≤ lo2 ∧ hi2 ≤ w2.heap.size := by omega
  clear hF1 hF2 hO1 h
  go_loopw [3] (fun r ws => ∃ z a c lo' hi', z ≤ zerosOf L ∧ r = .slice a (L + 1 + z) c ∧ OwB ws lo' hi' r (l ++ [128] ++ List.replicate z 0) ∧ w.heap.size ≤ lo' ∧ hi' ≤ ws.heap.size ∧ Fr 0 0 w ws) (fun r _ => L + 1 + zerosOf L - lenS r)
  case atStart => exact ⟨0, _, _, lo2, hi2, Nat.zero_le _, rfl, by simpa using hO2, hb2.1, hb2.2, hW2⟩
  case round =>
    obtain ⟨z, a6, c6, lo6, hi6, hz, rfl, hO6, hlo6, hhi6, hF6⟩ := hrel
    obtain ⟨N, hN⟩ : ∃ N, N = L + 1 + z := ⟨_, rfl⟩
    rw [← hN] at hO6 ⊢
    have HN := Lib.hid hN
    have hN2 : N ≤ 1073742000 := by have : zerosOf L < 64 := Nat.mod_lt _ (by omega); omega
    have hNm : N % 64 = 56 ↔ z = zerosOf L := by
      rw [hN]
      unfold zerosOf at hz ⊢
      omega
    have hlN : (l ++ [128] ++ List.replicate z (0 : UInt8)).length = N := by rw [List.length_append, List.length_append, ← HL.out, List.length_replicate, hN]; rfl
    clear hN
    have z6 := hF6.size
    by_cases hzz : z = zerosOf L
    · subst hzz
      have hN56 : (N : Int) % 64 = 56 := by have := hNm.2 rfl; omega
      obtain ⟨Q, hQ⟩ : ∃ Q, Q = l ++ [128] ++ List.replicate (zerosOf L) (0 : UInt8) := ⟨_, rfl⟩
      rw [← hQ] at hO6 hlN
      have HQ := Lib.hid hQ
      have HlN := Lib.hid hlN
      obtain ⟨M, hMM⟩ : ∃ M, M = 8 * L := ⟨_, rfl⟩
      have HM := Lib.hid hMM
      have hMl : M ≤ 8589934592 := by omega
      have hMI : 8 * (L : Int) = (M : Int) := by omega
      clear hMM hQ hlN hNm
      go_wp2_with (refine wpl_alloc zer208 rfl rfl rfl ?_; intro g w7 hB hF hg hs)
      go_loopw [4, 6] (fun m i wr => ∃ k : Nat, k ≤ 8 ∧ i = .int .i64 (7 - (k : Int)) ∧ m = .int .u64 ((M / 256 ^ k : Nat) : Int) ∧ Blk wr g ((digB 8 k M).map ub) 208 ∧ Fr g (g + 1) w7 wr) (fun _ i _ => (intOf i + 1).toNat)
      case atStart => exact ⟨0, Nat.zero_le _, by go_num, by simp, by rw [digB_zero]; exact hB, Fr.refl _ _ _⟩
      case round =>
        obtain ⟨k, hk, rfl, rfl, hBk, hFk⟩ := hrel
        by_cases hkl : k < 8
        · obtain ⟨m, hm⟩ : ∃ m, m = M / 256 ^ k := ⟨_, rfl⟩
          have hml : m ≤ M := by rw [hm]; exact Nat.div_le_self _ _
          have HMm := Lib.hid hm
          rw [← hm]
          obtain ⟨x, hx⟩ : ∃ x, x = UInt8.ofNat (m % 256) := ⟨_, rfl⟩
          have HX := Lib.hid hx
          have hxe : Hid ((m : Int) % 256 = (x.toNat : Int)) := by show (m : Int) % 256 = (x.toNat : Int); rw [hx]; simp
          have i0 : ((7 : Int) - k).toNat = 7 - k := by omega
          have i1 : (0 : Int) ≤ 7 - k := by omega
          have i2 : (7 : Int) - k < 8 := by omega
          clear hx hm hB
          go_wp2_with (refine wpl_store_cell (off := 7 - k) (v := ub x) hBk (by rw [List.length_map, digB_length 8 k M hk]; omega) siz5' rfl rfl rfl rfl rfl (congrArg (Value.int .u8) hxe.out) ?_; intro w3 hB3 hF3)
          clear i0 i1 i2
          go_roundw
          case rel => exact ⟨k + 1, by omega, by go_num, by rw [Nat.pow_succ, ← Nat.div_div_eq_div_mul, ← HMm.out]; go_num, by rw [← digB_set 8 k M hkl, List.map_set, ← HMm.out, ← HX.out]; exact hB3, hFk.trans hF3⟩
          case measure => simp [intOf]; omega
        · obtain rfl : k = 8 := by omega
          have hO8 := (hO6.kept hF (.inr (Nat.zero_le _))).kept hFk (.inl (by omega))
          rw [digB_all] at hBk
          have hR8 : RdB wr g (g + 1) (.slice (some ⟨g, 0, none⟩) 8 8) (beB 8 M) := Blk.rd (A := []) (Z := []) (by simpa using hBk) rfl (beB_length _ _) (Nat.le_refl _) (by omega)
          have hi8 : (7 : Int) - (8 : Nat) < 0 := by omega
          have zF := hF.size
          have zk := hFk.size
          clear hB
          go_wp2_with (at_builtin; refine wpl_append hO8 hR8 (by rw [HlN.out, beB_length]; omega) rfl rfl rfl rfl ?_; intro v9 w9 lo9 hi9 hO9 hF9 hz9)
          go_ret
          have z9 := hF9.size
          refine ⟨v9, rfl, ?_, (((hF6.trans hF).on hFk (by omega)).on hF9 (by omega))⟩
          have e : padB l = Q ++ beB 8 M := by
            rw [HQ.out, HM.out, padB, ← HL.out]
            simp
          rw [e]
          exact hO9.mono (by omega) (by omega)
    · have hN56 : ¬ (N : Int) % 64 = 56 := by have h1 : ¬ N % 64 = 56 := fun h => hzz (hNm.1 h); omega
      have hX : Fr 0 0 wr (wr.alloc (.cells #[.int .u8 0] 5)) := Fr.alloc _ _
      have hOX := hO6.kept hX (.inr (Nat.zero_le _))
      have HlN := Lib.hid hlN
      clear hlN hNm
      go_wp2_with (at_builtin; refine wpl_append hOX (h00 wr) (by rw [HlN.out, List.length_singleton]; omega) rfl rfl rfl rfl ?_; intro v7 w7 lo7 hi7 hO7 hF7 hz7; obtain ⟨a7', c7', rfl⟩ : ∃ a c, v7 = .slice a (N + 1) c := (let ⟨x, y, e, _⟩ := hO7.rd.form; ⟨x, y, by rw [e, List.length_append, HlN.out]; rfl⟩))
      have s7 := hF7.size
      simp only [World.size_alloc] at s7 hz7
      go_roundw
      case rel =>
        refine ⟨z + 1, a7', c7', lo7, hi7, by omega, by rw [HN.out]; rfl, ?_, by omega, by omega, (hF6.trans hX).on hF7 (by omega)⟩
        rw [List.replicate_succ', ← List.append_assoc]
        exact hO7
      case measure =>
        show L + 1 + zerosOf L - (N + 1) < L + 1 + zerosOf L - N
        have := HN.out
        omega

end Go.Proofs.YtgndidjfjdaagaaDoor
