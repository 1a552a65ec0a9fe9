/-
  SHA-256 of bytes: sha.Of at one part.
-/
import Derived.Test.YtgndidjfjdaagaaDoorSha
set_option linter.unusedSimpArgs false
set_option linter.unusedVariables false
namespace Go.Proofs.YtgndidjfjdaagaaDoor
open Go.RowKit

def H0 : List Int := [0x6a09e667, 0xbb67ae85, 0x3c6ef372, 0xa54ff53a, 0x510e527f, 0x9b05688c, 0x1f83d9ab, 0x5be0cd19]

/-- How many zeros are put behind n bytes and one more. -/
def zerosOf (n : Nat) : Nat := (119 - n % 64) % 64
/-- The bytes, padded. -/
def padB (l : List UInt8) : List UInt8 := l ++ (128 :: (List.replicate (zerosOf l.length) 0 ++ beB 8 (8 * l.length)))
theorem padB_length (l : List UInt8) : (padB l).length = l.length + 9 + zerosOf l.length := by simp [padB, beB_length]; omega
theorem padB_mod (l : List UInt8) : (padB l).length % 64 = 0 := by rw [padB_length, zerosOf]; omega
/-- The state behind k blocks. -/
def stK (P : List UInt8) : Nat → List Int
  | 0 => H0
  | k + 1 => blkW (stK P k) ((P.drop (64 * k)).take 64)
theorem stK_length (P : List UInt8) (k : Nat) : (stK P k).length = 8 := by
  cases k with
  | zero => rfl
  | succ k => exact blkW_length _ _
/-- The bytes of a state. -/
def digB8 (s : List Int) (i : Nat) : UInt8 := UInt8.ofNat ((s.getD (i / 4) 0 / 2 ^ (24 - 8 * (i % 4))) % 256).toNat
def shaB (l : List UInt8) : List UInt8 := (List.range 32).map (digB8 (stK (padB l) ((padB l).length / 64)))
theorem shaB_length (l : List UInt8) : (shaB l).length = 32 := by simp [shaB]

theorem zer30 : (Tryd.prog.info? 30).map (·.zero) = some (some (.agg ((List.replicate 32 (0 : UInt8)).map ub).toArray)) := by kernel_rfl
theorem row30 : (Tryd.prog.underlying 30).map (·.isRow) = some true := by kernel_rfl
theorem siz30 : (Tryd.prog.info? 30).map (·.size) = some 32 := by kernel_rfl
theorem built150c : Tryd.prog.built 150 [(0, .int .u32 0x6a09e667), (1, .int .u32 0xbb67ae85), (2, .int .u32 0x3c6ef372), (3, .int .u32 0xa54ff53a), (4, .int .u32 0x510e527f), (5, .int .u32 0x9b05688c), (6, .int .u32 0x1f83d9ab), (7, .int .u32 0x5be0cd19)] = some (H0.map uw).toArray := by kernel_rfl

/-- First what was there, but some; then something new. -/
theorem Fr.on' {lo hi lo' hi' : Nat} {a b c : World} (h : Fr lo hi a b) (k : Fr lo' hi' b c) (hl : a.heap.size ≤ lo') : Fr lo hi a c :=
  ⟨k.os.trans h.os, k.tape.trans h.tape, k.output.trans h.output, Nat.le_trans h.size k.size, fun i hi ho => (k.block i (Nat.lt_of_lt_of_le hi h.size) (.inl (Nat.lt_of_lt_of_le hi hl))).trans (h.block i hi ho)⟩

theorem Fr.any {lo hi : Nat} {a b : World} (h : Fr 0 0 a b) : Fr lo hi a b := h.mono (.inr (Nat.le_refl _)) (.inr (Nat.le_refl _))

/-- A new row of one byte. -/
theorem RdB.one {w : World} {X : Int} {x : UInt8} (h : X = (x.toNat : Int)) : RdB (w.alloc (.cells #[.int .u8 X] 5)) w.heap.size (w.heap.size + 1) (.slice (some ⟨w.heap.size, 0, none⟩) 1 1) [x] := by
  subst h
  exact (OwB.of_blk (l := [x]) (n := 1) (heap_alloc_new w _) rfl (Nat.le_refl _) (by omega) (by omega)).rd

theorem shr_lit (n k : Nat) (c : Int) (h : c = 2 ^ (8 * k)) : (n : Int) / c % 256 = ((UInt8.ofNat (n / 256 ^ k % 256)).toNat : Int) := by rw [h]; exact shr_byte n k

/-- A slice's length. -/
def lenS : Value → Nat
  | .slice _ n _ => n
  | _ => 0
theorem lenS_slice (a : Option Addr) (n c : Nat) : lenS (.slice a n c) = n := rfl

theorem padB_part (l : List UInt8) (k : Nat) (h : 64 * k + 64 ≤ l.length) : ((padB l).drop (64 * k)).take 64 = (l.drop (64 * k)).take 64 := by
  rw [padB, List.drop_append_of_le_length (by omega), List.take_append_of_le_length (by simp; omega)]

set_option maxRecDepth 100000 in
set_option maxHeartbeats 4000000 in
theorem c_shaOf {w : World} {lo hi : Nat} {v : Value} {l : List UInt8} (h : RdS w lo hi v [l]) (hl : l.length ≤ 1073741824) (hk : KT w) :
    Calls Tryd.prog 53 #[v] w fun e w' => e = .returned (.agg (bs (shaB l))) ∧ Fr 0 0 w w' := by
  obtain ⟨b, off, cap, rfl, hc1, hc2, hb1, hb2⟩ := h.spot (by simp)
  obtain ⟨a7, c7, hcell, h7⟩ := h.cel 0 (by simp)
  simp only [List.length_singleton, Nat.add_zero, List.getElem_cons_zero] at hcell h7 hc1 h ⊢
  obtain ⟨P, hP⟩ : ∃ P, P = padB l := ⟨_, rfl⟩
  have HP := Lib.hid hP
  clear hP
  go_enter Tryd.func53, Tryd.ntmps53
  have t1 := trivial
  go_wp2_with (first
    | (have _t := t1; refine wpl_alloc zer30 rfl rfl rfl ?_; intro g2 w1 hB1 hF1 hg2 hs2; clear t1 _t)
    | (refine wpl_build (parts := [(0, _), (1, _), (2, _), (3, _), (4, _), (5, _), (6, _), (7, _)]) built150c rfl rfl rfl ?_)
    | (refine wpl_alloc zer150 rfl rfl rfl ?_; intro g3 w2 hB2 hF2 hg3 hs3)
    | (refine wpl_store_blk (L' := H0.map uw) hB2 rfl siz150 (by intro v hv; obtain ⟨x, _, rfl⟩ := List.mem_map.1 hv; rfl) rfl rfl rfl rfl ?_; intro w3 hB3 hF3; clear hB2))
  have hk3 := ((hk.kept hF1 (.inr (Nat.zero_le _))).kept hF2 (.inr (Nat.zero_le _))).kept hF3 (.inl (by have := hF1.size; have := hk.lt; omega))
  have z1 := hF1.size
  have z2 := hF2.size
  have z3 := hF3.size
  have hB13 := (hB1.kept hF2 (.inr (Nat.zero_le _))).kept hF3 (.inl (by omega))
  have hW3 : Fr 0 0 w w3 := (hF1.trans hF2).on hF3 (by omega)
  have hgw : g3 < w3.heap.size := hB3.lt
  have h73 := h7.fit.kept hW3 (.inr (Nat.zero_le _))
  have hcell3 := hW3.cell hcell (.inr (Nat.zero_le _))
  have hbw : b < w.heap.size := World.block_lt_of_cell? w _ hcell
  obtain ⟨K, hK⟩ : ∃ K, K = l.length / 64 := ⟨_, rfl⟩
  have HKK := Lib.hid hK
  clear hK hB1 hF1 hF2 hF3 h7 hcell h
  go_loopw [4, 5, 13] (fun r m i ws => (i = .int .i64 0 ∧ r = .slice none 0 0 ∧ m = .int .u64 0 ∧ ws = w3) ∨ (i = .int .i64 1 ∧ m = .int .u64 l.length ∧
      (∃ a c lo' hi', r = .slice a (l.length - 64 * K) c ∧ OwB ws lo' hi' r (l.drop (64 * K)) ∧ w3.heap.size ≤ lo' ∧ hi' ≤ ws.heap.size) ∧ Blk ws g3 ((stK P K).map uw) 150 ∧ Fr g3 (g3 + 1) w3 ws)) (fun _ _ i _ => 1 - (intOf i).toNat)
  case atStart => exact .inl ⟨rfl, rfl, rfl, rfl⟩
  case round =>
    rcases hrel with ⟨rfl, rfl, rfl, rfl⟩ | ⟨rfl, rfl, ⟨a, c, lo', hi', rfl, hO, hlo, hhi⟩, hBs, hFs⟩
    · go_wp2_with (at_builtin; refine wpl_append (OwB.nil _ wr.heap.size wr.heap.size) h73 (by simp; omega) rfl rfl rfl rfl ?_; intro v4 w4 lo4 hi4 hO4 hF4 hz4; rw [List.nil_append] at hO4; obtain ⟨a4, c4, rfl⟩ : ∃ a c, v4 = .slice a l.length c := (let ⟨x, y, e, _⟩ := hO4.rd.form; ⟨x, y, e⟩))
      have z4 := hF4.size
      have hF4' : Fr 0 0 wr w4 := hF4.mono (.inr (Nat.le_refl _)) (.inr (Nat.le_refl _))
      have hB34 := hB3.kept hF4' (.inr (Nat.zero_le _))
      have hlo4 : wr.heap.size ≤ lo4 ∧ hi4 ≤ w4.heap.size := by omega
      go_loopw [4] (fun r ws => ∃ k a c lo' hi', 64 * k ≤ l.length ∧ r = .slice a (l.length - 64 * k) c ∧ OwB ws lo' hi' r (l.drop (64 * k)) ∧ wr.heap.size ≤ lo' ∧ hi' ≤ ws.heap.size ∧ Blk ws g3 ((stK P k).map uw) 150 ∧ Fr g3 (g3 + 1) w4 ws) (fun r _ => lenS r)
      case atStart => exact ⟨0, _, _, lo4, hi4, by omega, rfl, hO4, hlo4.1, hlo4.2, hB34, Fr.refl _ _ _⟩
      case round =>
        obtain ⟨k, a, c, lo', hi', hkl, rfl, hO, hlo, hhi, hBs, hFs⟩ := hrel
        by_cases hlt : 64 * k + 64 ≤ l.length
        · obtain ⟨n, hn⟩ : ∃ n, n = l.length - 64 * k := ⟨_, rfl⟩
          rw [← hn] at hO ⊢
          have hn64 : 64 ≤ n := by omega
          have hmm : Hid (((l.drop (64 * k)).take 64) = ((P.drop (64 * k)).take 64)) := by show _ = _; rw [HP.out, padB_part l k hlt]
          have HN := Lib.hid hn
          clear hn
          have hkr := (hk3.kept hF4' (.inr (Nat.zero_le _))).kept hFs (.inl (by omega))
          go_wp2_with (first
            | (refine wpl_slice_to (J := 64) hO.rd hn64 rfl rfl rfl rfl ?_; intro ad' cap' hr)
            | (go_at_call 100; go_loud (refine (c_block (stK P k) hBs (stK_length _ _) hr (by simp; omega) (.inr (by omega)) hkr (by omega)).mono ?_); rintro e w6 ⟨rfl, hB6, hF6⟩; have hO6 := hO.kept hF6 (.inr (by omega)))
            | (refine wpl_own_from (I := 64) hO6 hn64 rfl rfl rfl rfl ?_; intro ad7 cap7 hO7))
          go_roundw
          case rel =>
            have z6 := hF6.size
            refine ⟨k + 1, ad7, cap7, lo', hi', by omega, ?_, ?_, hlo, by omega, ?_, hFs.trans hF6⟩
            · rw [HN.out]; congr 1
            · rw [show 64 * (k + 1) = 64 * k + 64 by omega, ← List.drop_drop]; exact hO7
            · rw [stK, ← hmm.out]; exact hB6
          case measure => show n - 64 < n; omega
        · obtain rfl : k = K := by have := HKK.out; omega
          go_wp2_with fail
          go_roundw
          case rel =>
            refine .inr ⟨by go_num, by go_num, ⟨a, c, lo', hi', rfl, hO, ?_, hhi⟩, hBs, ?_⟩
            · exact hlo
            · exact (hF4'.mono (.inr (Nat.le_refl _)) (.inr (Nat.le_refl _))).trans hFs
          case measure => simp [intOf]
    · have z5 := hFs.size
      have hg3s : g3 < w3.heap.size := hgw
      obtain ⟨R, hR⟩ : ∃ R, R = l.length - 64 * K := ⟨_, rfl⟩
      have hRl : (l.drop (64 * K)).length = R := by rw [List.length_drop, hR]
      have hR64 : R < 64 := by have := HKK.out; omega
      have hRb : 64 * K + R = l.length := by have := HKK.out; omega
      rw [← hR] at hO ⊢
      have HR := Lib.hid hR
      clear hR
      have hX : Fr 0 0 wr (wr.alloc (.cells #[.int .u8 128] 5)) := Fr.alloc _ _
      have hOX := hO.kept hX (.inr (Nat.zero_le _))
      have h128 : RdB (wr.alloc (.cells #[.int .u8 128] 5)) wr.heap.size (wr.heap.size + 1) (.slice (some ⟨wr.heap.size, 0, none⟩) 1 1) [128] := (OwB.of_blk (l := [128]) (n := 1) (heap_alloc_new wr _) rfl (Nat.le_refl _) (by omega) (by omega)).rd
      go_wp2_with (at_builtin; refine wpl_append hOX h128 (by rw [hRl, List.length_singleton]; omega) rfl rfl rfl rfl ?_; intro v5 w5 lo5 hi5 hO5 hF5 hz5; obtain ⟨a5, c5, rfl⟩ : ∃ a c, v5 = .slice a (R + 1) c := (let ⟨x, y, e, _⟩ := hO5.rd.form; ⟨x, y, by rw [e, List.length_append, hRl]; rfl⟩))
      have s5 := hF5.size
      simp only [World.size_alloc] at s5 hz5
      have hB5 := (hBs.kept hX (.inr (Nat.zero_le _))).kept hF5 (.inl (by omega))
      have hW5 : Fr g3 (g3 + 1) w3 w5 := (hFs.trans hX.any).on' hF5 hlo
      clear hX hOX h128 hBs hO hF5
      go_loopw [4] (fun r ws => ∃ z a c lo' hi', z ≤ zerosOf l.length ∧ r = .slice a (R + 1 + z) c ∧ OwB ws lo' hi' r (l.drop (64 * K) ++ [128] ++ List.replicate z 0) ∧ w3.heap.size ≤ lo' ∧ hi' ≤ ws.heap.size ∧ Blk ws g3 ((stK P K).map uw) 150 ∧ Fr g3 (g3 + 1) w3 ws) (fun r _ => R + 1 + zerosOf l.length - lenS r)
      case atStart => exact ⟨0, _, _, lo5, hi5, Nat.zero_le _, rfl, by simpa using hO5, by omega, by omega, hB5, hW5⟩
      case round =>
        obtain ⟨z, a6, c6, lo6, hi6, hz, rfl, hO6, hlo6, hhi6, hB6, hF6⟩ := hrel
        obtain ⟨N, hN⟩ : ∃ N, N = R + 1 + z := ⟨_, rfl⟩
        rw [← hN] at hO6 ⊢
        have HN := Lib.hid hN
        have hN128 : N ≤ 200 := by have : zerosOf l.length < 64 := Nat.mod_lt _ (by omega); omega
        have hNm : Hid (N % 64 = 56 ↔ z = zerosOf l.length) := by
          show _ ↔ _
          rw [hN]
          unfold zerosOf at hz ⊢
          omega
        clear hN
        have z6 := hF6.size
        by_cases hzz : z = zerosOf l.length
        · subst hzz
          have hN56 : (N : Int) % 64 = 56 := by have := hNm.out.2 rfl; omega
          have hM : Hid (N = R + 1 + zerosOf l.length) := HN.out
          have hlN : (l.drop (64 * K) ++ [128] ++ List.replicate (zerosOf l.length) (0 : UInt8)).length = N := by rw [List.length_append, List.length_append, hRl, List.length_replicate, HN.out]; rfl
          obtain ⟨Q, hQ⟩ : ∃ Q, Q = l.drop (64 * K) ++ [128] ++ List.replicate (zerosOf l.length) (0 : UInt8) := ⟨_, rfl⟩
          rw [← hQ] at hO6 hlN
          have HQ := Lib.hid hQ
          have HlN := Lib.hid hlN
          clear hQ hlN
          obtain ⟨M, hMM⟩ : ∃ M, M = 8 * l.length := ⟨_, rfl⟩
          have HM := Lib.hid hMM
          have hMl : M ≤ 8589934592 := by omega
          have hMI : 8 * (l.length : Int) = (M : Int) := by omega
          clear hMM
          go_wp2_with fail
          go_loopw [4, 8] (fun r i ws => ∃ (j : Nat) (a : Option Addr) (c lo' hi' : Nat), j ≤ 8 ∧ i = .int .i64 (56 - 8 * (j : Int)) ∧ r = .slice a (N + j) c ∧ OwB ws lo' hi' r (Q ++ (beB 8 M).take j) ∧ w3.heap.size ≤ lo' ∧ hi' ≤ ws.heap.size ∧ Blk ws g3 ((stK P K).map uw) 150 ∧ Fr g3 (g3 + 1) w3 ws) (fun _ i _ => (intOf i + 8).toNat)
          case atStart => exact ⟨0, _, _, lo6, hi6, Nat.zero_le _, rfl, rfl, by simpa using hO6, hlo6, hhi6, hB6, hF6⟩
          case round =>
            obtain ⟨j, a8, c8, lo8, hi8, hj, rfl, rfl, hO8, hlo8, hhi8, hB8, hF8⟩ := hrel
            have z8 := hF8.size
            by_cases hj8 : j < 8
            · have hj' : j = 0 ∨ j = 1 ∨ j = 2 ∨ j = 3 ∨ j = 4 ∨ j = 5 ∨ j = 6 ∨ j = 7 := by omega
              rcases hj' with rfl | rfl | rfl | rfl | rfl | rfl | rfl | rfl
              · obtain ⟨x, hx⟩ : ∃ x, x = UInt8.ofNat (M / 256 ^ 7 % 256) := ⟨_, rfl⟩
                have hxv : Hid ((M : Int) / 72057594037927936 % 256 = (x.toNat : Int)) := by rw [hx]; exact shr_lit M 7 72057594037927936 (by decide)
                have ht : Hid ((beB 8 M).take (0 + 1) = (beB 8 M).take 0 ++ [x]) := by rw [hx]; exact rfl
                have hx2 := x.toNat_lt
                clear hx
                have hX (X : Int) : Fr 0 0 wr (wr.alloc (.cells #[.int .u8 X] 5)) := Fr.alloc _ _
                have hl8 : Hid ((Q ++ (beB 8 M).take 0).length = N + 0) := by show _ = _; rw [List.length_append, HlN.out, List.length_take, beB_length]; rfl
                go_wp2_with (at_builtin; refine wpl_append (m := [x]) (hO8.kept (hX _) (.inr (Nat.zero_le _))) (RdB.one (x := x) (by have := hxv.out; omega)) (by rw [hl8.out, List.length_singleton]; omega) rfl rfl rfl rfl ?_; intro v9 w9 lo9 hi9 hO9 hF9 hz9; obtain ⟨a9, c9, rfl⟩ : ∃ a c, v9 = .slice a (N + (0 + 1)) c := (let ⟨x, y, e, _⟩ := hO9.rd.form; ⟨x, y, by rw [e, List.length_append, hl8.out]; rfl⟩))
                have s9 := hF9.size
                simp only [World.size_alloc] at s9 hz9
                go_roundw
                case rel =>
                  refine ⟨0 + 1, a9, c9, lo9, hi9, by omega, by go_num, rfl, ?_, by omega, by omega, (hB8.kept (hX _) (.inr (Nat.zero_le _))).kept hF9 (.inl (by omega)), (hF8.trans (hX _).any).on' hF9 hlo8⟩
                  rw [ht.out, ← List.append_assoc]
                  exact hO9
                case measure => simp [intOf]
              · obtain ⟨x, hx⟩ : ∃ x, x = UInt8.ofNat (M / 256 ^ 6 % 256) := ⟨_, rfl⟩
                have hxv : Hid ((M : Int) / 281474976710656 % 256 = (x.toNat : Int)) := by rw [hx]; exact shr_lit M 6 281474976710656 (by decide)
                have ht : Hid ((beB 8 M).take (1 + 1) = (beB 8 M).take 1 ++ [x]) := by rw [hx]; exact rfl
                have hx2 := x.toNat_lt
                clear hx
                have hX (X : Int) : Fr 0 0 wr (wr.alloc (.cells #[.int .u8 X] 5)) := Fr.alloc _ _
                have hl8 : Hid ((Q ++ (beB 8 M).take 1).length = N + 1) := by show _ = _; rw [List.length_append, HlN.out, List.length_take, beB_length]; rfl
                go_wp2_with (at_builtin; refine wpl_append (m := [x]) (hO8.kept (hX _) (.inr (Nat.zero_le _))) (RdB.one (x := x) (by have := hxv.out; omega)) (by rw [hl8.out, List.length_singleton]; omega) rfl rfl rfl rfl ?_; intro v9 w9 lo9 hi9 hO9 hF9 hz9; obtain ⟨a9, c9, rfl⟩ : ∃ a c, v9 = .slice a (N + (1 + 1)) c := (let ⟨x, y, e, _⟩ := hO9.rd.form; ⟨x, y, by rw [e, List.length_append, hl8.out]; rfl⟩))
                have s9 := hF9.size
                simp only [World.size_alloc] at s9 hz9
                go_roundw
                case rel =>
                  refine ⟨1 + 1, a9, c9, lo9, hi9, by omega, by go_num, rfl, ?_, by omega, by omega, (hB8.kept (hX _) (.inr (Nat.zero_le _))).kept hF9 (.inl (by omega)), (hF8.trans (hX _).any).on' hF9 hlo8⟩
                  rw [ht.out, ← List.append_assoc]
                  exact hO9
                case measure => simp [intOf]
              · obtain ⟨x, hx⟩ : ∃ x, x = UInt8.ofNat (M / 256 ^ 5 % 256) := ⟨_, rfl⟩
                have hxv : Hid ((M : Int) / 1099511627776 % 256 = (x.toNat : Int)) := by rw [hx]; exact shr_lit M 5 1099511627776 (by decide)
                have ht : Hid ((beB 8 M).take (2 + 1) = (beB 8 M).take 2 ++ [x]) := by rw [hx]; exact rfl
                have hx2 := x.toNat_lt
                clear hx
                have hX (X : Int) : Fr 0 0 wr (wr.alloc (.cells #[.int .u8 X] 5)) := Fr.alloc _ _
                have hl8 : Hid ((Q ++ (beB 8 M).take 2).length = N + 2) := by show _ = _; rw [List.length_append, HlN.out, List.length_take, beB_length]; rfl
                go_wp2_with (at_builtin; refine wpl_append (m := [x]) (hO8.kept (hX _) (.inr (Nat.zero_le _))) (RdB.one (x := x) (by have := hxv.out; omega)) (by rw [hl8.out, List.length_singleton]; omega) rfl rfl rfl rfl ?_; intro v9 w9 lo9 hi9 hO9 hF9 hz9; obtain ⟨a9, c9, rfl⟩ : ∃ a c, v9 = .slice a (N + (2 + 1)) c := (let ⟨x, y, e, _⟩ := hO9.rd.form; ⟨x, y, by rw [e, List.length_append, hl8.out]; rfl⟩))
                have s9 := hF9.size
                simp only [World.size_alloc] at s9 hz9
                go_roundw
                case rel =>
                  refine ⟨2 + 1, a9, c9, lo9, hi9, by omega, by go_num, rfl, ?_, by omega, by omega, (hB8.kept (hX _) (.inr (Nat.zero_le _))).kept hF9 (.inl (by omega)), (hF8.trans (hX _).any).on' hF9 hlo8⟩
                  rw [ht.out, ← List.append_assoc]
                  exact hO9
                case measure => simp [intOf]
              · obtain ⟨x, hx⟩ : ∃ x, x = UInt8.ofNat (M / 256 ^ 4 % 256) := ⟨_, rfl⟩
                have hxv : Hid ((M : Int) / 4294967296 % 256 = (x.toNat : Int)) := by rw [hx]; exact shr_lit M 4 4294967296 (by decide)
                have ht : Hid ((beB 8 M).take (3 + 1) = (beB 8 M).take 3 ++ [x]) := by rw [hx]; exact rfl
                have hx2 := x.toNat_lt
                clear hx
                have hX (X : Int) : Fr 0 0 wr (wr.alloc (.cells #[.int .u8 X] 5)) := Fr.alloc _ _
                have hl8 : Hid ((Q ++ (beB 8 M).take 3).length = N + 3) := by show _ = _; rw [List.length_append, HlN.out, List.length_take, beB_length]; rfl
                go_wp2_with (at_builtin; refine wpl_append (m := [x]) (hO8.kept (hX _) (.inr (Nat.zero_le _))) (RdB.one (x := x) (by have := hxv.out; omega)) (by rw [hl8.out, List.length_singleton]; omega) rfl rfl rfl rfl ?_; intro v9 w9 lo9 hi9 hO9 hF9 hz9; obtain ⟨a9, c9, rfl⟩ : ∃ a c, v9 = .slice a (N + (3 + 1)) c := (let ⟨x, y, e, _⟩ := hO9.rd.form; ⟨x, y, by rw [e, List.length_append, hl8.out]; rfl⟩))
                have s9 := hF9.size
                simp only [World.size_alloc] at s9 hz9
                go_roundw
                case rel =>
                  refine ⟨3 + 1, a9, c9, lo9, hi9, by omega, by go_num, rfl, ?_, by omega, by omega, (hB8.kept (hX _) (.inr (Nat.zero_le _))).kept hF9 (.inl (by omega)), (hF8.trans (hX _).any).on' hF9 hlo8⟩
                  rw [ht.out, ← List.append_assoc]
                  exact hO9
                case measure => simp [intOf]
              · obtain ⟨x, hx⟩ : ∃ x, x = UInt8.ofNat (M / 256 ^ 3 % 256) := ⟨_, rfl⟩
                have hxv : Hid ((M : Int) / 16777216 % 256 = (x.toNat : Int)) := by rw [hx]; exact shr_lit M 3 16777216 (by decide)
                have ht : Hid ((beB 8 M).take (4 + 1) = (beB 8 M).take 4 ++ [x]) := by rw [hx]; exact rfl
                have hx2 := x.toNat_lt
                clear hx
                have hX (X : Int) : Fr 0 0 wr (wr.alloc (.cells #[.int .u8 X] 5)) := Fr.alloc _ _
                have hl8 : Hid ((Q ++ (beB 8 M).take 4).length = N + 4) := by show _ = _; rw [List.length_append, HlN.out, List.length_take, beB_length]; rfl
                go_wp2_with (at_builtin; refine wpl_append (m := [x]) (hO8.kept (hX _) (.inr (Nat.zero_le _))) (RdB.one (x := x) (by have := hxv.out; omega)) (by rw [hl8.out, List.length_singleton]; omega) rfl rfl rfl rfl ?_; intro v9 w9 lo9 hi9 hO9 hF9 hz9; obtain ⟨a9, c9, rfl⟩ : ∃ a c, v9 = .slice a (N + (4 + 1)) c := (let ⟨x, y, e, _⟩ := hO9.rd.form; ⟨x, y, by rw [e, List.length_append, hl8.out]; rfl⟩))
                have s9 := hF9.size
                simp only [World.size_alloc] at s9 hz9
                go_roundw
                case rel =>
                  refine ⟨4 + 1, a9, c9, lo9, hi9, by omega, by go_num, rfl, ?_, by omega, by omega, (hB8.kept (hX _) (.inr (Nat.zero_le _))).kept hF9 (.inl (by omega)), (hF8.trans (hX _).any).on' hF9 hlo8⟩
                  rw [ht.out, ← List.append_assoc]
                  exact hO9
                case measure => simp [intOf]
              · obtain ⟨x, hx⟩ : ∃ x, x = UInt8.ofNat (M / 256 ^ 2 % 256) := ⟨_, rfl⟩
                have hxv : Hid ((M : Int) / 65536 % 256 = (x.toNat : Int)) := by rw [hx]; exact shr_lit M 2 65536 (by decide)
                have ht : Hid ((beB 8 M).take (5 + 1) = (beB 8 M).take 5 ++ [x]) := by rw [hx]; exact rfl
                have hx2 := x.toNat_lt
                clear hx
                have hX (X : Int) : Fr 0 0 wr (wr.alloc (.cells #[.int .u8 X] 5)) := Fr.alloc _ _
                have hl8 : Hid ((Q ++ (beB 8 M).take 5).length = N + 5) := by show _ = _; rw [List.length_append, HlN.out, List.length_take, beB_length]; rfl
                go_wp2_with (at_builtin; refine wpl_append (m := [x]) (hO8.kept (hX _) (.inr (Nat.zero_le _))) (RdB.one (x := x) (by have := hxv.out; omega)) (by rw [hl8.out, List.length_singleton]; omega) rfl rfl rfl rfl ?_; intro v9 w9 lo9 hi9 hO9 hF9 hz9; obtain ⟨a9, c9, rfl⟩ : ∃ a c, v9 = .slice a (N + (5 + 1)) c := (let ⟨x, y, e, _⟩ := hO9.rd.form; ⟨x, y, by rw [e, List.length_append, hl8.out]; rfl⟩))
                have s9 := hF9.size
                simp only [World.size_alloc] at s9 hz9
                go_roundw
                case rel =>
                  refine ⟨5 + 1, a9, c9, lo9, hi9, by omega, by go_num, rfl, ?_, by omega, by omega, (hB8.kept (hX _) (.inr (Nat.zero_le _))).kept hF9 (.inl (by omega)), (hF8.trans (hX _).any).on' hF9 hlo8⟩
                  rw [ht.out, ← List.append_assoc]
                  exact hO9
                case measure => simp [intOf]
              · obtain ⟨x, hx⟩ : ∃ x, x = UInt8.ofNat (M / 256 ^ 1 % 256) := ⟨_, rfl⟩
                have hxv : Hid ((M : Int) / 256 % 256 = (x.toNat : Int)) := by rw [hx]; exact shr_lit M 1 256 (by decide)
                have ht : Hid ((beB 8 M).take (6 + 1) = (beB 8 M).take 6 ++ [x]) := by rw [hx]; exact rfl
                have hx2 := x.toNat_lt
                clear hx
                have hX (X : Int) : Fr 0 0 wr (wr.alloc (.cells #[.int .u8 X] 5)) := Fr.alloc _ _
                have hl8 : Hid ((Q ++ (beB 8 M).take 6).length = N + 6) := by show _ = _; rw [List.length_append, HlN.out, List.length_take, beB_length]; rfl
                go_wp2_with (at_builtin; refine wpl_append (m := [x]) (hO8.kept (hX _) (.inr (Nat.zero_le _))) (RdB.one (x := x) (by have := hxv.out; omega)) (by rw [hl8.out, List.length_singleton]; omega) rfl rfl rfl rfl ?_; intro v9 w9 lo9 hi9 hO9 hF9 hz9; obtain ⟨a9, c9, rfl⟩ : ∃ a c, v9 = .slice a (N + (6 + 1)) c := (let ⟨x, y, e, _⟩ := hO9.rd.form; ⟨x, y, by rw [e, List.length_append, hl8.out]; rfl⟩))
                have s9 := hF9.size
                simp only [World.size_alloc] at s9 hz9
                go_roundw
                case rel =>
                  refine ⟨6 + 1, a9, c9, lo9, hi9, by omega, by go_num, rfl, ?_, by omega, by omega, (hB8.kept (hX _) (.inr (Nat.zero_le _))).kept hF9 (.inl (by omega)), (hF8.trans (hX _).any).on' hF9 hlo8⟩
                  rw [ht.out, ← List.append_assoc]
                  exact hO9
                case measure => simp [intOf]
              · obtain ⟨x, hx⟩ : ∃ x, x = UInt8.ofNat (M / 256 ^ 0 % 256) := ⟨_, rfl⟩
                have hxv : Hid ((M : Int) / 1 % 256 = (x.toNat : Int)) := by rw [hx]; exact shr_lit M 0 1 (by decide)
                have ht : Hid ((beB 8 M).take (7 + 1) = (beB 8 M).take 7 ++ [x]) := by rw [hx]; exact rfl
                have hx2 := x.toNat_lt
                clear hx
                have hX (X : Int) : Fr 0 0 wr (wr.alloc (.cells #[.int .u8 X] 5)) := Fr.alloc _ _
                have hl8 : Hid ((Q ++ (beB 8 M).take 7).length = N + 7) := by show _ = _; rw [List.length_append, HlN.out, List.length_take, beB_length]; rfl
                go_wp2_with (at_builtin; refine wpl_append (m := [x]) (hO8.kept (hX _) (.inr (Nat.zero_le _))) (RdB.one (x := x) (by have := hxv.out; omega)) (by rw [hl8.out, List.length_singleton]; omega) rfl rfl rfl rfl ?_; intro v9 w9 lo9 hi9 hO9 hF9 hz9; obtain ⟨a9, c9, rfl⟩ : ∃ a c, v9 = .slice a (N + (7 + 1)) c := (let ⟨x, y, e, _⟩ := hO9.rd.form; ⟨x, y, by rw [e, List.length_append, hl8.out]; rfl⟩))
                have s9 := hF9.size
                simp only [World.size_alloc] at s9 hz9
                go_roundw
                case rel =>
                  refine ⟨7 + 1, a9, c9, lo9, hi9, by omega, by go_num, rfl, ?_, by omega, by omega, (hB8.kept (hX _) (.inr (Nat.zero_le _))).kept hF9 (.inl (by omega)), (hF8.trans (hX _).any).on' hF9 hlo8⟩
                  rw [ht.out, ← List.append_assoc]
                  exact hO9
                case measure => simp [intOf]
            · obtain rfl : j = 8 := by omega
              have hPd : Q ++ (beB 8 M).take 8 = P.drop (64 * K) := by
                rw [HQ.out, HP.out, HM.out, padB, List.drop_append_of_le_length (by omega), List.take_of_length_le (by rw [beB_length]; omega)]
                simp
              have hPl : P.length = 64 * K + (N + 8) := by
                have h1 : (Q ++ (beB 8 M).take 8).length = N + 8 := by rw [List.length_append, HlN.out, List.length_take, beB_length]; rfl
                rw [hPd, List.length_drop] at h1
                omega
              have hPm : P.length % 64 = 0 := by rw [HP.out]; exact padB_mod l
              rw [hPd] at hO8
              obtain ⟨T, hT⟩ : ∃ T, T = P.length / 64 := ⟨_, rfl⟩
              have hPT : P.length = 64 * T := by omega
              have hN8 : N + 8 = 64 * T - 64 * K := by omega
              rw [hN8] at hO8 ⊢
              have hKT : K ≤ T := by omega
              have HPT := Lib.hid hPT
              have HT := Lib.hid hT
              have hTl : 64 * T ≤ 1073742824 := by omega
              clear hN8 hPT hT hPl hPm hPd
              go_wp2_with fail
              go_loopw [4] (fun r ws => ∃ k a c lo' hi', k ≤ T ∧ r = .slice a (64 * T - 64 * k) c ∧ OwB ws lo' hi' r (P.drop (64 * k)) ∧ w3.heap.size ≤ lo' ∧ hi' ≤ ws.heap.size ∧ Blk ws g3 ((stK P k).map uw) 150 ∧ Fr g3 (g3 + 1) w3 ws) (fun r _ => lenS r)
              case atStart => exact ⟨K, _, _, lo8, hi8, hKT, rfl, hO8, hlo8, hhi8, hB8, hF8⟩
              case round =>
                obtain ⟨k, a9, c9, lo9, hi9, hkT, rfl, hO9, hlo9, hhi9, hB9, hF9⟩ := hrel
                have z9 := hF9.size
                by_cases hlt : k < T
                · obtain ⟨n, hn⟩ : ∃ n, n = 64 * T - 64 * k := ⟨_, rfl⟩
                  rw [← hn] at hO9 ⊢
                  have hn64 : 64 ≤ n := by omega
                  have hml : ((P.drop (64 * k)).take 64).length = 64 := by rw [List.length_take, List.length_drop, HPT.out]; omega
                  have HN' := Lib.hid hn
                  clear hn
                  have hkr := hk3.kept hF9 (.inl (by omega))
                  go_wp2_with (first
                    | (refine wpl_slice_to (J := 64) hO9.rd hn64 rfl rfl rfl rfl ?_; intro ad' cap' hr)
                    | (go_at_call 100; refine (c_block (stK P k) hB9 (stK_length _ _) hr hml (.inr (by omega)) hkr (by omega)).mono ?_; rintro e w10 ⟨rfl, hB10, hF10⟩; have hO10 := hO9.kept hF10 (.inr (by omega)))
                    | (refine wpl_own_from (I := 64) hO10 hn64 rfl rfl rfl rfl ?_; intro ad7 cap7 hO11))
                  refine ⟨⟨_, _, _, _, _, _, _, _, _, ?rel, rfl⟩, ?measure⟩
                  case rel =>
                    have z10 := hF10.size
                    refine ⟨k + 1, ad7, cap7, lo9, hi9, by omega, ?_, ?_, hlo9, by omega, ?_, hF9.trans hF10⟩
                    · rw [HN'.out]; congr 1
                    · rw [show 64 * (k + 1) = 64 * k + 64 by omega, ← List.drop_drop]; exact hO11
                    · rw [stK]; exact hB10
                  case measure => show n - 64 < n; omega
                · obtain rfl : k = T := by omega
                  rw [Nat.sub_self] at hO9 ⊢
                  obtain ⟨S, hS⟩ : ∃ S, S = stK P k := ⟨_, rfl⟩
                  have hSl : S.length = 8 := by rw [hS, stK_length]
                  rw [← hS] at hB9
                  obtain ⟨D, hD⟩ : ∃ D, D = shaB l := ⟨_, rfl⟩
                  have hDl : D.length = 32 := by rw [hD, shaB_length]
                  have hDg : Hid (∀ i (h : i < 32), D[i]'(by omega) = digB8 S i) := by
                    show ∀ i (h : i < 32), _
                    intro i h
                    simp only [hD, shaB, List.getElem_map, List.getElem_range]
                    rw [← HP.out, ← HT.out, hS]
                  have HD := Lib.hid hD
                  clear hS hD hO9
                  have hB29 := hB13.kept hF9 (.inl (by omega))
                  obtain ⟨wT, hwT⟩ : ∃ x, x = wr := ⟨_, rfl⟩
                  have hF9' : Fr g3 (g3 + 1) w3 wT := by rw [hwT]; exact hF9
                  have hB9' : Blk wT g3 (S.map uw) 150 := by rw [hwT]; exact hB9
                  have hB29' : Blk wT g2 ((List.replicate 32 (0 : UInt8)).map ub) 30 := by rw [hwT]; exact hB29
                  rw [← hwT]
                  clear hwT hB9 hB29
                  go_wp2_with fail
                  go_loopw [64] (fun i ws => ∃ t : Nat, t ≤ 32 ∧ i = .int .i64 t ∧ Blk ws g2 ((fillB D t 32).map ub) 30 ∧ Fr g2 (g2 + 1) wT ws) (fun i _ => 32 - (intOf i).toNat)
                  case atStart => exact ⟨0, Nat.zero_le _, rfl, by rw [fillB_zero]; exact hB29', Fr.refl _ _ _⟩
                  case round =>
                    obtain ⟨t, ht, rfl, hBt, hFt⟩ := hrel
                    have hB3t := hB9'.kept hFt (.inr (by omega))
                    by_cases hlt : t < 32
                    · obtain ⟨x, hx⟩ : ∃ x, x = D[t]'(by omega) := ⟨_, rfl⟩
                      obtain ⟨y, hy⟩ : ∃ y, y = S.getD (t / 4) 0 := ⟨_, rfl⟩
                      have hyc : wr.cell? ⟨g3, t / 4, none⟩ = some (.int .u32 y) := by
                        rw [hB3t.cell, List.getElem?_map, List.getElem?_eq_getElem (show t / 4 < S.length by omega), hy, List.getD_eq_getElem?_getD, List.getElem?_eq_getElem (show t / 4 < S.length by omega)]
                        rfl
                      have hxv : Hid (x = UInt8.ofNat (y / 2 ^ (24 - 8 * (t % 4)) % 256).toNat) := by
                        show _ = _
                        rw [hx, hDg.out t hlt, hy]
                        rfl
                      have HX := Lib.hid hx
                      have hxn : Hid (y / 2 ^ (24 - 8 * (t % 4)) % 256 = (x.toNat : Int)) := by
                        show _ = _
                        rw [hxv.out, UInt8.toNat_ofNat']
                        generalize y / 2 ^ (24 - 8 * (t % 4)) = q
                        omega
                      clear hx hy
                      go_wp2_with (refine wpl_store_cell (off := t) (v := ub x) hBt (by rw [List.length_map, fillB_length D t 32 (by omega) ht]; omega) siz5' rfl rfl rfl rfl rfl (congrArg (Value.int .u8) hxn.out) ?_; intro w11 hB11 hF11)
                      refine ⟨⟨_, _, _, _, _, _, _, _, _, _, _, _, _, _, _, _, _, ?rel, rfl⟩, ?measure⟩
                      case rel =>
                        refine ⟨t + 1, by omega, by go_num, ?_, hFt.trans hF11⟩
                        rw [← fillB_set D t 32 (by omega) hlt, List.map_set, ← HX.out]
                        exact hB11
                      case measure => simp [intOf]; omega
                    · obtain rfl : t = 32 := by omega
                      have hfin : fillB D 32 32 = shaB l := by rw [fillB_all, List.take_of_length_le (by omega), HD.out]
                      rw [hfin] at hBt
                      have hsl : ((shaB l).map ub).length = 32 := by rw [List.length_map, shaB_length]
                      go_wp2_with (first
                        | (refine wpl_load_blk hBt row30 (by rw [siz30, hsl]) rfl rfl rfl ?_)
                        | (refine wpl_store_blk hBt rfl (by rw [siz30, hsl]) (ub_oneCell _) rfl rfl rfl rfl ?_; intro w12 hB12 hF12))
                      refine bodyPost_ret (v := .agg (bs (shaB l))) (res_blk rfl rfl hB12 row30 (by rw [siz30, hsl])) rfl ⟨rfl, ?_⟩
                      have zz := hF9'.size
                      exact (((hW3.on hF9' (by omega)).on hFt (by omega))).on hF12 (by omega)
        · have hN56 : ¬ (N : Int) % 64 = 56 := by have h1 : ¬ N % 64 = 56 := fun h => hzz (hNm.out.1 h); omega
          have hlN : (l.drop (64 * K) ++ [128] ++ List.replicate z (0 : UInt8)).length = N := by rw [List.length_append, List.length_append, hRl, List.length_replicate, HN.out]; rfl
          have hX : Fr 0 0 wr (wr.alloc (.cells #[.int .u8 0] 5)) := Fr.alloc _ _
          have hOX := hO6.kept hX (.inr (Nat.zero_le _))
          have h00 : RdB (wr.alloc (.cells #[.int .u8 0] 5)) wr.heap.size (wr.heap.size + 1) (.slice (some ⟨wr.heap.size, 0, none⟩) 1 1) [0] := (OwB.of_blk (l := [0]) (n := 1) (heap_alloc_new wr _) rfl (Nat.le_refl _) (by omega) (by omega)).rd
          have HlN := Lib.hid hlN
          clear hlN
          go_wp2_with (at_builtin; refine wpl_append hOX h00 (by rw [HlN.out, List.length_singleton]; omega) rfl rfl rfl rfl ?_; intro v7 w7 lo7 hi7 hO7 hF7 hz7; obtain ⟨a7', c7', rfl⟩ : ∃ a c, v7 = .slice a (N + 1) c := (let ⟨x, y, e, _⟩ := hO7.rd.form; ⟨x, y, by rw [e, List.length_append, HlN.out]; rfl⟩))
          have s7 := hF7.size
          simp only [World.size_alloc] at s7 hz7
          go_roundw
          case rel =>
            refine ⟨z + 1, a7', c7', lo7, hi7, by omega, by rw [HN.out]; rfl, ?_, by omega, by omega, (hB6.kept hX (.inr (Nat.zero_le _))).kept hF7 (.inl (by omega)), (hF6.trans hX.any).on' hF7 hlo6⟩
            rw [List.replicate_succ', ← List.append_assoc]
            exact hO7
          case measure =>
            show R + 1 + zerosOf l.length - (N + 1) < R + 1 + zerosOf l.length - N
            have := HN.out
            omega
end Go.Proofs.YtgndidjfjdaagaaDoor
