/-
  SHA-256: contracts of turned, turn, block ...
-/
import Derived.Test.YtgndidjfjdaagaaDoorTag
import Derived.StillTailTactics
import Derived.Deep.Cut
set_option linter.unusedSimpArgs false
set_option linter.unusedVariables false
namespace Go.Proofs.YtgndidjfjdaagaaDoor
open Go.RowKit

/-- A word as a value. -/
def uw (x : Int) : Value := .int .u32 x

/-- A word turned down. -/
def rot (x : Int) (n : Nat) : Int := bits .or .u32 (IntKind.u32.wrap (x * 2 ^ (32 - n))) (x / 2 ^ n)

def turns : List Nat := [2, 6, 7, 11, 13, 17, 18, 19, 22, 25]

set_option maxHeartbeats 1000000 in
theorem c_turned {w : World} (x : Int) (n : Nat) (hn : n ∈ turns) : Calls Tryd.prog 144 #[.int .u32 x, .int .i64 n] w fun e w' => e = .returned (.int .u32 (rot x n)) ∧ w = w' := by
  have e2 : bits BinOp.and IntKind.u64 (IntKind.u64.wrap (-2)) 31 = 30 := by decide +kernel
  have e6 : bits BinOp.and IntKind.u64 (IntKind.u64.wrap (-6)) 31 = 26 := by decide +kernel
  have e7 : bits BinOp.and IntKind.u64 (IntKind.u64.wrap (-7)) 31 = 25 := by decide +kernel
  have e11 : bits BinOp.and IntKind.u64 (IntKind.u64.wrap (-11)) 31 = 21 := by decide +kernel
  have e13 : bits BinOp.and IntKind.u64 (IntKind.u64.wrap (-13)) 31 = 19 := by decide +kernel
  have e17 : bits BinOp.and IntKind.u64 (IntKind.u64.wrap (-17)) 31 = 15 := by decide +kernel
  have e18 : bits BinOp.and IntKind.u64 (IntKind.u64.wrap (-18)) 31 = 14 := by decide +kernel
  have e19 : bits BinOp.and IntKind.u64 (IntKind.u64.wrap (-19)) 31 = 13 := by decide +kernel
  have e22 : bits BinOp.and IntKind.u64 (IntKind.u64.wrap (-22)) 31 = 10 := by decide +kernel
  have e25 : bits BinOp.and IntKind.u64 (IntKind.u64.wrap (-25)) 31 = 7 := by decide +kernel
  simp only [turns, List.mem_cons, List.not_mem_nil, or_false] at hn
  rcases hn with rfl | rfl | rfl | rfl | rfl | rfl | rfl | rfl | rfl | rfl
  all_goals
    go_enter Tryd.func144, Tryd.ntmps144
    go_wp2
    go_ret
    exact ⟨rfl, rfl⟩

theorem s_turned {w : World} (x : Int) (n : Nat) (hn : n ∈ turns) : Calls Tryd.prog 144 #[.int .u32 x, .int .i64 n] w fun e w' => e = .returned (.int .u32 (rot x n)) ∧ w' = w :=
  (c_turned x n hn).mono fun _ _ ⟨a, b⟩ => ⟨a, b.symm⟩

theorem or_comm32 (a b : Int) : bits .or .u32 a b = bits .or .u32 b a := by
  unfold bits
  simp [Nat.or_comm]

set_option maxHeartbeats 1000000 in
theorem c_turn {w : World} (x : Int) (n : Nat) (hn : n ∈ turns) : Calls Tryd.prog 147 #[.int .u32 x, .int .u32 n] w fun e w' => e = .returned (.int .u32 (rot x n)) ∧ w = w' := by
  simp only [turns, List.mem_cons, List.not_mem_nil, or_false] at hn
  rcases hn with rfl | rfl | rfl | rfl | rfl | rfl | rfl | rfl | rfl | rfl
  all_goals
    go_enter Tryd.func147, Tryd.ntmps147
    go_wp2
    go_ret
    exact ⟨ret_int (or_comm32 _ _), rfl⟩

/-- Words under way: those that are there, then zeros, n in all. -/
def padW (xs : List Int) (n : Nat) : List Int := xs ++ List.replicate (n - xs.length) 0
theorem padW_length (xs : List Int) (n : Nat) (h : xs.length ≤ n) : (padW xs n).length = n := by simp [padW]; omega
theorem padW_set (xs : List Int) (n : Nat) (x : Int) (h : xs.length < n) : (padW xs n).set xs.length x = padW (xs ++ [x]) n := by
  unfold padW
  obtain ⟨m, hm⟩ : ∃ m, n - xs.length = m + 1 := ⟨n - xs.length - 1, by omega⟩
  rw [List.set_append_right _ _ (Nat.le_refl _), hm, List.length_append, List.length_singleton, show n - (xs.length + 1) = m by omega]
  simp [List.replicate_succ]

/-- A word of four bytes. -/
def word4 (a b c d : UInt8) : Int :=
  bits .or .u32 (bits .or .u32 (bits .or .u32 (IntKind.u32.wrap (IntKind.u32.wrap (a.toNat : Int) * 16777216)) (IntKind.u32.wrap (IntKind.u32.wrap (b.toNat : Int) * 65536)))
    (IntKind.u32.wrap (IntKind.u32.wrap (c.toNat : Int) * 256))) (IntKind.u32.wrap (d.toNat : Int))

/-- A further word, of four that are there. -/
def step4 (x16 x15 x7 x2 : Int) : Int :=
  IntKind.u32.wrap (IntKind.u32.wrap (IntKind.u32.wrap (x16 + bits .xor .u32 (bits .xor .u32 (rot x15 7) (rot x15 18)) (x15 / 8)) + x7) + bits .xor .u32 (bits .xor .u32 (rot x2 17) (rot x2 19)) (x2 / 1024))
def stepW (W : List Int) (t : Nat) : Int := step4 (W.getD (t - 16) 0) (W.getD (t - 15) 0) (W.getD (t - 7) 0) (W.getD (t - 2) 0)
def schW (l : List UInt8) : Nat → List Int
  | 0 => []
  | t + 1 => schW l t ++ [if t < 16 then word4 (l.getD (4 * t) 0) (l.getD (4 * t + 1) 0) (l.getD (4 * t + 2) 0) (l.getD (4 * t + 3) 0) else stepW (schW l t) t]
theorem schW_length (l : List UInt8) (t : Nat) : (schW l t).length = t := by
  induction t with
  | zero => rfl
  | succ t ih => simp [schW, ih]

theorem zer175 : (Tryd.prog.info? 175).map (·.zero) = some (some (.agg ((padW [] 64).map uw).toArray)) := by kernel_rfl
theorem siz115 : (Tryd.prog.info? 115).map (·.size) = some 1 := by kernel_rfl

/-- A round. -/
def rnd1 (e f g h k w : Int) : Int :=
  ((h + bits .xor .u32 (bits .xor .u32 (rot e 6) (rot e 11)) (rot e 25) + bits .xor .u32 (bits .and .u32 e f) (bits .and .u32 (bits .xor .u32 (if IntKind.u32.signed = true then -1 else IntKind.u32.max) e) g) + k) % 4294967296 + w) % 4294967296
def rnd2 (a b c : Int) : Int :=
  (bits .xor .u32 (bits .xor .u32 (rot a 2) (rot a 13)) (rot a 22) + bits .xor .u32 (bits .xor .u32 (bits .and .u32 a b) (bits .and .u32 a c)) (bits .and .u32 b c)) % 4294967296
def rnd (v : List Int) (k w : Int) : List Int :=
  match v with
  | [a, b, c, d, e, f, g, h] => [(rnd1 e f g h k w + rnd2 a b c) % 4294967296, a, b, c, (d + rnd1 e f g h k w) % 4294967296, e, f, g]
  | _ => v
theorem rnd_length (v : List Int) (k w : Int) (h : v.length = 8) : (rnd v k w).length = 8 := by
  match v, h with
  | [a, b, c, d, e, f, g, h], _ => rfl

/-- The rounds' words. -/
def KL : List Int := [
  0x428a2f98, 0x71374491, 0xb5c0fbcf, 0xe9b5dba5, 0x3956c25b, 0x59f111f1, 0x923f82a4, 0xab1c5ed5,
  0xd807aa98, 0x12835b01, 0x243185be, 0x550c7dc3, 0x72be5d74, 0x80deb1fe, 0x9bdc06a7, 0xc19bf174,
  0xe49b69c1, 0xefbe4786, 0x0fc19dc6, 0x240ca1cc, 0x2de92c6f, 0x4a7484aa, 0x5cb0a9dc, 0x76f988da,
  0x983e5152, 0xa831c66d, 0xb00327c8, 0xbf597fc7, 0xc6e00bf3, 0xd5a79147, 0x06ca6351, 0x14292967,
  0x27b70a85, 0x2e1b2138, 0x4d2c6dfc, 0x53380d13, 0x650a7354, 0x766a0abb, 0x81c2c92e, 0x92722c85,
  0xa2bfe8a1, 0xa81a664b, 0xc24b8b70, 0xc76c51a3, 0xd192e819, 0xd6990624, 0xf40e3585, 0x106aa070,
  0x19a4c116, 0x1e376c08, 0x2748774c, 0x34b0bcb5, 0x391c0cb3, 0x4ed8aa4a, 0x5b9cca4f, 0x682e6ff3,
  0x748f82ee, 0x78a5636f, 0x84c87814, 0x8cc70208, 0x90befffa, 0xa4506ceb, 0xbef9a3f7, 0xc67178f2]

/-- The state behind t rounds. -/
def rndsW (H : List Int) (l : List UInt8) : Nat → List Int
  | 0 => H
  | t + 1 => rnd (rndsW H l t) (KL.getD t 0) ((schW l 64).getD t 0)
theorem rndsW_length (H : List Int) (l : List UInt8) (hH : H.length = 8) (t : Nat) : (rndsW H l t).length = 8 := by
  induction t with
  | zero => exact hH
  | succ t ih => exact rnd_length _ _ _ ih

/-- Of two lists: the first i of the one, the others of the other. -/
def mixL (F H : List Int) (i : Nat) : List Int := F.take i ++ H.drop i
theorem mixL_length (F H : List Int) (i : Nat) (hl : F.length = H.length) (hi : i ≤ F.length) : (mixL F H i).length = H.length := by simp [mixL]; omega
theorem mixL_set (F H : List Int) (i : Nat) (hl : F.length = H.length) (hi : i < F.length) : (mixL F H i).set i (F.getD i 0) = mixL F H (i + 1) := by
  unfold mixL
  have h1 : (F.take i).length = i := by simp; omega
  rw [List.set_append_right _ _ (by omega), h1, Nat.sub_self, List.drop_eq_getElem_cons (show i < H.length by omega), List.set_cons_zero, show F.take (i + 1) = F.take i ++ [F[i]] by rw [List.take_add_one, List.getElem?_eq_getElem hi]; rfl, List.getD_eq_getElem?_getD, List.getElem?_eq_getElem hi, List.append_assoc]
  rfl
theorem mixL_get (F H : List Int) (i : Nat) (hl : F.length = H.length) (hi : i < F.length) : (mixL F H i)[i]? = some (H.getD i 0) := by
  unfold mixL
  have h1 : (F.take i).length = i := by simp; omega
  rw [List.getElem?_append_right (by omega), h1, Nat.sub_self, List.getElem?_drop, Nat.add_zero, List.getElem?_eq_getElem (show i < H.length by omega), List.getD_eq_getElem?_getD, List.getElem?_eq_getElem (show i < H.length by omega)]
  rfl

/-- What a block makes of the state. -/
def blkW (H : List Int) (l : List UInt8) : List Int := (List.range 8).map fun i => (H.getD i 0 + (rndsW H l 64).getD i 0) % 4294967296
theorem blkW_length (H : List Int) (l : List UInt8) : (blkW H l).length = 8 := by simp [blkW]
theorem blkW_get (H : List Int) (l : List UInt8) (i : Nat) (hi : i < 8) : (blkW H l).getD i 0 = (H.getD i 0 + (rndsW H l 64).getD i 0) % 4294967296 := by
  rw [blkW, List.getD_eq_getElem?_getD, List.getElem?_map, List.getElem?_range hi]
  rfl

/-- Where the rounds' words lie. -/
def KT (w : World) : Prop := ∀ j, j < 64 → w.cell? ⟨0, j, none⟩ = some (.int .u32 (KL.getD j 0))
theorem KT.kept {w w' : World} {lo hi : Nat} (h : KT w) (hf : Fr lo hi w w') (ho : 0 < lo ∨ hi ≤ 0) : KT w' := fun j hj => hf.cell (h j hj) ho
theorem KT.lt {w : World} (h : KT w) : 0 < w.heap.size := World.block_lt_of_cell? w _ (h 0 (by omega))

theorem built150 (a b c d e f g h : Int) : Tryd.prog.built 150 [(0, .int .u32 a), (1, .int .u32 b), (2, .int .u32 c), (3, .int .u32 d), (4, .int .u32 e), (5, .int .u32 f), (6, .int .u32 g), (7, .int .u32 h)] = some ([.int .u32 a, .int .u32 b, .int .u32 c, .int .u32 d, .int .u32 e, .int .u32 f, .int .u32 g, .int .u32 h] : List Value).toArray := by kernel_rfl
theorem row150 : (Tryd.prog.underlying 150).map (·.isRow) = some true := by kernel_rfl
theorem siz150 : (Tryd.prog.info? 150).map (·.size) = some 8 := by kernel_rfl
theorem zer150 : (Tryd.prog.info? 150).map (·.zero) = some (some (.agg ((padW [] 8).map uw).toArray)) := by kernel_rfl

set_option maxRecDepth 100000 in
set_option maxHeartbeats 4000000 in
theorem c_block {w : World} {gs lo hi : Nat} {v : Value} {l : List UInt8} (H : List Int) (hH : Blk w gs (H.map uw) 150) (hHl : H.length = 8) (h : RdB w lo hi v l) (hl : l.length = 64) (hg : hi ≤ gs ∨ gs < lo) (hk : KT w) (hgs : 0 < gs) :
    Calls Tryd.prog 100 #[.pointer (some ⟨gs, 0, none⟩), v] w fun e w' => e = .returned (.tuple #[]) ∧ Blk w' gs ((blkW H l).map uw) 150 ∧ Fr gs (gs + 1) w w' := by
  obtain ⟨b, off, cap, rfl, hc1, hc2, hb1, hb2⟩ := h.spot (by omega)
  have h64 := Lib.hid hl
  rw [hl] at hc1 h ⊢
  clear hl
  go_enter Tryd.func100, Tryd.ntmps100
  go_wp2_with (refine wpl_alloc zer175 rfl rfl rfl ?_; intro g4 w1 hB4 hF1 hg4 hs4)
  go_loopw [19] (fun i wr => ∃ t : Nat, t ≤ 64 ∧ i = .int .i64 t ∧ Blk wr g4 ((padW (schW l t) 64).map uw) 175 ∧ Fr g4 (g4 + 1) w1 wr) (fun i _ => 64 - (intOf i).toNat)
  case atStart => exact ⟨0, Nat.zero_le _, rfl, hB4, Fr.refl _ _ _⟩
  case round =>
    obtain ⟨t, ht, rfl, hB, hF⟩ := hrel
    by_cases hlt : t < 64
    · have hR := (h.fit.kept hF1 (.inr (Nat.zero_le _))).kept hF (.inl hg4)
      by_cases h16 : t < 16
      · obtain ⟨x0, hx0⟩ : ∃ x, x = l.getD (4 * t) 0 := ⟨_, rfl⟩
        obtain ⟨x1, hx1⟩ : ∃ x, x = l.getD (4 * t + 1) 0 := ⟨_, rfl⟩
        obtain ⟨x2, hx2⟩ : ∃ x, x = l.getD (4 * t + 2) 0 := ⟨_, rfl⟩
        obtain ⟨x3, hx3⟩ : ∃ x, x = l.getD (4 * t + 3) 0 := ⟨_, rfl⟩
        have hce : ∀ j, j < 64 → wr.cell? ⟨b, off + j, none⟩ = some (.int .u8 ((l.getD j 0).toNat : Int)) := fun j hj => by
          rw [hR.cel j (by rw [h64.out]; exact hj), List.getD_eq_getElem?_getD, List.getElem?_eq_getElem (by rw [h64.out]; exact hj)]
          rfl
        have k0 := hce (4 * t) (by omega)
        have k1 := hce (4 * t + 1) (by omega)
        have k2 := hce (4 * t + 2) (by omega)
        have k3 := hce (4 * t + 3) (by omega)
        rw [← hx0] at k0
        rw [← hx1] at k1
        rw [← hx2] at k2
        rw [← hx3] at k3
        clear hce
        have HX0 := Lib.hid hx0
        have HX1 := Lib.hid hx1
        have HX2 := Lib.hid hx2
        have HX3 := Lib.hid hx3
        clear hx0 hx1 hx2 hx3
        have K0 := Lib.hid k0
        have K1 := Lib.hid k1
        have K2 := Lib.hid k2
        have K3 := Lib.hid k3
        have e0 : IntKind.i64.wrap (4 * (t : Int)) = 4 * (t : Int) := IntWalk.i64_in _ (by omega)
        have e1 : IntKind.i64.wrap (4 * (t : Int) + 1) = 4 * (t : Int) + 1 := IntWalk.i64_in _ (by omega)
        have e2 : IntKind.i64.wrap (4 * (t : Int) + 2) = 4 * (t : Int) + 2 := IntWalk.i64_in _ (by omega)
        have e3 : IntKind.i64.wrap (4 * (t : Int) + 3) = 4 * (t : Int) + 3 := IntWalk.i64_in _ (by omega)
        have n0 : (4 * (t : Int)).toNat = 4 * t := by omega
        have n1 : (4 * (t : Int) + 1).toNat = 4 * t + 1 := by omega
        have n2 : (4 * (t : Int) + 2).toNat = 4 * t + 2 := by omega
        have n3 : (4 * (t : Int) + 3).toNat = 4 * t + 3 := by omega
        have p0 : 4 * (t : Int) < 64 := by omega
        have p1 : 4 * (t : Int) + 1 < 64 := by omega
        have p2 : 4 * (t : Int) + 2 < 64 := by omega
        have p3 : 4 * (t : Int) + 3 < 64 := by omega
        have q0 : 0 ≤ 4 * (t : Int) := by omega
        have q1 : 0 ≤ 4 * (t : Int) + 1 := by omega
        have q2 : 0 ≤ 4 * (t : Int) + 2 := by omega
        have q3 : 0 ≤ 4 * (t : Int) + 3 := by omega
        go_wp2_with fail
        go_still_tail 35, (by kernel_rfl)
        refine wpl_store_cell (g := g4) (off := t) (v := uw (word4 x0 x1 x2 x3)) (hB.kept (Fr.drew _) (.inr (Nat.zero_le _))) (by rw [List.length_map, padW_length _ _ (by rw [schW_length]; omega)]; omega) siz115 rfl rfl rfl rfl rfl rfl ?_
        intro w2 hB2 hF2
        clear e0 e1 e2 e3 n0 n1 n2 n3 p0 p1 p2 p3 q0 q1 q2 q3 k0 k1 k2 k3
        go_wp2_with fail
        go_roundw
        case rel =>
          refine ⟨t + 1, by omega, by go_num, ?_, (hF.trans ((Fr.drew _).mono (.inr (Nat.le_refl _)) (.inr (Nat.le_refl _)))).trans hF2⟩
          rw [schW, if_pos h16, ← HX0.out, ← HX1.out, ← HX2.out, ← HX3.out, ← padW_set _ _ _ (by rw [schW_length]; omega), schW_length, List.map_set]
          exact hB2
        case measure => simp [intOf]; omega
      · have hce : ∀ j, j < t → wr.cell? ⟨g4, j, none⟩ = some (.int .u32 ((schW l t).getD j 0)) := fun j hj => by
          rw [hB.cell, List.getElem?_map, padW, List.getElem?_append_left (by rw [schW_length]; exact hj), List.getD_eq_getElem?_getD, List.getElem?_eq_getElem (by rw [schW_length]; exact hj)]
          rfl
        obtain ⟨W, hW⟩ : ∃ W, W = schW l t := ⟨_, rfl⟩
        have HW := Lib.hid hW
        rw [← hW] at hce
        obtain ⟨x15, hx15⟩ : ∃ x, x = W.getD (t - 15) 0 := ⟨_, rfl⟩
        obtain ⟨x2, hx2⟩ : ∃ x, x = W.getD (t - 2) 0 := ⟨_, rfl⟩
        obtain ⟨x16, hx16⟩ : ∃ x, x = W.getD (t - 16) 0 := ⟨_, rfl⟩
        obtain ⟨x7, hx7⟩ : ∃ x, x = W.getD (t - 7) 0 := ⟨_, rfl⟩
        have k15 := hce (t - 15) (by omega)
        have k2 := hce (t - 2) (by omega)
        have k16 := hce (t - 16) (by omega)
        have k7 := hce (t - 7) (by omega)
        rw [← hx15] at k15
        rw [← hx2] at k2
        rw [← hx16] at k16
        rw [← hx7] at k7
        have H15 := Lib.hid hx15
        have H2 := Lib.hid hx2
        have H16 := Lib.hid hx16
        have H7 := Lib.hid hx7
        clear hce hW hx15 hx2 hx16 hx7
        have e15 : IntKind.i64.wrap ((t : Int) - 15) = (t : Int) - 15 := IntWalk.i64_in _ (by omega)
        have e2 : IntKind.i64.wrap ((t : Int) - 2) = (t : Int) - 2 := IntWalk.i64_in _ (by omega)
        have e16 : IntKind.i64.wrap ((t : Int) - 16) = (t : Int) - 16 := IntWalk.i64_in _ (by omega)
        have e7 : IntKind.i64.wrap ((t : Int) - 7) = (t : Int) - 7 := IntWalk.i64_in _ (by omega)
        have n15 : ((t : Int) - 15).toNat = t - 15 := by omega
        have n2 : ((t : Int) - 2).toNat = t - 2 := by omega
        have n16 : ((t : Int) - 16).toNat = t - 16 := by omega
        have n7 : ((t : Int) - 7).toNat = t - 7 := by omega
        have p15 : (t : Int) - 15 < 64 := by omega
        have p2 : (t : Int) - 2 < 64 := by omega
        have p16 : (t : Int) - 16 < 64 := by omega
        have p7 : (t : Int) - 7 < 64 := by omega
        have r2 : (2 : Int) ≤ (t : Int) := by omega
        have r7 : (7 : Int) ≤ (t : Int) := by omega
        have r15 : (15 : Int) ≤ (t : Int) := by omega
        have r16 : (16 : Int) ≤ (t : Int) := by omega
        have q15 : 0 ≤ (t : Int) - 15 := by omega
        have q2 : 0 ≤ (t : Int) - 2 := by omega
        have q16 : 0 ≤ (t : Int) - 16 := by omega
        have q7 : 0 ≤ (t : Int) - 7 := by omega
        go_wp2_with fail
        go_quiet (fail)
        obtain ⟨w2, hw2⟩ : ∃ w2, w2 = wr.drewN nq := ⟨_, rfl⟩
        rw [← hw2]
        have hF2 : Fr 0 0 wr w2 := by rw [hw2]; exact Fr.drewN _ _
        have k16' := hF2.cell k16 (.inr (Nat.zero_le _))
        have k7' := hF2.cell k7 (.inr (Nat.zero_le _))
        have hB' := hB.kept hF2 (.inr (Nat.zero_le _))
        clear hw2
        go_wp2_with fail
        go_still_tail 29, (by kernel_rfl)
        still_call (s_turned _ 7 (by decide))
        repeat still_step
        still_call (s_turned _ 18 (by decide))
        repeat still_step
        still_call (s_turned _ 17 (by decide))
        repeat still_step
        still_call (s_turned _ 19 (by decide))
        repeat still_step
        try refine wpStill_nil ?_
        refine wpl_store_cell (g := g4) (off := t) (v := uw (step4 x16 x15 x7 x2)) (hB'.kept (Fr.drew _) (.inr (Nat.zero_le _))) (by rw [List.length_map, padW_length _ _ (by rw [schW_length]; omega)]; omega) siz115 rfl rfl rfl rfl rfl rfl ?_
        intro w3 hB3 hF3
        clear e15 e2 e16 e7 n15 n2 n16 n7 p15 p2 p16 p7 q15 q2 q16 q7 r15 r2 r16 r7 k15 k2 k16 k7 k16' k7'
        go_wp2_with fail
        go_roundw
        case rel =>
          refine ⟨t + 1, by omega, by go_num, ?_, ((hF.trans (hF2.mono (.inr (Nat.le_refl _)) (.inr (Nat.le_refl _)))).trans ((Fr.drew _).mono (.inr (Nat.le_refl _)) (.inr (Nat.le_refl _)))).trans hF3⟩
          rw [schW, if_neg h16, stepW, ← HW.out, ← H15.out, ← H2.out, ← H16.out, ← H7.out, HW.out, ← padW_set _ _ _ (by rw [schW_length]; omega), schW_length, List.map_set]
          exact hB3
        case measure => simp [intOf]; omega
    · obtain rfl : t = 64 := by omega
      obtain ⟨W, hW⟩ : ∃ W, W = schW l 64 := ⟨_, rfl⟩
      have hWl : W.length = 64 := by rw [hW, schW_length]
      have hB' : Blk wr g4 (W.map uw) 175 := by
        have e : padW (schW l 64) 64 = W := by rw [padW, schW_length, hW]; simp
        rw [← e]
        exact hB
      have HW := Lib.hid hW
      have zw1 := hF1.size
      have zgs := hH.lt
      have hH1 := (hH.kept hF1 (.inr (Nat.zero_le _))).kept hF (.inl (by omega))
      have hk1 := (hk.kept hF1 (.inr (Nat.zero_le _))).kept hF (.inl (by omega))
      have hc0 : wr.cell? ⟨gs, 0, none⟩ = some (uw (H.getD 0 0)) := by
        rw [hH1.cell, List.getElem?_map, List.getElem?_eq_getElem (by omega), List.getD_eq_getElem?_getD, List.getElem?_eq_getElem (by omega)]
        rfl
      unfold uw at hc0
      clear hB hW
      go_wp2_with (first
        | (refine wpl_load_blk hH1 row150 (by rw [siz150, List.length_map, hHl]) rfl rfl rfl ?_)
        | (refine wpl_alloc zer150 rfl rfl rfl ?_; intro g8 w2 hB2 hF2 hg8 hs8)
        | (refine wpl_store_blk (L' := H.map uw) hB2 (by simp [hHl, padW]) (by rw [siz150, List.length_map, hHl]) (by intro v hv; obtain ⟨x, _, rfl⟩ := List.mem_map.1 hv; rfl) rfl rfl rfl rfl ?_; intro w3 hB3 hF3; clear hB2))
      have hB4' := (hB'.kept hF2 (.inr (Nat.zero_le _))).kept hF3 (.inl (by have := hB'.lt; omega))
      have zwr := hF.size
      have hk3 := (hk1.kept hF2 (.inr (Nat.zero_le _))).kept hF3 (.inl (by omega))
      have hg48 : g4 < g8 := by have := hB'.lt; omega
      clear hB' hk1 hc0
      go_loopw [100] (fun i ws => ∃ t : Nat, t ≤ 64 ∧ i = .int .i64 t ∧ Blk ws g8 ((rndsW H l t).map uw) 150 ∧ Fr g8 (g8 + 1) w3 ws) (fun i _ => 64 - (intOf i).toNat)
      case atStart => exact ⟨0, Nat.zero_le _, rfl, hB3, Fr.refl _ _ _⟩
      case round =>
        obtain ⟨t, ht, rfl, hBt, hFt⟩ := hrel
        by_cases hlt : t < 64
        · obtain ⟨V, hV⟩ : ∃ V, V = rndsW H l t := ⟨_, rfl⟩
          have hVl : V.length = 8 := by rw [hV, rndsW_length _ _ hHl]
          rw [← hV] at hBt
          have HV := Lib.hid hV
          clear hV
          obtain ⟨a, b', c, d, e, f, g, h', rfl⟩ : ∃ a b c d e f g h, V = [a, b, c, d, e, f, g, h] := by
            match V, hVl with
            | [a, b, c, d, e, f, g, h], _ => exact ⟨a, b, c, d, e, f, g, h, rfl⟩
          have v0 : wr.cell? ⟨g8, 0, none⟩ = some (.int .u32 a) := hBt.cell 0
          have v1 : wr.cell? ⟨g8, 1, none⟩ = some (.int .u32 b') := hBt.cell 1
          have v2 : wr.cell? ⟨g8, 2, none⟩ = some (.int .u32 c) := hBt.cell 2
          have v3 : wr.cell? ⟨g8, 3, none⟩ = some (.int .u32 d) := hBt.cell 3
          have v4 : wr.cell? ⟨g8, 4, none⟩ = some (.int .u32 e) := hBt.cell 4
          have v5 : wr.cell? ⟨g8, 5, none⟩ = some (.int .u32 f) := hBt.cell 5
          have v6 : wr.cell? ⟨g8, 6, none⟩ = some (.int .u32 g) := hBt.cell 6
          have v7 : wr.cell? ⟨g8, 7, none⟩ = some (.int .u32 h') := hBt.cell 7
          go_wp2_with fail
          go_quiet (fail)
          obtain ⟨w5, hw5⟩ : ∃ w5, w5 = wr.drewN nq := ⟨_, rfl⟩
          rw [← hw5]
          have hF5 : Fr 0 0 wr w5 := by rw [hw5]; exact Fr.drewN _ _
          clear hw5
          have v7' := hF5.cell v7 (.inr (Nat.zero_le _))
          have v0' := hF5.cell v0 (.inr (Nat.zero_le _))
          have v3' := hF5.cell v3 (.inr (Nat.zero_le _))
          obtain ⟨kk, hkk⟩ : ∃ k, k = KL.getD t 0 := ⟨_, rfl⟩
          obtain ⟨ww, hww⟩ : ∃ x, x = W.getD t 0 := ⟨_, rfl⟩
          have p8 : 0 < g8 := by omega
          have kc := ((hk3.kept hFt (.inl p8)).kept hF5 (.inr (Nat.zero_le _))) t hlt
          have wc : w5.cell? ⟨g4, t, none⟩ = some (.int .u32 ww) := by
            rw [((hB4'.kept hFt (.inl hg48)).kept hF5 (.inr (Nat.zero_le _))).cell, List.getElem?_map, List.getElem?_eq_getElem (show t < W.length by omega), hww, List.getD_eq_getElem?_getD, List.getElem?_eq_getElem (show t < W.length by omega)]
            rfl
          rw [← hkk] at kc
          have HKK := Lib.hid hkk
          have HWW := Lib.hid hww
          clear hkk hww v0 v1 v2 v3 v4 v5 v6 v7
          go_wp2_with fail
          go_quiet ((first
            | (go_at_call_of 144 (Value.int .i64 6); exact Calls.quiet_of_same ((c_turned _ 6 (by decide)).mono fun _ _ ⟨x, y⟩ => ⟨x, y.symm⟩))
            | (go_at_call_of 144 (Value.int .i64 11); exact Calls.quiet_of_same ((c_turned _ 11 (by decide)).mono fun _ _ ⟨x, y⟩ => ⟨x, y.symm⟩))
            | (go_at_call_of 144 (Value.int .i64 25); exact Calls.quiet_of_same ((c_turned _ 25 (by decide)).mono fun _ _ ⟨x, y⟩ => ⟨x, y.symm⟩))))
          obtain ⟨w6, hw6⟩ : ∃ w6, w6 = w5.drewN nq := ⟨_, rfl⟩
          rw [← hw6]
          have hF6 : Fr 0 0 w5 w6 := by rw [hw6]; exact Fr.drewN _ _
          clear hw6
          have v3'' := hF6.cell v3' (.inr (Nat.zero_le _))
          have hBt' := (hBt.kept hF5 (.inr (Nat.zero_le _))).kept hF6 (.inr (Nat.zero_le _))
          rw [show ((h' + bits .xor .u32 (bits .xor .u32 (rot e 6) (rot e 11)) (rot e 25) + bits .xor .u32 (bits .and .u32 e f) (bits .and .u32 (bits .xor .u32 (if IntKind.u32.signed = true then -1 else IntKind.u32.max) e) g) + kk) % 4294967296 + ww) % 4294967296 = rnd1 e f g h' kk ww from rfl]
          obtain ⟨one, hone⟩ : ∃ x, x = rnd1 e f g h' kk ww := ⟨_, rfl⟩
          rw [← hone]
          have HONE := Lib.hid hone
          clear hone
          go_upto_region 16 with (first
            | (go_at_call_of 144 (Value.int .i64 2); refine (c_turned a 2 (by decide)).mono ?_; rintro e w7 ⟨rfl, rfl⟩)
            | (go_at_call_of 144 (Value.int .i64 13); refine (c_turned a 13 (by decide)).mono ?_; rintro e w7 ⟨rfl, rfl⟩)
            | (go_at_call_of 144 (Value.int .i64 22); refine (c_turned a 22 (by decide)).mono ?_; rintro e w7 ⟨rfl, rfl⟩))
          rw [show (bits .xor .u32 (bits .xor .u32 (rot a 2) (rot a 13)) (rot a 22) + bits .xor .u32 (bits .xor .u32 (bits .and .u32 a b') (bits .and .u32 a c)) (bits .and .u32 b' c)) % 4294967296 = rnd2 a b' c from rfl]
          obtain ⟨two, htwo⟩ : ∃ x, x = rnd2 a b' c := ⟨_, rfl⟩
          rw [← htwo]
          have HTWO := Lib.hid htwo
          clear htwo
          go_wp2_with (first
            | (refine wpl_build (parts := [(0, _), (1, _), (2, _), (3, _), (4, _), (5, _), (6, _), (7, _)]) (built150 ((one + two) % 4294967296) a b' c ((d + one) % 4294967296) e f g) rfl rfl rfl ?_)
            | (refine wpl_store_blk (L' := [.int .u32 ((one + two) % 4294967296), .int .u32 a, .int .u32 b', .int .u32 c, .int .u32 ((d + one) % 4294967296), .int .u32 e, .int .u32 f, .int .u32 g]) hBt' rfl siz150 (by intro v hv; simp only [List.mem_cons, List.not_mem_nil, or_false] at hv; rcases hv with rfl | rfl | rfl | rfl | rfl | rfl | rfl | rfl <;> rfl) rfl rfl rfl rfl ?_; intro w8 hB8 hF8))
          go_roundw
          case rel =>
            refine ⟨t + 1, by omega, by go_num, ?_, ((hFt.trans (hF5.mono (.inr (Nat.le_refl _)) (.inr (Nat.le_refl _)))).trans (hF6.mono (.inr (Nat.le_refl _)) (.inr (Nat.le_refl _)))).trans hF8⟩
            rw [rndsW, ← HV.out, ← HKK.out, ← HW.out, ← HWW.out, rnd, ← HONE.out, ← HTWO.out]
            exact hB8
          case measure => simp [intOf]; omega
        · obtain rfl : t = 64 := by omega
          obtain ⟨V, hV⟩ : ∃ V, V = rndsW H l 64 := ⟨_, rfl⟩
          have hVl : V.length = 8 := by rw [hV, rndsW_length _ _ hHl]
          rw [← hV] at hBt
          have HV := Lib.hid hV
          obtain ⟨F, hFF⟩ : ∃ F, F = blkW H l := ⟨_, rfl⟩
          have hFl : F.length = 8 := by rw [hFF, blkW_length]
          have hfg : Hid (∀ i, i < 8 → F.getD i 0 = (H.getD i 0 + V.getD i 0) % 4294967296) := by
            show ∀ i, i < 8 → _
            intro i hi
            rw [hFF, blkW_get H l i hi, hV]
          have HFF := Lib.hid hFF
          clear hV hFF
          have z2 := hF2.size
          have z3 := hF3.size
          have hgs8 : gs < g8 := by omega
          have hHs := ((hH1.kept hF2 (.inr (Nat.zero_le _))).kept hF3 (.inl hgs8)).kept hFt (.inl hgs8)
          obtain ⟨w4, hw4⟩ : ∃ w4, w4 = wr := ⟨_, rfl⟩
          rw [← hw4] at hBt hFt hHs ⊢
          clear hw4
          go_wp2_with fail
          go_loopw [178] (fun i ws => ∃ t : Nat, t ≤ 8 ∧ i = .int .i64 t ∧ Blk ws gs ((mixL F H t).map uw) 150 ∧ Fr gs (gs + 1) w4 ws) (fun i _ => 8 - (intOf i).toNat)
          case atStart => exact ⟨0, Nat.zero_le _, rfl, hHs, Fr.refl _ _ _⟩
          case round =>
            obtain ⟨t, ht, rfl, hBs, hFs⟩ := hrel
            by_cases hlt : t < 8
            · have hBv := hBt.kept hFs (.inr (by omega))
              obtain ⟨x, hx⟩ : ∃ x, x = H.getD t 0 := ⟨_, rfl⟩
              obtain ⟨y, hy⟩ : ∃ y, y = V.getD t 0 := ⟨_, rfl⟩
              obtain ⟨x0, hx0⟩ : ∃ x0, wr.cell? ⟨gs, 0, none⟩ = some (.int .u32 x0) := by
                rw [hBs.cell, List.getElem?_map, List.getElem?_eq_getElem (show 0 < (mixL F H t).length by rw [mixL_length _ _ _ (by omega) (by omega)]; omega)]
                exact ⟨_, rfl⟩
              have hcx : wr.cell? ⟨gs, t, none⟩ = some (.int .u32 x) := by
                rw [hBs.cell, List.getElem?_map, mixL_get F H t (by omega) (by omega), hx]
                rfl
              have hcy : wr.cell? ⟨g8, t, none⟩ = some (.int .u32 y) := by
                rw [hBv.cell, List.getElem?_map, List.getElem?_eq_getElem (show t < V.length by omega), hy, List.getD_eq_getElem?_getD, List.getElem?_eq_getElem (show t < V.length by omega)]
                rfl
              have hxy : Hid ((x + y) % 4294967296 = F.getD t 0) := by show _ = _; rw [hfg.out t hlt, hx, hy]
              clear hx hy
              go_wp2_with fail
              go_still_tail 11, (by kernel_rfl)
              refine wpl_store_cell (g := gs) (off := t) (v := uw ((x + y) % 4294967296)) (hBs.kept (Fr.drew _) (.inr (Nat.zero_le _))) (by rw [List.length_map, mixL_length _ _ _ (by omega) (by omega)]; omega) siz115 rfl rfl rfl rfl rfl rfl ?_
              intro w5 hB5 hF5
              go_wp2_with fail
              refine ⟨⟨_, _, _, _, _, _, _, _, _, _, _, _, _, _, _, _, ?rel, rfl⟩, ?measure⟩
              case rel =>
                refine ⟨t + 1, by omega, by go_num, ?_, (hFs.trans ((Fr.drew _).mono (.inr (Nat.le_refl _)) (.inr (Nat.le_refl _)))).trans hF5⟩
                rw [← mixL_set F H t (by omega) (by omega), ← hxy.out, List.map_set]
                exact hB5
              case measure => simp [intOf]; omega
            · obtain rfl : t = 8 := by omega
              go_wp2_with fail
              have hfin : mixL F H 8 = blkW H l := by
                rw [← HFF.out]
                simp [mixL, List.take_of_length_le (show F.length ≤ 8 by omega), List.drop_eq_nil_of_le (show H.length ≤ 8 by omega)]
              have hA : Fr 0 0 w w4 := (((hF1.on hF hg4).trans hF2).on hF3 (by omega)).on hFt (by omega)
              go_end0
              rw [hfin] at hBs
              exact ⟨rfl, hBs, (hA.mono (.inr (Nat.le_refl _)) (.inr (Nat.le_refl _))).trans hFs⟩

end Go.Proofs.YtgndidjfjdaagaaDoor
