/-
  The walk of the law TagNames.
-/
import Derived.Test.YtgndidjfjdaagaaDoorAlive03
import Derived.Test.YtgndidjfjdaagaaDoorTagOf
set_option linter.unusedSimpArgs false
set_option linter.unusedVariables false
namespace Go.Proofs.YtgndidjfjdaagaaDoor
open Go.RowKit

set_option maxHeartbeats 1000000 in
theorem c_tagNone {w : World} (hk : KT w) : Calls Tryd.prog 27 #[] w fun e w' => e = .returned (.agg (bs (shaB [0]))) ∧ Fr 0 0 w w' := by
  have hsl : ((shaB [0]).map ub).length = 32 := by rw [List.length_map, shaB_length]
  have HT : Hid (tagB 0 [] = [0]) := (show _ = _ from rfl)
  go_enter Tryd.func27, Tryd.ntmps27
  go_wp2_with (first
    | (refine wpl_alloc zer30 rfl rfl rfl ?_; intro g2 w1 hB1 hF1 hg2 hs2)
    | (go_at_call 25; refine (c_tagOf 0 (RdS.nil w1 0 0) (Nat.zero_le _) (by simp [lens]) (hk.kept hF1 (.inr (Nat.zero_le _)))).mono ?_; rintro e w2 ⟨rfl, hF2⟩; rw [HT.out]; have hB2 := hB1.kept hF2 (.inr (Nat.zero_le _)))
    | (refine wpl_store_blk hB2 (by rw [hsl]; rfl) (by rw [siz30, hsl]) (ub_oneCell _) rfl rfl rfl rfl ?_; intro w5 hB5 hF5))
  refine bodyPost_ret (v := .agg (bs (shaB [0]))) (res_blk rfl rfl hB5 row30 (by rw [siz30, hsl])) rfl ⟨rfl, ?_⟩
  exact (hF1.trans hF2).on hF5 hg2

theorem lit_rd (w : World) (l : List UInt8) (g n : Nat) (hg : g = w.heap.size) (hn : l.length = n) (hm : n ≤ 1000) : RdB (w.alloc (.cells (l.map ub).toArray 5)) g (g + 1) (.slice (some ⟨g, 0, none⟩) n n) l := by
  subst hg
  exact (OwB.of_blk (l := l) (n := n) (heap_alloc_new w _) hn (Nat.le_refl _) (by omega) (by omega)).rd

theorem lit7 (w : World) : RdB (w.alloc (.cells #[.int .u8 7] 5)) w.heap.size (w.heap.size + 1) (.slice (some ⟨w.heap.size, 0, none⟩) 1 1) [7] := lit_rd w [7] _ _ rfl rfl (by omega)
theorem lit70 (w : World) : RdB (w.alloc (.cells #[.int .u8 7, .int .u8 0] 5)) w.heap.size (w.heap.size + 1) (.slice (some ⟨w.heap.size, 0, none⟩) 2 2) [7, 0] := lit_rd w [7, 0] _ _ rfl rfl (by omega)
theorem lit701 (w : World) : RdB (w.alloc (.cells #[.int .u8 7, .int .u8 0, .int .u8 0, .int .u8 0, .int .u8 1] 5)) w.heap.size (w.heap.size + 1) (.slice (some ⟨w.heap.size, 0, none⟩) 5 5) [7, 0, 0, 0, 1] := lit_rd w [7, 0, 0, 0, 1] _ _ rfl rfl (by omega)
theorem lit716 (w : World) : RdB (w.alloc (.cells #[.int .u8 7, .int .u8 0, .int .u8 0, .int .u8 16, .int .u8 1] 5)) w.heap.size (w.heap.size + 1) (.slice (some ⟨w.heap.size, 0, none⟩) 5 5) [7, 0, 0, 16, 1] := lit_rd w [7, 0, 0, 16, 1] _ _ rfl rfl (by omega)
theorem lit0 (w : World) : RdB (w.alloc (.cells #[.int .u8 0] 5)) w.heap.size (w.heap.size + 1) (.slice (some ⟨w.heap.size, 0, none⟩) 1 1) [0] := lit_rd w [0] _ _ rfl rfl (by omega)

theorem RdS.one' {w : World} {o : Obj} {g lo hi : Nat} {u : Value} {l : List UInt8} (h : RdB (w.alloc o) lo hi u l) (hg : g = w.heap.size + 1) :
    RdS ((w.alloc o).alloc (.cells #[u] 24)) 0 (g + 1) (.slice (some ⟨g, 0, none⟩) 1 1) [l] := by
  have := RdS.one h
  rw [World.size_alloc] at this
  rw [hg]
  exact this

/-- tag.Parts of a literal. -/
theorem c_PartsLit {w : World} {lo hi : Nat} {v : Value} {L : List UInt8} (k : UInt8) (E : Nat) (ls : List (List UInt8)) (K E' : Int) (h : RdB w lo hi v L) (hr : partsR L = (k, ls, E)) (hK : (k.toNat : Int) = K) (hE : (E : Int) = E') (hl : L.length ≤ 1000) (hhi : hi ≤ w.heap.size) :
    Calls Tryd.prog 52 #[v] w fun e w' => ∃ a c, e = .returned (.tuple #[.int .u8 K, .slice a ls.length c, .int .i64 E']) ∧ Fr 0 0 w w' := by
  refine (c_Parts h (by omega) hhi).mono ?_
  rintro e w' ⟨v', rfl, hO, hF⟩
  rw [hr] at hO ⊢
  obtain ⟨a, c, rfl⟩ := hO.form
  exact ⟨a, c, by simp only [hK, hE], hF⟩

set_option maxRecDepth 100000 in
set_option maxHeartbeats 4000000 in
theorem w_TagNames {w : World} (hk : KT w) : Calls Tryd.prog 9 #[] w fun e w' => e = .returned (.bool true) ∧ Fr 0 0 w w' := by
  have t1 := trivial
  have t2 := trivial
  have t3 := trivial
  have t4 := trivial
  have hX (w : World) (o : Obj) : Fr 0 0 w (w.alloc o) := Fr.alloc w o
  go_enter Tryd.func9, Tryd.ntmps9
  go_wp2_with (first
    | (go_at_call 52; have _t := t1; refine (c_PartsLit 7 0 [] 7 0 (lit7 w) rfl rfl rfl (by decide) (by simp)).mono ?_; rintro e w1 ⟨a1, c1, rfl, hF1⟩; clear t1 _t)
    | (go_at_call 52; have _t := t2; refine (c_PartsLit 0 10 [] 0 10 (RdB.nil w1 0 0) rfl rfl rfl (by decide) (by simp)).mono ?_; rintro e w2 ⟨a2, c2, rfl, hF2⟩; clear t2 _t)
    | (go_at_call 52; have _t := t3; refine (c_PartsLit 0 10 [] 0 10 (lit70 w2) rfl rfl rfl (by decide) (by simp)).mono ?_; rintro e w3 ⟨a3, c3, rfl, hF3⟩; clear t3 _t)
    | (go_at_call 52; have _t := t4; refine (c_PartsLit 0 10 [] 0 10 (lit701 w3) rfl rfl rfl (by decide) (by simp)).mono ?_; rintro e w4 ⟨a4, c4, rfl, hF4⟩; clear t4 _t)
    | (go_at_call 52; refine (c_PartsLit 0 4 [] 0 4 (lit716 w4) rfl rfl rfl (by decide) (by simp)).mono ?_; rintro e w5 ⟨a5, c5, rfl, hF5⟩)
    | (go_at_call 51; refine c_alive03.mono ?_; rintro e w6 ⟨rfl, hF6⟩; have hA : Fr 0 0 w w6 := ((((((hX _ _).trans hF1).trans hF2).trans ((hX _ _).trans hF3)).trans ((hX _ _).trans hF4)).trans ((hX _ _).trans hF5)).trans hF6; have k6 := hk.kept hA (.inr (Nat.zero_le _)))
    | (go_at_call 27; refine (c_tagNone k6).mono ?_; rintro e w7 ⟨rfl, hF7⟩; have k7 := k6.kept hF7 (.inr (Nat.zero_le _)))
    | (go_at_call 53; refine (c_shaOf (RdS.one' (lit0 w7) rfl) (by decide) ((k7.kept (Fr.alloc _ _) (.inr (Nat.zero_le _))).kept (Fr.alloc _ _) (.inr (Nat.zero_le _)))).mono ?_; rintro e w8 ⟨rfl, hF8⟩)
    | (refine wpl_eql leaves30 (by omega) row30 eqg30 (LF.bytes32 _ (shaB_length [0])) (LF.bytes32 _ (shaB_length [0])) rfl rfl rfl rfl ?_; intro q hq; obtain rfl : q = true := hq.2 rfl; clear hq))
  go_ret
  exact ⟨rfl, (hA.trans hF7).trans ((hX _ _).trans ((hX _ _).trans hF8))⟩

end Go.Proofs.YtgndidjfjdaagaaDoor
