/-
  beadrolllaw03.alive; the parts of what is digested (plain law).
-/
import Derived.Test.YtgndidjfjdaagaaDoorParts2
import Derived.Lib.SlBytesConst
import Derived.Lib.SmallJoins
set_option linter.unusedSimpArgs false
set_option linter.unusedVariables false
namespace Go.Proofs.YtgndidjfjdaagaaDoor
open Go.RowKit

/-- What is read of what is digested of parts is these parts. -/
theorem prts_tagT : ∀ (ls : List (List UInt8)) (f : Nat), (tagT ls).length ≤ f → (∀ l ∈ ls, l.length ≤ 4096) → prts f (tagT ls) = (ls, 0)
  | [], f, _, _ => prts_nil f
  | l :: ls, f, hf, hl => by
    have e : tagT (l :: ls) = beB 4 l.length ++ (l ++ tagT ls) := by simp [tagT]
    have hb := beB_length 4 l.length
    have hl0 := hl l (by simp)
    rw [e] at hf ⊢
    have hlen : (beB 4 l.length ++ (l ++ tagT ls)).length = 4 + (l.length + (tagT ls).length) := by simp [hb]
    rw [hlen] at hf
    obtain ⟨f, rfl⟩ : ∃ f', f = f' + 1 := ⟨f - 1, by omega⟩
    have ht : (beB 4 l.length ++ (l ++ tagT ls)).take 4 = beB 4 l.length := by rw [List.take_append_of_le_length (by omega), List.take_of_length_le (by omega)]
    have hd : (beB 4 l.length ++ (l ++ tagT ls)).drop 4 = l ++ tagT ls := by rw [List.drop_append_of_le_length (by omega), List.drop_eq_nil_of_le (by omega), List.nil_append]
    have hn : beN (beB 4 l.length) = l.length := by rw [beN_beB]; exact Nat.mod_eq_of_lt (by omega)
    have hne : beB 4 l.length ++ (l ++ tagT ls) ≠ [] := by intro h; rw [h] at hlen; simp at hlen; omega
    have ih := prts_tagT ls f (by omega) (fun m hm => hl m (by simp [hm]))
    rw [prts, if_neg hne, if_neg (by omega), ht, hn, if_neg (by omega), hd, if_neg (by simp)]
    have h1 : (l ++ tagT ls).take l.length = l := by rw [List.take_append_of_le_length (Nat.le_refl _), List.take_length]
    have h2 : (l ++ tagT ls).drop l.length = tagT ls := by rw [List.drop_append_of_le_length (Nat.le_refl _), List.drop_length, List.nil_append]
    rw [h1, h2, ih]

theorem partsR_tagB (k : UInt8) (ls : List (List UInt8)) (hl : ∀ l ∈ ls, l.length ≤ 4096) : partsR (tagB k ls) = (k, ls, 0) := by
  rw [tagB, partsR, prts_tagT ls _ (Nat.le_refl _) hl]
  rfl

theorem tagB_inj {a b : UInt8} {ls ms : List (List UInt8)} (hl : ∀ l ∈ ls, l.length ≤ 4096) (hm : ∀ l ∈ ms, l.length ≤ 4096) : tagB a ls = tagB b ms ↔ a = b ∧ ls = ms := by
  constructor
  · intro h
    have := congrArg partsR h
    rw [partsR_tagB a ls hl, partsR_tagB b ms hm] at this
    simp only [Prod.mk.injEq, and_true] at this
    exact this
  · rintro ⟨rfl, rfl⟩
    rfl

/-- What is read is what is digested of it. -/
theorem tagT_prts : ∀ (f : Nat) (l : List UInt8), l.length ≤ f → (prts f l).2 = 0 → tagT (prts f l).1 = l
  | 0, l, h, _ => by
    obtain rfl := List.eq_nil_of_length_eq_zero (Nat.le_zero.1 h)
    rfl
  | f + 1, l, h, he => by
    rw [prts] at he ⊢
    by_cases h0 : l = []
    · rw [if_pos h0]; rw [h0]; rfl
    · rw [if_neg h0] at he ⊢
      by_cases h4 : l.length < 4
      · rw [if_pos h4] at he; cases he
      · rw [if_neg h4] at he ⊢
        obtain ⟨N, hN⟩ : ∃ N, N = beN (l.take 4) := ⟨_, rfl⟩
        rw [← hN] at he ⊢
        by_cases hm : 4096 < N
        · rw [if_pos hm] at he; cases he
        · rw [if_neg hm] at he ⊢
          by_cases hs : (l.drop 4).length < N
          · rw [if_pos hs] at he; cases he
          · rw [if_neg hs] at he ⊢
            simp only at he ⊢
            have hd : ((l.drop 4).drop N).length ≤ f := by rw [List.length_drop, List.length_drop]; omega
            have ih := tagT_prts f _ hd he
            have e : ∀ (x : List UInt8) (xs : List (List UInt8)), tagT (x :: xs) = beB 4 x.length ++ (x ++ tagT xs) := fun x xs => by simp [tagT]
            have hl : ((l.drop 4).take N).length = N := by rw [List.length_take]; omega
            have ht : beB 4 N = l.take 4 := by
              have := beB_beN (l.take 4)
              rw [← hN, List.length_take, Nat.min_eq_left (by omega)] at this
              exact this
            rw [e, ih, hl, ht, List.take_append_drop, List.take_append_drop]

theorem partsR_ok {l : List UInt8} (h : (partsR l).2.2 = 0) : tagB (partsR l).1 (partsR l).2.1 = l := by
  cases l with
  | nil => simp [partsR] at h
  | cons k t =>
    by_cases e : (prts t.length t).2 = 0
    · simp only [partsR, if_pos e, tagB, tagT_prts _ _ (Nat.le_refl _) e]
    · simp only [partsR, if_neg e] at h
      exact absurd h e

theorem partsR_bad {l : List UInt8} (h : (partsR l).2.2 ≠ 0) : (partsR l).1 = 0 ∧ (partsR l).2.1 = [] := by
  cases l with
  | nil => exact ⟨rfl, rfl⟩
  | cons k t =>
    by_cases e : (prts t.length t).2 = 0
    · simp only [partsR, if_pos e] at h
      exact absurd rfl h
    · simp only [partsR, if_neg e, and_self]

theorem RdS.pair {w : World} {lo hi : Nat} {u1 u2 : Value} {l1 l2 : List UInt8} {g : Nat} (h1 : RdB w lo hi u1 l1) (h2 : RdB w lo hi u2 l2) (hh : hi ≤ w.heap.size) (hl : lo ≤ w.heap.size) (hg : g = w.heap.size) :
    RdS (w.alloc (.cells #[u1, u2] 24)) lo (g + 1) (.slice (some ⟨g, 0, none⟩) 2 2) [l1, l2] := by
  subst hg
  have hb : Blk (w.alloc (.cells #[u1, u2] 24)) w.heap.size [u1, u2] 24 := heap_alloc_new w _
  have hF := Fr.alloc w (.cells #[u1, u2] 24)
  refine ⟨_, 2, rfl, Nat.le_refl _, by unfold maxLen; omega, (fun h => by cases h), fun _ => ⟨w.heap.size, 0, rfl, hl, by omega, fun j hj => ?_⟩⟩
  match j, hj with
  | 0, _ => exact ⟨u1, hb.cell 0, (h1.kept hF (.inr (Nat.zero_le _))).mono (Nat.le_refl _) (by omega)⟩
  | 1, _ => exact ⟨u2, hb.cell 1, (h2.kept hF (.inr (Nat.zero_le _))).mono (Nat.le_refl _) (by omega)⟩

theorem ab_rd (w : World) {g : Nat} (hg : g = w.heap.size) : RdB (w.alloc (.cells #[.int .u8 97, .int .u8 98] 5 (2, 3))) g (g + 1) (.slice (some ⟨g, 0, none⟩) 2 2) [97, 98] := by
  subst hg
  refine ⟨_, 2, rfl, Nat.le_refl _, by unfold maxLen; omega, (fun h => by cases h), fun _ => ⟨w.heap.size, 0, rfl, Nat.le_refl _, by omega, fun j hj => ?_⟩⟩
  rw [World.cell?_alloc_mark]
  match j, hj with
  | 0, _ => rfl
  | 1, _ => rfl

theorem lit11 (w : World) : RdB (w.alloc (.cells #[.int .u8 7, .int .u8 0, .int .u8 0, .int .u8 0, .int .u8 2, .int .u8 97, .int .u8 98, .int .u8 0, .int .u8 0, .int .u8 0, .int .u8 0] 5)) w.heap.size (w.heap.size + 1) (.slice (some ⟨w.heap.size, 0, none⟩) 11 11) [7, 0, 0, 0, 2, 97, 98, 0, 0, 0, 0] :=
  (OwB.of_blk (l := [7, 0, 0, 0, 2, 97, 98, 0, 0, 0, 0]) (n := 11) (heap_alloc_new w _) rfl (Nat.le_refl _) (by omega) (by omega)).rd

set_option maxRecDepth 100000 in
set_option maxHeartbeats 1000000 in
theorem c_alive03 {w : World} : Calls Tryd.prog 51 #[] w fun e w' => e = .returned (.bool true) ∧ Fr 0 0 w w' := by
  have hT : Hid (tagB 7 [[97, 98], []] = [7, 0, 0, 0, 2, 97, 98, 0, 0, 0, 0]) := (show _ = _ by decide)
  have hP : Hid (partsR (tagB 7 [[97, 98], []]) = (7, [[97, 98], []], 0)) := (show _ = _ by exact partsR_tagB 7 _ (by decide))
  have hP1 : Hid (((partsR (tagB 7 [[97, 98], []])).1.toNat : Int) = 7) := (show _ = _ by rw [hP.out]; rfl)
  have hP3 : Hid (((partsR (tagB 7 [[97, 98], []])).2.2 : Int) = 0) := (show _ = _ by rw [hP.out]; rfl)
  have hP2 : Hid ((partsR (tagB 7 [[97, 98], []])).2.1 = [[97, 98], []]) := (show _ = _ by rw [hP.out])
  have hTl : Hid ((tagB 7 [[97, 98], []]).length = 11) := (show _ = _ by rw [hT.out]; rfl)
  have hS : Hid ((tagB 7 [[97, 98], []] == [7, 0, 0, 0, 2, 97, 98, 0, 0, 0, 0]) = true) := (show _ = _ by rw [hT.out]; rfl)
  have kc := fun (w : World) (C : Array Value) (n c : Nat) => Lib.run_convert_bytes_const (P := Tryd.prog) w 24 5 C n c und22 und5
  have kc2 : ∀ (w : World) (X : Obj) (C : Array Value) (n c : Nat), (convert 24 24 (.slice (some ⟨w.heap.size + 1, 0, none⟩) n c)).run Tryd.prog ((w.alloc X).alloc (.cells C 5)) = .ok (.slice (some ⟨w.heap.size + 1, 0, none⟩) n c) ((w.alloc X).alloc (.cells C 5 (C.size, C.size + 1))) := fun w X C n c => by
    have := Lib.run_convert_bytes_const (P := Tryd.prog) (w.alloc X) 24 5 C n c und22 und5
    simpa only [World.size_alloc] using this
  clear hP
  go_enter Tryd.func51, Tryd.ntmps51
  go_wp2_with (first
    | (go_at_call 22; refine (c_tagBytes (ls := [[97, 98], []]) 7 (RdS.pair (g := w.heap.size + 1) (ab_rd w (g := w.heap.size) rfl) (RdB.nil _ _ _) (by simp) (by simp) (by simp)) (by simp) (by decide)).mono ?_; rintro e w1 ⟨v1, rfl, hO1, hF1⟩; have hz1 := hF1.size; simp only [World.size_alloc] at hz1)
    | (go_at_call 52; refine (c_Parts hO1.rd (by rw [hTl.out]; omega) (Nat.le_refl _)).mono ?_; rintro e w2 ⟨p, rfl, hP, hF2⟩; rw [hP1.out, hP3.out]; rw [hP2.out] at hP; have hz2 := hF2.size)
    | (go_at_call 23; refine (c_Same ((hO1.kept hF2 (.inr (Nat.zero_le _))).kept (Fr.alloc _ _) (.inr (Nat.zero_le _))).rd (lit11 w2)).mono ?_; rintro e w3 ⟨rfl, rfl⟩; rw [hS.out])
    | (go_at_call 30; refine (c_Same03 (((hP.kept (Fr.alloc _ _) (.inr (Nat.zero_le _))).kept (Fr.alloc _ _) (.inr (Nat.zero_le _))).kept (Fr.alloc _ _) (.inr (Nat.zero_le _))).rds (RdS.pair (g := w2.heap.size + 2) (ab_rd _ (g := w2.heap.size + 1) (by simp)) (RdB.nil _ _ _) (by simp) (by simp) (by simp))).mono ?_; rintro e w4 ⟨rfl, hF4⟩; simp only [decide_true]))
  go_ret
  exact ⟨rfl, ((((((Fr.alloc _ _).trans (Fr.alloc _ _)).trans hF1).trans hF2).trans (Fr.alloc _ _)).trans ((Fr.alloc _ _).trans (Fr.alloc _ _))).trans hF4⟩

end Go.Proofs.YtgndidjfjdaagaaDoor
