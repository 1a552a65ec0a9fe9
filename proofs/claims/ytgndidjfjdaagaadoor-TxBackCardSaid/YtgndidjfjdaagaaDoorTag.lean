/-
  Slices of slices of bytes; contracts of tag.Bytes, beadrollref03.Same, Great.
-/
import Derived.Test.YtgndidjfjdaagaaDoorPut
set_option linter.unusedSimpArgs false
set_option linter.unusedVariables false
namespace Go.Proofs.YtgndidjfjdaagaaDoor
open Go.RowKit

/-- Slice value v reads as these lists of bytes; where there is one, it and the bytes lie in blocks from lo on, below hi. -/
def RdS (w : World) (lo hi : Nat) (v : Value) (ls : List (List UInt8)) : Prop :=
  ∃ a cap, v = .slice a ls.length cap ∧ ls.length ≤ cap ∧ cap ≤ maxLen ∧ (a = none → cap = 0) ∧
    (ls ≠ [] → ∃ b off, a = some ⟨b, off, none⟩ ∧ lo ≤ b ∧ b < hi ∧ ∀ j (h : j < ls.length), ∃ u, w.cell? ⟨b, off + j, none⟩ = some u ∧ RdB w lo hi u ls[j])

theorem RdS.nil (w : World) (lo hi : Nat) : RdS w lo hi (.slice none 0 0) [] := ⟨none, 0, rfl, Nat.le_refl _, Nat.zero_le _, fun _ => rfl, fun h => absurd rfl h⟩

theorem RdS.form {w : World} {lo hi : Nat} {v : Value} {l : List (List UInt8)} (h : RdS w lo hi v l) : ∃ a cap, v = .slice a l.length cap ∧ l.length ≤ cap ∧ cap ≤ maxLen ∧ (a = none → cap = 0) :=
  let ⟨a, cap, h1, h2, h3, h4, _⟩ := h; ⟨a, cap, h1, h2, h3, h4⟩

theorem RdS.mono {w : World} {lo hi lo' hi' : Nat} {v : Value} {l : List (List UInt8)} (h : RdS w lo hi v l) (h1 : lo' ≤ lo) (h2 : hi ≤ hi') : RdS w lo' hi' v l := by
  obtain ⟨a, cap, e, r1, r2, r3, r4⟩ := h
  refine ⟨a, cap, e, r1, r2, r3, fun hl => ?_⟩
  obtain ⟨b, off, e2, hb1, hb2, hc⟩ := r4 hl
  exact ⟨b, off, e2, by omega, by omega, fun j hj => let ⟨u, h3, h4⟩ := hc j hj; ⟨u, h3, h4.mono h1 h2⟩⟩

theorem RdS.kept {w w' : World} {lo hi a b : Nat} {v : Value} {l : List (List UInt8)} (h : RdS w lo hi v l) (hf : Fr a b w w') (ho : hi ≤ a ∨ b ≤ lo) : RdS w' lo hi v l := by
  obtain ⟨x, cap, e, r1, r2, r3, r4⟩ := h
  refine ⟨x, cap, e, r1, r2, r3, fun hl => ?_⟩
  obtain ⟨b, off, e2, hb1, hb2, hc⟩ := r4 hl
  exact ⟨b, off, e2, hb1, hb2, fun j hj => let ⟨u, h3, h4⟩ := hc j hj; ⟨u, hf.cell h3 (by simp only; omega), h4.kept hf ho⟩⟩

/-- Where there is an element: the place. -/
theorem RdS.spot {w : World} {lo hi : Nat} {v : Value} {l : List (List UInt8)} (h : RdS w lo hi v l) (hl : 0 < l.length) :
    ∃ b off cap, v = .slice (some ⟨b, off, none⟩) l.length cap ∧ l.length ≤ cap ∧ cap ≤ maxLen ∧ lo ≤ b ∧ b < hi := by
  obtain ⟨x, cap, e, r1, r2, r3, r4⟩ := h
  obtain ⟨b, off, rfl, hb1, hb2, _⟩ := r4 (fun e => by rw [e] at hl; cases hl)
  exact ⟨b, off, cap, e, r1, r2, hb1, hb2⟩

theorem RdS.cel {w : World} {lo hi b off n cap : Nat} {l : List (List UInt8)} (h : RdS w lo hi (.slice (.some ⟨b, off, none⟩) n cap) l) (j : Nat) (hj : j < l.length) :
    ∃ a c, w.cell? ⟨b, off + j, none⟩ = .some (.slice a l[j].length c) ∧ RdB w lo hi (.slice a l[j].length c) l[j] := by
  obtain ⟨x, cap, e, r1, r2, r3, r4⟩ := h
  cases e
  obtain ⟨b, off, e2, hb1, hb2, hc⟩ := r4 (fun e => by rw [e] at hj; cases hj)
  cases e2
  obtain ⟨u, h1, h2⟩ := hc j hj
  obtain ⟨a, c, rfl, _⟩ := h2.form
  exact ⟨a, c, h1, h2⟩

/-- What is digested of a kind and parts. -/
def tagT (ls : List (List UInt8)) : List UInt8 := (ls.map fun l => beB 4 l.length ++ l).flatten
def tagB (k : UInt8) (ls : List (List UInt8)) : List UInt8 := k :: tagT ls
def lens (ls : List (List UInt8)) : Nat := (ls.map fun l => 4 + l.length).sum

theorem tagT_length (ls : List (List UInt8)) : (tagT ls).length = lens ls := by
  induction ls with
  | nil => rfl
  | cons l ls ih =>
    have : tagT (l :: ls) = beB 4 l.length ++ l ++ tagT ls := by simp [tagT]
    rw [this, List.length_append, ih]
    simp [lens, beB_length]

theorem tagT_take (ls : List (List UInt8)) (k : Nat) (h : k < ls.length) : tagT (ls.take (k + 1)) = tagT (ls.take k) ++ beB 4 ls[k].length ++ ls[k] := by
  rw [List.take_add_one, List.getElem?_eq_getElem h]
  simp only [tagT, List.map_append, List.flatten_append, Option.toList_some, List.map_cons, List.map_nil, List.flatten_cons, List.flatten_nil, List.append_nil, List.append_assoc]

theorem lens_take (ls : List (List UInt8)) (k : Nat) (h : k < ls.length) : lens (ls.take k) + (4 + ls[k].length) ≤ lens ls := by
  have e : lens ls = lens (ls.take k) + lens (ls.drop k) := by
    rw [← tagT_length, ← tagT_length, ← tagT_length, ← List.length_append, tagT, tagT, tagT, ← List.flatten_append, ← List.map_append, List.take_append_drop]
  rw [e, List.drop_eq_getElem_cons h]
  simp only [lens, List.map_cons, List.sum_cons]
  omega

theorem lens_ge (ls : List (List UInt8)) : 4 * ls.length ≤ lens ls := by
  induction ls with
  | nil => simp
  | cons l ls ih =>
    simp only [lens, List.map_cons, List.sum_cons, List.length_cons] at ih ⊢
    omega

set_option maxHeartbeats 1000000 in
theorem c_tagBytes {w : World} {lo hi : Nat} {v : Value} {ls : List (List UInt8)} (k : UInt8) (h : RdS w lo hi v ls) (hh : hi ≤ w.heap.size) (hl : lens ls ≤ 1073741824) :
    Calls Tryd.prog 22 #[.int .u8 (k.toNat : Int), v] w fun e w' => ∃ v', e = .returned v' ∧ OwB w' w.heap.size w'.heap.size v' (tagB k ls) ∧ Fr 0 0 w w' := by
  have key : ∀ a n cap, v = .slice a n cap → n = ls.length → n ≤ cap → cap ≤ maxLen → (0 < ls.length → ∃ b off, a = some ⟨b, off, none⟩) →
      Calls Tryd.prog 22 #[.int .u8 (k.toNat : Int), v] w fun e w' => ∃ v', e = .returned v' ∧ OwB w' w.heap.size w'.heap.size v' (tagB k ls) ∧ Fr 0 0 w w' := by
    rintro a n cap rfl rfl hc1 hc2 hpos
    have hm : ls.length ≤ 1073741824 := by have := lens_ge ls; omega
    go_enter Tryd.func22, Tryd.ntmps22
    go_wp2_with fail
    have hX : Fr 0 0 w (w.alloc (.cells #[.int .u8 (k.toNat : Int)] 5)) := Fr.alloc _ _
    have hK : OwB (w.alloc (.cells #[.int .u8 (k.toNat : Int)] 5)) w.heap.size (w.heap.size + 1) (.slice (some ⟨w.heap.size, 0, none⟩) 1 1) [k] := OwB.of_blk (l := [k]) (heap_alloc_new w _) rfl (Nat.le_refl _) (by omega) (by omega)
    go_loopw [5, 14] (fun o i wr => ∃ j : Nat, j ≤ ls.length ∧ i = .int .i64 j ∧ (∃ a5 l5 h5 c5, o = .slice a5 (tagB k (ls.take j)).length c5 ∧ w.heap.size ≤ l5 ∧ h5 ≤ wr.heap.size ∧ OwB wr l5 h5 o (tagB k (ls.take j))) ∧ Fr 0 0 w wr) (fun _ i _ => ls.length - (intOf i).toNat)
    case atStart => exact ⟨0, Nat.zero_le _, rfl, ⟨_, _, w.heap.size + 1, _, rfl, Nat.le_refl _, by simp, by simpa [tagB, tagT] using hK⟩, hX⟩
    case round =>
      obtain ⟨j, hj, rfl, ⟨a5, l5, h5, c5, rfl, hl5, hh5, hO⟩, hF⟩ := hrel
      by_cases hlt : j < ls.length
      · obtain ⟨b, off, rfl⟩ := hpos (by omega)
        have hR := h.kept hF (.inr (Nat.zero_le _))
        obtain ⟨x, hx⟩ : ∃ x, x = ls[j] := ⟨_, rfl⟩
        obtain ⟨a7, c7, hcell, h7⟩ := hR.cel j hlt
        have hst : Hid (tagB k (ls.take (j + 1)) = tagB k (ls.take j) ++ beB 4 x.length ++ x) := by
          show _ = _
          rw [tagB, tagT_take ls j hlt, ← hx]
          simp [tagB]
        have hbd := lens_take ls j hlt
        rw [← hx] at hbd hcell h7
        have hxl : x.length ≤ 1073741824 := by omega
        have hol : (tagB k (ls.take j)).length = 1 + lens (ls.take j) := by simp [tagB, tagT_length]; omega
        have HOL := Lib.hid hol
        clear hx hol hR hX hK h
        have t1 := trivial
        go_wp2_with (first
          | (go_at_call 77; refine (c_Put x.length 4 (by omega) (by omega) (by omega) (by omega)).mono ?_; rintro e w3 ⟨v3, rfl, hO3, hF3⟩; have z3 := hF3.size; have hO4 := hO.kept hF3 (.inr (Nat.zero_le _)); have hR7 := h7.kept hF3 (.inr (Nat.zero_le _)); have z1 := hF.size)
          | (at_builtin; have _t := t1; refine wpl_append hO4 hO3.rd (by rw [HOL.out, beB_length]; omega) rfl rfl rfl rfl ?_; intro v5 w5 lo5 hi5 hO5 hF5 hz5; clear t1 _t; have hR8 := hR7.kept hF5 (.inl (by omega)))
          | (at_builtin; refine wpl_append hO5 hR8 (by rw [List.length_append, HOL.out, beB_length]; omega) rfl rfl rfl rfl ?_; intro v6 w6 lo6 hi6 hO6 hF6 hz6))
        go_roundw
        case rel =>
          have s5 := hF5.size
          have s6 := hF6.size
          obtain ⟨a6, c6, e6, _⟩ := hO6.rd.form
          refine ⟨j + 1, by omega, by go_num, ⟨a6, lo6, hi6, c6, by rw [hst.out]; exact e6, by omega, by omega, by rw [hst.out]; exact hO6⟩, ((hF.trans hF3).on hF5 (by omega)).on hF6 (by omega)⟩
        case measure => simp [intOf]; omega
      · obtain rfl : j = ls.length := by omega
        rw [List.take_length] at *
        go_wp2_with fail
        go_ret
        exact ⟨_, rfl, hO.mono hl5 hh5, hF⟩
  obtain ⟨a, cap, e, r1, r2, r3⟩ := h.form
  refine key a _ cap e rfl r1 r2 (fun hp => ?_)
  obtain ⟨b, off, cap', e', _⟩ := h.spot hp
  rw [e] at e'
  cases e'
  exact ⟨b, off, rfl⟩

set_option maxHeartbeats 1000000 in
theorem c_Same03 {w : World} {a b c d : Nat} {v u : Value} {ls ms : List (List UInt8)} (h : RdS w a b v ls) (k : RdS w c d u ms) :
    Calls Tryd.prog 30 #[v, u] w fun e w' => e = .returned (.bool (decide (ls = ms))) ∧ Fr 0 0 w w' := by
  obtain ⟨a1, cap1, e1, r1, r2, r3⟩ := h.form
  obtain ⟨a2, cap2, e2, q1, q2, q3⟩ := k.form
  by_cases hn : ls.length = ms.length
  · have hm : ls.length ≤ 9223372036854775807 := by unfold maxLen at r2; omega
    have key : ∀ n, n = ls.length → n = ms.length → v = .slice a1 n cap1 → u = .slice a2 n cap2 → (0 < n → (∃ b off, a1 = some ⟨b, off, none⟩) ∧ ∃ b off, a2 = some ⟨b, off, none⟩) →
        Calls Tryd.prog 30 #[v, u] w fun e w' => e = .returned (.bool (decide (ls = ms))) ∧ Fr 0 0 w w' := by
      rintro n hn1 hn2 rfl rfl hpos
      have HN1 := Lib.hid hn1
      have HN2 := Lib.hid hn2
      rw [← hn1] at r1 hm
      clear hn hn1 hn2 e1 e2 r3 q3 q1 q2
      go_enter Tryd.func30, Tryd.ntmps30
      go_wp2_with fail
      go_loopw [5] (fun i wr => ∃ j : Nat, j ≤ n ∧ i = .int .i64 j ∧ Hid (ls.take j = ms.take j) ∧ Fr 0 0 w wr) (fun i _ => n - (intOf i).toNat)
      case atStart => exact ⟨0, Nat.zero_le _, rfl, (show _ = _ from rfl), Fr.refl _ _ _⟩
      case round =>
        obtain ⟨j, hj, rfl, hT, hF⟩ := hrel
        by_cases hlt : j < n
        · obtain ⟨⟨b1, off1, rfl⟩, b2, off2, rfl⟩ := hpos (by omega)
          obtain ⟨x, hx⟩ : ∃ x, x = ls[j]'(by rw [← HN1.out]; exact hlt) := ⟨_, rfl⟩
          obtain ⟨y, hy⟩ : ∃ y, y = ms[j]'(by rw [← HN2.out]; exact hlt) := ⟨_, rfl⟩
          obtain ⟨a7, c7, hcell, h7⟩ := (h.kept hF (.inr (Nat.zero_le _))).cel j (by rw [← HN1.out]; exact hlt)
          obtain ⟨a8, c8, hcell8, h8⟩ := (k.kept hF (.inr (Nat.zero_le _))).cel j (by rw [← HN2.out]; exact hlt)
          rw [← hx] at hcell h7
          rw [← hy] at hcell8 h8
          have HX := Lib.hid hx
          have HY := Lib.hid hy
          clear hx hy
          have hlt' : (j : Int) < (n : Int) := by omega
          by_cases hxy : x = y
          · have hS : Hid ((x == y) = true) := by show _ = _; simpa using hxy
            have HXY := Lib.hid hxy
            clear hxy
            go_wp2_with fail
            go_quiet ((first
              | (go_at_call 23; exact Calls.quiet_of_same (v := .bool true) ((c_Same (h7.kept (Fr.drewN _ _) (.inr (Nat.zero_le _))) (h8.kept (Fr.drewN _ _) (.inr (Nat.zero_le _)))).mono fun _ _ ⟨x, y⟩ => ⟨by rw [x, hS.out], y.symm⟩))))
            obtain ⟨w2, hw2⟩ : ∃ w2, w2 = wr.drewN nq := ⟨_, rfl⟩
            rw [← hw2]
            have hF2 : Fr 0 0 wr w2 := by rw [hw2]; exact Fr.drewN _ _
            clear hw2
            go_wp2_with fail
            go_roundw
            case rel =>
              refine ⟨j + 1, by omega, by go_num, ?_, hF.trans hF2⟩
              show _ = _
              rw [List.take_add_one, List.take_add_one, hT.out, List.getElem?_eq_getElem (by rw [← HN1.out]; exact hlt), List.getElem?_eq_getElem (by rw [← HN2.out]; exact hlt), ← HX.out, ← HY.out, HXY.out]
            case measure => simp [intOf]; omega
          · have hS : Hid ((x == y) = false) := by show _ = _; simpa using hxy
            have hne : ls ≠ ms := fun e => hxy (by rw [HX.out, HY.out]; exact List.getElem_of_eq e _)
            have HNE := Lib.hid hne
            clear hxy hne
            go_wp2_with fail
            go_quiet ((first
              | (go_at_call 23; exact Calls.quiet_of_same (v := .bool false) ((c_Same (h7.kept (Fr.drewN _ _) (.inr (Nat.zero_le _))) (h8.kept (Fr.drewN _ _) (.inr (Nat.zero_le _)))).mono fun _ _ ⟨x, y⟩ => ⟨by rw [x, hS.out], y.symm⟩))))
            go_wp2_with fail
            go_ret
            exact ⟨by rw [decide_eq_false HNE.out]; rfl, hF.trans (Fr.drewN _ _)⟩
        · obtain rfl : j = n := by omega
          have he : ls = ms := by
            have := hT.out
            rwa [List.take_of_length_le (by rw [← HN1.out]; exact Nat.le_refl _), List.take_of_length_le (by rw [← HN2.out]; exact Nat.le_refl _)] at this
          have HE := Lib.hid he
          clear he
          go_wp2_with fail
          go_ret
          exact ⟨by rw [decide_eq_true HE.out]; rfl, hF⟩
    refine key ls.length rfl hn e1 (by rw [hn]; exact e2) (fun hp => ⟨?_, ?_⟩)
    · obtain ⟨b, off, cap', e', _⟩ := h.spot hp
      rw [e1] at e'
      cases e'
      exact ⟨b, off, rfl⟩
    · obtain ⟨b, off, cap', e', _⟩ := k.spot (by omega)
      rw [e2] at e'
      cases e'
      exact ⟨b, off, rfl⟩
  · have hne : ls ≠ ms := fun e => hn (by rw [e])
    rw [decide_eq_false hne]
    subst e1 e2
    clear hne h k
    have hnI : ¬ (ls.length : Int) = (ms.length : Int) := by omega
    go_enter Tryd.func30, Tryd.ntmps30
    go_wp2_with fail
    go_ret
    exact ⟨rfl, Fr.refl _ _ _⟩

/-- Are the parts more than the statements go through? -/
def great (ls : List (List UInt8)) : Bool := decide (8 < ls.length) || ls.any (fun l => decide (300 < l.length))

set_option maxHeartbeats 1000000 in
theorem c_Great {w : World} {a b : Nat} {v : Value} {ls : List (List UInt8)} (h : RdS w a b v ls) :
    Calls Tryd.prog 20 #[v] w fun e w' => e = .returned (.bool (great ls)) ∧ w = w' := by
  obtain ⟨a1, cap1, e1, r1, r2, r3⟩ := h.form
  by_cases hn : 8 < ls.length
  · have hg : great ls = true := by simp [great, hn]
    rw [hg]
    subst e1
    go_enter Tryd.func20, Tryd.ntmps20
    go_wp2_with fail
    go_ret
    exact ⟨rfl, rfl⟩
  · have key : ∀ n, n = ls.length → v = .slice a1 n cap1 → (0 < n → ∃ b off, a1 = some ⟨b, off, none⟩) →
        Calls Tryd.prog 20 #[v] w fun e w' => e = .returned (.bool (great ls)) ∧ w = w' := by
      rintro n hn1 rfl hpos
      have HN1 := Lib.hid hn1
      rw [← hn1] at r1 hn
      clear hn1 e1 r3
      go_enter Tryd.func20, Tryd.ntmps20
      go_wp2_with fail
      go_loop [3] (fun i => ∃ j : Nat, j ≤ n ∧ i = .int .i64 j ∧ Hid ((ls.take j).any (fun l => decide (300 < l.length)) = false)) (fun i => n - (intOf i).toNat)
      case atStart => exact ⟨0, Nat.zero_le _, rfl, (show _ = _ from rfl)⟩
      case round =>
        obtain ⟨j, hj, rfl, hT⟩ := hrel
        by_cases hlt : j < n
        · obtain ⟨b1, off1, rfl⟩ := hpos (by omega)
          obtain ⟨x, hx⟩ : ∃ x, x = ls[j]'(by rw [← HN1.out]; exact hlt) := ⟨_, rfl⟩
          obtain ⟨a7, c7, hcell, h7⟩ := h.cel j (by rw [← HN1.out]; exact hlt)
          rw [← hx] at hcell h7
          have HX := Lib.hid hx
          clear hx
          by_cases hxl : 300 < x.length
          · have hg : great ls = true := by
              unfold great
              rw [Bool.or_eq_true]
              refine .inr (List.any_eq_true.2 ⟨x, by rw [HX.out]; exact List.getElem_mem _, by simpa using hxl⟩)
            have HG := Lib.hid hg
            clear hg
            go_wp2_with fail
            go_ret
            exact ⟨by rw [HG.out]; rfl, rfl⟩
          · go_wp2_with fail
            go_round
            case rel =>
              refine ⟨j + 1, by omega, by go_num, ?_⟩
              show _ = _
              rw [List.take_add_one, List.getElem?_eq_getElem (by rw [← HN1.out]; exact hlt), List.any_append, hT.out, ← HX.out]
              simp
              omega
            case measure => simp [intOf]; omega
        · obtain rfl : j = n := by omega
          have hg : great ls = false := by
            have := hT.out
            rw [List.take_of_length_le (by rw [← HN1.out]; exact Nat.le_refl _)] at this
            unfold great
            rw [this, ← HN1.out]
            simp
            omega
          have HG := Lib.hid hg
          clear hg
          go_wp2_with fail
          go_ret
          exact ⟨by rw [HG.out]; rfl, rfl⟩
    refine key ls.length rfl e1 (fun hp => ?_)
    obtain ⟨b, off, cap', e', _⟩ := h.spot hp
    rw [e1] at e'
    cases e'
    exact ⟨b, off, rfl⟩

end Go.Proofs.YtgndidjfjdaagaaDoor