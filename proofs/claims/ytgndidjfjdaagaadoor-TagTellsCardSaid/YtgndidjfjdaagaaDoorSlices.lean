/-
  A slice of slices of bytes of the call's own (OwS), what is appended to it; bytes that may be written over (RdU); the parts of a text (prts).
-/
import Derived.Test.YtgndidjfjdaagaaDoorTag
import Derived.Test.YtgndidjfjdaagaaDoorRange
set_option linter.unusedSimpArgs false
set_option linter.unusedVariables false
namespace Go.Proofs.YtgndidjfjdaagaaDoor
open Go.RowKit

/-- A slice of bytes that may be written over: where there is a byte, its block is cells that are not frozen. -/
def RdU (w : World) (lo hi : Nat) (v : Value) (l : List UInt8) : Prop :=
  RdB w lo hi v l ∧ ∀ b off n cap, v = .slice (some ⟨b, off, none⟩) n cap → l ≠ [] → ∃ cur t, Blk w b cur t

theorem RdU.mono {w : World} {lo hi lo' hi' : Nat} {v : Value} {l : List UInt8} (h : RdU w lo hi v l) (h1 : lo' ≤ lo) (h2 : hi ≤ hi') : RdU w lo' hi' v l := ⟨h.1.mono h1 h2, h.2⟩

theorem RdU.kept {w w' : World} {lo hi a b : Nat} {v : Value} {l : List UInt8} (h : RdU w lo hi v l) (hf : Fr a b w w') (ho : hi ≤ a ∨ b ≤ lo) : RdU w' lo hi v l := by
  refine ⟨h.1.kept hf ho, fun b' off n cap e hl => ?_⟩
  obtain ⟨cur, t, hb⟩ := h.2 b' off n cap e hl
  obtain ⟨_, _, _, e2, _, _, h1, h2, _⟩ := h.1.place (List.length_pos_iff.2 hl)
  rw [e] at e2
  cases e2
  exact ⟨cur, t, hb.kept hf (by omega)⟩

theorem RdU.ch {Bn n₀ : Nat} {w w' : World} {lo hi : Nat} {v : Value} {l : List UInt8} (h : RdU w lo hi v l) (hc : Ch Bn n₀ w w') (hg : hi ≤ Bn ∨ Bn < lo) : RdU w' lo hi v l := by
  refine ⟨h.1.ch hc hg, fun b' off n cap e hl => ?_⟩
  obtain ⟨cur, t, hb⟩ := h.2 b' off n cap e hl
  obtain ⟨_, _, _, e2, _, _, h1, h2, _⟩ := h.1.place (List.length_pos_iff.2 hl)
  rw [e] at e2
  cases e2
  exact ⟨cur, t, hb.ch hc (by omega)⟩

theorem OwB.rdU {w : World} {lo hi : Nat} {v : Value} {l : List UInt8} (h : OwB w lo hi v l) : RdU w lo hi v l := by
  refine ⟨h.rd, fun b off n cap e hl => ?_⟩
  rcases h with ⟨_, rfl⟩ | ⟨rfl, _⟩ | ⟨g, off', cap', cur, e', _, _, hb, _⟩
  · exact absurd rfl hl
  · exact absurd rfl hl
  · rw [e] at e'
    cases e'
    exact ⟨_, _, hb⟩

theorem RdU.sub {w : World} {lo hi : Nat} {a : Option Addr} {n cap : Nat} {l : List UInt8} (h : RdU w lo hi (.slice a n cap) l) (i j m : Nat) (hij : i ≤ j) (hj : j ≤ l.length) (hm : j ≤ m) (hmc : m ≤ cap) :
    RdU w lo hi (.slice (subA a m i) (j - i) (m - i)) ((l.take j).drop i) := by
  refine ⟨h.1.sub i j m hij hj hm hmc, fun b off n' cap' e hl => ?_⟩
  have hl0 : l ≠ [] := by rintro rfl; simp at hl
  obtain ⟨b0, off0, cap0, e0, _⟩ := h.1.spot (List.length_pos_iff.2 hl0)
  cases e0
  obtain ⟨cur, t, hb⟩ := h.2 _ _ _ _ rfl hl0
  simp only [Value.slice.injEq] at e
  have e1 := e.1
  unfold subA at e1
  split at e1
  · cases e1; exact ⟨cur, t, hb⟩
  · simp [Addr.add_lit] at e1
    rw [← e1.1]
    exact ⟨cur, t, hb⟩

/-- A slice of slices of bytes, of the call's own, in blocks from n₀ on, below h. -/
def OwS (w : World) (n₀ h : Nat) (v : Value) (ls : List (List UInt8)) : Prop :=
  (v = .slice none 0 0 ∧ ls = []) ∨ ∃ (g cap : Nat) (us rest : List Value) (los his : Nat → Nat), v = .slice (some ⟨g, 0, none⟩) ls.length cap ∧ n₀ ≤ g ∧ g < h ∧ Blk w g (us ++ rest) 24 ∧ us.length = ls.length ∧ us.length + rest.length = cap ∧ cap ≤ maxLen ∧
    ∀ j (hj : j < ls.length), ∃ a c, us[j]? = some (.slice a ls[j].length c) ∧ RdU w (los j) (his j) (.slice a ls[j].length c) ls[j] ∧ n₀ ≤ los j ∧ his j ≤ h ∧ (g < los j ∨ his j ≤ g) ∧ ∀ i, i < j → his i ≤ los j

theorem OwS.nil (w : World) (n₀ h : Nat) : OwS w n₀ h (.slice none 0 0) [] := .inl ⟨rfl, rfl⟩
theorem OwS.mono {w : World} {n₀ h h' : Nat} {v : Value} {ls : List (List UInt8)} (k : OwS w n₀ h v ls) (hh : h ≤ h') : OwS w n₀ h' v ls := by
  rcases k with k | ⟨g, cap, us, rest, los, his, e, h1, h2, h3, h4, h5, h6, h7⟩
  · exact .inl k
  · exact .inr ⟨g, cap, us, rest, los, his, e, h1, by omega, h3, h4, h5, h6, fun j hj => let ⟨a, c, r1, r2, r3, r4, r5⟩ := h7 j hj; ⟨a, c, r1, r2, r3, by omega, r5⟩⟩
theorem OwS.kept {w w' : World} {n₀ h a b : Nat} {v : Value} {ls : List (List UInt8)} (k : OwS w n₀ h v ls) (hf : Fr a b w w') (ho : h ≤ a ∨ b ≤ n₀) : OwS w' n₀ h v ls := by
  rcases k with k | ⟨g, cap, us, rest, los, his, e, h1, h2, h3, h4, h5, h6, h7⟩
  · exact .inl k
  · exact .inr ⟨g, cap, us, rest, los, his, e, h1, h2, h3.kept hf (by omega), h4, h5, h6, fun j hj => let ⟨a, c, r1, r2, r3, r4, r5⟩ := h7 j hj; ⟨a, c, r1, r2.kept hf (by omega), r3, r4, r5⟩⟩
theorem OwS.ch {Bn m₀ : Nat} {w w' : World} {n₀ h : Nat} {v : Value} {ls : List (List UInt8)} (k : OwS w n₀ h v ls) (hc : Ch Bn m₀ w w') (ho : Bn < n₀) : OwS w' n₀ h v ls := by
  rcases k with k | ⟨g, cap, us, rest, los, his, e, h1, h2, h3, h4, h5, h6, h7⟩
  · exact .inl k
  · exact .inr ⟨g, cap, us, rest, los, his, e, h1, h2, h3.ch hc (by omega), h4, h5, h6, fun j hj => let ⟨a, c, r1, r2, r3, r4, r5⟩ := h7 j hj; ⟨a, c, r1, r2.ch hc (by omega), r3, r4, r5⟩⟩

theorem OwS.form {w : World} {n₀ h : Nat} {v : Value} {ls : List (List UInt8)} (k : OwS w n₀ h v ls) : ∃ a c, v = .slice a ls.length c := by
  rcases k with ⟨rfl, rfl⟩ | ⟨g, cap, us, rest, los, his, e, _⟩
  · exact ⟨_, _, rfl⟩
  · exact ⟨_, _, e⟩

theorem OwS.rds {w : World} {n₀ h : Nat} {v : Value} {ls : List (List UInt8)} (k : OwS w n₀ h v ls) : RdS w n₀ h v ls := by
  rcases k with ⟨rfl, rfl⟩ | ⟨g, cap, us, rest, los, his, rfl, h1, h2, h3, h4, h5, h6, h7⟩
  · exact RdS.nil _ _ _
  · refine ⟨_, cap, rfl, by omega, h6, (fun h => by cases h), fun _ => ⟨g, 0, rfl, h1, h2, fun j hj => ?_⟩⟩
    obtain ⟨a, c, r1, r2, r3, r4, _⟩ := h7 j hj
    refine ⟨_, ?_, r2.1.mono r3 r4⟩
    rw [h3.cell, Nat.zero_add, List.getElem?_append_left (by omega), r1]

theorem inf22 : (Tryd.prog.info? 24).map (fun i => (i.zero, i.size, i.bytes)) = some (some (.slice none 0 0), 1, 24) := by kernel_rfl

/-- 'append(v, u)': one slice of bytes more, that lies in the new block x. -/
theorem run_append_slice {t : TypeId} (und : Tryd.prog.underlying t = some (.slice 24)) {w : World} {n₀ h lo hi x : Nat} {v : Value} {ls : List (List UInt8)} {a : Option Addr} {c : Nat} {p : List UInt8} (ty : TypeId)
    (k : OwS w n₀ h v ls) (hp : RdU w lo hi (.slice a p.length c) p) (hx : Blk w x [.slice a p.length c] 24) (hlo : h ≤ lo) (hhi : hi ≤ w.heap.size) (hn : n₀ ≤ h) (hh : h ≤ w.heap.size) (hsz : ls.length + 1 ≤ 1073741824) :
    ∃ v' w', (Builtin.append_ #[t, t] ty #[v, .slice (some ⟨x, 0, none⟩) 1 1]).run Tryd.prog w = .ok v' w' ∧ OwS w' n₀ w'.heap.size v' (ls ++ [p]) ∧ Fr n₀ h w w' ∧ ∀ k, k < w.heap.size → (k < n₀ ∨ h ≤ k ∨ ∀ L, ¬ Blk w k L 24) → w'.heap[k]? = w.heap[k]? := by
  obtain ⟨i, hi0, hz0, hz1, hz2⟩ := info_parts inf22
  have hnews : ∀ j u, ([.slice a p.length c] : List Value)[j]? = some u → w.cell? ((⟨x, 0, none⟩ : Addr).add j) = some u := fun j u hj => by
    rw [Addr.add_lit, hx.cell]
    simpa using hj
  have hone : ∀ u ∈ ([.slice a p.length c] : List Value), u.oneCell' = true := fun u hu => by simp at hu; rw [hu]; rfl
  rcases k with ⟨rfl, rfl⟩ | ⟨g, cap, us, rest, los, his, rfl, h1, h2, h3, h4, h5, h6, h7⟩
  · obtain ⟨v', w', hr, ⟨r1, r2⟩, r3, _⟩ := run_append_own (P := Tryd.prog) w w.heap.size t ty 24 i (.slice none 0 0) 1 24 und hi0 hz0 hz1 hz2 rfl (by omega) (.slice none 0 0) 0 [] (World.ownsRow_nil w _ _ _)
      ⟨x, 0, none⟩ 1 1 [.slice a p.length c] (by simp) hnews hone (by unfold maxLen; omega) (by omega) (Nat.le_refl _)
    have hF : Fr 0 0 w w' := Fr.of_grown r3 (fun k hk => by simp [Value.ownBlock] at hk)
    refine ⟨v', w', hr, ?_, hF.mono (.inr (Nat.le_refl _)) (.inr (Nat.le_refl _)), fun k hk _ => hF.block k hk (.inr (Nat.zero_le _))⟩
    rcases r2 with ⟨_, e⟩ | ⟨g, cap, cur, rfl, hg, hb, q1, q2, q3, q4⟩
    · omega
    · refine .inr ⟨g, cap, [.slice a p.length c], cur.toList.drop 1, fun _ => lo, fun _ => hi, rfl, by omega, (Array.getElem?_eq_some_iff.1 hb).1, ?_, rfl, by simp; omega, q2, ?_⟩
      · have e : [.slice a p.length c] ++ cur.toList.drop 1 = cur.toList := by
          have := List.take_append_drop 1 cur.toList
          simp at q4
          rw [q4] at this
          simpa using this
        unfold Blk
        rw [e]
        simpa using hb
      · intro j hj
        obtain rfl : j = 0 := by simpa using hj
        exact ⟨a, c, rfl, hp.kept hF (.inr (Nat.zero_le _)), (by show n₀ ≤ lo; omega), (by show hi ≤ w'.heap.size; have := hF.size; omega), .inr (by show hi ≤ g; omega), fun i hi => by omega⟩
  · have hus : w.ownsRow g 24 1 (.slice (some ⟨g, 0, none⟩) ls.length cap) ls.length us := by
      refine ⟨by omega, .inr ⟨g, cap, (us ++ rest).toArray, rfl, Nat.le_refl _, h3, by omega, h6, by simp; omega, ?_⟩⟩
      simp [h4]
    have hsame : ∀ j (hj : j < ls.length), us[j]? = (us ++ [.slice a p.length c])[j]? := fun j hj => by rw [List.getElem?_append_left (by omega)]
    by_cases hroom : ls.length + 1 ≤ cap
    · obtain ⟨w', hr, ⟨r1, r2⟩, r3⟩ := run_append_fits (P := Tryd.prog) w g t ty 24 i 1 und hi0 hz1 g ls.length cap us hus ⟨x, 0, none⟩ 1 1 [.slice a p.length c] (by simp) hnews hone hroom
      have hF : Fr g (g + 1) w w' := Fr.of_grown r3 (fun k hk => by cases hk; omega)
      refine ⟨_, w', hr, ?_, hF.mono (.inl h1) (.inl (by omega)), fun k hk ho => hF.block k hk (by
        rcases ho with ho | ho | ho
        · omega
        · omega
        · have : k ≠ g := fun e => ho _ (e ▸ h3)
          omega)⟩
      rcases r2 with ⟨e, _⟩ | ⟨g', cap', cur, e, hg, hb, q1, q2, q3, q4⟩
      · cases e
      · cases e
        refine .inr ⟨g, cap, us ++ [.slice a p.length c], cur.toList.drop (ls.length + 1), fun k => if k < ls.length then los k else lo, fun k => if k < ls.length then his k else hi, by simp, h1, (Array.getElem?_eq_some_iff.1 hb).1, ?_, by simp [h4], by simp; omega, q2, ?_⟩
        · have e : us ++ [.slice a p.length c] ++ cur.toList.drop (ls.length + 1) = cur.toList := by
            have := List.take_append_drop (ls.length + 1) cur.toList
            rw [Nat.mul_one] at q4
            rw [q4] at this
            exact this
          unfold Blk
          rw [e]
          simpa using hb
        · intro j hj
          rw [List.length_append, List.length_singleton] at hj
          have hz := hF.size
          by_cases hjl : j < ls.length
          · obtain ⟨a2, c2, s1, s2, s3, s4, s5, s6⟩ := h7 j hjl
            simp only [if_pos hjl]
            refine ⟨a2, c2, ?_, ?_, s3, by omega, s5, fun i hi => by rw [if_pos (by omega)]; exact s6 i hi⟩
            · rw [← hsame j hjl, s1, List.getElem_append_left hjl]
            · rw [List.getElem_append_left hjl]
              exact s2.kept hF (by omega)
          · obtain rfl : j = ls.length := by omega
            simp only [Nat.lt_irrefl, if_false]
            refine ⟨a, c, ?_, ?_, by omega, by omega, .inl (by omega), fun i hi => by rw [if_pos hi]; obtain ⟨_, _, _, _, _, q, _⟩ := h7 i hi; omega⟩
            · rw [List.getElem?_append_right (by omega), h4]
              simp
            · simp only [List.getElem_concat_length]
              exact hp.kept hF (.inr (by omega))
    · have holds : ∀ j u, us[j]? = some u → w.cell? ((⟨g, 0, none⟩ : Addr).add j) = some u := fun j u hj => by
        rw [Addr.add_lit, h3.cell, Nat.zero_add, List.getElem?_append_left (List.getElem?_eq_some_iff.1 hj).1]
        exact hj
      obtain ⟨v', w', hr, ⟨r1, r2⟩, r3⟩ := run_append_arg_grows (P := Tryd.prog) w t ty 24 i (.slice none 0 0) 1 24 und hi0 hz0 hz1 hz2 rfl (by omega) ⟨g, 0, none⟩ ls.length cap us (by simp [h4]) holds
        ⟨x, 0, none⟩ 1 1 [.slice a p.length c] (by simp) hnews (by omega) (by unfold maxLen; omega) (by omega)
      have hF : Fr 0 0 w w' := Fr.of_grown r3 (fun k hk => by cases hk)
      refine ⟨v', w', hr, ?_, hF.mono (.inr (Nat.le_refl _)) (.inr (Nat.le_refl _)), fun k hk _ => hF.block k hk (.inr (Nat.zero_le _))⟩
      have hz := hF.size
      rcases r2 with ⟨_, e⟩ | ⟨g', cap', cur, rfl, hg, hb, q1, q2, q3, q4⟩
      · omega
      · refine .inr ⟨g', cap', us ++ [.slice a p.length c], cur.toList.drop (ls.length + 1), fun k => if k < ls.length then los k else lo, fun k => if k < ls.length then his k else hi, by simp, by omega, (Array.getElem?_eq_some_iff.1 hb).1, ?_, by simp [h4], by simp; omega, q2, ?_⟩
        · have e : us ++ [.slice a p.length c] ++ cur.toList.drop (ls.length + 1) = cur.toList := by
            have := List.take_append_drop (ls.length + 1) cur.toList
            rw [Nat.mul_one] at q4
            rw [q4] at this
            exact this
          unfold Blk
          rw [e]
          simpa using hb
        · intro j hj
          rw [List.length_append, List.length_singleton] at hj
          by_cases hjl : j < ls.length
          · obtain ⟨a2, c2, s1, s2, s3, s4, s5, s6⟩ := h7 j hjl
            simp only [if_pos hjl]
            refine ⟨a2, c2, ?_, ?_, s3, by omega, .inr (by omega), fun i hi => by rw [if_pos (by omega)]; exact s6 i hi⟩
            · rw [← hsame j hjl, s1, List.getElem_append_left hjl]
            · rw [List.getElem_append_left hjl]
              exact s2.kept hF (.inr (Nat.zero_le _))
          · obtain rfl : j = ls.length := by omega
            simp only [Nat.lt_irrefl, if_false]
            refine ⟨a, c, ?_, ?_, by omega, by omega, .inr (by omega), fun i hi => by rw [if_pos hi]; obtain ⟨_, _, _, _, _, q, _⟩ := h7 i hi; omega⟩
            · rw [List.getElem?_append_right (by omega), h4]
              simp
            · simp only [List.getElem_concat_length]
              exact hp.kept hF (.inr (Nat.zero_le _))

section
variable {ops : Array Oper} {rest : List Oper} {o : Oper} {ac : Act} {w : World} {Q : Exit → Act → World → Prop}

/-- 'append(v, u)', u a slice of bytes that lies in the new block x. -/
theorem wpl_append_slice {t : TypeId} (und : Tryd.prog.underlying t = some (.slice 24)) {s y : Operand} {n₀ h lo hi x : Nat} {v : Value} {ls : List (List UInt8)} {a : Option Addr} {c : Nat} {p : List UInt8}
    (k : OwS w n₀ h v ls) (hp : RdU w lo hi (.slice a p.length c) p) (hx : Blk w x [.slice a p.length c] 24) (hlo : h ≤ lo) (hhi : hi ≤ w.heap.size) (hn : n₀ ≤ h) (hh : h ≤ w.heap.size) (hsz : ls.length + 1 ≤ 1073741824)
    (hg : o.guard = none) (hop : o.op = .call { callee := .builtin .append, args := #[s, y], argTypes := #[t, t] }) (hs : ac.eval s = v) (hy : ac.eval y = .slice (some ⟨x, 0, none⟩) 1 1)
    (hK : ∀ a' c' w', OwS w' n₀ w'.heap.size (.slice a' (ls.length + 1) c') (ls ++ [p]) → Fr n₀ h w w' → (∀ k, k < w.heap.size → (k < n₀ ∨ h ≤ k ∨ ∀ L, ¬ Blk w k L 24) → w'.heap[k]? = w.heap[k]?) → wpList Tryd.prog ops Q rest (ac.put o.dst (.slice a' (ls.length + 1) c')) w') : wpList Tryd.prog ops Q (o :: rest) ac w := by
  obtain ⟨v', w', hr, h1, h2, h3⟩ := run_append_slice und o.type k hp hx hlo hhi hn hh hsz
  obtain ⟨a', c', rfl⟩ : ∃ a' c', v' = .slice a' (ls.length + 1) c' := by
    obtain ⟨a', c', e⟩ := h1.form
    exact ⟨a', c', by rw [e, List.length_append]; rfl⟩
  refine wpl_val hg (v := .slice a' (ls.length + 1) c') (w' := w') ?_ (hK a' c' w' h1 h2 h3)
  simp [execOp, hop, resolve, invoke, builtin, hs, hy, hr]
end

/-! ### The parts of a text -/

/-- The parts of a text, and, where it is none, the error. -/
def prts : Nat → List UInt8 → List (List UInt8) × Nat
  | 0, _ => ([], 0)
  | f + 1, l =>
    if l = [] then ([], 0) else if l.length < 4 then ([], 10) else if 4096 < beN (l.take 4) then ([], 4) else if (l.drop 4).length < beN (l.take 4) then ([], 10)
    else (((l.drop 4).take (beN (l.take 4))) :: (prts f ((l.drop 4).drop (beN (l.take 4)))).1, (prts f ((l.drop 4).drop (beN (l.take 4)))).2)

end Go.Proofs.YtgndidjfjdaagaaDoor
