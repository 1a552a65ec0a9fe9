/-
  tag.each, tag.Parts.
-/
import Derived.Test.YtgndidjfjdaagaaDoorLift
set_option linter.unusedSimpArgs false
set_option linter.unusedVariables false
namespace Go.Proofs.YtgndidjfjdaagaaDoor
open Go.RowKit

attribute [local go_sem] Oper.semAt_some WF_round WF_fn WF_depth

theorem run_sliceK {k1 k2 k3 : IntKind} {w : World} {ad : Option Addr} {n cap : Nat} (lo hi mx : Option Value) (I J M : Nat) (hM : mx = some (.int k3 M) ∧ M ≤ cap ∨ mx = none ∧ M = cap) (hJ : hi = some (.int k2 J) ∧ J ≤ M ∨ hi = none ∧ mx = none ∧ J = n)
    (hI : lo = some (.int k1 I) ∧ I ≤ J ∨ lo = none ∧ I = 0) :
    (Instr.sliceAt 24 (.slice ad n cap) lo hi mx).run Tryd.prog w = .ok (.slice (subA ad M I) (J - I) (M - I)) w := by
  obtain ⟨i, hi0, hz0, hz1, hz2⟩ := info_parts inf5
  rcases hM with ⟨rfl, hM⟩ | ⟨rfl, rfl⟩ <;> rcases hJ with ⟨rfl, hJ⟩ | ⟨rfl, hmx, rfl⟩ <;> rcases hI with ⟨rfl, hI⟩ | ⟨rfl, rfl⟩ <;> first
    | (cases hmx; done)
    | simp [Instr.sliceAt, Instr.slice, run_underlying und22, Instr.sliceBounds, Instr.sliceBound, asIntOf, sizeOf, typeInfo, hi0, hz1, subA, *]

set_option maxRecDepth 100000 in
set_option maxHeartbeats 1000000 in
/-- fail(c): 'yield(nil, c)', whose round leaves the loop. -/
theorem c_fail {n : Nat} {W : World} {l yb : Nat} {c : Int} {X : World → Prop} (hb : W.cell? ⟨yb, 0, none⟩ = some (.func (.yield l) #[] #[]))
    (hY : YieldAt (WF none) (n - 1) Tryd.prog l #[.slice none 0 0, .int .i64 c] W fun e W' => e = .returned (.bool false) ∧ X W') :
    CallsIn (WF none) n Tryd.prog 143 #[.int .i64 c, .pointer (some ⟨yb, 0, none⟩)] W fun e W' => (∃ v, e = .returned v) ∧ X W' := by
  refine callsIn_of_wp Tryd.func143 rfl trivial ?_ rfl
  simp only [Tryd.ntmps143, List.size_toArray, List.length_cons, List.length_nil, Nat.reduceAdd, Nat.reduceSub, Array.replicate_succ, Array.replicate_zero, List.push_toArray, List.append_toArray, List.nil_append, List.cons_append]
  obtain ⟨fn, tmps, assign, body, hy, hR⟩ := hY
  gi_wp2
  refine hR.mono ?_
  rintro e W3 ⟨rfl, hX⟩
  gi_wp2
  go_end0
  exact ⟨⟨_, rfl⟩, hX⟩

set_option maxHeartbeats 400000 in
theorem c_TakeShort {w : World} {lo hi : Nat} {v : Value} {l : List UInt8} (h : RdB w lo hi v l) (hn : l.length < 4) :
    Calls Tryd.prog 106 #[v, .int .i64 4] w fun e w' => e = .returned (.tuple #[.int .u64 0, .slice none 0 0, .int .i64 10]) ∧ w = w' := by
  obtain ⟨a, c, rfl, _⟩ := h.form
  clear h
  go_enter Tryd.func106, Tryd.ntmps106
  go_wp2_with fail
  go_ret3
  exact ⟨rfl, rfl⟩

theorem siz22 : (Tryd.prog.info? 24).map (·.size) = some 1 := by kernel_rfl

theorem RdB.keptK {w w' : World} {lo hi : Nat} {v : Value} {l : List UInt8} (h : RdB w lo hi v l) (hk : ∀ k, lo ≤ k → k < hi → w'.heap[k]? = w.heap[k]?) : RdB w' lo hi v l := by
  obtain ⟨x, cap, e, r1, r2, r3, r4⟩ := h
  refine ⟨x, cap, e, r1, r2, r3, fun hl => ?_⟩
  obtain ⟨b, off, e2, hb1, hb2, hc⟩ := r4 hl
  exact ⟨b, off, e2, hb1, hb2, fun j hj => (World.cell?_of_block (hk b hb1 hb2)).trans (hc j hj)⟩

/-- What is yielded: a part, or an error. -/
abbrev Yd := Value × List UInt8 × Nat
def encY (x : Yd) : Array Value := #[x.1, .int .i64 (x.2.2 : Int)]
def VY (N : Nat) (s : List (List UInt8)) (x : Yd) (W1 W2 : World) : Prop := (x.2.2 = 0 ∧ 4 * (s.length + 1) ≤ N ∧ RdU W2 W1.heap.size W2.heap.size x.1 x.2.1 ∧ ∃ a, x.1 = .slice a x.2.1.length x.2.1.length) ∨ (x.2.2 ≠ 0 ∧ x.1 = .slice none 0 0)
def goesY (x : Yd) : Prop := x.2.2 = 0
instance : DecidablePred goesY := fun x => by unfold goesY; infer_instance
def nxY (s : List (List UInt8)) (x : Yd) : List (List UInt8) := s ++ [x.2.1]

/-- A slice's length. -/
def lenV : Value → Nat
  | .slice _ n _ => n
  | _ => 0

/-- How many bytes the box holds. -/
def lenAt (W : World) (g : Nat) : Nat := match W.cell? ⟨g, 0, none⟩ with | some v => lenV v | none => 0
theorem lenAt_eq {W : World} {g n c : Nat} {a : Option Addr} {t : TypeId} (h : Blk W g [.slice a n c] t) : lenAt W g = n := by
  unfold lenAt
  rw [h.cell]
  rfl

theorem prts_nil (f : Nat) : prts f [] = ([], 0) := by cases f <;> rfl

set_option maxRecDepth 100000 in
set_option maxHeartbeats 2000000 in
/-- The iterator over the parts of L. -/
theorem c_each1 {n : Nat} {w : World} {Bn lo hi : Nat} {v : Value} {L : List UInt8} (hb : Blk w Bn [v] 24) (h : RdB w lo hi v L) (hl : L.length ≤ 1073741824) (hhi : hi ≤ w.heap.size) (hh : hi ≤ Bn ∨ Bn < lo) :
    SeqB n Tryd.prog 142 #[.pointer (some ⟨Bn, 0, none⟩)] Bn 202 encY (VY L.length) goesY nxY [] (fun s => (prts L.length L).2 = 0 ∧ s = (prts L.length L).1) (fun x => x.2.2 = (prts L.length L).2 ∧ x.2.2 ≠ 0) w := by
  intro l J Jx W hW hJ hY h0
  have hbs := hb.lt
  have hb1 := hb.kept hW (.inr (Nat.zero_le _))
  have h1 := h.kept hW (.inr (Nat.zero_le _))
  show CallsIn (WF none) n _ _ _ _ _
  refine callsIn_of_wp Tryd.func142 rfl trivial ?_ rfl
  simp only [Tryd.ntmps142, List.size_toArray, List.length_cons, List.length_nil, Nat.reduceAdd, Nat.reduceSub, Array.replicate_succ, Array.replicate_zero, List.push_toArray, List.append_toArray, List.nil_append, List.cons_append]
  gi_wp2_with (refine lift (fun _ h => by cases h) ?_; refine wpl_box [.func (.yield l) #[] #[]] rfl rfl rfl rfl ?_; intro yb W2 hyb hF2 hyb1 hyb2; refine nilN ?_)
  have hB2 := hb1.kept hF2 (.inr (Nat.zero_le _))
  have hR2 := h1.kept hF2 (.inr (Nat.zero_le _))
  have hJ2 := hJ _ _ _ h0 (hF2.mono (.inr (Nat.le_refl _)) (.inr (Nat.le_refl _)))
  have hz := hW.size
  have hz2 := hF2.size
  have hyBn : yb ≠ Bn := by have := hb1.lt; omega
  clear hb hb1 h h1 h0 hW
  gi_loopw [4] (fun _ wr => ∃ (s : List (List UInt8)) (rest : List UInt8) (k : Nat) (a : Option Addr) (c lo hi : Nat), Blk wr Bn [.slice a rest.length c] 24 ∧ RdB wr lo hi (.slice a rest.length c) rest ∧ Hid (prts L.length L = (s ++ (prts k rest).1, (prts k rest).2)) ∧ rest.length ≤ k ∧ 4 * s.length + rest.length ≤ L.length ∧ J s wr ∧ Blk wr yb [.func (.yield l) #[] #[]] 202 ∧ W2.heap.size ≤ wr.heap.size) (fun _ wr => lenAt wr Bn)
  case atStart =>
    obtain ⟨a, c, rfl, _⟩ := hR2.form
    exact ⟨[], L, L.length, a, c, lo, hi, hB2, hR2, (show _ = _ by simp), Nat.le_refl _, by simp, hJ2, hyb, Nat.le_refl _⟩
  case round =>
    obtain ⟨s, rest, k, a, c, lo', hi', hB, hR, hP, hk, hkL, hJs, hy, hzr⟩ := hrel
    have hcb := hB.cell 0
    simp only [List.getElem?_cons_zero] at hcb
    by_cases h0 : rest.length = 0
    · obtain rfl := List.length_eq_zero_iff.1 h0
      clear h0
      gi_wp2
      go_end0
      have e := hP.out
      rw [prts_nil] at e
      exact ⟨⟨_, rfl⟩, .inl ⟨s, ⟨by rw [e], by rw [e]; simp⟩, hJs⟩⟩
    · have h0' : 0 < rest.length := by omega
      clear h0
      have hrest : rest ≠ [] := by rintro rfl; simp at h0'
      obtain ⟨k, rfl⟩ : ∃ k', k = k' + 1 := ⟨k - 1, by omega⟩
      have hP' := hP.out
      rw [prts, if_neg hrest] at hP'
      have herr : ∀ (code : Nat) (wx : World), code ≠ 0 → Fr 0 0 wr wx → ∀ m, YieldAt (WF none) m Tryd.prog l #[.slice none 0 0, .int .i64 (code : Int)] wx (fun e W' => e = .returned (.bool false) ∧ Jx (.slice none 0 0, [], code) W') := by
        intro code wx hc hf m
        refine YieldAt.mono (hY s (.slice none 0 0, [], code) wr wx hJs (hf.mono (.inr (Nat.le_refl _)) (.inr (Nat.le_refl _))) (.inr ⟨hc, rfl⟩) m) ?_
        rintro e W' (⟨hg, _⟩ | ⟨_, h2, h3⟩)
        · exact absurd hg hc
        · exact ⟨h2, h3⟩
      have hcy := hy.cell 0
      simp only [List.getElem?_cons_zero] at hcy
      by_cases h4 : rest.length < 4
      · rw [if_pos h4] at hP'
        have HP := Lib.hid hP'
        clear hP hP' hrest
        gi_wp2_with (first
          | (gi_at_call 106; refine (callsWF (c_TakeShort hR h4)).mono ?_; rintro e w' ⟨rfl, rfl⟩)
          | (gi_at_call 143; refine (c_fail hcy (herr 10 wr (by decide) (Fr.refl _ _ _) _)).mono ?_; rintro e W3 ⟨⟨v, rfl⟩, hX⟩))
        refine bodyPost_ret (results_none rfl _ _ _) rfl ?_
        exact ⟨⟨_, rfl⟩, .inr ⟨(.slice none 0 0, [], 10), ⟨by rw [HP.out], by decide⟩, hX⟩⟩
      · rw [if_neg h4] at hP'
        obtain ⟨N, hN⟩ : ∃ N, N = beN (rest.take 4) := ⟨_, rfl⟩
        have hNb : N < 4294967296 := by rw [hN]; have := beN_lt (rest.take 4); rw [List.length_take, Nat.min_eq_left (by omega)] at this; simpa using this
        rw [← hN] at hP'
        have HN := Lib.hid hN
        have h4' : 4 ≤ rest.length := by omega
        clear hN h4
        by_cases hm : 4096 < N
        · rw [if_pos hm] at hP'
          have HP := Lib.hid hP'
          clear hP hP' hrest
          gi_wp2_with (first
            | (gi_at_call 106; refine (callsWF (c_Take 4 hR (by omega) (by omega) (by omega) h4')).mono ?_; rintro e w3 ⟨v3, rfl, hO3, hF3⟩; rw [← HN.out]; have hcy3 := hF3.cell hcy (.inr (Nat.zero_le _)))
            | (gi_at_call 143; refine (c_fail hcy3 (herr 4 w3 (by decide) hF3 _)).mono ?_; rintro e W3 ⟨⟨v, rfl⟩, hX⟩))
          refine bodyPost_ret (results_none rfl _ _ _) rfl ?_
          exact ⟨⟨_, rfl⟩, .inr ⟨(.slice none 0 0, [], 4), ⟨by rw [HP.out], by decide⟩, hX⟩⟩
        · rw [if_neg hm] at hP'
          have hdl : (rest.drop 4).length = rest.length - 4 := by rw [List.length_drop]
          rw [hdl] at hP'
          obtain ⟨M, hM⟩ : ∃ M, M = rest.length - 4 := ⟨_, rfl⟩
          rw [← hM] at hP' hdl
          have HDL := Lib.hid hdl
          have hMb : M ≤ 1073741824 := by omega
          have HM := Lib.hid hM
          clear hM hdl
          by_cases hs : M < N
          · rw [if_pos hs] at hP'
            have HP := Lib.hid hP'
            clear hP hP' hrest
            gi_wp2_with (first
              | (gi_at_call 106; refine (callsWF (c_Take 4 hR (by omega) (by omega) (by omega) h4')).mono ?_; rintro e w3 ⟨v3, rfl, hO3, hF3⟩; rw [← HN.out]; have hcy3 := hF3.cell hcy (.inr (Nat.zero_le _)); obtain ⟨a3, c3, rfl⟩ : ∃ a c, v3 = .slice a M c := (let ⟨x, y, e, _⟩ := hO3.rd.form; ⟨x, y, by rw [e, HDL.out]⟩))
              | (gi_at_call 143; refine (c_fail hcy3 (herr 10 w3 (by decide) hF3 _)).mono ?_; rintro e W3 ⟨⟨v, rfl⟩, hX⟩))
            refine bodyPost_ret (results_none rfl _ _ _) rfl ?_
            exact ⟨⟨_, rfl⟩, .inr ⟨(.slice none 0 0, [], 10), ⟨by rw [HP.out], by decide⟩, hX⟩⟩
          · rw [if_neg hs] at hP'
            have HP := Lib.hid hP'
            clear hP hP' hrest herr
            gi_wp2_with (first
              | (gi_at_call 106; refine (callsWF (c_Take 4 hR (by omega) (by omega) (by omega) h4')).mono ?_; rintro e w3 ⟨v3, rfl, hO3, hF3⟩; rw [← HN.out]; have hcy3 := hF3.cell hcy (.inr (Nat.zero_le _)); obtain ⟨a3, c3, rfl, hc3, hc3'⟩ : ∃ a c, v3 = .slice a M c ∧ M ≤ c ∧ c ≤ maxLen := (let ⟨x, y, e, h1, h2, _⟩ := hO3.rd.form; ⟨x, y, by rw [e, HDL.out], by rw [← HDL.out]; exact h1, h2⟩)))
            have hsl : ∀ w, (Instr.sliceAt 24 (.slice a3 M c3) none (some (.int .u64 (N : Int))) (some (.int .u64 (N : Int)))).run Tryd.prog w = .ok (.slice (subA a3 N 0) N N) w := fun w => by
              have := run_sliceK (k1 := .u64) (k2 := .u64) (k3 := .u64) (w := w) (ad := a3) (n := M) (cap := c3) none (some (.int .u64 (N : Int))) (some (.int .u64 (N : Int))) 0 N N (.inl ⟨rfl, by omega⟩) (.inl ⟨rfl, Nat.le_refl _⟩) (.inr ⟨rfl, rfl⟩)
              simpa using this
            have hdr : Fr 0 0 w3 w3.drew := Fr.drew _
            have hpl : ((rest.drop 4).take N).length = N := by rw [List.length_take, HDL.out]; omega
            have hrd : RdU w3.drew wr.heap.size w3.drew.heap.size (.slice (subA a3 N 0) N N) ((rest.drop 4).take N) := by
              have := (hO3.rdU.sub 0 N N (Nat.zero_le _) (by rw [HDL.out]; omega) (Nat.le_refl _) (by omega)).kept hdr (.inr (Nat.zero_le _))
              simpa using this
            have hYg : YieldAt (WF none) (n - 1) Tryd.prog l #[.slice (subA a3 N 0) N N, .int .i64 0] w3.drew (fun e W' => e = .returned (.bool true) ∧ J (s ++ [(rest.drop 4).take N]) W' ∧ w3.heap.size ≤ W'.heap.size ∧ (∀ k, (k = Bn ∨ wr.heap.size ≤ k ∧ k < w3.heap.size ∨ w.heap.size ≤ k ∧ ∃ L, Blk w3 k L 202) → W'.heap[k]? = w3.heap[k]?)) := by
              refine YieldAt.mono (hY s (.slice (subA a3 N 0) N N, (rest.drop 4).take N, 0) wr w3.drew hJs ((hF3.trans hdr).mono (.inr (Nat.le_refl _)) (.inr (Nat.le_refl _))) (.inl ⟨rfl, (show 4 * (s.length + 1) ≤ L.length by omega), hrd, subA a3 N 0, by show _ = _; rw [hpl]⟩) (n - 1)) ?_
              rintro e W' (⟨hg, h2, h3, h4, h5⟩ | ⟨h1, _⟩)
              · exact ⟨h2, h3, h4, h5⟩
              · exact absurd rfl h1
            obtain ⟨fn, tmps, assign, body, hy1, hR1⟩ := hYg
            have hpre : Hid (prts L.length L = (s ++ [(rest.drop 4).take N] ++ (prts k ((rest.drop 4).drop N)).1, (prts k ((rest.drop 4).drop N)).2)) := by
              show _ = _
              rw [HP.out]
              simp
            have hOd := hO3
            clear hrd hpl HP
            gi_region_with (refine hR1.mono ?_; rintro e W4 ⟨rfl, hJ4, hz4, hk4⟩)
            have hB4 : Blk W4 Bn [.slice a rest.length c] 24 := (hk4 Bn (.inl rfl)).trans (hB.kept hF3 (.inr (Nat.zero_le _)))
            have hyy : w.heap.size ≤ yb := by omega
            have hy4 : Blk W4 yb [.func (.yield l) #[] #[]] 202 := (hk4 yb (.inr (.inr ⟨hyy, _, hy.kept hF3 (.inr (Nat.zero_le _))⟩))).trans (hy.kept hF3 (.inr (Nat.zero_le _)))
            have hrl : ((rest.drop 4).drop N).length = M - N := by rw [List.length_drop, HDL.out]
            have hR4 : RdB W4 wr.heap.size w3.heap.size (.slice (subA a3 c3 N) (M - N) (c3 - N)) ((rest.drop 4).drop N) := by
              have := hOd.rd.sub N M c3 (by omega) (by rw [HDL.out]; exact Nat.le_refl _) hc3 (Nat.le_refl _)
              rw [List.take_of_length_le (by rw [HDL.out]; exact Nat.le_refl _)] at this
              exact this.keptK fun k h1 h2 => hk4 k (.inr (.inl ⟨h1, h2⟩))
            have hsl2 : ∀ w, (Instr.sliceAt 24 (.slice a3 M c3) (some (.int .u64 (N : Int))) none none).run Tryd.prog w = .ok (.slice (subA a3 c3 N) (M - N) (c3 - N)) w := fun w =>
              run_sliceK (k1 := .u64) (k2 := .u64) (k3 := .u64) (w := w) (ad := a3) (n := M) (cap := c3) (some (.int .u64 (N : Int))) none none N M c3 (.inr ⟨rfl, rfl⟩) (.inr ⟨rfl, rfl, rfl⟩) (.inl ⟨rfl, by omega⟩)
            have HRL := Lib.hid hrl
            have z3 := hF3.size
            have hlt := hB.lt
            clear hrl hsl
            gi_wp2_with (refine lift (fun _ h => by cases h) ?_; refine wpl_store_cell hB4 (by simp) siz22 rfl rfl rfl rfl rfl rfl ?_; intro w5 hB5 hF5; refine nilN ?_)
            refine ⟨⟨_, _, _, _, _, _, _, _, _, _, _, _, _, _, _, _, _, _, _, _, _, _, _, _, _, _, _, _, _, _, _, _, _, _, _, _, _, _, _, _, _, ?rel, rfl⟩, ?measure⟩
            case rel =>
              refine ⟨_, _, k, subA a3 c3 N, c3 - N, wr.heap.size, w3.heap.size, ?_, ?_, hpre, ?_, ?_, hJ _ _ _ hJ4 hF5, hy4.kept hF5 (by omega), ?_⟩
              · rw [HRL.out]; exact hB5
              · rw [HRL.out]; exact hR4.kept hF5 (.inr (by omega))
              · rw [HRL.out]; have := HM.out; omega
              · rw [HRL.out, List.length_append, List.length_singleton]; have := HM.out; omega
              · have := hF5.size; omega
            case measure =>
              rw [lenAt_eq hB5, lenAt_eq hB]
              have := HM.out
              omega

end Go.Proofs.YtgndidjfjdaagaaDoor
