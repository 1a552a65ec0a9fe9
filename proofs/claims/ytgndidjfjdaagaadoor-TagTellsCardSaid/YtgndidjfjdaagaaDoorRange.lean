/-
  A range over a function whose iterator keeps state of its own in a cell (a captured variable): the law of the statement, at the wide fence. The iterator is a closure over one box Bn; the loop's body leaves that box, and whatever the iterator has just laid, as they lie.
-/
import Derived.Test.YtgndidjfjdaagaaDoorBase
import Derived.RangeFuncNested
import Derived.RangeFuncBound
import Derived.RangeFuncCalls
import Derived.RangeFuncLeaves
import Derived.OwnWalkIn
import Derived.TacticsInMore
import Derived.LoopNIn
import Derived.LoopIn
set_option linter.unusedSimpArgs false
set_option linter.unusedVariables false
namespace Go.Proofs.YtgndidjfjdaagaaDoor
open Go.RowKit

theorem RoundIn.anyDepth {F : Fence} (hd : F.depth = none) {m m' : Nat} {P : Program} {l : Nat} {f : FuncId} {tmps : Array Value} {assign body : Code} {w : World} {R : Ending → World → Prop}
    (h : RoundIn F m P l f tmps assign body w R) : RoundIn F m' P l f tmps assign body w R := ⟨h.1, fun c cs _ => h.2 c cs (by simp [Fence.room, hd])⟩

/-- From A to B: what holds cells has not turned, but (it may be) block Bn; what lay below n₀ has not turned, but Bn. -/
structure Ch (Bn n₀ : Nat) (A B : World) : Prop where
  os : B.os = A.os
  tape : B.tape = A.tape
  output : B.output = A.output
  size : A.heap.size ≤ B.heap.size
  block : ∀ k, k ≠ Bn → (k < n₀ ∧ k < A.heap.size ∨ ∃ o : Obj, A.heap[k]? = some o ∧ o.isCells = true) → B.heap[k]? = A.heap[k]?

theorem Ch.of_fr {Bn n₀ : Nat} {A B : World} (h : Fr Bn (Bn + 1) A B) : Ch Bn n₀ A B :=
  ⟨h.os, h.tape, h.output, h.size, fun k hk ho => h.block k (by rcases ho with ho | ⟨o, ho, _⟩; exact ho.2; exact (Array.getElem?_eq_some_iff.1 ho).1) (by omega)⟩
theorem Ch.of_new {Bn n₀ : Nat} {A B : World} (h : Fr 0 0 A B) : Ch Bn n₀ A B := Ch.of_fr (h.mono (.inr (Nat.le_refl _)) (.inr (Nat.le_refl _)))
theorem Ch.trans {Bn n₀ : Nat} {A B C : World} (h : Ch Bn n₀ A B) (k : Ch Bn n₀ B C) : Ch Bn n₀ A C :=
  ⟨k.os.trans h.os, k.tape.trans h.tape, k.output.trans h.output, Nat.le_trans h.size k.size, fun i hi ho => by
    have e := h.block i hi ho
    refine (k.block i hi ?_).trans e
    rcases ho with ho | ⟨o, ho, hc⟩
    · exact .inl ⟨ho.1, Nat.lt_of_lt_of_le ho.2 h.size⟩
    · exact .inr ⟨o, e.trans ho, hc⟩⟩
theorem Ch.putObj {Bn n₀ l : Nat} {A : World} {o : Obj} (o' : Obj) (hl : n₀ ≤ l) (ho : A.heap[l]? = some o) (hc : o.isCells = false) : Ch Bn n₀ A (A.putObj l o') :=
  ⟨rfl, rfl, rfl, by simp, fun k _ hk => World.putObj_heap_other (fun e => by
    subst e
    rcases hk with hk | ⟨o2, h2, hc2⟩
    · omega
    · rw [ho] at h2; cases h2; rw [hc] at hc2; cases hc2)⟩

theorem Fr.putObj (W : World) (l : Nat) (o' : Obj) : Fr l (l + 1) W (W.putObj l o') := ⟨rfl, rfl, rfl, by simp, fun k _ hk => World.putObj_heap_other (by omega)⟩

/-- Block g holds cells. -/
theorem Blk.isCells {w : World} {g : Nat} {L : List Value} {e : TypeId} (h : Blk w g L e) : ∃ o : Obj, w.heap[g]? = some o ∧ o.isCells = true := ⟨_, h, rfl⟩
theorem Blk.ch {Bn n₀ : Nat} {w w' : World} {g : Nat} {L : List Value} {e : TypeId} (h : Blk w g L e) (hc : Ch Bn n₀ w w') (hg : g ≠ Bn) : Blk w' g L e := (hc.block g hg (.inr h.isCells)).trans h
theorem RdB.ch {Bn n₀ : Nat} {w w' : World} {lo hi : Nat} {v : Value} {l : List UInt8} (h : RdB w lo hi v l) (hc : Ch Bn n₀ w w') (hg : hi ≤ Bn ∨ Bn < lo) : RdB w' lo hi v l := by
  obtain ⟨x, cap, e, r1, r2, r3, r4⟩ := h
  refine ⟨x, cap, e, r1, r2, r3, fun hl => ?_⟩
  obtain ⟨b, off, e2, hb1, hb2, hcl⟩ := r4 hl
  exact ⟨b, off, e2, hb1, hb2, fun j hj => (World.cell?_of_block (hc.block b (by omega) (.inr (cells_of_cell (hcl j hj))))).trans (hcl j hj)⟩

/-- How the body of a round may be left. -/
def bodyP (n₀ Bn W1 : Nat) (yt : TypeId) (Go : World → Prop) (Stop : Code → World → Prop) (W : World) : Exit → Act → World → Prop
  | .normal, _, W' => KeepsFrom n₀ W W' ∧ (∀ k, (k = Bn ∨ W1 ≤ k ∧ k < W.heap.size ∨ n₀ ≤ k ∧ ∃ L, Blk W k L yt) → W'.heap[k]? = W.heap[k]?) ∧ Go W'
  | .ret, _, W' => KeepsFrom n₀ W W' ∧ Stop .ret W'
  | .exit id, _, W' => KeepsFrom n₀ W W' ∧ Stop (.exit id) W'
  | .goto t, _, W' => KeepsFrom n₀ W W' ∧ Stop (.goto t) W'
  | .panic _, _, _ => False
  | .outgrown, _, _ => False

/-- What the iterator owes. σ: what has come; α: what is yielded; V: what is said of it; nx, fin, stp: what comes next; where it ends; where it ends by a 'no'. -/
def SeqB {σ α : Type} (n : Nat) (P : Program) (g : Nat) (lb : Array Value) (Bn : Nat) (yt : TypeId) (enc : α → Array Value) (V : σ → α → World → World → Prop) (goes : α → Prop) (nx : σ → α → σ) (s0 : σ) (Fin : σ → Prop) (Stp : α → Prop) (w : World) : Prop :=
  ∀ (l : Nat) (J : σ → World → Prop) (Jx : α → World → Prop) (W : World), Fr 0 0 w W → (∀ s A B, J s A → Fr Bn (Bn + 1) A B → J s B) →
    (∀ s x W1 W2, J s W1 → Fr Bn (Bn + 1) W1 W2 → V s x W1 W2 → ∀ m, YieldAt Fence.wide m P l (enc x) W2 fun e W' =>
      (goes x ∧ e = .returned (.bool true) ∧ J (nx s x) W' ∧ W2.heap.size ≤ W'.heap.size ∧ (∀ k, (k = Bn ∨ W1.heap.size ≤ k ∧ k < W2.heap.size ∨ w.heap.size ≤ k ∧ ∃ L, Blk W2 k L yt) → W'.heap[k]? = W2.heap[k]?)) ∨ (¬ goes x ∧ e = .returned (.bool false) ∧ Jx x W')) →
    J s0 W →
    CallsIn Fence.wide n P g (#[.func (.yield l) #[] #[]] ++ lb) W fun e W' => (∃ v, e = .returned v) ∧ ((∃ s, Fin s ∧ J s W') ∨ (∃ x, Stp x ∧ Jx x W'))

theorem wpIn_rangeFunc_B {σ α : Type} {n : Nat} {P : Program} {g : Operand} {ps : Array Tmp} {assign body : Code} {Q : Exit → Act → World → Prop} {a : Act} {w : World}
    {gf : Nat} {lb : Array Value} (hg : a.eval g = .func (.func gf) #[] lb) (eg : ∀ args w, (callFunc gf args).run P w = .ok (.enter gf args) w)
    {Bn : Nat} (hBn : Bn < w.heap.size) {yt : TypeId} {enc : α → Array Value} {V : σ → α → World → World → Prop} {goes : α → Prop} [DecidablePred goes] {nx : σ → α → σ} {s0 : σ} {Fin : σ → Prop} {Stp : α → Prop} (hseq : SeqB (n - 1) P gf lb Bn yt enc V goes nx s0 Fin Stp w)
    (hps : ∀ x, (enc x).size = ps.size)
    (hV : ∀ s x W1 W2 l o, V s x W1 W2 → w.heap.size ≤ l → l < W1.heap.size → V s x W1 (W2.putObj l o))
    (I : σ → Nat → World → Prop) (Ix : Code → α → World → Prop) (hI : ∀ s h A B, I s h A → Ch Bn w.heap.size A B → I s h B) (hIm : ∀ s h h' A, I s h A → h ≤ h' → I s h' A) (hIx : ∀ c x A B, Ix c x A → Ch Bn w.heap.size A B → Ix c x B) (h0 : I s0 w.heap.size w) (a₁ : α → Act)
    (hassign : ∀ (l m : Nat) (x : α) (W : World) (K : Act → World → Prop), K (a₁ x) W →
      assign.wpIn (Fence.wide.inRound l) m P (Exit.then K (fun _ _ _ => False)) { tmps := (ps.zip (enc x)).foldl (fun t (p, v) => t.setIfInBounds p v) a.tmps, defers := [] } W)
    (hbody : ∀ (l m : Nat) (s : σ) (x : α) (W1 W : World), I s W1.heap.size W → w.heap.size ≤ W1.heap.size → W1.heap.size ≤ W.heap.size → V s x W1 W → w.heap.size ≤ l → l < W1.heap.size → (∃ r, W.heap[l]? = some (.loop r)) →
      body.wpIn (Fence.wide.inRound l) m P (bodyP w.heap.size Bn W1.heap.size yt (fun W' => goes x ∧ I (nx s x) W'.heap.size W') (fun c W' => ¬ goes x ∧ Ix c x W') W) (a₁ x) W)
    (hdone : ∀ (D : Nat) (s : σ) (W : World), w.heap.size ≤ D → Fin s → I s W.heap.size W → W.heap[D]? = some (.deferred (some [])) → Q .normal { a with defers := { target := .collected D, args := #[] } :: a.defers } W)
    (hstop : ∀ (D : Nat) (c : Code) (x : α) (W : World), w.heap.size ≤ D → Stp x → Ix c x W → W.heap[D]? = some (.deferred (some [])) → c.wpIn Fence.wide n P Q { a with defers := { target := .collected D, args := #[] } :: a.defers } W) :
    (Code.rangeFunc g ps assign body).wpIn Fence.wide n P Q a w := by
  refine wpIn_rangeFunc ?_
  intro fn hfn
  obtain ⟨rec, hrec⟩ : ∃ rec : LoopState → Option Code → Loop, rec = fun st pe => { state := st, pending := pe, fn, tmps := a.tmps, params := ps, assign, body, defers := w.heap.size } := ⟨_, rfl⟩
  obtain ⟨W1, hW1⟩ : ∃ W1, (w.alloc (.deferred (some []))).alloc (.loop (rec .ready none)) = W1 := ⟨_, rfl⟩
  have hL1 : W1.heap[w.heap.size + 1]? = some (.loop (rec .ready none)) := by
    rw [← hW1]; have := World.alloc_heap_new (w.alloc (.deferred (some []))) (.loop (rec .ready none)); rwa [World.size_alloc] at this
  have hK1 : W1.heap[w.heap.size]? = some (.deferred (some [])) := by
    rw [← hW1]; exact (Below.heap_alloc _ _ _ (by simp)).trans (World.alloc_heap_new w _)
  have hF1 : Fr 0 0 w W1 := by rw [← hW1]; exact (Fr.alloc _ _).trans (Fr.alloc _ _)
  have hI1 : I s0 W1.heap.size W1 := hI _ _ _ _ (hIm _ _ _ _ h0 hF1.size) (Ch.of_new hF1)
  refine ⟨w.heap.size + 1, [{ target := .collected w.heap.size, args := #[] }], W1, { target := .fn (.func gf) lb, args := #[.func (.yield (w.heap.size + 1)) #[] #[]] }, W1, gf,
    #[.func (.yield (w.heap.size + 1)) #[] #[]] ++ lb, W1, ?_, ?_, ?_, ?_, (fun h => by simp [Fence.wide] at h), ?_⟩
  · rw [← hW1, hrec]; exact run_enterLoop_outer _ _ _ _ _
  · simp only [resolve, hg]
    simp [go_sem]
  · intro f' hf'; exact trivial
  · simp [invoke, go_sem, eg]
  · refine (hseq (w.heap.size + 1)
      (fun s W => I s W.heap.size W ∧ W.heap[w.heap.size + 1]? = some (.loop (rec .ready none)) ∧ W.heap[w.heap.size]? = some (.deferred (some [])) ∧ w.heap.size ≤ W.heap.size)
      (fun x W => ∃ c, Ix c x W ∧ W.heap[w.heap.size + 1]? = some (.loop (rec .done (some c))) ∧ W.heap[w.heap.size]? = some (.deferred (some [])))
      W1 hF1
      (fun s A B hs hf => ⟨hIm _ _ _ _ (hI _ _ _ _ hs.1 (Ch.of_fr hf)) hf.size, (hf.block _ (Array.getElem?_eq_some_iff.1 hs.2.1).1 (by omega)).trans hs.2.1, (hf.block _ (Array.getElem?_eq_some_iff.1 hs.2.2.1).1 (by omega)).trans hs.2.2.1, Nat.le_trans hs.2.2.2 hf.size⟩)
      ?_ ⟨hI1, hL1, hK1, hF1.size⟩).mono ?_
    · -- one round
      rintro s x Wa Wb ⟨hi, hl, hk, hws⟩ hf hv m
      have hla : w.heap.size + 1 < Wa.heap.size := (Array.getElem?_eq_some_iff.1 hl).1
      have hlt : w.heap.size + 1 < Wb.heap.size := Nat.lt_of_lt_of_le hla hf.size
      replace hl := (hf.block _ hla (by omega)).trans hl
      replace hk := (hf.block _ (by omega) (by omega)).trans hk
      have hib := hI _ _ _ _ hi (Ch.of_fr hf)
      have hy := run_yield (P := P) (args := enc x) hl (by rw [hrec]; exact hps x)
      rw [hrec] at hy
      refine ⟨fn, _, assign, body, hy, roundIn_of_wpIn hfn (hassign _ m x Wb _ ?_)⟩
      clear hy
      refine ⟨_, run_beginRound hl (by rw [hrec]), ?_⟩
      have hl2 : (Wb.putObj (w.heap.size + 1) (.loop { rec .ready none with state := .busy })).heap[w.heap.size + 1]? = some (.loop { rec .ready none with state := .busy }) := World.putObj_heap_same hlt
      have hk2 : (Wb.putObj (w.heap.size + 1) (.loop { rec .ready none with state := .busy })).heap[w.heap.size]? = some (.deferred (some [])) := (World.putObj_heap_other (by omega)).trans hk
      refine wpIn_mono (hbody (w.heap.size + 1) m s x Wa _ (hI _ _ _ _ hib (Ch.putObj _ (by omega) hl rfl)) hws (by simpa using hf.size) (hV s x Wa Wb _ _ hv (by omega) hla) (by omega) hla ⟨_, hl2⟩) ?_
      have fin : ∀ (jump : Option Code) (W3 : World), KeepsFrom w.heap.size (Wb.putObj (w.heap.size + 1) (.loop { rec .ready none with state := .busy })) W3 →
          (Instr.endRound (w.heap.size + 1) jump).run P W3 = .ok (.bool jump.isNone) (W3.putObj (w.heap.size + 1) (.loop (rec (if jump.isNone then .ready else .done) jump))) ∧
          W3.heap[w.heap.size + 1]? = some (.loop { rec .ready none with state := .busy }) ∧
          (W3.putObj (w.heap.size + 1) (.loop (rec (if jump.isNone then .ready else .done) jump))).heap[w.heap.size + 1]? = some (.loop (rec (if jump.isNone then .ready else .done) jump)) ∧
          (W3.putObj (w.heap.size + 1) (.loop (rec (if jump.isNone then .ready else .done) jump))).heap[w.heap.size]? = some (.deferred (some [])) := fun jump W3 hk3 => by
        have hl3 := hk3.same _ _ (by omega) hl2 rfl
        have := run_endRound (P := P) jump hl3
        rw [hrec] at this ⊢
        exact ⟨this, by rw [hrec] at hl3; exact hl3, World.putObj_heap_same (Array.getElem?_eq_some_iff.1 hl3).1, (World.putObj_heap_other (by omega)).trans (hk3.same _ _ (Nat.le_refl _) hk2 rfl)⟩
      rintro e a3 W3 hp
      cases e with
      | normal =>
        obtain ⟨hk3, hkp3, hgo, hi3⟩ := hp
        obtain ⟨hr, hl3, hl4, hk4⟩ := fin none W3 hk3
        have hz : Wb.heap.size ≤ W3.heap.size := by have := hk3.size; simpa using this
        refine ⟨_, _, hr, .inl ⟨hgo, rfl, ⟨?_, hl4, hk4, ?_⟩, ?_, ?_⟩⟩
        · simpa using hI _ _ _ _ hi3 (Ch.putObj _ (by omega) hl3 rfl)
        · simp; omega
        · simpa using hz
        · intro k hkk
          have hkl : k ≠ w.heap.size + 1 := by
            rcases hkk with hkk | hkk | ⟨_, L, hkk⟩
            · omega
            · omega
            · rintro rfl
              have : Wb.heap[w.heap.size + 1]? = _ := hkk
              rw [hl] at this
              cases this
          rw [World.putObj_heap_other hkl, hkp3 k ?_, World.putObj_heap_other hkl]
          rcases hkk with hkk | hkk | ⟨hn, L, hkk⟩
          · exact .inl hkk
          · exact .inr (.inl (by simpa using hkk))
          · exact .inr (.inr ⟨hn, L, (World.putObj_heap_other hkl).trans hkk⟩)
      | ret =>
        obtain ⟨hk3, hng, hi3⟩ := hp
        obtain ⟨hr, hl3, hl4, hk4⟩ := fin (some .ret) W3 hk3
        exact ⟨_, _, hr, .inr ⟨hng, rfl, .ret, hIx _ _ _ _ hi3 (Ch.putObj _ (by omega) hl3 rfl), hl4, hk4⟩⟩
      | exit id =>
        obtain ⟨hk3, hng, hi3⟩ := hp
        obtain ⟨hr, hl3, hl4, hk4⟩ := fin (some (.exit id)) W3 hk3
        exact ⟨_, _, hr, .inr ⟨hng, rfl, .exit id, hIx _ _ _ _ hi3 (Ch.putObj _ (by omega) hl3 rfl), hl4, hk4⟩⟩
      | goto t =>
        obtain ⟨hk3, hng, hi3⟩ := hp
        obtain ⟨hr, hl3, hl4, hk4⟩ := fin (some (.goto t)) W3 hk3
        exact ⟨_, _, hr, .inr ⟨hng, rfl, .goto t, hIx _ _ _ _ hi3 (Ch.putObj _ (by omega) hl3 rfl), hl4, hk4⟩⟩
      | panic ch => exact hp.elim
      | outgrown => exact hp.elim
    · -- behind the iterator
      rintro e W2 ⟨⟨v, rfl⟩, (⟨s, hS, hi, hl, hk, _⟩ | ⟨x, hSp, c, hi, hl, hk⟩)⟩
      · refine ⟨none, _, by have := run_endLoop (P := P) hl (by rw [hrec]; simp); rw [hrec] at this; exact this, hdone _ s _ (Nat.le_refl _) hS ?_ ((World.putObj_heap_other (by omega)).trans hk)⟩
        simpa using hI _ _ _ _ hi (Ch.putObj _ (by omega) hl rfl)
      · exact ⟨some c, _, by have := run_endLoop (P := P) hl (by rw [hrec]; simp); rw [hrec] at this; exact this, hstop _ c x _ (Nat.le_refl _) hSp (hIx _ _ _ _ hi (Ch.putObj _ (by omega) hl rfl)) ((World.putObj_heap_other (by omega)).trans hk)⟩

end Go.Proofs.YtgndidjfjdaagaaDoor
