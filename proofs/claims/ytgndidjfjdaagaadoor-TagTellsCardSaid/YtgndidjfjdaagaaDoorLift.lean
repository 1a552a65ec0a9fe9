/-
  A law of one operation, in a fence that lets all by.
-/
import Derived.Test.YtgndidjfjdaagaaDoorSlices
import Derived.Stop.RegionWithIn
set_option linter.unusedSimpArgs false
set_option linter.unusedVariables false
namespace Go.Proofs.YtgndidjfjdaagaaDoor
open Go.RowKit

/-- The wide fence, within a round or not. -/
def WF (r : Option Nat) : Fence := { Fence.wide with round := r }

theorem WF_round (r : Option Nat) : (WF r).round = r := rfl
theorem WF_fn (r : Option Nat) (f : FuncId) : (WF r).fn f = True := rfl
theorem WF_depth (r : Option Nat) : (WF r).depth = none := rfl

theorem callsWF {r : Option Nat} {n : Nat} {P : Program} {f : FuncId} {args : Array Value} {w : World} {R : Ending → World → Prop} (h : Calls P f args w R) : CallsIn (WF r) n P f args w R :=
  (callsIn_wide (n := n)).2 h

/-- What the plain walk asks of one operation serves in the wide fence. -/
def onlyN (K : Act → World → Prop) : Exit → Act → World → Prop
  | .normal, a, w => K a w
  | _, _, _ => False

theorem lift {r : Option Nat} {n : Nat} {P : Program} {ops : Array Oper} {rest : List Oper} {o : Oper} {a : Act} {w : World} {Q : Exit → Act → World → Prop}
    (hd : ∀ c, o.op ≠ .defer c) (h : wpList P ops (onlyN (wpListIn (WF r) n P ops Q rest)) [o] a w) : wpListIn (WF r) n P ops Q (o :: rest) a w := by
  have hlo : ¬ LetsOut (onlyN (wpListIn (WF r) n P ops Q rest)) := by
    rintro ⟨_, _, h⟩
    exact h
  simp only [wpList] at h
  simp only [wpListIn]
  split at h
  · rename_i hw
    rw [if_pos hw]
    rcases h with h | ⟨_, h⟩
    · refine ⟨fun _ _ => trivial, ?_⟩
      rw [Oper.semAt_plain _ _ _ hd]
      unfold Oper.wp at h
      revert h
      cases (execOp a.eval o).run P w with
      | ok nx w' =>
        cases nx with
        | value v => exact fun h => h
        | skip => exact fun h => h
        | defer d => exact fun h => h
        | enter f args =>
          intro h
          refine ⟨fun h => (by cases h), ?_⟩
          refine (callsWF h).mono ?_
          intro e w2 hq
          cases e with
          | returned v => exact hq
          | panicked c => exact hq.elim
          | outgrown => exact absurd hq hlo
        | row row args =>
          intro h
          refine ⟨fun h => (by cases h), ?_⟩
          intro c cs hr
          obtain ⟨v, w2, hq, hs⟩ := h c cs
          exact ⟨v, w2, hq, stepsIn_wide.2 hs⟩
        | _ => intro h; exact h.elim
      | halt s w' =>
        cases s <;> intro h <;> exact h.elim
    · exact absurd h hlo
  · rename_i hw
    rw [if_neg hw]
    exact ⟨fun _ _ => trivial, h⟩

theorem nilN {r : Option Nat} {n : Nat} {P : Program} {ops : Array Oper} {rest : List Oper} {a : Act} {w : World} {Q : Exit → Act → World → Prop} (h : wpListIn (WF r) n P ops Q rest a w) :
    wpList P ops (onlyN (wpListIn (WF r) n P ops Q rest)) [] a w := h

theorem YieldAt.anyDepth {r : Option Nat} {m m' : Nat} {P : Program} {l : Nat} {args : Array Value} {W : World} {R : Ending → World → Prop} (h : YieldAt (WF r) m P l args W R) : YieldAt (WF r) m' P l args W R := by
  obtain ⟨fn, tmps, assign, body, hy, hR⟩ := h
  exact ⟨fn, tmps, assign, body, hy, RoundIn.anyDepth rfl hR⟩

end Go.Proofs.YtgndidjfjdaagaaDoor
