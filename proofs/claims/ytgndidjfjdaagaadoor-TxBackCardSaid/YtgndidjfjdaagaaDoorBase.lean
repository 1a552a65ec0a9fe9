/-
  Ground for all walks of this seat: what a world keeps (Fr), what a slice of bytes reads as (RdB), a slice of bytes that may be appended to (OwB), a block that is known whole (Blk); and laws of single operations over these.
-/
import Derived.Test.YtgndidjfjdaagaaDoorRows
import Derived.WalkKit
import Derived.WalkSpells
import Derived.WalkLawsBesides
import Derived.Laws.CopyOwn
import Derived.Deep.MidRow
import Derived.Lib.Hide
import Derived.Deep.QuietTactic
import Derived.BigQuiet
import Derived.Deep.RegionHeld3
import Derived.Deep.AppendLies
import Derived.Deep.DrawnRows
import Derived.Laws.AppendOwnNone
set_option linter.unusedSimpArgs false
set_option linter.unusedVariables false
namespace Go.Proofs.YtgndidjfjdaagaaDoor
open Go.RowKit

/-- A byte as a value. -/
def ub (x : UInt8) : Value := .int .u8 (x.toNat : Int)

/-- An array of bytes, as its cells: a name, so that a walk leaves it as it is. -/
def bs (l : List UInt8) : Array Value := (l.map ub).toArray

theorem ret_int {k : IntKind} {a b : Int} (h : a = b) : Ending.returned (.int k a) = .returned (.int k b) := by rw [h]

theorem ub_oneCell (l : List UInt8) : ∀ u ∈ l.map ub, u.oneCell' = true := by
  intro u hu
  obtain ⟨x, _, rfl⟩ := List.mem_map.1 hu
  rfl

/-- From w to w' nothing has turned of what was there, but (it may be) blocks lo .. hi-1. -/
structure Fr (lo hi : Nat) (w w' : World) : Prop where
  os : w'.os = w.os
  tape : w'.tape = w.tape
  output : w'.output = w.output
  size : w.heap.size ≤ w'.heap.size
  block : ∀ k, k < w.heap.size → (k < lo ∨ hi ≤ k) → w'.heap[k]? = w.heap[k]?

theorem Fr.refl (lo hi : Nat) (w : World) : Fr lo hi w w := ⟨rfl, rfl, rfl, Nat.le_refl _, fun _ _ _ => rfl⟩

theorem Fr.trans {lo hi : Nat} {a b c : World} (h : Fr lo hi a b) (k : Fr lo hi b c) : Fr lo hi a c :=
  ⟨k.os.trans h.os, k.tape.trans h.tape, k.output.trans h.output, Nat.le_trans h.size k.size, fun i hi ho => (k.block i (Nat.lt_of_lt_of_le hi h.size) ho).trans (h.block i hi ho)⟩

theorem Fr.mono {lo hi lo' hi' : Nat} {a b : World} (h : Fr lo hi a b) (h1 : lo' ≤ lo ∨ hi ≤ lo) (h2 : hi ≤ hi' ∨ hi ≤ lo) : Fr lo' hi' a b :=
  ⟨h.os, h.tape, h.output, h.size, fun k hk ho => h.block k hk (by omega)⟩

theorem Fr.below {lo hi B : Nat} {a b : World} (h : Fr lo hi a b) (hB : B ≤ a.heap.size) (hl : B ≤ lo ∨ hi ≤ lo) : Below B a b :=
  ⟨h.os, h.tape, h.output, h.size, fun k hk => h.block k (by omega) (by omega)⟩

theorem Fr.of_below {B hi : Nat} {a b : World} (h : Below B a b) (hh : a.heap.size ≤ hi) : Fr B hi a b :=
  ⟨h.os, h.tape, h.output, h.size, fun k hk ho => by
    rcases ho with ho | ho
    · exact h.block k ho
    · omega⟩

/-- A call that turns nothing that was there. -/
theorem Fr.of_new {a b : World} (h : Below a.heap.size a b) : Fr 0 0 a b := ⟨h.os, h.tape, h.output, h.size, fun k hk _ => h.block k hk⟩

theorem Fr.new {a b : World} (h : Fr 0 0 a b) : Below a.heap.size a b := h.below (Nat.le_refl _) (.inr (Nat.le_refl _))

theorem Fr.of_grown {a b : World} {row : Option Nat} {lo hi : Nat} (h : a.grownBy b row) (hr : ∀ k, row = some k → lo ≤ k ∧ k < hi) : Fr lo hi a b :=
  ⟨h.os, h.tape, h.output, h.size, fun k hk ho => h.block k hk (fun e => by have := hr k e.symm; omega)⟩

theorem Fr.alloc (w : World) (o : Obj) : Fr 0 0 w (w.alloc o) := ⟨rfl, rfl, rfl, by simp, fun k hk _ => Below.heap_alloc w o k hk⟩
theorem Fr.drew (w : World) : Fr 0 0 w w.drew := ⟨rfl, rfl, rfl, Nat.le_refl _, fun _ _ _ => rfl⟩

theorem Fr.drewN (w : World) (n : Nat) : Fr 0 0 w (w.drewN n) := ⟨rfl, rfl, rfl, Nat.le_refl _, fun _ _ _ => rfl⟩

/-- First nothing that was there, then something new alone: nothing that was there. -/
theorem Fr.on {lo hi : Nat} {a b c : World} (h : Fr 0 0 a b) (k : Fr lo hi b c) (hl : a.heap.size ≤ lo) : Fr 0 0 a c :=
  Fr.of_new (h.new.trans (k.below h.size (.inl hl)))

theorem Fr.cell {lo hi : Nat} {w w' : World} (h : Fr lo hi w w') {a : Addr} {v : Value} (hc : w.cell? a = some v) (ho : a.block < lo ∨ hi ≤ a.block) : w'.cell? a = some v :=
  (World.cell?_of_block (h.block a.block (World.block_lt_of_cell? w a hc) ho)).trans hc

/-- Block g is known whole: these cells, of this type, none frozen. -/
def Blk (w : World) (g : Nat) (L : List Value) (e : TypeId) : Prop := w.heap[g]? = some (.cells L.toArray e (0, 0))

theorem Blk.lt {w : World} {g : Nat} {L : List Value} {e : TypeId} (h : Blk w g L e) : g < w.heap.size := (Array.getElem?_eq_some_iff.1 h).1

theorem Blk.kept {w w' : World} {g lo hi : Nat} {L : List Value} {e : TypeId} (h : Blk w g L e) (hf : Fr lo hi w w') (ho : g < lo ∨ hi ≤ g) : Blk w' g L e :=
  (hf.block g h.lt ho).trans h

theorem Blk.cell {w : World} {g : Nat} {L : List Value} {e : TypeId} (h : Blk w g L e) (j : Nat) : w.cell? ⟨g, j, none⟩ = L[j]? := by
  simpa using cell_of_row w g j _ e (0, 0) h

theorem Blk.frozen {w : World} {g : Nat} {L : List Value} {e : TypeId} (h : Blk w g L e) (j : Nat) : w.frozen? ⟨g, j, none⟩ = false := frozen_of_row w g j _ e h

theorem Blk.alloc (w : World) (L : List Value) (e : TypeId) : Blk (w.alloc (.cells L.toArray e)) w.heap.size L e := heap_alloc_new w _

/-- Slice value v reads as the bytes l; where there is a byte, they lie in a block from lo on, below hi. -/
def RdB (w : World) (lo hi : Nat) (v : Value) (l : List UInt8) : Prop :=
  ∃ a cap, v = .slice a l.length cap ∧ l.length ≤ cap ∧ cap ≤ maxLen ∧ (a = none → cap = 0) ∧
    (l ≠ [] → ∃ b off, a = some ⟨b, off, none⟩ ∧ lo ≤ b ∧ b < hi ∧ ∀ j (h : j < l.length), w.cell? ⟨b, off + j, none⟩ = some (ub l[j]))

theorem RdB.nil (w : World) (lo hi : Nat) : RdB w lo hi (.slice none 0 0) [] := ⟨none, 0, rfl, Nat.le_refl _, Nat.zero_le _, fun _ => rfl, fun h => absurd rfl h⟩

theorem RdB.empty (w : World) (lo hi : Nat) (a : Option Addr) (cap : Nat) (h : cap ≤ maxLen) (hn : a = none → cap = 0) : RdB w lo hi (.slice a 0 cap) [] := ⟨a, cap, rfl, Nat.zero_le _, h, hn, fun h => absurd rfl h⟩

theorem RdB.form {w : World} {lo hi : Nat} {v : Value} {l : List UInt8} (h : RdB w lo hi v l) : ∃ a cap, v = .slice a l.length cap ∧ l.length ≤ cap ∧ cap ≤ maxLen ∧ (a = none → cap = 0) :=
  let ⟨a, cap, h1, h2, h3, h4, _⟩ := h; ⟨a, cap, h1, h2, h3, h4⟩

theorem RdB.place {w : World} {lo hi : Nat} {v : Value} {l : List UInt8} (h : RdB w lo hi v l) (hl : 0 < l.length) :
    ∃ b off cap, v = .slice (some ⟨b, off, none⟩) l.length cap ∧ l.length ≤ cap ∧ cap ≤ maxLen ∧ lo ≤ b ∧ b < hi ∧ ∀ j (h : j < l.length), w.cell? ⟨b, off + j, none⟩ = some (ub l[j]) := by
  obtain ⟨a, cap, h1, h2, h3, _, h5⟩ := h
  obtain ⟨b, off, rfl, r⟩ := h5 (fun e => by rw [e] at hl; cases hl)
  exact ⟨b, off, cap, h1, h2, h3, r⟩

/-- The same, without the cells. -/
theorem RdB.spot {w : World} {lo hi : Nat} {v : Value} {l : List UInt8} (h : RdB w lo hi v l) (hl : 0 < l.length) :
    ∃ b off cap, v = .slice (some ⟨b, off, none⟩) l.length cap ∧ l.length ≤ cap ∧ cap ≤ maxLen ∧ lo ≤ b ∧ b < hi :=
  let ⟨b, off, cap, h1, h2, h3, h4, h5, _⟩ := h.place hl; ⟨b, off, cap, h1, h2, h3, h4, h5⟩

theorem RdB.cel {w : World} {lo hi b off n cap : Nat} {l : List UInt8} (h : RdB w lo hi (.slice (.some ⟨b, off, none⟩) n cap) l) (j : Nat) (hj : j < l.length) : w.cell? ⟨b, off + j, none⟩ = .some (ub l[j]) := by
  obtain ⟨_, _, _, e, _, _, _, _, hc⟩ := h.place (by omega)
  cases e
  exact hc j hj

theorem RdB.mono {w : World} {lo hi lo' hi' : Nat} {v : Value} {l : List UInt8} (h : RdB w lo hi v l) (h1 : lo' ≤ lo) (h2 : hi ≤ hi') : RdB w lo' hi' v l := by
  obtain ⟨a, cap, e, r1, r2, r3, r4⟩ := h
  refine ⟨a, cap, e, r1, r2, r3, fun hl => ?_⟩
  obtain ⟨b, off, e2, hb1, hb2, hc⟩ := r4 hl
  exact ⟨b, off, e2, by omega, by omega, hc⟩

theorem RdB.kept {w w' : World} {lo hi a b : Nat} {v : Value} {l : List UInt8} (h : RdB w lo hi v l) (hf : Fr a b w w') (ho : hi ≤ a ∨ b ≤ lo) : RdB w' lo hi v l := by
  obtain ⟨x, cap, e, r1, r2, r3, r4⟩ := h
  refine ⟨x, cap, e, r1, r2, r3, fun hl => ?_⟩
  obtain ⟨b, off, e2, hb1, hb2, hc⟩ := r4 hl
  exact ⟨b, off, e2, hb1, hb2, fun j hj => hf.cell (hc j hj) (by simp only; omega)⟩

theorem RdB.fit {w : World} {lo hi : Nat} {v : Value} {l : List UInt8} (h : RdB w lo hi v l) : RdB w lo w.heap.size v l := by
  obtain ⟨x, cap, e, r1, r2, r3, r4⟩ := h
  refine ⟨x, cap, e, r1, r2, r3, fun hl => ?_⟩
  obtain ⟨b, off, e2, hb1, hb2, hc⟩ := r4 hl
  exact ⟨b, off, e2, hb1, World.block_lt_of_cell? w _ (hc 0 (List.length_pos_iff.2 hl)), hc⟩

/-- The value of 's[i:j]' (of 's[i:j:m]'), with m = cap. -/
def subA (a : Option Addr) (cap i : Nat) : Option Addr := if cap = i then a else a.map (·.add i)

theorem RdB.sub {w : World} {lo hi : Nat} {a : Option Addr} {n cap : Nat} {l : List UInt8} (h : RdB w lo hi (.slice a n cap) l) (i j m : Nat) (hij : i ≤ j) (hj : j ≤ l.length) (hm : j ≤ m) (hmc : m ≤ cap) :
    RdB w lo hi (.slice (subA a m i) (j - i) (m - i)) ((l.take j).drop i) := by
  obtain ⟨a', cap', e, r1, r2, r3, r4⟩ := h
  cases e
  have hlen : ((l.take j).drop i).length = j - i := by simp; omega
  refine ⟨subA a m i, m - i, by rw [hlen], by omega, by omega, ?_, fun hne => ?_⟩
  · intro hn
    unfold subA at hn
    split at hn
    · have := r3 hn; omega
    · cases a with
      | none => have := r3 rfl; omega
      | some _ => simp at hn
  · have hpos : 0 < ((l.take j).drop i).length := List.length_pos_iff.2 hne
    rw [hlen] at hpos
    obtain ⟨b, off, rfl, hb1, hb2, hc⟩ := r4 (fun e => by rw [e] at hj; simp at hj; omega)
    refine ⟨b, off + i, ?_, hb1, hb2, fun k hk => ?_⟩
    · unfold subA
      rw [if_neg (by omega)]
      simp [Addr.add_lit]
    · rw [hlen] at hk
      have := hc (i + k) (by omega)
      rw [Nat.add_assoc, this]
      simp

/-- A piece of a block that is known, as a slice of bytes. -/
theorem Blk.rd {w : World} {g off n cap : Nat} {A Z : List Value} {t : TypeId} {l : List UInt8} (h : Blk w g (A ++ l.map ub ++ Z) t) (hA : A.length = off) (hn : l.length = n) (hc : n ≤ cap) (hm : cap ≤ 1099511627776) : RdB w g (g + 1) (.slice (some ⟨g, off, none⟩) n cap) l := by
  subst hA; subst hn
  refine ⟨_, cap, rfl, hc, by unfold maxLen; omega, (fun h => by cases h), fun _ => ⟨g, A.length, rfl, Nat.le_refl _, by omega, fun j hj => ?_⟩⟩
  rw [h.cell, List.append_assoc, List.getElem?_append_right (by omega), Nat.add_sub_cancel_left, List.getElem?_append_left (by simpa using hj)]
  simp [hj]

/-- A slice of bytes of the call's own, that may be appended to: nil; or in a row from lo on, below hi, its capacity reaching to the row's end; or empty, without capacity. -/
def OwB (w : World) (lo hi : Nat) (v : Value) (l : List UInt8) : Prop :=
  (v = .slice none 0 0 ∧ l = []) ∨ (l = [] ∧ ∃ a, v = .slice (some a) 0 0) ∨
  ∃ g off cap cur, v = .slice (some ⟨g, off, none⟩) l.length cap ∧ lo ≤ g ∧ g < hi ∧ Blk w g cur 5 ∧ l.length ≤ cap ∧ cap ≤ maxLen ∧ cur.length = off + cap ∧ (cur.drop off).take l.length = l.map ub

theorem OwB.nil (w : World) (lo hi : Nat) : OwB w lo hi (.slice none 0 0) [] := .inl ⟨rfl, rfl⟩

theorem OwB.mono {w : World} {lo hi lo' hi' : Nat} {v : Value} {l : List UInt8} (h : OwB w lo hi v l) (h1 : lo' ≤ lo) (h2 : hi ≤ hi') : OwB w lo' hi' v l := by
  rcases h with h | h | ⟨g, off, cap, cur, e, a, b, r⟩
  · exact .inl h
  · exact .inr (.inl h)
  · exact .inr (.inr ⟨g, off, cap, cur, e, by omega, by omega, r⟩)

theorem OwB.kept {w w' : World} {lo hi a b : Nat} {v : Value} {l : List UInt8} (h : OwB w lo hi v l) (hf : Fr a b w w') (ho : hi ≤ a ∨ b ≤ lo) : OwB w' lo hi v l := by
  rcases h with h | h | ⟨g, off, cap, cur, e, h1, h2, hb, r⟩
  · exact .inl h
  · exact .inr (.inl h)
  · exact .inr (.inr ⟨g, off, cap, cur, e, h1, h2, hb.kept hf (by omega), r⟩)

theorem OwB.rd {w : World} {lo hi : Nat} {v : Value} {l : List UInt8} (h : OwB w lo hi v l) : RdB w lo hi v l := by
  rcases h with ⟨rfl, rfl⟩ | ⟨rfl, a, rfl⟩ | ⟨g, off, cap, cur, rfl, h1, h2, hb, h3, h4, h5, h6⟩
  · exact RdB.nil _ _ _
  · exact RdB.empty _ _ _ _ _ (Nat.zero_le _) (fun _ => rfl)
  · refine ⟨_, cap, rfl, h3, h4, (fun h => by cases h), fun _ => ⟨g, off, rfl, h1, h2, fun j hj => ?_⟩⟩
    rw [hb.cell]
    have : ((cur.drop off).take l.length)[j]? = (l.map ub)[j]? := by rw [h6]
    rw [List.getElem?_take_of_lt hj, List.getElem?_drop] at this
    rw [this]
    simp [hj]

/-- What is left behind its first i bytes. -/
theorem OwB.from {w : World} {lo hi n cap : Nat} {a : Option Addr} {l : List UInt8} (h : OwB w lo hi (.slice a n cap) l) (i : Nat) (hin : i ≤ n) : OwB w lo hi (.slice (subA a cap i) (n - i) (cap - i)) (l.drop i) := by
  rcases h with ⟨e, rfl⟩ | ⟨rfl, x, e⟩ | ⟨g, off, c, cur, e, h1, h2, hb, h3, h4, h5, h6⟩
  · cases e
    obtain rfl : i = 0 := by omega
    exact .inl ⟨by simp [subA], rfl⟩
  · cases e
    obtain rfl : i = 0 := by omega
    exact .inr (.inl ⟨rfl, x, by simp [subA]⟩)
  · cases e
    by_cases hc : cap = i
    · subst hc
      have hl : l.drop cap = [] := List.drop_eq_nil_of_le (by omega)
      rw [hl]
      refine .inr (.inl ⟨rfl, ⟨g, off, none⟩, ?_⟩)
      simp [subA]
      omega
    · refine .inr (.inr ⟨g, off + i, cap - i, cur, ?_, h1, h2, hb, by simp; omega, by omega, by omega, ?_⟩)
      · simp [subA, hc, Addr.add_lit]
      · rw [← List.drop_drop, List.length_drop, ← List.drop_take, h6, List.map_drop]

end Go.Proofs.YtgndidjfjdaagaaDoor
