/-
  Plain laws of transactions and their bytes.
-/
import Derived.Test.YtgndidjfjdaagaaDoorTxReadsW
set_option linter.unusedSimpArgs false
set_option linter.unusedVariables false
set_option linter.unnecessarySimpa false
namespace Go.Proofs.YtgndidjfjdaagaaDoor
open Go.RowKit

theorem txB_parts (x : TxD) : txB x = x.p ++ (x.t ++ (beB 8 x.n ++ (beB 8 x.a ++ (beB 8 x.f ++ x.s)))) := by simp [txB, bodyB]

theorem txOf_txB {x : TxD} (h : TxOk x) : txOf (txB x) = x := by
  obtain ⟨h1, h2, h3, h4, h5, h6⟩ := h
  have l8 : ∀ n, (beB 8 n).length = 8 := fun n => beB_length 8 n
  have d1 : (txB x).drop 32 = x.t ++ (beB 8 x.n ++ (beB 8 x.a ++ (beB 8 x.f ++ x.s))) := by rw [txB_parts, List.drop_left' h1]
  have d2 : (txB x).drop 64 = beB 8 x.n ++ (beB 8 x.a ++ (beB 8 x.f ++ x.s)) := by rw [show 64 = 32 + 32 from rfl, ← List.drop_drop, d1, List.drop_left' h2]
  have d3 : (txB x).drop 72 = beB 8 x.a ++ (beB 8 x.f ++ x.s) := by rw [show 72 = 64 + 8 from rfl, ← List.drop_drop, d2, List.drop_left' (l8 _)]
  have d4 : (txB x).drop 80 = beB 8 x.f ++ x.s := by rw [show 80 = 72 + 8 from rfl, ← List.drop_drop, d3, List.drop_left' (l8 _)]
  have d5 : (txB x).drop 88 = x.s := by rw [show 88 = 80 + 8 from rfl, ← List.drop_drop, d4, List.drop_left' (l8 _)]
  have nn : ∀ n, n < 18446744073709551616 → beN (beB 8 n) = n := fun n hn => by rw [beN_beB]; exact Nat.mod_eq_of_lt (by omega)
  unfold txOf
  rw [d1, d2, d3, d4, d5, txB_parts, List.take_left' h1, List.take_left' h2, List.take_left' (l8 _), List.take_left' (l8 _), List.take_left' (l8 _), List.take_of_length_le (by omega), nn _ h4, nn _ h5, nn _ h6]

theorem beB8_beN {l : List UInt8} (h : l.length = 8) : beB 8 (beN l) = l := by
  have := beB_beN l
  rwa [h] at this

theorem txB_txOf {l : List UInt8} (h : l.length = 120) : txB (txOf l) = l := by
  have e1 : ∀ i, i + 8 ≤ 120 → beB 8 (beN ((l.drop i).take 8)) = (l.drop i).take 8 := fun i hi => beB8_beN (by rw [List.length_take, List.length_drop]; omega)
  rw [txB_parts]
  simp only [txOf]
  rw [e1 64 (by omega), e1 72 (by omega), e1 80 (by omega), List.take_of_length_le (l := l.drop 88) (by rw [List.length_drop]; omega)]
  have j : ∀ i k, i + k ≤ 120 → (l.drop i).take k ++ l.drop (i + k) = l.drop i := fun i k _ => by rw [← List.drop_drop]; exact List.take_append_drop k (l.drop i)
  rw [show l.drop 88 = l.drop (80 + 8) from rfl, j 80 8 (by omega), show l.drop 80 = l.drop (72 + 8) from rfl, j 72 8 (by omega), show l.drop 72 = l.drop (64 + 8) from rfl, j 64 8 (by omega), show l.drop 64 = l.drop (32 + 32) from rfl, j 32 32 (by omega)]
  exact List.take_append_drop 32 l

theorem txL_inj {a b : TxD} (ha : TxOk a) (hb : TxOk b) (h : txL a = txL b) : a = b := by
  obtain ⟨a1, a2, a3, _⟩ := ha
  obtain ⟨b1, b2, b3, _⟩ := hb
  obtain ⟨p, t, n, aa, f, s⟩ := a
  obtain ⟨p', t', n', aa', f', s'⟩ := b
  simp only [txL] at h a1 a2 a3 b1 b2 b3
  obtain ⟨h1, h2⟩ := List.append_inj h (by simp [a1, b1])
  obtain ⟨h3, h4⟩ := List.append_inj h2 (by simp [a2, b2])
  obtain ⟨h5, h6⟩ := List.append_inj h4 (by simp [txN])
  have e1 := map_ub_inj h1
  have e2 := map_ub_inj h3
  have e3 := map_ub_inj h6
  simp only [txN, List.cons.injEq, Value.int.injEq, true_and, and_true, Int.natCast_inj] at h5
  obtain ⟨e4, e5, e6⟩ := h5
  subst e1; subst e2; subst e3; subst e4; subst e5; subst e6
  rfl

theorem bodyB_iff {x y : TxD} (hx : TxOk x) (hy : TxOk y) : bodyB x = bodyB y ↔ txL { y with s := x.s } = txL x := by
  have hz : TxOk { y with s := x.s } := ⟨hy.1, hy.2.1, hx.2.2.1, hy.2.2.2⟩
  constructor
  · intro h
    have e : txB { y with s := x.s } = txB x := by
      rw [txB, txB, h]
      rfl
    have := congrArg txOf e
    rw [txOf_txB hz, txOf_txB hx] at this
    rw [this]
  · intro h
    have := txL_inj hz hx h
    rw [← this]
    rfl

theorem txRead_txB {x : TxD} (h : TxOk x) : txRead (txB x) = if x.s = signH x then (txL x, 0) else (tx0, 110) := by
  have hl := txB_length h
  rw [txRead, if_neg (by omega), if_neg (by omega), txOf_txB h]

theorem signed_s (x : TxD) : (signed x).s = signH (signed x) := rfl
theorem signed_signed (x : TxD) : signed (signed x) = signed x := rfl

/-- 's[:j]', under a guard that lets it by. -/
theorem su_slice_to {ops : Array Oper} {Q : Exit → Act → World → Prop} {K : Act → World → Prop} {o : Oper} {a : Act} {w : World} {T : Prop} {x hi : Operand} {c d J : Nat} {ad : Option Addr} {n cap : Nat} {l : List UInt8} (hrd : RdB w c d (.slice ad n cap) l) (hJ : J ≤ n)
    (hw : Region.wanted o (yielded ops a.tmps) = true) (hop : o.op = .slice 24 x none (some hi) none) (hx : a.eval x = .slice ad n cap) (hhi : a.eval hi = .int .i64 J)
    (h : ∀ ad' cap', RdB w c d (.slice ad' J cap') (l.take J) → K (a.put o.dst (.slice ad' J cap')) w) : if Region.wanted o (yielded ops a.tmps) = true then Oper.wp Tryd.prog o a w K Q else T := by
  have hl : n = l.length ∧ n ≤ cap := by obtain ⟨_, _, e, h2, _⟩ := hrd; cases e; exact ⟨rfl, h2⟩
  have hr := hrd.sub 0 J cap (Nat.zero_le _) (by omega) (by omega) (Nat.le_refl _)
  rw [List.drop_zero, Nat.sub_zero] at hr
  refine sure_val hw ?_ (h _ _ hr)
  simp [execOp, hop, hx, hhi, run_slice22 (w := w) (ad := ad) (n := n) (cap := cap) none (some (.int .i64 J)) none 0 J cap (.inr ⟨rfl, rfl⟩) (.inl ⟨rfl, by omega⟩) (.inr ⟨rfl, rfl⟩)]

end Go.Proofs.YtgndidjfjdaagaaDoor
