/-
  Laws of single operations, in the form that a walk takes: over Fr, RdB, OwB, Blk of the ground.
-/
import Derived.Test.YtgndidjfjdaagaaDoorBase
set_option linter.unusedSimpArgs false
set_option linter.unusedVariables false
namespace Go.Proofs.YtgndidjfjdaagaaDoor
open Go.RowKit

theorem und22 : Tryd.prog.underlying 24 = some (.slice 5) := by kernel_rfl
theorem und5 : Tryd.prog.underlying 5 = some (.int .u8) := by kernel_rfl
theorem und9 : Tryd.prog.underlying 9 = some .string := by kernel_rfl
theorem inf5 : (Tryd.prog.info? 5).map (fun i => (i.zero, i.size, i.bytes)) = some (some (.int .u8 0), 1, 1) := by kernel_rfl

section
variable {P : Program} {ops : Array Oper} {rest : List Oper} {o : Oper} {a : Act} {w : World} {Q : Exit → Act → World → Prop}

theorem wpl_val {v : Value} {w' : World} (hg : o.guard = none) (hr : (execOp a.eval o).run P w = .ok (.value v) w')
    (h : wpList P ops Q rest (a.put o.dst v) w') : wpList P ops Q (o :: rest) a w :=
  wpList_plain hg fun K hK => by
    unfold Oper.wp
    rw [hr]
    exact hK _ _ h

theorem wpl_skip {w' : World} (hg : o.guard = none) (hr : (execOp a.eval o).run P w = .ok .skip w')
    (h : wpList P ops Q rest (a.put o.dst undef) w') : wpList P ops Q (o :: rest) a w :=
  wpList_plain hg fun K hK => by
    unfold Oper.wp
    rw [hr]
    exact hK _ _ h

/-- 'x<<8 | c' of a u64. -/
theorem or_u64 (m x : Nat) (hx : x < 256) (hm : 256 * m + x < 18446744073709551616) : bits .or .u64 (IntKind.u64.wrap ((m : Int) * 256)) (x : Int) = ((256 * m + x : Nat) : Int) := by
  rw [IntWalk.u64_in _ (by omega), bits_join .u64 64 (by decide) (fun n h0 h1 => IntWalk.u64_in n ⟨h0, by simp at h1; omega⟩) 8 _ _ (by omega) (by omega) (by simp; omega) (by omega) (by simp; omega) (by simp; omega)]
  omega

/-! ### Making -/

theorem run_alloc {t : TypeId} {z : Value} {L : List Value} (hz : (P.info? t).map (·.zero) = some (some z)) (hL : z.cells = L.toArray) (hop : o.op = .alloc t) :
    (execOp a.eval o).run P w = .ok (.value (.pointer (some ⟨w.heap.size, 0, none⟩))) (w.alloc (.cells L.toArray t)) := by
  obtain ⟨i, hi, hzi⟩ := Option.map_eq_some_iff.1 hz
  simp [execOp, hop, Instr.alloc, zeroValue, typeInfo, hi, hzi, newVar, newRow, hL]

/-- A new variable of type t, zero. -/
theorem wpl_alloc {t : TypeId} {z : Value} {L : List Value} (hz : (P.info? t).map (·.zero) = some (some z)) (hL : z.cells = L.toArray) (hg : o.guard = none) (hop : o.op = .alloc t)
    (h : ∀ g w', Blk w' g L t → Fr 0 0 w w' → w.heap.size ≤ g → g < w'.heap.size → wpList P ops Q rest (a.put o.dst (.pointer (some ⟨g, 0, none⟩))) w') : wpList P ops Q (o :: rest) a w :=
  wpl_val hg (run_alloc hz hL hop) (h _ _ (Blk.alloc w L t) (Fr.alloc w _) (Nat.le_refl _) (by simp))

/-- A new variable of type t, of value v. -/
theorem wpl_box {t : TypeId} {x : Operand} {v : Value} (L : List Value) (hg : o.guard = none) (hop : o.op = .box t x) (hx : a.eval x = v) (hL : v.cells = L.toArray)
    (h : ∀ g w', Blk w' g L t → Fr 0 0 w w' → w.heap.size ≤ g → g < w'.heap.size → wpList P ops Q rest (a.put o.dst (.pointer (some ⟨g, 0, none⟩))) w') : wpList P ops Q (o :: rest) a w := by
  refine wpl_val hg (v := .pointer (some ⟨w.heap.size, 0, none⟩)) (w' := w.alloc (.cells L.toArray t)) ?_ (h _ _ (Blk.alloc w L t) (Fr.alloc w _) (Nat.le_refl _) (by simp))
  simp [execOp, hop, Instr.box, newVar, newRow, hx, hL]

/-- 'make([]byte, n)'. -/
theorem wpl_make {s e : TypeId} {l c : Operand} {kl kc : IntKind} {L C : Int} {n : Nat} (hs : P.underlying s = some (.slice e)) (he : (P.info? e).map (fun i => (i.zero, i.size, i.bytes)) = some (some (.int .u8 0), 1, 1))
    (hg : o.guard = none) (hop : o.op = .makeSlice s l c) (hl : a.eval l = .int kl L) (hc : a.eval c = .int kc C) (hL : L = (n : Int)) (hC : C = (n : Int)) (hn : n ≤ 1099511627776)
    (h : ∀ g w', Blk w' g ((List.replicate n (0 : UInt8)).map ub) e → Fr 0 0 w w' → w.heap.size ≤ g → g < w'.heap.size → wpList P ops Q rest (a.put o.dst (.slice (some ⟨g, 0, none⟩) n n)) w') : wpList P ops Q (o :: rest) a w := by
  obtain ⟨i, hi, hz0, hz1, hz2⟩ := info_parts he
  refine wpList_make_full w hg l c s hop w.heap.size e i (.int .u8 0) 1 hs hi hz0 hz1 kl kc L C n hl hc hL hC (by rw [hz2]; omega) (by unfold maxLen; omega) (Nat.le_refl _) fun w' hown hgr => ?_
  obtain ⟨h1, ⟨h2, _⟩ | ⟨g, cap, cur, hv, hb, hh, _, _, hcs, ht⟩⟩ := hown
  · cases h2
  · cases hv
    have hcur : cur = ((List.replicate n (0 : UInt8)).map ub).toArray := by
      have e1 : cur.toList.take (n * 1) = cur.toList := List.take_of_length_le (by simp [hcs])
      rw [e1] at ht
      apply Array.ext'
      rw [ht]
      apply List.ext_getElem
      · simp [size_madeCells]
      · intro k h1 h2
        simp [madeCells, Value.cells, ub, Nat.mod_one]
    rw [hcur] at hh
    exact h _ _ hh (Fr.of_grown hgr (fun k hk => by cases hk)) (Nat.le_refl _) (Array.getElem?_eq_some_iff.1 hh).1

/-! ### Reading -/

/-- A variable that fills its block. -/
theorem wpl_load_blk {t t' : TypeId} {x : Operand} {g : Nat} {L : List Value} (hb : Blk w g L t') (hu : (P.underlying t).map (·.isRow) = some true) (hi : (P.info? t).map (·.size) = some L.length)
    (hg : o.guard = none) (hop : o.op = .load t x) (hx : a.eval x = .pointer (some ⟨g, 0, none⟩))
    (h : wpList P ops Q rest (a.put o.dst (.agg L.toArray)) w) : wpList P ops Q (o :: rest) a w :=
  let ⟨d, hu', hd⟩ := Option.map_eq_some_iff.1 hu
  wpList_load_mid hg t x hop g 0 hx L d (fun j v hj => by rw [Nat.zero_add, hb.cell]; exact hj) hu' hd hi h

theorem run_loadVar_blk {t t' : TypeId} {g : Nat} {L : List Value} (hb : Blk w g L t') (hu : (P.underlying t).map (·.isRow) = some true) (hi : (P.info? t).map (·.size) = some L.length) :
    (loadVar t ⟨g, 0, none⟩).run P w = .ok (.agg L.toArray) w :=
  let ⟨d, hu', hd⟩ := Option.map_eq_some_iff.1 hu
  run_loadVar_mid w g 0 t L d (fun j v hj => by rw [Nat.zero_add, hb.cell]; exact hj) hu' hd hi

/-- One result, that lies in a block. -/
theorem res_blk {fn : Func} {p : Tmp} {t t' : TypeId} {g : Nat} {L : List Value} {tmps : Array Value} (h : fn.results = #[.cell p t]) (hp : tmps.getD p undef = .pointer (some ⟨g, 0, none⟩)) (hb : Blk w g L t')
    (hu : (P.underlying t).map (·.isRow) = some true) (hi : (P.info? t).map (·.size) = some L.length) : (results fn tmps).run P w = .ok (.agg L.toArray) w := by
  have hp' : tmps[p]?.getD undef = .pointer (some ⟨g, 0, none⟩) := by simpa using hp
  simp [results, h, hp', asAddr, run_loadVar_blk hb hu hi]

/-- Two results, of which the first lies in a block. -/
theorem res_blk_tmp {fn : Func} {p q : Tmp} {t t' : TypeId} {g : Nat} {L : List Value} {tmps : Array Value} (h : fn.results = #[.cell p t, .tmp q]) (hp : tmps.getD p undef = .pointer (some ⟨g, 0, none⟩)) (hb : Blk w g L t')
    (hu : (P.underlying t).map (·.isRow) = some true) (hi : (P.info? t).map (·.size) = some L.length) : (results fn tmps).run P w = .ok (.tuple #[.agg L.toArray, tmps.getD q undef]) w := by
  have hp' : tmps[p]?.getD undef = .pointer (some ⟨g, 0, none⟩) := by simpa using hp
  simp [results, h, hp', asAddr, run_loadVar_blk hb hu hi]

/-- A variable of several cells in the midst of a block. -/
theorem wpl_load_part {t t' : TypeId} {x : Operand} {g off : Nat} {A L Z : List Value} (hb : Blk w g (A ++ L ++ Z) t') (hA : A.length = off) (hu : (P.underlying t).map (·.isRow) = some true) (hi : (P.info? t).map (·.size) = some L.length)
    (hg : o.guard = none) (hop : o.op = .load t x) (hx : a.eval x = .pointer (some ⟨g, off, none⟩))
    (h : wpList P ops Q rest (a.put o.dst (.agg L.toArray)) w) : wpList P ops Q (o :: rest) a w := by
  subst hA
  obtain ⟨d, hu', hd⟩ := Option.map_eq_some_iff.1 hu
  refine wpList_load_mid hg t x hop g A.length hx L d (fun j v hj => ?_) hu' hd hi h
  have hl := (List.getElem?_eq_some_iff.1 hj).1
  rw [hb.cell, List.append_assoc, List.getElem?_append_right (by omega), Nat.add_sub_cancel_left, List.getElem?_append_left hl]
  exact hj

/-! ### Cutting -/

theorem run_slice22 {ad : Option Addr} {n cap : Nat} (lo hi mx : Option Value) (I J M : Nat) (hM : mx = some (.int .i64 M) ∧ M ≤ cap ∨ mx = none ∧ M = cap) (hJ : hi = some (.int .i64 J) ∧ J ≤ M ∨ hi = none ∧ mx = none ∧ J = n)
    (hI : lo = some (.int .i64 I) ∧ I ≤ J ∨ lo = none ∧ I = 0) :
    (Instr.sliceAt 24 (.slice ad n cap) lo hi mx).run Tryd.prog w = .ok (.slice (subA ad M I) (J - I) (M - I)) w := by
  obtain ⟨i, hi0, hz0, hz1, hz2⟩ := info_parts inf5
  rcases hM with ⟨rfl, hM⟩ | ⟨rfl, rfl⟩ <;> rcases hJ with ⟨rfl, hJ⟩ | ⟨rfl, hmx, rfl⟩ <;> rcases hI with ⟨rfl, hI⟩ | ⟨rfl, rfl⟩ <;> first
    | (cases hmx; done)
    | simp [Instr.sliceAt, Instr.slice, run_underlying und22, Instr.sliceBounds, Instr.sliceBound, asIntOf, sizeOf, typeInfo, hi0, hz1, subA, *]

/-- 's[i:]' -/
theorem wpl_slice_from {x lo : Operand} {c d I : Nat} {ad : Option Addr} {n cap : Nat} {l : List UInt8} (hrd : RdB w c d (.slice ad n cap) l) (hI : I ≤ n)
    (hg : o.guard = none) (hop : o.op = .slice 24 x (some lo) none none) (hx : a.eval x = .slice ad n cap) (hlo : a.eval lo = .int .i64 I)
    (h : ∀ ad' cap', RdB w c d (.slice ad' (n - I) cap') (l.drop I) → wpList Tryd.prog ops Q rest (a.put o.dst (.slice ad' (n - I) cap')) w) : wpList Tryd.prog ops Q (o :: rest) a w := by
  have hl : n = l.length ∧ n ≤ cap := by obtain ⟨_, _, e, h2, _⟩ := hrd; cases e; exact ⟨rfl, h2⟩
  have hr := hrd.sub I n cap hI (by omega) hl.2 (Nat.le_refl _)
  rw [hl.1, List.take_of_length_le (Nat.le_refl _), ← hl.1] at hr
  refine wpl_val hg ?_ (h _ _ hr)
  simp [execOp, hop, hx, hlo, run_slice22 (w := w) (ad := ad) (n := n) (cap := cap) (some (.int .i64 I)) none none I n cap (.inr ⟨rfl, rfl⟩) (.inr ⟨rfl, rfl, rfl⟩) (.inl ⟨rfl, hI⟩)]

/-- 's[i:]' of one's own. -/
theorem wpl_own_from {x lo : Operand} {c d I : Nat} {ad : Option Addr} {n cap : Nat} {l : List UInt8} (hrd : OwB w c d (.slice ad n cap) l) (hI : I ≤ n)
    (hg : o.guard = none) (hop : o.op = .slice 24 x (some lo) none none) (hx : a.eval x = .slice ad n cap) (hlo : a.eval lo = .int .i64 I)
    (h : ∀ ad' cap', OwB w c d (.slice ad' (n - I) cap') (l.drop I) → wpList Tryd.prog ops Q rest (a.put o.dst (.slice ad' (n - I) cap')) w) : wpList Tryd.prog ops Q (o :: rest) a w := by
  refine wpl_val hg ?_ (h _ _ (hrd.from I hI))
  simp [execOp, hop, hx, hlo, run_slice22 (w := w) (ad := ad) (n := n) (cap := cap) (some (.int .i64 I)) none none I n cap (.inr ⟨rfl, rfl⟩) (.inr ⟨rfl, rfl, rfl⟩) (.inl ⟨rfl, hI⟩)]

/-- 's[:j]' -/
theorem wpl_slice_to {x hi : Operand} {c d J : Nat} {ad : Option Addr} {n cap : Nat} {l : List UInt8} (hrd : RdB w c d (.slice ad n cap) l) (hJ : J ≤ n)
    (hg : o.guard = none) (hop : o.op = .slice 24 x none (some hi) none) (hx : a.eval x = .slice ad n cap) (hhi : a.eval hi = .int .i64 J)
    (h : ∀ ad' cap', RdB w c d (.slice ad' J cap') (l.take J) → wpList Tryd.prog ops Q rest (a.put o.dst (.slice ad' J cap')) w) : wpList Tryd.prog ops Q (o :: rest) a w := by
  have hl : n = l.length ∧ n ≤ cap := by obtain ⟨_, _, e, h2, _⟩ := hrd; cases e; exact ⟨rfl, h2⟩
  have hr := hrd.sub 0 J cap (Nat.zero_le _) (by omega) (by omega) (Nat.le_refl _)
  rw [List.drop_zero, Nat.sub_zero] at hr
  refine wpl_val hg ?_ (h _ _ hr)
  simp [execOp, hop, hx, hhi, run_slice22 (w := w) (ad := ad) (n := n) (cap := cap) none (some (.int .i64 J)) none 0 J cap (.inr ⟨rfl, rfl⟩) (.inl ⟨rfl, by omega⟩) (.inr ⟨rfl, rfl⟩)]

/-- 's[i:j]' -/
theorem wpl_slice_mid {x lo hi : Operand} {c d I J : Nat} {ad : Option Addr} {n cap : Nat} {l : List UInt8} (hrd : RdB w c d (.slice ad n cap) l) (hI : I ≤ J) (hJ : J ≤ n)
    (hg : o.guard = none) (hop : o.op = .slice 24 x (some lo) (some hi) none) (hx : a.eval x = .slice ad n cap) (hlo : a.eval lo = .int .i64 I) (hhi : a.eval hi = .int .i64 J)
    (h : ∀ ad' cap', RdB w c d (.slice ad' (J - I) cap') ((l.take J).drop I) → wpList Tryd.prog ops Q rest (a.put o.dst (.slice ad' (J - I) cap')) w) : wpList Tryd.prog ops Q (o :: rest) a w := by
  have hl : n = l.length ∧ n ≤ cap := by obtain ⟨_, _, e, h2, _⟩ := hrd; cases e; exact ⟨rfl, h2⟩
  have hr := hrd.sub I J cap hI (by omega) (by omega) (Nat.le_refl _)
  refine wpl_val hg ?_ (h _ _ hr)
  simp [execOp, hop, hx, hlo, hhi, run_slice22 (w := w) (ad := ad) (n := n) (cap := cap) (some (.int .i64 I)) (some (.int .i64 J)) none I J cap (.inr ⟨rfl, rfl⟩) (.inl ⟨rfl, by omega⟩) (.inl ⟨rfl, hI⟩)]

/-- 's[:j:j]' -/
theorem wpl_slice_to3 {x hi mx : Operand} {c d J : Nat} {ad : Option Addr} {n cap : Nat} {l : List UInt8} (hrd : RdB w c d (.slice ad n cap) l) (hJ : J ≤ n)
    (hg : o.guard = none) (hop : o.op = .slice 24 x none (some hi) (some mx)) (hx : a.eval x = .slice ad n cap) (hhi : a.eval hi = .int .i64 J) (hmx : a.eval mx = .int .i64 J)
    (h : ∀ ad', RdB w c d (.slice ad' J J) (l.take J) → wpList Tryd.prog ops Q rest (a.put o.dst (.slice ad' J J)) w) : wpList Tryd.prog ops Q (o :: rest) a w := by
  have hl : n = l.length ∧ n ≤ cap := by obtain ⟨_, _, e, h2, _⟩ := hrd; cases e; exact ⟨rfl, h2⟩
  have hr := hrd.sub 0 J J (Nat.zero_le _) (by omega) (Nat.le_refl _) (by omega)
  rw [List.drop_zero, Nat.sub_zero] at hr
  refine wpl_val hg ?_ (h _ hr)
  simp [execOp, hop, hx, hhi, hmx, run_slice22 (w := w) (ad := ad) (n := n) (cap := cap) none (some (.int .i64 J)) (some (.int .i64 J)) 0 J J (.inl ⟨rfl, by omega⟩) (.inl ⟨rfl, Nat.le_refl _⟩) (.inr ⟨rfl, rfl⟩)]

/-! ### Writing -/

theorem Blk.setRow {g : Nat} {L L' : List Value} {t : TypeId} (hb : Blk w g L t) : Blk (w.setRow g L'.toArray) g L' t ∧ Fr g (g + 1) w (w.setRow g L'.toArray) :=
  ⟨setRow_heap w g _ _ t _ hb, rfl, rfl, rfl, by simp, fun k _ ho => setRow_other w g k _ (by omega)⟩

/-- One cell of a block that is known. -/
theorem wpl_store_cell {t t' : TypeId} {x y : Operand} {g off : Nat} {L : List Value} {v : Value} (hb : Blk w g L t') (hoff : off < L.length) (hi : (P.info? t).map (·.size) = some 1) (hv : v.cells = #[v]) (hv1 : v.oneCell' = true)
    (hg : o.guard = none) (hop : o.op = .store t x y) (hx : a.eval x = .pointer (some ⟨g, off, none⟩)) (hy : a.eval y = v)
    (h : ∀ w', Blk w' g (L.set off v) t' → Fr g (g + 1) w w' → wpList P ops Q rest (a.put o.dst undef) w') : wpList P ops Q (o :: rest) a w := by
  have hst := run_storeCells_at P g off t' [v] 0 L.toArray w hb (by simp; omega) (fun u hu => by simp at hu; rw [hu]; exact hv1)
  have e : ((L.toArray.toList.take (off + 0)) ++ [v] ++ L.toArray.toList.drop (off + 0 + [v].length)) = L.set off v := by
    simp [List.set_eq_take_append_cons_drop, hoff]
  rw [e] at hst
  obtain ⟨i, hi1, hi2⟩ := Option.map_eq_some_iff.1 hi
  have r := (hb.setRow (L' := L.set off v))
  refine wpl_skip hg (w' := w.setRow g (L.set off v).toArray) ?_ (h _ r.1 r.2)
  simp [execOp, hop, hx, hy, Instr.storeAt, Instr.sureAddr, storeVar, sizeOf, typeInfo, hi1, hi2, hv, hst]

/-- The same as one step of a region that draws its order. -/
theorem st_store_cell {K : Act → World → Prop} {E : Prop} {t t' : TypeId} {x y : Operand} {g off : Nat} {L : List Value} {v : Value} (hb : Blk w g L t') (hoff : off < L.length) (hi : (P.info? t).map (·.size) = some 1) (hv : v.cells = #[v]) (hv1 : v.oneCell' = true)
    (hg : o.guard = none) (hop : o.op = .store t x y) (hx : a.eval x = .pointer (some ⟨g, off, none⟩)) (hy : a.eval y = v)
    (h : ∀ w', Blk w' g (L.set off v) t' → Fr g (g + 1) w w' → K (a.put o.dst undef) w') :
    if Region.wanted o (yielded ops a.tmps) = true then Oper.wp P o a w K Q else E := by
  have hw : Region.wanted o (yielded ops a.tmps) = true := by simp [Region.wanted, hg]
  rw [if_pos hw]
  have hst := run_storeCells_at P g off t' [v] 0 L.toArray w hb (by simp; omega) (fun u hu => by simp at hu; rw [hu]; exact hv1)
  have e : ((L.toArray.toList.take (off + 0)) ++ [v] ++ L.toArray.toList.drop (off + 0 + [v].length)) = L.set off v := by
    simp [List.set_eq_take_append_cons_drop, hoff]
  rw [e] at hst
  obtain ⟨i, hi1, hi2⟩ := Option.map_eq_some_iff.1 hi
  have r := (hb.setRow (L' := L.set off v))
  unfold Oper.wp
  have e2 : (execOp a.eval o).run P w = .ok .skip (w.setRow g (L.set off v).toArray) := by
    simp [execOp, hop, hx, hy, Instr.storeAt, Instr.sureAddr, storeVar, sizeOf, typeInfo, hi1, hi2, hv, hst]
  rw [e2]
  exact h _ r.1 r.2

/-- Several cells in the midst of a block. -/
theorem wpl_store_part {t t' : TypeId} {x y : Operand} {g off : Nat} {A L Z L' : List Value} (hb : Blk w g (A ++ L ++ Z) t') (hA : A.length = off) (hl : L'.length = L.length) (hi : (P.info? t).map (·.size) = some L'.length) (h1 : ∀ v ∈ L', v.oneCell' = true)
    (hg : o.guard = none) (hop : o.op = .store t x y) (hx : a.eval x = .pointer (some ⟨g, off, none⟩)) (hy : a.eval y = .agg L'.toArray)
    (h : ∀ w', Blk w' g (A ++ L' ++ Z) t' → Fr g (g + 1) w w' → wpList P ops Q rest (a.put o.dst undef) w') : wpList P ops Q (o :: rest) a w := by
  subst hA
  have hst := run_storeCells_at P g A.length t' L' 0 (A ++ L ++ Z).toArray w hb (by simp; omega) h1
  have e : (((A ++ L ++ Z).toArray.toList.take (A.length + 0)) ++ L' ++ (A ++ L ++ Z).toArray.toList.drop (A.length + 0 + L'.length)) = A ++ L' ++ Z := by
    simp [hl, List.drop_append]
  rw [e] at hst
  obtain ⟨i, hi1, hi2⟩ := Option.map_eq_some_iff.1 hi
  have r := (hb.setRow (L' := A ++ L' ++ Z))
  refine wpl_skip hg (w' := w.setRow g (A ++ L' ++ Z).toArray) ?_ (h _ r.1 r.2)
  simp [execOp, hop, hx, hy, Instr.storeAt, Instr.sureAddr, storeVar, sizeOf, typeInfo, hi1, hi2, Value.cells]
  rw [hst]
  simp

/-- A block's whole variable. -/
theorem wpl_store_blk {t t' : TypeId} {x y : Operand} {g : Nat} {L L' : List Value} (hb : Blk w g L t') (hl : L'.length = L.length) (hi : (P.info? t).map (·.size) = some L'.length) (h1 : ∀ v ∈ L', v.oneCell' = true)
    (hg : o.guard = none) (hop : o.op = .store t x y) (hx : a.eval x = .pointer (some ⟨g, 0, none⟩)) (hy : a.eval y = .agg L'.toArray)
    (h : ∀ w', Blk w' g L' t' → Fr g (g + 1) w w' → wpList P ops Q rest (a.put o.dst undef) w') : wpList P ops Q (o :: rest) a w :=
  wpl_store_part (A := []) (L := L) (Z := []) (by simpa using hb) rfl hl hi h1 hg hop hx hy (fun w' hb' hf => h w' (by simpa using hb') hf)

/-! ### Building -/

/-- Where a struct's fields lie, and how many cells each has. -/
def placesOf (P : Program) (t : TypeId) : Option (List (Nat × Nat)) :=
  match P.underlying t with
  | some (.struct fs) => fs.toList.mapM (fun f => (P.info? f.type).map fun i => (f.offset, i.size))
  | _ => none

theorem built_struct {t : TypeId} {z : Value} {places : List (Nat × Nat)} (parts : List (Nat × Value)) (hz : (P.info? t).map (·.zero) = some (some z)) (hp : placesOf P t = some places) :
    P.built t parts = Instr.fill (places.toArray[·]?) z.cells parts := by
  obtain ⟨i, hi, hzi⟩ := Option.map_eq_some_iff.1 hz
  unfold placesOf at hp
  unfold Program.built
  rw [hi]
  split at hp
  · rename_i fs hu
    rw [hu]
    simp only [hzi, hp]
  · cases hp

theorem fold_splice : ∀ (vs A B Z : List Value) (j : Nat), B.length = vs.length →
    (vs.zipIdx j).foldl (fun (cs : Array Value) (x : Value × Nat) => cs.setIfInBounds (A.length - j + x.2) x.1) (A ++ B ++ Z).toArray = if j ≤ A.length then (A ++ vs ++ Z).toArray else (vs.zipIdx j).foldl (fun (cs : Array Value) (x : Value × Nat) => cs.setIfInBounds (A.length - j + x.2) x.1) (A ++ B ++ Z).toArray
  | [], A, B, Z, j, h => by
    have : B = [] := List.eq_nil_of_length_eq_zero h
    subst this
    split <;> simp
  | v :: vs, A, b :: B, Z, j, h => by
    split
    · rename_i hj
      have ih := fold_splice vs (A ++ [v]) B Z (j + 1) (by simpa using h)
      rw [if_pos (by simp; omega)] at ih
      have e1 : (A ++ [v]).length - (j + 1) = A.length - j := by simp
      rw [e1] at ih
      have e2 : (A ++ (b :: B) ++ Z).toArray.setIfInBounds (A.length - j + j) v = (A ++ [v] ++ B ++ Z).toArray := by
        rw [Nat.sub_add_cancel hj]
        simp
      simp only [List.zipIdx_cons, List.foldl_cons]
      rw [e2, ih]
      simp
    · rfl
  | v :: vs, A, [], Z, j, h => by simp at h

theorem fill_step {place : Nat → Option (Nat × Nat)} {A B Z vs : List Value} {i : Nat} {v : Value} (rest : List (Nat × Value)) (hp : place i = some (A.length, vs.length)) (hv : v.cells = vs.toArray) (hB : B.length = vs.length) :
    Instr.fill place (A ++ B ++ Z).toArray ((i, v) :: rest) = Instr.fill place (A ++ vs ++ Z).toArray rest := by
  have h := fold_splice vs A B Z 0 hB
  rw [if_pos (Nat.zero_le _)] at h
  simp only [Nat.sub_zero] at h
  have e : (vs.toArray.zipIdx.foldl (fun (cs : Array Value) (x : Value × Nat) => cs.setIfInBounds (A.length + x.2) x.1) (A ++ B ++ Z).toArray) = (A ++ vs ++ Z).toArray := by
    rw [← h]
    simp
  rw [Instr.fill, hp]
  simp only [hv]
  rw [if_neg (by simp; omega)]
  exact congrArg (fun x => Instr.fill place x rest) e

theorem fill_seg {place : Nat → Option (Nat × Nat)} {segs : List (List Value)} {i : Nat} {v : Value} (vs : List Value) (rest : List (Nat × Value)) (hi : i < segs.length) (hp : place i = some ((segs.take i).flatten.length, vs.length)) (hv : v.cells = vs.toArray)
    (hl : (segs[i]'hi).length = vs.length) : Instr.fill place segs.flatten.toArray ((i, v) :: rest) = Instr.fill place (segs.set i vs).flatten.toArray rest := by
  have e1 : segs.flatten = (segs.take i).flatten ++ segs[i] ++ (segs.drop (i + 1)).flatten := by
    have e : segs = segs.take i ++ segs[i] :: segs.drop (i + 1) := by rw [← List.drop_eq_getElem_cons hi, List.take_append_drop]
    conv => lhs; rw [e]
    rw [List.flatten_append, List.flatten_cons, List.append_assoc]
  have e2 : (segs.set i vs).flatten = (segs.take i).flatten ++ vs ++ (segs.drop (i + 1)).flatten := by
    rw [List.set_eq_take_append_cons_drop, if_pos hi]
    simp
  rw [e1, e2]
  exact fill_step rest hp hv hl

theorem wpl_build {t : TypeId} {parts : List (Nat × Operand)} {PL : List (Nat × Value)} {L : List Value} (hb : P.built t PL = some L.toArray) (hg : o.guard = none) (hop : o.op = .build t parts.toArray)
    (hp : parts.map (fun p => (p.1, a.eval p.2)) = PL) (h : wpList P ops Q rest (a.put o.dst (.agg L.toArray)) w) : wpList P ops Q (o :: rest) a w := by
  subst hp
  refine wpl_val hg (v := .agg L.toArray) (w' := w) ?_ h
  have := run_build (P := P) w t (parts.map (fun p => (p.1, a.eval p.2))).toArray L.toArray (by simpa using hb)
  simp [execOp, hop, this]

/-! ### append, copy -/

theorem RdB.news {lo hi : Nat} {v : Value} {l : List UInt8} (h : RdB w lo hi v l) : (l = [] ∧ ∃ a cap, v = .slice a 0 cap ∧ (a = none → cap = 0)) ∨
    ∃ b off cap, v = .slice (some ⟨b, off, none⟩) l.length cap ∧ 0 < l.length ∧ lo ≤ b ∧ b < hi ∧ ∀ j u, (l.map ub)[j]? = some u → w.cell? ((⟨b, off, none⟩ : Addr).add j) = some u := by
  by_cases hl : l = []
  · subst hl
    obtain ⟨a, cap, e, _, _, r, _⟩ := h
    exact .inl ⟨rfl, a, cap, e, r⟩
  · obtain ⟨b, off, cap, e, _, _, h1, h2, h3⟩ := h.place (List.length_pos_iff.2 hl)
    refine .inr ⟨b, off, cap, e, List.length_pos_iff.2 hl, h1, h2, fun j u hj => ?_⟩
    rw [List.getElem?_map] at hj
    obtain ⟨x, hx, rfl⟩ := Option.map_eq_some_iff.1 hj
    obtain ⟨hlt, rfl⟩ := List.getElem?_eq_some_iff.1 hx
    rw [Addr.add_lit]
    exact h3 j hlt

theorem OwB.of_row {s : Nat} {lo hi : Nat} {v : Value} {l : List UInt8} (h : w.ownsRow lo 5 1 v l.length (l.map ub)) (hb : ∀ k, v.ownBlock = some k → k < hi) (_hs : s = 0) : OwB w lo hi v l := by
  obtain ⟨h1, ⟨rfl, h2⟩ | ⟨g, cap, cur, rfl, hg, hh, hn, hm, hc, ht⟩⟩ := h
  · exact .inl ⟨rfl, List.length_eq_zero_iff.1 h2⟩
  · exact .inr (.inr ⟨g, 0, cap, cur.toList, rfl, hg, hb g rfl, hh, hn, hm, by simp [hc], by simpa using ht⟩)

theorem run_append_room_off (t ty e : TypeId) (i : TypeInfo) (ht : P.underlying t = some (.slice e)) (hi : P.info? e = some i)
    (g off sLen sCap : Nat) (cur : Array Value) (hg : w.heap[g]? = some (.cells cur e (0, 0)))
    (a : Addr) (m c : Nat) (news : List Value) (hl : news.length = m * i.size) (hnews : ∀ j u, news[j]? = some u → w.cell? (a.add j) = some u) (h1 : ∀ u ∈ news, u.oneCell' = true)
    (hroom : sLen + m ≤ sCap) (hfit : off + sLen * i.size + news.length ≤ cur.size) :
    (Builtin.append_ #[t, t] ty #[.slice (some ⟨g, off, none⟩) sLen sCap, .slice (some a) m c]).run P w =
      .ok (.slice (some ⟨g, off, none⟩) (sLen + m) sCap) (w.setRow g (cur.toList.take (off + sLen * i.size) ++ news ++ cur.toList.drop (off + sLen * i.size + news.length)).toArray) := by
  have hf := run_firstCells_some (P := P) w i.size m a m c news hl hnews
  have hst := run_storeCells_at P g (off + sLen * i.size) e news 0 cur w hg (by simpa using hfit) h1
  simp only [Nat.add_zero] at hst
  simp [Builtin.append_, run_underlying ht, sizeOf, typeInfo, hi, Builtin.lenOf, hroom, hf, Addr.add_lit, hst]

theorem run_append_bytes {lo hi b c : Nat} {v u : Value} {l m : List UInt8} (ty : TypeId) (hown : OwB w lo hi v l) (hrd : RdB w b c u m) (hsz : l.length + m.length ≤ 1099511627776) :
    ∃ v' w' lo' hi', (Builtin.append_ #[24, 24] ty #[v, u]).run Tryd.prog w = .ok v' w' ∧ OwB w' lo' hi' v' (l ++ m) ∧ Fr lo hi w w' ∧ ((lo ≤ lo' ∧ lo' ≤ lo ∧ hi' ≤ hi ∧ hi ≤ hi') ∨ (w.heap.size ≤ lo' ∧ hi' ≤ w'.heap.size)) := by
  obtain ⟨i, hi0, hz0, hz1, hz2⟩ := info_parts inf5
  have hcap (v' : Value) {w' : World} (hl : w'.ownsRow w.heap.size 5 1 v' (l ++ m).length ((l ++ m).map ub)) : OwB w' w.heap.size w'.heap.size v' (l ++ m) :=
    OwB.of_row (s := 0) hl (fun k hk => (hl.lt k hk).2) rfl
  rcases hrd.news with ⟨rfl, ao, cp, rfl, hno⟩ | ⟨rb, roff, rcap, rfl, hpos, _, _, hnews⟩
  · -- nothing is appended
    have hrun : (Builtin.append_ #[24, 24] ty #[v, .slice ao 0 cp]).run Tryd.prog w = .ok v w := by
      have hf : (Builtin.firstCells 1 0 (.slice ao 0 cp)).run Tryd.prog w = .ok #[] w := by
        cases ao <;> simp [Builtin.firstCells, loadCells, loadCellsFrom]
      rcases hown with ⟨rfl, rfl⟩ | ⟨rfl, x, rfl⟩ | ⟨g, off, cap, cur, rfl, _, _, hb, h3, _⟩
      · simp [Builtin.append_, run_underlying und22, sizeOf, typeInfo, hi0, hz1, Builtin.lenOf, hf]
      · simp [Builtin.append_, run_underlying und22, sizeOf, typeInfo, hi0, hz1, Builtin.lenOf, hf, storeCells]
      · simp [Builtin.append_, run_underlying und22, sizeOf, typeInfo, hi0, hz1, Builtin.lenOf, hf, storeCells, h3]
    exact ⟨v, w, lo, hi, hrun, by simpa using hown, Fr.refl _ _ _, .inl ⟨Nat.le_refl _, Nat.le_refl _, Nat.le_refl _, Nat.le_refl _⟩⟩
  · have hnl : (m.map ub).length = m.length * 1 := by simp
    have hb1 : l.length + m.length ≤ maxLen := by unfold maxLen; omega
    have hb2 : (l.length + m.length) * 1 ≤ 140737488355328 := by omega
    rcases hown with ⟨rfl, rfl⟩ | ⟨rfl, x, rfl⟩ | ⟨g, off, cap, cur, rfl, hg1, hg2, hb, h3, h4, h5, h6⟩
    · obtain ⟨v', w', hr, r1, r2, _⟩ := run_append_own (P := Tryd.prog) w w.heap.size 24 ty 5 i (.int .u8 0) 1 1 und22 hi0 hz0 hz1 hz2 rfl (by omega) (.slice none 0 0) 0 [] (World.ownsRow_nil w _ _ _)
        ⟨rb, roff, none⟩ m.length rcap (m.map ub) hnl hnews (ub_oneCell m) (by simpa using hb1) (by simpa using hb2) (Nat.le_refl _)
      exact ⟨v', w', w.heap.size, w'.heap.size, hr, hcap v' (by simpa using r1), Fr.of_grown r2 (fun k hk => by simp [Value.ownBlock] at hk), .inr ⟨Nat.le_refl _, Nat.le_refl _⟩⟩
    · obtain ⟨v', w', hr, r1, r2⟩ := run_append_arg_grows (P := Tryd.prog) w 24 ty 5 i (.int .u8 0) 1 1 und22 hi0 hz0 hz1 hz2 rfl (by omega) x 0 0 [] rfl (by simp)
        ⟨rb, roff, none⟩ m.length rcap (m.map ub) hnl hnews (by omega) (by simpa using hb1) (by simpa using hb2)
      exact ⟨v', w', w.heap.size, w'.heap.size, hr, hcap v' (by simpa using r1), Fr.of_grown r2 (fun k hk => by cases hk), .inr ⟨Nat.le_refl _, Nat.le_refl _⟩⟩
    · by_cases hroom : l.length + m.length ≤ cap
      · have hr := run_append_room_off (P := Tryd.prog) (w := w) 24 ty 5 i und22 hi0 g off l.length cap cur.toArray hb ⟨rb, roff, none⟩ m.length rcap (m.map ub) (by rw [hz1]; exact hnl) hnews (ub_oneCell m) hroom (by rw [hz1]; simp; omega)
        have e6 : cur.take (off + l.length) = cur.take off ++ l.map ub := by rw [List.take_add, h6]
        have e : (cur.toArray.toList.take (off + l.length * i.size) ++ m.map ub ++ cur.toArray.toList.drop (off + l.length * i.size + (m.map ub).length)) = cur.take off ++ (((l ++ m).map ub) ++ cur.drop (off + l.length + m.length)) := by
          simp [hz1, e6]
        rw [e] at hr
        have r := hb.setRow (L' := cur.take off ++ (((l ++ m).map ub) ++ cur.drop (off + l.length + m.length)))
        have hlo : (cur.take off).length = off := by simp; omega
        refine ⟨_, _, lo, hi, hr, .inr (.inr ⟨g, off, cap, _, by simp, hg1, hg2, r.1, by simp; omega, h4, by simp; omega, ?_⟩), r.2.mono (by omega) (by omega), .inl ⟨Nat.le_refl _, Nat.le_refl _, Nat.le_refl _, Nat.le_refl _⟩⟩
        rw [List.drop_append_of_le_length (by omega), List.drop_eq_nil_of_le (by omega), List.nil_append, List.take_append_of_le_length (by simp), List.take_of_length_le (by simp)]
      · have holds : ∀ j u, (l.map ub)[j]? = some u → w.cell? ((⟨g, off, none⟩ : Addr).add j) = some u := fun j u hj => by
          rw [Addr.add_lit, hb.cell]
          rw [← h6, List.getElem?_take] at hj
          split at hj
          · rw [List.getElem?_drop] at hj; exact hj
          · cases hj
        obtain ⟨v', w', hr, r1, r2⟩ := run_append_arg_grows (P := Tryd.prog) w 24 ty 5 i (.int .u8 0) 1 1 und22 hi0 hz0 hz1 hz2 rfl (by omega) ⟨g, off, none⟩ l.length cap (l.map ub) (by simp) holds
          ⟨rb, roff, none⟩ m.length rcap (m.map ub) hnl hnews (by omega) hb1 hb2
        exact ⟨v', w', w.heap.size, w'.heap.size, hr, hcap v' (by simpa using r1), Fr.of_grown r2 (fun k hk => by cases hk), .inr ⟨Nat.le_refl _, Nat.le_refl _⟩⟩

/-- 'append(v, u...)' of bytes: v the call's own, u whatever. -/
theorem wpl_append {s x : Operand} {lo hi b c : Nat} {v u : Value} {l m : List UInt8} (hown : OwB w lo hi v l) (hrd : RdB w b c u m) (hsz : l.length + m.length ≤ 1099511627776)
    (hg : o.guard = none) (hop : o.op = .call { callee := .builtin .append, args := #[s, x], argTypes := #[24, 24] }) (hs : a.eval s = v) (hx : a.eval x = u)
    (h : ∀ v' w' lo' hi', OwB w' lo' hi' v' (l ++ m) → Fr lo hi w w' → ((lo ≤ lo' ∧ lo' ≤ lo ∧ hi' ≤ hi ∧ hi ≤ hi') ∨ (w.heap.size ≤ lo' ∧ hi' ≤ w'.heap.size)) → wpList Tryd.prog ops Q rest (a.put o.dst v') w') : wpList Tryd.prog ops Q (o :: rest) a w := by
  obtain ⟨v', w', lo', hi', hr, h1, h2, h3⟩ := run_append_bytes o.type hown hrd hsz
  refine wpl_val hg (v := v') (w' := w') ?_ (h v' w' lo' hi' h1 h2 h3)
  simp [execOp, hop, resolve, invoke, builtin, hs, hx, hr]

/-- The same as one step of a region that draws its order. -/
theorem st_append {K : Act → World → Prop} {E : Prop} {s x : Operand} {lo hi b c : Nat} {v u : Value} {l m : List UInt8} (hown : OwB w lo hi v l) (hrd : RdB w b c u m) (hsz : l.length + m.length ≤ 1099511627776)
    (hg : o.guard = none) (hop : o.op = .call { callee := .builtin .append, args := #[s, x], argTypes := #[24, 24] }) (hs : a.eval s = v) (hx : a.eval x = u)
    (h : ∀ v' w' lo' hi', OwB w' lo' hi' v' (l ++ m) → Fr lo hi w w' → ((lo ≤ lo' ∧ lo' ≤ lo ∧ hi' ≤ hi ∧ hi ≤ hi') ∨ (w.heap.size ≤ lo' ∧ hi' ≤ w'.heap.size)) → K (a.put o.dst v') w') :
    if Region.wanted o (yielded ops a.tmps) = true then Oper.wp Tryd.prog o a w K Q else E := by
  have hw : Region.wanted o (yielded ops a.tmps) = true := by simp [Region.wanted, hg]
  rw [if_pos hw]
  obtain ⟨v', w', lo', hi', hr, h1, h2, h3⟩ := run_append_bytes o.type hown hrd hsz
  unfold Oper.wp
  have e : (execOp a.eval o).run Tryd.prog w = .ok (.value v') w' := by simp [execOp, hop, resolve, invoke, builtin, hs, hx, hr]
  rw [e]
  exact h v' w' lo' hi' h1 h2 h3

/-- 'copy' of bytes into the midst of a block that is known. -/
theorem exec_copy {s x : Operand} {g off dn dc b c : Nat} {A B Z : List Value} {t : TypeId} {u : Value} {m : List UInt8} (n : Nat) (hb : Blk w g (A ++ B ++ Z) t) (hA : A.length = off) (hB : B.length = n) (hn : n ≤ m.length ∧ n = dn ∨ n = m.length ∧ n ≤ dn) (hrd : RdB w b c u m)
    (hop : o.op = .call { callee := .builtin .copy, args := #[s, x], argTypes := #[24, 24] }) (hs : a.eval s = .slice (some ⟨g, off, none⟩) dn dc) (hx : a.eval x = u) :
    ∃ w', (execOp a.eval o).run Tryd.prog w = .ok (.value (.int .i64 n)) w' ∧ Blk w' g (A ++ (m.take n).map ub ++ Z) t ∧ Fr g (g + 1) w w' := by
  have hsz : (Tryd.prog.info? 5).map (·.size) = some 1 := by kernel_rfl
  replace hn : n = Nat.min m.length dn := by
    show n = min m.length dn
    omega
  subst hB
  rcases hrd.news with ⟨rfl, ao, cp, rfl, hno⟩ | ⟨rb, roff, rcap, rfl, hpos, _, _, hnews⟩
  · have hB0 : B = [] := List.eq_nil_of_length_eq_zero (by simpa using hn)
    subst hB0
    have hrun := run_copy_none (P := Tryd.prog) w 24 24 o.type 5 (some ⟨g, off, none⟩) ao dn dc 0 cp und22 hsz (by simp)
    refine ⟨w, ?_, by simpa using hb, Fr.refl _ _ _⟩
    simp [execOp, hop, resolve, invoke, builtin, hs, hx, hrun]
    rfl
  · subst hA
    have hl : ((m.take B.length).map ub).length = B.length := by simp [hn]
    have hrun := run_copy_row (P := Tryd.prog) w 24 24 o.type 5 g A.length dn dc ⟨rb, roff, none⟩ m.length rcap _ t ((m.take B.length).map ub) und22 hsz hb (by rw [hl, hn]) (fun j v hj => by
      refine hnews j v ?_
      rw [List.map_take, List.getElem?_take] at hj
      split at hj
      · exact hj
      · cases hj) (by simp; omega) (ub_oneCell _)
    have e : ((A ++ B ++ Z).toArray.toList.take A.length ++ (m.take B.length).map ub ++ (A ++ B ++ Z).toArray.toList.drop (A.length + ((m.take B.length).map ub).length)) = A ++ (m.take B.length).map ub ++ Z := by
      rw [hl]
      simp [List.drop_append]
    rw [e, hl] at hrun
    have r := hb.setRow (L' := A ++ (m.take B.length).map ub ++ Z)
    refine ⟨_, ?_, r.1, r.2⟩
    simp only [execOp, hop, resolve, invoke, builtin]
    simp [hs, hx, hrun]
    rfl

theorem wpl_copy {s x : Operand} {g off dn dc b c : Nat} {A B Z : List Value} {t : TypeId} {u : Value} {m : List UInt8} (n : Nat) (hb : Blk w g (A ++ B ++ Z) t) (hA : A.length = off) (hB : B.length = n) (hn : n ≤ m.length ∧ n = dn ∨ n = m.length ∧ n ≤ dn) (hrd : RdB w b c u m)
    (hg : o.guard = none) (hop : o.op = .call { callee := .builtin .copy, args := #[s, x], argTypes := #[24, 24] }) (hs : a.eval s = .slice (some ⟨g, off, none⟩) dn dc) (hx : a.eval x = u)
    (h : ∀ w', Blk w' g (A ++ (m.take n).map ub ++ Z) t → Fr g (g + 1) w w' → wpList Tryd.prog ops Q rest (a.put o.dst (.int .i64 n)) w') : wpList Tryd.prog ops Q (o :: rest) a w := by
  obtain ⟨w', hr, h1, h2⟩ := exec_copy n hb hA hB hn hrd hop hs hx
  exact wpl_val hg hr (h w' h1 h2)

/-- The same as one step of a region that draws its order. -/
theorem st_copy {K : Act → World → Prop} {E : Prop} {s x : Operand} {g off dn dc b c : Nat} {A B Z : List Value} {t : TypeId} {u : Value} {m : List UInt8} (n : Nat) (hb : Blk w g (A ++ B ++ Z) t) (hA : A.length = off) (hB : B.length = n) (hn : n ≤ m.length ∧ n = dn ∨ n = m.length ∧ n ≤ dn) (hrd : RdB w b c u m)
    (hg : o.guard = none) (hop : o.op = .call { callee := .builtin .copy, args := #[s, x], argTypes := #[24, 24] }) (hs : a.eval s = .slice (some ⟨g, off, none⟩) dn dc) (hx : a.eval x = u)
    (h : ∀ w', Blk w' g (A ++ (m.take n).map ub ++ Z) t → Fr g (g + 1) w w' → K (a.put o.dst (.int .i64 n)) w') :
    if Region.wanted o (yielded ops a.tmps) = true then Oper.wp Tryd.prog o a w K Q else E := by
  have hw : Region.wanted o (yielded ops a.tmps) = true := by simp [Region.wanted, hg]
  rw [if_pos hw]
  obtain ⟨w', hr, h1, h2⟩ := exec_copy n hb hA hB hn hrd hop hs hx
  unfold Oper.wp
  rw [hr]
  exact h w' h1 h2

/-! ### Texts -/

theorem run_string {b c : Nat} {u : Value} {m : List UInt8} (hrd : RdB w b c u m) : (convert 24 9 u).run Tryd.prog w = .ok (.string ⟨m.toArray⟩) w := by
  rcases hrd.news with ⟨rfl, ao, cp, rfl, _⟩ | ⟨rb, roff, rcap, rfl, hpos, _, _, hnews⟩
  · cases ao with
    | none => exact run_convert_bytes_nil w _ _ und22 und5 0 cp _ und9
    | some ad => exact run_convert_bytes_back w _ _ _ ad cp [] und22 und5 und9 (fun j hj => by cases hj)
  · refine run_convert_bytes_back w _ _ _ _ rcap m und22 und5 und9 (fun j hj => hnews j _ ?_)
    rw [List.getElem?_map, List.getElem?_eq_getElem hj]
    rfl

end
end Go.Proofs.YtgndidjfjdaagaaDoor
