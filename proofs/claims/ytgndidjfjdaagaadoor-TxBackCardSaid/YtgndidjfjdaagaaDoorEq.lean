/-
  '==' on structs and arrays of integers and bools: true just where the cells are the same.
-/
import Derived.Test.YtgndidjfjdaagaaDoorLaws
import Derived.ChangeKeysEq
set_option linter.unusedSimpArgs false
set_option linter.unusedVariables false
namespace Go.Proofs.YtgndidjfjdaagaaDoor
open Go.RowKit

/-- The cells xs are of the kinds ks (none: a bool). -/
def LF : List (Option IntKind) → List Value → Prop
  | [], [] => True
  | some k :: ks, x :: xs => (∃ n, x = .int k n) ∧ LF ks xs
  | none :: ks, x :: xs => (∃ b, x = .bool b) ∧ LF ks xs
  | _, _ => False

theorem LF.length : ∀ {ks : List (Option IntKind)} {xs : List Value}, LF ks xs → xs.length = ks.length
  | [], [], _ => rfl
  | some _ :: ks, x :: xs, h => by simp [LF.length (ks := ks) (xs := xs) h.2]
  | none :: ks, x :: xs, h => by simp [LF.length (ks := ks) (xs := xs) h.2]
  | [], _ :: _, h => h.elim
  | some _ :: _, [], h => h.elim
  | none :: _, [], h => h.elim

theorem LF.append : ∀ {ks ms : List (Option IntKind)} {xs ys : List Value}, LF ks xs → LF ms ys → LF (ks ++ ms) (xs ++ ys)
  | [], _, [], _, _, h => h
  | some _ :: ks, _, x :: xs, _, h, k => ⟨h.1, LF.append (ks := ks) h.2 k⟩
  | none :: ks, _, x :: xs, _, h, k => ⟨h.1, LF.append (ks := ks) h.2 k⟩
  | [], _, _ :: _, _, h, _ => h.elim
  | some _ :: _, _, [], _, h, _ => h.elim
  | none :: _, _, [], _, h, _ => h.elim

theorem LF.split : ∀ {ks ms : List (Option IntKind)} {xs : List Value}, LF (ks ++ ms) xs → LF ks (xs.take ks.length) ∧ LF ms (xs.drop ks.length)
  | [], ms, xs, h => ⟨by simp [LF], by simpa using h⟩
  | some _ :: ks, ms, x :: xs, h => by
    obtain ⟨h1, h2⟩ := h
    have := LF.split (ks := ks) (ms := ms) h2
    exact ⟨⟨h1, this.1⟩, this.2⟩
  | none :: ks, ms, x :: xs, h => by
    obtain ⟨h1, h2⟩ := h
    have := LF.split (ks := ks) (ms := ms) h2
    exact ⟨⟨h1, this.1⟩, this.2⟩
  | some _ :: _, _, [], h => h.elim
  | none :: _, _, [], h => h.elim

theorem LF.bytes (l : List UInt8) : LF (List.replicate l.length (some .u8)) (l.map ub) := by
  induction l with
  | nil => exact trivial
  | cons x l ih => exact ⟨⟨_, rfl⟩, ih⟩

def leavesFs (lv : TypeId → Option (List (Option IntKind))) (sz : TypeId → Option Nat) : Nat → List Field → Option (List (Option IntKind))
  | _, [] => some []
  | off, f :: fs => if f.name ≠ "_" ∧ f.offset = off then (match lv f.type with
      | some l => if sz f.type = some l.length then (leavesFs lv sz (off + l.length) fs).map (l ++ ·) else none
      | none => none) else none

/-- The kinds of a type's cells; none: it holds something else than integers and bools. -/
def leaves (P : Program) : Nat → TypeId → Option (List (Option IntKind))
  | 0, _ => none
  | d + 1, t => match P.underlying t with
    | some (.int k) => some [some k]
    | some .bool => some [none]
    | some (.array n e) => (match leaves P d e with
      | some l => if (P.info? e).map (·.size) = some l.length then some (List.replicate n l).flatten else none
      | none => none)
    | some (.struct fs) => if P.stoodInHeld t then none else leavesFs (leaves P d) (fun t => (P.info? t).map (·.size)) 0 fs.toList
    | _ => none

/-- A value of type t, of its cells. -/
def valOf (P : Program) (t : TypeId) (xs : List Value) : Value :=
  if (P.underlying t).map (·.isRow) = some true then .agg xs.toArray else xs.headD undef

section
variable {P : Program} (w : World)

theorem run_part {t : TypeId} {n off : Nat} (xs : List Value) (hu : (P.underlying t).isSome = true) (hs : (P.info? t).map (·.size) = some n) (h1 : (P.underlying t).map (·.isRow) ≠ some true → n = 1) (hl : off + n ≤ xs.length) :
    (part t xs.toArray off).run P w = .ok (valOf P t ((xs.drop off).take n)) w := by
  obtain ⟨d, hd⟩ := Option.isSome_iff_exists.1 hu
  obtain ⟨i, hi, hsz⟩ := Option.map_eq_some_iff.1 hs
  unfold valOf
  rw [hd]
  simp only [Option.map_some, Option.some.injEq]
  by_cases hr : d.isRow = true
  · rw [if_pos hr]
    have ha : (isAgg t).run P w = .ok true w := by
      unfold isAgg
      rw [Sem.run_bind, run_underlying hd w]
      cases d <;> simp_all
    simp [part, Sem.run_bind, ha, sizeOf, typeInfo, hi, hsz, List.extract_eq_take_drop]
  · rw [if_neg hr]
    have hn : n = 1 := h1 (by rw [hd]; simpa using hr)
    subst hn
    have ha : (isAgg t).run P w = .ok false w := by
      unfold isAgg
      rw [Sem.run_bind, run_underlying hd w]
      cases d <;> simp_all
    have hlt : off < xs.length := by omega
    have e1 : xs.drop off = xs[off] :: xs.drop (off + 1) := by rw [← List.drop_eq_getElem_cons hlt]
    have e2 : ((xs.drop off).take 1).headD undef = xs[off] := by rw [e1]; rfl
    rw [e2]
    simp [part, Sem.run_bind, ha, hlt]

theorem leaves_some {d : Nat} {t : TypeId} {ks : List (Option IntKind)} (h : leaves P d t = some ks) : (P.underlying t).isSome = true ∧ ((P.underlying t).map (·.isRow) ≠ some true → ks.length = 1) := by
  cases d with
  | zero => cases h
  | succ d =>
    unfold leaves at h
    cases hu : P.underlying t with
    | none => simp [hu] at h
    | some k =>
      refine ⟨rfl, fun hr => ?_⟩
      cases k <;> simp_all
      · rw [← h]; rfl
      · rw [← h]; rfl

theorem eqFields_leaves {D : Nat} {lv : TypeId → Option (List (Option IntKind))}
    (IH : ∀ t ks, lv t = some ks → ((P.underlying t).isSome = true ∧ ((P.underlying t).map (·.isRow) ≠ some true → ks.length = 1)) ∧ ∀ xs ys, LF ks xs → LF ks ys → ∃ r, (Op.equalIn D t (valOf P t xs) (valOf P t ys)).run P w = .ok r w ∧ (r = true ↔ xs = ys))
    (xs ys : List Value) : ∀ (fs : List Field) (off : Nat) (ks : List (Option IntKind)), leavesFs lv (fun t => (P.info? t).map (·.size)) off fs = some ks → LF ks (xs.drop off) → LF ks (ys.drop off) →
    ∃ r, (Op.eqFields D xs.toArray ys.toArray fs).run P w = .ok r w ∧ (r = true ↔ xs.drop off = ys.drop off)
  | [], off, ks, h, hx, hy => by
    cases h
    refine ⟨true, by simp [Op.eqFields], ?_⟩
    have h1 := List.length_eq_zero_iff.1 hx.length
    have h2 := List.length_eq_zero_iff.1 hy.length
    simp [h1, h2]
  | f :: fs, off, ks, h, hx, hy => by
    unfold leavesFs at h
    split at h
    · rename_i hn
      obtain ⟨hn1, hn2⟩ := hn
      subst hn2
      split at h
      · rename_i l hl
        split at h
        · rename_i hsz
          obtain ⟨ms, hms, rfl⟩ := Option.map_eq_some_iff.1 h
          obtain ⟨⟨hu, h1⟩, hih⟩ := IH _ _ hl
          obtain ⟨hx1, hx2⟩ := hx.split
          obtain ⟨hy1, hy2⟩ := hy.split
          have lx := hx.length
          have ly := hy.length
          simp only [List.length_drop, List.length_append] at lx ly
          have hbx : l.length ≤ xs.length - f.offset := by omega
          have hby : l.length ≤ ys.length - f.offset := by omega
          obtain ⟨r, hr, hiff⟩ := hih _ _ hx1 hy1
          have px : (part f.type xs.toArray f.offset).run P w = .ok (valOf P f.type ((xs.drop f.offset).take l.length)) w := by
            rcases Nat.eq_zero_or_pos l.length with h0 | h0
            · by_cases hle : f.offset ≤ xs.length
              · exact run_part w xs hu hsz h1 (by omega)
              · have hrow : (P.underlying f.type).map (·.isRow) = some true := by
                  by_cases hh : (P.underlying f.type).map (·.isRow) = some true
                  · exact hh
                  · have := h1 hh; omega
                obtain ⟨dd, hdd, hrr⟩ := Option.map_eq_some_iff.1 hrow
                obtain ⟨i, hi, hsz'⟩ := Option.map_eq_some_iff.1 hsz
                have ha : (isAgg f.type).run P w = .ok true w := by
                  unfold isAgg
                  rw [Sem.run_bind, run_underlying hdd w]
                  cases dd <;> simp_all
                unfold valOf
                rw [if_pos hrow]
                simp [part, Sem.run_bind, ha, sizeOf, typeInfo, hi, hsz', List.extract_eq_take_drop]
            · exact run_part w xs hu hsz h1 (by omega)
          have py : (part f.type ys.toArray f.offset).run P w = .ok (valOf P f.type ((ys.drop f.offset).take l.length)) w := by
            rcases Nat.eq_zero_or_pos l.length with h0 | h0
            · by_cases hle : f.offset ≤ ys.length
              · exact run_part w ys hu hsz h1 (by omega)
              · have hrow : (P.underlying f.type).map (·.isRow) = some true := by
                  by_cases hh : (P.underlying f.type).map (·.isRow) = some true
                  · exact hh
                  · have := h1 hh; omega
                obtain ⟨dd, hdd, hrr⟩ := Option.map_eq_some_iff.1 hrow
                obtain ⟨i, hi, hsz'⟩ := Option.map_eq_some_iff.1 hsz
                have ha : (isAgg f.type).run P w = .ok true w := by
                  unfold isAgg
                  rw [Sem.run_bind, run_underlying hdd w]
                  cases dd <;> simp_all
                unfold valOf
                rw [if_pos hrow]
                simp [part, Sem.run_bind, ha, sizeOf, typeInfo, hi, hsz', List.extract_eq_take_drop]
            · exact run_part w ys hu hsz h1 (by omega)
          obtain ⟨r', hr', hiff'⟩ := eqFields_leaves IH xs ys fs (f.offset + l.length) ms hms (by simpa [List.drop_drop] using hx2) (by simpa [List.drop_drop] using hy2)
          have key : xs.drop f.offset = ys.drop f.offset ↔ (xs.drop f.offset).take l.length = (ys.drop f.offset).take l.length ∧ xs.drop (f.offset + l.length) = ys.drop (f.offset + l.length) := by
            constructor
            · intro e
              rw [← List.drop_drop, ← List.drop_drop, e]
              exact ⟨rfl, rfl⟩
            · rintro ⟨e1, e2⟩
              rw [← List.take_append_drop l.length (xs.drop f.offset), ← List.take_append_drop l.length (ys.drop f.offset), e1, List.drop_drop, List.drop_drop, e2]
          simp only [Op.eqFields, if_pos hn1, Sem.run_bind, px, py, hr, Result.andThen_ok]
          cases r
          · refine ⟨false, by simp, ?_⟩
            rw [key]
            simp only [Bool.false_eq_true, false_iff] at hiff ⊢
            exact fun e => hiff e.1
          · refine ⟨r', by simpa using hr', ?_⟩
            rw [key, hiff']
            exact ⟨fun e => ⟨hiff.1 rfl, e⟩, fun e => e.2⟩
        · cases h
      · cases h
    · cases h

theorem eqItems_leaves {D : Nat} {e : TypeId} {l : List (Option IntKind)} (hl0 : (P.underlying e).isSome = true ∧ ((P.underlying e).map (·.isRow) ≠ some true → l.length = 1)) (hsz : (P.info? e).map (·.size) = some l.length)
    (IH : ∀ xs ys, LF l xs → LF l ys → ∃ r, (Op.equalIn D e (valOf P e xs) (valOf P e ys)).run P w = .ok r w ∧ (r = true ↔ xs = ys)) (hpos : 0 < l.length)
    (xs ys : List Value) : ∀ (n i : Nat), LF (List.replicate n l).flatten (xs.drop (i * l.length)) → LF (List.replicate n l).flatten (ys.drop (i * l.length)) →
    ∃ r, (Op.eqItems D e l.length xs.toArray ys.toArray (List.range' i n)).run P w = .ok r w ∧ (r = true ↔ xs.drop (i * l.length) = ys.drop (i * l.length))
  | 0, i, hx, hy => by
    refine ⟨true, by simp [Op.eqItems], ?_⟩
    have h1 := List.length_eq_zero_iff.1 hx.length
    have h2 := List.length_eq_zero_iff.1 hy.length
    simp [h1, h2]
  | n + 1, i, hx, hy => by
    rw [List.replicate_succ, List.flatten_cons] at hx hy
    obtain ⟨hx1, hx2⟩ := hx.split
    obtain ⟨hy1, hy2⟩ := hy.split
    have lx := hx.length
    have ly := hy.length
    simp only [List.length_drop, List.length_append] at lx ly
    obtain ⟨r, hr, hiff⟩ := IH _ _ hx1 hy1
    have px := run_part w (off := i * l.length) xs hl0.1 hsz hl0.2 (by omega)
    have py := run_part w (off := i * l.length) ys hl0.1 hsz hl0.2 (by omega)
    have em : (i + 1) * l.length = i * l.length + l.length := by rw [Nat.add_mul, Nat.one_mul]
    obtain ⟨r', hr', hiff'⟩ := eqItems_leaves hl0 hsz IH hpos xs ys n (i + 1) (by rw [em, ← List.drop_drop]; exact hx2) (by rw [em, ← List.drop_drop]; exact hy2)
    have key : xs.drop (i * l.length) = ys.drop (i * l.length) ↔ (xs.drop (i * l.length)).take l.length = (ys.drop (i * l.length)).take l.length ∧ xs.drop ((i + 1) * l.length) = ys.drop ((i + 1) * l.length) := by
      rw [em]
      constructor
      · intro e
        rw [← List.drop_drop, ← List.drop_drop, e]
        exact ⟨rfl, rfl⟩
      · rintro ⟨e1, e2⟩
        rw [← List.take_append_drop l.length (xs.drop (i * l.length)), ← List.take_append_drop l.length (ys.drop (i * l.length)), e1, List.drop_drop, List.drop_drop, e2]
    simp only [List.range'_succ, Op.eqItems, Sem.run_bind, px, py, hr, Result.andThen_ok]
    cases r
    · refine ⟨false, by simp, ?_⟩
      rw [key]
      simp only [Bool.false_eq_true, false_iff] at hiff ⊢
      exact fun e => hiff e.1
    · refine ⟨r', by simpa using hr', ?_⟩
      rw [key, hiff']
      exact ⟨fun e => ⟨hiff.1 rfl, e⟩, fun e => e.2⟩

theorem eq_leaves : ∀ (d : Nat) (t : TypeId) (ks : List (Option IntKind)), leaves P d t = some ks → ∀ D, d ≤ D → ∀ xs ys, LF ks xs → LF ks ys →
    ∃ r, (Op.equalIn D t (valOf P t xs) (valOf P t ys)).run P w = .ok r w ∧ (r = true ↔ xs = ys)
  | 0, _, _, h => by cases h
  | d + 1, t, ks, h => by
    intro D hD xs ys hx hy
    obtain ⟨D, rfl⟩ : ∃ D', D = D' + 1 := ⟨D - 1, by omega⟩
    unfold leaves at h
    cases hu : P.underlying t with
    | none => simp [hu] at h
    | some k =>
      cases k <;> simp only [hu] at h <;> try (cases h; done)
      case bool =>
        cases h
        match xs, ys, hx, hy with
        | [x], [y], hx, hy =>
          obtain ⟨⟨a, rfl⟩, _⟩ := hx
          obtain ⟨⟨b, rfl⟩, _⟩ := hy
          exact ⟨a == b, by simp [valOf, hu, Op.equalIn, run_underlying hu], by simp⟩
      case int k =>
        cases h
        match xs, ys, hx, hy with
        | [x], [y], hx, hy =>
          obtain ⟨⟨a, rfl⟩, _⟩ := hx
          obtain ⟨⟨b, rfl⟩, _⟩ := hy
          exact ⟨a == b, by simp [valOf, hu, Op.equalIn, run_underlying hu], by simp⟩
      case array n e =>
        split at h
        · rename_i l hl
          split at h
          · rename_i hsz
            cases h
            have hv : ∀ zs, valOf P t zs = .agg zs.toArray := fun zs => by unfold valOf; rw [if_pos (by rw [hu]; rfl)]
            obtain ⟨i, hi, hsz'⟩ := Option.map_eq_some_iff.1 hsz
            have hco : P.cellsOf e = l.length := by simp [Program.cellsOf, hi, hsz']
            rw [hv, hv, run_equalIn_array w D xs.toArray ys.toArray hu hi, hco, List.range_eq_range']
            rcases Nat.eq_zero_or_pos l.length with h0 | h0
            · obtain rfl := List.length_eq_zero_iff.1 h0
              have hr := (leaves_some hl).2
              have ze : (List.replicate n ([] : List (Option IntKind))).flatten = [] := by simp
              rw [ze] at hx hy
              have h1 := List.length_eq_zero_iff.1 hx.length
              have h2 := List.length_eq_zero_iff.1 hy.length
              subst h1; subst h2
              have hall : ∀ m j, (Op.eqItems D e 0 #[] #[] (List.range' j m)).run P w = .ok true w := by
                intro m
                induction m with
                | zero => intro j; simp [Op.eqItems]
                | succ m ihm =>
                  intro j
                  have hp := run_part w (off := 0) ([] : List Value) (leaves_some hl).1 hsz (leaves_some hl).2 (by simp)
                  obtain ⟨r, hr1, hr2⟩ := eq_leaves d e [] hl D (by omega) [] [] trivial trivial
                  have : r = true := hr2.2 rfl
                  subst this
                  simp only [List.drop_nil, List.take_nil] at hp
                  simp only [List.range'_succ, Op.eqItems, Sem.run_bind, Nat.mul_zero]
                  rw [show (#[] : Array Value) = ([] : List Value).toArray from rfl, hp]
                  simp only [Result.andThen_ok, hp, hr1, Bool.not_true, Bool.false_eq_true, if_false]
                  exact ihm _
              exact ⟨true, hall n 0, by simp⟩
            · have := eqItems_leaves w (leaves_some hl) hsz (fun xs ys => eq_leaves d e l hl D (by omega) xs ys) h0 xs ys n 0 (by simpa using hx) (by simpa using hy)
              simpa using this
          · cases h
        · cases h
      case struct fs =>
        split at h
        · cases h
        · rename_i hst
          have hv : ∀ zs, valOf P t zs = .agg zs.toArray := fun zs => by unfold valOf; rw [if_pos (by rw [hu]; rfl)]
          have hfs : P.fieldsOf t = fs := by simp [Program.fieldsOf, hu]
          rw [hv, hv, run_equalIn_struct w D t xs.toArray ys.toArray (by rw [hfs]; exact hu) (by simpa using hst), hfs]
          have := eqFields_leaves (D := D) w (fun t ks ht => ⟨leaves_some ht, eq_leaves d t ks ht D (by omega)⟩) xs ys fs.toList 0 ks h (by simpa using hx) (by simpa using hy)
          simpa using this

end

/-- 'x == y' of two structs, or arrays, of integers and bools. -/
theorem LF.one : ∀ {ks : List (Option IntKind)} {xs : List Value}, LF ks xs → ∀ v ∈ xs, v.oneCell' = true
  | [], [], _, v, hv => by cases hv
  | some _ :: ks, x :: xs, h, v, hv => by
    obtain ⟨⟨n, rfl⟩, h2⟩ := h
    rcases List.mem_cons.1 hv with rfl | hv
    · rfl
    · exact LF.one (ks := ks) h2 v hv
  | none :: ks, x :: xs, h, v, hv => by
    obtain ⟨⟨n, rfl⟩, h2⟩ := h
    rcases List.mem_cons.1 hv with rfl | hv
    · rfl
    · exact LF.one (ks := ks) h2 v hv
  | [], _ :: _, h, _, _ => h.elim
  | some _ :: _, [], h, _, _ => h.elim
  | none :: _, [], h, _, _ => h.elim

theorem wpl_eql {P : Program} {ops : Array Oper} {rest : List Oper} {o : Oper} {a : Act} {w : World} {Q : Exit → Act → World → Prop} {t u : TypeId} {x y : Operand} {d : Nat} {ks : List (Option IntKind)} {xs ys : List Value}
    (hk : leaves P d t = some ks) (hd : d ≤ 10000) (hr : (P.underlying t).map (·.isRow) = some true) (hq : P.eqGuardType P.depth t = false) (hx : LF ks xs) (hy : LF ks ys)
    (hop : o.op = .binOp .eql t x y u) (hvx : a.eval x = .agg xs.toArray) (hvy : a.eval y = .agg ys.toArray) (hw : Region.wanted o (yielded ops a.tmps) = true)
    (h : ∀ r, (r = true ↔ xs = ys) → wpList P ops Q rest (a.put o.dst (.bool r)) w) : wpList P ops Q (o :: rest) a w := by
  obtain ⟨r, h1, h2⟩ := eq_leaves w d t ks hk 10000 hd xs ys hx hy
  have hv : ∀ zs, valOf P t zs = .agg zs.toArray := fun zs => by unfold valOf; rw [if_pos hr]
  rw [hv, hv] at h1
  refine wpList_step fun K hK => ?_
  rw [if_pos hw]
  unfold Oper.wp
  have e : (execOp a.eval o).run P w = .ok (.value (.bool r)) w := by
    simp [execOp, hop, hvx, hvy, run_eqGuard_agg w .eql t x y xs.toArray ys.toArray hq, run_eql_struct, h1]
  rw [e]
  exact hK _ _ (h r h2)

theorem wpl_neq {P : Program} {ops : Array Oper} {rest : List Oper} {o : Oper} {a : Act} {w : World} {Q : Exit → Act → World → Prop} {t u : TypeId} {x y : Operand} {d : Nat} {ks : List (Option IntKind)} {xs ys : List Value}
    (hk : leaves P d t = some ks) (hd : d ≤ 10000) (hr : (P.underlying t).map (·.isRow) = some true) (hq : P.eqGuardType P.depth t = false) (hx : LF ks xs) (hy : LF ks ys)
    (hop : o.op = .binOp .neq t x y u) (hvx : a.eval x = .agg xs.toArray) (hvy : a.eval y = .agg ys.toArray) (hw : Region.wanted o (yielded ops a.tmps) = true)
    (h : ∀ r, (r = true ↔ xs = ys) → wpList P ops Q rest (a.put o.dst (.bool (!r))) w) : wpList P ops Q (o :: rest) a w := by
  obtain ⟨r, h1, h2⟩ := eq_leaves w d t ks hk 10000 hd xs ys hx hy
  have hv : ∀ zs, valOf P t zs = .agg zs.toArray := fun zs => by unfold valOf; rw [if_pos hr]
  rw [hv, hv] at h1
  refine wpList_step fun K hK => ?_
  rw [if_pos hw]
  unfold Oper.wp
  have e : (execOp a.eval o).run P w = .ok (.value (.bool (!r))) w := by
    simp [execOp, hop, hvx, hvy, run_eqGuard_agg w .neq t x y xs.toArray ys.toArray hq, run_neq_struct, h1]
  rw [e]
  exact hK _ _ (h r h2)

section
variable {P : Program} {ops : Array Oper} {rest : List Oper} {o : Oper} {a : Act} {w : World} {Q : Exit → Act → World → Prop}

/-- An operation under a guard that lets it by. -/
theorem wpl_valG {v : Value} {w' : World} (hw : Region.wanted o (yielded ops a.tmps) = true) (hr : (execOp a.eval o).run P w = .ok (.value v) w')
    (h : wpList P ops Q rest (a.put o.dst v) w') : wpList P ops Q (o :: rest) a w := by
  refine wpList_step fun K hK => ?_
  rw [if_pos hw]
  unfold Oper.wp
  rw [hr]
  exact hK _ _ h

theorem wpl_load_blkG {t t' : TypeId} {x : Operand} {g : Nat} {L : List Value} (hb : Blk w g L t') (hu : (P.underlying t).map (·.isRow) = some true) (hi : (P.info? t).map (·.size) = some L.length)
    (hop : o.op = .load t x) (hx : a.eval x = .pointer (some ⟨g, 0, none⟩)) (hw : Region.wanted o (yielded ops a.tmps) = true)
    (h : wpList P ops Q rest (a.put o.dst (.agg L.toArray)) w) : wpList P ops Q (o :: rest) a w := by
  refine wpl_valG hw (v := .agg L.toArray) (w' := w) ?_ h
  have := run_loadVar_blk hb hu hi
  simp [execOp, hop, hx, Instr.sureAddr, Instr.loadAt, this]

theorem wpl_load_partG {t t' : TypeId} {x : Operand} {g off : Nat} {A L Z : List Value} (hb : Blk w g (A ++ L ++ Z) t') (hA : A.length = off) (hu : (P.underlying t).map (·.isRow) = some true) (hi : (P.info? t).map (·.size) = some L.length)
    (hop : o.op = .load t x) (hx : a.eval x = .pointer (some ⟨g, off, none⟩)) (hw : Region.wanted o (yielded ops a.tmps) = true)
    (h : wpList P ops Q rest (a.put o.dst (.agg L.toArray)) w) : wpList P ops Q (o :: rest) a w := by
  subst hA
  obtain ⟨d, hu', hd⟩ := Option.map_eq_some_iff.1 hu
  refine wpl_valG hw (v := .agg L.toArray) (w' := w) ?_ h
  have := run_loadVar_mid (P := P) w g A.length t L d (fun j v hj => by
    have hl := (List.getElem?_eq_some_iff.1 hj).1
    rw [hb.cell, List.append_assoc, List.getElem?_append_right (by omega), Nat.add_sub_cancel_left, List.getElem?_append_left hl]
    exact hj) hu' hd hi
  simp [execOp, hop, hx, Instr.sureAddr, Instr.loadAt, this]

theorem wpl_buildG {t : TypeId} {parts : List (Nat × Operand)} {PL : List (Nat × Value)} {L : List Value} (hb : P.built t PL = some L.toArray) (hop : o.op = .build t parts.toArray)
    (hp : parts.map (fun p => (p.1, a.eval p.2)) = PL) (hw : Region.wanted o (yielded ops a.tmps) = true) (h : wpList P ops Q rest (a.put o.dst (.agg L.toArray)) w) : wpList P ops Q (o :: rest) a w := by
  subst hp
  refine wpl_valG hw (v := .agg L.toArray) (w' := w) ?_ h
  have := run_build (P := P) w t (parts.map (fun p => (p.1, a.eval p.2))).toArray L.toArray (by simpa using hb)
  simp [execOp, hop, this]
end

end Go.Proofs.YtgndidjfjdaagaaDoor
