/-
  tx.Body, sign, Sign, Check, Bytes, From, Id.
-/
import Derived.Test.YtgndidjfjdaagaaDoorTagOf
set_option linter.unusedSimpArgs false
set_option linter.unusedVariables false
namespace Go.Proofs.YtgndidjfjdaagaaDoor
open Go.RowKit

/-- A transaction. -/
structure TxD where
  p : List UInt8
  t : List UInt8
  n : Nat
  a : Nat
  f : Nat
  s : List UInt8

def TxOk (x : TxD) : Prop := x.p.length = 32 ∧ x.t.length = 32 ∧ x.s.length = 32 ∧ x.n < 18446744073709551616 ∧ x.a < 18446744073709551616 ∧ x.f < 18446744073709551616

def txN (x : TxD) : List Value := [.int .u64 (x.n : Int), .int .u64 (x.a : Int), .int .u64 (x.f : Int)]
/-- Its cells. -/
def txL (x : TxD) : List Value := x.p.map ub ++ (x.t.map ub ++ (txN x ++ x.s.map ub))
theorem txL_length {x : TxD} (h : TxOk x) : (txL x).length = 99 := by
  obtain ⟨h1, h2, h3, _⟩ := h
  simp [txL, txN, h1, h2, h3]

/-- What is signed; its bytes. -/
def bodyB (x : TxD) : List UInt8 := x.p ++ x.t ++ (beB 8 x.n ++ beB 8 x.a ++ beB 8 x.f)
def txB (x : TxD) : List UInt8 := bodyB x ++ x.s
def signH (x : TxD) : List UInt8 := shaB (tagB 4 [bodyB x])
theorem bodyB_length {x : TxD} (h : TxOk x) : (bodyB x).length = 88 := by
  obtain ⟨h1, h2, h3, _⟩ := h
  simp [bodyB, h1, h2, beB_length]
theorem txB_length {x : TxD} (h : TxOk x) : (txB x).length = 120 := by
  rw [txB, List.length_append, bodyB_length h, h.2.2.1]
theorem signH_length (x : TxD) : (signH x).length = 32 := shaB_length _

/-! ### What is put -/

set_option maxHeartbeats 400000 in
theorem c_BodyD {w : World} (d : List UInt8) (hd : d.length = 32) : Calls Tryd.prog 86 #[.agg (bs d)] w fun e w' => ∃ g, e = .returned (.slice (some ⟨g, 0, none⟩) 32 32) ∧ RdB w' w.heap.size w'.heap.size (.slice (some ⟨g, 0, none⟩) 32 32) d ∧ Fr 0 0 w w' := by
  go_enter Tryd.func86, Tryd.ntmps86
  go_wp2_with (refine wpl_box (d.map ub) rfl rfl rfl rfl ?_; intro g w1 hB hF hg hgs)
  go_ret
  exact ⟨g, rfl, (Blk.rd (A := []) (Z := []) (by simpa using hB) rfl hd (Nat.le_refl _) (by omega)).mono hg (by omega), hF⟩

set_option maxHeartbeats 400000 in
theorem c_BodyN {w : World} (n : Nat) (hn : n < 18446744073709551616) : Calls Tryd.prog 88 #[.int .u64 (n : Int)] w fun e w' => ∃ v', e = .returned v' ∧ OwB w' w.heap.size w'.heap.size v' (beB 8 n) ∧ Fr 0 0 w w' := by
  go_enter Tryd.func88, Tryd.ntmps88
  go_wp2_with (go_at_call 77; refine (c_Put n 8 hn (by omega) (by omega) (by omega)).mono ?_; rintro e w1 ⟨v1, rfl, hO, hF⟩)
  go_ret
  exact ⟨v1, rfl, hO, hF⟩

set_option maxRecDepth 100000 in
set_option maxHeartbeats 1000000 in
theorem c_putD {w : World} {g : Nat} (p t : List UInt8) (hp : p.length = 32) (ht : t.length = 32) (hB : Blk w g (p.map ub ++ t.map ub) 30) :
    Calls Tryd.prog 85 #[.slice none 0 0, .slice (some ⟨g, 0, none⟩) 2 2, .func (.func 86) #[] #[]] w fun e w' => ∃ v', e = .returned v' ∧ OwB w' w.heap.size w'.heap.size v' (p ++ t) ∧ Fr 0 0 w w' := by
  have hpm : (p.map ub).length = 32 := by rw [List.length_map, hp]
  have htm : (t.map ub).length = 32 := by rw [List.length_map, ht]
  have hgl := hB.lt
  have HP := Lib.hid hp
  have HT := Lib.hid ht
  clear hp ht
  go_enter Tryd.func85, Tryd.ntmps85
  go_wp2_with fail
  go_loopw [0, 11] (fun b i ws => Fr 0 0 w ws ∧ ((i = .int .i64 0 ∧ b = .slice none 0 0) ∨ (i = .int .i64 1 ∧ ∃ a c lo hi, b = .slice a 32 c ∧ OwB ws lo hi b p ∧ w.heap.size ≤ lo ∧ hi ≤ ws.heap.size) ∨ (i = .int .i64 2 ∧ ∃ a c lo hi, b = .slice a 64 c ∧ OwB ws lo hi b (p ++ t) ∧ w.heap.size ≤ lo ∧ hi ≤ ws.heap.size))) (fun _ i _ => 2 - (intOf i).toNat)
  case atStart => exact ⟨Fr.refl _ _ _, .inl ⟨rfl, rfl⟩⟩
  case round =>
    obtain ⟨hF, hrel⟩ := hrel
    have hBw := hB.kept hF (.inr (Nat.zero_le _))
    have zw := hF.size
    rcases hrel with ⟨rfl, rfl⟩ | ⟨rfl, a, c, lo, hi, rfl, hO, hlo, hhi⟩ | ⟨rfl, a, c, lo, hi, rfl, hO, hlo, hhi⟩
    · go_wp2_with (first
        | (refine wpl_load_part (A := []) (L := p.map ub) (Z := t.map ub) (by simpa using hBw) rfl row30 (by rw [siz30, hpm]) rfl rfl rfl ?_)
        | (refine wpl_alloc zer30 rfl rfl rfl ?_; intro g8 w2 hB8' hF2 hg8 hs8; have z2 := hF2.size)
        | (refine wpl_store_blk (L' := p.map ub) hB8' (by rw [hpm]; rfl) (by rw [siz30, hpm]) (ub_oneCell _) rfl rfl rfl rfl ?_; intro w3 hB8 hF3; clear hB8'; have z3 := hF3.size)
        | (refine wpl_load_blk hB8 row30 (by rw [siz30, hpm]) rfl rfl rfl ?_)
        | (go_at_call 86; refine (c_BodyD p HP.out).mono ?_; rintro e w4 ⟨g4, rfl, hR4, hF4⟩; have z4 := hF4.size)
        | (at_builtin; refine wpl_append (OwB.nil _ w4.heap.size w4.heap.size) hR4 (by rw [HP.out]; simp) rfl rfl rfl rfl ?_; intro v5 w5 lo5 hi5 hO5 hF5 hz5; rw [List.nil_append] at hO5; obtain ⟨a5, c5, rfl⟩ : ∃ a c, v5 = .slice a 32 c := (let ⟨x, y, e, _⟩ := hO5.rd.form; ⟨x, y, by rw [e, HP.out]⟩)))
      have z5 := hF5.size
      exact ⟨⟨(((hF.trans hF2).on hF3 (by omega)).trans hF4).on hF5 (by omega), .inr (.inl ⟨rfl, a5, c5, lo5, hi5, rfl, hO5, by omega, by omega⟩)⟩, by simp [intOf]⟩
    · go_wp2_with (first
        | (refine wpl_load_part (A := p.map ub) (L := t.map ub) (Z := []) (by simpa using hBw) hpm row30 (by rw [siz30, htm]) rfl rfl rfl ?_)
        | (refine wpl_alloc zer30 rfl rfl rfl ?_; intro g8 w2 hB8' hF2 hg8 hs8; have z2 := hF2.size)
        | (refine wpl_store_blk (L' := t.map ub) hB8' (by rw [htm]; rfl) (by rw [siz30, htm]) (ub_oneCell _) rfl rfl rfl rfl ?_; intro w3 hB8 hF3; clear hB8'; have z3 := hF3.size)
        | (refine wpl_load_blk hB8 row30 (by rw [siz30, htm]) rfl rfl rfl ?_)
        | (go_at_call 86; refine (c_BodyD t HT.out).mono ?_; rintro e w4 ⟨g4, rfl, hR4, hF4⟩; have z4 := hF4.size; have hO4 := ((hO.kept hF2 (.inr (Nat.zero_le _))).kept hF3 (.inl (by omega))).kept hF4 (.inr (Nat.zero_le _)))
        | (at_builtin; refine wpl_append hO4 hR4 (by rw [HP.out, HT.out]; omega) rfl rfl rfl rfl ?_; intro v5 w5 lo5 hi5 hO5 hF5 hz5; obtain ⟨a5, c5, rfl⟩ : ∃ a c, v5 = .slice a 64 c := (let ⟨x, y, e, _⟩ := hO5.rd.form; ⟨x, y, by rw [e, List.length_append, HP.out, HT.out]⟩)))
      have z5 := hF5.size
      exact ⟨⟨(((hF.trans hF2).on hF3 (by omega)).trans hF4).on hF5 (by omega), .inr (.inr ⟨rfl, a5, c5, lo5, hi5, rfl, hO5, by omega, by omega⟩)⟩, by simp [intOf]⟩
    · go_wp2_with fail
      go_ret
      exact ⟨_, rfl, hO.mono hlo hhi, hF⟩

theorem Fr.own {w a b : World} {lo0 hi0 lo hi : Nat} (h : Fr lo0 hi0 w a) (k : Fr lo hi a b) (c : (lo0 ≤ lo ∧ hi ≤ hi0) ∨ w.heap.size ≤ lo) : Fr lo0 hi0 w b := by
  rcases c with c | c
  · exact h.trans (k.mono (.inl c.1) (.inl c.2))
  · exact h.on' k c

theorem len8 (n : Nat) : (beB 8 n).length = 8 := beB_length 8 n

set_option maxRecDepth 100000 in
set_option maxHeartbeats 2000000 in
theorem c_putN {w : World} {g lo0 hi0 : Nat} {v0 : Value} {B : List UInt8} (n a f : Nat) (hn : n < 18446744073709551616) (ha : a < 18446744073709551616) (hf : f < 18446744073709551616) (hB : Blk w g [.int .u64 (n : Int), .int .u64 (a : Int), .int .u64 (f : Int)] 37)
    (hO : OwB w lo0 hi0 v0 B) (hBl : B.length = 64) (hh : hi0 ≤ g) (hhw : hi0 ≤ w.heap.size) :
    Calls Tryd.prog 87 #[v0, .slice (some ⟨g, 0, none⟩) 3 3, .func (.func 88) #[] #[]] w fun e w' => ∃ v' lo hi, e = .returned v' ∧ OwB w' lo hi v' (B ++ (beB 8 n ++ beB 8 a ++ beB 8 f)) ∧ ((lo0 ≤ lo ∧ hi ≤ hi0) ∨ (w.heap.size ≤ lo ∧ hi ≤ w'.heap.size)) ∧ Fr lo0 hi0 w w' := by
  have hgl := hB.lt
  have HBL := Lib.hid hBl
  have H8 : Hid (∀ n, (beB 8 n).length = 8) := fun n => beB_length 8 n
  obtain ⟨a0, c0, rfl⟩ : ∃ a c, v0 = .slice a 64 c := (let ⟨x, y, e, _⟩ := hO.rd.form; ⟨x, y, by rw [e, hBl]⟩)
  clear hBl
  go_enter Tryd.func87, Tryd.ntmps87
  go_wp2_with fail
  go_loopw [0, 11] (fun b i ws => Fr lo0 hi0 w ws ∧ ∃ (j : Nat) (X : List UInt8) (aa : Option Addr) (c lo hi : Nat), j ≤ 3 ∧ i = .int .i64 j ∧ X = B ++ ((beB 8 n ++ beB 8 a ++ beB 8 f).take (8 * j)) ∧ b = .slice aa (64 + 8 * j) c ∧ OwB ws lo hi b X ∧ ((lo0 ≤ lo ∧ hi ≤ hi0) ∨ (w.heap.size ≤ lo ∧ hi ≤ ws.heap.size))) (fun _ i _ => 3 - (intOf i).toNat)
  case atStart => exact ⟨Fr.refl _ _ _, 0, B, a0, c0, lo0, hi0, by omega, rfl, by simp, rfl, hO, .inl ⟨Nat.le_refl _, Nat.le_refl _⟩⟩
  case round =>
    obtain ⟨hF, j, X, aa, c, lo, hi, hj, rfl, hX, rfl, hOr, hcase⟩ := hrel
    have zw := hF.size
    have hBw := hB.kept hF (.inr hh)
    have HX := Lib.hid hX
    have hXl : X.length = 64 + 8 * j := by
      rw [hX, List.length_append, HBL.out, List.length_take]
      simp [beB_length]
      omega
    have HXL := Lib.hid hXl
    clear hX hXl
    have hj' : j = 0 ∨ j = 1 ∨ j = 2 ∨ j = 3 := by omega
    rcases hj' with rfl | rfl | rfl | rfl
    · have cc := hBw.cell 0
      simp only [List.getElem?_cons_zero] at cc
      go_wp2_with (first
        | (go_at_call 88; refine (c_BodyN n hn).mono ?_; rintro e w4 ⟨v4, rfl, hR4, hF4⟩; have z4 := hF4.size; have hO4 := hOr.kept hF4 (.inr (Nat.zero_le _)))
        | (at_builtin; refine wpl_append hO4 hR4.rd (by rw [HXL.out, H8.out]; omega) rfl rfl rfl rfl ?_; intro v5 w5 lo5 hi5 hO5 hF5 hz5; obtain ⟨a5, c5, rfl⟩ : ∃ a c, v5 = .slice a (64 + 8 * 1) c := (let ⟨x, y, e, _⟩ := hO5.rd.form; ⟨x, y, by rw [e, List.length_append, HXL.out, H8.out]⟩)))
      have z5 := hF5.size
      refine ⟨⟨(hF.trans (hF4.mono (.inr (Nat.le_refl _)) (.inr (Nat.le_refl _)))).own hF5 (by omega), 1, X ++ beB 8 n, a5, c5, lo5, hi5, by omega, rfl, ?_, rfl, hO5, by omega⟩, by simp [intOf]⟩
      rw [HX.out, List.append_assoc]
      congr 1
    · have cc := hBw.cell 1
      simp only [List.getElem?_cons_zero, List.getElem?_cons_succ] at cc
      go_wp2_with (first
        | (go_at_call 88; refine (c_BodyN a ha).mono ?_; rintro e w4 ⟨v4, rfl, hR4, hF4⟩; have z4 := hF4.size; have hO4 := hOr.kept hF4 (.inr (Nat.zero_le _)))
        | (at_builtin; refine wpl_append hO4 hR4.rd (by rw [HXL.out, H8.out]; omega) rfl rfl rfl rfl ?_; intro v5 w5 lo5 hi5 hO5 hF5 hz5; obtain ⟨a5, c5, rfl⟩ : ∃ a c, v5 = .slice a (64 + 8 * 2) c := (let ⟨x, y, e, _⟩ := hO5.rd.form; ⟨x, y, by rw [e, List.length_append, HXL.out, H8.out]⟩)))
      have z5 := hF5.size
      refine ⟨⟨(hF.trans (hF4.mono (.inr (Nat.le_refl _)) (.inr (Nat.le_refl _)))).own hF5 (by omega), 2, X ++ beB 8 a, a5, c5, lo5, hi5, by omega, rfl, ?_, rfl, hO5, by omega⟩, by simp [intOf]⟩
      rw [HX.out, List.append_assoc]
      congr 1
    · have cc := hBw.cell 2
      simp only [List.getElem?_cons_zero, List.getElem?_cons_succ] at cc
      go_wp2_with (first
        | (go_at_call 88; refine (c_BodyN f hf).mono ?_; rintro e w4 ⟨v4, rfl, hR4, hF4⟩; have z4 := hF4.size; have hO4 := hOr.kept hF4 (.inr (Nat.zero_le _)))
        | (at_builtin; refine wpl_append hO4 hR4.rd (by rw [HXL.out, H8.out]; omega) rfl rfl rfl rfl ?_; intro v5 w5 lo5 hi5 hO5 hF5 hz5; obtain ⟨a5, c5, rfl⟩ : ∃ a c, v5 = .slice a (64 + 8 * 3) c := (let ⟨x, y, e, _⟩ := hO5.rd.form; ⟨x, y, by rw [e, List.length_append, HXL.out, H8.out]⟩)))
      have z5 := hF5.size
      refine ⟨⟨(hF.trans (hF4.mono (.inr (Nat.le_refl _)) (.inr (Nat.le_refl _)))).own hF5 (by omega), 3, X ++ beB 8 f, a5, c5, lo5, hi5, by omega, rfl, ?_, rfl, hO5, by omega⟩, by simp [intOf]⟩
      rw [HX.out, List.append_assoc]
      congr 1
    · go_wp2_with fail
      go_ret
      have e : X = B ++ (beB 8 n ++ beB 8 a ++ beB 8 f) := by
        rw [HX.out, List.take_of_length_le (by simp [beB_length])]
      rw [← e]
      exact ⟨_, lo, hi, rfl, hOr, hcase, hF⟩

theorem row39 : (Tryd.prog.underlying 39).map (·.isRow) = some true := by kernel_rfl
theorem siz39 : (Tryd.prog.info? 39).map (·.size) = some 99 := by kernel_rfl
theorem und57 : Tryd.prog.underlying 57 = some (.slice 30) := by kernel_rfl

/-- Two digests in a row. -/
theorem run_buildDig2 {w : World} (p t : List UInt8) (hp : p.length = 32) (ht : t.length = 32) :
    (Instr.buildSlice 57 2 #[(0, .agg (bs p)), (1, .agg (bs t))]).run Tryd.prog w = .ok (.slice (some ⟨w.heap.size, 0, none⟩) 2 2) (w.alloc (.cells (p.map ub ++ t.map ub).toArray 30)) := by
  obtain ⟨i, hi, hz⟩ := Option.map_eq_some_iff.1 zer30
  obtain ⟨i', hi', hs⟩ := Option.map_eq_some_iff.1 siz30
  rw [hi] at hi'
  cases hi'
  have hpm : (p.map ub).length = 32 := by rw [List.length_map, hp]
  have htm : (t.map ub).length = 32 := by rw [List.length_map, ht]
  have e0 : Array.map (fun x => ([ub 0, ub 0, ub 0, ub 0, ub 0, ub 0, ub 0, ub 0, ub 0, ub 0, ub 0, ub 0, ub 0, ub 0, ub 0, ub 0, ub 0, ub 0, ub 0, ub 0, ub 0, ub 0, ub 0, ub 0, ub 0, ub 0, ub 0, ub 0, ub 0, ub 0, ub 0, ub 0] : List Value)[x % 32]?.getD default) (Array.range 64) = ([List.replicate 32 (ub 0), List.replicate 32 (ub 0)] : List (List Value)).flatten.toArray := by kernel_rfl
  have f1 := fill_seg (place := fun i => some (i * 32, 32)) (segs := [List.replicate 32 (ub 0), List.replicate 32 (ub 0)]) (i := 0) (v := .agg (bs p)) (p.map ub) [(1, .agg (bs t))] (by simp) (by simp [hp]) rfl (by simp [hp])
  have f2 := fill_seg (place := fun i => some (i * 32, 32)) (segs := [p.map ub, List.replicate 32 (ub 0)]) (i := 1) (v := .agg (bs t)) (t.map ub) [] (by simp) (by simp [hp, ht]) rfl (by simp [ht])
  have f : Instr.fill (fun i => some (i * 32, 32)) ([List.replicate 32 (ub 0), List.replicate 32 (ub 0)] : List (List Value)).flatten.toArray [(0, .agg (bs p)), (1, .agg (bs t))] = some (p.map ub ++ t.map ub).toArray := by
    rw [f1]
    have e1 : ([List.replicate 32 (ub 0), List.replicate 32 (ub 0)] : List (List Value)).set 0 (p.map ub) = [p.map ub, List.replicate 32 (ub 0)] := rfl
    rw [e1, f2]
    simp [Instr.fill]
  simp [Instr.buildSlice, run_underlying und57, sizeOf, typeInfo, zeroValue, hi, hs, hz, newRow, Value.cells]
  rw [e0, f]
  simp [run_newObj_alloc]

theorem wpl_buildDig2 {ops : Array Oper} {rest : List Oper} {o : Oper} {a : Act} {w : World} {Q : Exit → Act → World → Prop} {x y : Operand} (p t : List UInt8) (hp : p.length = 32) (ht : t.length = 32)
    (hg : o.guard = none) (hop : o.op = .buildSlice 57 2 #[(0, x), (1, y)]) (hx : a.eval x = .agg (bs p)) (hy : a.eval y = .agg (bs t))
    (h : ∀ g w', Blk w' g (p.map ub ++ t.map ub) 30 → Fr 0 0 w w' → w.heap.size ≤ g → wpList Tryd.prog ops Q rest (a.put o.dst (.slice (some ⟨g, 0, none⟩) 2 2)) w') : wpList Tryd.prog ops Q (o :: rest) a w := by
  refine wpl_val hg (v := .slice (some ⟨w.heap.size, 0, none⟩) 2 2) (w' := w.alloc (.cells (p.map ub ++ t.map ub).toArray 30)) ?_ (h _ _ (Blk.alloc w _ _) (Fr.alloc w _) (Nat.le_refl _))
  have := run_buildDig2 (w := w) p t hp ht
  simp [execOp, hop, hx, hy, this]

end Go.Proofs.YtgndidjfjdaagaaDoor
