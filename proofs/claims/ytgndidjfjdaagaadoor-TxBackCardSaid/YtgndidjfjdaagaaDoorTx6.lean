/-
  tx.Read.
-/
import Derived.Test.YtgndidjfjdaagaaDoorTx5
set_option linter.unusedSimpArgs false
set_option linter.unusedVariables false
set_option linter.unnecessarySimpa false
namespace Go.Proofs.YtgndidjfjdaagaaDoor
open Go.RowKit

/-- The transaction of 120 bytes. -/
def txOf (l : List UInt8) : TxD := ⟨l.take 32, (l.drop 32).take 32, beN ((l.drop 64).take 8), beN ((l.drop 72).take 8), beN ((l.drop 80).take 8), (l.drop 88).take 32⟩
theorem beN8 (l : List UInt8) : beN (l.take 8) < 18446744073709551616 := by
  have := beN_lt (l.take 8)
  have h : 256 ^ (l.take 8).length ≤ 256 ^ 8 := Nat.pow_le_pow_right (by omega) (by simp; omega)
  omega
theorem txOf_ok {l : List UInt8} (h : l.length = 120) : TxOk (txOf l) := ⟨by simp [txOf, h], by simp [txOf, h], by simp [txOf, h], beN8 _, beN8 _, beN8 _⟩
/-- What Read answers. -/
def txRead (l : List UInt8) : List Value × Int := if l.length < 120 then (tx0, 10) else if 120 < l.length then (tx0, 11) else if (txOf l).s = signH (txOf l) then (txL (txOf l), 0) else (tx0, 110)

theorem built39z : Tryd.prog.built 39 [] = some tx0.toArray := by kernel_rfl
theorem zer163 : (Tryd.prog.info? 163).map (·.zero) = some (some (.agg #[.slice none 0 0])) := by kernel_rfl
theorem plc163 : placesOf Tryd.prog 163 = some [(0, 1)] := by kernel_rfl
theorem zer165 : (Tryd.prog.info? 165).map (·.zero) = some (some (.agg (.slice none 0 0 :: tx0).toArray)) := by kernel_rfl
theorem plc165 : placesOf Tryd.prog 165 = some [(0, 1), (1, 99)] := by kernel_rfl
theorem siz37 : (Tryd.prog.info? 37).map (·.size) = some 1 := by kernel_rfl
theorem built163 (a : Option Addr) (n c : Nat) : Tryd.prog.built 163 [(0, .slice a n c)] = some ([.slice a n c] : List Value).toArray := by
  rw [built_struct _ zer163 plc163, show (Value.agg #[.slice none 0 0]).cells = ([[.slice none 0 0]] : List (List Value)).flatten.toArray by simp [Value.cells],
    fill_seg (i := 0) [.slice a n c] _ (by simp) (by simp) rfl (by simp)]
  simp [Instr.fill]
theorem built165 (a : Option Addr) (n c : Nat) : Tryd.prog.built 165 [(0, .agg ([.slice a n c] : List Value).toArray)] = some (.slice a n c :: tx0).toArray := by
  rw [built_struct _ zer165 plc165, show (Value.agg (.slice none 0 0 :: tx0).toArray).cells = ([[.slice none 0 0], tx0] : List (List Value)).flatten.toArray by simp [Value.cells],
    fill_seg (i := 0) [.slice a n c] _ (by simp) (by simp) rfl (by simp)]
  simp [Instr.fill]

theorem seg0 (v : Value) (x : TxD) : v :: txL x = [v] ++ x.p.map ub ++ (x.t.map ub ++ (txN x ++ x.s.map ub)) := by simp [txL]
theorem seg1 (v : Value) (x : TxD) : v :: txL x = (v :: x.p.map ub) ++ x.t.map ub ++ (txN x ++ x.s.map ub) := by simp [txL]
theorem seg5 (v : Value) (x : TxD) : v :: txL x = (v :: (x.p.map ub ++ (x.t.map ub ++ txN x))) ++ x.s.map ub ++ [] := by simp [txL]
theorem segL (v : Value) (x : TxD) : v :: txL x = [v] ++ txL x ++ [] := by simp

/-- Two digests and j numbers of three are read. -/
def rdx (p t : List UInt8) (n a f : Nat) : Nat → TxD
  | 0 => ⟨p, t, 0, 0, 0, List.replicate 32 0⟩
  | 1 => ⟨p, t, n, 0, 0, List.replicate 32 0⟩
  | 2 => ⟨p, t, n, a, 0, List.replicate 32 0⟩
  | _ => ⟨p, t, n, a, f, List.replicate 32 0⟩
def rdy (p t l2 : List UInt8) (j : Nat) : TxD := rdx p t (beN ((l2.drop 0).take 8)) (beN ((l2.drop 8).take 8)) (beN ((l2.drop 16).take 8)) j
theorem rdx_ok {p t l2 : List UInt8} (hp : p.length = 32) (ht : t.length = 32) (_a _b _c : Unit) {j : Nat} : TxOk (rdy p t l2 j) := by
  have := beN8 (l2.drop 0)
  have := beN8 (l2.drop 8)
  have := beN8 (l2.drop 16)
  unfold rdy rdx
  split <;> exact ⟨hp, ht, by simp, by first | assumption | exact (by decide : (0 : Nat) < 18446744073709551616), by first | assumption | exact (by decide : (0 : Nat) < 18446744073709551616), by first | assumption | exact (by decide : (0 : Nat) < 18446744073709551616)⟩
theorem rdx_set {p t l2 : List UInt8} (hp : p.length = 32) (ht : t.length = 32) (v : Value) (j k : Nat) (hj : j < 3) (X : Value) (hX : X = .int .u64 (beN ((l2.drop (8 * j)).take 8) : Nat)) (hk : k = 65 + j) : (v :: txL (rdy p t l2 j)).set k X = v :: txL (rdy p t l2 (j + 1)) := by
  subst hk
  rw [show 65 + j = (64 + j) + 1 by omega, List.set_cons_succ]
  congr 1
  have e : ∀ x : TxD, txL x = (x.p.map ub ++ x.t.map ub) ++ (txN x ++ x.s.map ub) := fun x => by simp [txL]
  have hl : ∀ x : TxD, x.p = p → x.t = t → (x.p.map ub ++ x.t.map ub).length = 64 := fun x h1 h2 => by simp [h1, h2, hp, ht]
  have hpq : ∀ j, (rdy p t l2 j).p = p ∧ (rdy p t l2 j).t = t := fun j => by unfold rdy rdx; split <;> exact ⟨rfl, rfl⟩
  rw [e, e, List.set_append_right _ _ (by rw [hl _ (hpq j).1 (hpq j).2]; omega), hl _ (hpq j).1 (hpq j).2, (hpq j).1, (hpq j).2, (hpq (j + 1)).1, (hpq (j + 1)).2]
  congr 1
  subst hX
  have hj' : j = 0 ∨ j = 1 ∨ j = 2 := by omega
  rcases hj' with rfl | rfl | rfl <;> simp [rdy, rdx, txN]

set_option maxRecDepth 100000 in
set_option maxHeartbeats 8000000 in
theorem c_txRead {w : World} {lo hi : Nat} {v : Value} {l : List UInt8} (h : RdB w lo hi v l) (hl : l.length ≤ 1073741824) (hk : KT w) :
    Calls Tryd.prog 72 #[v] w fun e w' => e = .returned (.tuple #[.agg (txRead l).1.toArray, .int .i64 (txRead l).2]) ∧ Fr 0 0 w w' := by
  obtain ⟨a, cap, rfl, hc1, hc2, hc3⟩ := h.form
  have h1tx : ∀ v ∈ tx0, v.oneCell' = true := txL_one txZ
  have hz39 : (Tryd.prog.info? 39).map (·.size) = some tx0.length := by kernel_rfl
  rcases Nat.lt_trichotomy l.length 120 with hn | hn | hn
  · have hfin : txRead l = (tx0, 10) := by rw [txRead, if_pos hn]
    rw [hfin]
    go_enter Tryd.func72, Tryd.ntmps72
    go_wp2_with (first
      | (refine wpl_alloc zer39 rfl rfl rfl ?_; intro g4 w1 hB4 hF1 hg4 hs4)
      | (refine wpl_build (parts := []) built39z rfl rfl rfl ?_)
      | (refine wpl_store_blk hB4 rfl hz39 h1tx rfl rfl rfl rfl ?_; intro w4 hB6 hF6))
    refine bodyPost_ret (res_blk_tmp rfl rfl hB6 row39 hz39) rfl ⟨rfl, ?_⟩
    exact hF1.on hF6 hg4
  · have hXO := txOf_ok hn
    have h0 := h.fit
    obtain ⟨P, hP⟩ : ∃ P, P = l.take 32 := ⟨_, rfl⟩
    obtain ⟨T, hT⟩ : ∃ T, T = (l.drop 32).take 32 := ⟨_, rfl⟩
    obtain ⟨l1, hl1⟩ : ∃ l1, l1 = l.drop 32 := ⟨_, rfl⟩
    obtain ⟨l2, hl2⟩ : ∃ l2, l2 = l1.drop 32 := ⟨_, rfl⟩
    obtain ⟨S, hS0⟩ : ∃ S, S = (l.drop 88).take 32 := ⟨_, rfl⟩
    obtain ⟨X, hX⟩ : ∃ X, X = txOf l := ⟨_, rfl⟩
    have hPl : P.length = 32 := by rw [hP]; simp [hn]
    have hTl : T.length = 32 := by rw [hT]; simp [hn]
    have hSl : S.length = 32 := by rw [hS0]; simp [hn]
    have hl1l : l1.length = 88 := by rw [hl1]; simp [hn]
    have hl2l : l2.length = 56 := by rw [hl2]; simp [hl1l]
    have hT1 : T = l1.take 32 := by rw [hT, hl1]
    have hS1 : S = (l2.drop 24).take 32 := by rw [hS0, hl2, hl1, List.drop_drop, List.drop_drop]
    have hXe : ({ rdy P T l2 3 with s := S } : TxD) = X := by
      rw [hX, hP, hT, hS0, hl2, hl1]
      simp [rdy, rdx, txOf, List.drop_drop]
    have HP := Lib.hid hPl
    have HT := Lib.hid hTl
    have HS := Lib.hid hSl
    have HP0 := Lib.hid hP
    have HT1 := Lib.hid hT1
    have HS1 := Lib.hid hS1
    have HL1 := Lib.hid hl1l
    have HL2 := Lib.hid hl2l
    have HX := Lib.hid hX
    have HXE := Lib.hid hXe
    have HXO : Hid (TxOk X) := (show TxOk X by rw [hX]; exact hXO)
    have hXl := txL_length HXO.out
    have HN := Lib.hid hn
    have hPm : (P.map ub).length = 32 := by rw [List.length_map, hPl]
    have hTm : (T.map ub).length = 32 := by rw [List.length_map, hTl]
    have hSm : (S.map ub).length = 32 := by rw [List.length_map, hSl]
    have HE1 := Lib.hid hl1
    have HE2 := Lib.hid hl2
    have hcap : (120 : Int) ≤ (cap : Int) := by omega
    rw [hn] at h0 hc1 ⊢
    have HZ0 : Hid (tx0 = txL txZ) := (show _ = _ from rfl)
    clear hP hT hl1 hl2 hS0 hX hn hT1 hS1 hXe hPl hTl hSl hl1l hl2l hXO h
    have t1 := trivial
    have t2 := trivial
    have t3 := trivial
    go_enter Tryd.func72, Tryd.ntmps72
    go_upto_region 8 with (first
      | (have _t := t1; refine wpl_alloc zer39 rfl rfl rfl ?_; intro g2 w2 hB2 hF2 hg2 hs2; clear t1 _t)
      | (refine wpl_build (parts := [(0, _)]) (built163 a 120 cap) rfl rfl rfl ?_)
      | (refine wpl_build (parts := [(0, _)]) (built165 a 120 cap) rfl rfl rfl ?_)
      | (refine wpl_box (.slice a 120 cap :: tx0) rfl rfl rfl rfl ?_; intro g3 w3 hB3 hF3 hg3 hs3; rw [HZ0.out] at hB3; have hW3 := hF2.trans hF3; have h3 := h0.kept hW3 (.inr (Nat.zero_le _)); have z2 := hF2.size; have z3 := hF3.size; have q2 := hB2.lt)
      | (have _t := t2; go_at_call 110; refine (c_restDigest hB3 h3 (by rw [HN.out]; omega) (.inl (by omega)) (by omega)).mono ?_; rintro e w4 ⟨rfl, v4, hB4, hR4, hF4⟩; rw [← HP0.out]; rw [← HE1.out] at hR4; rw [seg0] at hB4; clear t2 _t; have z4 := hF4.size)
      | (have _t := hB4; refine wpl_store_part (L' := P.map ub) hB4 rfl (by rw [hPm]; rfl) (by rw [siz30, hPm]) (ub_oneCell _) rfl rfl rfl rfl ?_; intro w5 hB5' hF5; clear hB4 _t; have hB5 : Blk w5 g3 (v4 :: txL ⟨P, List.replicate 32 0, 0, 0, 0, List.replicate 32 0⟩) 165 := hB5'; have hR5 := hR4.kept hF5 (.inl (by omega)); have z5 := hF5.size)
      | (go_at_call 110; refine (c_restDigest hB5 hR5 (by rw [HL1.out]; omega) (.inl (by omega)) (by omega)).mono ?_; rintro e w6 ⟨rfl, v6, hB6, hR6, hF6⟩; rw [← HT1.out]; rw [← HE2.out] at hR6; rw [seg1] at hB6; have z6 := hF6.size)
      | (refine wpl_store_part (L' := T.map ub) hB6 (by show (v6 :: P.map ub).length = 33; rw [List.length_cons, hPm]) (by rw [hTm]; rfl) (by rw [siz30, hTm]) (ub_oneCell _) rfl rfl rfl rfl ?_; intro w7 hB7' hF7; clear hB6; have hB7 : Blk w7 g3 (v6 :: txL (rdy P T l2 0)) 165 := (by rw [seg1]; exact hB7'); have hR7 := hR6.kept hF7 (.inl (by omega)); have z7 := hF7.size))
    have hW37 : Fr g3 (g3 + 1) w3 w7 := ((hF4.trans hF5).trans hF6).trans hF7
    refine' wp_region_sure (S := fun ws => Fr 0 0 w7 ws) (E := fun _ => Fr 0 0) (kill := fun _ => []) (Y := [yEq _, yEq _, yEq _, yEq _, yEq _, yEq _, yEq _, yEq _, yEq _, yEq _, yEq _, yEq _, yW fun v ws => ∃ g, v = .slice (some ⟨g, 0, none⟩) 3 3 ∧ w7.heap.size ≤ g ∧ Blk ws g [.pointer (some ⟨g3, 65, none⟩), .pointer (some ⟨g3, 66, none⟩), .pointer (some ⟨g3, 67, none⟩)] 166, yEq _, yEq _]) (F := _) (by kernel_rfl) (by kernel_rfl) (by kernel_rfl) (fun V => ?hF) ?hS ?hstep ?hY ?hend
    case hF => simp only [fillA, Act.put, List.setIfInBounds_toArray, List.set_cons_zero, List.set_cons_succ, Nat.reduceAdd, Nat.zero_add]; rfl
    case hS => exact Fr.drew _
    case hstep =>
      -- 0: t38 := Op.move (tmp 4)
      refine StepsOk.cons (i := 0) (fun V ws hS hD K hK => ?_) ?_
      · refine' sure_val (v := _) (w' := ws) rfl ?hr (hK.out _ _ hS (Fr.refl _ _ _) ?hy)
        case hr => go_simp; rfl
        case hy => rfl
      -- 1: t39 := Op.nilCheck (tmp 38)
      refine StepsOk.cons (i := 1) (fun V ws hS hD K hK => ?_) ?_
      · have d0 : V 0 = _ := hD.out 0 (by kernel_rfl)
        refine' sure_val (v := _) (w' := ws) rfl ?hr (hK.out _ _ hS (Fr.refl _ _ _) ?hy)
        case hr => go_simp; rfl
        case hy => rfl
      -- 2: t40 := Op.fieldAddr 165 (tmp 39) 1
      refine StepsOk.cons (i := 2) (fun V ws hS hD K hK => ?_) ?_
      · have d1 : V 1 = _ := hD.out 1 (by kernel_rfl)
        refine' sure_val (v := _) (w' := ws) rfl ?hr (hK.out _ _ hS (Fr.refl _ _ _) ?hy)
        case hr => go_simp; rfl
        case hy => rfl
      -- 3: t41 := Op.fieldAddr 39 (tmp 40) 2
      refine StepsOk.cons (i := 3) (fun V ws hS hD K hK => ?_) ?_
      · have d2 : V 2 = _ := hD.out 2 (by kernel_rfl)
        refine' sure_val (v := _) (w' := ws) rfl ?hr (hK.out _ _ hS (Fr.refl _ _ _) ?hy)
        case hr => go_simp; rfl
        case hy => rfl
      -- 4: t42 := Op.move (tmp 4)
      refine StepsOk.cons (i := 4) (fun V ws hS hD K hK => ?_) ?_
      · refine' sure_val (v := _) (w' := ws) rfl ?hr (hK.out _ _ hS (Fr.refl _ _ _) ?hy)
        case hr => go_simp; rfl
        case hy => rfl
      -- 5: t43 := Op.nilCheck (tmp 42)
      refine StepsOk.cons (i := 5) (fun V ws hS hD K hK => ?_) ?_
      · have d4 : V 4 = _ := hD.out 4 (by kernel_rfl)
        refine' sure_val (v := _) (w' := ws) rfl ?hr (hK.out _ _ hS (Fr.refl _ _ _) ?hy)
        case hr => go_simp; rfl
        case hy => rfl
      -- 6: t44 := Op.fieldAddr 165 (tmp 43) 1
      refine StepsOk.cons (i := 6) (fun V ws hS hD K hK => ?_) ?_
      · have d5 : V 5 = _ := hD.out 5 (by kernel_rfl)
        refine' sure_val (v := _) (w' := ws) rfl ?hr (hK.out _ _ hS (Fr.refl _ _ _) ?hy)
        case hr => go_simp; rfl
        case hy => rfl
      -- 7: t45 := Op.fieldAddr 39 (tmp 44) 3
      refine StepsOk.cons (i := 7) (fun V ws hS hD K hK => ?_) ?_
      · have d6 : V 6 = _ := hD.out 6 (by kernel_rfl)
        refine' sure_val (v := _) (w' := ws) rfl ?hr (hK.out _ _ hS (Fr.refl _ _ _) ?hy)
        case hr => go_simp; rfl
        case hy => rfl
      -- 8: t46 := Op.move (tmp 4)
      refine StepsOk.cons (i := 8) (fun V ws hS hD K hK => ?_) ?_
      · refine' sure_val (v := _) (w' := ws) rfl ?hr (hK.out _ _ hS (Fr.refl _ _ _) ?hy)
        case hr => go_simp; rfl
        case hy => rfl
      -- 9: t47 := Op.nilCheck (tmp 46)
      refine StepsOk.cons (i := 9) (fun V ws hS hD K hK => ?_) ?_
      · have d8 : V 8 = _ := hD.out 8 (by kernel_rfl)
        refine' sure_val (v := _) (w' := ws) rfl ?hr (hK.out _ _ hS (Fr.refl _ _ _) ?hy)
        case hr => go_simp; rfl
        case hy => rfl
      -- 10: t48 := Op.fieldAddr 165 (tmp 47) 1
      refine StepsOk.cons (i := 10) (fun V ws hS hD K hK => ?_) ?_
      · have d9 : V 9 = _ := hD.out 9 (by kernel_rfl)
        refine' sure_val (v := _) (w' := ws) rfl ?hr (hK.out _ _ hS (Fr.refl _ _ _) ?hy)
        case hr => go_simp; rfl
        case hy => rfl
      -- 11: t49 := Op.fieldAddr 39 (tmp 48) 4
      refine StepsOk.cons (i := 11) (fun V ws hS hD K hK => ?_) ?_
      · have d10 : V 10 = _ := hD.out 10 (by kernel_rfl)
        refine' sure_val (v := _) (w' := ws) rfl ?hr (hK.out _ _ hS (Fr.refl _ _ _) ?hy)
        case hr => go_simp; rfl
        case hy => rfl
      -- 12: t50 := Op.buildSlice 167 3 #[(0, tmp 41), (1, tmp 45), (2, tmp 49)]
      refine StepsOk.cons (i := 12) (fun V ws hS hD K hK => ?_) ?_
      · have d3 : V 3 = _ := hD.out 3 (by kernel_rfl)
        have d7 : V 7 = _ := hD.out 7 (by kernel_rfl)
        have d11 : V 11 = _ := hD.out 11 (by kernel_rfl)
        refine sure_val (v := .slice (some ⟨ws.heap.size, 0, none⟩) 3 3) (w' := ws.alloc (.cells #[.pointer (some ⟨g3, 65, none⟩), .pointer (some ⟨g3, 66, none⟩), .pointer (some ⟨g3, 67, none⟩)] 166)) rfl ?_ (hK.out _ _ (hS.trans (Fr.alloc _ _)) (Fr.alloc _ _) ⟨ws.heap.size, rfl, hS.size, heap_alloc_new ws _⟩)
        go_simp
      -- 13: t51 := Op.call { callee := Callee.builtin Builtin.len, args := #[tmp 50], argTypes := #[167] }
      refine StepsOk.cons (i := 13) (fun V ws hS hD K hK => ?_) ?_
      · obtain ⟨g12, d12, hg12, hB12⟩ : ∃ g, V 12 = _ ∧ _ ∧ _ := hD.out 12 (by kernel_rfl)
        refine' sure_val (v := .int .i64 3) (w' := ws) rfl ?hr (hK.out _ _ hS (Fr.refl _ _ _) ?hy)
        case hr => go_simp
        case hy => rfl
      -- 14: t52 := Op.move (const (Value.int IntKind.i64 0))
      refine StepsOk.cons (i := 14) (fun V ws hS hD K hK => ?_) ?_
      · refine' sure_val (v := _) (w' := ws) rfl ?hr (hK.out _ _ hS (Fr.refl _ _ _) ?hy)
        case hr => go_simp; rfl
        case hy => rfl
      exact StepsOk.nil
    case hY =>
      repeat first
        | exact yKeep.nil
        | refine yKeep.eq ?_
        | refine yKeep.cons (fun i v w w' _ hE h => by obtain ⟨g, h1, h2, h3⟩ := h; exact ⟨g, h1, h2, h3.kept hE (.inr (Nat.zero_le _))⟩) ?_
    case hend =>
      intro V w8 hS hall
      obtain ⟨gp, d12, hgp', hBp⟩ : ∃ g, V 12 = _ ∧ _ ∧ _ := hall.out 12 (by kernel_rfl)
      have d13 : V 13 = _ := hall.out 13 (by kernel_rfl)
      have d14 : V 14 = _ := hall.out 14 (by kernel_rfl)
      rw [d12, d13, d14]
      clear d12 d13 d14 hall
      have hB8 := hB7.kept hS (.inr (Nat.zero_le _))
      have hR8 := hR7.kept hS (.inr (Nat.zero_le _))
      have hB28 := (hB2.kept hF3 (.inr (Nat.zero_le _))).kept hW37 (.inl (by omega)) |>.kept hS (.inr (Nat.zero_le _))
      have hgp : g3 + 1 ≤ gp := by omega
      have z8 := hS.size
      go_wp2_with fail
      go_loopw [52] (fun i ws => ∃ (j : Nat) (v' : Value) (lo' hi' : Nat), j ≤ 3 ∧ i = .int .i64 j ∧ Blk ws g3 (v' :: txL (rdy P T l2 j)) 165 ∧ RdB ws lo' hi' v' (l2.drop (8 * j)) ∧ (hi' ≤ g3 ∨ g3 < lo') ∧ hi' ≤ ws.heap.size ∧ Fr g3 (g3 + 1) w8 ws) (fun i _ => 3 - (intOf i).toNat)
      case atStart => exact ⟨0, v6, _, _, by omega, rfl, hB8, hR8, .inl (by omega), by omega, Fr.refl _ _ _⟩
      case round =>
        obtain ⟨j, vr, lor, hir, hj, rfl, hBr, hRr, hor, hhr, hFr⟩ := hrel
        have hj' : j = 0 ∨ j = 1 ∨ j = 2 ∨ j = 3 := by omega
        rcases hj' with rfl | rfl | rfl | rfl
        · have cc := (hBp.kept hFr (.inr hgp)).cell 0
          simp only [List.getElem?_cons_zero, List.getElem?_cons_succ] at cc
          go_wp2_with (first
            | (go_at_call 111; refine (c_restNumber hBr hRr (by rw [List.length_drop, HL2.out]; omega) (by rw [List.length_drop, HL2.out]; omega)).mono ?_; rintro e w9 ⟨rfl, v9, hB9, hR9, hF9⟩)
            | (refine wpl_store_cell (off := 65) (v := .int .u64 (beN ((l2.drop (8 * 0)).take 8) : Nat)) hB9 (by rw [List.length_cons, txL_length (rdx_ok HP.out HT.out () () ())]; omega) siz37 rfl rfl rfl rfl rfl rfl ?_; intro w10 hB10 hF10))
          have z9 := hF9.size
          have zr := hFr.size
          have z10 := hF10.size
          exact ⟨⟨1, v9, _, _, by omega, rfl, by rw [rdx_set HP.out HT.out _ 0 _ (by omega) _ rfl rfl] at hB10; exact hB10, by have := hR9.kept hF10 (.inr (by omega)); rw [List.drop_drop] at this; exact this, .inr (by omega), by omega, hFr.trans (hF9.trans hF10)⟩, by simp [intOf]⟩
        · have cc := (hBp.kept hFr (.inr hgp)).cell 1
          simp only [List.getElem?_cons_zero, List.getElem?_cons_succ] at cc
          go_wp2_with (first
            | (go_at_call 111; refine (c_restNumber hBr hRr (by rw [List.length_drop, HL2.out]; omega) (by rw [List.length_drop, HL2.out]; omega)).mono ?_; rintro e w9 ⟨rfl, v9, hB9, hR9, hF9⟩)
            | (refine wpl_store_cell (off := 66) (v := .int .u64 (beN ((l2.drop (8 * 1)).take 8) : Nat)) hB9 (by rw [List.length_cons, txL_length (rdx_ok HP.out HT.out () () ())]; omega) siz37 rfl rfl rfl rfl rfl rfl ?_; intro w10 hB10 hF10))
          have z9 := hF9.size
          have zr := hFr.size
          have z10 := hF10.size
          exact ⟨⟨2, v9, _, _, by omega, rfl, by rw [rdx_set HP.out HT.out _ 1 _ (by omega) _ rfl rfl] at hB10; exact hB10, by have := hR9.kept hF10 (.inr (by omega)); rw [List.drop_drop] at this; exact this, .inr (by omega), by omega, hFr.trans (hF9.trans hF10)⟩, by simp [intOf]⟩
        · have cc := (hBp.kept hFr (.inr hgp)).cell 2
          simp only [List.getElem?_cons_zero, List.getElem?_cons_succ] at cc
          go_wp2_with (first
            | (go_at_call 111; refine (c_restNumber hBr hRr (by rw [List.length_drop, HL2.out]; omega) (by rw [List.length_drop, HL2.out]; omega)).mono ?_; rintro e w9 ⟨rfl, v9, hB9, hR9, hF9⟩)
            | (refine wpl_store_cell (off := 67) (v := .int .u64 (beN ((l2.drop (8 * 2)).take 8) : Nat)) hB9 (by rw [List.length_cons, txL_length (rdx_ok HP.out HT.out () () ())]; omega) siz37 rfl rfl rfl rfl rfl rfl ?_; intro w10 hB10 hF10))
          have z9 := hF9.size
          have zr := hFr.size
          have z10 := hF10.size
          exact ⟨⟨3, v9, _, _, by omega, rfl, by rw [rdx_set HP.out HT.out _ 2 _ (by omega) _ rfl rfl] at hB10; exact hB10, by have := hR9.kept hF10 (.inr (by omega)); rw [List.drop_drop] at this; exact this, .inr (by omega), by omega, hFr.trans (hF9.trans hF10)⟩, by simp [intOf]⟩
        · have zr := hFr.size
          have hB2r := hB28.kept hFr (.inl (by omega))
          have hW8 : Fr 0 0 w w8 := (hW3.on hW37 (by omega)).trans hS
          have z88 := hW8.size
          have hWr : Fr 0 0 w wr := hW8.on hFr (by omega)
          by_cases hok : X.s = signH X
          · have HOK : Hid (txRead l = (txL X, 0)) := (show _ = _ by rw [txRead, if_neg (by rw [HN.out]; omega), if_neg (by rw [HN.out]; omega), if_pos (by rw [← HX.out]; exact hok), HX.out])
            have HC := Lib.hid hok
            clear hok
            go_wp2_with (first
              | (go_at_call 110; refine (c_restDigest hBr hRr (by rw [List.length_drop, HL2.out]; omega) hor hhr).mono ?_; rintro e w9 ⟨rfl, v9, hB9, hR9, hF9⟩; rw [← HS1.out]; rw [seg5] at hB9)
              | (have _t := hB9; refine wpl_store_part (L' := S.map ub) hB9 (by show (v9 :: (P.map ub ++ (T.map ub ++ _))).length = 68; rw [List.length_cons, List.length_append, List.length_append, hPm, hTm]; rfl) (by rw [hSm]; rfl) (by rw [siz30, hSm]) (ub_oneCell _) rfl rfl rfl rfl ?_; intro w10 hB10' hF10; clear hB9 _t; have hB10 : Blk w10 g3 ([v9] ++ txL X ++ []) 165 := (by rw [← HXE.out]; exact (segL v9 { rdy P T l2 3 with s := S }) ▸ (by rw [seg5]; exact hB10')); have hF8r : Fr g3 (g3 + 1) wr w10 := hF9.trans hF10; have hW10 : Fr 0 0 w w10 := hWr.on hF8r (by omega); have hB210 := hB2r.kept hF8r (.inl (by omega)))
              | (refine wpl_load_part (A := [v9]) (Z := []) hB10 rfl row39 (by rw [siz39, hXl]) rfl rfl rfl ?_)
              | (go_at_call 34; refine (c_txCheck X HXO.out (hk.kept hW10 (.inr (Nat.zero_le _)))).mono ?_; rintro e w11 ⟨rfl, hF11⟩; rw [if_pos HC.out]; have hB11 := hB10.kept hF11 (.inr (Nat.zero_le _)); have hB211 := hB210.kept hF11 (.inr (Nat.zero_le _)))
              | (refine wpl_load_part (A := [v9]) (Z := []) hB11 rfl row39 (by rw [siz39, hXl]) rfl rfl rfl ?_)
              | (refine wpl_store_blk hB211 (by rw [hXl]; rfl) (by rw [siz39, hXl]) (txL_one X) rfl rfl rfl rfl ?_; intro w12 hB12 hF12))
            refine bodyPost_ret (res_blk_tmp rfl rfl hB12 row39 (by rw [siz39, hXl])) rfl ⟨by rw [HOK.out]; rfl, ?_⟩
            exact (hW10.trans hF11).on hF12 hg2
          · have HOK : Hid (txRead l = (tx0, 110)) := (show _ = _ by rw [txRead, if_neg (by rw [HN.out]; omega), if_neg (by rw [HN.out]; omega), if_neg (by rw [← HX.out]; exact hok)])
            have HC := Lib.hid hok
            clear hok
            go_wp2_with (first
              | (go_at_call 110; refine (c_restDigest hBr hRr (by rw [List.length_drop, HL2.out]; omega) hor hhr).mono ?_; rintro e w9 ⟨rfl, v9, hB9, hR9, hF9⟩; rw [← HS1.out]; rw [seg5] at hB9)
              | (have _t := hB9; refine wpl_store_part (L' := S.map ub) hB9 (by show (v9 :: (P.map ub ++ (T.map ub ++ _))).length = 68; rw [List.length_cons, List.length_append, List.length_append, hPm, hTm]; rfl) (by rw [hSm]; rfl) (by rw [siz30, hSm]) (ub_oneCell _) rfl rfl rfl rfl ?_; intro w10 hB10' hF10; clear hB9 _t; have hB10 : Blk w10 g3 ([v9] ++ txL X ++ []) 165 := (by rw [← HXE.out]; exact (segL v9 { rdy P T l2 3 with s := S }) ▸ (by rw [seg5]; exact hB10')); have hF8r : Fr g3 (g3 + 1) wr w10 := hF9.trans hF10; have hW10 : Fr 0 0 w w10 := hWr.on hF8r (by omega); have hB210 := hB2r.kept hF8r (.inl (by omega)))
              | (refine wpl_load_part (A := [v9]) (Z := []) hB10 rfl row39 (by rw [siz39, hXl]) rfl rfl rfl ?_)
              | (go_at_call 34; refine (c_txCheck X HXO.out (hk.kept hW10 (.inr (Nat.zero_le _)))).mono ?_; rintro e w11 ⟨rfl, hF11⟩; rw [if_neg HC.out]; have hB211 := hB210.kept hF11 (.inr (Nat.zero_le _)))
              | (refine wpl_build (parts := []) built39z rfl rfl rfl ?_)
              | (refine wpl_store_blk hB211 rfl hz39 h1tx rfl rfl rfl rfl ?_; intro w12 hB12 hF12))
            refine bodyPost_ret (res_blk_tmp rfl rfl hB12 row39 hz39) rfl ⟨by rw [HOK.out]; rfl, ?_⟩
            exact (hW10.trans hF11).on hF12 hg2
  · have hfin : txRead l = (tx0, 11) := by rw [txRead, if_neg (by omega), if_pos hn]
    rw [hfin]
    go_enter Tryd.func72, Tryd.ntmps72
    go_wp2_with (first
      | (refine wpl_alloc zer39 rfl rfl rfl ?_; intro g4 w1 hB4 hF1 hg4 hs4)
      | (refine wpl_build (parts := []) built39z rfl rfl rfl ?_)
      | (refine wpl_store_blk hB4 rfl hz39 h1tx rfl rfl rfl rfl ?_; intro w4 hB6 hF6))
    refine bodyPost_ret (res_blk_tmp rfl rfl hB6 row39 hz39) rfl ⟨rfl, ?_⟩
    exact hF1.on hF6 hg4

end Go.Proofs.YtgndidjfjdaagaaDoor
