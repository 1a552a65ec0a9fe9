/-
  tag.Parts.
-/
import Derived.Test.YtgndidjfjdaagaaDoorParts
import Derived.Shelf.Abstract
set_option linter.unusedSimpArgs false
set_option linter.unusedVariables false
namespace Go.Proofs.YtgndidjfjdaagaaDoor
open Go.RowKit Go.Shelf

attribute [local go_sem] Oper.semAt_some WF_round WF_fn WF_depth

set_option maxHeartbeats 400000 in
theorem c_each {w : World} (v : Value) (hv : v.cells = #[v]) : Calls Tryd.prog 99 #[v] w fun e w' => ∃ g, e = .returned (.func (.func 142) #[] #[.pointer (some ⟨g, 0, none⟩)]) ∧ Blk w' g [v] 24 ∧ Fr 0 0 w w' ∧ w.heap.size ≤ g := by
  go_enter Tryd.func99, Tryd.ntmps99
  go_wp2_with (refine wpl_box [v] rfl rfl rfl hv ?_; intro g w1 hB hF hg hgs)
  go_ret
  exact ⟨g, rfl, hB, hF, hg⟩

/-- What tag.Parts answers. -/
def partsR : List UInt8 → UInt8 × List (List UInt8) × Nat
  | [] => (0, [], 10)
  | k :: t => if (prts t.length t).2 = 0 then (k, (prts t.length t).1, 0) else (0, [], (prts t.length t).2)

theorem zer5 : (Tryd.prog.info? 5).map (·.zero) = some (some (.int .u8 0)) := by kernel_rfl
theorem zer35 : (Tryd.prog.info? 22).map (·.zero) = some (some (.slice none 0 0)) := by kernel_rfl
theorem zer28 : (Tryd.prog.info? 43).map (·.zero) = some (some (.int .i64 0)) := by kernel_rfl
theorem siz35 : (Tryd.prog.info? 22).map (·.size) = some 1 := by kernel_rfl
theorem siz28 : (Tryd.prog.info? 43).map (·.size) = some 1 := by kernel_rfl
theorem und35 : Tryd.prog.underlying 22 = some (.slice 24) := by kernel_rfl

theorem Fr.ch {Bn n₀ : Nat} {w A B : World} (h : Fr 0 0 w A) (hc : Ch Bn n₀ A B) (h1 : w.heap.size ≤ Bn) (h2 : w.heap.size ≤ n₀) : Fr 0 0 w B :=
  ⟨hc.os.trans h.os, hc.tape.trans h.tape, hc.output.trans h.output, Nat.le_trans h.size hc.size, fun k hk ho => by
    have := h.size
    exact (hc.block k (by omega) (.inl ⟨by omega, by omega⟩)).trans (h.block k hk ho)⟩

theorem Blk.setOne {w : World} {g : Nat} {v : Value} {t : TypeId} (h : Blk w g [v] t) (v' : Value) : Blk (w.setCell ⟨g, 0, none⟩ v') g [v'] t ∧ Fr g (g + 1) w (w.setCell ⟨g, 0, none⟩ v') :=
  ⟨Boxed.set v' h, Fr.of_grown (grownBy_setCell' w g v') (fun k hk => by cases hk; omega)⟩

theorem OwS.low {w : World} {n₀ m₀ h : Nat} {v : Value} {ls : List (List UInt8)} (k : OwS w n₀ h v ls) (hh : m₀ ≤ n₀) : OwS w m₀ h v ls := by
  rcases k with k | ⟨g, cap, us, rest, los, his, e, h1, h2, h3, h4, h5, h6, h7⟩
  · exact .inl k
  · exact .inr ⟨g, cap, us, rest, los, his, e, by omega, by omega, h3, h4, h5, h6, fun j hj => let ⟨a, c, r1, r2, r3, r4, r5⟩ := h7 j hj; ⟨a, c, r1, r2, by omega, by omega, r5⟩⟩

theorem KeepsFrom.of_fr {n₀ lo hi : Nat} {A B : World} (h : Fr lo hi A B) (hh : hi ≤ n₀) : KeepsFrom n₀ A B := ⟨h.size, fun k o hk ho _ => (h.block k (Array.getElem?_eq_some_iff.1 ho).1 (by omega)).trans ho⟩

theorem run_loadVar_one {P : Program} {w : World} {g : Nat} {t : TypeId} {v : Value} (hu : ((P.underlying t).map (·.isRow)) = some false) (hc : w.cell? ⟨g, 0, none⟩ = some v) : (loadVar t ⟨g, 0, none⟩).run P w = .ok v w := by
  obtain ⟨d, hd, hr⟩ := Option.map_eq_some_iff.1 hu
  have ha : (isAgg t).run P w = .ok false w := by
    unfold isAgg
    rw [Sem.run_bind, run_underlying hd w]
    cases d <;> simp_all [TypeDesc.isRow]
  simp [loadVar, Sem.run_bind, ha, hc]

theorem res_cells3 {P : Program} {w : World} {fn : Func} {p q r : Tmp} {t u s : TypeId} {g1 g2 g3 : Nat} {a b c : Value} {tmps : Array Value} (h : fn.results = #[.cell p t, .cell q u, .cell r s])
    (hp : tmps.getD p undef = .pointer (some ⟨g1, 0, none⟩)) (hq : tmps.getD q undef = .pointer (some ⟨g2, 0, none⟩)) (hr : tmps.getD r undef = .pointer (some ⟨g3, 0, none⟩))
    (ht : ((P.underlying t).map (·.isRow)) = some false) (hu : ((P.underlying u).map (·.isRow)) = some false) (hs : ((P.underlying s).map (·.isRow)) = some false)
    (h1 : w.cell? ⟨g1, 0, none⟩ = some a) (h2 : w.cell? ⟨g2, 0, none⟩ = some b) (h3 : w.cell? ⟨g3, 0, none⟩ = some c) : (results fn tmps).run P w = .ok (.tuple #[a, b, c]) w := by
  have hp' : tmps[p]?.getD undef = .pointer (some ⟨g1, 0, none⟩) := by simpa using hp
  have hq' : tmps[q]?.getD undef = .pointer (some ⟨g2, 0, none⟩) := by simpa using hq
  have hr' : tmps[r]?.getD undef = .pointer (some ⟨g3, 0, none⟩) := by simpa using hr
  simp [results, h, hp', hq', hr', asAddr, run_loadVar_one ht h1, run_loadVar_one hu h2, run_loadVar_one hs h3]

theorem nrow5 : ((Tryd.prog.underlying 5).map (·.isRow)) = some false := by kernel_rfl
theorem nrow35 : ((Tryd.prog.underlying 22).map (·.isRow)) = some false := by kernel_rfl
theorem nrow28 : ((Tryd.prog.underlying 43).map (·.isRow)) = some false := by kernel_rfl

set_option maxRecDepth 100000 in
set_option maxHeartbeats 2000000 in
theorem c_Parts {w : World} {lo hi : Nat} {v : Value} {L : List UInt8} (h : RdB w lo hi v L) (hl : L.length ≤ 1073741824) (hhi : hi ≤ w.heap.size) :
    Calls Tryd.prog 52 #[v] w fun e w' => ∃ v', e = .returned (.tuple #[.int .u8 ((partsR L).1.toNat : Int), v', .int .i64 ((partsR L).2.2 : Int)]) ∧ OwS w' w.heap.size w'.heap.size v' (partsR L).2.1 ∧ Fr 0 0 w w' := by
  cases L with
  | nil =>
    obtain ⟨a, c, rfl, _⟩ := h.form
    go_enter Tryd.func52, Tryd.ntmps52
    go_wp2_with (first
      | (refine wpl_alloc (t := 5) (L := [.int .u8 0]) zer5 rfl rfl rfl ?_; intro kb w1 hBk hFk hk1 hk2)
      | (refine wpl_alloc (t := 22) (L := [.slice none 0 0]) zer35 rfl rfl rfl ?_; intro pb w2 hBp hFp hp1 hp2)
      | (refine wpl_alloc (t := 43) (L := [.int .i64 0]) zer28 rfl rfl rfl ?_; intro eb w3 hBe hFe he1 he2; have hBk3 := (hBk.kept hFp (.inr (Nat.zero_le _))).kept hFe (.inr (Nat.zero_le _)); have hBp3 := hBp.kept hFe (.inr (Nat.zero_le _)); have zp := hFp.size; have ze := hFe.size)
      | (refine wpl_store_cell (off := 0) hBk3 (by simp) siz5' rfl rfl rfl rfl rfl rfl ?_; intro w4 hB4 hF4; have hBp4 := hBp3.kept hF4 (by omega); have hBe4 := hBe.kept hF4 (by omega))
      | (refine wpl_store_cell (off := 0) hBp4 (by simp) siz35 rfl rfl rfl rfl rfl rfl ?_; intro w5 hB5 hF5; have hBk5 := hB4.kept hF5 (by omega); have hBe5 := hBe4.kept hF5 (by omega))
      | (refine wpl_store_cell (off := 0) hBe5 (by simp) siz28 rfl rfl rfl rfl rfl rfl ?_; intro w6 hB6 hF6; have hBk6 := hBk5.kept hF6 (by omega); have hBp6 := hB5.kept hF6 (by omega)))
    refine bodyPost_ret (v := .tuple #[.int .u8 0, .slice none 0 0, .int .i64 10]) (res_cells3 rfl rfl rfl rfl nrow5 nrow35 nrow28 (hBk6.cell 0) (hBp6.cell 0) (hB6.cell 0)) rfl ?_
    have z1 := hFk.size
    exact ⟨.slice none 0 0, rfl, OwS.nil _ _ _, ((((hFk.trans hFp).trans hFe).on hF4 (by omega)).on hF5 (by omega)).on hF6 (by omega)⟩
  | cons x0 t =>
    obtain ⟨b, off, cap, rfl, hc1, hc2, hb1, hb2⟩ := h.spot (by simp)
    have hce := h.cel 0 (by simp)
    simp only [List.getElem_cons_zero, Nat.add_zero] at hce
    obtain ⟨M, hM⟩ : ∃ M, M = (x0 :: t).length := ⟨_, rfl⟩
    have HM := Lib.hid hM
    have hM1 : 1 ≤ M := by rw [hM]; simp
    have hMt : t.length = M - 1 := by rw [hM]; simp
    have HMt := Lib.hid hMt
    rw [← hM] at h hc1 hl ⊢
    clear hM hMt
    refine (callsIn_wide (n := 0)).1 ?_
    show CallsIn (WF none) 0 _ _ _ _ _
    refine callsIn_of_wp_marks Tryd.func52 rfl trivial ?_ rfl
    simp only [Tryd.ntmps52, List.size_toArray, List.length_cons, List.length_nil, Nat.reduceAdd, Nat.reduceSub, Array.replicate_succ, Array.replicate_zero, List.push_toArray, List.append_toArray, List.nil_append, List.cons_append]
    gi_wp2_with (first
      | (refine lift (fun _ h => by cases h) ?_; refine wpl_alloc (t := 5) (L := [.int .u8 0]) zer5 rfl rfl rfl ?_; intro kb w1 hBk hFk hk1 hk2; refine nilN ?_)
      | (refine lift (fun _ h => by cases h) ?_; refine wpl_alloc (t := 22) (L := [.slice none 0 0]) zer35 rfl rfl rfl ?_; intro pb w2 hBp hFp hp1 hp2; refine nilN ?_)
      | (refine lift (fun _ h => by cases h) ?_; refine wpl_alloc (t := 43) (L := [.int .i64 0]) zer28 rfl rfl rfl ?_; intro eb w3 hBe hFe he1 he2; refine nilN ?_; have h3 := ((h.kept hFk (.inr (Nat.zero_le _))).kept hFp (.inr (Nat.zero_le _))).kept hFe (.inr (Nat.zero_le _)))
      | (refine lift (fun _ h => by cases h) ?_; refine wpl_slice_from h3 hM1 rfl rfl rfl rfl ?_; intro ad' cap' hr; refine nilN ?_)
      | (gi_at_call 99; refine (callsWF (c_each (.slice ad' (M - 1) cap') rfl)).mono ?_; rintro e w4 ⟨Bn, rfl, hBb, hFb, hb⟩))
    have hFk' := hFk.size
    have hFp' := hFp.size
    have hFe' := hFe.size
    have hFb' := hFb.size
    have hBk4 := ((hBk.kept hFp (.inr (Nat.zero_le _))).kept hFe (.inr (Nat.zero_le _))).kept hFb (.inr (Nat.zero_le _))
    have hBp4 := (hBp.kept hFe (.inr (Nat.zero_le _))).kept hFb (.inr (Nat.zero_le _))
    have hBe4 := hBe.kept hFb (.inr (Nat.zero_le _))
    have hr4 := hr.kept hFb (.inr (Nat.zero_le _))
    have hF4 : Fr 0 0 w w4 := ((hFk.trans hFp).trans hFe).trans hFb
    have hlb := hBb.lt
    simp only [List.drop_one, List.tail_cons] at hr4
    have hrM : RdB w4 lo hi (.slice ad' t.length cap') t := by rw [HMt.out]; exact hr4
    refine wpIn_rangeFunc_B (n := 0) (gf := 142) (lb := #[.pointer (some ⟨Bn, 0, none⟩)]) rfl (enters_of Tryd.func142 (by kernel_rfl) rfl) hlb
      (c_each1 (n := 0 - 1) (v := .slice ad' (M - 1) cap') (L := t) hBb (by rw [← HMt.out]; exact hrM) (by rw [HMt.out]; omega) (by omega) (.inl (by omega)))
      (fun _ => rfl) ?hV
      (fun s h W => Blk W kb [.int .u8 0] 5 ∧ Blk W eb [.int .i64 0] 43 ∧ (∃ a c, Blk W pb [.slice a s.length c] 22 ∧ OwS W w4.heap.size h (.slice a s.length c) s) ∧ Fr 0 0 w W)
      (fun c x W => c = .ret ∧ Blk W kb [.int .u8 0] 5 ∧ Blk W pb [.slice none 0 0] 22 ∧ Blk W eb [.int .i64 (x.2.2 : Int)] 43 ∧ Fr 0 0 w W)
      ?hI ?hIm ?hIx ?h0
      (fun x => { tmps := #[.slice (some ⟨b, off, none⟩) M cap, undef, .pointer (some ⟨kb, 0, none⟩), .pointer (some ⟨pb, 0, none⟩), .pointer (some ⟨eb, 0, none⟩), x.1, .int .i64 (x.2.2 : Int), .slice (some ⟨b, off, none⟩) M cap, .int .i64 (M : Int), .bool false, .slice (some ⟨b, off, none⟩) M cap, .slice ad' (M - 1) cap', .func (.func 142) #[] #[.pointer (some ⟨Bn, 0, none⟩)], x.1, .int .i64 (x.2.2 : Int), undef, undef, undef, undef, undef, undef, undef, undef, undef, undef, undef], defers := [] }) ?assign ?body ?done ?stop
    case hV =>
      rintro s x W1 W2 l o (⟨h1, h2, h3, h4⟩ | h) hl1 hl2
      · refine .inl ⟨h1, h2, ?_, h4⟩
        have := h3.kept (Fr.putObj W2 l o) (.inr (by omega))
        simpa using this
      · exact .inr h
    case hI =>
      rintro s h A B ⟨h1, h2, ⟨a, c, h3, h4⟩, h5⟩ hc
      refine ⟨h1.ch hc (by omega), h2.ch hc (by omega), ⟨a, c, h3.ch hc (by omega), h4.ch hc (by omega)⟩, h5.ch hc (by omega) (by omega)⟩
    case hIm =>
      rintro s h h' A ⟨h1, h2, ⟨a, c, h3, h4⟩, h5⟩ hle
      exact ⟨h1, h2, ⟨a, c, h3, h4.mono hle⟩, h5⟩
    case hIx =>
      rintro c x A B ⟨h1, h2, h3, h4, h5⟩ hc
      exact ⟨h1, h2.ch hc (by omega), h3.ch hc (by omega), h4.ch hc (by omega), h5.ch hc (by omega) (by omega)⟩
    case h0 => exact ⟨hBk4, hBe4, ⟨none, 0, hBp4, OwS.nil _ _ _⟩, hF4⟩
    case assign =>
      intro l m x W K hK
      simp only [encY]
      show Code.wpIn (WF (some l)) m _ _ _ _ _
      gi_wp2
      exact hK
    case body =>
      rintro l m s ⟨v, p, c⟩ W1 W ⟨h1, h2, ⟨a, c0, h3, h4⟩, h5⟩ hz1 hz2 hV hl1 hl2 ⟨r, hlr⟩
      show Code.wpIn (WF (some l)) m _ _ _ _ _
      by_cases hc : c = 0
      · subst hc
        rcases hV with ⟨_, hs, hu, a1, e1⟩ | ⟨hn, _⟩
        · simp only at e1 hu hs
          subst e1
          have hpb := h3.lt
          have htl : t.length ≤ 1073741824 := by rw [HMt.out]; omega
          have hcp : W.cell? ⟨pb, 0, none⟩ = some (.slice a s.length c0) := h3.cell 0
          have hpn : pb < w4.heap.size := by omega
          gi_wp2_with (first
            | (gi_at_builtin; go_loud (refine lift (fun _ h => by cases h) ?_); go_loud (refine wpl_append_slice (x := W.heap.size) und35 (h4.kept (Fr.alloc _ _) (.inr (Nat.zero_le _))) (hu.kept (Fr.alloc _ _) (.inr (Nat.zero_le _))) (heap_alloc_new W _) (Nat.le_refl _) (by simp) hz1 (by simp; omega) (by omega) rfl rfl rfl rfl ?_); intro a' c' w5 hO5 hF5 hk5; refine nilN ?_; have hB5 : Blk w5 pb [.slice a s.length c0] 22 := (hk5 pb (by simp; omega) (.inl hpn)).trans (h3.kept (Fr.alloc _ _) (.inr (Nat.zero_le _))))
            | (refine lift (fun _ h => by cases h) ?_; refine wpl_store_cell (off := 0) (v := .slice a' (s.length + 1) c') hB5 (by simp) siz35 rfl rfl rfl rfl rfl rfl ?_; intro w6 hB6 hF6; refine nilN ?_))
          have z5 := hF5.size
          have z6 := hF6.size
          rw [World.size_alloc] at z5
          have hstep : ∀ k, k < W.heap.size → k ≠ pb → (k < w4.heap.size ∨ W1.heap.size ≤ k ∨ ∀ L, ¬ Blk W k L 24) → w6.heap[k]? = W.heap[k]? := by
            intro k hk hkp ho
            have e1 := (Fr.alloc W (.cells #[.slice a1 p.length p.length] 24)).block k hk (.inr (Nat.zero_le _))
            refine (hF6.block k (by omega) (by omega)).trans ((hk5 k (by simp; omega) ?_).trans e1)
            rcases ho with ho | ho | ho
            · exact .inl ho
            · exact .inr (.inl ho)
            · exact .inr (.inr fun L hL => ho L (e1.symm.trans hL))
          have kkb := h1.lt
          have keb := h2.lt
          refine ⟨⟨by omega, fun k o hk ho hc => ?_⟩, fun k hk => ?_, rfl, ?_, ?_, ?_, ?_⟩
          · refine (hstep k (Array.getElem?_eq_some_iff.1 ho).1 (by omega) (.inr (.inr fun L hL => ?_))).trans ho
            have : W.heap[k]? = _ := hL
            rw [ho] at this
            cases this
            cases hc
          · rcases hk with rfl | ⟨hk1, hk2⟩ | ⟨hk1, L, hk2⟩
            · exact hstep _ (by omega) (by omega) (.inl hlb)
            · exact hstep k hk2 (by omega) (.inr (.inl hk1))
            · refine hstep k hk2.lt (by omega) (.inr (.inr fun L' hL' => ?_))
              have : W.heap[k]? = _ := hL'
              rw [hk2] at this
              simp at this
          · exact (hstep kb kkb (by omega) (.inl (by omega))).trans h1
          · exact (hstep eb keb (by omega) (.inl (by omega))).trans h2
          · refine ⟨a', c', ?_, ?_⟩
            · simpa [nxY] using hB6
            · have := (hO5.kept hF6 (.inr (by omega))).mono z6
              simpa [nxY] using this
          · exact (((h5.trans (Fr.alloc _ _)).on hF5 (by omega)).on hF6 (by omega))
        · exact absurd rfl hn
      · have hcI : ¬ (c : Int) = 0 := by omega
        have hpn : pb < w4.heap.size := by omega
        have hkn : kb < w4.heap.size := by omega
        have hen : eb < w4.heap.size := by omega
        gi_wp2_with (first
          | (refine lift (fun _ h => by cases h) ?_; refine wpl_store_cell (off := 0) h1 (by simp) siz5' rfl rfl rfl rfl rfl rfl ?_; intro w5 hB5 hF5; have h35 := h3.kept hF5 (by omega); have h25 := h2.kept hF5 (by omega); refine nilN ?_)
          | (refine lift (fun _ h => by cases h) ?_; refine wpl_store_cell (off := 0) h35 (by simp) siz35 rfl rfl rfl rfl rfl rfl ?_; intro w6 hB6 hF6; have h16 := hB5.kept hF6 (by omega); have h26 := h25.kept hF6 (by omega); refine nilN ?_)
          | (refine lift (fun _ h => by cases h) ?_; refine wpl_store_cell (off := 0) h26 (by simp) siz28 rfl rfl rfl rfl rfl rfl ?_; intro w7 hB7 hF7; have h17 := h16.kept hF7 (by omega); have h37 := hB6.kept hF7 (by omega); refine nilN ?_))
        refine ⟨((KeepsFrom.of_fr hF5 (by omega)).trans (KeepsFrom.of_fr hF6 (by omega))).trans (KeepsFrom.of_fr hF7 (by omega)), hc, rfl, h17, h37, hB7, ((h5.on hF5 (by omega)).on hF6 (by omega)).on hF7 (by omega)⟩
    case done =>
      rintro D s W hD ⟨hf1, rfl⟩ ⟨h1, h2, ⟨a, c0, h3, h4⟩, h5⟩ hK
      gi_wp2
      have hpn : pb < w4.heap.size := by omega
      have ck := h1.cell 0
      have cp := h3.cell 0
      have ce := h2.cell 0
      have fk := h1.frozen 0
      have fp := h3.frozen 0
      have fe := h2.frozen 0
      have cb := h5.cell hce (.inr (Nat.zero_le _))
      unfold ub at cb
      simp only [List.getElem?_cons_zero] at ck cp ce
      have hM0 : (0 : Int) < (M : Int) := by omega
      gi_region
      have s1 := Blk.setOne h1 (.int .u8 (x0.toNat : Int))
      obtain ⟨Wa, hWa⟩ : ∃ Wa, Wa = W.setCell ⟨kb, 0, none⟩ (.int .u8 (x0.toNat : Int)) := ⟨_, rfl⟩
      rw [← hWa] at s1 ⊢
      have s2 := Blk.setOne (h3.kept s1.2 (by omega)) (.slice a (prts t.length t).1.length c0)
      obtain ⟨Wb, hWb⟩ : ∃ Wb, Wb = Wa.setCell ⟨pb, 0, none⟩ (.slice a (prts t.length t).1.length c0) := ⟨_, rfl⟩
      rw [← hWb] at s2 ⊢
      have s3 := Blk.setOne ((h2.kept s1.2 (by omega)).kept s2.2 (by omega)) (.int .i64 0)
      obtain ⟨Wc, hWc⟩ : ∃ Wc, Wc = Wb.setCell ⟨eb, 0, none⟩ (.int .i64 0) := ⟨_, rfl⟩
      rw [← hWc] at s3 ⊢
      have hd := Fr.drew Wc
      have k1 := ((s1.1.kept s2.2 (by omega)).kept s3.2 (by omega)).kept hd (.inr (Nat.zero_le _))
      have k2 := (s2.1.kept s3.2 (by omega)).kept hd (.inr (Nat.zero_le _))
      have k3 := s3.1.kept hd (.inr (Nat.zero_le _))
      have hFa : Fr 0 0 w Wc.drew := (((h5.on s1.2 (by omega)).on s2.2 (by omega)).on s3.2 (by omega)).trans hd
      have hO4 := (((h4.kept s1.2 (.inr (by omega))).kept s2.2 (.inr (by omega))).kept s3.2 (.inr (by omega))).kept hd (.inr (Nat.zero_le _))
      have hDd : Wc.drew.heap[D]? = some (.deferred (some [])) := by
        have hDl := (Array.getElem?_eq_some_iff.1 hK).1
        have q1 := s1.2.size
        have q2 := s2.2.size
        have q3 := s3.2.size
        rw [hd.block D (by omega) (.inr (Nat.zero_le _)), s3.2.block D (by omega) (by omega), s2.2.block D (by omega) (by omega), s1.2.block D (by omega) (by omega), hK]
      have hsz : W.heap.size ≤ Wc.drew.heap.size := Nat.le_trans s1.2.size (Nat.le_trans s2.2.size (Nat.le_trans s3.2.size hd.size))
      obtain ⟨Wd, hWd⟩ : ∃ Wd, Wd = Wc.drew := ⟨_, rfl⟩
      rw [← hWd] at k1 k2 k3 hFa hO4 hDd hsz ⊢
      clear hWa hWb hWc hWd s1 s2 s3 hd
      gi_wp2
      refine ⟨by simp, .inl ⟨_, _, rfl, run_takeDeferred hDd, ?_⟩⟩
      have hF := Fr.putObj Wd D (.deferred none)
      have hOD := hO4.ch (Ch.putObj (Bn := Bn) (.deferred none) hD hDd rfl) (by omega)
      refine ⟨_, res_cells3 rfl rfl rfl rfl nrow5 nrow35 nrow28 ((k1.kept hF (by omega)).cell 0) ((k2.kept hF (by omega)).cell 0) ((k3.kept hF (by omega)).cell 0), .slice a (prts t.length t).1.length c0, ?_, ?_, hFa.on hF (by omega)⟩
      · simp only [partsR, if_pos hf1]
        rfl
      · simp only [partsR, if_pos hf1]
        exact (hOD.mono (by simp; omega)).low (by omega)
    case stop =>
      rintro D c x W hD ⟨hx1, hx2⟩ ⟨rfl, h1, h2, h3, h4⟩ hK
      have hpn : pb < w4.heap.size := by omega
      gi_wp2
      refine ⟨by simp, .inl ⟨_, _, rfl, run_takeDeferred hK, ?_⟩⟩
      have hF := Fr.putObj W D (.deferred none)
      refine ⟨_, res_cells3 rfl rfl rfl rfl nrow5 nrow35 nrow28 ((h1.kept hF (by omega)).cell 0) ((h2.kept hF (by omega)).cell 0) ((h3.kept hF (by omega)).cell 0), .slice none 0 0, ?_, ?_, h4.on hF (by omega)⟩
      · have e : (prts t.length t).2 ≠ 0 := by rw [← hx1]; exact hx2
        simp only [partsR, if_neg e, hx1]
        rfl
      · have e : (prts t.length t).2 ≠ 0 := by rw [← hx1]; exact hx2
        simp only [partsR, if_neg e]
        exact OwS.nil _ _ _

end Go.Proofs.YtgndidjfjdaagaaDoor
