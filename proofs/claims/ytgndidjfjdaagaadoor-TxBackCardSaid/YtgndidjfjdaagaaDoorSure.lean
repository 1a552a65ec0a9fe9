/-
  A region that draws its order, carried out once: each operation is shown by itself, in any world that meets S, with whatever values those that it does not wait for have left; behind the region all of them hold.
-/
import Derived.Test.YtgndidjfjdaagaaDoorEq
import Derived.Deep.RegionHeld
set_option linter.unusedSimpArgs false
set_option linter.unusedVariables false
set_option linter.unnecessarySimpa false
namespace Go.Proofs.YtgndidjfjdaagaaDoor
open Go.RowKit

section
variable {P : Program} {ops : Array Oper} {Q : Exit → Act → World → Prop}

/-- All values put where they belong. -/
def fillA (V : Nat → Value) : Nat → List Oper → Act → Act
  | _, [], a => a
  | k, o :: os, a => fillA V (k + 1) os (a.put o.dst (V k))

/-- No two write one place. -/
def dstsB : List Oper → Bool
  | [] => true
  | o :: os => (match o.dst with | some d => os.all (fun p => p.dst != some d) | none => true) && dstsB os

/-- Nobody waits for one that stands behind. -/
def backB (md : Region.Mode) : Nat → List Oper → Bool
  | _, [] => true
  | k, o :: os => o.after.all (fun e => !Region.binds md e || decide (e.on < k)) && backB md (k + 1) os

theorem put_put (a : Act) (d : Option Tmp) (x v : Value) : (a.put d x).put d v = a.put d v := by
  cases d with
  | none => rfl
  | some d => simp [Act.put]

theorem put_self (a : Act) (d : Tmp) : a.put (some d) (a.tmps.getD d undef) = a := by
  cases a with
  | mk t f =>
    simp only [Act.put]
    congr 1
    apply Array.ext_getElem?
    intro i
    rw [Array.getElem?_setIfInBounds]
    split
    · rename_i h
      subst h
      split
      · rename_i h2; simp [h2]
      · rename_i h2; simp at h2; rw [Array.getElem?_eq_none h2]
    · rfl

theorem fillA_congr {V W : Nat → Value} : ∀ (os : List Oper) (k : Nat) (a : Act), (∀ j, k ≤ j → V j = W j) → fillA V k os a = fillA W k os a
  | [], _, _, _ => rfl
  | o :: os, k, a, h => by
    simp only [fillA]
    rw [h k (Nat.le_refl _)]
    exact fillA_congr os (k + 1) _ (fun j hj => h j (by omega))

theorem fillA_put_out {V : Nat → Value} {d : Option Tmp} {v : Value} : ∀ (os : List Oper) (k : Nat) (a : Act), (∀ x, d = some x → os.all (fun p => p.dst != some x) = true) → fillA V k os (a.put d v) = (fillA V k os a).put d v
  | [], _, _, _ => rfl
  | o :: os, k, a, h => by
    simp only [fillA]
    rw [Act.put_comm a v (V k) (x := d) (y := o.dst) (fun x hx => by have := h x hx; simp at this; exact this.1)]
    exact fillA_put_out os (k + 1) _ (fun x hx => by have := h x hx; simp at this ⊢; exact this.2)

/-- One value more. -/
def upd (V : Nat → Value) (i : Nat) (v : Value) : Nat → Value := fun j => if j = i then v else V j

theorem fillA_upd {V : Nat → Value} {v : Value} : ∀ (os : List Oper) (k i : Nat) (a : Act) (o : Oper), dstsB os = true → os[i]? = some o → fillA (upd V (k + i) v) k os a = (fillA V k os a).put o.dst v
  | [], _, _, _, _, _, h => by simp at h
  | p :: os, k, 0, a, o, hd, h => by
    simp at h
    subst h
    simp only [fillA]
    have e : upd V (k + 0) v k = v := by simp [upd]
    rw [e, fillA_congr (W := V) os (k + 1) _ (fun j hj => by simp [upd]; omega), ← fillA_put_out os (k + 1) _ (fun x hx => by simp [dstsB, hx] at hd; simpa using hd.1), put_put]
  | p :: os, k, i + 1, a, o, hd, h => by
    simp at h
    simp only [fillA]
    have e : upd V (k + (i + 1)) v k = V k := by simp [upd]
    rw [e]
    have := fillA_upd (V := V) (v := v) os (k + 1) i (a.put p.dst (V k)) o (by simp [dstsB] at hd; exact hd.2) h
    rw [← this]
    congr 1
    simp [Nat.add_assoc, Nat.add_comm 1 i]

theorem fillA_self {V : Nat → Value} {a : Act} : ∀ (os : List Oper) (k : Nat), (∀ i o d, os[i]? = some o → o.dst = some d → V (k + i) = a.tmps.getD d undef) → fillA V k os a = a
  | [], _, _ => rfl
  | o :: os, k, h => by
    simp only [fillA]
    have e : a.put o.dst (V k) = a := by
      cases hd : o.dst with
      | none => rfl
      | some d => rw [show V k = a.tmps.getD d undef from h 0 o d (by simp) hd, put_self]
    rw [e]
    exact fillA_self os (k + 1) (fun i o d ho hd => by
      have := h (i + 1) o d (by simpa using ho) hd
      rwa [show k + (i + 1) = k + 1 + i by omega] at this)

/-- Which an operation waits for, near or far. -/
def priorB (md : Region.Mode) (ops : Array Oper) : Nat → Nat → Nat → Bool
  | 0, _, _ => false
  | f + 1, i, j => match ops[i]? with
    | none => false
    | some o => (o.after.any fun e => Region.binds md e && e.on == j) || o.after.any fun e => Region.binds md e && priorB md ops f e.on j

theorem prior_closed {md : Region.Mode} {L : Nat → Prop} (hc : ∀ i o, L i → ops[i]? = some o → ∀ e ∈ o.after, Region.binds md e = true → L e.on) :
    ∀ (f i j : Nat) (o : Oper), ops[i]? = some o → (∀ e ∈ o.after, Region.binds md e = true → L e.on) → priorB md ops f i j = true → L j
  | 0, _, _, _, _, _, h => by simp [priorB] at h
  | f + 1, i, j, o, ho, hl, h => by
    simp only [priorB, ho, Bool.or_eq_true] at h
    rcases h with h | h
    · obtain ⟨e, he, hb⟩ := Array.any_eq_true'.1 h
      simp only [Bool.and_eq_true, beq_iff_eq] at hb
      rw [← hb.2]
      exact hl e he hb.1
    · obtain ⟨e, he, hb⟩ := Array.any_eq_true'.1 h
      simp only [Bool.and_eq_true] at hb
      have hL := hl e he hb.1
      cases hk : ops[e.on]? with
      | none =>
        have hp := hb.2
        cases f <;> simp [priorB, hk] at hp
      | some p => exact prior_closed hc f e.on j p hk (hc e.on p hL hk) hb.2

theorem countP_lt {α : Type} {p q : α → Bool} (hpq : ∀ x, q x = true → p x = true) {i : α} (hp : p i = true) (hq : q i = false) : ∀ l : List α, i ∈ l → l.countP q < l.countP p
  | [], h => by cases h
  | x :: l, h => by
    have hle : l.countP q ≤ l.countP p := List.countP_mono_left (fun x _ => hpq x)
    simp only [List.countP_cons]
    rcases List.mem_cons.1 h with rfl | h
    · simp [hp, hq]; omega
    · have := countP_lt hpq hp hq l h
      by_cases hx : q x = true
      · simp [hx, hpq x hx]; omega
      · simp [hx]
        split <;> omega

theorem backB_spec {md : Region.Mode} : ∀ (os : List Oper) (k : Nat), backB md k os = true → ∀ i o, os[i]? = some o → ∀ e ∈ o.after, Region.binds md e = true → e.on < k + i
  | [], _, _, i, o, h, _, _, _ => by simp at h
  | p :: os, k, hb, 0, o, h, e, he, hbd => by
    simp at h
    subst h
    simp only [backB, Bool.and_eq_true] at hb
    have := Array.all_eq_true_iff_forall_mem.1 hb.1 e he
    simpa [hbd] using this
  | p :: os, k, hb, i + 1, o, h, e, he, hbd => by
    simp only [backB, Bool.and_eq_true] at hb
    have := backB_spec os (k + 1) hb.2 i o (by simpa using h) e he hbd
    omega

/-- A value that an operation leaves may be eaten by one that waits for it (kill i: what operation i eats). Whom op i finds alive. -/
def aliveB (md : Region.Mode) (ops : Array Oper) (kill : Nat → List Nat) (i j : Nat) : Bool :=
  (List.range ops.size).all fun k => !(kill k).contains j || k == i || priorB md ops ops.size k i

/-- May operation i come behind operation j and leave what j left? -/
def mayB (md : Region.Mode) (ops : Array Oper) (kill : Nat → List Nat) (i j : Nat) : Bool := !(kill i).contains j && i != j && !priorB md ops ops.size j i

variable {md : Region.Mode} {a0 : Act} {S : World → Prop} {E : Nat → World → World → Prop} {Y : Nat → Value → (Nat → Value) → World → Prop} {kill : Nat → List Nat}

theorem wpAny_sure (hdst : dstsB ops.toList = true) (hback : backB md 0 ops.toList = true)
    (hY : ∀ i j v V w w', mayB md ops kill i j = true → E i w w' → Y j v V w → Y j v V w')
    (hYV : ∀ j v V V' w, (∀ k, priorB md ops ops.size j k = true → V k = V' k) → Y j v V w → Y j v V' w)
    (hstep : ∀ i o, ops[i]? = some o → ∀ V w, S w → (∀ j, priorB md ops ops.size i j = true → aliveB md ops kill i j = true → Y j (V j) V w) →
      wpOp P ops Q i (fun a' w' => S w' ∧ E i w w' ∧ ∃ v, a' = (fillA V 0 ops.toList a0).put o.dst v ∧ Y i v V w') (fillA V 0 ops.toList a0) w)
    (hend : ∀ V w, S w → (∀ i, i < ops.size → (∀ k, k < ops.size → (kill k).contains i = false) → Y i (V i) V w) → Q .normal (fillA V 0 ops.toList a0) w) :
    ∀ (fuel : Nat) (listed : Array Bool) (V : Nat → Value) (w : World), listed.size = ops.size → (List.range ops.size).countP (fun i => !listed.getD i false) ≤ fuel → S w →
      (∀ i o, listed.getD i false = true → ops[i]? = some o → ∀ e ∈ o.after, Region.binds md e = true → listed.getD e.on false = true) →
      (∀ i, listed.getD i false = true → (∀ k, listed.getD k false = true → (kill k).contains i = false) → Y i (V i) V w) → wpAny P md ops Q fuel listed (fillA V 0 ops.toList a0) w := by
  have lt : ∀ (listed : Array Bool) k, listed.size = ops.size → listed.getD k false = true → k < ops.size := by
    intro listed k hsz hk
    apply Classical.byContradiction
    intro hn
    simp [Array.getD, show ¬ k < listed.size by omega] at hk
  have fin : ∀ (listed : Array Bool) (V : Nat → Value) (w : World), listed.size = ops.size → S w → (∀ i, listed.getD i false = true → (∀ k, listed.getD k false = true → (kill k).contains i = false) → Y i (V i) V w) → Region.ready md ops listed = [] → Q .normal (fillA V 0 ops.toList a0) w := by
    intro listed V w hsz hS hl hr
    have all : ∀ i, i < ops.size → listed.getD i false = true := by
      intro i
      induction i using Nat.strongRecOn with
      | _ i ih =>
        intro hi
        apply Classical.byContradiction
        intro hn
        have ho : ops[i]? = some ops[i] := Array.getElem?_eq_getElem hi
        have : i ∈ Region.ready md ops listed := mem_ready.2 ⟨by
          have hi' : i < listed.size := by omega
          simp [hi'] at hn ⊢
          exact hn, ops[i], ho, fun e he hb => ih e.on (by
            have := backB_spec ops.toList 0 hback i ops[i] (by simpa using ho) e he hb
            omega) (by
            have := backB_spec ops.toList 0 hback i ops[i] (by simpa using ho) e he hb
            omega)⟩
        rw [hr] at this
        cases this
    exact hend V w hS (fun i hi hk => hl i (all i hi) (fun k hk' => hk k (lt listed k hsz hk')))
  intro fuel
  induction fuel with
  | zero =>
    intro listed V w hsz hc hS hcl hl
    have hr : Region.ready md ops listed = [] := by
      apply List.eq_nil_iff_forall_not_mem.2
      intro i hi
      obtain ⟨h1, o, h2, _⟩ := mem_ready.1 hi
      have hi' : i < ops.size := (Array.getElem?_eq_some_iff.1 h2).1
      have h0 : (List.range ops.size).countP (fun i => !listed.getD i false) = 0 := by omega
      have := List.countP_eq_zero.1 h0 i (List.mem_range.2 hi')
      have hi'' : i < listed.size := by omega
      simp [hi''] at this h1
      rw [this] at h1
      cases h1
    exact ⟨hr, fin listed V w hsz hS hl hr⟩
  | succ fuel ih =>
    intro listed V w hsz hc hS hcl hl
    refine ⟨fin listed V w hsz hS hl, fun i hi => ?_⟩
    obtain ⟨h1, o, h2, h3⟩ := mem_ready.1 hi
    have hi' : i < ops.size := (Array.getElem?_eq_some_iff.1 h2).1
    have hi'' : i < listed.size := by omega
    refine wpOp_mono (fun a' w' h => ?_) (hstep i o h2 V w hS (fun j hj ha => hl j (prior_closed (L := fun j => listed.getD j false = true) hcl _ i j o h2 h3 hj) (fun k hk => by
      have := List.all_eq_true.1 ha k (List.mem_range.2 (lt listed k hsz hk))
      simp only [Bool.or_eq_true, Bool.not_eq_true', beq_iff_eq] at this
      rcases this with (this | this) | this
      · exact this
      · subst this
        simp [hi''] at h1 hk
        rw [h1] at hk
        cases hk
      · have hko : ops[k]? = some (ops[k]'(lt listed k hsz hk)) := Array.getElem?_eq_getElem (lt listed k hsz hk)
        have := prior_closed (L := fun j => listed.getD j false = true) hcl _ k i _ hko (hcl k _ hk hko) this
        simp [hi''] at h1 this
        rw [h1] at this
        cases this)))
    obtain ⟨hS', hE, v, rfl, hv⟩ := h
    have ef := fillA_upd (V := V) (v := v) ops.toList 0 i a0 o hdst (by simpa using h2)
    rw [Nat.zero_add] at ef
    rw [← ef]
    have hne : ∀ j, j ≠ i → (listed.setIfInBounds i true).getD j false = listed.getD j false := fun j hj => by
      simp only [Array.getD_eq_getD_getElem?, Array.getElem?_setIfInBounds_ne (Ne.symm hj)]
    have heq : (listed.setIfInBounds i true).getD i false = true := by simp [hi'']
    refine ih _ _ _ (by simp [hsz]) ?_ hS' ?_ ?_
    · have := countP_lt (p := fun i => !listed.getD i false) (q := fun j => !(listed.setIfInBounds i true).getD j false) (i := i) (fun x hx => by
        by_cases hxi : x = i
        · subst hxi; simp [heq] at hx
        · rw [hne x hxi] at hx; exact hx) (by
        simp [hi''] at h1 ⊢; exact h1) (by simp [heq]) (List.range ops.size) (List.mem_range.2 hi')
      omega
    · intro k p hk hp e he hb
      by_cases hek : e.on = i
      · rw [hek]; exact heq
      · rw [hne _ hek]
        by_cases hki : k = i
        · subst hki
          rw [h2] at hp
          cases hp
          exact h3 e he hb
        · rw [hne k hki] at hk
          exact hcl k p hk hp e he hb
    · intro j hj hkl
      by_cases hji : j = i
      · subst hji
        have e0 : upd V j v j = v := by simp [upd]
        rw [e0]
        refine hYV j v V _ _ (fun k hk => ?_) hv
        have hkp : listed.getD k false = true := prior_closed (L := fun j => listed.getD j false = true) hcl _ j k o h2 h3 hk
        have hkj : k ≠ j := by
          intro he
          subst he
          simp [hi''] at h1 hkp
          rw [h1] at hkp
          cases hkp
        simp [upd, hkj]
      · rw [hne j hji] at hj
        have h5 : Y j (V j) V w := hl j hj (fun k hk => hkl k (by
          by_cases hki : k = i
          · rw [hki]; exact heq
          · rw [hne k hki]; exact hk))
        have hp : priorB md ops ops.size j i = false := by
          apply Classical.byContradiction
          intro hn
          have hn' : priorB md ops ops.size j i = true := by simpa using hn
          have hjo : ops[j]? = some (ops[j]'(lt listed j hsz hj)) := Array.getElem?_eq_getElem (lt listed j hsz hj)
          have := prior_closed (L := fun j => listed.getD j false = true) hcl _ j i _ hjo (hcl j _ hj hjo) hn'
          simp [hi''] at h1 this
          rw [h1] at this
          cases this
        have e0 : upd V i v j = V j := by simp [upd, hji]
        rw [e0]
        refine hYV j _ V _ _ (fun k hk => ?_) (hY i j _ _ _ _ (by simp [mayB, hp, Ne.symm hji]; simpa using hkl i heq) hE h5)
        have hki : k ≠ i := by
          rintro rfl
          rw [hp] at hk
          cases hk
        simp [upd, hki]

/-- Each operation by itself. -/
def StepsOk (P : Program) (md : Region.Mode) (ops : Array Oper) (Q : Exit → Act → World → Prop) (F : (Nat → Value) → Act) (S : World → Prop) (E : Nat → World → World → Prop) (kill : Nat → List Nat) (Y : Nat → Value → (Nat → Value) → World → Prop) : Nat → List Oper → Prop
  | _, [] => True
  | i, o :: os => (∀ V w, S w → Shut (∀ j, (priorB md ops ops.size i j && aliveB md ops kill i j) = true → Y j (V j) V w) → ∀ K' : Act → World → Prop, Shut (∀ v w', S w' → E i w w' → Y i v V w' → K' ((F V).put o.dst v) w') →
      if Region.wanted o (yielded ops (F V).tmps) = true then Oper.wp P o (F V) w K' Q else K' ((F V).put o.dst undef) w) ∧ StepsOk P md ops Q F S E kill Y (i + 1) os

theorem StepsOk.cons {F : (Nat → Value) → Act} {i : Nat} {o : Oper} {os : List Oper} (h : ∀ V w, S w → Shut (∀ j, (priorB md ops ops.size i j && aliveB md ops kill i j) = true → Y j (V j) V w) → ∀ K' : Act → World → Prop, Shut (∀ v w', S w' → E i w w' → Y i v V w' → K' ((F V).put o.dst v) w') →
      if Region.wanted o (yielded ops (F V).tmps) = true then Oper.wp P o (F V) w K' Q else K' ((F V).put o.dst undef) w) (hs : StepsOk P md ops Q F S E kill Y (i + 1) os) : StepsOk P md ops Q F S E kill Y i (o :: os) := ⟨h, hs⟩

theorem StepsOk.nil {F : (Nat → Value) → Act} {i : Nat} : StepsOk P md ops Q F S E kill Y i [] := trivial

theorem StepsOk.at {F : (Nat → Value) → Act} : ∀ (os : List Oper) (k : Nat), StepsOk P md ops Q F S E kill Y k os → ∀ i o, os[i]? = some o → ∀ V w, S w → (∀ j, (priorB md ops ops.size (k + i) j && aliveB md ops kill (k + i) j) = true → Y j (V j) V w) → ∀ K' : Act → World → Prop, (∀ v w', S w' → E (k + i) w w' → Y (k + i) v V w' → K' ((F V).put o.dst v) w') →
      if Region.wanted o (yielded ops (F V).tmps) = true then Oper.wp P o (F V) w K' Q else K' ((F V).put o.dst undef) w
  | [], _, _, i, _, h => by simp at h
  | p :: os, k, h, 0, o, ho => by
    simp at ho
    subst ho
    exact fun V w hS hD K' hK => h.1 V w hS hD K' hK
  | p :: os, k, h, i + 1, o, ho => by
    have := StepsOk.at os (k + 1) h.2 i o (by simpa using ho)
    rwa [show k + 1 + i = k + (i + 1) by omega] at this

/-- What each operation leaves, as a list: of its value, of the values of those that it waits for, of the world. -/
def yAt : List (Value → (Nat → Value) → World → Prop) → Nat → Value → (Nat → Value) → World → Prop
  | [], _, _, _, _ => True
  | p :: _, 0, v, V, w => p v V w
  | _ :: l, i + 1, v, V, w => yAt l i v V w

/-- It is this value, whatever the world. -/
def yEq (x : Value) : Value → (Nat → Value) → World → Prop := fun v _ _ => v = x
/-- It hangs on no other value. -/
def yW (p : Value → World → Prop) : Value → (Nat → Value) → World → Prop := fun v _ w => p v w

/-- Each is kept by all that may come behind and do not eat it. -/
def yKeep (md : Region.Mode) (ops : Array Oper) (E : Nat → World → World → Prop) (kill : Nat → List Nat) : Nat → List (Value → (Nat → Value) → World → Prop) → Prop
  | _, [] => True
  | j, p :: l => ((∀ i v V w w', mayB md ops kill i j = true → E i w w' → p v V w → p v V w') ∧ (∀ v V V' w, (∀ k, priorB md ops ops.size j k = true → V k = V' k) → p v V w → p v V' w)) ∧ yKeep md ops E kill (j + 1) l

theorem yKeep.nil {j : Nat} : yKeep md ops E kill j [] := trivial
theorem yKeep.eq {x : Value} {j : Nat} {l : List (Value → (Nat → Value) → World → Prop)} (h : yKeep md ops E kill (j + 1) l) : yKeep md ops E kill j (yEq x :: l) := ⟨⟨fun _ _ _ _ _ _ _ h => h, fun _ _ _ _ _ h => h⟩, h⟩
theorem yKeep.cons {p : Value → World → Prop} {j : Nat} {l : List (Value → (Nat → Value) → World → Prop)} (hp : ∀ i v w w', mayB md ops kill i j = true → E i w w' → p v w → p v w') (h : yKeep md ops E kill (j + 1) l) : yKeep md ops E kill j (yW p :: l) :=
  ⟨⟨fun i v _ w w' h1 h2 h3 => hp i v w w' h1 h2 h3, fun _ _ _ _ _ h => h⟩, h⟩
theorem yKeep.link {p : Value → (Nat → Value) → World → Prop} {j : Nat} {l : List (Value → (Nat → Value) → World → Prop)} (hp : ∀ i v V w w', mayB md ops kill i j = true → E i w w' → p v V w → p v V w')
    (hv : ∀ v V V' w, (∀ k, priorB md ops ops.size j k = true → V k = V' k) → p v V w → p v V' w) (h : yKeep md ops E kill (j + 1) l) : yKeep md ops E kill j (p :: l) := ⟨⟨hp, hv⟩, h⟩

theorem yKeep.at : ∀ (l : List (Value → (Nat → Value) → World → Prop)) (k : Nat), yKeep md ops E kill k l → ∀ i j v V w w', mayB md ops kill i (k + j) = true → E i w w' → yAt l j v V w → yAt l j v V w'
  | [], _, _, _, _, _, _, _, _, _, _, _ => trivial
  | p :: l, k, h, i, 0, v, V, w, w', hk, hE, hy => h.1.1 i v V w w' hk hE hy
  | p :: l, k, h, i, j + 1, v, V, w, w', hk, hE, hy => yKeep.at l (k + 1) h.2 i j v V w w' (by rw [show k + 1 + j = k + (j + 1) by omega]; exact hk) hE hy

theorem yKeep.loc : ∀ (l : List (Value → (Nat → Value) → World → Prop)) (k : Nat), yKeep md ops E kill k l → ∀ j v V V' w, (∀ m, priorB md ops ops.size (k + j) m = true → V m = V' m) → yAt l j v V w → yAt l j v V' w
  | [], _, _, _, _, _, _, _, _, _ => trivial
  | p :: l, k, h, 0, v, V, V', w, hV, hy => h.1.2 v V V' w hV hy
  | p :: l, k, h, j + 1, v, V, V', w, hV, hy => yKeep.loc l (k + 1) h.2 j v V V' w (by rw [show k + 1 + j = k + (j + 1) by omega]; exact hV) hy

/-- **A region that draws its order, once.** S: what holds behind each operation; E i: how a world goes on by operation i; kill i: what operation i eats; Y: what each operation leaves. -/
theorem wp_region_sure {id : Nat} {L : List Oper} {a : Act} {w : World} (S : World → Prop) (E : Nat → World → World → Prop) (kill : Nat → List Nat) (Y : List (Value → (Nat → Value) → World → Prop)) (F : (Nat → Value) → Act)
    (hm : P.follows .mixedOrders = true) (hdst : dstsB L = true) (hback : backB .any 0 L = true) (hF : ∀ V, fillA V 0 L a = F V)
    (hS : S w.drew) (hstep : StepsOk P .any L.toArray Q F S E kill (yAt Y) 0 L) (hY : yKeep .any L.toArray E kill 0 Y)
    (hend : ∀ V w, S w → Shut (∀ i, (decide (i < L.length) && (List.range L.length).all fun k => !(kill k).contains i) = true → yAt Y i (V i) V w) → Q .normal (F V) w) : (Code.region id L.toArray true).wp P Q a w := by
  refine wp_region_any hm ?_
  have hnone : ∀ i, (Array.replicate L.toArray.size false).getD i false = false := fun i => by
    rw [Array.getD_eq_getD_getElem?, Array.getElem?_replicate]
    split <;> rfl
  have h := wpAny_sure (P := P) (ops := L.toArray) (Q := Q) (md := .any) (a0 := a) (S := S) (E := E) (kill := kill) (Y := yAt Y) hdst hback (fun i j v V w w' hk hE hy => yKeep.at Y 0 hY i j v V w w' (by rw [Nat.zero_add]; exact hk) hE hy) (fun j v V V' w hV hy => yKeep.loc Y 0 hY j v V V' w (by rw [Nat.zero_add]; exact hV) hy) (fun i o ho V w hS hD => by
    refine wpOp_step ho (fun K' hK => ?_)
    have hF' : fillA V 0 L.toArray.toList a = F V := hF V
    rw [hF'] at hK ⊢
    have := StepsOk.at L 0 hstep i o (by simpa using ho) V w hS (by
      intro j hj
      rw [Nat.zero_add, Bool.and_eq_true] at hj
      exact hD j hj.1 hj.2) K' (fun v w' h1 h2 h3 => hK _ _ ⟨h1, by rw [Nat.zero_add] at h2; exact h2, v, rfl, by rw [Nat.zero_add] at h3; exact h3⟩)
    exact this) (fun V w hS hall => by
      have hF' : fillA V 0 L.toArray.toList a = F V := hF V
      rw [hF']; exact hend V w hS (fun i hi => by
        simp only [Bool.and_eq_true, decide_eq_true_eq, List.all_eq_true, List.mem_range, Bool.not_eq_true'] at hi
        exact hall i (by simpa using hi.1) (fun k hk => hi.2 k (by simpa using hk)))) L.toArray.size (Array.replicate L.toArray.size false) (fun k => match L[k]? with | some o => (match o.dst with | some d => a.tmps.getD d undef | none => undef) | none => undef) w.drew
    (by simp) (by
      have := List.countP_le_length (p := fun i => !(Array.replicate L.toArray.size false).getD i false) (l := List.range L.toArray.size)
      simpa using this) hS (fun i o h => by
      rw [hnone i] at h
      cases h) (fun i h => by
      rw [hnone i] at h
      cases h)
  rw [fillA_self] at h
  · exact h
  · intro i o d ho hd
    have : L[i]? = some o := by simpa using ho
    simp [this, hd]

theorem mayNot {b : Bool} {p : Prop} (h : b = true) (h' : b = false) : p := by rw [h] at h'; cases h'

theorem sure_val {K : Act → World → Prop} {o : Oper} {a : Act} {w w' : World} {v : Value} {T : Prop} (hw : Region.wanted o (yielded ops a.tmps) = true) (hr : (execOp a.eval o).run P w = .ok (.value v) w') (h : K (a.put o.dst v) w') :
    if Region.wanted o (yielded ops a.tmps) = true then Oper.wp P o a w K Q else T := by
  rw [if_pos hw]
  unfold Oper.wp
  rw [hr]
  exact h

theorem sure_skip {K : Act → World → Prop} {o : Oper} {a : Act} {w w' : World} {T : Prop} (hw : Region.wanted o (yielded ops a.tmps) = true) (hr : (execOp a.eval o).run P w = .ok .skip w') (h : K (a.put o.dst undef) w') :
    if Region.wanted o (yielded ops a.tmps) = true then Oper.wp P o a w K Q else T := by
  rw [if_pos hw]
  unfold Oper.wp
  rw [hr]
  exact h

theorem sure_not {K : Act → World → Prop} {o : Oper} {a : Act} {w : World} {T : Prop} (hw : Region.wanted o (yielded ops a.tmps) = false) (h : T) :
    if Region.wanted o (yielded ops a.tmps) = true then Oper.wp P o a w K Q else T := by
  rw [if_neg (by rw [hw]; exact Bool.false_ne_true)]
  exact h

theorem sure_call {K : Act → World → Prop} {o : Oper} {a : Act} {w : World} {T : Prop} {f : FuncId} {args : Array Value} {R : Ending → World → Prop} (hw : Region.wanted o (yielded ops a.tmps) = true) (hr : (execOp a.eval o).run P w = .ok (.enter f args) w)
    (hc : Calls P f args w R) (h : ∀ e w', R e w' → ∃ v, e = .returned v ∧ K (a.put o.dst v) w') :
    if Region.wanted o (yielded ops a.tmps) = true then Oper.wp P o a w K Q else T := by
  rw [if_pos hw]
  unfold Oper.wp
  rw [hr]
  refine hc.mono ?_
  intro e w' hR
  obtain ⟨v, rfl, hK⟩ := h e w' hR
  exact hK
theorem su_load_blk {K : Act → World → Prop} {o : Oper} {a : Act} {w : World} {T : Prop} {t t' : TypeId} {x : Operand} {g : Nat} {L : List Value} (hb : Blk w g L t') (hu : (P.underlying t).map (·.isRow) = some true) (hi : (P.info? t).map (·.size) = some L.length)
    (hw : Region.wanted o (yielded ops a.tmps) = true) (hop : o.op = .load t x) (hx : a.eval x = .pointer (some ⟨g, 0, none⟩)) (h : K (a.put o.dst (.agg L.toArray)) w) :
    if Region.wanted o (yielded ops a.tmps) = true then Oper.wp P o a w K Q else T := by
  obtain ⟨d, hu', hd⟩ := Option.map_eq_some_iff.1 hu
  rw [if_pos hw]
  exact wp_load_mid t x hop g 0 hx L d (fun j v hj => by rw [Nat.zero_add, hb.cell]; exact hj) hu' hd hi h

theorem su_load_part {K : Act → World → Prop} {o : Oper} {a : Act} {w : World} {T : Prop} {t t' : TypeId} {x : Operand} {g n : Nat} {A L B : List Value} (hb : Blk w g (A ++ L ++ B) t') (hn : n = A.length) (hu : (P.underlying t).map (·.isRow) = some true) (hi : (P.info? t).map (·.size) = some L.length)
    (hw : Region.wanted o (yielded ops a.tmps) = true) (hop : o.op = .load t x) (hx : a.eval x = .pointer (some ⟨g, n, none⟩)) (h : K (a.put o.dst (.agg L.toArray)) w) :
    if Region.wanted o (yielded ops a.tmps) = true then Oper.wp P o a w K Q else T := by
  obtain ⟨d, hu', hd⟩ := Option.map_eq_some_iff.1 hu
  rw [if_pos hw]
  exact wp_load_mid t x hop g n hx L d (fun j v hj => by
    rw [hb.cell, hn, List.append_assoc, List.getElem?_append_right (Nat.le_add_right _ _), Nat.add_sub_cancel_left]
    have hl : j < L.length := (List.getElem?_eq_some_iff.1 hj).1
    rw [List.getElem?_append_left hl]
    exact hj) hu' hd hi h

theorem su_load_cell {K : Act → World → Prop} {o : Oper} {a : Act} {w : World} {T : Prop} {t : TypeId} {x : Operand} {v : Value} {p : Addr} (hc : w.cell? p = some v) (hr : (Instr.loadAt t (.pointer (some p))).run P w = .ok v w)
    (hw : Region.wanted o (yielded ops a.tmps) = true) (hop : o.op = .load t x) (hx : a.eval x = .pointer (some p)) (h : K (a.put o.dst v) w) :
    if Region.wanted o (yielded ops a.tmps) = true then Oper.wp P o a w K Q else T := by
  refine sure_val hw ?_ h
  unfold execOp
  simp only [hop, hx, Sem.run_bind, hr, Result.andThen_ok, Sem.run_pure]
/-- Two structs or rows that are the same ('==' under a guard that lets it by). -/
theorem su_eqt {K : Act → World → Prop} {o : Oper} {a : Act} {w : World} {T : Prop} {t u : TypeId} {x y : Operand} {d : Nat} {ks : List (Option IntKind)} {xs ys : List Value}
    (hk : leaves P d t = some ks) (hd : d ≤ 10000) (hr : (P.underlying t).map (·.isRow) = some true) (hq : P.eqGuardType P.depth t = false) (hx : LF ks xs) (hy : LF ks ys) (hxy : xs = ys)
    (hw : Region.wanted o (yielded ops a.tmps) = true) (hop : o.op = .binOp .eql t x y u) (hvx : a.eval x = .agg xs.toArray) (hvy : a.eval y = .agg ys.toArray) (h : K (a.put o.dst (.bool true)) w) :
    if Region.wanted o (yielded ops a.tmps) = true then Oper.wp P o a w K Q else T := by
  obtain ⟨r, h1, h2⟩ := eq_leaves w d t ks hk 10000 hd xs ys hx hy
  have hv : ∀ zs, valOf P t zs = .agg zs.toArray := fun zs => by unfold valOf; rw [if_pos hr]
  rw [hv, hv] at h1
  refine sure_val hw ?_ h
  simp [execOp, hop, hvx, hvy, run_eqGuard_agg w .eql t x y xs.toArray ys.toArray hq, run_eql_struct, h1, h2.2 hxy]

theorem su_eqf {K : Act → World → Prop} {o : Oper} {a : Act} {w : World} {T : Prop} {t u : TypeId} {x y : Operand} {d : Nat} {ks : List (Option IntKind)} {xs ys : List Value}
    (hk : leaves P d t = some ks) (hd : d ≤ 10000) (hr : (P.underlying t).map (·.isRow) = some true) (hq : P.eqGuardType P.depth t = false) (hx : LF ks xs) (hy : LF ks ys) (hxy : xs ≠ ys)
    (hw : Region.wanted o (yielded ops a.tmps) = true) (hop : o.op = .binOp .eql t x y u) (hvx : a.eval x = .agg xs.toArray) (hvy : a.eval y = .agg ys.toArray) (h : K (a.put o.dst (.bool false)) w) :
    if Region.wanted o (yielded ops a.tmps) = true then Oper.wp P o a w K Q else T := by
  obtain ⟨r, h1, h2⟩ := eq_leaves w d t ks hk 10000 hd xs ys hx hy
  have hv : ∀ zs, valOf P t zs = .agg zs.toArray := fun zs => by unfold valOf; rw [if_pos hr]
  rw [hv, hv] at h1
  have hr' : r = false := by
    cases r with
    | false => rfl
    | true => exact absurd (h2.1 rfl) hxy
  subst hr'
  refine sure_val hw ?_ h
  simp [execOp, hop, hvx, hvy, run_eqGuard_agg w .eql t x y xs.toArray ys.toArray hq, run_eql_struct, h1]

theorem su_net {K : Act → World → Prop} {o : Oper} {a : Act} {w : World} {T : Prop} {t u : TypeId} {x y : Operand} {d : Nat} {ks : List (Option IntKind)} {xs ys : List Value}
    (hk : leaves P d t = some ks) (hd : d ≤ 10000) (hr : (P.underlying t).map (·.isRow) = some true) (hq : P.eqGuardType P.depth t = false) (hx : LF ks xs) (hy : LF ks ys) (hxy : xs ≠ ys)
    (hw : Region.wanted o (yielded ops a.tmps) = true) (hop : o.op = .binOp .neq t x y u) (hvx : a.eval x = .agg xs.toArray) (hvy : a.eval y = .agg ys.toArray) (h : K (a.put o.dst (.bool true)) w) :
    if Region.wanted o (yielded ops a.tmps) = true then Oper.wp P o a w K Q else T := by
  obtain ⟨r, h1, h2⟩ := eq_leaves w d t ks hk 10000 hd xs ys hx hy
  have hv : ∀ zs, valOf P t zs = .agg zs.toArray := fun zs => by unfold valOf; rw [if_pos hr]
  rw [hv, hv] at h1
  have hr' : r = false := by
    cases r with
    | false => rfl
    | true => exact absurd (h2.1 rfl) hxy
  subst hr'
  refine sure_val hw ?_ h
  simp [execOp, hop, hvx, hvy, run_eqGuard_agg w .neq t x y xs.toArray ys.toArray hq, run_neq_struct, h1]

theorem su_nef {K : Act → World → Prop} {o : Oper} {a : Act} {w : World} {T : Prop} {t u : TypeId} {x y : Operand} {d : Nat} {ks : List (Option IntKind)} {xs ys : List Value}
    (hk : leaves P d t = some ks) (hd : d ≤ 10000) (hr : (P.underlying t).map (·.isRow) = some true) (hq : P.eqGuardType P.depth t = false) (hx : LF ks xs) (hy : LF ks ys) (hxy : xs = ys)
    (hw : Region.wanted o (yielded ops a.tmps) = true) (hop : o.op = .binOp .neq t x y u) (hvx : a.eval x = .agg xs.toArray) (hvy : a.eval y = .agg ys.toArray) (h : K (a.put o.dst (.bool false)) w) :
    if Region.wanted o (yielded ops a.tmps) = true then Oper.wp P o a w K Q else T := by
  obtain ⟨r, h1, h2⟩ := eq_leaves w d t ks hk 10000 hd xs ys hx hy
  have hv : ∀ zs, valOf P t zs = .agg zs.toArray := fun zs => by unfold valOf; rw [if_pos hr]
  rw [hv, hv] at h1
  refine sure_val hw ?_ h
  simp [execOp, hop, hvx, hvy, run_eqGuard_agg w .neq t x y xs.toArray ys.toArray hq, run_neq_struct, h1, h2.2 hxy]
/-- Two structs or rows, compared: r tells what comes out. -/
theorem su_eql {K : Act → World → Prop} {o : Oper} {a : Act} {w : World} {T : Prop} {t u : TypeId} {x y : Operand} {d : Nat} {ks : List (Option IntKind)} {xs ys : List Value} {r : Bool}
    (hk : leaves P d t = some ks) (hd : d ≤ 10000) (hr : (P.underlying t).map (·.isRow) = some true) (hq : P.eqGuardType P.depth t = false) (hx : LF ks xs) (hy : LF ks ys) (hxy : r = true ↔ xs = ys)
    (hw : Region.wanted o (yielded ops a.tmps) = true) (hop : o.op = .binOp .eql t x y u) (hvx : a.eval x = .agg xs.toArray) (hvy : a.eval y = .agg ys.toArray) (h : K (a.put o.dst (.bool r)) w) :
    if Region.wanted o (yielded ops a.tmps) = true then Oper.wp P o a w K Q else T := by
  by_cases e : xs = ys
  · rw [hxy.2 e] at h
    exact su_eqt hk hd hr hq hx hy e hw hop hvx hvy h
  · have : r = false := by
      cases r with
      | false => rfl
      | true => exact absurd (hxy.1 rfl) e
    rw [this] at h
    exact su_eqf hk hd hr hq hx hy e hw hop hvx hvy h

theorem su_neq {K : Act → World → Prop} {o : Oper} {a : Act} {w : World} {T : Prop} {t u : TypeId} {x y : Operand} {d : Nat} {ks : List (Option IntKind)} {xs ys : List Value} {r : Bool}
    (hk : leaves P d t = some ks) (hd : d ≤ 10000) (hr : (P.underlying t).map (·.isRow) = some true) (hq : P.eqGuardType P.depth t = false) (hx : LF ks xs) (hy : LF ks ys) (hxy : r = true ↔ xs ≠ ys)
    (hw : Region.wanted o (yielded ops a.tmps) = true) (hop : o.op = .binOp .neq t x y u) (hvx : a.eval x = .agg xs.toArray) (hvy : a.eval y = .agg ys.toArray) (h : K (a.put o.dst (.bool r)) w) :
    if Region.wanted o (yielded ops a.tmps) = true then Oper.wp P o a w K Q else T := by
  by_cases e : xs = ys
  · have : r = false := by
      cases r with
      | false => rfl
      | true => exact absurd e (hxy.1 rfl)
    rw [this] at h
    exact su_nef hk hd hr hq hx hy e hw hop hvx hvy h
  · rw [hxy.2 e] at h
    exact su_net hk hd hr hq hx hy e hw hop hvx hvy h
theorem su_build {K : Act → World → Prop} {o : Oper} {a : Act} {w : World} {T : Prop} {t : TypeId} {parts : List (Nat × Operand)} {PL : List (Nat × Value)} {L : List Value} (hb : P.built t PL = some L.toArray)
    (hw : Region.wanted o (yielded ops a.tmps) = true) (hop : o.op = .build t parts.toArray) (hp : parts.map (fun p => (p.1, a.eval p.2)) = PL) (h : K (a.put o.dst (.agg L.toArray)) w) :
    if Region.wanted o (yielded ops a.tmps) = true then Oper.wp P o a w K Q else T := by
  subst hp
  refine sure_val hw ?_ h
  have := run_build (P := P) w t (parts.map (fun p => (p.1, a.eval p.2))).toArray L.toArray (by simpa using hb)
  simp [execOp, hop, this]
/-- A law of a plain region's one operation serves as a step. -/
def onlyK (K : Act → World → Prop) : Exit → Act → World → Prop
  | .normal, a, w => K a w
  | _, _, _ => False

theorem suN {K : Act → World → Prop} {a : Act} {w : World} (h : K a w) : wpList P ops (onlyK K) [] a w := h

theorem su {K : Act → World → Prop} {o : Oper} {a : Act} {w : World} (h : wpList P ops (onlyK K) [o] a w) : if Region.wanted o (yielded ops a.tmps) = true then Oper.wp P o a w K Q else K (a.put o.dst undef) w := by
  have hlo : ¬ LetsOut (onlyK K) := by
    rintro ⟨_, _, h⟩
    exact h
  simp only [wpList] at h
  split at h
  · rename_i hw
    rw [if_pos hw]
    rcases h with h | ⟨_, h⟩
    · unfold Oper.wp at h ⊢
      revert h
      cases (execOp a.eval o).run P w with
      | ok nx w' =>
        cases nx with
        | value v => exact fun h => h
        | skip => exact fun h => h
        | defer d => exact fun h => h
        | enter f args =>
          intro h
          refine Calls.mono h ?_
          intro e w2 hq
          cases e with
          | returned v => exact hq
          | panicked c => exact hq.elim
          | outgrown => exact absurd hq hlo
        | row row args => exact fun h => h
        | _ => intro h; exact h.elim
      | halt s w' =>
        cases s <;> intro h <;> exact h.elim
    · exact absurd h hlo
  · rename_i hw
    rw [if_neg hw]
    exact h
end
end Go.Proofs.YtgndidjfjdaagaaDoor
