/-
  The walk of the law TagOne.
-/
import Derived.Test.YtgndidjfjdaagaaAlive03
set_option linter.unusedSimpArgs false
set_option linter.unusedVariables false
namespace Go.Proofs.Ytgndidjfjdaagaa
open Go.RowKit

theorem great_no {ls : List (List UInt8)} (h : great ls = false) : lens ls ≤ 3000 ∧ ∀ l ∈ ls, l.length ≤ 300 := by
  unfold great at h
  rw [Bool.or_eq_false_iff] at h
  have h1 : ls.length ≤ 8 := by have := h.1; simp at this; exact this
  have h2 : ∀ l ∈ ls, l.length ≤ 300 := by have := h.2; simpa using this
  refine ⟨?_, h2⟩
  have : ∀ ms : List (List UInt8), (∀ l ∈ ms, l.length ≤ 300) → lens ms ≤ 304 * ms.length := by
    intro ms
    induction ms with
    | nil => intro _; simp [lens]
    | cons x xs ih =>
      intro hm
      have := ih (fun l hl => hm l (by simp [hl]))
      have := hm x (by simp)
      simp only [lens, List.map_cons, List.sum_cons, List.length_cons] at *
      omega
  have := this ls h2
  omega

set_option maxRecDepth 100000 in
set_option maxHeartbeats 4000000 in
theorem w_TagOne {w : World} (a : UInt8) {v u : Value} {ls ms : List (List UInt8)} (h : RdS w 0 w.heap.size v ls) (b : UInt8) (k : RdS w 0 w.heap.size u ms) :
    Calls Try.prog 6 #[.int .u8 (a.toNat : Int), v, .int .u8 (b.toNat : Int), u] w fun e w' => e = .returned (.bool true) ∧ Fr 0 0 w w' := by
  obtain ⟨a1, cap1, rfl, _⟩ := h.form
  obtain ⟨a2, cap2, rfl, _⟩ := k.form
  obtain ⟨G1, hG1⟩ : ∃ G, G = great ls := ⟨_, rfl⟩
  obtain ⟨G2, hG2⟩ : ∃ G, G = great ms := ⟨_, rfl⟩
  have HG1 := Lib.hid hG1
  have HG2 := Lib.hid hG2
  cases G1 with
  | true =>
    clear hG1 hG2
    go_enter Try.func6, Try.ntmps6
    go_wp2_with (first
      | (go_at_call 21; refine c_alive03.mono ?_; rintro e w1 ⟨rfl, hF1⟩; have h1 := h.kept hF1 (.inr (Nat.zero_le _)))
      | (go_at_call 22; refine (c_Great h1).mono ?_; rintro e w2 ⟨rfl, rfl⟩; rw [← HG1.out]))
    go_ret
    exact ⟨rfl, hF1⟩
  | false =>
    cases G2 with
    | true =>
      clear hG1 hG2
      go_enter Try.func6, Try.ntmps6
      have t1 := trivial
      go_wp2_with (first
        | (go_at_call 21; refine c_alive03.mono ?_; rintro e w1 ⟨rfl, hF1⟩; have h1 := h.kept hF1 (.inr (Nat.zero_le _)); have k1 := k.kept hF1 (.inr (Nat.zero_le _)))
        | (go_at_call 22; have _t := t1; refine (c_Great h1).mono ?_; rintro e w2 ⟨rfl, rfl⟩; rw [← HG1.out]; clear t1 _t)
        | (go_at_call 22; refine (c_Great k1).mono ?_; rintro e w2 ⟨rfl, rfl⟩; rw [← HG2.out]))
      go_ret
      exact ⟨rfl, hF1⟩
    | false =>
      obtain ⟨hl1, hp1⟩ := great_no hG1.symm
      obtain ⟨hl2, hp2⟩ := great_no hG2.symm
      have hl1' : lens ls ≤ 1073741824 := by omega
      have hl2' : lens ms ≤ 1073741824 := by omega
      have hp : partsR (tagB a ls) = (a, ls, 0) := partsR_tagB a ls (fun l hl => Nat.le_trans (hp1 l hl) (by omega))
      have hK1 : Hid ((((partsR (tagB a ls)).1.toNat : Nat) : Int) = (a.toNat : Int)) := (show _ = _ by rw [hp])
      have hK2 : Hid ((partsR (tagB a ls)).2.1 = ls) := (show _ = _ by rw [hp])
      have hK3 : Hid (((partsR (tagB a ls)).2.2 : Int) = 0) := (show _ = _ by rw [hp]; rfl)
      have hinj := tagB_inj (a := a) (b := b) (ls := ls) (ms := ms) (fun l hl => Nat.le_trans (hp1 l hl) (by omega)) (fun l hl => Nat.le_trans (hp2 l hl) (by omega))
      have hTL : Hid ((tagB a ls).length ≤ 1073741824) := (show _ ≤ _ by rw [tagB, List.length_cons, tagT_length]; omega)
      by_cases hab : a = b
      · subst hab
        have hS : Hid ((tagB a ls == tagB a ms) = decide (ls = ms)) := by
          show _ = _
          by_cases e : ls = ms
          · subst e; simp
          · rw [decide_eq_false e]
            simpa using fun h => e (hinj.1 h).2
        clear hG1 hG2 hp1 hp2 hp hinj
        obtain ⟨D, hD⟩ : ∃ D, D = decide (ls = ms) := ⟨_, rfl⟩
        have HD := Lib.hid hD
        clear hD
        go_enter Try.func6, Try.ntmps6
        have t1 := trivial
        have t2 := trivial
        have t3 := trivial
        go_wp2_with (first
          | (go_at_call 21; refine c_alive03.mono ?_; rintro e w1 ⟨rfl, hF1⟩; have h1 := h.kept hF1 (.inr (Nat.zero_le _)); have k1 := k.kept hF1 (.inr (Nat.zero_le _)); have hz1 := hF1.size)
          | (go_at_call 22; have _t := t1; refine (c_Great h1).mono ?_; rintro e w2 ⟨rfl, rfl⟩; rw [← HG1.out]; clear t1 _t)
          | (go_at_call 22; refine (c_Great k1).mono ?_; rintro e w2 ⟨rfl, rfl⟩; rw [← HG2.out])
          | (go_at_call 23; have _t := t2; refine (c_tagBytes a h1 hz1 hl1').mono ?_; rintro e w3 ⟨b3, rfl, hO3, hF3⟩; have hz3 := hF3.size; have h3 := h1.kept hF3 (.inr (Nat.zero_le _)); have k3 := k1.kept hF3 (.inr (Nat.zero_le _)); clear t2 _t)
          | (go_at_call 23; refine (c_tagBytes a k3 (by omega) hl2').mono ?_; rintro e w4 ⟨b4, rfl, hO4, hF4⟩; have hz4 := hF4.size; have h4 := h3.kept hF4 (.inr (Nat.zero_le _)); have k4 := k3.kept hF4 (.inr (Nat.zero_le _)); have hO34 := hO3.kept hF4 (.inr (Nat.zero_le _)))
          | (go_at_call 13; refine (c_Parts hO34.rd hTL.out hz4).mono ?_; rintro e w5 ⟨p, rfl, hP, hF5⟩; rw [hK1.out, hK3.out]; rw [hK2.out] at hP; obtain ⟨ap, cp, rfl⟩ := hP.form; have hz5 := hF5.size; have h5 := h4.kept hF5 (.inr (Nat.zero_le _)); have k5 := k4.kept hF5 (.inr (Nat.zero_le _)))
          | (go_at_call 15; have _t := t3; refine (c_Same03 h5 k5).mono ?_; rintro e w6 ⟨rfl, hF6⟩; rw [← HD.out]; have hP6 := hP.kept hF6 (.inr (Nat.zero_le _)); have h6 := h5.kept hF6 (.inr (Nat.zero_le _)); have hO36 := (hO34.kept hF5 (.inr (Nat.zero_le _))).kept hF6 (.inr (Nat.zero_le _)); have hO46 := (hO4.kept hF5 (.inr (Nat.zero_le _))).kept hF6 (.inr (Nat.zero_le _)); clear t3 _t)
          | (go_at_call 15; refine (c_Same03 hP6.rds h6).mono ?_; rintro e w7 ⟨rfl, hF7⟩; simp only [decide_true]; have hO37 := hO36.kept hF7 (.inr (Nat.zero_le _)); have hO47 := hO46.kept hF7 (.inr (Nat.zero_le _)))
          | (go_at_call 12; refine (c_Same hO37.rd hO47.rd).mono ?_; rintro e w8 ⟨rfl, rfl⟩; rw [hS.out, ← HD.out]))
        go_ret
        exact ⟨by simp, ((((hF1.trans hF3).trans hF4).trans hF5).trans hF6).trans hF7⟩
      · have hS : Hid ((tagB a ls == tagB b ms) = false) := by
          show _ = _
          simpa using fun h => hab (hinj.1 h).1
        have habI : ¬ (a.toNat : Int) = (b.toNat : Int) := fun e => hab (UInt8.toNat_inj.1 (by omega))
        clear hG1 hG2 hp1 hp2 hp hinj hab
        go_enter Try.func6, Try.ntmps6
        have t1 := trivial
        have t2 := trivial
        go_wp2_with (first
          | (go_at_call 21; refine c_alive03.mono ?_; rintro e w1 ⟨rfl, hF1⟩; have h1 := h.kept hF1 (.inr (Nat.zero_le _)); have k1 := k.kept hF1 (.inr (Nat.zero_le _)); have hz1 := hF1.size)
          | (go_at_call 22; have _t := t1; refine (c_Great h1).mono ?_; rintro e w2 ⟨rfl, rfl⟩; rw [← HG1.out]; clear t1 _t)
          | (go_at_call 22; refine (c_Great k1).mono ?_; rintro e w2 ⟨rfl, rfl⟩; rw [← HG2.out])
          | (go_at_call 23; have _t := t2; refine (c_tagBytes a h1 hz1 hl1').mono ?_; rintro e w3 ⟨b3, rfl, hO3, hF3⟩; have hz3 := hF3.size; have h3 := h1.kept hF3 (.inr (Nat.zero_le _)); have k3 := k1.kept hF3 (.inr (Nat.zero_le _)); clear t2 _t)
          | (go_at_call 23; refine (c_tagBytes b k3 (by omega) hl2').mono ?_; rintro e w4 ⟨b4, rfl, hO4, hF4⟩; have hz4 := hF4.size; have h4 := h3.kept hF4 (.inr (Nat.zero_le _)); have k4 := k3.kept hF4 (.inr (Nat.zero_le _)); have hO34 := hO3.kept hF4 (.inr (Nat.zero_le _)))
          | (go_at_call 13; refine (c_Parts hO34.rd hTL.out hz4).mono ?_; rintro e w5 ⟨p, rfl, hP, hF5⟩; rw [hK1.out, hK3.out]; rw [hK2.out] at hP; obtain ⟨ap, cp, rfl⟩ := hP.form; have hz5 := hF5.size; have h5 := h4.kept hF5 (.inr (Nat.zero_le _)); have k5 := k4.kept hF5 (.inr (Nat.zero_le _)); have hO36 := hO34.kept hF5 (.inr (Nat.zero_le _)); have hO46 := hO4.kept hF5 (.inr (Nat.zero_le _)))
          | (go_at_call 15; refine (c_Same03 hP.rds h5).mono ?_; rintro e w7 ⟨rfl, hF7⟩; simp only [decide_true]; have hO37 := hO36.kept hF7 (.inr (Nat.zero_le _)); have hO47 := hO46.kept hF7 (.inr (Nat.zero_le _)))
          | (go_at_call 12; refine (c_Same hO37.rd hO47.rd).mono ?_; rintro e w8 ⟨rfl, rfl⟩; rw [hS.out]))
        go_ret
        exact ⟨by simp, (((hF1.trans hF3).trans hF4).trans hF5).trans hF7⟩

end Go.Proofs.Ytgndidjfjdaagaa
