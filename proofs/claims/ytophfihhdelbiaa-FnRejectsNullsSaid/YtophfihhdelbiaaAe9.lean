/-
  A part of the proof of this claim (Ae9): what functions of the program compute, and plain facts of that. No conditions.
-/
import Derived.Test.YtophfihhdelbiaaAe7
set_option linter.all false
namespace Go.Proofs.Ytophfihhdelbiaa
open Go Go.Am
noncomputable section

theorem all_loopG {α : Type} (r0 : α) (L : Nat → Nat → Unit ⊕ α) (n : Nat) (bad : Nat → Bool)
  (hS : ∀ k i, L (k + 1) i = bif decide (((i : Nat) : Int) < ((n : Nat) : Int)) then (bif bad i then .inr r0 else L k (i + 1)) else .inl ()) :
  ∀ k i, n - i < k → (L k i = .inl () ∧ ∀ j, i ≤ j → j < n → bad j = false) ∨ (L k i = .inr r0 ∧ ∃ j, i ≤ j ∧ j < n ∧ bad j = true) := by
 intro k
 induction k with
 | zero => intro i h; omega
 | succ k ih =>
  intro i h
  rw [hS]
  by_cases hi : i < n
  ·
   rw [show decide (((i : Nat) : Int) < ((n : Nat) : Int)) = true by simp; omega, cond_true]
   cases hb : bad i with
   | true => exact .inr ⟨rfl, i, Nat.le_refl _, hi, hb⟩
   | false =>
    rw [cond_false]
    rcases ih (i + 1) (by omega) with ⟨h1, h2⟩ | ⟨h1, j, h2, h3, h4⟩
    ·
     refine .inl ⟨h1, fun j hj hjn => ?_⟩
     by_cases e : j = i
     ·
      subst e; exact hb
     ·
      exact h2 j (by omega) hjn
    ·
     exact .inr ⟨h1, j, by omega, h3, h4⟩
  ·
   rw [show decide (((i : Nat) : Int) < ((n : Nat) : Int)) = false by simp; omega, cond_false]
   exact .inl ⟨rfl, fun j hj hjn => by omega⟩

theorem Outcomes_same (e : Xpr) (st : List Int) : iOutcomes e st = Outcomes e st := by
 unfold iOutcomes Outcomes
 rw [Xpr.eta, ValidExpr_same]
 cases hv : ValidExpr e ((List.length st : Nat) : Int) with
 | false =>
  simp only [Bool.not_false, cond_true]
  cases (!(validStates st)) <;> rfl
 | true =>
  have hV := ValidExpr_iff.1 hv
  simp only [Bool.not_true, cond_false]
  rcases all_loopG 0 (iOutcomes_l0 st) st.length (fun i => bif (decide ((List.getD st i 0) < 1)) then true else (decide (7 < (List.getD st i 0)))) (fun k i => rfl) (st.length - 0 + 1) 0 (by omega) with ⟨h1, h2⟩ | ⟨h1, j, h2, h3, h4⟩
  ·
   have hS : VS st := fun j hj => by
    have := or_neg (h2 j (by omega) hj)
    have b1 := of_decide_eq_false this.1
    have b2 := of_decide_eq_false this.2
    omega
   rw [h1, validStates_iff.2 ⟨hV.1, hS⟩]
   simp only [Bool.not_true, cond_false, Sum.elim_inl]
   exact (outcomes_same ⟨hS, 8, hV.2⟩).symm
  ·
   have hS : validStates st = false := by
    rw [Bool.eq_false_iff]
    intro h
    have := (validStates_iff.1 h).2 j h3
    rcases or_pos h4 with h | h
    ·
     have := of_decide_eq_true h; omega
    ·
     have := of_decide_eq_true h; omega
   rw [h1, hS]
   rfl

end
end Go.Proofs.Ytophfihhdelbiaa
