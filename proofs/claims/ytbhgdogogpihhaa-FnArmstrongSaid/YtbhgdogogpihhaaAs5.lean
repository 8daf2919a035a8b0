/-
  A part of the proof of this claim (As5): what functions of the program compute, and plain facts of that. No conditions.
-/
import Derived.Test.YtbhgdogogpihhaaAs4
set_option linter.all false
namespace Go.Proofs.Ytbhgdogogpihhaa
open Go Go.Am
noncomputable section

theorem hold1 (f : Dep) (t : Tab) (h : (ValidTable t = true) ∧ depValid f t.Width = true) (i : Nat) (hi : i < t.Rows.length) : ∀ k j, HoldsIn_l1 f t i k j = sHoldsIn_l1 f t i k j := by
 intro k
 induction k with
 | zero => intro j; rfl
 | succ k ih =>
  intro j
  unfold HoldsIn_l1 sHoldsIn_l1
  by_cases hj : j < i
  ·
   have hl : j < (List.take i t.Rows).length := by rw [List.length_take]; omega
   have hk := okS h hi hl
   rw [getD_take hl] at hk ⊢
   rw [lt_dec hj, lt_dec hl, cond_true, cond_true, agree_eq hk.1.1.1 hk.1.1.2 hk.1.2.1, agree_eq hk.2.1.1 hk.2.1.2 hk.1.2.1, ih]
  ·
   rw [ge_dec hj, ge_dec (by rw [List.length_take]; omega)]
   rfl

theorem hold_eq (f : Dep) (t : Tab) : HoldsIn f t = sHoldsIn f t := by
 unfold HoldsIn sHoldsIn
 rw [vt_eq]
 cases hv : ValidTable t with
 | false => rfl
 | true =>
  have hV := ValidTable_iff.1 hv
  have hd : depValid f t.Width = (bif validSet f.From t.Width then validSet f.To t.Width else false) := by
   rw [Bool.eq_iff_iff, depValid_iff]
   constructor
   ·
    rintro ⟨h1, h2⟩
    rw [validSet_iff.2 ⟨⟨hV.w1, hV.w6⟩, ivalidSet_iff.2 h1⟩, validSet_iff.2 ⟨⟨hV.w1, hV.w6⟩, ivalidSet_iff.2 h2⟩]
    rfl
   ·
    intro h
    have h := and_pos h
    exact ⟨ivalidSet_iff.1 (validSet_iff.1 h.1).2, ivalidSet_iff.1 (validSet_iff.1 h.2).2⟩
  have h0 : ∀ k i, depValid f t.Width = true → HoldsIn_l0 f t k i = sHoldsIn_l0 f t k i := by
   intro k
   induction k with
   | zero => intro i _; rfl
   | succ k ih =>
    intro i hf
    unfold HoldsIn_l0 sHoldsIn_l0
    by_cases hi : i < t.Rows.length
    ·
     rw [lt_dec hi, cond_true, cond_true, ih _ hf, show (List.take i t.Rows).length = i by rw [List.length_take]; omega, hold1 f t ⟨hv, hf⟩ i hi]
    ·
     rw [ge_dec hi]
     rfl
  rw [hd]
  cases h1 : validSet f.From t.Width with
  | false => rfl
  | true =>
   cases h2 : validSet f.To t.Width with
   | false => rfl
   | true =>
    rw [h0 _ _ (by rw [hd, h1, h2]; rfl)]
    rfl

end
end Go.Proofs.Ytbhgdogogpihhaa
