/-
  A part of the proof of this claim (AvE): what functions of the program compute, and plain facts of that. No conditions.
-/
import Derived.Test.YtbcgmoaipneoeaaAvD
set_option linter.all false
namespace Go.Proofs.Ytbcgmoaipneoeaa
open Go Go.Am
noncomputable section

structure OF (p : Pln) : Prop where
 kind : 1 ≤ p.Kind ∧ p.Kind ≤ 8
 kids : ((p.Kids.length : Nat) : Int) = (partsOfKind p.Kind).2
 exprs : p.Kind ≠ 3 → ((p.Exprs.length : Nat) : Int) = (partsOfKind p.Kind).1
 table : p.Kind ≠ 1 → p.Table = 0
 cols : p.Kind ≠ 8 → p.Cols.length = 0

theorem ofParts (p : Pln) : onlyFields_j5 p = if p.Kind = 1 then (0, 0) else if p.Kind = 4 ∨ p.Kind = 5 then (2, 1) else if p.Kind = 6 then (2, 0) else if p.Kind = 2 then (1, 1) else if p.Kind = 3 then (1, p.Exprs.length) else (1, 0) := by
 unfold onlyFields_j5 onlyFields_j0 onlyFields_j4 onlyFields_j3 onlyFields_j2 onlyFields_j1
 simp only [Go.Am.andThen]
 by_cases h1 : p.Kind = 1
 ·
  simp [h1]
 ·
  by_cases h4 : p.Kind = 4
  ·
   simp [h4]
  ·
   by_cases h5 : p.Kind = 5
   ·
    simp [h5]
   ·
    by_cases h6 : p.Kind = 6
    ·
     simp [h6]
    ·
     by_cases h2 : p.Kind = 2
     ·
      simp [h2]
     ·
      by_cases h3 : p.Kind = 3
      ·
       simp [h3]
      ·
       have e : ∀ j : Int, p.Kind ≠ j → (p.Kind == j) = false := fun j h => by simp [h]
       simp only [e 1 h1, e 4 h4, e 5 h5, e 6 h6, e 2 h2, e 3 h3, cond_false, if_neg h1, if_neg h2, if_neg h3, if_neg h6, if_neg (show ¬ (p.Kind = 4 ∨ p.Kind = 5) by omega)]

theorem onlyFields_iff {p : Pln} : onlyFields p = true ↔ OF p := by
 have key : onlyFields p = true ↔ (((1 ≤ p.Kind ∧ p.Kind ≤ 8) ∧ ((p.Kids.length : Nat) : Int) = (((onlyFields_j5 p).1 : Nat) : Int)) ∧ ((p.Exprs.length : Nat) : Int) = (((onlyFields_j5 p).2 : Nat) : Int)) ∧ (p.Table = 0 ∨ p.Kind = 1) ∧ (((p.Cols.length : Nat) : Int) = 0 ∨ p.Kind = 8) := by
  unfold onlyFields
  simp only [Go.Am.andThen]
  rw [← inRange_iff]
  cases inRange p.Kind 1 8 <;> simp [Bool.cond_eq_ite, and_assoc]
 rw [key, ofParts]
 have hpc := parts2 p.Kind
 constructor
 ·
  rintro ⟨⟨⟨h1, h2⟩, h3⟩, h4, h5⟩
  have h3' : p.Kind ≠ 3 → ((p.Exprs.length : Nat) : Int) = (partsOfKind p.Kind).1 := by
   intro hn
   rw [if_neg hn] at h3
   split at h3
   ·
    simp only at h3; omega
   ·
    split at h3
    ·
     simp only at h3; omega
    ·
     split at h3
     ·
      simp only at h3; omega
     ·
      split at h3 <;> simp only at h3 <;> omega
  refine ⟨h1, ?_, h3', by omega, by omega⟩
  split at h2
  ·
   simp only at h2; omega
  ·
   split at h2
   ·
    simp only at h2; omega
   ·
    split at h2
    ·
     simp only at h2; omega
    ·
     split at h2
     ·
      simp only at h2; omega
     ·
      split at h2 <;> simp only at h2 <;> omega
 ·
  rintro ⟨h1, h2, h3, h4, h5⟩
  refine ⟨⟨⟨h1, ?_⟩, ?_⟩, by omega, by omega⟩
  ·
   split
   ·
    simp only; omega
   ·
    split
    ·
     simp only; omega
    ·
     split
     ·
      simp only; omega
     ·
      split
      ·
       simp only; omega
      ·
       split <;> simp only <;> omega
  ·
   split
   ·
    simp only; omega
   ·
    split
    ·
     simp only; omega
    ·
     split
     ·
      simp only; omega
     ·
      split
      ·
       simp only; omega
      ·
       split <;> simp only <;> omega

theorem onlyFields_of {p : Pln} (h : onlyFields (Pln.mk (Pln.Kind p) (Pln.Table p) (Pln.Exprs p) (Pln.Cols p) (Pln.Kids p)) = true) : OF p := by
 rw [Pln.eta] at h
 exact onlyFields_iff.1 h

def Asc (cols : List Int) (w : Int) : Prop := ∀ j, j < cols.length → (0 ≤ cols.getD j 0 ∧ cols.getD j 0 < w) ∧ (0 < j → cols.getD (j - 1) 0 < cols.getD j 0)

theorem validCols_iff {cols : List Int} {w : Int} : validCols cols w = true ↔ Asc cols w := by
 unfold validCols
 rcases all_loop (validCols_l0 cols w) cols.length (fun i => bif (!(inRange (List.getD cols i 0) 0 (w - 1))) then true else (bif (decide (0 < ((i : Nat) : Int))) then (decide ((List.getD cols i 0) ≤ (List.getD cols (Int.toNat (((i : Nat) : Int) - 1)) 0))) else false)) (fun k i => rfl) (cols.length - 0 + 1) 0 (by omega) with ⟨h1, h2⟩ | ⟨h1, j, h2, h3, h4⟩
 ·
  rw [h1]
  simp only [Sum.elim_inl, true_iff]
  intro j hj
  have h := or_neg (h2 j (by omega) hj)
  have a := inRange_iff.1 (not_neg h.1)
  refine ⟨by omega, fun h0 => ?_⟩
  have b := h.2
  rw [decide_eq_true (show (0 : Int) < ((j : Nat) : Int) by omega), cond_true] at b
  have := of_decide_eq_false b
  rw [show (((j : Nat) : Int) - 1).toNat = j - 1 by omega] at this
  omega
 ·
  rw [h1]
  simp only [Sum.elim_inr, Bool.false_eq_true, false_iff]
  intro h
  obtain ⟨a, b⟩ := h j h3
  rcases or_pos h4 with h | h
  ·
   rw [inRange_iff.2 (by omega)] at h
   cases h
  ·
   have h := and_pos h
   have c := of_decide_eq_true h.1
   have d := of_decide_eq_true h.2
   rw [show (((j : Nat) : Int) - 1).toNat = j - 1 by omega] at d
   have := b (by omega)
   omega

theorem vgc_loop (cols : List Int) (w : Int) : ∀ (k i : Nat) (last : Int), cols.length - i < k → last = (if i = 0 then -1 else cols.getD (i - 1) 0) → (∀ j, j < i → j < cols.length → (0 ≤ cols.getD j 0 ∧ cols.getD j 0 < w)) →
  (validGroupColumns_l0 cols w k last i = .inl () ∧ ∀ j, i ≤ j → j < cols.length → (0 ≤ cols.getD j 0 ∧ cols.getD j 0 < w) ∧ (0 < j → cols.getD (j - 1) 0 < cols.getD j 0)) ∨
  (validGroupColumns_l0 cols w k last i = .inr false ∧ ¬ Asc cols w) := by
 intro k
 induction k with
 | zero => intro i last h; omega
 | succ k ih =>
  intro i last h hl hp
  unfold validGroupColumns_l0
  by_cases hi : i < cols.length
  ·
   rw [lt_dec hi, cond_true]
   cases hb : (bif (decide ((List.getD cols i 0) ≤ last)) then true else (decide (w ≤ (List.getD cols i 0)))) with
   | true =>
    refine .inr ⟨rfl, fun ha => ?_⟩
    obtain ⟨a, b⟩ := ha i hi
    rcases or_pos hb with hb | hb
    ·
     have hb := of_decide_eq_true hb
     by_cases h0 : i = 0
     ·
      rw [if_pos h0] at hl; omega
     ·
      rw [if_neg h0] at hl
      have := b (by omega)
      omega
    ·
     have hb := of_decide_eq_true hb
     omega
   | false =>
    rw [cond_false]
    have hb := or_neg hb
    have b1 := of_decide_eq_false hb.1
    have b2 := of_decide_eq_false hb.2
    have g : (0 ≤ cols.getD i 0 ∧ cols.getD i 0 < w) ∧ (0 < i → cols.getD (i - 1) 0 < cols.getD i 0) := by
     by_cases h0 : i = 0
     ·
      rw [if_pos h0] at hl
      exact ⟨by omega, by omega⟩
     ·
      rw [if_neg h0] at hl
      have := hp (i - 1) (by omega) (by omega)
      exact ⟨by omega, by omega⟩
    rcases ih (i + 1) (cols.getD i 0) (by omega) (by rw [if_neg (by omega)]; rfl) (fun j hj hjl => by
     by_cases e : j = i
     ·
      subst e; exact g.1
     ·
      exact hp j (by omega) hjl) with ⟨c1, c2⟩ | c
    ·
     refine .inl ⟨c1, fun j hj hjl => ?_⟩
     by_cases e : j = i
     ·
      subst e; exact g
     ·
      exact c2 j (by omega) hjl
    ·
     exact .inr c
  ·
   rw [ge_dec hi, cond_false]
   exact .inl ⟨rfl, fun j hj hjl => by omega⟩

theorem vgc_iff {cols : List Int} {w : Int} : validGroupColumns cols w = true ↔ ((cols.length : Nat) : Int) < 6 ∧ Asc cols w := by
 unfold validGroupColumns
 by_cases h6 : (6 : Int) ≤ ((cols.length : Nat) : Int)
 ·
  rw [decide_eq_true h6, cond_true]
  simp only [Bool.false_eq_true, false_iff]
  omega
 ·
  rw [decide_eq_false h6, cond_false]
  rcases vgc_loop cols w (cols.length - 0 + 1) 0 (-1) (by omega) rfl (fun j hj => absurd hj (Nat.not_lt_zero _)) with ⟨h1, h2⟩ | ⟨h1, h2⟩
  ·
   rw [h1]
   simp only [Sum.elim_inl, true_iff]
   exact ⟨by omega, fun j hj => h2 j (by omega) hj⟩
  ·
   rw [h1]
   simp only [Sum.elim_inr, Bool.false_eq_true, false_iff]
   exact fun h => h2 h.2

theorem vgc_eq (cols : List Int) (w : Int) : validGroupColumns cols w = bif validCols cols w then decide (((cols.length : Nat) : Int) < 6) else false := by
 rw [Bool.eq_iff_iff, vgc_iff]
 cases h : validCols cols w with
 | true => have := validCols_iff.1 h; simp [this]
 | false =>
  have : ¬ Asc cols w := fun ha => by rw [validCols_iff.2 ha] at h; cases h
  simp [this]

theorem pw_eq (p : Pln) (w : Int) : projectWidth p.Exprs w = bif allv p w then (bif decide ((6 : Int) < ((p.Exprs.length : Nat) : Int)) then 0 else ((p.Exprs.length : Nat) : Int)) else 0 := by
 unfold projectWidth
 rcases all_loopG 0 (projectWidth_l0 p.Exprs w) p.Exprs.length (fun i => !(ValidExpr (List.getD p.Exprs i Xpr.zero) w)) (fun k i => rfl) (p.Exprs.length - 0 + 1) 0 (by omega) with ⟨h1, h2⟩ | ⟨h1, j, h2, h3, h4⟩
 ·
  rw [h1, allv_iff.2 fun j hj => not_neg (h2 j (by omega) hj)]
  rfl
 ·
  have : allv p w = false := by
   rw [Bool.eq_false_iff]
   intro h
   have := allv_iff.1 h j h3
   rw [this] at h4
   cases h4
  rw [h1, this]
  rfl

end
end Go.Proofs.Ytbcgmoaipneoeaa
