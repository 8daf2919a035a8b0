/-
  A part of the proof of this claim (AtI): what functions of the program compute, and plain facts of that. No conditions.
-/
import Derived.Test.YtdkopkplfdobnaaAtH
set_option linter.all false
namespace Go.Proofs.Ytdkopkplfdobnaa
open Go Go.Am

theorem j0_iff {e : Xpr} (h : selectivity_j0 e = true) : e.Kind = 8 ∨ e.Kind = 9 := by
 unfold selectivity_j0 at h
 by_cases h8 : e.Kind = 8
 ·
  exact .inl h8
 ·
  by_cases h9 : e.Kind = 9
  ·
   exact .inr h9
  ·
   exfalso
   rw [beq_false_of_ne h8, beq_false_of_ne h9] at h
   simp at h

theorem sel_fuel {s : Sta} {w : Int} : ∀ (f1 f2 : Nat) (e : Xpr), VXn w e → SizeOf.sizeOf e < f1 → SizeOf.sizeOf e < f2 → selectivity_r f1 e s = selectivity_r f2 e s := by
 intro f1
 induction f1 with
 | zero => intro f2 e _ h; omega
 | succ f1 ih =>
  intro f2 e h h1 h2
  obtain ⟨f2, rfl⟩ : ∃ g, f2 = g + 1 := ⟨f2 - 1, by omega⟩
  have hn := h.node.kids
  have hkc := kids_cases e.Kind
  have kid : ∀ i, i < e.Kids.length → selectivity_r f1 (List.getD (Xpr.Kids e) i Xpr.zero) s = selectivity_r f2 (List.getD (Xpr.Kids e) i Xpr.zero) s := fun i hi => by
   have := kid_lt hi
   exact ih f2 _ (h.kid hi) (by omega) (by omega)
  unfold selectivity_r
  cases (e.Kind == 2) with
  | true => rfl
  | false =>
   rw [cond_false, cond_false]
   cases h10 : (e.Kind == 10) with
   | true =>
    have := beq_iff_eq.1 h10
    rw [cond_true, cond_true, kid 0 (by omega)]
   | false =>
    rw [cond_false, cond_false]
    unfold Go.Am.andThen
    cases hj : selectivity_j0 e with
    | true =>
     have := j0_iff hj
     rw [kid 0 (by omega), kid 1 (by omega)]
    | false => rfl

theorem sel_self {s : Sta} {w : Int} {e : Xpr} (h : VXn w e) {f : Nat} (hf : SizeOf.sizeOf e < f) : selectivity_r f e s = selectivity e s :=
 sel_fuel f _ e h hf (Nat.lt_succ_self _)

theorem sel_valid {e : Xpr} {s : Sta} : (iSelectivity e s = -1) ∨ (VSt s ∧ VXn ((s.Distinct.length : Nat) : Int) e ∧ iSelectivity e s = selectivity e s) := by
 unfold iSelectivity
 rw [Xpr.eta]
 cases h1 : iValidStats s ((s.Distinct.length : Nat) : Int) with
 | false => exact .inl rfl
 | true =>
  cases h2 : iValidExpr e ((s.Distinct.length : Nat) : Int) with
  | false => exact .inl rfl
  | true => exact .inr ⟨iValidStats_iff.1 h1, ⟨8, (iValidExpr_iff.1 h2).2⟩, rfl⟩

theorem Selectivity_same (e : Xpr) (s : Sta) : iSelectivity e s = Selectivity e s := by
 unfold iSelectivity Selectivity
 have e1 : iValidStats s ((s.Distinct.length : Nat) : Int) = ValidStats s ((s.Distinct.length : Nat) : Int) := by rw [Bool.eq_iff_iff, iValidStats_iff, ValidStats_iff]
 rw [e1, ValidExpr_same, Xpr.eta]
 cases h1 : ValidStats s ((s.Distinct.length : Nat) : Int) with
 | false => simp only [Bool.not_false, cond_true]
 | true =>
  cases h2 : ValidExpr e ((s.Distinct.length : Nat) : Int) with
  | false => simp only [Bool.not_true, Bool.not_false, cond_true, cond_false]
  | true =>
   simp only [Bool.not_true, cond_false]
   exact (permille_eq (ValidStats_iff.1 h1) (SizeOf.sizeOf e + 1) e ⟨8, (ValidExpr_iff.1 h2).2⟩).symm

theorem sel_not {s : Sta} {e : Xpr} {w : Int} (h : VXn w e) : selectivity (lnot e) s = 1000 - selectivity e s := by
 have hs : SizeOf.sizeOf e < SizeOf.sizeOf (lnot e) := by
  have := kid_lt (t := lnot e) (i := 0) (by show 0 < 1; decide)
  have e1 : List.getD (lnot e).Kids 0 Xpr.zero = e := by show Xpr.mk _ _ _ _ = e; exact Xpr.eta e
  rwa [e1] at this
 show selectivity_r (SizeOf.sizeOf (lnot e) + 1) (lnot e) s = _
 unfold selectivity_r
 rw [show ((lnot e).Kind == 2) = false from rfl, show ((lnot e).Kind == 10) = true from rfl, cond_false, cond_true]
 have e1 : List.getD (lnot e).Kids 0 Xpr.zero = e := by show Xpr.mk _ _ _ _ = e; exact Xpr.eta e
 rw [e1, sel_self h hs]

theorem sel_two {s : Sta} {e : Xpr} {w : Int} (h : VXn w e) : selectivity (ltwo 8 e e) s = selectivity e s * selectivity e s / 1000 := by
 have e0 : List.getD (ltwo 8 e e).Kids 0 Xpr.zero = e := by show Xpr.mk _ _ _ _ = e; exact Xpr.eta e
 have e1 : List.getD (ltwo 8 e e).Kids 1 Xpr.zero = e := by show Xpr.mk _ _ _ _ = e; exact Xpr.eta e
 have hs : SizeOf.sizeOf e < SizeOf.sizeOf (ltwo 8 e e) := by
  have := kid_lt (t := ltwo 8 e e) (i := 0) (by show 0 < 2; decide)
  rwa [e0] at this
 show selectivity_r (SizeOf.sizeOf (ltwo 8 e e) + 1) (ltwo 8 e e) s = _
 unfold selectivity_r Go.Am.andThen
 rw [show ((ltwo 8 e e).Kind == 2) = false from rfl, show ((ltwo 8 e e).Kind == 10) = false from rfl, show selectivity_j0 (ltwo 8 e e) = true from rfl, show ((ltwo 8 e e).Kind == 8) = true from rfl]
 simp only [cond_false, cond_true]
 rw [e0, e1, sel_self h hs]

theorem sel_laws {e : Xpr} {s : Sta} (h0 : ¬ iSelectivity e s < 0) : iSelectivity e s ≤ 1000 ∧ (iSelectivity (lnot e) s < 0 ∨ iSelectivity (lnot e) s = 1000 - iSelectivity e s) ∧ iSelectivity (ltwo 8 e e) s ≤ iSelectivity e s := by
 rcases sel_valid (e := e) (s := s) with h | ⟨hV, hX, h⟩
 ·
  rw [h] at h0; exact absurd (by decide) h0
 ·
  have hb : 0 ≤ selectivity e s ∧ selectivity e s ≤ 1000 := selectivity_b hV _ e hX
  rw [h]
  refine ⟨hb.2, ?_, ?_⟩
  ·
   rcases sel_valid (e := lnot e) (s := s) with h1 | ⟨_, _, h1⟩
   ·
    left; rw [h1]; decide
   ·
    right; rw [h1, sel_not hX]
  ·
   rcases sel_valid (e := ltwo 8 e e) (s := s) with h1 | ⟨_, _, h1⟩
   ·
    rw [h1]; omega
   ·
    rw [h1, sel_two hX]
    have := Int.mul_le_mul (Int.le_refl (selectivity e s)) hb.2 hb.1 hb.1
    exact Int.ediv_le_of_le_mul (by decide) this

theorem FnSelectivity_law (code : List Int) : FnSelectivity code = true := by
 unfold FnSelectivity
 simp only [Xpr.eta, ← Selectivity_same, bne_self_eq_false, cond_false, beq_self_eq_true]
 generalize (DrawSelectivity code).1 = e
 generalize (DrawSelectivity code).2 = s
 cases decide (1048576 < ((List.length code : Nat) : Int)) with
 | true => rfl
 | false =>
  rw [cond_false]
  by_cases h0 : iSelectivity e s < 0
  ·
   rw [decide_eq_true h0]; rfl
  ·
   rw [decide_eq_false h0, cond_false]
   obtain ⟨h1, h2, h3⟩ := sel_laws h0
   rw [decide_eq_true h1, cond_true, decide_eq_true h3]
   rcases h2 with h2 | h2
   ·
    rw [decide_eq_true h2]; rfl
   ·
    rw [h2]
    simp

end Go.Proofs.Ytdkopkplfdobnaa
