/-
  A part of the proof of this claim (AvI): what functions of the program compute, and plain facts of that. No conditions.
-/
import Derived.Test.YtbcgmoaipneoeaaAvH
set_option linter.all false
namespace Go.Proofs.Ytbcgmoaipneoeaa
open Go Go.Am
noncomputable section

theorem eqExprS_self (a : List Xpr) : eqExprS a a = true := by
 unfold eqExprS
 simp only [bne_self_eq_false, cond_false]
 rcases all_loop (eqExprS_l0 a a) a.length (fun i => !(eqExpr (List.getD a i Xpr.zero) (List.getD a i Xpr.zero))) (fun k i => rfl) (a.length - 0 + 1) 0 (by omega) with ⟨h1, _⟩ | ⟨_, j, _, hj, h2⟩
 ·
  rw [h1]; rfl
 ·
  rw [eqExpr_self] at h2
  cases h2

theorem eqPlan_refl : ∀ (f : Nat) (a : Pln), SizeOf.sizeOf a < f → eqPlan_r f a a = true := by
 intro f
 induction f with
 | zero => intro a h; omega
 | succ f ih =>
  intro a h
  have hc : eqPlan_c0 (eqPlan_r f) a a = true := by
   unfold eqPlan_c0
   simp only [bne_self_eq_false, cond_false]
   rcases all_loop (eqPlan_l0 (eqPlan_r f) a a) a.Kids.length (fun i => !(eqPlan_r f (List.getD a.Kids i Pln.zero) (List.getD a.Kids i Pln.zero))) (fun k i => rfl) (a.Kids.length - 0 + 1) 0 (by omega) with ⟨h1, _⟩ | ⟨_, j, _, hj, h2⟩
   ·
    rw [h1]; rfl
   ·
    have := pkid_lt (t := a) hj
    rw [ih _ (by omega)] at h2
    cases h2
  unfold eqPlan_r
  simp only [bne_self_eq_false, cond_false, Go.Am.andThen, hc, eqExprS_self, eqIntS_self, Bool.not_true]

theorem eqPlan_self (a : Pln) : eqPlan a a = true := eqPlan_refl _ a (Nat.lt_succ_self _)

structure WF (f : Nat) (p : Pln) (ws : List Int) (l : Int) : Prop where
 of : OF p
 scan : p.Kind = 1 → (0 ≤ p.Table ∧ p.Table < ((ws.length : Nat) : Int)) ∧ widthBelow_r (f + 1) p ws l = ws.getD p.Table.toNat 0
 deep : 0 < p.Kids.length → l ≠ 0
 proj : p.Kind = 3 → 1 ≤ ((p.Exprs.length : Nat) : Int) ∧ ((p.Exprs.length : Nat) : Int) ≤ 6
 kids : ∀ i, i < p.Kids.length → widthBelow_r f (p.Kids.getD i Pln.zero) ws (l - 1) ≠ 0
 one : p.Kids.length = 1 → widthBelow_r (f + 1) p ws l = widthOver p (widthBelow_r f (p.Kids.getD 0 Pln.zero) ws (l - 1)) 0
 two : p.Kids.length = 2 → widthBelow_r (f + 1) p ws l = widthOver p (widthBelow_r f (p.Kids.getD 0 Pln.zero) ws (l - 1)) (widthBelow_r f (p.Kids.getD 1 Pln.zero) ws (l - 1))

theorem wb_facts {f : Nat} {p : Pln} {ws : List Int} {l : Int} (h : widthBelow_r (f + 1) p ws l ≠ 0) : WF f p ws l := by
 have hpc := parts2 (Pln.Kind p)
 have e : widthBelow_r (f + 1) p ws l = widthBelow_r (f + 1) p ws l := rfl
 conv at e => rhs; unfold widthBelow_r
 simp only [Go.Am.andThen] at e
 cases hA : (bif (bif (((List.length (Pln.Kids p) : Nat) : Int) != ((partsOfKind (Pln.Kind p)).2)) then true else (((List.length (Pln.Exprs p) : Nat) : Int) != widthBelow_j0 p)) then true else (bif (decide (0 < ((partsOfKind (Pln.Kind p)).2))) then (l == 0) else false)) with
 | true => rw [hA, cond_true] at e; exact absurd e h
 | false =>
  rw [hA, cond_false] at e
  cases hB : (bif (bif ((Pln.Kind p) != 1) then ((Pln.Table p) != 0) else false) then true else (bif ((Pln.Kind p) != 8) then (((List.length (Pln.Cols p) : Nat) : Int) != 0) else false)) with
  | true => rw [hB, cond_true] at e; exact absurd e h
  | false =>
   rw [hB, cond_false] at e
   have hA' := or_neg (or_neg hA).1
   have k1 := bne_neg hA'.1
   have k2 := bne_neg hA'.2
   have hl : 0 < p.Kids.length → l ≠ 0 := fun h0 => by
    have := (or_neg hA).2
    rw [decide_eq_true (show 0 < (partsOfKind p.Kind).2 by omega), cond_true] at this
    exact beq_neg this
   have hB := or_neg hB
   have j0 : p.Kind ≠ 3 → widthBelow_j0 p = (partsOfKind p.Kind).1 := fun h => by
    unfold widthBelow_j0
    rw [show (p.Kind == 3) = false by simp [h]]
    rfl
   have hO : OF p := by
    refine ⟨by omega, k1, fun h => by rw [← j0 h]; exact k2, fun h => ?_, fun h => ?_⟩
    ·
     have := hB.1
     rw [show (p.Kind != 1) = true by simp [h], cond_true] at this
     exact bne_neg this
    ·
     have := hB.2
     rw [show (p.Kind != 8) = true by simp [h], cond_true] at this
     have := bne_neg this
     omega
   have h3 : p.Kind = 3 → 1 ≤ ((p.Exprs.length : Nat) : Int) ∧ ((p.Exprs.length : Nat) : Int) ≤ 6 := fun h3 => by
    unfold widthBelow_j0 at k2
    rw [h3] at k2
    simp only [Int.reduceBEq, cond_true] at k2
    cases hv : validWidth ((List.length p.Exprs : Nat) : Int) with
    | true => exact validWidth_iff.1 hv
    | false =>
     rw [hv, cond_false] at k2
     have : (partsOfKind 3).1 = 1 := by decide
     omega
   by_cases h1 : p.Kind = 1
   ·
    rw [show (p.Kind == 1) = true by simp [h1], cond_true] at e
    have ht : 0 ≤ p.Table ∧ p.Table < ((ws.length : Nat) : Int) := by
     refine Decidable.byContradiction fun hn => h ?_
     have d : (bif decide (p.Table < 0) then true else decide (((ws.length : Nat) : Int) ≤ p.Table)) = true := by
      by_cases h : p.Table < 0
      ·
       rw [decide_eq_true h]; rfl
      ·
       rw [decide_eq_false h, decide_eq_true (show ((ws.length : Nat) : Int) ≤ p.Table by omega)]; rfl
     rw [d, cond_true] at e
     exact e
    rw [decide_eq_false (show ¬ p.Table < 0 by omega), decide_eq_false (show ¬ ((ws.length : Nat) : Int) ≤ p.Table by omega)] at e
    exact ⟨hO, fun _ => ⟨ht, e⟩, hl, h3, fun i hi => by omega, fun _ => by omega, fun _ => by omega⟩
   ·
    rw [show (p.Kind == 1) = false by simp [h1], cond_false] at e
    by_cases h2 : p.Kids.length = 2
    ·
     rw [wb2 _ _ _ _ h2] at e
     by_cases ha : widthBelow_r f (p.Kids.getD 0 Pln.zero) ws (l - 1) = 0
     ·
      rw [ha] at e
      exact absurd e h
     ·
      rw [show (widthBelow_r f (p.Kids.getD 0 Pln.zero) ws (l - 1) == 0) = false from beq_false_of_ne ha, cond_false] at e
      by_cases hb : widthBelow_r f (p.Kids.getD 1 Pln.zero) ws (l - 1) = 0
      ·
       rw [hb] at e
       exact absurd e h
      ·
       rw [show (widthBelow_r f (p.Kids.getD 1 Pln.zero) ws (l - 1) == 0) = false from beq_false_of_ne hb, cond_false] at e
       refine ⟨hO, fun h => absurd h h1, hl, h3, fun i hi => ?_, fun _ => by omega, fun _ => e⟩
       rcases Nat.lt_or_ge i 1 with hi1 | hi1
       ·
        rw [show i = 0 by omega]; exact ha
       ·
        rw [show i = 1 by omega]; exact hb
    ·
     have hn : p.Kids.length = 1 := by omega
     rw [wb1 _ _ _ _ hn] at e
     by_cases ha : widthBelow_r f (p.Kids.getD 0 Pln.zero) ws (l - 1) = 0
     ·
      rw [ha] at e
      exact absurd e h
     ·
      rw [show (widthBelow_r f (p.Kids.getD 0 Pln.zero) ws (l - 1) == 0) = false from beq_false_of_ne ha, cond_false] at e
      refine ⟨hO, fun h => absurd h h1, hl, h3, fun i hi => ?_, fun _ => e, fun h => absurd h h2⟩
      rw [show i = 0 by omega]; exact ha

theorem le_mul {a b : Int} (h1 : 0 ≤ a ∧ a ≤ 1000000000) (h2 : 0 ≤ b ∧ b ≤ 1000000000) : 0 ≤ a * b ∧ a * b ≤ 1000000000000000000 :=
 ⟨Int.mul_nonneg h1.1 h2.1, by
  have := Int.mul_le_mul h1.2 h2.2 h2.1 (show (0 : Int) ≤ 1000000000 by decide)
  omega⟩


end
end Go.Proofs.Ytbcgmoaipneoeaa
