/-
  A part of the proof of this claim (ApF): what functions of the program compute, and plain facts of that. No conditions.
-/
import Derived.Test.YtodcdgolcbdkgaaApE
set_option linter.all false
namespace Go.Proofs.Ytodcdgolcbdkgaa
open Go Go.Am
open Go.Am.AW (seq r1U ret kpU cdE r0U r1 meet rI block bk exit lpB r0 kp cutQ cd d0U d0)
open List (length getD replicate)
noncomputable section

def planWidth_l0 (self : Pln → (List Int) → Int → Int) (p : Pln) (ws : List Int) (deep : Int) : Nat → Nat → (List Int) → (List Int) ⊕ Int
 | 0, i, w => .inl w
 | k + 1, i, w => (bif (decide ((i : Int) < (length (Pln.Kids p) : Int))) then (bif ((self (getD (Pln.Kids p) i Pln.zero) ws (deep - 1)) == 0) then (.inr 0) else (planWidth_l0 self p ws deep k (i + 1) (w ++ ([(self (getD (Pln.Kids p) i Pln.zero) ws (deep - 1))] : List Int)))) else (.inl w))

def planWidth_j0 (p : Pln) : Bool :=
 (bif ((Pln.Kind p) == 4) then ((Pln.Kind p) == 4) else ((Pln.Kind p) == 5))

def planWidth_j1 (p : Pln) (w : List Int) : Unit ⊕ Int :=
 (bif ((Pln.Kind p) == 8) then (bif (bif (validCols (Pln.Cols p) (getD w 0 0)) then (decide ((length (Pln.Cols p) : Int) < 6)) else false) then (.inr (((length (Pln.Cols p)) + 1 : Nat) : Int)) else (.inl ())) else (.inl ()))

def planWidth_j2 (p : Pln) (w : List Int) : Unit ⊕ Int :=
 (bif ((Pln.Kind p) == 6) then (bif ((getD w 0 0) == (getD w 1 0)) then (.inr (getD w 0 0)) else (.inl ())) else (bif ((Pln.Kind p) == 7) then (.inr (getD w 0 0)) else (Sum.elim (fun _ => (.inl ())) (fun r => (.inr r)) (planWidth_j1 p w))))

def planWidth_j3 (p : Pln) (w : List Int) (v82 : Bool) : Unit ⊕ Int :=
 (bif v82 then (bif (bif (decide (((getD w 0 0) + (getD w 1 0)) ≤ 6)) then (ValidExpr (getD (Pln.Exprs p) 0 Xpr.zero) ((getD w 0 0) + (getD w 1 0))) else false) then (.inr ((getD w 0 0) + (getD w 1 0))) else (.inl ())) else (Sum.elim (fun _ => (.inl ())) (fun r => (.inr r)) (planWidth_j2 p w)))

def planWidth_j4 (p : Pln) (w : List Int) : Unit ⊕ Int :=
 (bif ((Pln.Kind p) == 2) then (bif (ValidExpr (getD (Pln.Exprs p) 0 Xpr.zero) (getD w 0 0)) then (.inr (getD w 0 0)) else (.inl ())) else (bif ((Pln.Kind p) == 3) then (.inr (projectWidth (Pln.Exprs p) (getD w 0 0))) else (andThen (planWidth_j0 p) (fun z => (fun (v82 : Bool) => (Sum.elim (fun _ => (.inl ())) (fun r => (.inr r)) (planWidth_j3 p w v82))) z))))

def planWidth_j5 (p : Pln) (ws : List Int) (w : List Int) : Unit ⊕ Int :=
 (bif ((Pln.Kind p) == 1) then (bif (inRange (Pln.Table p) 0 ((length ws : Int) - 1)) then (.inr (getD ws (Int.toNat (Pln.Table p)) 0)) else (.inl ())) else (Sum.elim (fun _ => (.inl ())) (fun r => (.inr r)) (planWidth_j4 p w)))

def planWidth_r : Nat → Pln → (List Int) → Int → Int
 | 0, p, ws, deep => 0
 | fuel + 1, p, ws, deep => (bif (bif (!(onlyFields (Pln.mk (Pln.Kind p) (Pln.Table p) (Pln.Exprs p) (Pln.Cols p) (Pln.Kids p)))) then true else (bif (decide (0 < (length (Pln.Kids p) : Int))) then (deep == 0) else false)) then 0 else (Sum.elim (fun z => (fun (w : List Int) => (Sum.elim (fun _ => 0) (fun r => r) (planWidth_j5 p ws w))) z) (fun r => r) (planWidth_l0 (planWidth_r fuel) p ws deep ((length (Pln.Kids p)) - 0 + 1) 0 ([] : List Int))))

def planWidth (p : Pln) (ws : List Int) (deep : Int) : Int := planWidth_r (SizeOf.sizeOf p + 1) p ws deep

def planWidth_spn (fuel : Nat) : FnSpec := mkSpec [.val (.named 2), .val (.slice (.int .i64)), .val (.int .i64)] [.val (.int .i64)] (fun (p : Pln) (ws : List Int) (deep : Int) => (VW ws ∧ (0 ≤ deep ∧ deep ≤ 8)) ∧ SizeOf.sizeOf p < fuel) (fun (p : Pln) (ws : List Int) (deep : Int) => [⟨(.int .i64), (planWidth_r fuel p ws deep)⟩])

def planWidth_sp : FnSpec := mkSpec [.val (.named 2), .val (.slice (.int .i64)), .val (.int .i64)] [.val (.int .i64)] (fun (p : Pln) (ws : List Int) (deep : Int) => VW ws ∧ (0 ≤ deep ∧ deep ≤ 8)) (fun (p : Pln) (ws : List Int) (deep : Int) => [⟨(.int .i64), (planWidth p ws deep)⟩])

theorem pl0 (self : Pln → (List Int) → Int → Int) (p : Pln) (ws : List Int) (l : Int) (h : p.Kids.length = 0) : planWidth_l0 self p ws l ((length (Pln.Kids p)) - 0 + 1) 0 [] = .inl [] := by
 rw [h]; rw [planWidth_l0, ge_dec (by omega), cond_false]

theorem pl1 (self : Pln → (List Int) → Int → Int) (p : Pln) (ws : List Int) (l : Int) (h : p.Kids.length = 1) : planWidth_l0 self p ws l ((length (Pln.Kids p)) - 0 + 1) 0 [] = bif self (getD p.Kids 0 Pln.zero) ws (l - 1) == 0 then .inr 0 else .inl [self (getD p.Kids 0 Pln.zero) ws (l - 1)] := by
 rw [h]; rw [planWidth_l0, lt_dec (by omega), cond_true]
 cases (self (getD p.Kids 0 Pln.zero) ws (l - 1) == 0) with
 | true => rfl
 | false => rw [cond_false, cond_false, planWidth_l0, ge_dec (by omega), cond_false]; rfl

theorem pl2 (self : Pln → (List Int) → Int → Int) (p : Pln) (ws : List Int) (l : Int) (h : p.Kids.length = 2) : planWidth_l0 self p ws l ((length (Pln.Kids p)) - 0 + 1) 0 [] = bif self (getD p.Kids 0 Pln.zero) ws (l - 1) == 0 then .inr 0 else bif self (getD p.Kids 1 Pln.zero) ws (l - 1) == 0 then .inr 0 else .inl [self (getD p.Kids 0 Pln.zero) ws (l - 1), self (getD p.Kids 1 Pln.zero) ws (l - 1)] := by
 rw [h]; rw [planWidth_l0, lt_dec (by omega), cond_true]
 cases (self (getD p.Kids 0 Pln.zero) ws (l - 1) == 0) with
 | true => rfl
 | false =>
  rw [cond_false, cond_false, planWidth_l0, lt_dec (by omega), cond_true]
  cases (self (getD p.Kids 1 Pln.zero) ws (l - 1) == 0) with
  | true => rfl
  | false => rw [cond_false, cond_false, planWidth_l0, ge_dec (by omega), cond_false]; rfl

theorem wb1 (self : Pln → (List Int) → Int → Int) (p : Pln) (ws : List Int) (l : Int) (h : p.Kids.length = 1) : widthBelow_l0 self p ws l ((length (Pln.Kids p)) - 0 + 1) 0 (replicate 2 0) = bif self (getD p.Kids 0 Pln.zero) ws (l - 1) == 0 then .inr 0 else .inl [self (getD p.Kids 0 Pln.zero) ws (l - 1), 0] := by
 rw [h]; show widthBelow_l0 self p ws l 2 0 [0, 0] = _; rw [widthBelow_l0, lt_dec (by omega), cond_true]; generalize self (getD p.Kids 0 Pln.zero) ws (l - 1) = x; show (bif (x == 0) then _ else widthBelow_l0 self p ws l 1 1 [x, 0]) = _; rw [widthBelow_l0, ge_dec (by omega), cond_false]

theorem wb2 (self : Pln → (List Int) → Int → Int) (p : Pln) (ws : List Int) (l : Int) (h : p.Kids.length = 2) : widthBelow_l0 self p ws l ((length (Pln.Kids p)) - 0 + 1) 0 (replicate 2 0) = bif self (getD p.Kids 0 Pln.zero) ws (l - 1) == 0 then .inr 0 else bif self (getD p.Kids 1 Pln.zero) ws (l - 1) == 0 then .inr 0 else .inl [self (getD p.Kids 0 Pln.zero) ws (l - 1), self (getD p.Kids 1 Pln.zero) ws (l - 1)] := by
 rw [h]; show widthBelow_l0 self p ws l 3 0 [0, 0] = _; rw [widthBelow_l0, lt_dec (by omega), cond_true]; generalize self (getD p.Kids 0 Pln.zero) ws (l - 1) = x; show (bif (x == 0) then _ else widthBelow_l0 self p ws l 2 1 [x, 0]) = _; rw [widthBelow_l0, lt_dec (by omega), cond_true]; generalize self (getD p.Kids 1 Pln.zero) ws (l - 1) = y; show (bif (x == 0) then _ else bif (y == 0) then _ else widthBelow_l0 self p ws l 1 2 [x, y]) = _; rw [widthBelow_l0, ge_dec (by omega), cond_false]

theorem allv0 {p : Pln} {w : Int} (h : p.Exprs.length = 0) : allv p w = true := allv_iff.2 fun j hj => by omega

theorem allv1 {p : Pln} {w : Int} (h : p.Exprs.length = 1) : allv p w = ValidExpr (p.Exprs.getD 0 Xpr.zero) w := by
 rw [Bool.eq_iff_iff, allv_iff]; exact ⟨fun k => k 0 (by omega), fun k j hj => by rw [show j = 0 by omega]; exact k⟩

theorem over_eq {p : Pln} (ws : List Int) (hO : OF p) (a b : Int) (w : List Int) (h1 : p.Kind ≠ 1) (hw : w = if p.Kind = 4 ∨ p.Kind = 5 ∨ p.Kind = 6 then [a, b] else [a]) (h6 : p.Kind = 3 → 1 ≤ (p.Exprs.length : Int) ∧ (p.Exprs.length : Int) ≤ 6) :
  Sum.elim (fun _ => 0) (fun r => r) (planWidth_j5 p ws w) = widthOver p a b := by
 have hk := hO.kind; have hpc := parts2 (Pln.Kind p); have he := hO.exprs; (have e : ∀ j : Int, p.Kind ≠ j → (p.Kind == j) = false := fun j h => by simp [h]); (have t : ∀ j : Int, p.Kind = j → (p.Kind == j) = true := fun j h => by simp [h]); unfold planWidth_j5 planWidth_j4 planWidth_j0 planWidth_j3 planWidth_j2 planWidth_j1; rw [e 1 h1]; by_cases h2 : p.Kind = 2
 · rw [wo_else a b (by omega), allv1 (by omega), t 2 h2, hw, if_neg (by omega)]; simp only [cond_true, cond_false]; show Sum.elim _ _ (Sum.elim _ _ (bif ValidExpr (getD p.Exprs 0 Xpr.zero) a then .inr a else .inl ())) = _; cases ValidExpr (getD p.Exprs 0 Xpr.zero) a <;> rfl
 ·
  by_cases h3 : p.Kind = 3
  · have := h6 h3; rw [wo_project a b h3, e 2 h2, t 3 h3, hw, if_neg (by omega)]; simp only [cond_true, cond_false]; rw [pw_eq, decide_eq_false (show ¬ (6 : Int) < (p.Exprs.length : Int) by omega)]; rfl
  ·
   by_cases h4 : p.Kind = 4 ∨ p.Kind = 5
   ·
    rw [wo_join a b h4, allv1 (by omega), e 2 h2, e 3 h3, hw, if_pos (by omega)]
    have : (bif p.Kind == 4 then p.Kind == 4 else p.Kind == 5) = true := by
     rcases h4 with h | h <;> rw [h] <;> rfl
    simp only [cond_false, andThen, this, cond_true]; show Sum.elim _ _ (Sum.elim _ _ (Sum.elim _ _ (bif (bif decide (a + b ≤ 6) then ValidExpr (getD p.Exprs 0 Xpr.zero) (a + b) else false) then .inr (a + b) else .inl ()))) = _; by_cases hs : 6 < a + b
    · rw [decide_eq_true hs, decide_eq_false (show ¬ a + b ≤ 6 by omega)]; rfl
    · rw [decide_eq_false hs, decide_eq_true (show a + b ≤ 6 by omega)]; cases ValidExpr (getD p.Exprs 0 Xpr.zero) (a + b) <;> rfl
   ·
    have : (bif p.Kind == 4 then p.Kind == 4 else p.Kind == 5) = false := by
     rw [e 4 (by omega), e 5 (by omega)]; rfl
    by_cases h6' : p.Kind = 6
    ·
     rw [wo_union a b h6', allv0 (by omega), e 2 h2, e 3 h3, t 6 h6', hw, if_pos (by omega)]; simp only [cond_false, andThen, this, cond_true]; show Sum.elim _ _ (Sum.elim _ _ (Sum.elim _ _ (Sum.elim _ _ (bif a == b then .inr a else .inl ())))) = _; by_cases hab : a = b
     · rw [hab]; simp
     · rw [show (a == b) = false by simp [hab], show (a != b) = true by simp [hab]]; rfl
    ·
     by_cases h7 : p.Kind = 7
     · rw [wo_else a b (by omega), allv0 (by omega), e 2 h2, e 3 h3, e 6 h6', t 7 h7, hw, if_neg (by omega)]; simp only [cond_false, andThen, this, cond_true]; rfl
     · (have h8 : p.Kind = 8 := by omega); rw [wo_group a b h8, vgc_eq, e 2 h2, e 3 h3, e 6 h6', e 7 h7, t 8 h8, hw, if_neg (by omega)]; simp only [cond_false, andThen, this, cond_true]; show Sum.elim _ _ (Sum.elim _ _ (Sum.elim _ _ (Sum.elim _ _ (Sum.elim _ _ (bif (bif validCols p.Cols a then decide ((p.Cols.length : Int) < 6) else false) then .inr ((p.Cols.length + 1 : Nat) : Int) else .inl ()))))) = _; cases (bif validCols p.Cols a then decide ((p.Cols.length : Int) < 6) else false) <;> rfl

theorem planWidth_eq (ws : List Int) : ∀ (f : Nat) (p : Pln) (l : Int), planWidth_r f p ws l = widthBelow_r f p ws l := by
 intro f
 induction f with
 | zero => intro p l; rfl
 | succ f ih =>
  intro p l; have hpc := parts2 (Pln.Kind p); unfold planWidth_r widthBelow_r; simp only [andThen, Pln.eta]
  have j0 : p.Kind ≠ 3 → widthBelow_j0 p = (partsOfKind p.Kind).1 := fun h => by
   unfold widthBelow_j0; rw [show (p.Kind == 3) = false by simp [h]]; rfl
  by_cases hO : OF p
  ·
   have hk := hO.kind; have hOk := hO.kids; have hOe := hO.exprs; rw [onlyFields_iff.2 hO]
   have hB : (bif (bif ((Pln.Kind p) != 1) then ((Pln.Table p) != 0) else false) then true else (bif ((Pln.Kind p) != 8) then ((length (Pln.Cols p) : Int) != 0) else false)) = false := by
    have a : (bif ((Pln.Kind p) != 1) then ((Pln.Table p) != 0) else false) = false := by
     by_cases h : p.Kind = 1
     · rw [h]; rfl
     · rw [hO.table h]; simp
    have b : (bif ((Pln.Kind p) != 8) then ((length (Pln.Cols p) : Int) != 0) else false) = false := by
     by_cases h : p.Kind = 8
     · rw [h]; rfl
     · rw [hO.cols h]; simp
    rw [a, b]; rfl
   rw [hB, cond_false]; rw [← hOk]; by_cases hl : 0 < (p.Kids.length : Int) ∧ l = 0
   · rw [decide_eq_true hl.1, hl.2]; simp
   ·
    have hc : (bif (decide (0 < (length (Pln.Kids p) : Int))) then (l == 0) else false) = false := by
     by_cases h0 : 0 < (p.Kids.length : Int)
     · rw [decide_eq_true h0, cond_true]; simp; exact fun h => hl ⟨h0, h⟩
     · rw [decide_eq_false h0]; rfl
    rw [hc, show ((length p.Kids : Int) != (length p.Kids : Int)) = false by simp]; simp only [Bool.not_true, cond_false]; by_cases h1 : p.Kind = 1
    ·
     rw [j0 (by omega), show ((length p.Exprs : Int) != (partsOfKind p.Kind).1) = false by simp; omega, pl0 _ _ _ _ (by omega)]; simp only [cond_false, Sum.elim_inl]; unfold planWidth_j5; rw [show (p.Kind == 1) = true by simp [h1], cond_true, cond_true]; by_cases hr : 0 ≤ p.Table ∧ p.Table ≤ (ws.length : Int) - 1
     · rw [inRange_iff.2 hr, decide_eq_false (show ¬ p.Table < 0 by omega), decide_eq_false (show ¬ (ws.length : Int) ≤ p.Table by omega)]; rfl
     ·
      have : inRange p.Table 0 ((ws.length : Int) - 1) = false := by
       rw [Bool.eq_false_iff]; exact fun h => hr (inRange_iff.1 h)
      have d : (bif decide (p.Table < 0) then true else decide ((ws.length : Int) ≤ p.Table)) = true := by
       by_cases h : p.Table < 0
       · rw [decide_eq_true h]; rfl
       · rw [decide_eq_false h, decide_eq_true (show (ws.length : Int) ≤ p.Table by omega)]; rfl
      rw [this, d]; rfl
    ·
     rw [show (p.Kind == 1) = false by simp [h1], cond_false]; by_cases h3 : p.Kind = 3 ∧ ¬ (1 ≤ (p.Exprs.length : Int) ∧ (p.Exprs.length : Int) ≤ 6)
     ·
      have hv : validWidth (length p.Exprs : Int) = false := by
       rw [Bool.eq_false_iff]; exact fun h => h3.2 (validWidth_iff.1 h)
      have e0 : ((length p.Exprs : Int) != widthBelow_j0 p) = true := by
       unfold widthBelow_j0; rw [hv, h3.1]; (have : (partsOfKind 3).1 = 1 := by decide); simp only [Int.reduceBEq, cond_true, cond_false, this]; simp; have := h3.2; omega
      rw [e0, pl1 _ _ _ _ (by omega)]; simp only [cond_true]
      cases (planWidth_r f (getD p.Kids 0 Pln.zero) ws (l - 1) == 0) with
      | true => rfl
      | false =>
       rw [cond_false]; simp only [Sum.elim_inl]; unfold planWidth_j5 planWidth_j4; rw [show (p.Kind == 1) = false by simp [h1], show (p.Kind == 2) = false by simp [h3.1], show (p.Kind == 3) = true by simp [h3.1]]; simp only [cond_true, cond_false, Sum.elim_inr]; rw [pw_eq]; have h2 := h3.2; by_cases h6 : 6 < (p.Exprs.length : Int)
       · rw [decide_eq_true h6]; cases allv p _ <;> rfl
       · rw [show (p.Exprs.length : Int) = 0 by omega]; cases allv p _ <;> rfl
     ·
      have e0 : ((length p.Exprs : Int) != widthBelow_j0 p) = false := by
       by_cases h : p.Kind = 3
       · have hv : validWidth (length p.Exprs : Int) = true := validWidth_iff.2 (Decidable.byContradiction fun hn => h3 ⟨h, hn⟩); unfold widthBelow_j0; rw [hv, h]; simp
       · rw [j0 h, hOe h]; simp
      rw [e0, cond_false]; simp only [cond_false]; have h6 : p.Kind = 3 → 1 ≤ (p.Exprs.length : Int) ∧ (p.Exprs.length : Int) ≤ 6 := fun h => Decidable.byContradiction fun hn => h3 ⟨h, hn⟩; by_cases h2 : p.Kids.length = 2
      ·
       rw [pl2 _ _ _ _ h2, wb2 _ _ _ _ h2, ih, ih]; generalize widthBelow_r f (getD p.Kids 0 Pln.zero) ws (l - 1) = a; generalize widthBelow_r f (getD p.Kids 1 Pln.zero) ws (l - 1) = b
       cases (a == 0) with
       | true => rfl
       | false =>
        simp only [cond_false]
        cases (b == 0) with
        | true => rfl
        | false =>
         simp only [cond_false, Sum.elim_inl]; exact over_eq ws hO a b _ h1 (by rw [if_pos (by omega)]) h6
      ·
       rw [pl1 _ _ _ _ (by omega), wb1 _ _ _ _ (by omega), ih]; generalize widthBelow_r f (getD p.Kids 0 Pln.zero) ws (l - 1) = a
       cases (a == 0) with
       | true => rfl
       | false =>
        simp only [cond_false, Sum.elim_inl]; exact over_eq ws hO a 0 _ h1 (by rw [if_neg (by omega)]) h6
  ·
   have hf : onlyFields p = false := by
    rw [Bool.eq_false_iff]; exact fun h => hO (onlyFields_iff.1 h)
   rw [hf]; simp only [Bool.not_false, cond_true]
   cases hA : (bif (bif ((length (Pln.Kids p) : Int) != ((partsOfKind (Pln.Kind p)).2)) then true else ((length (Pln.Exprs p) : Int) != widthBelow_j0 p)) then true else (bif (decide (0 < ((partsOfKind (Pln.Kind p)).2))) then (l == 0) else false)) with
   | true => rfl
   | false =>
    rw [cond_false]
    cases hB : (bif (bif ((Pln.Kind p) != 1) then ((Pln.Table p) != 0) else false) then true else (bif ((Pln.Kind p) != 8) then ((length (Pln.Cols p) : Int) != 0) else false)) with
    | true => rfl
    | false =>
     exfalso; have hA := or_neg (or_neg hA).1; have k1 := bne_neg hA.1; have k2 := bne_neg hA.2; have hB := or_neg hB; refine hO ⟨by omega, k1, fun h => by rw [← j0 h]; exact k2, fun h => ?_, fun h => ?_⟩
     ·
      have := hB.1
      rw [show (p.Kind != 1) = true by simp [h], cond_true] at this
      exact bne_neg this
     ·
      have := hB.2
      rw [show (p.Kind != 8) = true by simp [h], cond_true] at this
      have := bne_neg this
      omega

theorem planWidth_b {ws : List Int} (hw : VW ws) (f : Nat) (p : Pln) (l : Int) : 0 ≤ planWidth_r f p ws l ∧ planWidth_r f p ws l ≤ 6 := by
 rw [planWidth_eq]; exact widthBelow_b hw f p l

theorem app06 {w : List Int} {i : Nat} {x : Int} (h : length w = i ∧ ∀ j, 0 ≤ getD w j 0 ∧ getD w j 0 ≤ 6) (hx : 0 ≤ x ∧ x ≤ 6) : length (w ++ ([x] : List Int)) = i + 1 ∧ ∀ j, 0 ≤ getD (w ++ ([x] : List Int)) j 0 ∧ getD (w ++ ([x] : List Int)) j 0 ≤ 6 := by
 refine ⟨by simp [h.1], fun j => ?_⟩; rw [List.getD_eq_getElem?_getD, List.getElem?_append]; split
 ·
  have := h.2 j
  rwa [List.getD_eq_getElem?_getD] at this
 ·
  match j - w.length with
  | 0 => simpa using hx
  | _ + 1 => simp

theorem planWidth_okn (fuel : Nat) : FnOK Try.prog 112 (planWidth_spn fuel) := by
 induction fuel with
 | zero => exact FnOK.never Try.func112 (by kernel_rfl) rfl (fun _ _ _ h => absurd h.2 (Nat.not_lt_zero _))
 | succ fuel ih => ?_
 have hC : CtxOK Try.prog (mkCtx tyL [(88, inRange_sp), (96, ValidExpr_sp), (112, (planWidth_spn fuel)), (145, onlyFields_sp), (146, projectWidth_sp), (147, validCols_sp)]) := CtxOK.cons inRange_ok (CtxOK.cons ValidExpr_ok (CtxOK.cons ih (CtxOK.cons onlyFields_ok (CtxOK.cons projectWidth_ok (CtxOK.cons validCols_ok (CtxOK.nil tyOK)))))); have hM : Try.prog.follows .mixedOrders = true := Try.checked.mixed; refine FnOK.of_body Try.func112 (by kernel_rfl) rfl (C := (mkCtx tyL [(88, inRange_sp), (96, ValidExpr_sp), (112, (planWidth_spn fuel)), (145, onlyFields_sp), (146, projectWidth_sp), (147, validCols_sp)])) hC.ty (by kernel_rfl) ?_; intro (p : Pln) (ws : List Int) (deep : Int) hwf hpre E; have hpre : (VW ws ∧ (0 ≤ deep ∧ deep ≤ 8)) ∧ SizeOf.sizeOf p < fuel + 1 := hpre; have hw_p : Wf ⟨(.named 2), (p : Pln)⟩ := hwf _ (List.Mem.head _); obtain ⟨hr_p_Kind, hr_p_Table, hl_p_Exprs, hl_p_Cols, hl_p_Kids⟩ := Pln.wfl hw_p; have hw_ws : Wf ⟨(.slice (.int .i64)), (ws : List Int)⟩ := hwf _ (List.Mem.tail _ (List.Mem.head _)); have hl_ws : (length ws : Int) ≤ 9223372036854775807 := hw_ws.len; have hw_deep : Wf ⟨(.int .i64), (deep : Int)⟩ := hwf _ (List.Mem.tail _ (List.Mem.tail _ (List.Mem.head _))); have hr_deep : -9223372036854775808 ≤ deep ∧ deep ≤ 9223372036854775807 := hw_deep.int_inv; have e0 : planWidth_r (fuel + 1) p ws deep = planWidth_r (fuel + 1) p ws deep := rfl; refine seq (r1U hC [1, 2, 3] [12] [(3, .ref 12 1 0)] [(12, .box 1 [sI (Pln.Kind p), sI (Pln.Table p), sD9 (Pln.Exprs p), sD7 (Pln.Cols p), sD10 (Pln.Kids p)])] ?_); refine seq (r1U hC [1, 2, 3, 7] [12, 40] [(7, .arr 40 1)] [(40, .arr 1 (.int .i64) (([] : List Int) : List Int))] ?_); refine seq (seq (r0U hC [1, 2, 3, 7, 23] [12, 40] [(23, sB (bif (!(onlyFields (Pln.mk (Pln.Kind p) (Pln.Table p) (Pln.Exprs p) (Pln.Cols p) (Pln.Kids p)))) then true else (bif (decide (0 < (length (Pln.Kids p) : Int))) then (deep == 0) else false)))] [] [(True), (((!(onlyFields (Pln.mk (Pln.Kind p) (Pln.Table p) (Pln.Exprs p) (Pln.Cols p) (Pln.Kids p)))) = false) → (((!(onlyFields (Pln.mk (Pln.Kind p) (Pln.Table p) (Pln.Exprs p) (Pln.Cols p) (Pln.Kids p)))) = false))), (((!(onlyFields (Pln.mk (Pln.Kind p) (Pln.Table p) (Pln.Exprs p) (Pln.Cols p) (Pln.Kids p)))) = false) → (((!(onlyFields (Pln.mk (Pln.Kind p) (Pln.Table p) (Pln.Exprs p) (Pln.Cols p) (Pln.Kids p)))) = false))), (((!(onlyFields (Pln.mk (Pln.Kind p) (Pln.Table p) (Pln.Exprs p) (Pln.Cols p) (Pln.Kids p)))) = false) → (((!(onlyFields (Pln.mk (Pln.Kind p) (Pln.Table p) (Pln.Exprs p) (Pln.Cols p) (Pln.Kids p)))) = false))), (((!(onlyFields (Pln.mk (Pln.Kind p) (Pln.Table p) (Pln.Exprs p) (Pln.Cols p) (Pln.Kids p)))) = false) → (((!(onlyFields (Pln.mk (Pln.Kind p) (Pln.Table p) (Pln.Exprs p) (Pln.Cols p) (Pln.Kids p)))) = false))), ((((!(onlyFields (Pln.mk (Pln.Kind p) (Pln.Table p) (Pln.Exprs p) (Pln.Cols p) (Pln.Kids p)))) = false) ∧ ((decide (0 < (length (Pln.Kids p) : Int))) = true)) → ((((!(onlyFields (Pln.mk (Pln.Kind p) (Pln.Table p) (Pln.Exprs p) (Pln.Cols p) (Pln.Kids p)))) = false) ∧ ((decide (0 < (length (Pln.Kids p) : Int))) = true)))), (((!(onlyFields (Pln.mk (Pln.Kind p) (Pln.Table p) (Pln.Exprs p) (Pln.Cols p) (Pln.Kids p)))) = false) → (((!(onlyFields (Pln.mk (Pln.Kind p) (Pln.Table p) (Pln.Exprs p) (Pln.Cols p) (Pln.Kids p)))) = false))), (((!(onlyFields (Pln.mk (Pln.Kind p) (Pln.Table p) (Pln.Exprs p) (Pln.Cols p) (Pln.Kids p)))) = false) → (((decide (0 < (length (Pln.Kids p) : Int))) = true) → ((((!(onlyFields (Pln.mk (Pln.Kind p) (Pln.Table p) (Pln.Exprs p) (Pln.Cols p) (Pln.Kids p)))) = false) ∧ ((decide (0 < (length (Pln.Kids p) : Int))) = true))))), (((!(onlyFields (Pln.mk (Pln.Kind p) (Pln.Table p) (Pln.Exprs p) (Pln.Cols p) (Pln.Kids p)))) = false) → (((!(onlyFields (Pln.mk (Pln.Kind p) (Pln.Table p) (Pln.Exprs p) (Pln.Cols p) (Pln.Kids p)))) = false)))] ?_ ?_))
 ·
  exact ⟨trivial, (by intro g1; assumption), (by intro g2; assumption), (by intro g3; assumption), (by intro g4; assumption), (by intro g5; assumption), (by intro g6; assumption), (by intro g7; intro g8; exact ⟨by assumption, by assumption⟩), (by intro g9; assumption), trivial⟩
 refine cdE e0 ?_ ?_
 · intro h15q e16; refine seq (r1 hC [6] [] ⟨[(6, sI 0)], []⟩ ?_); exact ret (rI 0 e16)
 ·
  intro h17q e18; refine kpU [1, 2, 3, 7] [12, 40] [] [] ?_; refine AW.skip (seq (seq (r1U hC [1, 2, 3, 7, 8] [12, 40] [(8, sI 0)] [] ?_))); refine lpB (ζ := (List Int)) (fun x => ⟨[(1, sD7 ws), (3, .ref 12 1 0), (7, .arr 40 1)], [(12, .box 1 [sI (Pln.Kind p), sI (Pln.Table p), sD9 (Pln.Exprs p), sD7 (Pln.Cols p), sD10 (Pln.Kids p)]), (40, .arr 1 (.int .i64) (x : List Int))]⟩) (fun x => length x = length (Pln.Kids p) ∧ ∀ j, 0 ≤ getD x j 0 ∧ getD x j 0 ≤ 6) (fun x => (.inl x)) (α := Nat × (List Int)) (fun x => ⟨[(1, sD7 ws), (2, sI deep), (3, .ref 12 1 0), (7, .arr 40 1), (8, sI ((x.1 : Nat) : Int))], [(12, .box 1 [sI (Pln.Kind p), sI (Pln.Table p), sD9 (Pln.Exprs p), sD7 (Pln.Cols p), sD10 (Pln.Kids p)]), (40, .arr 1 (.int .i64) (x.2 : List Int))]⟩) (fun x => (length x.2 = x.1 ∧ ∀ j, 0 ≤ getD x.2 j 0 ∧ getD x.2 j 0 ≤ 6) ∧ x.1 ≤ length (Pln.Kids p)) (fun x => (length (Pln.Kids p)) - x.1) (fun k x => planWidth_l0 (planWidth_r fuel) p ws deep k x.1 x.2) (0, ([] : List Int)) (by kernel_rfl) ?_ ?_ ?_
  · exact ⟨⟨rfl, fun j => by simp⟩, Nat.zero_le _⟩
  ·
   intro x k117q hI0 hk115 e116; obtain ⟨i, w⟩ := x; replace hI0 : (length w = i ∧ ∀ j, 0 ≤ getD w j 0 ∧ getD w j 0 ≤ 6) ∧ i ≤ length (Pln.Kids p) := hI0; refine seq (seq (r1U hC [1, 2, 3, 7, 8, 28] [12, 40] [(28, sB (decide ((i : Int) < (length (Pln.Kids p) : Int))))] [] ?_)); refine cdE e116 ?_ ?_
   ·
    intro h122q e123; refine kpU [1, 2, 3, 7, 8] [12, 40] [] [] ?_; refine AW.skip (seq (block (seq (r0U hC [1, 2, 3, 7, 8, 9] [12, 40] [(9, sI ((planWidth_r fuel) (getD (Pln.Kids p) i Pln.zero) ws (deep - 1)))] [] [IX (i : Int) (length (Pln.Kids p) : Int), R64 (deep - 1), ((VW ws ∧ (0 ≤ (deep - 1) ∧ (deep - 1) ≤ 8)) ∧ SizeOf.sizeOf (getD (Pln.Kids p) i Pln.zero) < fuel)] ?_ ?_))))
    ·
     exact ⟨IX.of (by (have hO : OF p := by first | exact onlyFields_of h122q.1 | exact onlyFields_of h17q.1 | exact onlyFields_of trivial.1 | exact onlyFields_of trivial.1 | exact onlyFields_of trivial.1 | exact onlyFields_of trivial.1 | exact onlyFields_of trivial.1 | exact onlyFields_of trivial.1 | exact onlyFields_of trivial.1); have hpc := parts2 (Pln.Kind p); have hOk := hO.kids; have hOe := hO.exprs; have hOc := hO.kind; (first | omega | (have hr := inRange_iff.1 h122q; omega) | (have hk := hM0 (by assumption); have := hJ0.1; omega) | (have := hJ0.1; have h0 := hJ0.2 0; have h1 := hJ0.2 1; omega) | (have := hI0.1.1; simp only [List.length_cons, List.length_nil]; omega))), R64.of (by (have hO : OF p := by first | exact onlyFields_of h122q.1 | exact onlyFields_of h17q.1 | exact onlyFields_of trivial.1 | exact onlyFields_of trivial.1 | exact onlyFields_of trivial.1 | exact onlyFields_of trivial.1 | exact onlyFields_of trivial.1 | exact onlyFields_of trivial.1 | exact onlyFields_of trivial.1); have hpc := parts2 (Pln.Kind p); have hOk := hO.kids; have hOe := hO.exprs; have hOc := hO.kind; (first | omega | (have hr := inRange_iff.1 h122q; omega) | (have hk := hM0 (by assumption); have := hJ0.1; omega) | (have := hJ0.1; have h0 := hJ0.2 0; have h1 := hJ0.2 1; omega) | (have := hI0.1.1; simp only [List.length_cons, List.length_nil]; omega))), (by (have hO : OF p := by first | exact onlyFields_of h122q.1 | exact onlyFields_of h17q.1 | exact onlyFields_of trivial.1 | exact onlyFields_of trivial.1 | exact onlyFields_of trivial.1 | exact onlyFields_of trivial.1 | exact onlyFields_of trivial.1 | exact onlyFields_of trivial.1 | exact onlyFields_of trivial.1); have hpc := parts2 (Pln.Kind p); have hOk := hO.kids; have hOe := hO.exprs; have hOc := hO.kind; exact ⟨⟨hpre.1.1, by omega⟩, Nat.lt_of_lt_of_le (pkid_lt (by omega)) (Nat.le_of_lt_succ hpre.2)⟩), trivial⟩
    refine seq (seq (r1U hC [1, 2, 3, 7, 8, 9, 41] [12, 40] [(41, sB (((planWidth_r fuel) (getD (Pln.Kids p) i Pln.zero) ws (deep - 1)) == 0))] [] ?_)); refine cdE e123 ?_ ?_
    · intro h143q e144; refine seq (r1 hC [6] [] ⟨[(6, sI 0)], []⟩ ?_); refine ret ?_; have e145 := e18.trans (elim_r e144); exact rI 0 e145
    ·
     intro h146q e147; refine kpU [1, 2, 3, 7, 8, 9] [12, 40] [] [] ?_; refine AW.skip (r0U hC [1, 2, 3, 7, 8] [12, 40] [] [(40, .arr 1 (.int .i64) ((w ++ ([((planWidth_r fuel) (getD (Pln.Kids p) i Pln.zero) ws (deep - 1))] : List Int)) : List Int))] [((length w : Int) + (length ([((planWidth_r fuel) (getD (Pln.Kids p) i Pln.zero) ws (deep - 1))] : List Int) : Int) ≤ 4294967296)] ?_ ?_)
     ·
      exact ⟨(by (have hO : OF p := by first | exact onlyFields_of h146q.1 | exact onlyFields_of h122q.1 | exact onlyFields_of h17q.1 | exact onlyFields_of trivial.1 | exact onlyFields_of trivial.1 | exact onlyFields_of trivial.1 | exact onlyFields_of trivial.1 | exact onlyFields_of trivial.1 | exact onlyFields_of trivial.1); have hpc := parts2 (Pln.Kind p); have hOk := hO.kids; have hOe := hO.exprs; have hOc := hO.kind; (first | omega | (have hr := inRange_iff.1 h146q; omega) | (have hk := hM0 (by assumption); have := hJ0.1; omega) | (have := hJ0.1; have h0 := hJ0.2 0; have h1 := hJ0.2 1; omega) | (have := hI0.1.1; simp only [List.length_cons, List.length_nil]; omega))), trivial⟩
     refine r0U hC [1, 2, 3, 7, 8] [12, 40] [(8, sI ((i + 1 : Nat) : Int))] [] [R64 ((i + 1 : Nat) : Int)] ?_ ?_
     ·
      exact ⟨R64.of (by (have hO : OF p := by first | exact onlyFields_of h146q.1 | exact onlyFields_of h122q.1 | exact onlyFields_of h17q.1 | exact onlyFields_of trivial.1 | exact onlyFields_of trivial.1 | exact onlyFields_of trivial.1 | exact onlyFields_of trivial.1 | exact onlyFields_of trivial.1 | exact onlyFields_of trivial.1); have hpc := parts2 (Pln.Kind p); have hOk := hO.kids; have hOe := hO.exprs; have hOc := hO.kind; (first | omega | (have hr := inRange_iff.1 h146q; omega) | (have hk := hM0 (by assumption); have := hJ0.1; omega) | (have := hJ0.1; have h0 := hJ0.2 0; have h1 := hJ0.2 1; omega) | (have := hI0.1.1; simp only [List.length_cons, List.length_nil]; omega))), trivial⟩
     refine bk (i + 1, (w ++ ([((planWidth_r fuel) (getD (Pln.Kids p) i Pln.zero) ws (deep - 1))] : List Int))) e147 hk115 ?_ ?_
     · exact ⟨app06 hI0.1 (planWidth_b hpre.1.1 fuel _ _), by omega⟩
     · omega
   · intro h148q e149; refine kpU [1, 3, 7] [12, 40] [] [] ?_; refine exit ?_; refine meet w (by kernel_rfl) ⟨?_, e149⟩; exact ⟨by have := hI0.1.1; have := hI0.2; omega, hI0.1.2⟩
  ·
   intro w hJ0 e150; have e151 := e18.trans (elim_l e150); refine seq (seq (r1U hC [1, 3, 7, 47] [12, 40] [(47, sI (Pln.Kind p))] [] ?_)); refine block (seq (r1U hC [1, 3, 7, 47, 48] [12, 40] [(48, sB ((Pln.Kind p) == 1))] [] ?_)); refine cutQ (α := Unit) (fun x => ⟨[], []⟩) (fun x => (True) ∧ (planWidth_j5 p ws w) = (.inl ())) ?_ ?_
   ·
    skip; have e58967 : (planWidth_j5 p ws w) = (planWidth_j5 p ws w) := rfl; refine cd ((Pln.Kind p) == 1) ?_ ?_
    ·
     intro h58968; have h58968q := (beq_pos h58968); have e58969 := e58967.trans (bif_t h58968); refine seq (r0U hC [1, 3, 55] [12] [(55, sB (inRange (Pln.Table p) 0 ((length ws : Int) - 1)))] [] [R64 ((length ws : Int) - 1), (True)] ?_ ?_)
     ·
      exact ⟨R64.of (by (have hO : OF p := by first | exact onlyFields_of h58968q.1 | exact onlyFields_of h17q.1 | exact onlyFields_of trivial.1 | exact onlyFields_of trivial.1 | exact onlyFields_of trivial.1 | exact onlyFields_of trivial.1 | exact onlyFields_of trivial.1 | exact onlyFields_of trivial.1 | exact onlyFields_of trivial.1); have hpc := parts2 (Pln.Kind p); have hOk := hO.kids; have hOe := hO.exprs; have hOc := hO.kind; (first | omega | (have hr := inRange_iff.1 h58968q; omega) | (have hk := hM0 (by assumption); have := hJ0.1; omega) | (have := hJ0.1; have h0 := hJ0.2 0; have h1 := hJ0.2 1; omega) | (have := hI0.1.1; simp only [List.length_cons, List.length_nil]; omega))), trivial, trivial⟩
     refine cdE e58969 ?_ ?_
     ·
      intro h58976q e58977; refine seq (r0 hC [6] [] ⟨[(6, sI (getD ws (Int.toNat (Pln.Table p)) 0))], []⟩ [IX (Pln.Table p) (length ws : Int)] ?_ ?_)
      ·
       exact ⟨IX.of (by (have hO : OF p := by first | exact onlyFields_of h58976q.1 | exact onlyFields_of h58968q.1 | exact onlyFields_of h17q.1 | exact onlyFields_of trivial.1 | exact onlyFields_of trivial.1 | exact onlyFields_of trivial.1 | exact onlyFields_of trivial.1 | exact onlyFields_of trivial.1 | exact onlyFields_of trivial.1); have hpc := parts2 (Pln.Kind p); have hOk := hO.kids; have hOe := hO.exprs; have hOc := hO.kind; (first | omega | (have hr := inRange_iff.1 h58976q; omega) | (have hk := hM0 (by assumption); have := hJ0.1; omega) | (have := hJ0.1; have h0 := hJ0.2 0; have h1 := hJ0.2 1; omega) | (have := hI0.1.1; simp only [List.length_cons, List.length_nil]; omega))), trivial⟩
      refine ret ?_; have e58978 := e151.trans (elim_r e58977); exact rI _ e58978
     · intro h58979q e58980; refine kp [] [] ⟨[], []⟩ ?_; refine AW.skip ?_; refine meet () (by kernel_rfl) ⟨?_, e58980⟩; exact trivial
    ·
     intro h58981; have h58981q := (beq_neg h58981); have e58982 := e58967.trans (bif_f h58981); refine seq (r1U hC [3, 7, 47, 61] [12, 40] [(61, sB ((Pln.Kind p) == 2))] [] ?_); refine cutQ (α := Unit) (fun x => ⟨[], []⟩) (fun x => (True) ∧ (planWidth_j4 p w) = (.inl ())) ?_ ?_
     ·
      skip; have e66447 : (planWidth_j4 p w) = (planWidth_j4 p w) := rfl; refine cd ((Pln.Kind p) == 2) ?_ ?_
      ·
       intro h66448; have h66448q := (beq_pos h66448); have e66449 := e66447.trans (bif_t h66448); refine seq (d0U hC hM [7, 70] [40] [(70, sB (ValidExpr (getD (Pln.Exprs p) 0 Xpr.zero) (getD w 0 0)))] [] [IX (0 : Int) (length (Pln.Exprs p) : Int), IX (0 : Int) (length w : Int), (True)] ?_ ?_)
       ·
        exact ⟨IX.of (by (have hO : OF p := by first | exact onlyFields_of h66448q.1 | exact onlyFields_of h58981q.1 | exact onlyFields_of h17q.1 | exact onlyFields_of trivial.1 | exact onlyFields_of trivial.1 | exact onlyFields_of trivial.1 | exact onlyFields_of trivial.1 | exact onlyFields_of trivial.1 | exact onlyFields_of trivial.1); have hpc := parts2 (Pln.Kind p); have hOk := hO.kids; have hOe := hO.exprs; have hOc := hO.kind; (first | omega | (have hr := inRange_iff.1 h66448q; omega) | (have hk := hM0 (by assumption); have := hJ0.1; omega) | (have := hJ0.1; have h0 := hJ0.2 0; have h1 := hJ0.2 1; omega) | (have := hI0.1.1; simp only [List.length_cons, List.length_nil]; omega))), IX.of (by (have hO : OF p := by first | exact onlyFields_of h66448q.1 | exact onlyFields_of h58981q.1 | exact onlyFields_of h17q.1 | exact onlyFields_of trivial.1 | exact onlyFields_of trivial.1 | exact onlyFields_of trivial.1 | exact onlyFields_of trivial.1 | exact onlyFields_of trivial.1 | exact onlyFields_of trivial.1); have hpc := parts2 (Pln.Kind p); have hOk := hO.kids; have hOe := hO.exprs; have hOc := hO.kind; (first | omega | (have hr := inRange_iff.1 h66448q; omega) | (have hk := hM0 (by assumption); have := hJ0.1; omega) | (have := hJ0.1; have h0 := hJ0.2 0; have h1 := hJ0.2 1; omega) | (have := hI0.1.1; simp only [List.length_cons, List.length_nil]; omega))), trivial, trivial⟩
       refine cdE e66449 ?_ ?_
       ·
        intro h66457q e66458; refine seq (r0 hC [6] [] ⟨[(6, sI (getD w 0 0))], []⟩ [IX (0 : Int) (length w : Int)] ?_ ?_)
        ·
         exact ⟨IX.of (by (have hO : OF p := by first | exact onlyFields_of h66457q.1 | exact onlyFields_of h66448q.1 | exact onlyFields_of h58981q.1 | exact onlyFields_of h17q.1 | exact onlyFields_of trivial.1 | exact onlyFields_of trivial.1 | exact onlyFields_of trivial.1 | exact onlyFields_of trivial.1 | exact onlyFields_of trivial.1); have hpc := parts2 (Pln.Kind p); have hOk := hO.kids; have hOe := hO.exprs; have hOc := hO.kind; (first | omega | (have hr := inRange_iff.1 h66457q; omega) | (have hk := hM0 (by assumption); have := hJ0.1; omega) | (have := hJ0.1; have h0 := hJ0.2 0; have h1 := hJ0.2 1; omega) | (have := hI0.1.1; simp only [List.length_cons, List.length_nil]; omega))), trivial⟩
        refine ret ?_; have e66459 := e58982.trans (elim_r e66458); have e66460 := e151.trans (elim_r e66459); exact rI _ e66460
       · intro h66461q e66462; refine kp [] [] ⟨[], []⟩ ?_; refine AW.skip ?_; refine meet () (by kernel_rfl) ⟨?_, e66462⟩; exact trivial
      ·
       intro h66463; have h66463q := (beq_neg h66463); have e66464 := e66447.trans (bif_f h66463); refine seq (r1U hC [3, 7, 47, 74] [12, 40] [(74, sB ((Pln.Kind p) == 3))] [] ?_); refine cdE e66464 ?_ ?_
       ·
        intro h68398q e68399; refine seq (d0 hC hM [6] [] ⟨[(6, sI (projectWidth (Pln.Exprs p) (getD w 0 0)))], []⟩ [IX (0 : Int) (length w : Int), (True)] ?_ ?_)
        ·
         exact ⟨IX.of (by (have hO : OF p := by first | exact onlyFields_of h68398q.1 | exact onlyFields_of h66463q.1 | exact onlyFields_of h58981q.1 | exact onlyFields_of h17q.1 | exact onlyFields_of trivial.1 | exact onlyFields_of trivial.1 | exact onlyFields_of trivial.1 | exact onlyFields_of trivial.1 | exact onlyFields_of trivial.1); have hpc := parts2 (Pln.Kind p); have hOk := hO.kids; have hOe := hO.exprs; have hOc := hO.kind; (first | omega | (have hr := inRange_iff.1 h68398q; omega) | (have hk := hM0 (by assumption); have := hJ0.1; omega) | (have := hJ0.1; have h0 := hJ0.2 0; have h1 := hJ0.2 1; omega) | (have := hI0.1.1; simp only [List.length_cons, List.length_nil]; omega))), trivial, trivial⟩
        refine ret ?_; have e68400 := e58982.trans (elim_r e68399); have e68401 := e151.trans (elim_r e68400); exact rI _ e68401
       ·
        intro h68402q e68403; refine seq (seq (r1U hC [3, 7, 47, 82] [12, 40] [(82, sB ((Pln.Kind p) == 4))] [] ?_)); refine cutQ (α := Bool) (fun x => ⟨[(3, .ref 12 1 0), (7, .arr 40 1), (47, sI (Pln.Kind p)), (82, sB x)], [(12, .box 1 [sI (Pln.Kind p), sI (Pln.Table p), sD9 (Pln.Exprs p), sD7 (Pln.Cols p), sD10 (Pln.Kids p)]), (40, .arr 1 (.int .i64) (w : List Int))]⟩) (fun x => (x = true → (Pln.Kind p = 4 ∨ Pln.Kind p = 5)) ∧ (planWidth_j0 p) = x) ?_ ?_
        ·
         skip; have e68412 : (planWidth_j0 p) = (planWidth_j0 p) := rfl; refine cd ((Pln.Kind p) == 4) ?_ ?_
         · intro h68413; have h68413q := (beq_pos h68413); have e68414 := e68412.trans (bif_t h68413); refine AW.skip ?_; refine meet ((Pln.Kind p) == 4) (by kernel_rfl) ⟨?_, e68414⟩; omega
         · intro h68415; have h68415q := (beq_neg h68415); have e68416 := e68412.trans (bif_f h68415); refine r1U hC [3, 7, 47, 82] [12, 40] [(82, sB ((Pln.Kind p) == 5))] [] ?_; refine meet ((Pln.Kind p) == 5) (by kernel_rfl) ⟨?_, e68416⟩; intro hv; first | omega | (have := beq_pos hv; omega)
        ·
         intro v82 hR; obtain ⟨hM0, e68417⟩ := hR; replace hM0 : v82 = true → (Pln.Kind p = 4 ∨ Pln.Kind p = 5) := hM0; have e68418 := e68403.trans (then_eq e68417); refine cutQ (α := Unit) (fun x => ⟨[], []⟩) (fun x => (True) ∧ (planWidth_j3 p w v82) = (.inl ())) ?_ ?_
         ·
          skip; have e69591 : (planWidth_j3 p w v82) = (planWidth_j3 p w v82) := rfl; refine cd v82 ?_ ?_
          ·
           intro h69592; have h69592q : v82 = true := h69592; have e69593 := e69591.trans (bif_t h69592); refine seq (d0U hC hM [7, 106] [40] [(106, sB (bif (decide (((getD w 0 0) + (getD w 1 0)) ≤ 6)) then (ValidExpr (getD (Pln.Exprs p) 0 Xpr.zero) ((getD w 0 0) + (getD w 1 0))) else false))] [] [IX (0 : Int) (length w : Int), IX (1 : Int) (length w : Int), R64 ((getD w 0 0) + (getD w 1 0)), (((decide (((getD w 0 0) + (getD w 1 0)) ≤ 6)) = true) → (((decide (((getD w 0 0) + (getD w 1 0)) ≤ 6)) = true))), (((decide (((getD w 0 0) + (getD w 1 0)) ≤ 6)) = true) → (((decide (((getD w 0 0) + (getD w 1 0)) ≤ 6)) = true))), (((decide (((getD w 0 0) + (getD w 1 0)) ≤ 6)) = true) → IX (0 : Int) (length (Pln.Exprs p) : Int)), (((decide (((getD w 0 0) + (getD w 1 0)) ≤ 6)) = true) → (((decide (((getD w 0 0) + (getD w 1 0)) ≤ 6)) = true))), (((decide (((getD w 0 0) + (getD w 1 0)) ≤ 6)) = true) → (((decide (((getD w 0 0) + (getD w 1 0)) ≤ 6)) = true))), (((decide (((getD w 0 0) + (getD w 1 0)) ≤ 6)) = true) → IX (0 : Int) (length w : Int)), (((decide (((getD w 0 0) + (getD w 1 0)) ≤ 6)) = true) → (((decide (((getD w 0 0) + (getD w 1 0)) ≤ 6)) = true))), (((decide (((getD w 0 0) + (getD w 1 0)) ≤ 6)) = true) → (((decide (((getD w 0 0) + (getD w 1 0)) ≤ 6)) = true))), (((decide (((getD w 0 0) + (getD w 1 0)) ≤ 6)) = true) → IX (1 : Int) (length w : Int)), (((decide (((getD w 0 0) + (getD w 1 0)) ≤ 6)) = true) → (((decide (((getD w 0 0) + (getD w 1 0)) ≤ 6)) = true))), (((decide (((getD w 0 0) + (getD w 1 0)) ≤ 6)) = true) → (((decide (((getD w 0 0) + (getD w 1 0)) ≤ 6)) = true))), (((decide (((getD w 0 0) + (getD w 1 0)) ≤ 6)) = true) → (((decide (((getD w 0 0) + (getD w 1 0)) ≤ 6)) = true))), (((decide (((getD w 0 0) + (getD w 1 0)) ≤ 6)) = true) → R64 ((getD w 0 0) + (getD w 1 0))), (((decide (((getD w 0 0) + (getD w 1 0)) ≤ 6)) = true) → (((decide (((getD w 0 0) + (getD w 1 0)) ≤ 6)) = true))), (((decide (((getD w 0 0) + (getD w 1 0)) ≤ 6)) = true) → (((decide (((getD w 0 0) + (getD w 1 0)) ≤ 6)) = true))), (((decide (((getD w 0 0) + (getD w 1 0)) ≤ 6)) = true) → (True)), (((decide (((getD w 0 0) + (getD w 1 0)) ≤ 6)) = true) → (((decide (((getD w 0 0) + (getD w 1 0)) ≤ 6)) = true)))] ?_ ?_)
           ·
            exact ⟨IX.of (by (have hO : OF p := by first | exact onlyFields_of h69592q.1 | exact onlyFields_of h68402q.1 | exact onlyFields_of h66463q.1 | exact onlyFields_of h58981q.1 | exact onlyFields_of h17q.1 | exact onlyFields_of trivial.1 | exact onlyFields_of trivial.1 | exact onlyFields_of trivial.1 | exact onlyFields_of trivial.1); have hpc := parts2 (Pln.Kind p); have hOk := hO.kids; have hOe := hO.exprs; have hOc := hO.kind; (first | omega | (have hr := inRange_iff.1 h69592q; omega) | (have hk := hM0 (by assumption); have := hJ0.1; omega) | (have := hJ0.1; have h0 := hJ0.2 0; have h1 := hJ0.2 1; omega) | (have := hI0.1.1; simp only [List.length_cons, List.length_nil]; omega))), IX.of (by (have hO : OF p := by first | exact onlyFields_of h69592q.1 | exact onlyFields_of h68402q.1 | exact onlyFields_of h66463q.1 | exact onlyFields_of h58981q.1 | exact onlyFields_of h17q.1 | exact onlyFields_of trivial.1 | exact onlyFields_of trivial.1 | exact onlyFields_of trivial.1 | exact onlyFields_of trivial.1); have hpc := parts2 (Pln.Kind p); have hOk := hO.kids; have hOe := hO.exprs; have hOc := hO.kind; (first | omega | (have hr := inRange_iff.1 h69592q; omega) | (have hk := hM0 (by assumption); have := hJ0.1; omega) | (have := hJ0.1; have h0 := hJ0.2 0; have h1 := hJ0.2 1; omega) | (have := hI0.1.1; simp only [List.length_cons, List.length_nil]; omega))), R64.of (by (have hO : OF p := by first | exact onlyFields_of h69592q.1 | exact onlyFields_of h68402q.1 | exact onlyFields_of h66463q.1 | exact onlyFields_of h58981q.1 | exact onlyFields_of h17q.1 | exact onlyFields_of trivial.1 | exact onlyFields_of trivial.1 | exact onlyFields_of trivial.1 | exact onlyFields_of trivial.1); have hpc := parts2 (Pln.Kind p); have hOk := hO.kids; have hOe := hO.exprs; have hOc := hO.kind; (first | omega | (have hr := inRange_iff.1 h69592q; omega) | (have hk := hM0 (by assumption); have := hJ0.1; omega) | (have := hJ0.1; have h0 := hJ0.2 0; have h1 := hJ0.2 1; omega) | (have := hI0.1.1; simp only [List.length_cons, List.length_nil]; omega))), (by intro g69594; assumption), (by intro g69595; assumption), (by intro g69596; refine IX.of ?_; (have hO : OF p := by first | exact onlyFields_of h69592q.1 | exact onlyFields_of h68402q.1 | exact onlyFields_of h66463q.1 | exact onlyFields_of h58981q.1 | exact onlyFields_of h17q.1 | exact onlyFields_of trivial.1 | exact onlyFields_of trivial.1 | exact onlyFields_of trivial.1 | exact onlyFields_of trivial.1); have hpc := parts2 (Pln.Kind p); have hOk := hO.kids; have hOe := hO.exprs; have hOc := hO.kind; (first | omega | (have hr := inRange_iff.1 h69592q; omega) | (have hk := hM0 (by assumption); have := hJ0.1; omega) | (have := hJ0.1; have h0 := hJ0.2 0; have h1 := hJ0.2 1; omega) | (have := hI0.1.1; simp only [List.length_cons, List.length_nil]; omega))), (by intro g69597; assumption), (by intro g69598; assumption), (by intro g69599; refine IX.of ?_; (have hO : OF p := by first | exact onlyFields_of h69592q.1 | exact onlyFields_of h68402q.1 | exact onlyFields_of h66463q.1 | exact onlyFields_of h58981q.1 | exact onlyFields_of h17q.1 | exact onlyFields_of trivial.1 | exact onlyFields_of trivial.1 | exact onlyFields_of trivial.1 | exact onlyFields_of trivial.1); have hpc := parts2 (Pln.Kind p); have hOk := hO.kids; have hOe := hO.exprs; have hOc := hO.kind; (first | omega | (have hr := inRange_iff.1 h69592q; omega) | (have hk := hM0 (by assumption); have := hJ0.1; omega) | (have := hJ0.1; have h0 := hJ0.2 0; have h1 := hJ0.2 1; omega) | (have := hI0.1.1; simp only [List.length_cons, List.length_nil]; omega))), (by intro g69600; assumption), (by intro g69601; assumption), (by intro g69602; refine IX.of ?_; (have hO : OF p := by first | exact onlyFields_of h69592q.1 | exact onlyFields_of h68402q.1 | exact onlyFields_of h66463q.1 | exact onlyFields_of h58981q.1 | exact onlyFields_of h17q.1 | exact onlyFields_of trivial.1 | exact onlyFields_of trivial.1 | exact onlyFields_of trivial.1 | exact onlyFields_of trivial.1); have hpc := parts2 (Pln.Kind p); have hOk := hO.kids; have hOe := hO.exprs; have hOc := hO.kind; (first | omega | (have hr := inRange_iff.1 h69592q; omega) | (have hk := hM0 (by assumption); have := hJ0.1; omega) | (have := hJ0.1; have h0 := hJ0.2 0; have h1 := hJ0.2 1; omega) | (have := hI0.1.1; simp only [List.length_cons, List.length_nil]; omega))), (by intro g69603; assumption), (by intro g69604; assumption), (by intro g69605; assumption), (by intro g69606; refine R64.of ?_; (have hO : OF p := by first | exact onlyFields_of h69592q.1 | exact onlyFields_of h68402q.1 | exact onlyFields_of h66463q.1 | exact onlyFields_of h58981q.1 | exact onlyFields_of h17q.1 | exact onlyFields_of trivial.1 | exact onlyFields_of trivial.1 | exact onlyFields_of trivial.1 | exact onlyFields_of trivial.1); have hpc := parts2 (Pln.Kind p); have hOk := hO.kids; have hOe := hO.exprs; have hOc := hO.kind; (first | omega | (have hr := inRange_iff.1 h69592q; omega) | (have hk := hM0 (by assumption); have := hJ0.1; omega) | (have := hJ0.1; have h0 := hJ0.2 0; have h1 := hJ0.2 1; omega) | (have := hI0.1.1; simp only [List.length_cons, List.length_nil]; omega))), (by intro g69607; assumption), (by intro g69608; assumption), (by intro g69609; trivial), (by intro g69610; assumption), trivial⟩
           refine cdE e69593 ?_ ?_
           ·
            intro h69619q e69620; refine seq (d0 hC hM [6] [] ⟨[(6, sI ((getD w 0 0) + (getD w 1 0)))], []⟩ [IX (0 : Int) (length w : Int), IX (1 : Int) (length w : Int), R64 ((getD w 0 0) + (getD w 1 0))] ?_ ?_)
            ·
             exact ⟨IX.of (by (have hO : OF p := by first | exact onlyFields_of h69619q.1 | exact onlyFields_of h69592q.1 | exact onlyFields_of h68402q.1 | exact onlyFields_of h66463q.1 | exact onlyFields_of h58981q.1 | exact onlyFields_of h17q.1 | exact onlyFields_of trivial.1 | exact onlyFields_of trivial.1 | exact onlyFields_of trivial.1); have hpc := parts2 (Pln.Kind p); have hOk := hO.kids; have hOe := hO.exprs; have hOc := hO.kind; (first | omega | (have hr := inRange_iff.1 h69619q; omega) | (have hk := hM0 (by assumption); have := hJ0.1; omega) | (have := hJ0.1; have h0 := hJ0.2 0; have h1 := hJ0.2 1; omega) | (have := hI0.1.1; simp only [List.length_cons, List.length_nil]; omega))), IX.of (by (have hO : OF p := by first | exact onlyFields_of h69619q.1 | exact onlyFields_of h69592q.1 | exact onlyFields_of h68402q.1 | exact onlyFields_of h66463q.1 | exact onlyFields_of h58981q.1 | exact onlyFields_of h17q.1 | exact onlyFields_of trivial.1 | exact onlyFields_of trivial.1 | exact onlyFields_of trivial.1); have hpc := parts2 (Pln.Kind p); have hOk := hO.kids; have hOe := hO.exprs; have hOc := hO.kind; (first | omega | (have hr := inRange_iff.1 h69619q; omega) | (have hk := hM0 (by assumption); have := hJ0.1; omega) | (have := hJ0.1; have h0 := hJ0.2 0; have h1 := hJ0.2 1; omega) | (have := hI0.1.1; simp only [List.length_cons, List.length_nil]; omega))), R64.of (by (have hO : OF p := by first | exact onlyFields_of h69619q.1 | exact onlyFields_of h69592q.1 | exact onlyFields_of h68402q.1 | exact onlyFields_of h66463q.1 | exact onlyFields_of h58981q.1 | exact onlyFields_of h17q.1 | exact onlyFields_of trivial.1 | exact onlyFields_of trivial.1 | exact onlyFields_of trivial.1); have hpc := parts2 (Pln.Kind p); have hOk := hO.kids; have hOe := hO.exprs; have hOc := hO.kind; (first | omega | (have hr := inRange_iff.1 h69619q; omega) | (have hk := hM0 (by assumption); have := hJ0.1; omega) | (have := hJ0.1; have h0 := hJ0.2 0; have h1 := hJ0.2 1; omega) | (have := hI0.1.1; simp only [List.length_cons, List.length_nil]; omega))), trivial⟩
            refine ret ?_; have e69621 := e68418.trans (elim_r e69620); have e69622 := e58982.trans (elim_r e69621); have e69623 := e151.trans (elim_r e69622); exact rI _ e69623
           · intro h69624q e69625; refine kp [] [] ⟨[], []⟩ ?_; refine AW.skip ?_; refine meet () (by kernel_rfl) ⟨?_, e69625⟩; exact trivial
          ·
           intro h69626; have h69626q : v82 = false := h69626; have e69627 := e69591.trans (bif_f h69626); refine seq (r1U hC [3, 7, 47, 114] [12, 40] [(114, sB ((Pln.Kind p) == 6))] [] ?_); refine cutQ (α := Unit) (fun x => ⟨[], []⟩) (fun x => (True) ∧ (planWidth_j2 p w) = (.inl ())) ?_ ?_
           ·
            skip; have e70004 : (planWidth_j2 p w) = (planWidth_j2 p w) := rfl; refine cd ((Pln.Kind p) == 6) ?_ ?_
            ·
             intro h70005; have h70005q := (beq_pos h70005); have e70006 := e70004.trans (bif_t h70005); refine seq (d0U hC hM [7, 122] [40] [(122, sB ((getD w 0 0) == (getD w 1 0)))] [] [IX (0 : Int) (length w : Int), IX (1 : Int) (length w : Int)] ?_ ?_)
             ·
              exact ⟨IX.of (by (have hO : OF p := by first | exact onlyFields_of h70005q.1 | exact onlyFields_of h69626q.1 | exact onlyFields_of h68402q.1 | exact onlyFields_of h66463q.1 | exact onlyFields_of h58981q.1 | exact onlyFields_of h17q.1 | exact onlyFields_of trivial.1 | exact onlyFields_of trivial.1 | exact onlyFields_of trivial.1); have hpc := parts2 (Pln.Kind p); have hOk := hO.kids; have hOe := hO.exprs; have hOc := hO.kind; (first | omega | (have hr := inRange_iff.1 h70005q; omega) | (have hk := hM0 (by assumption); have := hJ0.1; omega) | (have := hJ0.1; have h0 := hJ0.2 0; have h1 := hJ0.2 1; omega) | (have := hI0.1.1; simp only [List.length_cons, List.length_nil]; omega))), IX.of (by (have hO : OF p := by first | exact onlyFields_of h70005q.1 | exact onlyFields_of h69626q.1 | exact onlyFields_of h68402q.1 | exact onlyFields_of h66463q.1 | exact onlyFields_of h58981q.1 | exact onlyFields_of h17q.1 | exact onlyFields_of trivial.1 | exact onlyFields_of trivial.1 | exact onlyFields_of trivial.1); have hpc := parts2 (Pln.Kind p); have hOk := hO.kids; have hOe := hO.exprs; have hOc := hO.kind; (first | omega | (have hr := inRange_iff.1 h70005q; omega) | (have hk := hM0 (by assumption); have := hJ0.1; omega) | (have := hJ0.1; have h0 := hJ0.2 0; have h1 := hJ0.2 1; omega) | (have := hI0.1.1; simp only [List.length_cons, List.length_nil]; omega))), trivial⟩
             refine cdE e70006 ?_ ?_
             ·
              intro h70016q e70017; refine seq (r0 hC [6] [] ⟨[(6, sI (getD w 0 0))], []⟩ [IX (0 : Int) (length w : Int)] ?_ ?_)
              ·
               exact ⟨IX.of (by (have hO : OF p := by first | exact onlyFields_of h70016q.1 | exact onlyFields_of h70005q.1 | exact onlyFields_of h69626q.1 | exact onlyFields_of h68402q.1 | exact onlyFields_of h66463q.1 | exact onlyFields_of h58981q.1 | exact onlyFields_of h17q.1 | exact onlyFields_of trivial.1 | exact onlyFields_of trivial.1); have hpc := parts2 (Pln.Kind p); have hOk := hO.kids; have hOe := hO.exprs; have hOc := hO.kind; (first | omega | (have hr := inRange_iff.1 h70016q; omega) | (have hk := hM0 (by assumption); have := hJ0.1; omega) | (have := hJ0.1; have h0 := hJ0.2 0; have h1 := hJ0.2 1; omega) | (have := hI0.1.1; simp only [List.length_cons, List.length_nil]; omega))), trivial⟩
              refine ret ?_; have e70018 := e69627.trans (elim_r e70017); have e70019 := e68418.trans (elim_r e70018); have e70020 := e58982.trans (elim_r e70019); have e70021 := e151.trans (elim_r e70020); exact rI _ e70021
             · intro h70022q e70023; refine kp [] [] ⟨[], []⟩ ?_; refine AW.skip ?_; refine meet () (by kernel_rfl) ⟨?_, e70023⟩; exact trivial
            ·
             intro h70024; have h70024q := (beq_neg h70024); have e70025 := e70004.trans (bif_f h70024); refine seq (r1U hC [3, 7, 47, 126] [12, 40] [(126, sB ((Pln.Kind p) == 7))] [] ?_); refine cdE e70025 ?_ ?_
             ·
              intro h70113q e70114; refine seq (r0 hC [6] [] ⟨[(6, sI (getD w 0 0))], []⟩ [IX (0 : Int) (length w : Int)] ?_ ?_)
              ·
               exact ⟨IX.of (by (have hO : OF p := by first | exact onlyFields_of h70113q.1 | exact onlyFields_of h70024q.1 | exact onlyFields_of h69626q.1 | exact onlyFields_of h68402q.1 | exact onlyFields_of h66463q.1 | exact onlyFields_of h58981q.1 | exact onlyFields_of h17q.1 | exact onlyFields_of trivial.1 | exact onlyFields_of trivial.1); have hpc := parts2 (Pln.Kind p); have hOk := hO.kids; have hOe := hO.exprs; have hOc := hO.kind; (first | omega | (have hr := inRange_iff.1 h70113q; omega) | (have hk := hM0 (by assumption); have := hJ0.1; omega) | (have := hJ0.1; have h0 := hJ0.2 0; have h1 := hJ0.2 1; omega) | (have := hI0.1.1; simp only [List.length_cons, List.length_nil]; omega))), trivial⟩
              refine ret ?_; have e70115 := e69627.trans (elim_r e70114); have e70116 := e68418.trans (elim_r e70115); have e70117 := e58982.trans (elim_r e70116); have e70118 := e151.trans (elim_r e70117); exact rI _ e70118
             ·
              intro h70119q e70120; refine seq (r1U hC [3, 7, 131] [12, 40] [(131, sB ((Pln.Kind p) == 8))] [] ?_); refine cutQ (α := Unit) (fun x => ⟨[], []⟩) (fun x => (True) ∧ (planWidth_j1 p w) = (.inl ())) ?_ ?_
              ·
               skip; have e70167 : (planWidth_j1 p w) = (planWidth_j1 p w) := rfl; refine cd ((Pln.Kind p) == 8) ?_ ?_
               ·
                intro h70168; have h70168q := (beq_pos h70168); have e70169 := e70167.trans (bif_t h70168); refine seq (d0U hC hM [3, 144] [12] [(144, sB (bif (validCols (Pln.Cols p) (getD w 0 0)) then (decide ((length (Pln.Cols p) : Int) < 6)) else false))] [] [IX (0 : Int) (length w : Int), (0 ≤ (getD w 0 0) ∧ (getD w 0 0) ≤ 6), (((validCols (Pln.Cols p) (getD w 0 0)) = true) → (((validCols (Pln.Cols p) (getD w 0 0)) = true))), (((validCols (Pln.Cols p) (getD w 0 0)) = true) → (((validCols (Pln.Cols p) (getD w 0 0)) = true))), (((validCols (Pln.Cols p) (getD w 0 0)) = true) → (((validCols (Pln.Cols p) (getD w 0 0)) = true))), (((validCols (Pln.Cols p) (getD w 0 0)) = true) → (((validCols (Pln.Cols p) (getD w 0 0)) = true)))] ?_ ?_)
                ·
                 exact ⟨IX.of (by (have hO : OF p := by first | exact onlyFields_of h70168q.1 | exact onlyFields_of h70119q.1 | exact onlyFields_of h70024q.1 | exact onlyFields_of h69626q.1 | exact onlyFields_of h68402q.1 | exact onlyFields_of h66463q.1 | exact onlyFields_of h58981q.1 | exact onlyFields_of h17q.1 | exact onlyFields_of trivial.1); have hpc := parts2 (Pln.Kind p); have hOk := hO.kids; have hOe := hO.exprs; have hOc := hO.kind; (first | omega | (have hr := inRange_iff.1 h70168q; omega) | (have hk := hM0 (by assumption); have := hJ0.1; omega) | (have := hJ0.1; have h0 := hJ0.2 0; have h1 := hJ0.2 1; omega) | (have := hI0.1.1; simp only [List.length_cons, List.length_nil]; omega))), (by (have hO : OF p := by first | exact onlyFields_of h70168q.1 | exact onlyFields_of h70119q.1 | exact onlyFields_of h70024q.1 | exact onlyFields_of h69626q.1 | exact onlyFields_of h68402q.1 | exact onlyFields_of h66463q.1 | exact onlyFields_of h58981q.1 | exact onlyFields_of h17q.1 | exact onlyFields_of trivial.1); have hpc := parts2 (Pln.Kind p); have hOk := hO.kids; have hOe := hO.exprs; have hOc := hO.kind; (first | omega | (have hr := inRange_iff.1 h70168q; omega) | (have hk := hM0 (by assumption); have := hJ0.1; omega) | (have := hJ0.1; have h0 := hJ0.2 0; have h1 := hJ0.2 1; omega) | (have := hI0.1.1; simp only [List.length_cons, List.length_nil]; omega))), (by intro g70170; assumption), (by intro g70171; assumption), (by intro g70172; assumption), (by intro g70173; assumption), trivial⟩
                refine cdE e70169 ?_ ?_
                ·
                 intro h70184q e70185; refine seq (r0 hC [6] [] ⟨[(6, sI (((length (Pln.Cols p)) + 1 : Nat) : Int))], []⟩ [R64 (((length (Pln.Cols p)) + 1 : Nat) : Int)] ?_ ?_)
                 ·
                  exact ⟨R64.of (by (have hO : OF p := by first | exact onlyFields_of h70184q.1 | exact onlyFields_of h70168q.1 | exact onlyFields_of h70119q.1 | exact onlyFields_of h70024q.1 | exact onlyFields_of h69626q.1 | exact onlyFields_of h68402q.1 | exact onlyFields_of h66463q.1 | exact onlyFields_of h58981q.1 | exact onlyFields_of h17q.1); have hpc := parts2 (Pln.Kind p); have hOk := hO.kids; have hOe := hO.exprs; have hOc := hO.kind; (first | omega | (have hr := inRange_iff.1 h70184q; omega) | (have hk := hM0 (by assumption); have := hJ0.1; omega) | (have := hJ0.1; have h0 := hJ0.2 0; have h1 := hJ0.2 1; omega) | (have := hI0.1.1; simp only [List.length_cons, List.length_nil]; omega))), trivial⟩
                 refine ret ?_; have e70186 := e70120.trans (elim_r e70185); have e70187 := e69627.trans (elim_r e70186); have e70188 := e68418.trans (elim_r e70187); have e70189 := e58982.trans (elim_r e70188); have e70190 := e151.trans (elim_r e70189); exact rI _ e70190
                · intro h70191q e70192; refine kp [] [] ⟨[], []⟩ ?_; refine AW.skip ?_; refine meet () (by kernel_rfl) ⟨?_, e70192⟩; exact trivial
               · intro h70193; have h70193q := (beq_neg h70193); have e70194 := e70167.trans (bif_f h70193); refine kp [] [] ⟨[], []⟩ ?_; refine AW.skip ?_; refine meet () (by kernel_rfl) ⟨?_, e70194⟩; exact trivial
              · intro x hR; obtain ⟨hM1, e70195⟩ := hR; replace hM1 : True := hM1; have e70196 := e70120.trans (elim_l e70195); refine meet () (by kernel_rfl) ⟨?_, e70196⟩; exact trivial
           · intro x hR; obtain ⟨hM2, e70197⟩ := hR; replace hM2 : True := hM2; have e70198 := e69627.trans (elim_l e70197); refine meet () (by kernel_rfl) ⟨?_, e70198⟩; exact trivial
         · intro x hR; obtain ⟨hM3, e70199⟩ := hR; replace hM3 : True := hM3; have e70200 := e68418.trans (elim_l e70199); refine meet () (by kernel_rfl) ⟨?_, e70200⟩; exact trivial
     · intro x hR; obtain ⟨hM4, e70201⟩ := hR; replace hM4 : True := hM4; have e70202 := e58982.trans (elim_l e70201); refine meet () (by kernel_rfl) ⟨?_, e70202⟩; exact trivial
   · intro x hR; obtain ⟨hM5, e70203⟩ := hR; replace hM5 : True := hM5; have e70204 := e151.trans (elim_l e70203); refine seq (r1 hC [6] [] ⟨[(6, sI 0)], []⟩ ?_); exact ret (rI 0 e70204)

theorem planWidth_fu : AllTV (planWidth_sp.ps.map PK.ty) (fun tvs => planWidth_sp.pre tvs → ∃ k, (planWidth_spn k).pre tvs ∧ (planWidth_spn k).fn tvs = planWidth_sp.fn tvs ∧ (planWidth_spn k).bx tvs = planWidth_sp.bx tvs) :=
 (fun (p : Pln) (ws : List Int) (deep : Int) h => ⟨SizeOf.sizeOf p + 1, (show (VW ws ∧ (0 ≤ deep ∧ deep ≤ 8)) ∧ SizeOf.sizeOf p < SizeOf.sizeOf p + 1 from ⟨h, Nat.lt_succ_self _⟩), (show (planWidth_spn (SizeOf.sizeOf p + 1)).fn [⟨(.named 2), (p : Pln)⟩, ⟨(.slice (.int .i64)), (ws : List Int)⟩, ⟨(.int .i64), (deep : Int)⟩] = ([⟨(.int .i64), (planWidth_r (SizeOf.sizeOf p + 1) p ws deep)⟩] : List TV) from by kernel_rfl).trans (show ([⟨(.int .i64), (planWidth_r (SizeOf.sizeOf p + 1) p ws deep)⟩] : List TV) = planWidth_sp.fn [⟨(.named 2), (p : Pln)⟩, ⟨(.slice (.int .i64)), (ws : List Int)⟩, ⟨(.int .i64), (deep : Int)⟩] from by kernel_rfl), by kernel_rfl⟩)

theorem planWidth_ok : FnOK Try.prog 112 planWidth_sp := FnOK.of_fuel planWidth_okn (fun _ => rfl) (fun _ => rfl) (AllTV.get planWidth_fu)

end
end Go.Proofs.Ytodcdgolcbdkgaa
