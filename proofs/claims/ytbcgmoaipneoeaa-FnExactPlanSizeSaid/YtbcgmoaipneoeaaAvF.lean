/-
  A part of the proof of this claim (AvF): what functions of the program compute, and plain facts of that. No conditions.
-/
import Derived.Test.YtbcgmoaipneoeaaAvE
set_option linter.all false
namespace Go.Proofs.Ytbcgmoaipneoeaa
open Go Go.Am
noncomputable section

def planWidth_l0 (self : Pln → (List Int) → Int → Int) (p : Pln) (ws : List Int) (deep : Int) : Nat → Nat → (List Int) → (List Int) ⊕ Int
 | 0, i, w => .inl w
 | k + 1, i, w => (bif (decide (((i : Nat) : Int) < ((List.length (Pln.Kids p) : Nat) : Int))) then (bif ((self (List.getD (Pln.Kids p) i Pln.zero) ws (deep - 1)) == 0) then (.inr 0) else (planWidth_l0 self p ws deep k (i + 1) (w ++ ([(self (List.getD (Pln.Kids p) i Pln.zero) ws (deep - 1))] : List Int)))) else (.inl w))

def planWidth_j0 (p : Pln) : Bool :=
 (bif ((Pln.Kind p) == 4) then ((Pln.Kind p) == 4) else ((Pln.Kind p) == 5))

def planWidth_j1 (p : Pln) (w : List Int) : Unit ⊕ Int :=
 (bif ((Pln.Kind p) == 8) then (bif (bif (validCols (Pln.Cols p) (List.getD w 0 0)) then (decide (((List.length (Pln.Cols p) : Nat) : Int) < 6)) else false) then (.inr (((List.length (Pln.Cols p)) + 1 : Nat) : Int)) else (.inl ())) else (.inl ()))

def planWidth_j2 (p : Pln) (w : List Int) : Unit ⊕ Int :=
 (bif ((Pln.Kind p) == 6) then (bif ((List.getD w 0 0) == (List.getD w 1 0)) then (.inr (List.getD w 0 0)) else (.inl ())) else (bif ((Pln.Kind p) == 7) then (.inr (List.getD w 0 0)) else (Sum.elim (fun _ => (.inl ())) (fun r => (.inr r)) (planWidth_j1 p w))))

def planWidth_j3 (p : Pln) (w : List Int) (v82 : Bool) : Unit ⊕ Int :=
 (bif v82 then (bif (bif (decide (((List.getD w 0 0) + (List.getD w 1 0)) ≤ 6)) then (ValidExpr (List.getD (Pln.Exprs p) 0 Xpr.zero) ((List.getD w 0 0) + (List.getD w 1 0))) else false) then (.inr ((List.getD w 0 0) + (List.getD w 1 0))) else (.inl ())) else (Sum.elim (fun _ => (.inl ())) (fun r => (.inr r)) (planWidth_j2 p w)))

def planWidth_j4 (p : Pln) (w : List Int) : Unit ⊕ Int :=
 (bif ((Pln.Kind p) == 2) then (bif (ValidExpr (List.getD (Pln.Exprs p) 0 Xpr.zero) (List.getD w 0 0)) then (.inr (List.getD w 0 0)) else (.inl ())) else (bif ((Pln.Kind p) == 3) then (.inr (projectWidth (Pln.Exprs p) (List.getD w 0 0))) else (Go.Am.andThen (planWidth_j0 p) (fun z => (fun (v82 : Bool) => (Sum.elim (fun _ => (.inl ())) (fun r => (.inr r)) (planWidth_j3 p w v82))) z))))

def planWidth_j5 (p : Pln) (ws : List Int) (w : List Int) : Unit ⊕ Int :=
 (bif ((Pln.Kind p) == 1) then (bif (inRange (Pln.Table p) 0 (((List.length ws : Nat) : Int) - 1)) then (.inr (List.getD ws (Int.toNat (Pln.Table p)) 0)) else (.inl ())) else (Sum.elim (fun _ => (.inl ())) (fun r => (.inr r)) (planWidth_j4 p w)))

def planWidth_r : Nat → Pln → (List Int) → Int → Int
 | 0, p, ws, deep => 0
 | fuel + 1, p, ws, deep => (bif (bif (!(onlyFields (Pln.mk (Pln.Kind p) (Pln.Table p) (Pln.Exprs p) (Pln.Cols p) (Pln.Kids p)))) then true else (bif (decide (0 < ((List.length (Pln.Kids p) : Nat) : Int))) then (deep == 0) else false)) then 0 else (Sum.elim (fun z => (fun (w : List Int) => (Sum.elim (fun _ => 0) (fun r => r) (planWidth_j5 p ws w))) z) (fun r => r) (planWidth_l0 (planWidth_r fuel) p ws deep ((List.length (Pln.Kids p)) - 0 + 1) 0 ([] : List Int))))

def planWidth (p : Pln) (ws : List Int) (deep : Int) : Int := planWidth_r (SizeOf.sizeOf p + 1) p ws deep

def planWidth_spn (fuel : Nat) : FnSpec := mkSpec [.val (.named 2), .val (.slice (.int .i64)), .val (.int .i64)] [.val (.int .i64)] (fun (p : Pln) (ws : List Int) (deep : Int) => (VW ws ∧ (0 ≤ deep ∧ deep ≤ 8)) ∧ SizeOf.sizeOf p < fuel) (fun (p : Pln) (ws : List Int) (deep : Int) => [⟨(.int .i64), (planWidth_r fuel p ws deep)⟩])

def planWidth_sp : FnSpec := mkSpec [.val (.named 2), .val (.slice (.int .i64)), .val (.int .i64)] [.val (.int .i64)] (fun (p : Pln) (ws : List Int) (deep : Int) => VW ws ∧ (0 ≤ deep ∧ deep ≤ 8)) (fun (p : Pln) (ws : List Int) (deep : Int) => [⟨(.int .i64), (planWidth p ws deep)⟩])

theorem pl0 (self : Pln → (List Int) → Int → Int) (p : Pln) (ws : List Int) (l : Int) (h : p.Kids.length = 0) : planWidth_l0 self p ws l ((List.length (Pln.Kids p)) - 0 + 1) 0 [] = .inl [] := by
 rw [h]
 show planWidth_l0 self p ws l 1 0 [] = _
 rw [planWidth_l0, ge_dec (by omega), cond_false]

theorem pl1 (self : Pln → (List Int) → Int → Int) (p : Pln) (ws : List Int) (l : Int) (h : p.Kids.length = 1) : planWidth_l0 self p ws l ((List.length (Pln.Kids p)) - 0 + 1) 0 [] = bif self (List.getD p.Kids 0 Pln.zero) ws (l - 1) == 0 then .inr 0 else .inl [self (List.getD p.Kids 0 Pln.zero) ws (l - 1)] := by
 rw [h]
 show planWidth_l0 self p ws l 2 0 [] = _
 rw [planWidth_l0, lt_dec (by omega), cond_true]
 cases (self (List.getD p.Kids 0 Pln.zero) ws (l - 1) == 0) with
 | true => rfl
 | false => rw [cond_false, cond_false, planWidth_l0, ge_dec (by omega), cond_false]; rfl

theorem pl2 (self : Pln → (List Int) → Int → Int) (p : Pln) (ws : List Int) (l : Int) (h : p.Kids.length = 2) : planWidth_l0 self p ws l ((List.length (Pln.Kids p)) - 0 + 1) 0 [] = bif self (List.getD p.Kids 0 Pln.zero) ws (l - 1) == 0 then .inr 0 else bif self (List.getD p.Kids 1 Pln.zero) ws (l - 1) == 0 then .inr 0 else .inl [self (List.getD p.Kids 0 Pln.zero) ws (l - 1), self (List.getD p.Kids 1 Pln.zero) ws (l - 1)] := by
 rw [h]
 show planWidth_l0 self p ws l 3 0 [] = _
 rw [planWidth_l0, lt_dec (by omega), cond_true]
 cases (self (List.getD p.Kids 0 Pln.zero) ws (l - 1) == 0) with
 | true => rfl
 | false =>
  rw [cond_false, cond_false, planWidth_l0, lt_dec (by omega), cond_true]
  cases (self (List.getD p.Kids 1 Pln.zero) ws (l - 1) == 0) with
  | true => rfl
  | false => rw [cond_false, cond_false, planWidth_l0, ge_dec (by omega), cond_false]; rfl

theorem wb1 (self : Pln → (List Int) → Int → Int) (p : Pln) (ws : List Int) (l : Int) (h : p.Kids.length = 1) : widthBelow_l0 self p ws l ((List.length (Pln.Kids p)) - 0 + 1) 0 (List.replicate 2 0) = bif self (List.getD p.Kids 0 Pln.zero) ws (l - 1) == 0 then .inr 0 else .inl [self (List.getD p.Kids 0 Pln.zero) ws (l - 1), 0] := by
 rw [h]
 show widthBelow_l0 self p ws l 2 0 [0, 0] = _
 rw [widthBelow_l0, lt_dec (by omega), cond_true]
 generalize self (List.getD p.Kids 0 Pln.zero) ws (l - 1) = x
 show (bif (x == 0) then _ else widthBelow_l0 self p ws l 1 1 [x, 0]) = _
 rw [widthBelow_l0, ge_dec (by omega), cond_false]

theorem wb2 (self : Pln → (List Int) → Int → Int) (p : Pln) (ws : List Int) (l : Int) (h : p.Kids.length = 2) : widthBelow_l0 self p ws l ((List.length (Pln.Kids p)) - 0 + 1) 0 (List.replicate 2 0) = bif self (List.getD p.Kids 0 Pln.zero) ws (l - 1) == 0 then .inr 0 else bif self (List.getD p.Kids 1 Pln.zero) ws (l - 1) == 0 then .inr 0 else .inl [self (List.getD p.Kids 0 Pln.zero) ws (l - 1), self (List.getD p.Kids 1 Pln.zero) ws (l - 1)] := by
 rw [h]
 show widthBelow_l0 self p ws l 3 0 [0, 0] = _
 rw [widthBelow_l0, lt_dec (by omega), cond_true]
 generalize self (List.getD p.Kids 0 Pln.zero) ws (l - 1) = x
 show (bif (x == 0) then _ else widthBelow_l0 self p ws l 2 1 [x, 0]) = _
 rw [widthBelow_l0, lt_dec (by omega), cond_true]
 generalize self (List.getD p.Kids 1 Pln.zero) ws (l - 1) = y
 show (bif (x == 0) then _ else bif (y == 0) then _ else widthBelow_l0 self p ws l 1 2 [x, y]) = _
 rw [widthBelow_l0, ge_dec (by omega), cond_false]

theorem allv0 {p : Pln} {w : Int} (h : p.Exprs.length = 0) : allv p w = true := allv_iff.2 fun j hj => by omega

theorem allv1 {p : Pln} {w : Int} (h : p.Exprs.length = 1) : allv p w = ValidExpr (p.Exprs.getD 0 Xpr.zero) w := by
 rw [Bool.eq_iff_iff, allv_iff]
 exact ⟨fun k => k 0 (by omega), fun k j hj => by rw [show j = 0 by omega]; exact k⟩

theorem over_eq {p : Pln} (ws : List Int) (hO : OF p) (a b : Int) (w : List Int) (h1 : p.Kind ≠ 1) (hw : w = if p.Kind = 4 ∨ p.Kind = 5 ∨ p.Kind = 6 then [a, b] else [a]) (h6 : p.Kind = 3 → 1 ≤ ((p.Exprs.length : Nat) : Int) ∧ ((p.Exprs.length : Nat) : Int) ≤ 6) :
  Sum.elim (fun _ => 0) (fun r => r) (planWidth_j5 p ws w) = widthOver p a b := by
 have hk := hO.kind
 have hpc := parts2 (Pln.Kind p)
 have he := hO.exprs
 have e : ∀ j : Int, p.Kind ≠ j → (p.Kind == j) = false := fun j h => by simp [h]
 have t : ∀ j : Int, p.Kind = j → (p.Kind == j) = true := fun j h => by simp [h]
 unfold planWidth_j5 planWidth_j4 planWidth_j0 planWidth_j3 planWidth_j2 planWidth_j1
 rw [e 1 h1]
 by_cases h2 : p.Kind = 2
 ·
  rw [wo_else a b (by omega), allv1 (by omega), t 2 h2, hw, if_neg (by omega)]
  simp only [cond_true, cond_false]
  show Sum.elim _ _ (Sum.elim _ _ (bif ValidExpr (List.getD p.Exprs 0 Xpr.zero) a then .inr a else .inl ())) = _
  cases ValidExpr (List.getD p.Exprs 0 Xpr.zero) a <;> rfl
 ·
  by_cases h3 : p.Kind = 3
  ·
   have := h6 h3
   rw [wo_project a b h3, e 2 h2, t 3 h3, hw, if_neg (by omega)]
   simp only [cond_true, cond_false]
   show projectWidth p.Exprs a = _
   rw [pw_eq, decide_eq_false (show ¬ (6 : Int) < ((p.Exprs.length : Nat) : Int) by omega)]
   rfl
  ·
   by_cases h4 : p.Kind = 4 ∨ p.Kind = 5
   ·
    rw [wo_join a b h4, allv1 (by omega), e 2 h2, e 3 h3, hw, if_pos (by omega)]
    have : (bif p.Kind == 4 then p.Kind == 4 else p.Kind == 5) = true := by
     rcases h4 with h | h <;> rw [h] <;> rfl
    simp only [cond_false, Go.Am.andThen, this, cond_true]
    show Sum.elim _ _ (Sum.elim _ _ (Sum.elim _ _ (bif (bif decide (a + b ≤ 6) then ValidExpr (List.getD p.Exprs 0 Xpr.zero) (a + b) else false) then .inr (a + b) else .inl ()))) = _
    by_cases hs : 6 < a + b
    ·
     rw [decide_eq_true hs, decide_eq_false (show ¬ a + b ≤ 6 by omega)]
     rfl
    ·
     rw [decide_eq_false hs, decide_eq_true (show a + b ≤ 6 by omega)]
     cases ValidExpr (List.getD p.Exprs 0 Xpr.zero) (a + b) <;> rfl
   ·
    have : (bif p.Kind == 4 then p.Kind == 4 else p.Kind == 5) = false := by
     rw [e 4 (by omega), e 5 (by omega)]; rfl
    by_cases h6' : p.Kind = 6
    ·
     rw [wo_union a b h6', allv0 (by omega), e 2 h2, e 3 h3, t 6 h6', hw, if_pos (by omega)]
     simp only [cond_false, Go.Am.andThen, this, cond_true]
     show Sum.elim _ _ (Sum.elim _ _ (Sum.elim _ _ (Sum.elim _ _ (bif a == b then .inr a else .inl ())))) = _
     by_cases hab : a = b
     ·
      rw [hab]; simp
     ·
      rw [show (a == b) = false by simp [hab], show (a != b) = true by simp [hab]]; rfl
    ·
     by_cases h7 : p.Kind = 7
     ·
      rw [wo_else a b (by omega), allv0 (by omega), e 2 h2, e 3 h3, e 6 h6', t 7 h7, hw, if_neg (by omega)]
      simp only [cond_false, Go.Am.andThen, this, cond_true]
      rfl
     ·
      have h8 : p.Kind = 8 := by omega
      rw [wo_group a b h8, vgc_eq, e 2 h2, e 3 h3, e 6 h6', e 7 h7, t 8 h8, hw, if_neg (by omega)]
      simp only [cond_false, Go.Am.andThen, this, cond_true]
      show Sum.elim _ _ (Sum.elim _ _ (Sum.elim _ _ (Sum.elim _ _ (Sum.elim _ _ (bif (bif validCols p.Cols a then decide (((p.Cols.length : Nat) : Int) < 6) else false) then .inr ((p.Cols.length + 1 : Nat) : Int) else .inl ()))))) = _
      cases (bif validCols p.Cols a then decide (((p.Cols.length : Nat) : Int) < 6) else false) <;> rfl

theorem planWidth_eq (ws : List Int) : ∀ (f : Nat) (p : Pln) (l : Int), planWidth_r f p ws l = widthBelow_r f p ws l := by
 intro f
 induction f with
 | zero => intro p l; rfl
 | succ f ih =>
  intro p l
  have hpc := parts2 (Pln.Kind p)
  unfold planWidth_r widthBelow_r
  simp only [Go.Am.andThen, Pln.eta]
  have j0 : p.Kind ≠ 3 → widthBelow_j0 p = (partsOfKind p.Kind).1 := fun h => by
   unfold widthBelow_j0
   rw [show (p.Kind == 3) = false by simp [h]]
   rfl
  by_cases hO : OF p
  ·
   have hk := hO.kind
   have hOk := hO.kids
   have hOe := hO.exprs
   rw [onlyFields_iff.2 hO]
   have hB : (bif (bif ((Pln.Kind p) != 1) then ((Pln.Table p) != 0) else false) then true else (bif ((Pln.Kind p) != 8) then (((List.length (Pln.Cols p) : Nat) : Int) != 0) else false)) = false := by
    have a : (bif ((Pln.Kind p) != 1) then ((Pln.Table p) != 0) else false) = false := by
     by_cases h : p.Kind = 1
     ·
      rw [h]; rfl
     ·
      rw [hO.table h]; simp
    have b : (bif ((Pln.Kind p) != 8) then (((List.length (Pln.Cols p) : Nat) : Int) != 0) else false) = false := by
     by_cases h : p.Kind = 8
     ·
      rw [h]; rfl
     ·
      rw [hO.cols h]; simp
    rw [a, b]; rfl
   rw [hB, cond_false]
   rw [← hOk]
   by_cases hl : 0 < ((p.Kids.length : Nat) : Int) ∧ l = 0
   ·
    rw [decide_eq_true hl.1, hl.2]
    simp
   ·
    have hc : (bif (decide (0 < ((List.length (Pln.Kids p) : Nat) : Int))) then (l == 0) else false) = false := by
     by_cases h0 : 0 < ((p.Kids.length : Nat) : Int)
     ·
      rw [decide_eq_true h0, cond_true]
      simp
      exact fun h => hl ⟨h0, h⟩
     ·
      rw [decide_eq_false h0]; rfl
    rw [hc, show (((List.length p.Kids : Nat) : Int) != ((List.length p.Kids : Nat) : Int)) = false by simp]
    simp only [Bool.not_true, cond_false]
    by_cases h1 : p.Kind = 1
    ·
     rw [j0 (by omega), show (((List.length p.Exprs : Nat) : Int) != (partsOfKind p.Kind).1) = false by simp; omega, pl0 _ _ _ _ (by omega)]
     simp only [cond_false, Sum.elim_inl]
     unfold planWidth_j5
     rw [show (p.Kind == 1) = true by simp [h1], cond_true, cond_true]
     by_cases hr : 0 ≤ p.Table ∧ p.Table ≤ ((ws.length : Nat) : Int) - 1
     ·
      rw [inRange_iff.2 hr, decide_eq_false (show ¬ p.Table < 0 by omega), decide_eq_false (show ¬ ((ws.length : Nat) : Int) ≤ p.Table by omega)]
      rfl
     ·
      have : inRange p.Table 0 (((ws.length : Nat) : Int) - 1) = false := by
       rw [Bool.eq_false_iff]
       exact fun h => hr (inRange_iff.1 h)
      have d : (bif decide (p.Table < 0) then true else decide (((ws.length : Nat) : Int) ≤ p.Table)) = true := by
       by_cases h : p.Table < 0
       ·
        rw [decide_eq_true h]; rfl
       ·
        rw [decide_eq_false h, decide_eq_true (show ((ws.length : Nat) : Int) ≤ p.Table by omega)]; rfl
      rw [this, d]
      rfl
    ·
     rw [show (p.Kind == 1) = false by simp [h1], cond_false]
     by_cases h3 : p.Kind = 3 ∧ ¬ (1 ≤ ((p.Exprs.length : Nat) : Int) ∧ ((p.Exprs.length : Nat) : Int) ≤ 6)
     ·
      have hv : validWidth ((List.length p.Exprs : Nat) : Int) = false := by
       rw [Bool.eq_false_iff]
       exact fun h => h3.2 (validWidth_iff.1 h)
      have e0 : (((List.length p.Exprs : Nat) : Int) != widthBelow_j0 p) = true := by
       unfold widthBelow_j0
       rw [hv, h3.1]
       have : (partsOfKind 3).1 = 1 := by decide
       simp only [Int.reduceBEq, cond_true, cond_false, this]
       simp
       have := h3.2
       omega
      rw [e0, pl1 _ _ _ _ (by omega)]
      simp only [cond_true]
      cases (planWidth_r f (List.getD p.Kids 0 Pln.zero) ws (l - 1) == 0) with
      | true => rfl
      | false =>
       rw [cond_false]
       simp only [Sum.elim_inl]
       unfold planWidth_j5 planWidth_j4
       rw [show (p.Kind == 1) = false by simp [h1], show (p.Kind == 2) = false by simp [h3.1], show (p.Kind == 3) = true by simp [h3.1]]
       simp only [cond_true, cond_false, Sum.elim_inr]
       rw [pw_eq]
       have h2 := h3.2
       by_cases h6 : 6 < ((p.Exprs.length : Nat) : Int)
       ·
        rw [decide_eq_true h6]
        cases allv p _ <;> rfl
       ·
        rw [show ((p.Exprs.length : Nat) : Int) = 0 by omega]
        cases allv p _ <;> rfl
     ·
      have e0 : (((List.length p.Exprs : Nat) : Int) != widthBelow_j0 p) = false := by
       by_cases h : p.Kind = 3
       ·
        have hv : validWidth ((List.length p.Exprs : Nat) : Int) = true := validWidth_iff.2 (Decidable.byContradiction fun hn => h3 ⟨h, hn⟩)
        unfold widthBelow_j0
        rw [hv, h]
        simp
       ·
        rw [j0 h, hOe h]
        simp
      rw [e0, cond_false]
      simp only [cond_false]
      have h6 : p.Kind = 3 → 1 ≤ ((p.Exprs.length : Nat) : Int) ∧ ((p.Exprs.length : Nat) : Int) ≤ 6 := fun h => Decidable.byContradiction fun hn => h3 ⟨h, hn⟩
      by_cases h2 : p.Kids.length = 2
      ·
       rw [pl2 _ _ _ _ h2, wb2 _ _ _ _ h2, ih, ih]
       generalize widthBelow_r f (List.getD p.Kids 0 Pln.zero) ws (l - 1) = a
       generalize widthBelow_r f (List.getD p.Kids 1 Pln.zero) ws (l - 1) = b
       cases (a == 0) with
       | true => rfl
       | false =>
        simp only [cond_false]
        cases (b == 0) with
        | true => rfl
        | false =>
         simp only [cond_false, Sum.elim_inl]
         exact over_eq ws hO a b _ h1 (by rw [if_pos (by omega)]) h6
      ·
       rw [pl1 _ _ _ _ (by omega), wb1 _ _ _ _ (by omega), ih]
       generalize widthBelow_r f (List.getD p.Kids 0 Pln.zero) ws (l - 1) = a
       cases (a == 0) with
       | true => rfl
       | false =>
        simp only [cond_false, Sum.elim_inl]
        exact over_eq ws hO a 0 _ h1 (by rw [if_neg (by omega)]) h6
  ·
   have hf : onlyFields p = false := by
    rw [Bool.eq_false_iff]
    exact fun h => hO (onlyFields_iff.1 h)
   rw [hf]
   simp only [Bool.not_false, cond_true]
   cases hA : (bif (bif (((List.length (Pln.Kids p) : Nat) : Int) != ((partsOfKind (Pln.Kind p)).2)) then true else (((List.length (Pln.Exprs p) : Nat) : Int) != widthBelow_j0 p)) then true else (bif (decide (0 < ((partsOfKind (Pln.Kind p)).2))) then (l == 0) else false)) with
   | true => rfl
   | false =>
    rw [cond_false]
    cases hB : (bif (bif ((Pln.Kind p) != 1) then ((Pln.Table p) != 0) else false) then true else (bif ((Pln.Kind p) != 8) then (((List.length (Pln.Cols p) : Nat) : Int) != 0) else false)) with
    | true => rfl
    | false =>
     exfalso
     have hA := or_neg (or_neg hA).1
     have k1 := bne_neg hA.1
     have k2 := bne_neg hA.2
     have hB := or_neg hB
     refine hO ⟨by omega, k1, fun h => by rw [← j0 h]; exact k2, fun h => ?_, fun h => ?_⟩
     ·
      have := hB.1
      rw [show (p.Kind != 1) = true by simp [h], cond_true] at this
      exact bne_neg this
     ·
      have := hB.2
      rw [show (p.Kind != 8) = true by simp [h], cond_true] at this
      have := bne_neg this
      omega

theorem planWidth_b {ws : List Int} (hw : VW ws) (f : Nat) (p : Pln) (l : Int) : 0 ≤ planWidth_r f p ws l ∧ planWidth_r f p ws l ≤ 6 := by
 rw [planWidth_eq]
 exact widthBelow_b hw f p l

theorem app06 {w : List Int} {i : Nat} {x : Int} (h : List.length w = i ∧ ∀ j, 0 ≤ List.getD w j 0 ∧ List.getD w j 0 ≤ 6) (hx : 0 ≤ x ∧ x ≤ 6) : List.length (w ++ ([x] : List Int)) = i + 1 ∧ ∀ j, 0 ≤ List.getD (w ++ ([x] : List Int)) j 0 ∧ List.getD (w ++ ([x] : List Int)) j 0 ≤ 6 := by
 refine ⟨by simp [h.1], fun j => ?_⟩
 rw [List.getD_eq_getElem?_getD, List.getElem?_append]
 split
 ·
  have := h.2 j
  rwa [List.getD_eq_getElem?_getD] at this
 ·
  match j - w.length with
  | 0 => simpa using hx
  | _ + 1 => simp

theorem planWidth_okn (fuel : Nat) : FnOK Try.prog 25 (planWidth_spn fuel) := by
 induction fuel with
 | zero => exact FnOK.never Try.func25 (by kernel_rfl) rfl (fun _ _ _ h => absurd h.2 (Nat.not_lt_zero _))
 | succ fuel ih => ?_
 have hC : CtxOK Try.prog (mkCtx tyL [(25, (planWidth_spn fuel)), (30, inRange_sp), (31, onlyFields_sp), (32, ValidExpr_sp), (33, projectWidth_sp), (34, validCols_sp)]) := CtxOK.cons ih (CtxOK.cons inRange_ok (CtxOK.cons onlyFields_ok (CtxOK.cons ValidExpr_ok (CtxOK.cons projectWidth_ok (CtxOK.cons validCols_ok (CtxOK.nil tyOK))))))
 have hM : Try.prog.follows .mixedOrders = true := Try.checked.mixed
 refine FnOK.of_body Try.func25 (by kernel_rfl) rfl (C := (mkCtx tyL [(25, (planWidth_spn fuel)), (30, inRange_sp), (31, onlyFields_sp), (32, ValidExpr_sp), (33, projectWidth_sp), (34, validCols_sp)])) hC.ty (by kernel_rfl) ?_
 intro (p : Pln) (ws : List Int) (deep : Int) hwf hpre E
 have hpre : (VW ws ∧ (0 ≤ deep ∧ deep ≤ 8)) ∧ SizeOf.sizeOf p < fuel + 1 := hpre
 have hw_p : Wf ⟨(.named 2), (p : Pln)⟩ := hwf _ (List.Mem.head _)
 obtain ⟨hr_p_Kind, hr_p_Table, hl_p_Exprs, hl_p_Cols, hl_p_Kids⟩ := Pln.wfl hw_p
 have hw_ws : Wf ⟨(.slice (.int .i64)), (ws : List Int)⟩ := hwf _ (List.Mem.tail _ (List.Mem.head _))
 have hl_ws : ((List.length ws : Nat) : Int) ≤ 9223372036854775807 := hw_ws.len
 have hw_deep : Wf ⟨(.int .i64), (deep : Int)⟩ := hwf _ (List.Mem.tail _ (List.Mem.tail _ (List.Mem.head _)))
 have hr_deep : -9223372036854775808 ≤ deep ∧ deep ≤ 9223372036854775807 := hw_deep.int_inv
 have e0 : planWidth_r (fuel + 1) p ws deep = planWidth_r (fuel + 1) p ws deep := rfl
 refine AW.seq (AW.r1 hC [1, 2, 3] [12] ⟨[(1, sD9 ws), (2, sI deep), (3, .ref 12 1 0)], [(12, .box 1 [sI (Pln.Kind p), sI (Pln.Table p), sD10 (Pln.Exprs p), sD9 (Pln.Cols p), sD11 (Pln.Kids p)])]⟩ ?_)
 refine AW.seq (AW.r1 hC [1, 2, 3, 7] [12, 40] ⟨[(1, sD9 ws), (2, sI deep), (3, .ref 12 1 0), (7, .arr 40 1)], [(12, .box 1 [sI (Pln.Kind p), sI (Pln.Table p), sD10 (Pln.Exprs p), sD9 (Pln.Cols p), sD11 (Pln.Kids p)]), (40, .arr 1 (.int .i64) (([] : List Int) : List Int))]⟩ ?_)
 refine AW.seq (AW.seq (AW.r0 hC [1, 2, 3, 7, 23] [12, 40] ⟨[(1, sD9 ws), (2, sI deep), (3, .ref 12 1 0), (7, .arr 40 1), (23, sB (bif (!(onlyFields (Pln.mk (Pln.Kind p) (Pln.Table p) (Pln.Exprs p) (Pln.Cols p) (Pln.Kids p)))) then true else (bif (decide (0 < ((List.length (Pln.Kids p) : Nat) : Int))) then (deep == 0) else false)))], [(12, .box 1 [sI (Pln.Kind p), sI (Pln.Table p), sD10 (Pln.Exprs p), sD9 (Pln.Cols p), sD11 (Pln.Kids p)]), (40, .arr 1 (.int .i64) (([] : List Int) : List Int))]⟩ [(True), (((!(onlyFields (Pln.mk (Pln.Kind p) (Pln.Table p) (Pln.Exprs p) (Pln.Cols p) (Pln.Kids p)))) = false) → (((!(onlyFields (Pln.mk (Pln.Kind p) (Pln.Table p) (Pln.Exprs p) (Pln.Cols p) (Pln.Kids p)))) = false))), (((!(onlyFields (Pln.mk (Pln.Kind p) (Pln.Table p) (Pln.Exprs p) (Pln.Cols p) (Pln.Kids p)))) = false) → (((!(onlyFields (Pln.mk (Pln.Kind p) (Pln.Table p) (Pln.Exprs p) (Pln.Cols p) (Pln.Kids p)))) = false))), (((!(onlyFields (Pln.mk (Pln.Kind p) (Pln.Table p) (Pln.Exprs p) (Pln.Cols p) (Pln.Kids p)))) = false) → (((!(onlyFields (Pln.mk (Pln.Kind p) (Pln.Table p) (Pln.Exprs p) (Pln.Cols p) (Pln.Kids p)))) = false))), (((!(onlyFields (Pln.mk (Pln.Kind p) (Pln.Table p) (Pln.Exprs p) (Pln.Cols p) (Pln.Kids p)))) = false) → (((!(onlyFields (Pln.mk (Pln.Kind p) (Pln.Table p) (Pln.Exprs p) (Pln.Cols p) (Pln.Kids p)))) = false))), ((((!(onlyFields (Pln.mk (Pln.Kind p) (Pln.Table p) (Pln.Exprs p) (Pln.Cols p) (Pln.Kids p)))) = false) ∧ ((decide (0 < ((List.length (Pln.Kids p) : Nat) : Int))) = true)) → ((((!(onlyFields (Pln.mk (Pln.Kind p) (Pln.Table p) (Pln.Exprs p) (Pln.Cols p) (Pln.Kids p)))) = false) ∧ ((decide (0 < ((List.length (Pln.Kids p) : Nat) : Int))) = true)))), (((!(onlyFields (Pln.mk (Pln.Kind p) (Pln.Table p) (Pln.Exprs p) (Pln.Cols p) (Pln.Kids p)))) = false) → (((!(onlyFields (Pln.mk (Pln.Kind p) (Pln.Table p) (Pln.Exprs p) (Pln.Cols p) (Pln.Kids p)))) = false))), (((!(onlyFields (Pln.mk (Pln.Kind p) (Pln.Table p) (Pln.Exprs p) (Pln.Cols p) (Pln.Kids p)))) = false) → (((decide (0 < ((List.length (Pln.Kids p) : Nat) : Int))) = true) → ((((!(onlyFields (Pln.mk (Pln.Kind p) (Pln.Table p) (Pln.Exprs p) (Pln.Cols p) (Pln.Kids p)))) = false) ∧ ((decide (0 < ((List.length (Pln.Kids p) : Nat) : Int))) = true))))), (((!(onlyFields (Pln.mk (Pln.Kind p) (Pln.Table p) (Pln.Exprs p) (Pln.Cols p) (Pln.Kids p)))) = false) → (((!(onlyFields (Pln.mk (Pln.Kind p) (Pln.Table p) (Pln.Exprs p) (Pln.Cols p) (Pln.Kids p)))) = false)))] ?_ ?_))
 ·
  refine ⟨?_, ?_, ?_, ?_, ?_, ?_, ?_, ?_, ?_, trivial⟩
  ·
   trivial
  ·
   intro g1
   have g1p0 : (onlyFields (Pln.mk (Pln.Kind p) (Pln.Table p) (Pln.Exprs p) (Pln.Cols p) (Pln.Kids p))) = true := (Go.Am.not_neg g1)
   first | assumption | exact ⟨by assumption, by assumption⟩
  ·
   intro g2
   have g2p0 : (onlyFields (Pln.mk (Pln.Kind p) (Pln.Table p) (Pln.Exprs p) (Pln.Cols p) (Pln.Kids p))) = true := (Go.Am.not_neg g2)
   first | assumption | exact ⟨by assumption, by assumption⟩
  ·
   intro g3
   have g3p0 : (onlyFields (Pln.mk (Pln.Kind p) (Pln.Table p) (Pln.Exprs p) (Pln.Cols p) (Pln.Kids p))) = true := (Go.Am.not_neg g3)
   first | assumption | exact ⟨by assumption, by assumption⟩
  ·
   intro g4
   have g4p0 : (onlyFields (Pln.mk (Pln.Kind p) (Pln.Table p) (Pln.Exprs p) (Pln.Cols p) (Pln.Kids p))) = true := (Go.Am.not_neg g4)
   first | assumption | exact ⟨by assumption, by assumption⟩
  ·
   intro g5
   have g5p0 : (onlyFields (Pln.mk (Pln.Kind p) (Pln.Table p) (Pln.Exprs p) (Pln.Cols p) (Pln.Kids p))) = true := (Go.Am.not_neg (g5).1)
   have g5p1 : 0 < ((List.length (Pln.Kids p) : Nat) : Int) := (of_decide_eq_true (g5).2)
   first | assumption | exact ⟨by assumption, by assumption⟩
  ·
   intro g6
   have g6p0 : (onlyFields (Pln.mk (Pln.Kind p) (Pln.Table p) (Pln.Exprs p) (Pln.Cols p) (Pln.Kids p))) = true := (Go.Am.not_neg g6)
   first | assumption | exact ⟨by assumption, by assumption⟩
  ·
   intro g7
   have g7p0 : (onlyFields (Pln.mk (Pln.Kind p) (Pln.Table p) (Pln.Exprs p) (Pln.Cols p) (Pln.Kids p))) = true := (Go.Am.not_neg g7)
   intro g8
   have g8p0 : 0 < ((List.length (Pln.Kids p) : Nat) : Int) := (of_decide_eq_true g8)
   first | assumption | exact ⟨by assumption, by assumption⟩
  ·
   intro g9
   have g9p0 : (onlyFields (Pln.mk (Pln.Kind p) (Pln.Table p) (Pln.Exprs p) (Pln.Cols p) (Pln.Kids p))) = true := (Go.Am.not_neg g9)
   first | assumption | exact ⟨by assumption, by assumption⟩
 refine AW.cd (bif (!(onlyFields (Pln.mk (Pln.Kind p) (Pln.Table p) (Pln.Exprs p) (Pln.Cols p) (Pln.Kids p)))) then true else (bif (decide (0 < ((List.length (Pln.Kids p) : Nat) : Int))) then (deep == 0) else false)) ?_ ?_
 ·
  intro h15
  have h15q : ((onlyFields (Pln.mk (Pln.Kind p) (Pln.Table p) (Pln.Exprs p) (Pln.Cols p) (Pln.Kids p))) = false) ∨ ((0 < ((List.length (Pln.Kids p) : Nat) : Int)) ∧ (deep = 0)) := (Or.imp (fun h => (Go.Am.not_pos h)) (fun h => (And.imp (fun h => (of_decide_eq_true h)) (fun h => (Go.Am.beq_pos h)) (Go.Am.and_pos h))) (Go.Am.or_pos h15))
  have e16 := e0.trans (Go.Am.bif_t h15)
  refine AW.seq (AW.r1 hC [6] [] ⟨[(6, sI 0)], []⟩ ?_)
  exact AW.ret (AW.rI 0 e16)
 ·
  intro h17
  have h17q : ((onlyFields (Pln.mk (Pln.Kind p) (Pln.Table p) (Pln.Exprs p) (Pln.Cols p) (Pln.Kids p))) = true) ∧ ((¬ (0 < ((List.length (Pln.Kids p) : Nat) : Int))) ∨ (deep ≠ 0)) := (And.imp (fun h => (Go.Am.not_neg h)) (fun h => (Or.imp (fun h => (of_decide_eq_false h)) (fun h => (Go.Am.beq_neg h)) (Go.Am.and_neg h))) (Go.Am.or_neg h17))
  have e18 := e0.trans (Go.Am.bif_f h17)
  refine AW.kp [1, 2, 3, 7] [12, 40] ⟨[(1, sD9 ws), (2, sI deep), (3, .ref 12 1 0), (7, .arr 40 1)], [(12, .box 1 [sI (Pln.Kind p), sI (Pln.Table p), sD10 (Pln.Exprs p), sD9 (Pln.Cols p), sD11 (Pln.Kids p)]), (40, .arr 1 (.int .i64) (([] : List Int) : List Int))]⟩ ?_
  refine AW.skip (AW.seq (AW.seq (AW.r1 hC [1, 2, 3, 7, 8] [12, 40] ⟨[(1, sD9 ws), (2, sI deep), (3, .ref 12 1 0), (7, .arr 40 1), (8, sI 0)], [(12, .box 1 [sI (Pln.Kind p), sI (Pln.Table p), sD10 (Pln.Exprs p), sD9 (Pln.Cols p), sD11 (Pln.Kids p)]), (40, .arr 1 (.int .i64) (([] : List Int) : List Int))]⟩ ?_)))
  refine AW.cutQ (α := (List Int)) (fun x => ⟨[(1, sD9 ws), (3, .ref 12 1 0), (7, .arr 40 1)], [(12, .box 1 [sI (Pln.Kind p), sI (Pln.Table p), sD10 (Pln.Exprs p), sD9 (Pln.Cols p), sD11 (Pln.Kids p)]), (40, .arr 1 (.int .i64) (x : List Int))]⟩) (fun x => (List.length x = List.length (Pln.Kids p) ∧ ∀ j, 0 ≤ List.getD x j 0 ∧ List.getD x j 0 ≤ 6) ∧ (planWidth_l0 (planWidth_r fuel) p ws deep ((List.length (Pln.Kids p)) - 0 + 1) 0 ([] : List Int)) = (.inl x)) ?_ ?_
  ·
   skip
   refine AW.block (AW.loop (α := Nat × (List Int)) (fun x => ⟨[(1, sD9 ws), (2, sI deep), (3, .ref 12 1 0), (7, .arr 40 1), (8, sI ((x.1 : Nat) : Int))], [(12, .box 1 [sI (Pln.Kind p), sI (Pln.Table p), sD10 (Pln.Exprs p), sD9 (Pln.Cols p), sD11 (Pln.Kids p)]), (40, .arr 1 (.int .i64) (x.2 : List Int))]⟩) (fun x => ((List.length x.2 = x.1 ∧ ∀ j, 0 ≤ List.getD x.2 j 0 ∧ List.getD x.2 j 0 ≤ 6) ∧ x.1 ≤ List.length (Pln.Kids p)) ∧ ∃ k, (List.length (Pln.Kids p)) - x.1 < k ∧ (planWidth_l0 (planWidth_r fuel) p ws deep ((List.length (Pln.Kids p)) - 0 + 1) 0 ([] : List Int)) = planWidth_l0 (planWidth_r fuel) p ws deep k x.1 x.2) (fun x => (List.length (Pln.Kids p)) - x.1) (0, ([] : List Int)) (by kernel_rfl) ⟨?_, _, Nat.lt_succ_self _, rfl⟩ ?_)
   ·
    show (List.length ([] : List Int) = 0 ∧ ∀ j, 0 ≤ List.getD ([] : List Int) j 0 ∧ List.getD ([] : List Int) j 0 ≤ 6) ∧ 0 ≤ List.length (Pln.Kids p)
    exact ⟨⟨rfl, fun j => by simp⟩, Nat.zero_le _⟩
   ·
    intro x hR
    obtain ⟨i, w⟩ := x
    obtain ⟨hI0, k117, hk115, e116⟩ := hR
    replace hI0 : (List.length w = i ∧ ∀ j, 0 ≤ List.getD w j 0 ∧ List.getD w j 0 ≤ 6) ∧ i ≤ List.length (Pln.Kids p) := hI0
    replace hk115 : (List.length (Pln.Kids p)) - i < k117 := hk115
    obtain ⟨k117q, rfl⟩ : ∃ k, k117 = k + 1 := ⟨k117 - 1, by omega⟩
    refine AW.seq (AW.seq (AW.r1 hC [1, 2, 3, 7, 8, 28] [12, 40] ⟨[(1, sD9 ws), (2, sI deep), (3, .ref 12 1 0), (7, .arr 40 1), (8, sI ((i : Nat) : Int)), (28, sB (decide (((i : Nat) : Int) < ((List.length (Pln.Kids p) : Nat) : Int))))], [(12, .box 1 [sI (Pln.Kind p), sI (Pln.Table p), sD10 (Pln.Exprs p), sD9 (Pln.Cols p), sD11 (Pln.Kids p)]), (40, .arr 1 (.int .i64) (w : List Int))]⟩ ?_))
    refine AW.cd (decide (((i : Nat) : Int) < ((List.length (Pln.Kids p) : Nat) : Int))) ?_ ?_
    ·
     intro h122
     have h122q := (of_decide_eq_true h122)
     have e123 := e116.trans (Go.Am.bif_t h122)
     refine AW.kp [1, 2, 3, 7, 8] [12, 40] ⟨[(1, sD9 ws), (2, sI deep), (3, .ref 12 1 0), (7, .arr 40 1), (8, sI ((i : Nat) : Int))], [(12, .box 1 [sI (Pln.Kind p), sI (Pln.Table p), sD10 (Pln.Exprs p), sD9 (Pln.Cols p), sD11 (Pln.Kids p)]), (40, .arr 1 (.int .i64) (w : List Int))]⟩ ?_
     refine AW.skip (AW.seq (AW.block (AW.seq (AW.r0 hC [1, 2, 3, 7, 8, 9] [12, 40] ⟨[(1, sD9 ws), (2, sI deep), (3, .ref 12 1 0), (7, .arr 40 1), (8, sI ((i : Nat) : Int)), (9, sI ((planWidth_r fuel) (List.getD (Pln.Kids p) i Pln.zero) ws (deep - 1)))], [(12, .box 1 [sI (Pln.Kind p), sI (Pln.Table p), sD10 (Pln.Exprs p), sD9 (Pln.Cols p), sD11 (Pln.Kids p)]), (40, .arr 1 (.int .i64) (w : List Int))]⟩ [IX ((i : Nat) : Int) ((List.length (Pln.Kids p) : Nat) : Int), R64 (deep - 1), ((VW ws ∧ (0 ≤ (deep - 1) ∧ (deep - 1) ≤ 8)) ∧ SizeOf.sizeOf (List.getD (Pln.Kids p) i Pln.zero) < fuel)] ?_ ?_))))
     ·
      refine ⟨?_, ?_, ?_, trivial⟩
      ·
       refine IX.of ?_
       have hO : OF p := by first | exact onlyFields_of h122q.1 | exact onlyFields_of h17q.1 | exact onlyFields_of trivial.1 | exact onlyFields_of trivial.1 | exact onlyFields_of trivial.1 | exact onlyFields_of trivial.1 | exact onlyFields_of trivial.1 | exact onlyFields_of trivial.1 | exact onlyFields_of trivial.1
       have hpc := parts2 (Pln.Kind p)
       have hOk := hO.kids
       have hOe := hO.exprs
       have hOc := hO.kind
       first | omega | (have hr := inRange_iff.1 h122q; omega) | (have hk := hM0 (by assumption); have := hJ0.1; omega) | (have := hJ0.1; have h0 := hJ0.2 0; have h1 := hJ0.2 1; omega) | (have := hI0.1.1; simp only [List.length_cons, List.length_nil]; omega)
      ·
       refine R64.of ?_
       have hO : OF p := by first | exact onlyFields_of h122q.1 | exact onlyFields_of h17q.1 | exact onlyFields_of trivial.1 | exact onlyFields_of trivial.1 | exact onlyFields_of trivial.1 | exact onlyFields_of trivial.1 | exact onlyFields_of trivial.1 | exact onlyFields_of trivial.1 | exact onlyFields_of trivial.1
       have hpc := parts2 (Pln.Kind p)
       have hOk := hO.kids
       have hOe := hO.exprs
       have hOc := hO.kind
       first | omega | (have hr := inRange_iff.1 h122q; omega) | (have hk := hM0 (by assumption); have := hJ0.1; omega) | (have := hJ0.1; have h0 := hJ0.2 0; have h1 := hJ0.2 1; omega) | (have := hI0.1.1; simp only [List.length_cons, List.length_nil]; omega)
      ·
       have hO : OF p := by first | exact onlyFields_of h122q.1 | exact onlyFields_of h17q.1 | exact onlyFields_of trivial.1 | exact onlyFields_of trivial.1 | exact onlyFields_of trivial.1 | exact onlyFields_of trivial.1 | exact onlyFields_of trivial.1 | exact onlyFields_of trivial.1 | exact onlyFields_of trivial.1
       have hpc := parts2 (Pln.Kind p)
       have hOk := hO.kids
       have hOe := hO.exprs
       have hOc := hO.kind
       exact ⟨⟨hpre.1.1, by omega⟩, Nat.lt_of_lt_of_le (pkid_lt (by omega)) (Nat.le_of_lt_succ hpre.2)⟩
     refine AW.seq (AW.seq (AW.r1 hC [1, 2, 3, 7, 8, 9, 41] [12, 40] ⟨[(1, sD9 ws), (2, sI deep), (3, .ref 12 1 0), (7, .arr 40 1), (8, sI ((i : Nat) : Int)), (9, sI ((planWidth_r fuel) (List.getD (Pln.Kids p) i Pln.zero) ws (deep - 1))), (41, sB (((planWidth_r fuel) (List.getD (Pln.Kids p) i Pln.zero) ws (deep - 1)) == 0))], [(12, .box 1 [sI (Pln.Kind p), sI (Pln.Table p), sD10 (Pln.Exprs p), sD9 (Pln.Cols p), sD11 (Pln.Kids p)]), (40, .arr 1 (.int .i64) (w : List Int))]⟩ ?_))
     refine AW.cd (((planWidth_r fuel) (List.getD (Pln.Kids p) i Pln.zero) ws (deep - 1)) == 0) ?_ ?_
     ·
      intro h143
      have h143q := (Go.Am.beq_pos h143)
      have e144 := e123.trans (Go.Am.bif_t h143)
      refine AW.seq (AW.r1 hC [6] [] ⟨[(6, sI 0)], []⟩ ?_)
      refine AW.ret ?_
      have e145 := e18.trans (Go.Am.elim_r e144)
      exact AW.rI 0 e145
     ·
      intro h146
      have h146q := (Go.Am.beq_neg h146)
      have e147 := e123.trans (Go.Am.bif_f h146)
      refine AW.kp [1, 2, 3, 7, 8, 9] [12, 40] ⟨[(1, sD9 ws), (2, sI deep), (3, .ref 12 1 0), (7, .arr 40 1), (8, sI ((i : Nat) : Int)), (9, sI ((planWidth_r fuel) (List.getD (Pln.Kids p) i Pln.zero) ws (deep - 1)))], [(12, .box 1 [sI (Pln.Kind p), sI (Pln.Table p), sD10 (Pln.Exprs p), sD9 (Pln.Cols p), sD11 (Pln.Kids p)]), (40, .arr 1 (.int .i64) (w : List Int))]⟩ ?_
      refine AW.skip (AW.r0 hC [1, 2, 3, 7, 8] [12, 40] ⟨[(1, sD9 ws), (2, sI deep), (3, .ref 12 1 0), (7, .arr 40 1), (8, sI ((i : Nat) : Int))], [(12, .box 1 [sI (Pln.Kind p), sI (Pln.Table p), sD10 (Pln.Exprs p), sD9 (Pln.Cols p), sD11 (Pln.Kids p)]), (40, .arr 1 (.int .i64) ((w ++ ([((planWidth_r fuel) (List.getD (Pln.Kids p) i Pln.zero) ws (deep - 1))] : List Int)) : List Int))]⟩ [(((List.length w : Nat) : Int) + ((List.length ([((planWidth_r fuel) (List.getD (Pln.Kids p) i Pln.zero) ws (deep - 1))] : List Int) : Nat) : Int) ≤ 4294967296)] ?_ ?_)
      ·
       refine ⟨?_, trivial⟩
       ·
        have hO : OF p := by first | exact onlyFields_of h146q.1 | exact onlyFields_of h122q.1 | exact onlyFields_of h17q.1 | exact onlyFields_of trivial.1 | exact onlyFields_of trivial.1 | exact onlyFields_of trivial.1 | exact onlyFields_of trivial.1 | exact onlyFields_of trivial.1 | exact onlyFields_of trivial.1
        have hpc := parts2 (Pln.Kind p)
        have hOk := hO.kids
        have hOe := hO.exprs
        have hOc := hO.kind
        first | omega | (have hr := inRange_iff.1 h146q; omega) | (have hk := hM0 (by assumption); have := hJ0.1; omega) | (have := hJ0.1; have h0 := hJ0.2 0; have h1 := hJ0.2 1; omega) | (have := hI0.1.1; simp only [List.length_cons, List.length_nil]; omega)
      refine AW.r0 hC [1, 2, 3, 7, 8] [12, 40] ⟨[(1, sD9 ws), (2, sI deep), (3, .ref 12 1 0), (7, .arr 40 1), (8, sI ((i + 1 : Nat) : Int))], [(12, .box 1 [sI (Pln.Kind p), sI (Pln.Table p), sD10 (Pln.Exprs p), sD9 (Pln.Cols p), sD11 (Pln.Kids p)]), (40, .arr 1 (.int .i64) ((w ++ ([((planWidth_r fuel) (List.getD (Pln.Kids p) i Pln.zero) ws (deep - 1))] : List Int)) : List Int))]⟩ [R64 ((i + 1 : Nat) : Int)] ?_ ?_
      ·
       refine ⟨?_, trivial⟩
       ·
        refine R64.of ?_
        have hO : OF p := by first | exact onlyFields_of h146q.1 | exact onlyFields_of h122q.1 | exact onlyFields_of h17q.1 | exact onlyFields_of trivial.1 | exact onlyFields_of trivial.1 | exact onlyFields_of trivial.1 | exact onlyFields_of trivial.1 | exact onlyFields_of trivial.1 | exact onlyFields_of trivial.1
        have hpc := parts2 (Pln.Kind p)
        have hOk := hO.kids
        have hOe := hO.exprs
        have hOc := hO.kind
        first | omega | (have hr := inRange_iff.1 h146q; omega) | (have hk := hM0 (by assumption); have := hJ0.1; omega) | (have := hJ0.1; have h0 := hJ0.2 0; have h1 := hJ0.2 1; omega) | (have := hI0.1.1; simp only [List.length_cons, List.length_nil]; omega)
      refine AW.back (x := (i, w)) (i + 1, (w ++ ([((planWidth_r fuel) (List.getD (Pln.Kids p) i Pln.zero) ws (deep - 1))] : List Int))) (by kernel_rfl) ⟨?_, k117q, ?_, e147⟩ ?_
      ·
       show (List.length (w ++ ([((planWidth_r fuel) (List.getD (Pln.Kids p) i Pln.zero) ws (deep - 1))] : List Int)) = (i + 1) ∧ ∀ j, 0 ≤ List.getD (w ++ ([((planWidth_r fuel) (List.getD (Pln.Kids p) i Pln.zero) ws (deep - 1))] : List Int)) j 0 ∧ List.getD (w ++ ([((planWidth_r fuel) (List.getD (Pln.Kids p) i Pln.zero) ws (deep - 1))] : List Int)) j 0 ≤ 6) ∧ (i + 1) ≤ List.length (Pln.Kids p)
       exact ⟨app06 hI0.1 (planWidth_b hpre.1.1 fuel _ _), by omega⟩
      ·
       show (List.length (Pln.Kids p)) - (i + 1) < k117q
       first | omega | (simp only [lens]; omega)
      ·
       show (List.length (Pln.Kids p)) - (i + 1) < (List.length (Pln.Kids p)) - i
       first | omega | (simp only [lens]; omega)
    ·
     intro h148
     have h148q := (of_decide_eq_false h148)
     have e149 := e116.trans (Go.Am.bif_f h148)
     refine AW.kp [1, 3, 7] [12, 40] ⟨[(1, sD9 ws), (3, .ref 12 1 0), (7, .arr 40 1)], [(12, .box 1 [sI (Pln.Kind p), sI (Pln.Table p), sD10 (Pln.Exprs p), sD9 (Pln.Cols p), sD11 (Pln.Kids p)]), (40, .arr 1 (.int .i64) (w : List Int))]⟩ ?_
     refine AW.exit ?_
     refine AW.meet w (by kernel_rfl) ⟨?_, e149⟩
     show List.length w = List.length (Pln.Kids p) ∧ ∀ j, 0 ≤ List.getD w j 0 ∧ List.getD w j 0 ≤ 6
     exact ⟨by have := hI0.1.1; have := hI0.2; omega, hI0.1.2⟩
  ·
   intro w hR
   obtain ⟨hJ0, e150⟩ := hR
   replace hJ0 : List.length w = List.length (Pln.Kids p) ∧ ∀ j, 0 ≤ List.getD w j 0 ∧ List.getD w j 0 ≤ 6 := hJ0
   have e151 := e18.trans (Go.Am.elim_l e150)
   refine AW.seq (AW.seq (AW.r1 hC [1, 3, 7, 47] [12, 40] ⟨[(1, sD9 ws), (3, .ref 12 1 0), (7, .arr 40 1), (47, sI (Pln.Kind p))], [(12, .box 1 [sI (Pln.Kind p), sI (Pln.Table p), sD10 (Pln.Exprs p), sD9 (Pln.Cols p), sD11 (Pln.Kids p)]), (40, .arr 1 (.int .i64) (w : List Int))]⟩ ?_))
   refine AW.block (AW.seq (AW.r1 hC [1, 3, 7, 47, 48] [12, 40] ⟨[(1, sD9 ws), (3, .ref 12 1 0), (7, .arr 40 1), (47, sI (Pln.Kind p)), (48, sB ((Pln.Kind p) == 1))], [(12, .box 1 [sI (Pln.Kind p), sI (Pln.Table p), sD10 (Pln.Exprs p), sD9 (Pln.Cols p), sD11 (Pln.Kids p)]), (40, .arr 1 (.int .i64) (w : List Int))]⟩ ?_))
   refine AW.cutQ (α := Unit) (fun x => ⟨[], []⟩) (fun x => (True) ∧ (planWidth_j5 p ws w) = (.inl ())) ?_ ?_
   ·
    skip
    have e58967 : (planWidth_j5 p ws w) = (planWidth_j5 p ws w) := rfl
    refine AW.cd ((Pln.Kind p) == 1) ?_ ?_
    ·
     intro h58968
     have h58968q := (Go.Am.beq_pos h58968)
     have e58969 := e58967.trans (Go.Am.bif_t h58968)
     refine AW.seq (AW.r0 hC [1, 3, 55] [12] ⟨[(1, sD9 ws), (3, .ref 12 1 0), (55, sB (inRange (Pln.Table p) 0 (((List.length ws : Nat) : Int) - 1)))], [(12, .box 1 [sI (Pln.Kind p), sI (Pln.Table p), sD10 (Pln.Exprs p), sD9 (Pln.Cols p), sD11 (Pln.Kids p)])]⟩ [R64 (((List.length ws : Nat) : Int) - 1), (True)] ?_ ?_)
     ·
      refine ⟨?_, ?_, trivial⟩
      ·
       refine R64.of ?_
       have hO : OF p := by first | exact onlyFields_of h58968q.1 | exact onlyFields_of h17q.1 | exact onlyFields_of trivial.1 | exact onlyFields_of trivial.1 | exact onlyFields_of trivial.1 | exact onlyFields_of trivial.1 | exact onlyFields_of trivial.1 | exact onlyFields_of trivial.1 | exact onlyFields_of trivial.1
       have hpc := parts2 (Pln.Kind p)
       have hOk := hO.kids
       have hOe := hO.exprs
       have hOc := hO.kind
       first | omega | (have hr := inRange_iff.1 h58968q; omega) | (have hk := hM0 (by assumption); have := hJ0.1; omega) | (have := hJ0.1; have h0 := hJ0.2 0; have h1 := hJ0.2 1; omega) | (have := hI0.1.1; simp only [List.length_cons, List.length_nil]; omega)
      ·
       trivial
     refine AW.cd (inRange (Pln.Table p) 0 (((List.length ws : Nat) : Int) - 1)) ?_ ?_
     ·
      intro h58976
      have h58976q : (inRange (Pln.Table p) 0 (((List.length ws : Nat) : Int) - 1)) = true := h58976
      have e58977 := e58969.trans (Go.Am.bif_t h58976)
      refine AW.seq (AW.r0 hC [6] [] ⟨[(6, sI (List.getD ws (Int.toNat (Pln.Table p)) 0))], []⟩ [IX (Pln.Table p) ((List.length ws : Nat) : Int)] ?_ ?_)
      ·
       refine ⟨?_, trivial⟩
       ·
        refine IX.of ?_
        have hO : OF p := by first | exact onlyFields_of h58976q.1 | exact onlyFields_of h58968q.1 | exact onlyFields_of h17q.1 | exact onlyFields_of trivial.1 | exact onlyFields_of trivial.1 | exact onlyFields_of trivial.1 | exact onlyFields_of trivial.1 | exact onlyFields_of trivial.1 | exact onlyFields_of trivial.1
        have hpc := parts2 (Pln.Kind p)
        have hOk := hO.kids
        have hOe := hO.exprs
        have hOc := hO.kind
        first | omega | (have hr := inRange_iff.1 h58976q; omega) | (have hk := hM0 (by assumption); have := hJ0.1; omega) | (have := hJ0.1; have h0 := hJ0.2 0; have h1 := hJ0.2 1; omega) | (have := hI0.1.1; simp only [List.length_cons, List.length_nil]; omega)
      refine AW.ret ?_
      have e58978 := e151.trans (Go.Am.elim_r e58977)
      exact AW.rI (List.getD ws (Int.toNat (Pln.Table p)) 0) e58978
     ·
      intro h58979
      have h58979q : (inRange (Pln.Table p) 0 (((List.length ws : Nat) : Int) - 1)) = false := h58979
      have e58980 := e58969.trans (Go.Am.bif_f h58979)
      refine AW.kp [] [] ⟨[], []⟩ ?_
      refine AW.skip ?_
      refine AW.meet () (by kernel_rfl) ⟨?_, e58980⟩
      show True
      first | exact trivial | assumption | omega
    ·
     intro h58981
     have h58981q := (Go.Am.beq_neg h58981)
     have e58982 := e58967.trans (Go.Am.bif_f h58981)
     refine AW.seq (AW.r1 hC [3, 7, 47, 61] [12, 40] ⟨[(3, .ref 12 1 0), (7, .arr 40 1), (47, sI (Pln.Kind p)), (61, sB ((Pln.Kind p) == 2))], [(12, .box 1 [sI (Pln.Kind p), sI (Pln.Table p), sD10 (Pln.Exprs p), sD9 (Pln.Cols p), sD11 (Pln.Kids p)]), (40, .arr 1 (.int .i64) (w : List Int))]⟩ ?_)
     refine AW.cutQ (α := Unit) (fun x => ⟨[], []⟩) (fun x => (True) ∧ (planWidth_j4 p w) = (.inl ())) ?_ ?_
     ·
      skip
      have e66447 : (planWidth_j4 p w) = (planWidth_j4 p w) := rfl
      refine AW.cd ((Pln.Kind p) == 2) ?_ ?_
      ·
       intro h66448
       have h66448q := (Go.Am.beq_pos h66448)
       have e66449 := e66447.trans (Go.Am.bif_t h66448)
       refine AW.seq (AW.d0 hC hM [7, 70] [40] ⟨[(7, .arr 40 1), (70, sB (ValidExpr (List.getD (Pln.Exprs p) 0 Xpr.zero) (List.getD w 0 0)))], [(40, .arr 1 (.int .i64) (w : List Int))]⟩ [IX (0 : Int) ((List.length (Pln.Exprs p) : Nat) : Int), IX (0 : Int) ((List.length w : Nat) : Int), (True)] ?_ ?_)
       ·
        refine ⟨?_, ?_, ?_, trivial⟩
        ·
         refine IX.of ?_
         have hO : OF p := by first | exact onlyFields_of h66448q.1 | exact onlyFields_of h58981q.1 | exact onlyFields_of h17q.1 | exact onlyFields_of trivial.1 | exact onlyFields_of trivial.1 | exact onlyFields_of trivial.1 | exact onlyFields_of trivial.1 | exact onlyFields_of trivial.1 | exact onlyFields_of trivial.1
         have hpc := parts2 (Pln.Kind p)
         have hOk := hO.kids
         have hOe := hO.exprs
         have hOc := hO.kind
         first | omega | (have hr := inRange_iff.1 h66448q; omega) | (have hk := hM0 (by assumption); have := hJ0.1; omega) | (have := hJ0.1; have h0 := hJ0.2 0; have h1 := hJ0.2 1; omega) | (have := hI0.1.1; simp only [List.length_cons, List.length_nil]; omega)
        ·
         refine IX.of ?_
         have hO : OF p := by first | exact onlyFields_of h66448q.1 | exact onlyFields_of h58981q.1 | exact onlyFields_of h17q.1 | exact onlyFields_of trivial.1 | exact onlyFields_of trivial.1 | exact onlyFields_of trivial.1 | exact onlyFields_of trivial.1 | exact onlyFields_of trivial.1 | exact onlyFields_of trivial.1
         have hpc := parts2 (Pln.Kind p)
         have hOk := hO.kids
         have hOe := hO.exprs
         have hOc := hO.kind
         first | omega | (have hr := inRange_iff.1 h66448q; omega) | (have hk := hM0 (by assumption); have := hJ0.1; omega) | (have := hJ0.1; have h0 := hJ0.2 0; have h1 := hJ0.2 1; omega) | (have := hI0.1.1; simp only [List.length_cons, List.length_nil]; omega)
        ·
         trivial
       refine AW.cd (ValidExpr (List.getD (Pln.Exprs p) 0 Xpr.zero) (List.getD w 0 0)) ?_ ?_
       ·
        intro h66457
        have h66457q : (ValidExpr (List.getD (Pln.Exprs p) 0 Xpr.zero) (List.getD w 0 0)) = true := h66457
        have e66458 := e66449.trans (Go.Am.bif_t h66457)
        refine AW.seq (AW.r0 hC [6] [] ⟨[(6, sI (List.getD w 0 0))], []⟩ [IX (0 : Int) ((List.length w : Nat) : Int)] ?_ ?_)
        ·
         refine ⟨?_, trivial⟩
         ·
          refine IX.of ?_
          have hO : OF p := by first | exact onlyFields_of h66457q.1 | exact onlyFields_of h66448q.1 | exact onlyFields_of h58981q.1 | exact onlyFields_of h17q.1 | exact onlyFields_of trivial.1 | exact onlyFields_of trivial.1 | exact onlyFields_of trivial.1 | exact onlyFields_of trivial.1 | exact onlyFields_of trivial.1
          have hpc := parts2 (Pln.Kind p)
          have hOk := hO.kids
          have hOe := hO.exprs
          have hOc := hO.kind
          first | omega | (have hr := inRange_iff.1 h66457q; omega) | (have hk := hM0 (by assumption); have := hJ0.1; omega) | (have := hJ0.1; have h0 := hJ0.2 0; have h1 := hJ0.2 1; omega) | (have := hI0.1.1; simp only [List.length_cons, List.length_nil]; omega)
        refine AW.ret ?_
        have e66459 := e58982.trans (Go.Am.elim_r e66458)
        have e66460 := e151.trans (Go.Am.elim_r e66459)
        exact AW.rI (List.getD w 0 0) e66460
       ·
        intro h66461
        have h66461q : (ValidExpr (List.getD (Pln.Exprs p) 0 Xpr.zero) (List.getD w 0 0)) = false := h66461
        have e66462 := e66449.trans (Go.Am.bif_f h66461)
        refine AW.kp [] [] ⟨[], []⟩ ?_
        refine AW.skip ?_
        refine AW.meet () (by kernel_rfl) ⟨?_, e66462⟩
        show True
        first | exact trivial | assumption | omega
      ·
       intro h66463
       have h66463q := (Go.Am.beq_neg h66463)
       have e66464 := e66447.trans (Go.Am.bif_f h66463)
       refine AW.seq (AW.r1 hC [3, 7, 47, 74] [12, 40] ⟨[(3, .ref 12 1 0), (7, .arr 40 1), (47, sI (Pln.Kind p)), (74, sB ((Pln.Kind p) == 3))], [(12, .box 1 [sI (Pln.Kind p), sI (Pln.Table p), sD10 (Pln.Exprs p), sD9 (Pln.Cols p), sD11 (Pln.Kids p)]), (40, .arr 1 (.int .i64) (w : List Int))]⟩ ?_)
       refine AW.cd ((Pln.Kind p) == 3) ?_ ?_
       ·
        intro h68398
        have h68398q := (Go.Am.beq_pos h68398)
        have e68399 := e66464.trans (Go.Am.bif_t h68398)
        refine AW.seq (AW.d0 hC hM [6] [] ⟨[(6, sI (projectWidth (Pln.Exprs p) (List.getD w 0 0)))], []⟩ [IX (0 : Int) ((List.length w : Nat) : Int), (True)] ?_ ?_)
        ·
         refine ⟨?_, ?_, trivial⟩
         ·
          refine IX.of ?_
          have hO : OF p := by first | exact onlyFields_of h68398q.1 | exact onlyFields_of h66463q.1 | exact onlyFields_of h58981q.1 | exact onlyFields_of h17q.1 | exact onlyFields_of trivial.1 | exact onlyFields_of trivial.1 | exact onlyFields_of trivial.1 | exact onlyFields_of trivial.1 | exact onlyFields_of trivial.1
          have hpc := parts2 (Pln.Kind p)
          have hOk := hO.kids
          have hOe := hO.exprs
          have hOc := hO.kind
          first | omega | (have hr := inRange_iff.1 h68398q; omega) | (have hk := hM0 (by assumption); have := hJ0.1; omega) | (have := hJ0.1; have h0 := hJ0.2 0; have h1 := hJ0.2 1; omega) | (have := hI0.1.1; simp only [List.length_cons, List.length_nil]; omega)
         ·
          trivial
        refine AW.ret ?_
        have e68400 := e58982.trans (Go.Am.elim_r e68399)
        have e68401 := e151.trans (Go.Am.elim_r e68400)
        exact AW.rI (projectWidth (Pln.Exprs p) (List.getD w 0 0)) e68401
       ·
        intro h68402
        have h68402q := (Go.Am.beq_neg h68402)
        have e68403 := e66464.trans (Go.Am.bif_f h68402)
        refine AW.seq (AW.seq (AW.r1 hC [3, 7, 47, 82] [12, 40] ⟨[(3, .ref 12 1 0), (7, .arr 40 1), (47, sI (Pln.Kind p)), (82, sB ((Pln.Kind p) == 4))], [(12, .box 1 [sI (Pln.Kind p), sI (Pln.Table p), sD10 (Pln.Exprs p), sD9 (Pln.Cols p), sD11 (Pln.Kids p)]), (40, .arr 1 (.int .i64) (w : List Int))]⟩ ?_))
        refine AW.cutQ (α := Bool) (fun x => ⟨[(3, .ref 12 1 0), (7, .arr 40 1), (47, sI (Pln.Kind p)), (82, sB x)], [(12, .box 1 [sI (Pln.Kind p), sI (Pln.Table p), sD10 (Pln.Exprs p), sD9 (Pln.Cols p), sD11 (Pln.Kids p)]), (40, .arr 1 (.int .i64) (w : List Int))]⟩) (fun x => (x = true → (Pln.Kind p = 4 ∨ Pln.Kind p = 5)) ∧ (planWidth_j0 p) = x) ?_ ?_
        ·
         skip
         have e68412 : (planWidth_j0 p) = (planWidth_j0 p) := rfl
         refine AW.cd ((Pln.Kind p) == 4) ?_ ?_
         ·
          intro h68413
          have h68413q := (Go.Am.beq_pos h68413)
          have e68414 := e68412.trans (Go.Am.bif_t h68413)
          refine AW.skip ?_
          refine AW.meet ((Pln.Kind p) == 4) (by kernel_rfl) ⟨?_, e68414⟩
          show ((Pln.Kind p) == 4) = true → (Pln.Kind p = 4 ∨ Pln.Kind p = 5)
          first | omega | (intro hv; first | omega | (have := beq_pos hv; omega))
         ·
          intro h68415
          have h68415q := (Go.Am.beq_neg h68415)
          have e68416 := e68412.trans (Go.Am.bif_f h68415)
          refine AW.r1 hC [3, 7, 47, 82] [12, 40] ⟨[(3, .ref 12 1 0), (7, .arr 40 1), (47, sI (Pln.Kind p)), (82, sB ((Pln.Kind p) == 5))], [(12, .box 1 [sI (Pln.Kind p), sI (Pln.Table p), sD10 (Pln.Exprs p), sD9 (Pln.Cols p), sD11 (Pln.Kids p)]), (40, .arr 1 (.int .i64) (w : List Int))]⟩ ?_
          refine AW.meet ((Pln.Kind p) == 5) (by kernel_rfl) ⟨?_, e68416⟩
          show ((Pln.Kind p) == 5) = true → (Pln.Kind p = 4 ∨ Pln.Kind p = 5)
          first | omega | (intro hv; first | omega | (have := beq_pos hv; omega))
        ·
         intro v82 hR
         obtain ⟨hM0, e68417⟩ := hR
         replace hM0 : v82 = true → (Pln.Kind p = 4 ∨ Pln.Kind p = 5) := hM0
         have e68418 := e68403.trans (Go.Am.then_eq e68417)
         refine AW.cutQ (α := Unit) (fun x => ⟨[], []⟩) (fun x => (True) ∧ (planWidth_j3 p w v82) = (.inl ())) ?_ ?_
         ·
          skip
          have e69591 : (planWidth_j3 p w v82) = (planWidth_j3 p w v82) := rfl
          refine AW.cd v82 ?_ ?_
          ·
           intro h69592
           have h69592q : v82 = true := h69592
           have e69593 := e69591.trans (Go.Am.bif_t h69592)
           refine AW.seq (AW.d0 hC hM [7, 106] [40] ⟨[(7, .arr 40 1), (106, sB (bif (decide (((List.getD w 0 0) + (List.getD w 1 0)) ≤ 6)) then (ValidExpr (List.getD (Pln.Exprs p) 0 Xpr.zero) ((List.getD w 0 0) + (List.getD w 1 0))) else false))], [(40, .arr 1 (.int .i64) (w : List Int))]⟩ [IX (0 : Int) ((List.length w : Nat) : Int), IX (1 : Int) ((List.length w : Nat) : Int), R64 ((List.getD w 0 0) + (List.getD w 1 0)), (((decide (((List.getD w 0 0) + (List.getD w 1 0)) ≤ 6)) = true) → (((decide (((List.getD w 0 0) + (List.getD w 1 0)) ≤ 6)) = true))), (((decide (((List.getD w 0 0) + (List.getD w 1 0)) ≤ 6)) = true) → (((decide (((List.getD w 0 0) + (List.getD w 1 0)) ≤ 6)) = true))), (((decide (((List.getD w 0 0) + (List.getD w 1 0)) ≤ 6)) = true) → IX (0 : Int) ((List.length (Pln.Exprs p) : Nat) : Int)), (((decide (((List.getD w 0 0) + (List.getD w 1 0)) ≤ 6)) = true) → (((decide (((List.getD w 0 0) + (List.getD w 1 0)) ≤ 6)) = true))), (((decide (((List.getD w 0 0) + (List.getD w 1 0)) ≤ 6)) = true) → (((decide (((List.getD w 0 0) + (List.getD w 1 0)) ≤ 6)) = true))), (((decide (((List.getD w 0 0) + (List.getD w 1 0)) ≤ 6)) = true) → IX (0 : Int) ((List.length w : Nat) : Int)), (((decide (((List.getD w 0 0) + (List.getD w 1 0)) ≤ 6)) = true) → (((decide (((List.getD w 0 0) + (List.getD w 1 0)) ≤ 6)) = true))), (((decide (((List.getD w 0 0) + (List.getD w 1 0)) ≤ 6)) = true) → (((decide (((List.getD w 0 0) + (List.getD w 1 0)) ≤ 6)) = true))), (((decide (((List.getD w 0 0) + (List.getD w 1 0)) ≤ 6)) = true) → IX (1 : Int) ((List.length w : Nat) : Int)), (((decide (((List.getD w 0 0) + (List.getD w 1 0)) ≤ 6)) = true) → (((decide (((List.getD w 0 0) + (List.getD w 1 0)) ≤ 6)) = true))), (((decide (((List.getD w 0 0) + (List.getD w 1 0)) ≤ 6)) = true) → (((decide (((List.getD w 0 0) + (List.getD w 1 0)) ≤ 6)) = true))), (((decide (((List.getD w 0 0) + (List.getD w 1 0)) ≤ 6)) = true) → (((decide (((List.getD w 0 0) + (List.getD w 1 0)) ≤ 6)) = true))), (((decide (((List.getD w 0 0) + (List.getD w 1 0)) ≤ 6)) = true) → R64 ((List.getD w 0 0) + (List.getD w 1 0))), (((decide (((List.getD w 0 0) + (List.getD w 1 0)) ≤ 6)) = true) → (((decide (((List.getD w 0 0) + (List.getD w 1 0)) ≤ 6)) = true))), (((decide (((List.getD w 0 0) + (List.getD w 1 0)) ≤ 6)) = true) → (((decide (((List.getD w 0 0) + (List.getD w 1 0)) ≤ 6)) = true))), (((decide (((List.getD w 0 0) + (List.getD w 1 0)) ≤ 6)) = true) → (True)), (((decide (((List.getD w 0 0) + (List.getD w 1 0)) ≤ 6)) = true) → (((decide (((List.getD w 0 0) + (List.getD w 1 0)) ≤ 6)) = true)))] ?_ ?_)
           ·
            refine ⟨?_, ?_, ?_, ?_, ?_, ?_, ?_, ?_, ?_, ?_, ?_, ?_, ?_, ?_, ?_, ?_, ?_, ?_, ?_, ?_, trivial⟩
            ·
             refine IX.of ?_
             have hO : OF p := by first | exact onlyFields_of h69592q.1 | exact onlyFields_of h68402q.1 | exact onlyFields_of h66463q.1 | exact onlyFields_of h58981q.1 | exact onlyFields_of h17q.1 | exact onlyFields_of trivial.1 | exact onlyFields_of trivial.1 | exact onlyFields_of trivial.1 | exact onlyFields_of trivial.1
             have hpc := parts2 (Pln.Kind p)
             have hOk := hO.kids
             have hOe := hO.exprs
             have hOc := hO.kind
             first | omega | (have hr := inRange_iff.1 h69592q; omega) | (have hk := hM0 (by assumption); have := hJ0.1; omega) | (have := hJ0.1; have h0 := hJ0.2 0; have h1 := hJ0.2 1; omega) | (have := hI0.1.1; simp only [List.length_cons, List.length_nil]; omega)
            ·
             refine IX.of ?_
             have hO : OF p := by first | exact onlyFields_of h69592q.1 | exact onlyFields_of h68402q.1 | exact onlyFields_of h66463q.1 | exact onlyFields_of h58981q.1 | exact onlyFields_of h17q.1 | exact onlyFields_of trivial.1 | exact onlyFields_of trivial.1 | exact onlyFields_of trivial.1 | exact onlyFields_of trivial.1
             have hpc := parts2 (Pln.Kind p)
             have hOk := hO.kids
             have hOe := hO.exprs
             have hOc := hO.kind
             first | omega | (have hr := inRange_iff.1 h69592q; omega) | (have hk := hM0 (by assumption); have := hJ0.1; omega) | (have := hJ0.1; have h0 := hJ0.2 0; have h1 := hJ0.2 1; omega) | (have := hI0.1.1; simp only [List.length_cons, List.length_nil]; omega)
            ·
             refine R64.of ?_
             have hO : OF p := by first | exact onlyFields_of h69592q.1 | exact onlyFields_of h68402q.1 | exact onlyFields_of h66463q.1 | exact onlyFields_of h58981q.1 | exact onlyFields_of h17q.1 | exact onlyFields_of trivial.1 | exact onlyFields_of trivial.1 | exact onlyFields_of trivial.1 | exact onlyFields_of trivial.1
             have hpc := parts2 (Pln.Kind p)
             have hOk := hO.kids
             have hOe := hO.exprs
             have hOc := hO.kind
             first | omega | (have hr := inRange_iff.1 h69592q; omega) | (have hk := hM0 (by assumption); have := hJ0.1; omega) | (have := hJ0.1; have h0 := hJ0.2 0; have h1 := hJ0.2 1; omega) | (have := hI0.1.1; simp only [List.length_cons, List.length_nil]; omega)
            ·
             intro g69594
             have g69594p0 : ((List.getD w 0 0) + (List.getD w 1 0)) ≤ 6 := (of_decide_eq_true g69594)
             first | assumption | exact ⟨by assumption, by assumption⟩
            ·
             intro g69595
             have g69595p0 : ((List.getD w 0 0) + (List.getD w 1 0)) ≤ 6 := (of_decide_eq_true g69595)
             first | assumption | exact ⟨by assumption, by assumption⟩
            ·
             intro g69596
             have g69596p0 : ((List.getD w 0 0) + (List.getD w 1 0)) ≤ 6 := (of_decide_eq_true g69596)
             refine IX.of ?_
             have hO : OF p := by first | exact onlyFields_of h69592q.1 | exact onlyFields_of h68402q.1 | exact onlyFields_of h66463q.1 | exact onlyFields_of h58981q.1 | exact onlyFields_of h17q.1 | exact onlyFields_of trivial.1 | exact onlyFields_of trivial.1 | exact onlyFields_of trivial.1 | exact onlyFields_of trivial.1
             have hpc := parts2 (Pln.Kind p)
             have hOk := hO.kids
             have hOe := hO.exprs
             have hOc := hO.kind
             first | omega | (have hr := inRange_iff.1 h69592q; omega) | (have hk := hM0 (by assumption); have := hJ0.1; omega) | (have := hJ0.1; have h0 := hJ0.2 0; have h1 := hJ0.2 1; omega) | (have := hI0.1.1; simp only [List.length_cons, List.length_nil]; omega)
            ·
             intro g69597
             have g69597p0 : ((List.getD w 0 0) + (List.getD w 1 0)) ≤ 6 := (of_decide_eq_true g69597)
             first | assumption | exact ⟨by assumption, by assumption⟩
            ·
             intro g69598
             have g69598p0 : ((List.getD w 0 0) + (List.getD w 1 0)) ≤ 6 := (of_decide_eq_true g69598)
             first | assumption | exact ⟨by assumption, by assumption⟩
            ·
             intro g69599
             have g69599p0 : ((List.getD w 0 0) + (List.getD w 1 0)) ≤ 6 := (of_decide_eq_true g69599)
             refine IX.of ?_
             have hO : OF p := by first | exact onlyFields_of h69592q.1 | exact onlyFields_of h68402q.1 | exact onlyFields_of h66463q.1 | exact onlyFields_of h58981q.1 | exact onlyFields_of h17q.1 | exact onlyFields_of trivial.1 | exact onlyFields_of trivial.1 | exact onlyFields_of trivial.1 | exact onlyFields_of trivial.1
             have hpc := parts2 (Pln.Kind p)
             have hOk := hO.kids
             have hOe := hO.exprs
             have hOc := hO.kind
             first | omega | (have hr := inRange_iff.1 h69592q; omega) | (have hk := hM0 (by assumption); have := hJ0.1; omega) | (have := hJ0.1; have h0 := hJ0.2 0; have h1 := hJ0.2 1; omega) | (have := hI0.1.1; simp only [List.length_cons, List.length_nil]; omega)
            ·
             intro g69600
             have g69600p0 : ((List.getD w 0 0) + (List.getD w 1 0)) ≤ 6 := (of_decide_eq_true g69600)
             first | assumption | exact ⟨by assumption, by assumption⟩
            ·
             intro g69601
             have g69601p0 : ((List.getD w 0 0) + (List.getD w 1 0)) ≤ 6 := (of_decide_eq_true g69601)
             first | assumption | exact ⟨by assumption, by assumption⟩
            ·
             intro g69602
             have g69602p0 : ((List.getD w 0 0) + (List.getD w 1 0)) ≤ 6 := (of_decide_eq_true g69602)
             refine IX.of ?_
             have hO : OF p := by first | exact onlyFields_of h69592q.1 | exact onlyFields_of h68402q.1 | exact onlyFields_of h66463q.1 | exact onlyFields_of h58981q.1 | exact onlyFields_of h17q.1 | exact onlyFields_of trivial.1 | exact onlyFields_of trivial.1 | exact onlyFields_of trivial.1 | exact onlyFields_of trivial.1
             have hpc := parts2 (Pln.Kind p)
             have hOk := hO.kids
             have hOe := hO.exprs
             have hOc := hO.kind
             first | omega | (have hr := inRange_iff.1 h69592q; omega) | (have hk := hM0 (by assumption); have := hJ0.1; omega) | (have := hJ0.1; have h0 := hJ0.2 0; have h1 := hJ0.2 1; omega) | (have := hI0.1.1; simp only [List.length_cons, List.length_nil]; omega)
            ·
             intro g69603
             have g69603p0 : ((List.getD w 0 0) + (List.getD w 1 0)) ≤ 6 := (of_decide_eq_true g69603)
             first | assumption | exact ⟨by assumption, by assumption⟩
            ·
             intro g69604
             have g69604p0 : ((List.getD w 0 0) + (List.getD w 1 0)) ≤ 6 := (of_decide_eq_true g69604)
             first | assumption | exact ⟨by assumption, by assumption⟩
            ·
             intro g69605
             have g69605p0 : ((List.getD w 0 0) + (List.getD w 1 0)) ≤ 6 := (of_decide_eq_true g69605)
             first | assumption | exact ⟨by assumption, by assumption⟩
            ·
             intro g69606
             have g69606p0 : ((List.getD w 0 0) + (List.getD w 1 0)) ≤ 6 := (of_decide_eq_true g69606)
             refine R64.of ?_
             have hO : OF p := by first | exact onlyFields_of h69592q.1 | exact onlyFields_of h68402q.1 | exact onlyFields_of h66463q.1 | exact onlyFields_of h58981q.1 | exact onlyFields_of h17q.1 | exact onlyFields_of trivial.1 | exact onlyFields_of trivial.1 | exact onlyFields_of trivial.1 | exact onlyFields_of trivial.1
             have hpc := parts2 (Pln.Kind p)
             have hOk := hO.kids
             have hOe := hO.exprs
             have hOc := hO.kind
             first | omega | (have hr := inRange_iff.1 h69592q; omega) | (have hk := hM0 (by assumption); have := hJ0.1; omega) | (have := hJ0.1; have h0 := hJ0.2 0; have h1 := hJ0.2 1; omega) | (have := hI0.1.1; simp only [List.length_cons, List.length_nil]; omega)
            ·
             intro g69607
             have g69607p0 : ((List.getD w 0 0) + (List.getD w 1 0)) ≤ 6 := (of_decide_eq_true g69607)
             first | assumption | exact ⟨by assumption, by assumption⟩
            ·
             intro g69608
             have g69608p0 : ((List.getD w 0 0) + (List.getD w 1 0)) ≤ 6 := (of_decide_eq_true g69608)
             first | assumption | exact ⟨by assumption, by assumption⟩
            ·
             intro g69609
             have g69609p0 : ((List.getD w 0 0) + (List.getD w 1 0)) ≤ 6 := (of_decide_eq_true g69609)
             trivial
            ·
             intro g69610
             have g69610p0 : ((List.getD w 0 0) + (List.getD w 1 0)) ≤ 6 := (of_decide_eq_true g69610)
             first | assumption | exact ⟨by assumption, by assumption⟩
           refine AW.cd (bif (decide (((List.getD w 0 0) + (List.getD w 1 0)) ≤ 6)) then (ValidExpr (List.getD (Pln.Exprs p) 0 Xpr.zero) ((List.getD w 0 0) + (List.getD w 1 0))) else false) ?_ ?_
           ·
            intro h69619
            have h69619q : (((List.getD w 0 0) + (List.getD w 1 0)) ≤ 6) ∧ ((ValidExpr (List.getD (Pln.Exprs p) 0 Xpr.zero) ((List.getD w 0 0) + (List.getD w 1 0))) = true) := (And.imp (fun h => (of_decide_eq_true h)) (fun h => h) (Go.Am.and_pos h69619))
            have e69620 := e69593.trans (Go.Am.bif_t h69619)
            refine AW.seq (AW.d0 hC hM [6] [] ⟨[(6, sI ((List.getD w 0 0) + (List.getD w 1 0)))], []⟩ [IX (0 : Int) ((List.length w : Nat) : Int), IX (1 : Int) ((List.length w : Nat) : Int), R64 ((List.getD w 0 0) + (List.getD w 1 0))] ?_ ?_)
            ·
             refine ⟨?_, ?_, ?_, trivial⟩
             ·
              refine IX.of ?_
              have hO : OF p := by first | exact onlyFields_of h69619q.1 | exact onlyFields_of h69592q.1 | exact onlyFields_of h68402q.1 | exact onlyFields_of h66463q.1 | exact onlyFields_of h58981q.1 | exact onlyFields_of h17q.1 | exact onlyFields_of trivial.1 | exact onlyFields_of trivial.1 | exact onlyFields_of trivial.1
              have hpc := parts2 (Pln.Kind p)
              have hOk := hO.kids
              have hOe := hO.exprs
              have hOc := hO.kind
              first | omega | (have hr := inRange_iff.1 h69619q; omega) | (have hk := hM0 (by assumption); have := hJ0.1; omega) | (have := hJ0.1; have h0 := hJ0.2 0; have h1 := hJ0.2 1; omega) | (have := hI0.1.1; simp only [List.length_cons, List.length_nil]; omega)
             ·
              refine IX.of ?_
              have hO : OF p := by first | exact onlyFields_of h69619q.1 | exact onlyFields_of h69592q.1 | exact onlyFields_of h68402q.1 | exact onlyFields_of h66463q.1 | exact onlyFields_of h58981q.1 | exact onlyFields_of h17q.1 | exact onlyFields_of trivial.1 | exact onlyFields_of trivial.1 | exact onlyFields_of trivial.1
              have hpc := parts2 (Pln.Kind p)
              have hOk := hO.kids
              have hOe := hO.exprs
              have hOc := hO.kind
              first | omega | (have hr := inRange_iff.1 h69619q; omega) | (have hk := hM0 (by assumption); have := hJ0.1; omega) | (have := hJ0.1; have h0 := hJ0.2 0; have h1 := hJ0.2 1; omega) | (have := hI0.1.1; simp only [List.length_cons, List.length_nil]; omega)
             ·
              refine R64.of ?_
              have hO : OF p := by first | exact onlyFields_of h69619q.1 | exact onlyFields_of h69592q.1 | exact onlyFields_of h68402q.1 | exact onlyFields_of h66463q.1 | exact onlyFields_of h58981q.1 | exact onlyFields_of h17q.1 | exact onlyFields_of trivial.1 | exact onlyFields_of trivial.1 | exact onlyFields_of trivial.1
              have hpc := parts2 (Pln.Kind p)
              have hOk := hO.kids
              have hOe := hO.exprs
              have hOc := hO.kind
              first | omega | (have hr := inRange_iff.1 h69619q; omega) | (have hk := hM0 (by assumption); have := hJ0.1; omega) | (have := hJ0.1; have h0 := hJ0.2 0; have h1 := hJ0.2 1; omega) | (have := hI0.1.1; simp only [List.length_cons, List.length_nil]; omega)
            refine AW.ret ?_
            have e69621 := e68418.trans (Go.Am.elim_r e69620)
            have e69622 := e58982.trans (Go.Am.elim_r e69621)
            have e69623 := e151.trans (Go.Am.elim_r e69622)
            exact AW.rI ((List.getD w 0 0) + (List.getD w 1 0)) e69623
           ·
            intro h69624
            have h69624q : (¬ (((List.getD w 0 0) + (List.getD w 1 0)) ≤ 6)) ∨ ((ValidExpr (List.getD (Pln.Exprs p) 0 Xpr.zero) ((List.getD w 0 0) + (List.getD w 1 0))) = false) := (Or.imp (fun h => (of_decide_eq_false h)) (fun h => h) (Go.Am.and_neg h69624))
            have e69625 := e69593.trans (Go.Am.bif_f h69624)
            refine AW.kp [] [] ⟨[], []⟩ ?_
            refine AW.skip ?_
            refine AW.meet () (by kernel_rfl) ⟨?_, e69625⟩
            show True
            first | exact trivial | assumption | omega
          ·
           intro h69626
           have h69626q : v82 = false := h69626
           have e69627 := e69591.trans (Go.Am.bif_f h69626)
           refine AW.seq (AW.r1 hC [3, 7, 47, 114] [12, 40] ⟨[(3, .ref 12 1 0), (7, .arr 40 1), (47, sI (Pln.Kind p)), (114, sB ((Pln.Kind p) == 6))], [(12, .box 1 [sI (Pln.Kind p), sI (Pln.Table p), sD10 (Pln.Exprs p), sD9 (Pln.Cols p), sD11 (Pln.Kids p)]), (40, .arr 1 (.int .i64) (w : List Int))]⟩ ?_)
           refine AW.cutQ (α := Unit) (fun x => ⟨[], []⟩) (fun x => (True) ∧ (planWidth_j2 p w) = (.inl ())) ?_ ?_
           ·
            skip
            have e70004 : (planWidth_j2 p w) = (planWidth_j2 p w) := rfl
            refine AW.cd ((Pln.Kind p) == 6) ?_ ?_
            ·
             intro h70005
             have h70005q := (Go.Am.beq_pos h70005)
             have e70006 := e70004.trans (Go.Am.bif_t h70005)
             refine AW.seq (AW.d0 hC hM [7, 122] [40] ⟨[(7, .arr 40 1), (122, sB ((List.getD w 0 0) == (List.getD w 1 0)))], [(40, .arr 1 (.int .i64) (w : List Int))]⟩ [IX (0 : Int) ((List.length w : Nat) : Int), IX (1 : Int) ((List.length w : Nat) : Int)] ?_ ?_)
             ·
              refine ⟨?_, ?_, trivial⟩
              ·
               refine IX.of ?_
               have hO : OF p := by first | exact onlyFields_of h70005q.1 | exact onlyFields_of h69626q.1 | exact onlyFields_of h68402q.1 | exact onlyFields_of h66463q.1 | exact onlyFields_of h58981q.1 | exact onlyFields_of h17q.1 | exact onlyFields_of trivial.1 | exact onlyFields_of trivial.1 | exact onlyFields_of trivial.1
               have hpc := parts2 (Pln.Kind p)
               have hOk := hO.kids
               have hOe := hO.exprs
               have hOc := hO.kind
               first | omega | (have hr := inRange_iff.1 h70005q; omega) | (have hk := hM0 (by assumption); have := hJ0.1; omega) | (have := hJ0.1; have h0 := hJ0.2 0; have h1 := hJ0.2 1; omega) | (have := hI0.1.1; simp only [List.length_cons, List.length_nil]; omega)
              ·
               refine IX.of ?_
               have hO : OF p := by first | exact onlyFields_of h70005q.1 | exact onlyFields_of h69626q.1 | exact onlyFields_of h68402q.1 | exact onlyFields_of h66463q.1 | exact onlyFields_of h58981q.1 | exact onlyFields_of h17q.1 | exact onlyFields_of trivial.1 | exact onlyFields_of trivial.1 | exact onlyFields_of trivial.1
               have hpc := parts2 (Pln.Kind p)
               have hOk := hO.kids
               have hOe := hO.exprs
               have hOc := hO.kind
               first | omega | (have hr := inRange_iff.1 h70005q; omega) | (have hk := hM0 (by assumption); have := hJ0.1; omega) | (have := hJ0.1; have h0 := hJ0.2 0; have h1 := hJ0.2 1; omega) | (have := hI0.1.1; simp only [List.length_cons, List.length_nil]; omega)
             refine AW.cd ((List.getD w 0 0) == (List.getD w 1 0)) ?_ ?_
             ·
              intro h70016
              have h70016q := (Go.Am.beq_pos h70016)
              have e70017 := e70006.trans (Go.Am.bif_t h70016)
              refine AW.seq (AW.r0 hC [6] [] ⟨[(6, sI (List.getD w 0 0))], []⟩ [IX (0 : Int) ((List.length w : Nat) : Int)] ?_ ?_)
              ·
               refine ⟨?_, trivial⟩
               ·
                refine IX.of ?_
                have hO : OF p := by first | exact onlyFields_of h70016q.1 | exact onlyFields_of h70005q.1 | exact onlyFields_of h69626q.1 | exact onlyFields_of h68402q.1 | exact onlyFields_of h66463q.1 | exact onlyFields_of h58981q.1 | exact onlyFields_of h17q.1 | exact onlyFields_of trivial.1 | exact onlyFields_of trivial.1
                have hpc := parts2 (Pln.Kind p)
                have hOk := hO.kids
                have hOe := hO.exprs
                have hOc := hO.kind
                first | omega | (have hr := inRange_iff.1 h70016q; omega) | (have hk := hM0 (by assumption); have := hJ0.1; omega) | (have := hJ0.1; have h0 := hJ0.2 0; have h1 := hJ0.2 1; omega) | (have := hI0.1.1; simp only [List.length_cons, List.length_nil]; omega)
              refine AW.ret ?_
              have e70018 := e69627.trans (Go.Am.elim_r e70017)
              have e70019 := e68418.trans (Go.Am.elim_r e70018)
              have e70020 := e58982.trans (Go.Am.elim_r e70019)
              have e70021 := e151.trans (Go.Am.elim_r e70020)
              exact AW.rI (List.getD w 0 0) e70021
             ·
              intro h70022
              have h70022q := (Go.Am.beq_neg h70022)
              have e70023 := e70006.trans (Go.Am.bif_f h70022)
              refine AW.kp [] [] ⟨[], []⟩ ?_
              refine AW.skip ?_
              refine AW.meet () (by kernel_rfl) ⟨?_, e70023⟩
              show True
              first | exact trivial | assumption | omega
            ·
             intro h70024
             have h70024q := (Go.Am.beq_neg h70024)
             have e70025 := e70004.trans (Go.Am.bif_f h70024)
             refine AW.seq (AW.r1 hC [3, 7, 47, 126] [12, 40] ⟨[(3, .ref 12 1 0), (7, .arr 40 1), (47, sI (Pln.Kind p)), (126, sB ((Pln.Kind p) == 7))], [(12, .box 1 [sI (Pln.Kind p), sI (Pln.Table p), sD10 (Pln.Exprs p), sD9 (Pln.Cols p), sD11 (Pln.Kids p)]), (40, .arr 1 (.int .i64) (w : List Int))]⟩ ?_)
             refine AW.cd ((Pln.Kind p) == 7) ?_ ?_
             ·
              intro h70113
              have h70113q := (Go.Am.beq_pos h70113)
              have e70114 := e70025.trans (Go.Am.bif_t h70113)
              refine AW.seq (AW.r0 hC [6] [] ⟨[(6, sI (List.getD w 0 0))], []⟩ [IX (0 : Int) ((List.length w : Nat) : Int)] ?_ ?_)
              ·
               refine ⟨?_, trivial⟩
               ·
                refine IX.of ?_
                have hO : OF p := by first | exact onlyFields_of h70113q.1 | exact onlyFields_of h70024q.1 | exact onlyFields_of h69626q.1 | exact onlyFields_of h68402q.1 | exact onlyFields_of h66463q.1 | exact onlyFields_of h58981q.1 | exact onlyFields_of h17q.1 | exact onlyFields_of trivial.1 | exact onlyFields_of trivial.1
                have hpc := parts2 (Pln.Kind p)
                have hOk := hO.kids
                have hOe := hO.exprs
                have hOc := hO.kind
                first | omega | (have hr := inRange_iff.1 h70113q; omega) | (have hk := hM0 (by assumption); have := hJ0.1; omega) | (have := hJ0.1; have h0 := hJ0.2 0; have h1 := hJ0.2 1; omega) | (have := hI0.1.1; simp only [List.length_cons, List.length_nil]; omega)
              refine AW.ret ?_
              have e70115 := e69627.trans (Go.Am.elim_r e70114)
              have e70116 := e68418.trans (Go.Am.elim_r e70115)
              have e70117 := e58982.trans (Go.Am.elim_r e70116)
              have e70118 := e151.trans (Go.Am.elim_r e70117)
              exact AW.rI (List.getD w 0 0) e70118
             ·
              intro h70119
              have h70119q := (Go.Am.beq_neg h70119)
              have e70120 := e70025.trans (Go.Am.bif_f h70119)
              refine AW.seq (AW.r1 hC [3, 7, 131] [12, 40] ⟨[(3, .ref 12 1 0), (7, .arr 40 1), (131, sB ((Pln.Kind p) == 8))], [(12, .box 1 [sI (Pln.Kind p), sI (Pln.Table p), sD10 (Pln.Exprs p), sD9 (Pln.Cols p), sD11 (Pln.Kids p)]), (40, .arr 1 (.int .i64) (w : List Int))]⟩ ?_)
              refine AW.cutQ (α := Unit) (fun x => ⟨[], []⟩) (fun x => (True) ∧ (planWidth_j1 p w) = (.inl ())) ?_ ?_
              ·
               skip
               have e70167 : (planWidth_j1 p w) = (planWidth_j1 p w) := rfl
               refine AW.cd ((Pln.Kind p) == 8) ?_ ?_
               ·
                intro h70168
                have h70168q := (Go.Am.beq_pos h70168)
                have e70169 := e70167.trans (Go.Am.bif_t h70168)
                refine AW.seq (AW.d0 hC hM [3, 144] [12] ⟨[(3, .ref 12 1 0), (144, sB (bif (validCols (Pln.Cols p) (List.getD w 0 0)) then (decide (((List.length (Pln.Cols p) : Nat) : Int) < 6)) else false))], [(12, .box 1 [sI (Pln.Kind p), sI (Pln.Table p), sD10 (Pln.Exprs p), sD9 (Pln.Cols p), sD11 (Pln.Kids p)])]⟩ [IX (0 : Int) ((List.length w : Nat) : Int), (0 ≤ (List.getD w 0 0) ∧ (List.getD w 0 0) ≤ 6), (((validCols (Pln.Cols p) (List.getD w 0 0)) = true) → (((validCols (Pln.Cols p) (List.getD w 0 0)) = true))), (((validCols (Pln.Cols p) (List.getD w 0 0)) = true) → (((validCols (Pln.Cols p) (List.getD w 0 0)) = true))), (((validCols (Pln.Cols p) (List.getD w 0 0)) = true) → (((validCols (Pln.Cols p) (List.getD w 0 0)) = true))), (((validCols (Pln.Cols p) (List.getD w 0 0)) = true) → (((validCols (Pln.Cols p) (List.getD w 0 0)) = true)))] ?_ ?_)
                ·
                 refine ⟨?_, ?_, ?_, ?_, ?_, ?_, trivial⟩
                 ·
                  refine IX.of ?_
                  have hO : OF p := by first | exact onlyFields_of h70168q.1 | exact onlyFields_of h70119q.1 | exact onlyFields_of h70024q.1 | exact onlyFields_of h69626q.1 | exact onlyFields_of h68402q.1 | exact onlyFields_of h66463q.1 | exact onlyFields_of h58981q.1 | exact onlyFields_of h17q.1 | exact onlyFields_of trivial.1
                  have hpc := parts2 (Pln.Kind p)
                  have hOk := hO.kids
                  have hOe := hO.exprs
                  have hOc := hO.kind
                  first | omega | (have hr := inRange_iff.1 h70168q; omega) | (have hk := hM0 (by assumption); have := hJ0.1; omega) | (have := hJ0.1; have h0 := hJ0.2 0; have h1 := hJ0.2 1; omega) | (have := hI0.1.1; simp only [List.length_cons, List.length_nil]; omega)
                 ·
                  have hO : OF p := by first | exact onlyFields_of h70168q.1 | exact onlyFields_of h70119q.1 | exact onlyFields_of h70024q.1 | exact onlyFields_of h69626q.1 | exact onlyFields_of h68402q.1 | exact onlyFields_of h66463q.1 | exact onlyFields_of h58981q.1 | exact onlyFields_of h17q.1 | exact onlyFields_of trivial.1
                  have hpc := parts2 (Pln.Kind p)
                  have hOk := hO.kids
                  have hOe := hO.exprs
                  have hOc := hO.kind
                  first | omega | (have hr := inRange_iff.1 h70168q; omega) | (have hk := hM0 (by assumption); have := hJ0.1; omega) | (have := hJ0.1; have h0 := hJ0.2 0; have h1 := hJ0.2 1; omega) | (have := hI0.1.1; simp only [List.length_cons, List.length_nil]; omega)
                 ·
                  intro g70170
                  have g70170p0 : (validCols (Pln.Cols p) (List.getD w 0 0)) = true := g70170
                  first | assumption | exact ⟨by assumption, by assumption⟩
                 ·
                  intro g70171
                  have g70171p0 : (validCols (Pln.Cols p) (List.getD w 0 0)) = true := g70171
                  first | assumption | exact ⟨by assumption, by assumption⟩
                 ·
                  intro g70172
                  have g70172p0 : (validCols (Pln.Cols p) (List.getD w 0 0)) = true := g70172
                  first | assumption | exact ⟨by assumption, by assumption⟩
                 ·
                  intro g70173
                  have g70173p0 : (validCols (Pln.Cols p) (List.getD w 0 0)) = true := g70173
                  first | assumption | exact ⟨by assumption, by assumption⟩
                refine AW.cd (bif (validCols (Pln.Cols p) (List.getD w 0 0)) then (decide (((List.length (Pln.Cols p) : Nat) : Int) < 6)) else false) ?_ ?_
                ·
                 intro h70184
                 have h70184q : ((validCols (Pln.Cols p) (List.getD w 0 0)) = true) ∧ (((List.length (Pln.Cols p) : Nat) : Int) < 6) := (And.imp (fun h => h) (fun h => (of_decide_eq_true h)) (Go.Am.and_pos h70184))
                 have e70185 := e70169.trans (Go.Am.bif_t h70184)
                 refine AW.seq (AW.r0 hC [6] [] ⟨[(6, sI (((List.length (Pln.Cols p)) + 1 : Nat) : Int))], []⟩ [R64 (((List.length (Pln.Cols p)) + 1 : Nat) : Int)] ?_ ?_)
                 ·
                  refine ⟨?_, trivial⟩
                  ·
                   refine R64.of ?_
                   have hO : OF p := by first | exact onlyFields_of h70184q.1 | exact onlyFields_of h70168q.1 | exact onlyFields_of h70119q.1 | exact onlyFields_of h70024q.1 | exact onlyFields_of h69626q.1 | exact onlyFields_of h68402q.1 | exact onlyFields_of h66463q.1 | exact onlyFields_of h58981q.1 | exact onlyFields_of h17q.1
                   have hpc := parts2 (Pln.Kind p)
                   have hOk := hO.kids
                   have hOe := hO.exprs
                   have hOc := hO.kind
                   first | omega | (have hr := inRange_iff.1 h70184q; omega) | (have hk := hM0 (by assumption); have := hJ0.1; omega) | (have := hJ0.1; have h0 := hJ0.2 0; have h1 := hJ0.2 1; omega) | (have := hI0.1.1; simp only [List.length_cons, List.length_nil]; omega)
                 refine AW.ret ?_
                 have e70186 := e70120.trans (Go.Am.elim_r e70185)
                 have e70187 := e69627.trans (Go.Am.elim_r e70186)
                 have e70188 := e68418.trans (Go.Am.elim_r e70187)
                 have e70189 := e58982.trans (Go.Am.elim_r e70188)
                 have e70190 := e151.trans (Go.Am.elim_r e70189)
                 exact AW.rI (((List.length (Pln.Cols p)) + 1 : Nat) : Int) e70190
                ·
                 intro h70191
                 have h70191q : ((validCols (Pln.Cols p) (List.getD w 0 0)) = false) ∨ (¬ (((List.length (Pln.Cols p) : Nat) : Int) < 6)) := (Or.imp (fun h => h) (fun h => (of_decide_eq_false h)) (Go.Am.and_neg h70191))
                 have e70192 := e70169.trans (Go.Am.bif_f h70191)
                 refine AW.kp [] [] ⟨[], []⟩ ?_
                 refine AW.skip ?_
                 refine AW.meet () (by kernel_rfl) ⟨?_, e70192⟩
                 show True
                 first | exact trivial | assumption | omega
               ·
                intro h70193
                have h70193q := (Go.Am.beq_neg h70193)
                have e70194 := e70167.trans (Go.Am.bif_f h70193)
                refine AW.kp [] [] ⟨[], []⟩ ?_
                refine AW.skip ?_
                refine AW.meet () (by kernel_rfl) ⟨?_, e70194⟩
                show True
                first | exact trivial | assumption | omega
              ·
               intro x hR
               obtain ⟨hM1, e70195⟩ := hR
               replace hM1 : True := hM1
               have e70196 := e70120.trans (Go.Am.elim_l e70195)
               refine AW.meet () (by kernel_rfl) ⟨?_, e70196⟩
               show True
               first | exact trivial | assumption | omega
           ·
            intro x hR
            obtain ⟨hM2, e70197⟩ := hR
            replace hM2 : True := hM2
            have e70198 := e69627.trans (Go.Am.elim_l e70197)
            refine AW.meet () (by kernel_rfl) ⟨?_, e70198⟩
            show True
            first | exact trivial | assumption | omega
         ·
          intro x hR
          obtain ⟨hM3, e70199⟩ := hR
          replace hM3 : True := hM3
          have e70200 := e68418.trans (Go.Am.elim_l e70199)
          refine AW.meet () (by kernel_rfl) ⟨?_, e70200⟩
          show True
          first | exact trivial | assumption | omega
     ·
      intro x hR
      obtain ⟨hM4, e70201⟩ := hR
      replace hM4 : True := hM4
      have e70202 := e58982.trans (Go.Am.elim_l e70201)
      refine AW.meet () (by kernel_rfl) ⟨?_, e70202⟩
      show True
      first | exact trivial | assumption | omega
   ·
    intro x hR
    obtain ⟨hM5, e70203⟩ := hR
    replace hM5 : True := hM5
    have e70204 := e151.trans (Go.Am.elim_l e70203)
    refine AW.seq (AW.r1 hC [6] [] ⟨[(6, sI 0)], []⟩ ?_)
    exact AW.ret (AW.rI 0 e70204)

theorem planWidth_fu : AllTV (planWidth_sp.ps.map PK.ty) (fun tvs => planWidth_sp.pre tvs → ∃ k, (planWidth_spn k).pre tvs ∧ (planWidth_spn k).fn tvs = planWidth_sp.fn tvs ∧ (planWidth_spn k).bx tvs = planWidth_sp.bx tvs) :=
 (fun (p : Pln) (ws : List Int) (deep : Int) h => ⟨SizeOf.sizeOf p + 1, (show (VW ws ∧ (0 ≤ deep ∧ deep ≤ 8)) ∧ SizeOf.sizeOf p < SizeOf.sizeOf p + 1 from ⟨h, Nat.lt_succ_self _⟩), (show (planWidth_spn (SizeOf.sizeOf p + 1)).fn [⟨(.named 2), (p : Pln)⟩, ⟨(.slice (.int .i64)), (ws : List Int)⟩, ⟨(.int .i64), (deep : Int)⟩] = ([⟨(.int .i64), (planWidth_r (SizeOf.sizeOf p + 1) p ws deep)⟩] : List TV) from by kernel_rfl).trans (show ([⟨(.int .i64), (planWidth_r (SizeOf.sizeOf p + 1) p ws deep)⟩] : List TV) = planWidth_sp.fn [⟨(.named 2), (p : Pln)⟩, ⟨(.slice (.int .i64)), (ws : List Int)⟩, ⟨(.int .i64), (deep : Int)⟩] from by kernel_rfl), by kernel_rfl⟩)

theorem planWidth_ok : FnOK Try.prog 25 planWidth_sp := FnOK.of_fuel planWidth_okn (fun _ => rfl) (fun _ => rfl) (AllTV.get planWidth_fu)

end
end Go.Proofs.Ytbcgmoaipneoeaa
