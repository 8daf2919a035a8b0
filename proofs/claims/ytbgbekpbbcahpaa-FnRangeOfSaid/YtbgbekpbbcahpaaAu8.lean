/-
  A part of the proof of this claim (Au8): what functions of the program compute, and plain facts of that. No conditions.
-/
import Derived.Test.YtbgbekpbbcahpaaAu7
set_option linter.all false
namespace Go.Proofs.Ytbgbekpbbcahpaa
open Go Go.Am
noncomputable section

theorem conj_leaf {e : Xpr} (h : (e.Kind != 8) = true) : conjuncts e = [e] := by
 unfold conjuncts conjuncts_r
 rw [h, cond_true, copyExpr_eq, Xpr.eta]

theorem conj_fuel : ∀ (f g : Nat) (w : Int) (e : Xpr), VL w e → SizeOf.sizeOf e < f → SizeOf.sizeOf e < g → conjuncts_r f e = conjuncts_r g e := by
 intro f
 induction f with
 | zero => intro g w e _ h; omega
 | succ f ih =>
  intro g w e hv hf hg
  obtain ⟨g, rfl⟩ : ∃ g', g = g' + 1 := ⟨g - 1, by omega⟩
  unfold conjuncts_r
  cases hk : (e.Kind != 8) with
  | true => rfl
  | false =>
   have h8 := bne_neg hk
   have h2 := hv.two (by omega)
   have k0 := kid_lt (t := e) (i := 0) (by omega)
   have k1 := kid_lt (t := e) (i := 1) (by omega)
   rw [cond_false, cond_false, ih g w _ (hv.kid (i := 0) (by omega)) (by omega) (by omega), ih g w _ (hv.kid (i := 1) (by omega)) (by omega) (by omega)]

theorem conj_and {w : Int} {e : Xpr} (hv : VL w e) (h : (e.Kind != 8) = false) : conjuncts e = conjuncts (e.Kids.getD 0 Xpr.zero) ++ conjuncts (e.Kids.getD 1 Xpr.zero) := by
 have h8 := bne_neg h
 have h2 := hv.two (by omega)
 have k0 := kid_lt (t := e) (i := 0) (by omega)
 have k1 := kid_lt (t := e) (i := 1) (by omega)
 show conjuncts_r (SizeOf.sizeOf e + 1) e = _
 unfold conjuncts_r
 rw [h, cond_false, conj_fuel _ (SizeOf.sizeOf (e.Kids.getD 0 Xpr.zero) + 1) w _ (hv.kid (i := 0) (by omega)) (by omega) (by omega), conj_fuel _ (SizeOf.sizeOf (e.Kids.getD 1 Xpr.zero) + 1) w _ (hv.kid (i := 1) (by omega)) (by omega) (by omega)]
 rfl

theorem restr_eq (x : Xpr) (col : Int) : (restriction x col).2 = hasRange x col ∧ (hasRange x col = true → (restriction x col).1 = rangeOf x col) := by
 unfold restriction hasRange rangeOf isColumn m0 m1
 generalize x.Kind = K
 generalize List.getD x.Kids 0 Xpr.zero = a
 generalize List.getD x.Kids 1 Xpr.zero = b
 obtain ⟨A, ca, ⟨na, va⟩, _⟩ := a
 obtain ⟨B, cb, ⟨nb, vb⟩, _⟩ := b
 simp only [Xpr.Kind, Xpr.Col, Xpr.V, Val.Null, Val.N]
 by_cases hK : K = 6
 ·
  subst hK
  by_cases hA : A = 1
  ·
   subst hA
   by_cases hB : B = 2
   ·
    subst hB
    cases hc : (ca == col) <;> cases nb <;> simp [bne, hc]
   ·
    cases hc : (ca == col) <;> simp [bne, hc, beq_false_of_ne hB]
  ·
   by_cases hB : B = 1
   ·
    subst hB
    by_cases hA2 : A = 2
    ·
     subst hA2
     cases hc : (cb == col) <;> cases na <;> simp [bne, hc]
    ·
     cases hc : (cb == col) <;> simp [bne, hc, beq_false_of_ne hA, beq_false_of_ne hA2]
   ·
    simp [bne, beq_false_of_ne hA, beq_false_of_ne hB]
 ·
  by_cases hK7 : K = 7
  ·
   subst hK7
   by_cases hA : A = 1
   ·
    subst hA
    by_cases hB : B = 2
    ·
     subst hB
     cases hc : (ca == col) <;> cases nb <;> simp [bne, hc]
    ·
     cases hc : (ca == col) <;> simp [bne, hc, beq_false_of_ne hB]
   ·
    by_cases hB : B = 1
    ·
     subst hB
     by_cases hA2 : A = 2
     ·
      subst hA2
      cases hc : (cb == col) <;> cases na <;> simp [bne, hc]
     ·
      cases hc : (cb == col) <;> simp [bne, hc, beq_false_of_ne hA, beq_false_of_ne hA2]
    ·
     simp [bne, beq_false_of_ne hA, beq_false_of_ne hB]
  ·
   simp [bne, beq_false_of_ne hK, beq_false_of_ne hK7]

def vis (col : Int) (s : Int × Int × Bool) (x : Xpr) : Int × Int × Bool :=
 bif hasRange x col then ((meet ⟨s.1, s.2.1⟩ (rangeOf x col)).Low, (meet ⟨s.1, s.2.1⟩ (rangeOf x col)).High, true) else s

theorem vis_i (col : Int) (a b : Int) (f : Bool) (x : Xpr) : (bif (restriction x col).2 then ((intersected (Rng.mk a b) (restriction x col).1).Low, (intersected (Rng.mk a b) (restriction x col).1).High, true) else (a, b, f)) = vis col (a, b, f) x := by
 obtain ⟨h1, h2⟩ := restr_eq x col
 unfold vis
 rw [h1]
 cases h : hasRange x col with
 | false => rfl
 | true =>
  rw [cond_true, cond_true, h2 h]
  rfl

theorem loop2 {S : Nat → Nat → Int → Int → Bool → Int × Int × Bool} {C : Nat → Int → Int → Bool → Int × Int × Bool} {n : Nat} (hn : n = 2)
  (hS : ∀ k i a b f, S (k + 1) i a b f = bif decide (((i : Nat) : Int) < ((n : Nat) : Int)) then S k (i + 1) (C i a b f).1 (C i a b f).2.1 (C i a b f).2.2 else (a, b, f)) (a b : Int) (f : Bool) :
  S (n - 0 + 1) 0 a b f = C 1 (C 0 a b f).1 (C 0 a b f).2.1 (C 0 a b f).2.2 := by
 subst hn
 show S (2 + 1) 0 a b f = _
 rw [hS, decide_eq_true (by omega), cond_true, hS, decide_eq_true (by omega), cond_true, hS, decide_eq_false (by omega), cond_false]

theorem lev {col w : Int} {l : Nat} {x : Xpr} (hl : l + 1 ≤ 8) (h : VE w (l + 1) x) {c : Int → Int → Bool → Int × Int × Bool} {v : Int → Int → Bool → Int × Int × Bool} {S : Nat → Nat → Int → Int → Bool → Int × Int × Bool} {C : Nat → Int → Int → Bool → Int × Int × Bool}
  (hc : ∀ a b f, c a b f = bif (x.Kind != 8) then v a b f else S (x.Kids.length - 0 + 1) 0 a b f) (hv : ∀ a b f, v a b f = vis col (a, b, f) x)
  (hS : ∀ k i a b f, S (k + 1) i a b f = bif decide (((i : Nat) : Int) < ((x.Kids.length : Nat) : Int)) then S k (i + 1) (C i a b f).1 (C i a b f).2.1 (C i a b f).2.2 else (a, b, f))
  (hC : ∀ i a b f, VE w l (x.Kids.getD i Xpr.zero) → C i a b f = (conjuncts (x.Kids.getD i Xpr.zero)).foldl (vis col) (a, b, f)) (a b : Int) (f : Bool) : c a b f = (conjuncts x).foldl (vis col) (a, b, f) := by
 rw [hc]
 cases hk : (x.Kind != 8) with
 | true => rw [cond_true, hv, conj_leaf hk]; rfl
 | false =>
  have h8 := bne_neg hk
  have h2 := h.two (by omega)
  rw [cond_false, loop2 h2 hS, conj_and ⟨l + 1, hl, h⟩ hk, List.foldl_append, hC 1 _ _ _ (h.down (by omega)), hC 0 _ _ _ (h.down (by omega))]

theorem lev0 {col w : Int} {x : Xpr} (h : VE w 0 x) {v : Int → Int → Bool → Int × Int × Bool} (hv : ∀ a b f, v a b f = vis col (a, b, f) x) (a b : Int) (f : Bool) : v a b f = (conjuncts x).foldl (vis col) (a, b, f) := by
 have hk : (x.Kind != 8) = true := by
  cases hk : (x.Kind != 8) with
  | true => rfl
  | false =>
   have h8 := bne_neg hk
   have h2 := h.two (by omega)
   have := h.flat
   omega
 rw [hv, conj_leaf hk]
 rfl

theorem rl8 (e : Xpr) (w col : Int) (v0 v1 v2 v3 v4 v5 v6 v7 : Nat) (h : VE w 0 (((((((((((((((e.Kids.getD v0 Xpr.zero)).Kids.getD v1 Xpr.zero)).Kids.getD v2 Xpr.zero)).Kids.getD v3 Xpr.zero)).Kids.getD v4 Xpr.zero)).Kids.getD v5 Xpr.zero)).Kids.getD v6 Xpr.zero)).Kids.getD v7 Xpr.zero)) (a b : Int) (f : Bool) : iRangeOf_c8 e col v0 v1 v2 v3 v4 v5 v6 v7 a b f = (conjuncts (((((((((((((((e.Kids.getD v0 Xpr.zero)).Kids.getD v1 Xpr.zero)).Kids.getD v2 Xpr.zero)).Kids.getD v3 Xpr.zero)).Kids.getD v4 Xpr.zero)).Kids.getD v5 Xpr.zero)).Kids.getD v6 Xpr.zero)).Kids.getD v7 Xpr.zero)).foldl (vis col) (a, b, f) :=
 lev0 (v := fun a b f => iRangeOf_c8 e col v0 v1 v2 v3 v4 v5 v6 v7 a b f) h (fun a b f => vis_i col a b f _) a b f

theorem rl7 (e : Xpr) (w col : Int) (v0 v1 v2 v3 v4 v5 v6 : Nat) (h : VE w 1 (((((((((((((e.Kids.getD v0 Xpr.zero)).Kids.getD v1 Xpr.zero)).Kids.getD v2 Xpr.zero)).Kids.getD v3 Xpr.zero)).Kids.getD v4 Xpr.zero)).Kids.getD v5 Xpr.zero)).Kids.getD v6 Xpr.zero)) (a b : Int) (f : Bool) : iRangeOf_c9 e col v0 v1 v2 v3 v4 v5 v6 a b f = (conjuncts (((((((((((((e.Kids.getD v0 Xpr.zero)).Kids.getD v1 Xpr.zero)).Kids.getD v2 Xpr.zero)).Kids.getD v3 Xpr.zero)).Kids.getD v4 Xpr.zero)).Kids.getD v5 Xpr.zero)).Kids.getD v6 Xpr.zero)).foldl (vis col) (a, b, f) :=
 lev (c := fun a b f => iRangeOf_c9 e col v0 v1 v2 v3 v4 v5 v6 a b f) (v := fun a b f => iRangeOf_c7 e col v0 v1 v2 v3 v4 v5 v6 a b f) (S := fun k i a b f => iRangeOf_l7 e col v0 v1 v2 v3 v4 v5 v6 k i a b f) (C := fun i a b f => iRangeOf_c8 e col v0 v1 v2 v3 v4 v5 v6 i a b f) (by omega) h (fun _ _ _ => rfl) (fun a b f => vis_i col a b f _) (fun _ _ _ _ _ => rfl) (fun i a b f hi => rl8 e w col v0 v1 v2 v3 v4 v5 v6 i hi a b f) a b f

theorem rl6 (e : Xpr) (w col : Int) (v0 v1 v2 v3 v4 v5 : Nat) (h : VE w 2 (((((((((((e.Kids.getD v0 Xpr.zero)).Kids.getD v1 Xpr.zero)).Kids.getD v2 Xpr.zero)).Kids.getD v3 Xpr.zero)).Kids.getD v4 Xpr.zero)).Kids.getD v5 Xpr.zero)) (a b : Int) (f : Bool) : iRangeOf_c10 e col v0 v1 v2 v3 v4 v5 a b f = (conjuncts (((((((((((e.Kids.getD v0 Xpr.zero)).Kids.getD v1 Xpr.zero)).Kids.getD v2 Xpr.zero)).Kids.getD v3 Xpr.zero)).Kids.getD v4 Xpr.zero)).Kids.getD v5 Xpr.zero)).foldl (vis col) (a, b, f) :=
 lev (c := fun a b f => iRangeOf_c10 e col v0 v1 v2 v3 v4 v5 a b f) (v := fun a b f => iRangeOf_c6 e col v0 v1 v2 v3 v4 v5 a b f) (S := fun k i a b f => iRangeOf_l6 e col v0 v1 v2 v3 v4 v5 k i a b f) (C := fun i a b f => iRangeOf_c9 e col v0 v1 v2 v3 v4 v5 i a b f) (by omega) h (fun _ _ _ => rfl) (fun a b f => vis_i col a b f _) (fun _ _ _ _ _ => rfl) (fun i a b f hi => rl7 e w col v0 v1 v2 v3 v4 v5 i hi a b f) a b f

theorem rl5 (e : Xpr) (w col : Int) (v0 v1 v2 v3 v4 : Nat) (h : VE w 3 (((((((((e.Kids.getD v0 Xpr.zero)).Kids.getD v1 Xpr.zero)).Kids.getD v2 Xpr.zero)).Kids.getD v3 Xpr.zero)).Kids.getD v4 Xpr.zero)) (a b : Int) (f : Bool) : iRangeOf_c11 e col v0 v1 v2 v3 v4 a b f = (conjuncts (((((((((e.Kids.getD v0 Xpr.zero)).Kids.getD v1 Xpr.zero)).Kids.getD v2 Xpr.zero)).Kids.getD v3 Xpr.zero)).Kids.getD v4 Xpr.zero)).foldl (vis col) (a, b, f) :=
 lev (c := fun a b f => iRangeOf_c11 e col v0 v1 v2 v3 v4 a b f) (v := fun a b f => iRangeOf_c5 e col v0 v1 v2 v3 v4 a b f) (S := fun k i a b f => iRangeOf_l5 e col v0 v1 v2 v3 v4 k i a b f) (C := fun i a b f => iRangeOf_c10 e col v0 v1 v2 v3 v4 i a b f) (by omega) h (fun _ _ _ => rfl) (fun a b f => vis_i col a b f _) (fun _ _ _ _ _ => rfl) (fun i a b f hi => rl6 e w col v0 v1 v2 v3 v4 i hi a b f) a b f

theorem rl4 (e : Xpr) (w col : Int) (v0 v1 v2 v3 : Nat) (h : VE w 4 (((((((e.Kids.getD v0 Xpr.zero)).Kids.getD v1 Xpr.zero)).Kids.getD v2 Xpr.zero)).Kids.getD v3 Xpr.zero)) (a b : Int) (f : Bool) : iRangeOf_c12 e col v0 v1 v2 v3 a b f = (conjuncts (((((((e.Kids.getD v0 Xpr.zero)).Kids.getD v1 Xpr.zero)).Kids.getD v2 Xpr.zero)).Kids.getD v3 Xpr.zero)).foldl (vis col) (a, b, f) :=
 lev (c := fun a b f => iRangeOf_c12 e col v0 v1 v2 v3 a b f) (v := fun a b f => iRangeOf_c4 e col v0 v1 v2 v3 a b f) (S := fun k i a b f => iRangeOf_l4 e col v0 v1 v2 v3 k i a b f) (C := fun i a b f => iRangeOf_c11 e col v0 v1 v2 v3 i a b f) (by omega) h (fun _ _ _ => rfl) (fun a b f => vis_i col a b f _) (fun _ _ _ _ _ => rfl) (fun i a b f hi => rl5 e w col v0 v1 v2 v3 i hi a b f) a b f

theorem rl3 (e : Xpr) (w col : Int) (v0 v1 v2 : Nat) (h : VE w 5 (((((e.Kids.getD v0 Xpr.zero)).Kids.getD v1 Xpr.zero)).Kids.getD v2 Xpr.zero)) (a b : Int) (f : Bool) : iRangeOf_c13 e col v0 v1 v2 a b f = (conjuncts (((((e.Kids.getD v0 Xpr.zero)).Kids.getD v1 Xpr.zero)).Kids.getD v2 Xpr.zero)).foldl (vis col) (a, b, f) :=
 lev (c := fun a b f => iRangeOf_c13 e col v0 v1 v2 a b f) (v := fun a b f => iRangeOf_c3 e col v0 v1 v2 a b f) (S := fun k i a b f => iRangeOf_l3 e col v0 v1 v2 k i a b f) (C := fun i a b f => iRangeOf_c12 e col v0 v1 v2 i a b f) (by omega) h (fun _ _ _ => rfl) (fun a b f => vis_i col a b f _) (fun _ _ _ _ _ => rfl) (fun i a b f hi => rl4 e w col v0 v1 v2 i hi a b f) a b f

theorem rl2 (e : Xpr) (w col : Int) (v0 v1 : Nat) (h : VE w 6 (((e.Kids.getD v0 Xpr.zero)).Kids.getD v1 Xpr.zero)) (a b : Int) (f : Bool) : iRangeOf_c14 e col v0 v1 a b f = (conjuncts (((e.Kids.getD v0 Xpr.zero)).Kids.getD v1 Xpr.zero)).foldl (vis col) (a, b, f) :=
 lev (c := fun a b f => iRangeOf_c14 e col v0 v1 a b f) (v := fun a b f => iRangeOf_c2 e col v0 v1 a b f) (S := fun k i a b f => iRangeOf_l2 e col v0 v1 k i a b f) (C := fun i a b f => iRangeOf_c13 e col v0 v1 i a b f) (by omega) h (fun _ _ _ => rfl) (fun a b f => vis_i col a b f _) (fun _ _ _ _ _ => rfl) (fun i a b f hi => rl3 e w col v0 v1 i hi a b f) a b f

theorem rl1 (e : Xpr) (w col : Int) (v0 : Nat) (h : VE w 7 (e.Kids.getD v0 Xpr.zero)) (a b : Int) (f : Bool) : iRangeOf_c15 e col v0 a b f = (conjuncts (e.Kids.getD v0 Xpr.zero)).foldl (vis col) (a, b, f) :=
 lev (c := fun a b f => iRangeOf_c15 e col v0 a b f) (v := fun a b f => iRangeOf_c1 e col v0 a b f) (S := fun k i a b f => iRangeOf_l1 e col v0 k i a b f) (C := fun i a b f => iRangeOf_c14 e col v0 i a b f) (by omega) h (fun _ _ _ => rfl) (fun a b f => vis_i col a b f _) (fun _ _ _ _ _ => rfl) (fun i a b f hi => rl2 e w col v0 i hi a b f) a b f

theorem rl0 (e : Xpr) (w col : Int) (h : VE w 8 e) : iRangeOf_c16 e col = (conjuncts e).foldl (vis col) (-9999, 9999, false) := by
 have hv : iRangeOf_c0 e col = vis col (-9999, 9999, false) e := by
  unfold iRangeOf_c0
  rw [Xpr.eta]
  exact vis_i col _ _ _ _
 have := lev (col := col) (c := fun a b f => bif (e.Kind != 8) then vis col (a, b, f) e else iRangeOf_l0 e col (e.Kids.length - 0 + 1) 0 a b f) (v := fun a b f => vis col (a, b, f) e) (S := fun k i a b f => iRangeOf_l0 e col k i a b f) (C := fun i a b f => iRangeOf_c15 e col i a b f) (by omega) h (fun _ _ _ => rfl) (fun a b f => rfl) (fun _ _ _ _ _ => rfl) (fun i a b f hi => rl1 e w col i hi a b f) (-9999) 9999 false
 rw [← this, ← hv]
 rfl

theorem spec_fold (e : Xpr) (col : Int) : ∀ (k i : Nat) (f : Bool) (a b : Int), (conjuncts e).length - i < k → RangeOf_l0 e col k f i a b = ((((conjuncts e).drop i).foldl (vis col) (a, b, f)).2.2, (((conjuncts e).drop i).foldl (vis col) (a, b, f)).1, (((conjuncts e).drop i).foldl (vis col) (a, b, f)).2.1) := by
 intro k
 induction k with
 | zero => intro i f a b h; omega
 | succ k ih =>
  intro i f a b h
  unfold RangeOf_l0
  rw [Xpr.eta]
  by_cases hlt : ((i : Nat) : Int) < ((List.length (conjuncts e) : Nat) : Int)
  ·
   have hi : i < (conjuncts e).length := by omega
   rw [decide_eq_true hlt, cond_true, List.drop_eq_getElem_cons hi, List.foldl_cons]
   have hg : List.getD (conjuncts e) i Xpr.zero = (conjuncts e)[i] := by simp [hi]
   rw [hg]
   cases hr : hasRange (conjuncts e)[i] col with
   | true =>
    rw [cond_true, ih _ _ _ _ (by omega)]
    unfold vis
    rw [hr, cond_true]
   | false =>
    rw [cond_false, ih _ _ _ _ (by omega)]
    have : vis col (a, b, f) (conjuncts e)[i] = (a, b, f) := by unfold vis; rw [hr, cond_false]
    rw [this]
  ·
   rw [decide_eq_false hlt, cond_false, List.drop_of_length_le (by omega)]
   rfl

theorem range_eq (e : Xpr) (w col : Int) : iRangeOf e w col = RangeOf e w col := by
 unfold iRangeOf RangeOf
 rw [Xpr.eta, ValidExpr_same]
 cases hv : ValidExpr e w with
 | false => rfl
 | true =>
  have hin : inRange col 0 (w - 1) = !(bif decide (col < 0) then true else decide (w ≤ col)) := by
   rw [Bool.eq_iff_iff, inRange_iff]
   cases h1 : decide (col < 0) <;> cases h2 : decide (w ≤ col) <;> simp at h1 h2 <;> simp <;> omega
  rw [hin]
  cases h1 : decide (col < 0) with
  | true => rfl
  | false =>
   cases h2 : decide (w ≤ col) with
   | true => rfl
   | false =>
    show Go.Am.andThen _ _ = Go.Am.andThen _ _
    have hi : iValidExpr e w = true := by rw [ValidExpr_same]; exact hv
    rw [rl0 e w col (ivalid_vl hi), spec_fold e col _ 0 false (-9999) 9999 (by omega), List.drop_zero]
    rfl

theorem all_loopG {α : Type} (r0 : α) (L : Nat → Nat → Unit ⊕ α) (n : Nat) (bad : Nat → Bool)
  (hS : ∀ k i, L (k + 1) i = bif decide (((i : Nat) : Int) < ((n : Nat) : Int)) then (bif bad i then .inr r0 else L k (i + 1)) else .inl ()) :
  ∀ k i, n - i < k → (L k i = .inl () ∧ ∀ j, i ≤ j → j < n → bad j = false) ∨ (L k i = .inr r0 ∧ ∃ j, i ≤ j ∧ j < n ∧ bad j = true) := by
 intro k
 induction k with
 | zero => intro i h; omega
 | succ k ih =>
  intro i h
  rw [hS]
  by_cases hi : i < n
  ·
   rw [show decide (((i : Nat) : Int) < ((n : Nat) : Int)) = true by simp; omega, cond_true]
   cases hb : bad i with
   | true => exact .inr ⟨rfl, i, Nat.le_refl _, hi, hb⟩
   | false =>
    rw [cond_false]
    rcases ih (i + 1) (by omega) with ⟨h1, h2⟩ | ⟨h1, j, h2, h3, h4⟩
    ·
     refine .inl ⟨h1, fun j hj hjn => ?_⟩
     by_cases e : j = i
     ·
      subst e; exact hb
     ·
      exact h2 j (by omega) hjn
    ·
     exact .inr ⟨h1, j, by omega, h3, h4⟩
  ·
   rw [show decide (((i : Nat) : Int) < ((n : Nat) : Int)) = false by simp; omega, cond_false]
   exact .inl ⟨rfl, fun j hj hjn => by omega⟩


end
end Go.Proofs.Ytbgbekpbbcahpaa
