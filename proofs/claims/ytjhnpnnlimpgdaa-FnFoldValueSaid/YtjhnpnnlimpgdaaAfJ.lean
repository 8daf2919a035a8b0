/-
  A part of the proof of this claim (AfJ): what functions of the program compute, and plain facts of that. No conditions.
-/
import Derived.Test.YtjhnpnnlimpgdaaAfI
import Derived.Test.YtjhnpnnlimpgdaaAfH
set_option linter.all false
namespace Go.Proofs.Ytjhnpnnlimpgdaa
open Go Go.Am
noncomputable section

/-! ### What an expression is worth -/

theorem value_fuel : ∀ (f g : Nat) {w : Int} {l : Nat} {e : Xpr} (row : List Val), VE w l e → SizeOf.sizeOf e < f → SizeOf.sizeOf e < g → value_r f e row = value_r g e row := by
 intro f
 induction f with
 | zero => intro g w l e row _ h; omega
 | succ f ih =>
  intro g w l e row h h1 h2
  cases g with
  | zero => omega
  | succ g =>
   have hn := Node_iff.1 h.node
   have hc := kids_cases e.Kind
   have hk : ∀ i, i < e.Kids.length → value_r f (e.Kids.getD i Xpr.zero) row = value_r g (e.Kids.getD i Xpr.zero) row := by
    intro i hi
    obtain ⟨l', hv⟩ := h.kid hi
    have := kid_lt hi
    exact ih g row hv (by omega) (by omega)
   unfold value_r
   by_cases k1 : e.Kind = 1
   ·
    rw [show (e.Kind == 1) = true from beq_iff_eq.2 k1]
    rfl
   by_cases k2 : e.Kind = 2
   ·
    rw [show (e.Kind == 2) = true from beq_iff_eq.2 k2]
    cases (e.Kind == 1) <;> rfl
   by_cases h0 : 0 < e.Kids.length
   ·
    rw [hk 0 h0]
    by_cases k10 : e.Kind = 10
    ·
     rw [show (e.Kind == 10) = true from beq_iff_eq.2 k10]
     rfl
    by_cases k11 : e.Kind = 11
    ·
     rw [show (e.Kind == 11) = true from beq_iff_eq.2 k11]
     rfl
    rw [hk 1 (by omega)]
   ·
    omega

theorem value_at {w : Int} {l f : Nat} {e : Xpr} (row : List Val) (h : VE w l e) (hf : SizeOf.sizeOf e < f) : value_r f e row = value e row := value_fuel _ _ row h hf (Nat.lt_succ_self _)

def stepV (k : Int) (a b : Val) : Val := bif k == 10 then truthValue (2 - truthOf a) else bif k == 11 then flag a.Null else combined k a b

theorem stepV_congr {k : Int} {a b a' b' : Val} (h1 : a = a') (h2 : ¬ k = 10 → ¬ k = 11 → b = b') : stepV k a b = stepV k a' b' := by
 subst h1
 unfold stepV
 by_cases k10 : k = 10
 ·
  rw [show (k == 10) = true from beq_iff_eq.2 k10]
  rfl
 by_cases k11 : k = 11
 ·
  rw [show (k == 11) = true from beq_iff_eq.2 k11]
  rfl
 rw [h2 k10 k11]

theorem value_succ (f : Nat) (e : Xpr) (row : List Val) (h1 : e.Kind ≠ 1) (h2 : e.Kind ≠ 2) : value_r (f + 1) e row = stepV e.Kind (value_r f (e.Kids.getD 0 Xpr.zero) row) (value_r f (e.Kids.getD 1 Xpr.zero) row) := by
 conv => lhs; unfold value_r
 rw [show (e.Kind == 1) = false from beq_eq_false_iff_ne.2 h1, show (e.Kind == 2) = false from beq_eq_false_iff_ne.2 h2, cond_false, cond_false]
 rfl

theorem value_node {w : Int} {l : Nat} {e : Xpr} (row : List Val) (h : VE w l e) (h0 : e.Kids.length ≠ 0) : value e row = stepV e.Kind (value (e.Kids.getD 0 Xpr.zero) row) (value (e.Kids.getD 1 Xpr.zero) row) := by
 have hn := Node_iff.1 h.node
 have hc := kids_cases e.Kind
 have hk : ∀ i, i < e.Kids.length → value_r (SizeOf.sizeOf e) (e.Kids.getD i Xpr.zero) row = value (e.Kids.getD i Xpr.zero) row := by
  intro i hi
  obtain ⟨l', hv⟩ := h.kid hi
  exact value_at row hv (kid_lt hi)
 have e1 : value e row = stepV e.Kind (value_r (SizeOf.sizeOf e) (e.Kids.getD 0 Xpr.zero) row) (value_r (SizeOf.sizeOf e) (e.Kids.getD 1 Xpr.zero) row) := value_succ _ e row (by omega) (by omega)
 rw [e1]
 exact stepV_congr (hk 0 (by omega)) fun k10 k11 => hk 1 (by omega)

theorem value_const {e : Xpr} (row : List Val) (h : e.Kind = 2) : value e row = e.V := by
 show value_r (SizeOf.sizeOf e + 1) e row = _
 unfold value_r
 rw [h]
 rfl

theorem map_getD {l : List Xpr} {i : Nat} (h : i < l.length) : (l.map fp).getD i Xpr.zero = fp (l.getD i Xpr.zero) := by
 rw [List.getD_eq_getElem?_getD, List.getElem?_map, List.getElem?_eq_getElem h, getD_kid h]
 rfl

theorem and_zero {a b : Val} (h : truthOf a = 0 ∨ truthOf b = 0) : combined 8 a b = Val.mk false 0 := by
 have ha := truthOf_b a
 have hb := truthOf_b b
 show truthValue (if truthOf b < truthOf a then truthOf b else truthOf a) = _
 rw [show (if truthOf b < truthOf a then truthOf b else truthOf a) = 0 by split <;> omega]
 rfl

theorem or_one {a b : Val} (h : truthOf a = 2 ∨ truthOf b = 2) : combined 9 a b = Val.mk false 1 := by
 have ha := truthOf_b a
 have hb := truthOf_b b
 show truthValue (if truthOf b > truthOf a then truthOf b else truthOf a) = _
 rw [show (if truthOf b > truthOf a then truthOf b else truthOf a) = 2 by split <;> omega]
 rfl

theorem const_yes {x : Xpr} {t : Int} (h : isConstant x t = true) : x.Kind = 2 := by
 unfold isConstant at h
 cases hk : (x.Kind == 2) with
 | true => exact eq_of_beq hk
 | false => rw [hk] at h; cases h

theorem two_any {ks : List Xpr} (h : ks.length = 2) {p : Xpr → Bool} (hp : ks.any p = true) : p (ks.getD 0 Xpr.zero) = true ∨ p (ks.getD 1 Xpr.zero) = true := by
 match ks, h with
 | [x, y], _ => simpa using hp

theorem step_value {w k : Int} {n : Nat} {ks : List Xpr} (row : List Val) (hk : ((ks.length : Nat) : Int) = kidsOfKind k) (h0 : ks.length ≠ 0) (hks : ∀ i, i < ks.length → VE w n (ks.getD i Xpr.zero)) :
  value (foldStep k ks) row = stepV k (value (ks.getD 0 Xpr.zero) row) (value (ks.getD 1 Xpr.zero) row) := by
 have hc := kids_cases k
 unfold foldStep
 cases ha : ks.all (fun x => x.Kind == 2) with
 | true =>
  rw [cond_true, value_const row (rfl : (constant _).Kind = 2)]
  show evalExpr (Xpr.mk k 0 (Val.mk false 0) ks) [] = _
  have hcon : ∀ i, i < ks.length → (ks.getD i Xpr.zero).Kind = 2 := fun i hi => eq_of_beq (List.all_eq_true.1 ha _ (getD_mem ks i Xpr.zero hi))
  have hv : VE 0 (n + 1) (Xpr.mk k 0 (Val.mk false 0) ks) := VE.up (l := 0) hk h0 fun i hi => (hks i hi).const (hcon i hi)
  rw [← value_evalE, value_node [] hv h0]
  refine stepV_congr ((value_const _ (hcon 0 (by omega))).trans (value_const _ (hcon 0 (by omega))).symm) fun k10 k11 => ?_
  have k10 : ¬ k = 10 := k10
  have k11 : ¬ k = 11 := k11
  exact (value_const _ (hcon 1 (by omega))).trans (value_const _ (hcon 1 (by omega))).symm
 | false =>
  rw [cond_false]
  cases h8 : (bif k == 8 then ks.any (fun x => isConstant x 0) else false) with
  | true =>
   rw [cond_true, value_const row (rfl : (constant _).Kind = 2)]
   cases hk8 : (k == 8) with
   | false => rw [hk8] at h8; cases h8
   | true =>
    rw [hk8, cond_true] at h8
    obtain rfl := eq_of_beq hk8
    have e2 : ks.length = 2 := by omega
    show Val.mk false 0 = combined 8 _ _
    rw [and_zero]
    rcases two_any e2 h8 with h | h
    ·
     left
     rw [value_const row (const_yes h)]
     rw [(const_truth (const_yes h)).1] at h
     exact eq_of_beq h
    ·
     right
     rw [value_const row (const_yes h)]
     rw [(const_truth (const_yes h)).1] at h
     exact eq_of_beq h
  | false =>
   rw [cond_false]
   cases h9 : (bif k == 9 then ks.any (fun x => isConstant x 1) else false) with
   | true =>
    rw [cond_true, value_const row (rfl : (constant _).Kind = 2)]
    cases hk9 : (k == 9) with
    | false => rw [hk9] at h9; cases h9
    | true =>
     rw [hk9, cond_true] at h9
     obtain rfl := eq_of_beq hk9
     have e2 : ks.length = 2 := by omega
     show Val.mk false 1 = combined 9 _ _
     rw [or_one]
     rcases two_any e2 h9 with h | h
     ·
      left
      rw [value_const row (const_yes h)]
      rw [(const_truth (const_yes h)).2] at h
      exact eq_of_beq h
     ·
      right
      rw [value_const row (const_yes h)]
      rw [(const_truth (const_yes h)).2] at h
      exact eq_of_beq h
   | false =>
    rw [cond_false]
    exact value_node row (VE.up (l := 0) hk h0 hks) h0

theorem fp_value (row : List Val) : ∀ (n : Nat) {w : Int} {l : Nat} {e : Xpr}, VE w l e → SizeOf.sizeOf e < n → value (fp e) row = value e row := by
 intro n
 induction n with
 | zero => intro w l e _ h; omega
 | succ n ih =>
  intro w l e h hs
  by_cases h0 : e.Kids.length = 0
  ·
   rw [fp_leaf (List.length_eq_zero_iff.1 h0)]
  ·
   have hn := Node_iff.1 h.node
   have hc := kids_cases e.Kind
   cases l with
   | zero => exact absurd h.2 h0
   | succ l =>
    rw [fp_step h0, step_value (w := w) (n := l) row (by rw [List.length_map]; exact hn.1) (by rw [List.length_map]; exact h0) (map_ve fun i hi => fp_ve (h.2 i hi)), value_node row h h0]
    have hk : ∀ i, i < e.Kids.length → value ((e.Kids.map fp).getD i Xpr.zero) row = value (e.Kids.getD i Xpr.zero) row := by
     intro i hi
     rw [map_getD hi]
     have := kid_lt hi
     exact ih (h.2 i hi) (by omega)
    exact stepV_congr (hk 0 (by omega)) fun k10 k11 => hk 1 (by omega)

/-! ### Sizes -/

theorem size_loop (self : Xpr → Int) (e : Xpr) : ∀ (k : Nat) (n : Int) (v : Nat), e.Kids.length - v < k → size_l0 self e k n v = n + ((e.Kids.drop v).map self).sum := by
 intro k
 induction k with
 | zero => intro n v h; omega
 | succ k ih =>
  intro n v h
  unfold size_l0
  by_cases hlt : v < e.Kids.length
  ·
   rw [decide_eq_true (by omega : ((v : Nat) : Int) < ((List.length (Xpr.Kids e) : Nat) : Int)), cond_true, ih _ _ (by omega), List.drop_eq_getElem_cons hlt, getD_kid hlt, List.map_cons, List.sum_cons]
   omega
  ·
   rw [decide_eq_false (by omega), cond_false, List.drop_of_length_le (by omega)]
   simp

theorem size_succ (f : Nat) (e : Xpr) : size_r (f + 1) e = 1 + (e.Kids.map (size_r f)).sum := by
 unfold size_r Go.Am.andThen
 rw [size_loop _ _ _ _ _ (by omega), List.drop_zero]

theorem size_fuel : ∀ (f g : Nat) (e : Xpr), SizeOf.sizeOf e < f → SizeOf.sizeOf e < g → size_r f e = size_r g e := by
 intro f
 induction f with
 | zero => intro g e h; omega
 | succ f ih =>
  intro g e h1 h2
  cases g with
  | zero => omega
  | succ g =>
   rw [size_succ, size_succ, show e.Kids.map (size_r f) = e.Kids.map (size_r g) from List.map_congr_left fun x hx => ih g x (by have := kid_mem hx; omega) (by have := kid_mem hx; omega)]

theorem size_eq (e : Xpr) : size e = 1 + (e.Kids.map size).sum := by
 show size_r (SizeOf.sizeOf e + 1) e = _
 rw [size_succ, show e.Kids.map (size_r (SizeOf.sizeOf e)) = e.Kids.map size from List.map_congr_left fun x hx => size_fuel _ _ x (kid_mem hx) (Nat.lt_succ_self _)]

theorem sum_le {f g : Xpr → Int} : ∀ {l : List Xpr}, (∀ x ∈ l, f x ≤ g x) → (l.map f).sum ≤ (l.map g).sum := by
 intro l
 induction l with
 | nil => intro _; exact Int.le_refl _
 | cons a l ih =>
  intro h
  rw [List.map_cons, List.map_cons, List.sum_cons, List.sum_cons]
  have := h a List.mem_cons_self
  have := ih fun x hx => h x (List.mem_cons_of_mem _ hx)
  omega

theorem sum_pos {f : Xpr → Int} : ∀ {l : List Xpr}, (∀ x ∈ l, 0 ≤ f x) → 0 ≤ (l.map f).sum := by
 intro l
 induction l with
 | nil => intro _; exact Int.le_refl _
 | cons a l ih =>
  intro h
  rw [List.map_cons, List.sum_cons]
  have := h a List.mem_cons_self
  have := ih fun x hx => h x (List.mem_cons_of_mem _ hx)
  omega

theorem size_nn : ∀ (n : Nat) (e : Xpr), SizeOf.sizeOf e < n → 0 ≤ size e := by
 intro n
 induction n with
 | zero => intro e h; omega
 | succ n ih =>
  intro e h
  rw [size_eq]
  have := sum_pos (f := size) (l := e.Kids) fun x hx => ih x (by have := kid_mem hx; omega)
  omega

theorem size_fp : ∀ (n : Nat) (e : Xpr), SizeOf.sizeOf e < n → size (fp e) ≤ size e := by
 intro n
 induction n with
 | zero => intro e h; omega
 | succ n ih =>
  intro e h
  by_cases h0 : e.Kids.length = 0
  ·
   rw [fp_leaf (List.length_eq_zero_iff.1 h0)]
   exact Int.le_refl _
  ·
   have h1 : ((e.Kids.map fp).map size).sum ≤ (e.Kids.map size).sum := by
    rw [List.map_map]
    exact sum_le fun x hx => ih x (by have := kid_mem hx; omega)
   have h2 := sum_pos (f := size) (l := e.Kids) fun x _ => size_nn _ x (Nat.lt_succ_self _)
   have hc : ∀ v, size (constant v) = 1 := fun v => by rw [size_eq]; rfl
   rw [fp_step h0, size_eq e]
   unfold foldStep
   cases (e.Kids.map fp).all (fun x => x.Kind == 2) with
   | true => rw [cond_true, hc]; omega
   | false =>
    rw [cond_false]
    cases (bif e.Kind == 8 then (e.Kids.map fp).any (fun x => isConstant x 0) else false) with
    | true => rw [cond_true, hc]; omega
    | false =>
     rw [cond_false]
     cases (bif e.Kind == 9 then (e.Kids.map fp).any (fun x => isConstant x 1) else false) with
     | true => rw [cond_true, hc]; omega
     | false =>
      rw [cond_false, size_eq]
      show 1 + ((e.Kids.map fp).map size).sum ≤ _
      omega

/-! ### The law -/

theorem VE.mono {w w' : Int} (hw : w ≤ w') : ∀ {l : Nat} {e : Xpr}, VE w l e → VE w' l e := by
 have nd : ∀ {e : Xpr}, Node w e → Node w' e := fun {e} h => by
  obtain ⟨n1, n2, n3, n4, n5⟩ := Node_iff.1 h
  exact Node_iff.2 ⟨n1, fun k => by have := n2 k; omega, n3, n4, n5⟩
 intro l
 induction l with
 | zero => intro e h; exact ⟨nd h.1, h.2⟩
 | succ l ih => intro e h; exact ⟨nd h.1, fun i hi => ih (h.2 i hi)⟩

theorem VRw.snoc {row : List Val} {v : Val} (h : VRw row) (hv : VV v) : VRw (row ++ [v]) := by
 intro j hj
 rw [List.length_append] at hj
 by_cases hlt : j < row.length
 ·
  have := h j hlt
  rw [List.getD_eq_getElem?_getD] at this ⊢
  rw [List.getElem?_append_left hlt]
  exact this
 ·
  rw [List.getD_eq_getElem?_getD, List.getElem?_append_right (by omega), show j - row.length = 0 by simp only [List.length_cons, List.length_nil] at hj; omega]
  exact hv

theorem row_three (more : List Int) : ∀ (k i : Nat) (row : List Val), 3 - i < k → i ≤ 3 → row.length = i → VRw row → (FnFoldValue_l0 more k i row).length = 3 ∧ VRw (FnFoldValue_l0 more k i row) := by
 intro k
 induction k with
 | zero => intro i row h; omega
 | succ k ih =>
  intro i row h hi hl hr
  unfold FnFoldValue_l0
  by_cases hlt : i < 3
  ·
   rw [decide_eq_true (by omega : ((i : Nat) : Int) < 3), cond_true]
   cases (((((List.length more : Nat) : Int) / 7) + ((i : Nat) : Int)) % 4 == 0) with
   | true => exact ih (i + 1) _ (by omega) hlt (by rw [List.length_append, hl]; rfl) (hr.snoc (by unfold VV; simp))
   | false =>
    refine ih (i + 1) _ (by omega) hlt (by rw [List.length_append, hl]; rfl) (hr.snoc ?_)
    unfold VV
    simp only [Bool.false_eq_true, if_false]
    omega
  ·
   rw [decide_eq_false (by omega), cond_false]
   exact ⟨by omega, hr⟩

theorem eval_ok {e : Xpr} {row : List Val} (hr : row.length = 3 ∧ VRw row) (h : VE 3 8 e) : EvalExpr e row = (value e row, true) := by
 unfold EvalExpr
 rw [Xpr.eta, validRow_iff.2 ⟨by omega, hr.2⟩, hr.1, show iValidExpr e ((3 : Nat) : Int) = true from iValidExpr_iff.2 ⟨by decide, h⟩]
 rfl

theorem FnFoldValue_law (code more : List Int) : FnFoldValue code more = true := by
 unfold FnFoldValue
 simp only [Xpr.eta]
 cases (bif (decide (1048576 < ((List.length code : Nat) : Int))) then true else (decide (1048576 < ((List.length more : Nat) : Int)))) with
 | true => rfl
 | false =>
  rw [cond_false, FoldExpr_eq, equalExprs_self, Bool.not_true, cond_false]
  cases hv : iValidExpr (DrawFoldExpr code) 3 with
  | false => rfl
  | true =>
   have h3 := (iValidExpr_iff.1 hv).2
   have h6 := h3.mono (w' := 6) (by decide)
   have v6 : iValidExpr (DrawFoldExpr code) 6 = true := iValidExpr_iff.2 ⟨by decide, h6⟩
   have hf : iFoldExpr (DrawFoldExpr code) = fp (DrawFoldExpr code) := by rw [iFoldExpr_eq, v6]; rfl
   have hr := row_three more (3 - 0 + 1) 0 [] (by omega) (Nat.zero_le _) rfl (fun j hj => absurd hj (Nat.not_lt_zero _))
   rw [hf, Bool.not_true, cond_false]
   unfold Go.Am.andThen
   simp only
   rw [eval_ok hr h3, eval_ok hr (fp_ve h3), fp_value _ _ h3 (Nat.lt_succ_self _)]
   have hs : ExprSize (fp (DrawFoldExpr code)) ≤ ExprSize (DrawFoldExpr code) := by
    unfold ExprSize
    rw [Xpr.eta, Xpr.eta, v6, iValidExpr_iff.2 ⟨by decide, fp_ve h6⟩]
    exact size_fp _ _ (Nat.lt_succ_self _)
   simp [hs]

end
end Go.Proofs.Ytjhnpnnlimpgdaa
