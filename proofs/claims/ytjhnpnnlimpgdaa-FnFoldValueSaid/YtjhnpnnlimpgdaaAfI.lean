/-
  A part of the proof of this claim (AfI): what functions of the program compute, and plain facts of that. No conditions.
-/
import Derived.Test.YtjhnpnnlimpgdaaAfG
import Derived.Test.YtjhnpnnlimpgdaaAnB
import Derived.Laws.BitsLemmas
set_option linter.all false
namespace Go.Proofs.Ytjhnpnnlimpgdaa
open Go Go.Am
noncomputable section

/-! ### The two foldings are one -/

theorem getD_kid {l : List Xpr} {i : Nat} (h : i < l.length) : l.getD i Xpr.zero = l[i] := by
 rw [List.getD_eq_getElem?_getD, List.getElem?_eq_getElem h]
 rfl

theorem kid_mem {e x : Xpr} (h : x ∈ e.Kids) : SizeOf.sizeOf x < SizeOf.sizeOf e := by
 obtain ⟨i, hi, rfl⟩ := List.mem_iff_getElem.1 h
 have := kid_lt hi
 rw [getD_kid hi] at this
 exact this

theorem foldP_fuel : ∀ (f g : Nat) (e : Xpr), SizeOf.sizeOf e < f → SizeOf.sizeOf e < g → foldP f e = foldP g e := by
 intro f
 induction f with
 | zero => intro g e h; omega
 | succ f ih =>
  intro g e h1 h2
  cases g with
  | zero => omega
  | succ g =>
   unfold foldP
   rw [show e.Kids.map (foldP f) = e.Kids.map (foldP g) from List.map_congr_left fun x hx => ih g x (by have := kid_mem hx; omega) (by have := kid_mem hx; omega)]

def fp (e : Xpr) : Xpr := foldP (SizeOf.sizeOf e + 1) e

theorem fp_eq {f : Nat} {e : Xpr} (h : SizeOf.sizeOf e < f) : foldP f e = fp e := foldP_fuel _ _ e h (Nat.lt_succ_self _)

theorem fp_leaf {e : Xpr} (h : e.Kids = []) : fp e = e := by
 unfold fp foldP
 rw [h]
 rfl

theorem fp_step {e : Xpr} (h : e.Kids.length ≠ 0) : fp e = foldStep e.Kind (e.Kids.map fp) := by
 have : fp e = bif (e.Kids.length == 0) then e else foldStep e.Kind (e.Kids.map (foldP (SizeOf.sizeOf e))) := rfl
 rw [this, show (e.Kids.length == 0) = false from beq_eq_false_iff_ne.2 h, cond_false, show e.Kids.map (foldP (SizeOf.sizeOf e)) = e.Kids.map fp from List.map_congr_left fun x hx => fp_eq (kid_mem hx)]

theorem folded_fp (e : Xpr) : folded e = fp e := folded_eq _ e
theorem fold_fp (e : Xpr) : fold e = fp e := fold_eq _ e

theorem iFoldExpr_eq (e : Xpr) : iFoldExpr e = bif iValidExpr e 6 then fp e else Xpr.zero := by
 unfold iFoldExpr
 rw [Xpr.eta, folded_fp]
 cases iValidExpr e 6 <;> rfl

theorem FoldExpr_eq (e : Xpr) : FoldExpr e = iFoldExpr e := by
 rw [iFoldExpr_eq]
 unfold FoldExpr
 rw [Xpr.eta, Xpr.eta, fold_fp, ← ValidExpr_same]
 cases iValidExpr e 6 <;> rfl

theorem equal_refl : ∀ (f : Nat) (a : Xpr), SizeOf.sizeOf a < f → equalExprs_r f a a = true := by
 intro f
 induction f with
 | zero => intro a h; omega
 | succ f ih =>
  intro a h
  have hl : ∀ (k i : Nat), equalExprs_l0 (equalExprs_r f) a a k i = .inl () := by
   intro k
   induction k with
   | zero => intro i; rfl
   | succ k ihk =>
    intro i
    unfold equalExprs_l0
    by_cases hi : i < a.Kids.length
    ·
     have := kid_lt hi
     rw [ih _ (by omega), ihk]
     cases decide (((i : Nat) : Int) < ((List.length (Xpr.Kids a) : Nat) : Int)) <;> rfl
    ·
     rw [decide_eq_false (by omega), cond_false]
  unfold equalExprs_r equalExprs_c0
  rw [hl]
  simp [Go.Am.andThen]

theorem equalExprs_self (a : Xpr) : equalExprs a a = true := equal_refl _ a (Nat.lt_succ_self _)

/-! ### Folded once is folded -/

theorem step_fix {k : Int} {ks : List Xpr} (h0 : ks.length ≠ 0) (hk : ∀ x ∈ ks, fp x = x) : fp (foldStep k ks) = foldStep k ks := by
 unfold foldStep
 cases ha : ks.all (fun x => x.Kind == 2) with
 | true => exact fp_leaf rfl
 | false =>
  rw [cond_false]
  cases h8 : (bif k == 8 then ks.any (fun x => isConstant x 0) else false) with
  | true => exact fp_leaf rfl
  | false =>
   rw [cond_false]
   cases h9 : (bif k == 9 then ks.any (fun x => isConstant x 1) else false) with
   | true => exact fp_leaf rfl
   | false =>
    rw [cond_false, fp_step (by exact h0)]
    show foldStep k (ks.map fp) = _
    have : ks.map fp = ks := by
     conv => rhs; rw [← List.map_id ks]
     exact List.map_congr_left hk
    rw [this]
    unfold foldStep
    rw [ha, cond_false, h8, cond_false, h9, cond_false]

theorem fp_fp : ∀ (n : Nat) (e : Xpr), SizeOf.sizeOf e < n → fp (fp e) = fp e := by
 intro n
 induction n with
 | zero => intro e h; omega
 | succ n ih =>
  intro e h
  by_cases h0 : e.Kids.length = 0
  ·
   rw [fp_leaf (List.length_eq_zero_iff.1 h0), fp_leaf (List.length_eq_zero_iff.1 h0)]
  ·
   rw [fp_step h0]
   refine step_fix (by rw [List.length_map]; exact h0) fun x hx => ?_
   obtain ⟨y, hy, rfl⟩ := List.mem_map.1 hx
   exact ih y (by have := kid_mem hy; omega)

theorem fp_ve {w : Int} {l : Nat} {e : Xpr} (h : VE w l e) : VE w l (fp e) := foldP_ve _ h (Nat.lt_succ_self _)

theorem fold_again {e : Xpr} (h : iValidExpr e 6 = true) : iFoldExpr (iFoldExpr e) = iFoldExpr e := by
 have hv := iValidExpr_iff.1 h
 rw [iFoldExpr_eq e, h, cond_true, iFoldExpr_eq, iValidExpr_iff.2 ⟨hv.1, fp_ve hv.2⟩, cond_true, fp_fp _ e (Nat.lt_succ_self _)]

/-! ### Columns -/

theorem wraps_i64 (j : Nat) (hj : j ≤ 63) (n : Int) (h₀ : 0 ≤ n) (h₁ : n < 2 ^ j) : IntKind.i64.wrap n = n := by
 rw [IntKind.wrap_i64]
 have : (2 : Int) ^ j ≤ 2 ^ 63 := by
  have := Nat.pow_le_pow_right (show 0 < 2 by decide) hj
  exact_mod_cast this
 omega

theorem bits64 {a b : Int} (ha : 0 ≤ a) (ha' : a < 64) (hb : 0 ≤ b) (hb' : b < 64) : bits .or .i64 a b = ((a.toNat ||| b.toNat : Nat) : Int) := by
 obtain ⟨n, rfl⟩ := Int.eq_ofNat_of_zero_le ha
 obtain ⟨m, rfl⟩ := Int.eq_ofNat_of_zero_le hb
 exact (bits_nat .i64 6 (by decide) (wraps_i64 6 (by decide)) n m (by omega) (by omega)).2

theorem or64 {a b : Int} (ha : 0 ≤ a) (ha' : a < 64) (hb : 0 ≤ b) (hb' : b < 64) : a ≤ bits .or .i64 a b ∧ b ≤ bits .or .i64 a b ∧ bits .or .i64 a b < 64 := by
 rw [bits64 ha ha' hb hb']
 have h1 : a.toNat ≤ a.toNat ||| b.toNat := Nat.left_le_or
 have h3 : b.toNat ≤ a.toNat ||| b.toNat := Nat.right_le_or
 have h2 : a.toNat ||| b.toNat < 2 ^ 6 := Nat.or_lt_two_pow (by omega) (by omega)
 omega

theorem col_loop {self : Xpr → Int} {e : Xpr} (hs : ∀ i, i < e.Kids.length → 0 ≤ self (e.Kids.getD i Xpr.zero) ∧ self (e.Kids.getD i Xpr.zero) < 64) : ∀ (k : Nat) (s : Int) (v : Nat), e.Kids.length - v < k → 0 ≤ s → s < 64 →
  (s ≤ columns_l0 self e k s v ∧ columns_l0 self e k s v < 64) ∧ ∀ i, v ≤ i → i < e.Kids.length → self (e.Kids.getD i Xpr.zero) ≤ columns_l0 self e k s v := by
 intro k
 induction k with
 | zero => intro s v h; omega
 | succ k ih =>
  intro s v h h0 h1
  unfold columns_l0
  by_cases hlt : v < e.Kids.length
  ·
   rw [decide_eq_true (by omega : ((v : Nat) : Int) < ((List.length (Xpr.Kids e) : Nat) : Int)), cond_true]
   have a := hs v hlt
   have o := or64 h0 h1 a.1 a.2
   have q := ih (bits .or .i64 s (self (e.Kids.getD v Xpr.zero))) (v + 1) (by omega) (by omega) o.2.2
   refine ⟨⟨by omega, q.1.2⟩, fun i hv hi => ?_⟩
   by_cases hiv : i = v
   ·
    subst hiv
    omega
   ·
    exact q.2 i (by omega) hi
  ·
   rw [decide_eq_false (by omega), cond_false]
   exact ⟨⟨Int.le_refl _, h1⟩, fun i hv hi => by omega⟩

theorem col_fold {w : Int} (hw : w ≤ 6) : ∀ (f : Nat) {l : Nat} {e : Xpr}, VE w l e → SizeOf.sizeOf e < f → (0 ≤ columns_r f e ∧ columns_r f e < 64) ∧ (columns_r f e = 0 → (fp e).Kind = 2) := by
 intro f
 induction f with
 | zero => intro l e _ h; omega
 | succ f ih =>
  intro l e h hs
  have hn := Node_iff.1 h.node
  have hc := kids_cases e.Kind
  unfold columns_r
  by_cases h1 : e.Kind = 1
  ·
   rw [show (e.Kind == 1) = true from beq_iff_eq.2 h1, cond_true]
   have := pow_lt6 (c := e.Col) (by have := hn.2.1 h1; omega)
   omega
  ·
   rw [show (e.Kind == 1) = false from beq_eq_false_iff_ne.2 h1, cond_false]
   show (0 ≤ columns_l0 (columns_r f) e (e.Kids.length - 0 + 1) 0 0 ∧ columns_l0 (columns_r f) e (e.Kids.length - 0 + 1) 0 0 < 64) ∧ (columns_l0 (columns_r f) e (e.Kids.length - 0 + 1) 0 0 = 0 → (fp e).Kind = 2)
   have hk : ∀ i, i < e.Kids.length → (0 ≤ columns_r f (e.Kids.getD i Xpr.zero) ∧ columns_r f (e.Kids.getD i Xpr.zero) < 64) ∧ (columns_r f (e.Kids.getD i Xpr.zero) = 0 → (fp (e.Kids.getD i Xpr.zero)).Kind = 2) := by
    intro i hi
    obtain ⟨l', hv⟩ := h.kid hi
    have := kid_lt hi
    exact ih hv (by omega)
   obtain ⟨q1, q2⟩ := col_loop (self := columns_r f) (e := e) (fun i hi => (hk i hi).1) (e.Kids.length - 0 + 1) 0 0 (by omega) (by omega) (by omega)
   refine ⟨q1, fun hz => ?_⟩
   by_cases h0 : e.Kids.length = 0
   ·
    rw [fp_leaf (List.length_eq_zero_iff.1 h0)]
    omega
   ·
    rw [fp_step h0]
    unfold foldStep
    have : (e.Kids.map fp).all (fun x => x.Kind == 2) = true := by
     rw [List.all_eq_true]
     intro x hx
     obtain ⟨y, hy, rfl⟩ := List.mem_map.1 hx
     obtain ⟨i, hi, rfl⟩ := List.mem_iff_getElem.1 hy
     have a1 := q2 i (Nat.zero_le _) hi
     have a2 := hk i hi
     rw [getD_kid hi] at a1 a2
     exact beq_iff_eq.2 (a2.2 (by omega))
    rw [this]
    rfl

theorem cols_len (e : Xpr) : ∀ (k v : Nat) (l : List Int), l.length ≤ (ColumnsOf_l0 e k v l).length := by
 intro k
 induction k with
 | zero => intro v l; exact Nat.le_refl _
 | succ k ih =>
  intro v l
  unfold ColumnsOf_l0
  cases decide (((v : Nat) : Int) < 6) with
  | false => exact Nat.le_refl _
  | true =>
   rw [cond_true]
   cases (bits .and .i64 (columns (Xpr.mk (Xpr.Kind e) (Xpr.Col e) (Xpr.V e) (Xpr.Kids e))) ((1 : Int) * 2 ^ v) != 0) with
   | true =>
    rw [cond_true]
    have := ih (v + 1) (l ++ [((v : Nat) : Int)])
    rw [List.length_append] at this
    simp only [List.length_cons, List.length_nil] at this
    omega
   | false => exact ih (v + 1) l

theorem cols_some {e : Xpr} (hc : 0 ≤ columns e ∧ columns e < 64) : ∀ (k v c : Nat) (l : List Int), v ≤ c → c < 6 → c - v < k → (columns e / 2 ^ c) % 2 = 1 → l.length < (ColumnsOf_l0 e k v l).length := by
 intro k
 induction k with
 | zero => intro v c l _ _ h; omega
 | succ k ih =>
  intro v c l hv hc6 h hb
  unfold ColumnsOf_l0
  rw [Xpr.eta, decide_eq_true (by omega : ((v : Nat) : Int) < 6), cond_true, bit_ne hc.1 (by omega) (by omega)]
  by_cases hvc : v = c
  ·
   subst hvc
   rw [hb]
   show l.length < (ColumnsOf_l0 e k (v + 1) (l ++ [((v : Nat) : Int)])).length
   have := cols_len e k (v + 1) (l ++ [((v : Nat) : Int)])
   rw [List.length_append] at this
   simp only [List.length_cons, List.length_nil] at this
   omega
  ·
   cases (columns e / 2 ^ v % 2 == 1) with
   | true =>
    rw [cond_true]
    have := ih (v + 1) c (l ++ [((v : Nat) : Int)]) (by omega) hc6 (by omega) hb
    rw [List.length_append] at this
    omega
   | false => exact ih (v + 1) c l (by omega) hc6 (by omega) hb

theorem six_bits {n : Int} (h0 : 0 < n) (h1 : n < 64) : ∃ c : Nat, c < 6 ∧ (n / 2 ^ c) % 2 = 1 := by
 have : n % 2 = 1 ∨ n / 2 % 2 = 1 ∨ n / 4 % 2 = 1 ∨ n / 8 % 2 = 1 ∨ n / 16 % 2 = 1 ∨ n / 32 % 2 = 1 := by omega
 rcases this with h | h | h | h | h | h
 ·
  exact ⟨0, by decide, by simpa using h⟩
 ·
  exact ⟨1, by decide, h⟩
 ·
  exact ⟨2, by decide, h⟩
 ·
  exact ⟨3, by decide, h⟩
 ·
  exact ⟨4, by decide, h⟩
 ·
  exact ⟨5, by decide, h⟩

theorem no_columns {e : Xpr} (h : iValidExpr e 6 = true) : 0 < (ColumnsOf e).length ∨ (iFoldExpr e).Kind = 2 := by
 have hv := iValidExpr_iff.1 h
 obtain ⟨h1, h2⟩ := col_fold (w := 6) (Int.le_refl _) (SizeOf.sizeOf e + 1) hv.2 (Nat.lt_succ_self _)
 by_cases hz : columns e = 0
 ·
  right
  rw [iFoldExpr_eq, h, cond_true]
  exact h2 hz
 ·
  left
  obtain ⟨c, hc, hb⟩ := six_bits (n := columns e) (by have : 0 ≤ columns e := h1.1; omega) h1.2
  unfold ColumnsOf
  rw [Xpr.eta, h, Bool.not_true, cond_false]
  exact cols_some h1 (6 - 0 + 1) 0 c [] (Nat.zero_le _) hc (by omega) hb

theorem FnFoldTwice_law (code : List Int) : FnFoldTwice code = true := by
 unfold FnFoldTwice
 simp only [Xpr.eta]
 cases decide (1048576 < ((List.length code : Nat) : Int)) with
 | true => rfl
 | false =>
  rw [cond_false, FoldExpr_eq, equalExprs_self, Bool.not_true, cond_false]
  cases hv : iValidExpr (DrawFoldExpr code) 6 with
  | false => rfl
  | true =>
   rw [Bool.not_true, cond_false, fold_again hv, equalExprs_self, cond_true]
   rcases no_columns hv with h | h
   ·
    rw [decide_eq_true (by omega)]
    rfl
   ·
    rw [h]
    cases decide (0 < ((List.length (ColumnsOf (DrawFoldExpr code)) : Nat) : Int)) <;> rfl

end
end Go.Proofs.Ytjhnpnnlimpgdaa
