/-
  A part of the proof of this claim (ApTB): what functions of the program compute, and plain facts of that. No conditions.
-/
import Derived.Test.YtodcdgolcbdkgaaApTA
set_option linter.all false
namespace Go.Proofs.Ytodcdgolcbdkgaa
open Go Go.Am
noncomputable section

/-! ### Marks -/

theorem kf_sumM {α : Type} {m : α → Int → α × Int} {ok : α → Int → Prop} {c : α → Nat} {B : Int} : ∀ (l : List α), (∀ x ∈ l, ∀ k, 0 ≤ k → k + (c x : Nat) ≤ B → (m x k).2 = k + (c x : Nat) ∧ ok x k) → ∀ (k : Int), 0 ≤ k → k + (((l.map c).sum : Nat) : Int) ≤ B →
  kf m l k = k + (((l.map c).sum : Nat) : Int) ∧ OKL m ok l k := by
 intro l
 induction l with
 | nil => intro _ k _ _; exact ⟨by simp [kf], trivial⟩
 | cons x l ih =>
  intro h k h0 hB
  simp only [List.map_cons, List.sum_cons, Int.natCast_add] at hB ⊢
  obtain ⟨h1, h2⟩ := h x (List.Mem.head _) k h0 (by omega)
  obtain ⟨h3, h4⟩ := ih (fun y hy => h y (List.Mem.tail _ hy)) (k + (c x : Nat)) (by omega) (by omega)
  refine ⟨?_, h2, ?_⟩
  ·
   show kf m l (m x k).2 = _
   rw [h1, h3]
   omega
  ·
   show OKL m ok l (m x k).2
   rw [h1]
   exact h4

def BND : Int := 4611686018427387900

def nd : Nat → List Xpr → Nat
 | 0, _ => 0
 | f + 1, l => (l.map (fun x => 4 + nd f x.Kids)).sum

theorem nd_mono : ∀ (f g : Nat) (l : List Xpr), f ≤ g → nd f l ≤ nd g l := by
 intro f
 induction f with
 | zero => intro g l _; exact Nat.zero_le _
 | succ f ih =>
  intro g l h
  obtain ⟨g, rfl⟩ : ∃ q, g = q + 1 := ⟨g - 1, by omega⟩
  unfold nd
  induction l with
  | nil => exact Nat.le_refl _
  | cons x l ih2 =>
   simp only [List.map_cons, List.sum_cons]
   have := ih g x.Kids (by omega)
   omega

theorem held_congr {s1 s2 : List Xpr → Int → Int} (b : List Xpr) (h : ∀ i, i < b.length → ∀ k, s1 (List.getD b i Xpr.zero).Kids k = s2 (List.getD b i Xpr.zero).Kids k) : ∀ (n : Nat) (k : Int) (i : Nat), heldExprS_l0 s1 b n k i = heldExprS_l0 s2 b n k i := by
 intro n
 induction n with
 | zero => intro k i; rfl
 | succ n ih =>
  intro k i
  unfold heldExprS_l0
  by_cases hi : i < b.length
  ·
   rw [h i hi, ih]
  ·
   rw [ge_dec hi, cond_false, cond_false]

theorem held_fuel : ∀ (f g : Nat) (a : List Xpr) (k : Int), SizeOf.sizeOf a < f → SizeOf.sizeOf a < g → heldExprS_r f a k = heldExprS_r g a k := by
 intro f
 induction f with
 | zero => intro g a k h; omega
 | succ f ih =>
  intro g a k h1 h2
  obtain ⟨g, rfl⟩ : ∃ q, g = q + 1 := ⟨g - 1, by omega⟩
  unfold heldExprS_r
  rw [held_congr a fun i hi k => ih g _ k (by have := kids_szL hi; omega) (by have := kids_szL hi; omega)]

theorem held_unf (a : List Xpr) (k : Int) : heldExprS a k = Sum.elim (fun z => z) (fun r => r) (heldExprS_l0 heldExprS a (a.length - 0 + 1) k 0) := by
 show Sum.elim (fun z => z) (fun r => r) (heldExprS_l0 (heldExprS_r (SizeOf.sizeOf a)) a (a.length - 0 + 1) k 0) = _
 rw [held_congr (s2 := heldExprS) a fun i hi k => held_fuel _ (SizeOf.sizeOf (List.getD a i Xpr.zero).Kids + 1) _ k (kids_szL hi) (Nat.lt_succ_self _)]

def up4 (k : Int) : Int := IntKind.wrap .i64 (IntKind.wrap .i64 (IntKind.wrap .i64 (IntKind.wrap .i64 (k + 1) + 1) + 1) + 1)

def markX (self : List Xpr → Int → List Xpr × Int) (x : Xpr) (k : Int) : Xpr × Int :=
 (Xpr.mk k (IntKind.wrap .i64 (k + 1)) (Val.mk (Int.tmod (IntKind.wrap .i64 (IntKind.wrap .i64 (k + 1) + 1)) 3 == 0) (IntKind.wrap .i64 (IntKind.wrap .i64 (IntKind.wrap .i64 (k + 1) + 1) + 1))) (self x.Kids (up4 k)).1, (self x.Kids (up4 k)).2)

def okX (self : List Xpr → Int → List Xpr × Int) (x : Xpr) (k : Int) : Prop := 0 ≤ (self x.Kids (up4 k)).2 ∧ heldExprS (self x.Kids (up4 k)).1 (up4 k) = (self x.Kids (up4 k)).2

theorem markE_step (self : List Xpr → Int → List Xpr × Int) (a : List Xpr) (k : Int) (hok : OKL (markX self) (okX self) a k) :
  (markExprS_l0 self (a.length - 0 + 1) k 0 a).1 = kf (markX self) a k ∧ heldExprS (markExprS_l0 self (a.length - 0 + 1) k 0 a).2 k = kf (markX self) a k := by
 obtain ⟨h1, h2, _, h4⟩ := mark_held (m := markX self) (ok := okX self) Xpr.zero (markExprS_l0 self) (heldExprS_l0 heldExprS)
  (fun n k i a hi => by
   show (bif decide (((i : Nat) : Int) < ((List.length a : Nat) : Int)) then _ else _) = _
   rw [lt_dec hi, cond_true, lgetD_set_eq hi]
   rfl)
  (fun n k i a hi => by
   show (bif decide (((i : Nat) : Int) < ((List.length a : Nat) : Int)) then _ else _) = _
   rw [ge_dec hi, cond_false])
  (fun b n k i x hi hb ho => by
   show (bif decide (((i : Nat) : Int) < ((List.length b : Nat) : Int)) then _ else _) = _
   rw [lt_dec hi, cond_true, hb]
   have e2 : heldExprS (markX self x k).1.Kids (up4 k) = (markX self x k).2 := ho.2
   have e1 : ¬ (markX self x k).2 < 0 := Int.not_lt.2 ho.1
   show (bif k != k then _ else bif IntKind.wrap .i64 (k + 1) != IntKind.wrap .i64 (k + 1) then _ else bif (Int.tmod (IntKind.wrap .i64 (IntKind.wrap .i64 (k + 1) + 1)) 3 == 0) != (Int.tmod (IntKind.wrap .i64 (IntKind.wrap .i64 (k + 1) + 1)) 3 == 0) then _ else bif IntKind.wrap .i64 (IntKind.wrap .i64 (IntKind.wrap .i64 (k + 1) + 1) + 1) != IntKind.wrap .i64 (IntKind.wrap .i64 (IntKind.wrap .i64 (k + 1) + 1) + 1) then _ else bif decide (heldExprS (markX self x k).1.Kids (up4 k) < 0) then _ else heldExprS_l0 heldExprS b n (heldExprS (markX self x k).1.Kids (up4 k)) (i + 1)) = _
   rw [e2, decide_eq_false e1]
   simp only [bne_self_eq_false, cond_false])
  (fun b n k i hi => by
   show (bif decide (((i : Nat) : Int) < ((List.length b : Nat) : Int)) then _ else _) = _
   rw [ge_dec hi, cond_false]) (a.length - 0 + 1) k 0 a (by omega) (by rw [List.drop_zero]; exact hok)
 rw [List.drop_zero] at h1 h4
 refine ⟨h1, ?_⟩
 rw [held_unf, h4 _ (by rw [h2]; omega)]
 rfl

theorem up4_eq {k : Int} (h0 : 0 ≤ k) (hB : k + 4 ≤ BND) : up4 k = k + 4 := by
 unfold BND at hB
 unfold up4
 rw [wrapI (x := k + 1) (by omega) (by omega), wrapI (x := k + 1 + 1) (by omega) (by omega), wrapI (x := k + 1 + 1 + 1) (by omega) (by omega), wrapI (by omega) (by omega)]
 omega

theorem markE_cnt : ∀ (f : Nat) (a : List Xpr) (k : Int), SizeOf.sizeOf a < f → 0 ≤ k → k + (nd f a : Nat) ≤ BND → (markExprS_r f a k).2 = k + (nd f a : Nat) ∧ heldExprS (markExprS_r f a k).1 k = k + (nd f a : Nat) := by
 intro f
 induction f with
 | zero => intro a k h; omega
 | succ f ih =>
  intro a k hs h0 hB
  obtain ⟨h1, h2⟩ := kf_sumM (m := markX (markExprS_r f)) (ok := okX (markExprS_r f)) (c := fun x => 4 + nd f x.Kids) (B := BND) a (fun x hx k h0 hB => by
   have hx2 : SizeOf.sizeOf x.Kids < f := by
    obtain ⟨i, hi, rfl⟩ := List.mem_iff_getElem.1 hx
    have := kids_szL hi
    rw [List.getD_eq_getElem?_getD, List.getElem?_eq_getElem hi, Option.getD_some] at this
    omega
   have e : up4 k = k + 4 := up4_eq h0 (by omega)
   obtain ⟨a1, a2⟩ := ih x.Kids (k + 4) hx2 (by omega) (by omega)
   refine ⟨?_, ?_, ?_⟩
   ·
    show (markExprS_r f x.Kids (up4 k)).2 = _
    rw [e, a1]
    omega
   ·
    rw [e, a1]
    omega
   ·
    rw [e, a1, a2]) k h0 hB
  obtain ⟨h3, h4⟩ := markE_step (markExprS_r f) a k h2
  have hn : nd (f + 1) a = (a.map (fun x => 4 + nd f x.Kids)).sum := rfl
  rw [hn]
  rw [h1] at h3 h4
  exact ⟨h3, h4⟩

theorem mark_cnt (a : List Xpr) (k : Int) (h0 : 0 ≤ k) (hB : k + (nd (SizeOf.sizeOf a + 1) a : Nat) ≤ BND) : (markExprS a k).2 = k + (nd (SizeOf.sizeOf a + 1) a : Nat) ∧ heldExprS (markExprS a k).1 k = k + (nd (SizeOf.sizeOf a + 1) a : Nat) :=
 markE_cnt _ a k (Nat.lt_succ_self _) h0 hB

theorem sz_nd : ∀ (f : Nat) (t : Xpr) (l : Int), 0 ≤ l → 0 ≤ szExpr_r f t l → ((nd f t.Kids : Nat) : Int) ≤ 4 * (l - szExpr_r f t l) := by
 intro f
 induction f with
 | zero => intro t l h _; show (0 : Int) ≤ 4 * (l - 0); omega
 | succ f ih =>
  intro t l h h0
  have key : ∀ (k : Nat) (left : Int) (i : Nat), t.Kids.length - i < k → 0 ≤ left → 0 ≤ Sum.elim (fun z => z) (fun r => r) (szExpr_l0 (szExpr_r f) t k left i) →
    ((((t.Kids.drop i).map (fun x => nd f x.Kids)).sum : Nat) : Int) ≤ 4 * (left - Sum.elim (fun z => z) (fun r => r) (szExpr_l0 (szExpr_r f) t k left i)) := by
   intro k
   induction k with
   | zero => intro left i hk; omega
   | succ k ihk =>
    intro left i hk h1 h2
    unfold szExpr_l0 at h2 ⊢
    by_cases hi : i < t.Kids.length
    ·
     rw [lt_dec hi, cond_true] at h2 ⊢
     by_cases hn : szExpr_r f (List.getD (Xpr.Kids t) i Xpr.zero) left < 0
     ·
      rw [decide_eq_true hn, cond_true] at h2
      exact absurd h2 (by decide)
     ·
      rw [decide_eq_false hn, cond_false] at h2 ⊢
      have h3 := ih _ left h1 (Int.not_lt.1 hn)
      have h4 := ihk _ (i + 1) (by omega) (Int.not_lt.1 hn) h2
      rw [drop_getD (d := Xpr.zero) hi]
      simp only [List.map_cons, List.sum_cons, Int.natCast_add]
      omega
    ·
     rw [ge_dec hi, cond_false, List.drop_of_length_le (by omega)]
     show (0 : Int) ≤ 4 * (left - left)
     omega
  simp only [szExpr_r, Go.Am.andThen] at h0 ⊢
  by_cases hn : szExpr_c0 (szExpr_r f) t l < 0
  ·
   rw [decide_eq_true hn, cond_true] at h0
   exact absurd h0 (by decide)
  ·
   rw [decide_eq_false hn, cond_false] at h0 ⊢
   unfold szExpr_c0 at h0 ⊢
   by_cases hm : l - ((List.length (Xpr.Kids t) : Nat) : Int) < 0
   ·
    rw [decide_eq_true hm, cond_true] at h0
    exact absurd h0 (by decide)
   ·
    rw [decide_eq_false hm, cond_false] at h0 ⊢
    have h5 := key _ _ 0 (by omega) (by omega) h0
    have hs : ∀ l : List Xpr, (l.map (fun x => 4 + nd f x.Kids)).sum = 4 * l.length + (l.map (fun x => nd f x.Kids)).sum := by
     intro l
     induction l with
     | nil => rfl
     | cons x l ih3 => simp only [List.map_cons, List.sum_cons, List.length_cons, ih3]; omega
    have hn2 : nd (f + 1) t.Kids = 4 * t.Kids.length + (t.Kids.map (fun x => nd f x.Kids)).sum := hs t.Kids
    rw [List.drop_zero] at h5
    show ((nd (f + 1) t.Kids : Nat) : Int) ≤ 4 * (l - Sum.elim (fun z => z) (fun r => r) (szExpr_l0 (szExpr_r f) t (t.Kids.length - 0 + 1) (l - ((List.length t.Kids : Nat) : Int)) 0))
    rw [hn2]
    omega

theorem szE_nd {e : Xpr} (h : ¬ szExpr e 1048576 < 0) : ((nd (SizeOf.sizeOf e.Kids + 1) e.Kids : Nat) : Int) ≤ 4194304 := by
 have h1 := sz_nd _ e 1048576 (by decide) (Int.not_lt.1 h)
 have h2 := nd_mono (SizeOf.sizeOf e.Kids + 1) (SizeOf.sizeOf e + 1) e.Kids (by
  cases e with
  | mk k c v ks => simp only [Xpr.mk.sizeOf_spec, Xpr.Kids]; omega)
 have h3 : 0 ≤ szExpr e 1048576 := Int.not_lt.1 h
 unfold szExpr at h3
 omega

def bnd : Nat → Nat
 | 0 => 0
 | l + 1 => 2 * (4 + bnd l)

theorem VE_nd : ∀ (f : Nat) {w : Int} {l : Nat} {x : Xpr}, VE w l x → nd f x.Kids ≤ bnd l := by
 intro f
 induction f with
 | zero => intro w l x _; exact Nat.zero_le _
 | succ f ih =>
  intro w l x h
  cases l with
  | zero =>
   have : x.Kids = [] := List.length_eq_zero_iff.1 h.flat
   rw [this]
   exact Nat.le_refl _
  | succ l =>
   have h2 := h.kids2
   have := sum_le (c := fun x : Xpr => 4 + nd f x.Kids) (b := 4 + bnd l) x.Kids fun y hy => by
    obtain ⟨i, hi, rfl⟩ := List.mem_iff_getElem.1 hy
    have h3 := h.down hi
    rw [List.getD_eq_getElem?_getD, List.getElem?_eq_getElem hi, Option.getD_some] at h3
    have := ih h3
    show 4 + nd f (x.Kids[i]).Kids ≤ 4 + bnd l
    omega
   refine Nat.le_trans this ?_
   show x.Kids.length * (4 + bnd l) ≤ 2 * (4 + bnd l)
   exact Nat.mul_le_mul_right _ h2

theorem FoldExpr_same (e : Xpr) : iFoldExpr e = FoldExpr e := by
 unfold iFoldExpr FoldExpr
 simp only [Xpr.eta]
 rw [ValidExpr_same, show folded e = fold e from (folded_eq _ e).trans (fold_eq _ e).symm]

theorem FoldExpr_nd (e : Xpr) (f : Nat) : nd f (FoldExpr e).Kids ≤ 2040 := by
 unfold FoldExpr
 simp only [Xpr.eta]
 cases hv : ValidExpr e 6 with
 | false =>
  show nd f [] ≤ 2040
  cases f with
  | zero => exact Nat.zero_le _
  | succ f => exact Nat.zero_le _
 | true =>
  have := VE_nd f (foldP_ve (SizeOf.sizeOf e + 1) (ValidExpr_iff.1 hv).2 (Nat.lt_succ_self _))
  show nd f (fold_r (SizeOf.sizeOf e + 1) e).Kids ≤ 2040
  rw [fold_eq]
  exact this

theorem toD_l0 (self : Xpr → Xpr) (a : Xpr) (hs : ∀ i, i < a.Kids.length → self (a.Kids.getD i Xpr.zero) = a.Kids.getD i Xpr.zero) : ∀ (k i : Nat) (out : List Xpr), a.Kids.length - i < k → i ≤ a.Kids.length → out.length = a.Kids.length → out.take i = a.Kids.take i → toExprD_l0 self a k i out = a.Kids := by
 intro k
 induction k with
 | zero => intro i out h; omega
 | succ k ih =>
  intro i out hk hi hl ht
  unfold toExprD_l0
  by_cases hlt : i < a.Kids.length
  ·
   rw [lt_dec hlt, cond_true, hs i hlt, Xpr.eta]
   refine ih _ _ (by omega) hlt (by rw [List.length_set]; exact hl) ?_
   rw [set_take (by omega), ht, List.take_add_one, List.getD_eq_getElem?_getD, List.getElem?_eq_getElem hlt]
   rfl
  ·
   rw [ge_dec hlt, cond_false]
   rw [List.take_of_length_le (by omega), List.take_of_length_le (by omega)] at ht
   exact ht

theorem toD_eq : ∀ (f : Nat) (a : Xpr), SizeOf.sizeOf a < f → toExprD_r f a = a := by
 intro f
 induction f with
 | zero => intro a h; omega
 | succ f ih =>
  intro a h
  unfold toExprD_r Go.Am.andThen
  rw [toD_l0 (toExprD_r f) a (fun i hi => ih _ (by have := kid_lt hi; omega)) _ _ _ (by omega) (Nat.zero_le _) (by simp) (by simp)]
  show Xpr.mk (Xpr.Kind a) (Xpr.Col a) (Xpr.V a) (Xpr.Kids a) = a
  exact Xpr.eta a

theorem toExprD_eq (a : Xpr) : toExprD a = a := toD_eq _ a (Nat.lt_succ_self _)

theorem held_mark (x : Xpr) (h : ((nd (SizeOf.sizeOf x.Kids + 1) x.Kids : Nat) : Int) ≤ 4194304) : heldExpr (Xpr.mk (Xpr.Kind x) (Xpr.Col x) (Xpr.V x) (markExprS x.Kids 1).1) 1 = (markExprS x.Kids 1).2 ∧ ¬ (markExprS x.Kids 1).2 < 0 := by
 obtain ⟨h1, h2⟩ := mark_cnt x.Kids 1 (by decide) (by unfold BND; omega)
 have h3 : ¬ (markExprS x.Kids 1).2 < 0 := by omega
 refine ⟨?_, h3⟩
 show (bif decide (heldExprS (markExprS x.Kids 1).1 1 < 0) then (-1 : Int) else heldExprS (markExprS x.Kids 1).1 1) = _
 rw [h2, ← h1, decide_eq_false h3, cond_false]

theorem FnExactFoldExpr_law (e : Xpr) : FnExactFoldExpr e = true := by
 unfold FnExactFoldExpr
 simp only [Xpr.eta, toExprD_eq, FoldExpr_same, eqExpr_self]
 by_cases hz : szExpr e 1048576 < 0
 ·
  rw [decide_eq_true hz]; rfl
 ·
  obtain ⟨_, h1⟩ := held_mark e (szE_nd hz)
  obtain ⟨h2, h3⟩ := held_mark (FoldExpr e) (by have := FoldExpr_nd e (SizeOf.sizeOf (FoldExpr e).Kids + 1); omega)
  rw [decide_eq_false hz, decide_eq_false h1, h2, decide_eq_false h3]
  simp

end
end Go.Proofs.Ytodcdgolcbdkgaa
