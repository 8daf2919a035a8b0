/-
  A part of the proof of this claim (ApTM): what functions of the program compute, and plain facts of that. No conditions.
-/
import Derived.Test.YtodcdgolcbdkgaaApT8
import Derived.Test.YtodcdgolcbdkgaaApTK
import Derived.Test.YtodcdgolcbdkgaaAnV
set_option linter.all false
namespace Go.Proofs.Ytodcdgolcbdkgaa
open Go Go.Am
open List (length getD)
noncomputable section

/-! ### Marks -/

theorem kf_sumM {α : Type} {m : α → Int → α × Int} {ok : α → Int → Prop} {c : α → Nat} {B : Int} : ∀ (l : List α), (∀ x ∈ l, ∀ k, 0 ≤ k → k + (c x : Nat) ≤ B → (m x k).2 = k + (c x : Nat) ∧ ok x k) → ∀ (k : Int), 0 ≤ k → k + (((l.map c).sum : Nat) : Int) ≤ B →
  kf m l k = k + (((l.map c).sum : Nat) : Int) ∧ OKL m ok l k := by
 intro l
 induction l with
 | nil => intro _ k _ _; exact ⟨by simp [kf], trivial⟩
 | cons x l ih =>
  intro h k h0 hB; simp only [List.map_cons, List.sum_cons, Int.natCast_add] at hB ⊢; obtain ⟨h1, h2⟩ := h x (List.Mem.head _) k h0 (by omega); obtain ⟨h3, h4⟩ := ih (fun y hy => h y (List.Mem.tail _ hy)) (k + (c x : Nat)) (by omega) (by omega); refine ⟨?_, h2, ?_⟩
  · show kf m l (m x k).2 = _; rw [h1, h3]; omega
  · rw [h1]; exact h4

def BND : Int := 4611686018427387900

def nd : Nat → List Xpr → Nat
 | 0, _ => 0
 | f + 1, l => (l.map (fun x => 4 + nd f x.Kids)).sum

theorem nd_mono : ∀ (f g : Nat) (l : List Xpr), f ≤ g → nd f l ≤ nd g l := by
 intro f
 induction f with
 | zero => intro g l _; exact Nat.zero_le _
 | succ f ih =>
  intro g l h; obtain ⟨g, rfl⟩ : ∃ q, g = q + 1 := ⟨g - 1, by omega⟩; unfold nd
  induction l with
  | nil => exact Nat.le_refl _
  | cons x l ih2 =>
   simp only [List.map_cons, List.sum_cons]; have := ih g x.Kids (by omega); omega

theorem held_congr {s1 s2 : List Xpr → Int → Int} (b : List Xpr) (h : ∀ i, i < b.length → ∀ k, s1 (getD b i Xpr.zero).Kids k = s2 (getD b i Xpr.zero).Kids k) : ∀ (n : Nat) (k : Int) (i : Nat), heldExprS_l0 s1 b n k i = heldExprS_l0 s2 b n k i := by
 intro n
 induction n with
 | zero => intro k i; rfl
 | succ n ih =>
  intro k i; unfold heldExprS_l0; by_cases hi : i < b.length
  · rw [h i hi, ih]
  · rw [ge_dec hi, cond_false, cond_false]

theorem held_fuel : ∀ (f g : Nat) (a : List Xpr) (k : Int), SizeOf.sizeOf a < f → SizeOf.sizeOf a < g → heldExprS_r f a k = heldExprS_r g a k := by
 intro f
 induction f with
 | zero => intro g a k h; omega
 | succ f ih =>
  intro g a k h1 h2; obtain ⟨g, rfl⟩ : ∃ q, g = q + 1 := ⟨g - 1, by omega⟩; unfold heldExprS_r; rw [held_congr a fun i hi k => ih g _ k (by have := kids_szL hi; omega) (by have := kids_szL hi; omega)]

theorem held_unf (a : List Xpr) (k : Int) : heldExprS a k = Sum.elim (fun z => z) (fun r => r) (heldExprS_l0 heldExprS a (a.length - 0 + 1) k 0) := by
 show Sum.elim (fun z => z) (fun r => r) (heldExprS_l0 (heldExprS_r (SizeOf.sizeOf a)) a (a.length - 0 + 1) k 0) = _; rw [held_congr (s2 := heldExprS) a fun i hi k => held_fuel _ (SizeOf.sizeOf (getD a i Xpr.zero).Kids + 1) _ k (kids_szL hi) (Nat.lt_succ_self _)]

def up4 (k : Int) : Int := IntKind.wrap .i64 (IntKind.wrap .i64 (IntKind.wrap .i64 (IntKind.wrap .i64 (k + 1) + 1) + 1) + 1)

def markX (self : List Xpr → Int → List Xpr × Int) (x : Xpr) (k : Int) : Xpr × Int :=
 (Xpr.mk k (IntKind.wrap .i64 (k + 1)) (Val.mk (Int.tmod (IntKind.wrap .i64 (IntKind.wrap .i64 (k + 1) + 1)) 3 == 0) (IntKind.wrap .i64 (IntKind.wrap .i64 (IntKind.wrap .i64 (k + 1) + 1) + 1))) (self x.Kids (up4 k)).1, (self x.Kids (up4 k)).2)

def okX (self : List Xpr → Int → List Xpr × Int) (x : Xpr) (k : Int) : Prop := 0 ≤ (self x.Kids (up4 k)).2 ∧ heldExprS (self x.Kids (up4 k)).1 (up4 k) = (self x.Kids (up4 k)).2

theorem markE_step (self : List Xpr → Int → List Xpr × Int) (a : List Xpr) (k : Int) (hok : OKL (markX self) (okX self) a k) :
  (markExprS_l0 self (a.length - 0 + 1) k 0 a).1 = kf (markX self) a k ∧ heldExprS (markExprS_l0 self (a.length - 0 + 1) k 0 a).2 k = kf (markX self) a k := by
 obtain ⟨h1, h2, _, h4⟩ := mark_held (m := markX self) (ok := okX self) Xpr.zero (markExprS_l0 self) (heldExprS_l0 heldExprS)
  (fun n k i a hi => by
   show (bif decide ((i : Int) < (length a : Int)) then _ else _) = _; rw [lt_dec hi, cond_true, lgetD_set_eq hi]
   rfl)
  (fun n k i a hi => by
   show (bif decide ((i : Int) < (length a : Int)) then _ else _) = _
   rw [ge_dec hi, cond_false])
  (fun b n k i x hi hb ho => by
   show (bif decide ((i : Int) < (length b : Int)) then _ else _) = _; rw [lt_dec hi, cond_true, hb]; have e2 : heldExprS (markX self x k).1.Kids (up4 k) = (markX self x k).2 := ho.2; have e1 : ¬ (markX self x k).2 < 0 := Int.not_lt.2 ho.1; show (bif k != k then _ else bif IntKind.wrap .i64 (k + 1) != IntKind.wrap .i64 (k + 1) then _ else bif (Int.tmod (IntKind.wrap .i64 (IntKind.wrap .i64 (k + 1) + 1)) 3 == 0) != (Int.tmod (IntKind.wrap .i64 (IntKind.wrap .i64 (k + 1) + 1)) 3 == 0) then _ else bif IntKind.wrap .i64 (IntKind.wrap .i64 (IntKind.wrap .i64 (k + 1) + 1) + 1) != IntKind.wrap .i64 (IntKind.wrap .i64 (IntKind.wrap .i64 (k + 1) + 1) + 1) then _ else bif decide (heldExprS (markX self x k).1.Kids (up4 k) < 0) then _ else heldExprS_l0 heldExprS b n (heldExprS (markX self x k).1.Kids (up4 k)) (i + 1)) = _; rw [e2, decide_eq_false e1]
   simp only [bne_self_eq_false, cond_false])
  (fun b n k i hi => by
   show (bif decide ((i : Int) < (length b : Int)) then _ else _) = _
   rw [ge_dec hi, cond_false]) (a.length - 0 + 1) k 0 a (by omega) (by rw [List.drop_zero]; exact hok)
 rw [List.drop_zero] at h1 h4; refine ⟨h1, ?_⟩; rw [held_unf, h4 _ (by rw [h2]; omega)]; rfl

theorem up4_eq {k : Int} (h0 : 0 ≤ k) (hB : k + 4 ≤ BND) : up4 k = k + 4 := by
 unfold BND at hB; unfold up4; rw [wrapI (x := k + 1) (by omega) (by omega), wrapI (x := k + 1 + 1) (by omega) (by omega), wrapI (x := k + 1 + 1 + 1) (by omega) (by omega), wrapI (by omega) (by omega)]; omega

theorem markE_cnt : ∀ (f : Nat) (a : List Xpr) (k : Int), SizeOf.sizeOf a < f → 0 ≤ k → k + (nd f a : Nat) ≤ BND → (markExprS_r f a k).2 = k + (nd f a : Nat) ∧ heldExprS (markExprS_r f a k).1 k = k + (nd f a : Nat) := by
 intro f
 induction f with
 | zero => intro a k h; omega
 | succ f ih =>
  intro a k hs h0 hB
  obtain ⟨h1, h2⟩ := kf_sumM (m := markX (markExprS_r f)) (ok := okX (markExprS_r f)) (c := fun x => 4 + nd f x.Kids) (B := BND) a (fun x hx k h0 hB => by
   have hx2 : SizeOf.sizeOf x.Kids < f := by
    obtain ⟨i, hi, rfl⟩ := List.mem_iff_getElem.1 hx; have := kids_szL hi
    rw [List.getD_eq_getElem?_getD, List.getElem?_eq_getElem hi, Option.getD_some] at this
    omega
   have e : up4 k = k + 4 := up4_eq h0 (by omega); obtain ⟨a1, a2⟩ := ih x.Kids (k + 4) hx2 (by omega) (by omega); refine ⟨?_, ?_, ?_⟩
   · show (markExprS_r f x.Kids (up4 k)).2 = _; rw [e, a1]; omega
   · rw [e, a1]; omega
   · rw [e, a1, a2]) k h0 hB
  obtain ⟨h3, h4⟩ := markE_step (markExprS_r f) a k h2; have hn : nd (f + 1) a = (a.map (fun x => 4 + nd f x.Kids)).sum := rfl; rw [hn]; rw [h1] at h3 h4; exact ⟨h3, h4⟩

theorem mark_cnt (a : List Xpr) (k : Int) (h0 : 0 ≤ k) (hB : k + (nd (SizeOf.sizeOf a + 1) a : Nat) ≤ BND) : (markExprS a k).2 = k + (nd (SizeOf.sizeOf a + 1) a : Nat) ∧ heldExprS (markExprS a k).1 k = k + (nd (SizeOf.sizeOf a + 1) a : Nat) :=
 markE_cnt _ a k (Nat.lt_succ_self _) h0 hB

theorem sz_nd : ∀ (f : Nat) (t : Xpr) (l : Int), 0 ≤ l → 0 ≤ szExpr_r f t l → ((nd f t.Kids : Nat) : Int) ≤ 4 * (l - szExpr_r f t l) := by
 intro f
 induction f with
 | zero => intro t l h _; show (0 : Int) ≤ 4 * (l - 0); omega
 | succ f ih =>
  intro t l h h0
  have key : ∀ (k : Nat) (left : Int) (i : Nat), t.Kids.length - i < k → 0 ≤ left → 0 ≤ Sum.elim (fun z => z) (fun r => r) (szExpr_l0 (szExpr_r f) t k left i) →
    ((((t.Kids.drop i).map (fun x => nd f x.Kids)).sum : Nat) : Int) ≤ 4 * (left - Sum.elim (fun z => z) (fun r => r) (szExpr_l0 (szExpr_r f) t k left i)) := by
   intro k
   induction k with
   | zero => intro left i hk; omega
   | succ k ihk =>
    intro left i hk h1 h2; unfold szExpr_l0 at h2 ⊢; by_cases hi : i < t.Kids.length
    ·
     rw [lt_dec hi, cond_true] at h2 ⊢; by_cases hn : szExpr_r f (getD (Xpr.Kids t) i Xpr.zero) left < 0
     · rw [decide_eq_true hn, cond_true] at h2; exact absurd h2 (by decide)
     · rw [decide_eq_false hn, cond_false] at h2 ⊢; have h3 := ih _ left h1 (Int.not_lt.1 hn); have h4 := ihk _ (i + 1) (by omega) (Int.not_lt.1 hn) h2; rw [drop_getD (d := Xpr.zero) hi]; simp only [List.map_cons, List.sum_cons, Int.natCast_add]; omega
    · rw [ge_dec hi, cond_false, List.drop_of_length_le (by omega)]; show (0 : Int) ≤ 4 * (left - left); omega
  simp only [szExpr_r, andThen] at h0 ⊢; by_cases hn : szExpr_c0 (szExpr_r f) t l < 0
  · rw [decide_eq_true hn, cond_true] at h0; exact absurd h0 (by decide)
  ·
   rw [decide_eq_false hn, cond_false] at h0 ⊢; unfold szExpr_c0 at h0 ⊢; by_cases hm : l - (length (Xpr.Kids t) : Int) < 0
   · rw [decide_eq_true hm, cond_true] at h0; exact absurd h0 (by decide)
   ·
    rw [decide_eq_false hm, cond_false] at h0 ⊢; have h5 := key _ _ 0 (by omega) (by omega) h0
    have hs : ∀ l : List Xpr, (l.map (fun x => 4 + nd f x.Kids)).sum = 4 * l.length + (l.map (fun x => nd f x.Kids)).sum := by
     intro l
     induction l with
     | nil => rfl
     | cons x l ih3 => simp only [List.map_cons, List.sum_cons, List.length_cons, ih3]; omega
    have hn2 : nd (f + 1) t.Kids = 4 * t.Kids.length + (t.Kids.map (fun x => nd f x.Kids)).sum := hs t.Kids; rw [List.drop_zero] at h5; show ((nd (f + 1) t.Kids : Nat) : Int) ≤ 4 * (l - Sum.elim (fun z => z) (fun r => r) (szExpr_l0 (szExpr_r f) t (t.Kids.length - 0 + 1) (l - (length t.Kids : Int)) 0)); rw [hn2]; omega

theorem toD_l0 (self : Xpr → Xpr) (a : Xpr) (hs : ∀ i, i < a.Kids.length → self (a.Kids.getD i Xpr.zero) = a.Kids.getD i Xpr.zero) : ∀ (k i : Nat) (out : List Xpr), a.Kids.length - i < k → i ≤ a.Kids.length → out.length = a.Kids.length → out.take i = a.Kids.take i → toExprD_l0 self a k i out = a.Kids := by
 intro k
 induction k with
 | zero => intro i out h; omega
 | succ k ih =>
  intro i out hk hi hl ht; unfold toExprD_l0; by_cases hlt : i < a.Kids.length
  · rw [lt_dec hlt, cond_true, hs i hlt, Xpr.eta]; refine ih _ _ (by omega) hlt (by rw [List.length_set]; exact hl) ?_; rw [set_take (by omega), ht, List.take_add_one, List.getD_eq_getElem?_getD, List.getElem?_eq_getElem hlt]; rfl
  · rw [ge_dec hlt, cond_false]; rw [List.take_of_length_le (by omega), List.take_of_length_le (by omega)] at ht; exact ht

theorem toD_eq : ∀ (f : Nat) (a : Xpr), SizeOf.sizeOf a < f → toExprD_r f a = a := by
 intro f
 induction f with
 | zero => intro a h; omega
 | succ f ih =>
  intro a h; unfold toExprD_r andThen; rw [toD_l0 (toExprD_r f) a (fun i hi => ih _ (by have := kid_lt hi; omega)) _ _ _ (by omega) (Nat.zero_le _) (by simp) (by simp)]; exact Xpr.eta a

theorem toExprD_eq (a : Xpr) : toExprD a = a := toD_eq _ a (Nat.lt_succ_self _)

end
end Go.Proofs.Ytodcdgolcbdkgaa


namespace Go.Proofs.Ytodcdgolcbdkgaa
open Go Go.Am
open List (length)
noncomputable section

/-! ### Identities of the copies -/

theorem range_getD {α : Type} (a : List α) (d : α) : (List.range' 0 (a.length - 0)).map (fun j => a.getD j d) = a := by
 refine List.ext_getElem (by simp) fun i h1 h2 => ?_; simp [List.getD_eq_getElem?_getD, List.getElem?_eq_getElem h2]

theorem copy_loop' {α : Type} (d : α) (L : Nat → Nat → List α → List α) (a : List α) (g : α → α) (hg : ∀ i, i < a.length → g (a.getD i d) = a.getD i d)
  (hS : ∀ k i out, i < a.length → L (k + 1) i out = L k (i + 1) (out.set i (g (a.getD i d)))) (h0 : ∀ k i out, ¬ i < a.length → L (k + 1) i out = out) (out : List α) (ho : out.length = a.length) : L (a.length - 0 + 1) 0 out = a := by
 rw [set_loopF (d := d) L a.length (fun _ i => a.getD i d) (fun k i out _ hi => by rw [hS k i out hi, hg i hi]) h0 _ _ _ (by omega) ho, List.take_zero, List.nil_append]; exact range_getD a d

theorem toIntS_eq (a : List Int) : toIntS a = a :=
 copy_loop' 0 (toIntS_l0 a) a (fun x => x) (fun _ _ => rfl)
  (fun k i out hi => by
   show (bif decide ((i : Int) < (length a : Int)) then _ else _) = _
   rw [lt_dec hi, cond_true])
  (fun k i out hi => by
   show (bif decide ((i : Int) < (length a : Int)) then _ else _) = _
   rw [ge_dec hi, cond_false]) _ (by simp)

theorem toExprSD_eq (a : List Xpr) : toExprSD a = a :=
 copy_loop' Xpr.zero (toExprSD_l0 a) a toExprD (fun _ _ => toExprD_eq _)
  (fun k i out hi => by
   show (bif decide ((i : Int) < (length a : Int)) then _ else _) = _
   rw [lt_dec hi, cond_true, Xpr.eta])
  (fun k i out hi => by
   show (bif decide ((i : Int) < (length a : Int)) then _ else _) = _
   rw [ge_dec hi, cond_false]) _ (by simp)

theorem toP_eq : ∀ (f : Nat) (a : Pln), SizeOf.sizeOf a < f → toPlanD_r f a = a := by
 intro f
 induction f with
 | zero => intro a h; omega
 | succ f ih =>
  intro a h; unfold toPlanD_r andThen
  rw [copy_loop' Pln.zero (toPlanD_l0 (toPlanD_r f) a) a.Kids (toPlanD_r f) (fun i hi => ih _ (by have := pkid_lt hi; omega))
   (fun k i out hi => by
    show (bif decide ((i : Int) < (length a.Kids : Int)) then _ else _) = _
    rw [lt_dec hi, cond_true, Pln.eta])
   (fun k i out hi => by
    show (bif decide ((i : Int) < (length a.Kids : Int)) then _ else _) = _
    rw [ge_dec hi, cond_false]) _ (by simp), toExprSD_eq, toIntS_eq]
  show Pln.mk (Pln.Kind a) (Pln.Table a) (Pln.Exprs a) (Pln.Cols a) (Pln.Kids a) = a; exact Pln.eta a

theorem toPlanD_eq (a : Pln) : toPlanD a = a := toP_eq _ a (Nat.lt_succ_self _)

/-! ### Numbers of marks -/

theorem mark_only {α : Type} {m : α → Int → α × Int} (d : α) (L : Nat → Int → Nat → List α → Int × List α)
  (hL1 : ∀ n k i a, i < a.length → L (n + 1) k i a = L n (m (a.getD i d) k).2 (i + 1) (a.set i (m (a.getD i d) k).1)) (hL0 : ∀ n k i a, ¬ i < a.length → L (n + 1) k i a = (k, a)) :
  ∀ n k i a, a.length - i < n → (L n k i a).1 = kf m (a.drop i) k := by
 intro n
 induction n with
 | zero => intro k i a h; omega
 | succ n ih =>
  intro k i a hn; by_cases hi : i < a.length
  · rw [drop_getD (d := d) hi, hL1 n k i a hi, ih _ _ _ (by rw [List.length_set]; omega), drop_set_lt]; rfl
  · rw [hL0 n k i a hi, List.drop_of_length_le (by omega)]; rfl

theorem wrap1 {k : Int} (h0 : 0 ≤ k) (hB : k + 1 ≤ BND) : IntKind.wrap .i64 (k + 1) = k + 1 := by
 unfold BND at hB; exact wrapI (by omega) (by omega)

theorem sum_one {α : Type} (l : List α) : (l.map (fun _ => 1)).sum = l.length := by
 induction l with
 | nil => rfl
 | cons x l ih => simp only [List.map_cons, List.sum_cons, List.length_cons, ih]; omega

theorem ones {α : Type} {g : α → Int → α} {a : List α} {k : Int} (h0 : 0 ≤ k) (hB : k + (a.length : Nat) ≤ BND) : kf (fun x k => (g x k, IntKind.wrap .i64 (k + 1))) a k = k + (a.length : Nat) := by
 have := (kf_sum (m := fun x k => (g x k, IntKind.wrap .i64 (k + 1))) (ok := fun _ _ => True) (c := fun _ => 1) (B := BND) (fun x k h0 hB => ⟨wrap1 h0 hB, trivial⟩) a k h0 (by rw [sum_one]; exact hB)).1
 rw [sum_one] at this
 exact this

theorem markI_cnt (a : List Int) (k : Int) (h0 : 0 ≤ k) (hB : k + (a.length : Nat) ≤ BND) : (markIntS a k).2 = k + (a.length : Nat) := by
 rw [← ones (g := fun _ k => k) h0 hB]
 have := mark_only (m := fun (_ : Int) k => (k, IntKind.wrap .i64 (k + 1))) 0 markIntS_l0
  (fun n k i a hi => by
   show (bif decide ((i : Int) < (length a : Int)) then _ else _) = _
   rw [lt_dec hi, cond_true])
  (fun n k i a hi => by
   show (bif decide ((i : Int) < (length a : Int)) then _ else _) = _
   rw [ge_dec hi, cond_false]) (a.length - 0 + 1) k 0 a (by omega)
 rw [List.drop_zero] at this
 exact this

def ne (a : List Xpr) : Nat := nd (SizeOf.sizeOf a + 1) a

theorem nd_fuel : ∀ (f g : Nat) (l : List Xpr), SizeOf.sizeOf l < f → SizeOf.sizeOf l < g → nd f l = nd g l := by
 intro f
 induction f with
 | zero => intro g l h; omega
 | succ f ih =>
  intro g l h1 h2; obtain ⟨g, rfl⟩ : ∃ q, g = q + 1 := ⟨g - 1, by omega⟩; show (l.map (fun x => 4 + nd f x.Kids)).sum = (l.map (fun x => 4 + nd g x.Kids)).sum; congr 1; refine List.map_congr_left fun x hx => ?_; obtain ⟨i, hi, rfl⟩ := List.mem_iff_getElem.1 hx; have := kids_szL hi
  rw [List.getD_eq_getElem?_getD, List.getElem?_eq_getElem hi, Option.getD_some] at this
  rw [ih g _ (by omega) (by omega)]

theorem ne_unf (a : List Xpr) : ne a = (a.map (fun x => 4 + ne x.Kids)).sum := by
 show (a.map (fun x => 4 + nd (SizeOf.sizeOf a) x.Kids)).sum = _; congr 1; refine List.map_congr_left fun x hx => ?_; obtain ⟨i, hi, rfl⟩ := List.mem_iff_getElem.1 hx; have := kids_szL hi
 rw [List.getD_eq_getElem?_getD, List.getElem?_eq_getElem hi, Option.getD_some] at this
 rw [nd_fuel _ (SizeOf.sizeOf (a[i]).Kids + 1) _ this (Nat.lt_succ_self _)]; rfl

def ndP : Nat → List Pln → Nat
 | 0, _ => 0
 | f + 1, l => (l.map (fun x => 2 + ne x.Exprs + x.Cols.length + ndP f x.Kids)).sum

theorem ndP_mono : ∀ (f g : Nat) (l : List Pln), f ≤ g → ndP f l ≤ ndP g l := by
 intro f
 induction f with
 | zero => intro g l _; exact Nat.zero_le _
 | succ f ih =>
  intro g l h; obtain ⟨g, rfl⟩ : ∃ q, g = q + 1 := ⟨g - 1, by omega⟩; unfold ndP
  induction l with
  | nil => exact Nat.le_refl _
  | cons x l ih2 =>
   simp only [List.map_cons, List.sum_cons]; have := ih g x.Kids (by omega); omega

theorem sz_sum {α : Type} (d : α) (L : Nat → Int → Nat → Int ⊕ Int) (a : List α) (s : α → Int → Int) (c : α → Nat)
  (hS : ∀ k l i, i < a.length → L (k + 1) l i = bif decide (s (a.getD i d) l < 0) then .inr (-1) else L k (s (a.getD i d) l) (i + 1)) (h0 : ∀ k l i, ¬ i < a.length → L (k + 1) l i = .inl l)
  (hs : ∀ i, i < a.length → ∀ l, 0 ≤ l → 0 ≤ s (a.getD i d) l → (c (a.getD i d) : Int) ≤ 4 * (l - s (a.getD i d) l)) :
  ∀ (k : Nat) (l : Int) (i : Nat), a.length - i < k → 0 ≤ l → 0 ≤ Sum.elim (fun z => z) (fun r => r) (L k l i) → ((((a.drop i).map c).sum : Nat) : Int) ≤ 4 * (l - Sum.elim (fun z => z) (fun r => r) (L k l i)) := by
 intro k
 induction k with
 | zero => intro l i h; omega
 | succ k ih =>
  intro l i hk hl h; by_cases hi : i < a.length
  ·
   rw [hS k l i hi] at h ⊢; by_cases hn : s (a.getD i d) l < 0
   · rw [decide_eq_true hn, cond_true] at h; exact absurd h (by decide)
   · rw [decide_eq_false hn, cond_false] at h ⊢; have h1 := ih _ (i + 1) (by omega) (Int.not_lt.1 hn) h; have h2 := hs i hi l hl (Int.not_lt.1 hn); rw [drop_getD (d := d) hi, List.map_cons, List.sum_cons, Int.natCast_add]; omega
  · rw [h0 k l i hi, List.drop_of_length_le (by omega)]; show (0 : Int) ≤ 4 * (l - l); omega

theorem szE_ne {e : Xpr} {l : Int} (hl : 0 ≤ l) (h : 0 ≤ szExpr e l) : (ne e.Kids : Int) ≤ 4 * (l - szExpr e l) := by
 have h1 := sz_nd _ e l hl h
 have h2 := nd_mono (SizeOf.sizeOf e.Kids + 1) (SizeOf.sizeOf e + 1) e.Kids (by
  cases e with
  | mk k c v ks => simp only [Xpr.mk.sizeOf_spec, Xpr.Kids]; omega)
 show ((nd (SizeOf.sizeOf e.Kids + 1) e.Kids : Nat) : Int) ≤ 4 * (l - szExpr_r (SizeOf.sizeOf e + 1) e l); omega

theorem sum_add {α : Type} (n : Nat) (c : α → Nat) (l : List α) : (l.map (fun x => n + c x)).sum = n * l.length + (l.map c).sum := by
 induction l with
 | nil => simp
 | cons x l ih => simp only [List.map_cons, List.sum_cons, List.length_cons, ih, Nat.mul_add]; omega

theorem szES_ne {a : List Xpr} {l : Int} (hl : 0 ≤ l) (h : 0 ≤ szExprS a l) : (ne a : Int) ≤ 4 * (l - szExprS a l) := by
 unfold szExprS at h ⊢; by_cases e : l - (length a : Int) < 0
 · rw [decide_eq_true e, cond_true] at h; omega
 ·
  rw [decide_eq_false e, cond_false] at h ⊢
  have := sz_sum Xpr.zero (szExprS_l0 a) a szExpr (fun x => ne x.Kids)
   (fun k l i hi => by
    show (bif decide ((i : Int) < (length a : Int)) then _ else _) = _
    rw [lt_dec hi, cond_true])
   (fun k l i hi => by
    show (bif decide ((i : Int) < (length a : Int)) then _ else _) = _
    rw [ge_dec hi, cond_false])
   (fun i hi l hl h => szE_ne hl h) _ _ 0 (by omega) (by omega) h
  rw [List.drop_zero] at this
  rw [ne_unf, sum_add]; show _ ≤ 4 * (l - Sum.elim (fun z => z) (fun r => r) (szExprS_l0 a (a.length - 0 + 1) (l - (length a : Int)) 0)); omega

theorem szP_nd : ∀ (f : Nat) (p : Pln) (l : Int), SizeOf.sizeOf p < f → 0 ≤ l → 0 ≤ szPlan_r f p l → ((ne p.Exprs + p.Cols.length + ndP f p.Kids : Nat) : Int) ≤ 4 * (l - szPlan_r f p l) := by
 intro f
 induction f with
 | zero => intro p l h; omega
 | succ f ih =>
  intro p l hs hl h; simp only [szPlan_r, andThen] at h ⊢; by_cases n1 : szExprS p.Exprs l < 0
  · rw [decide_eq_true n1, cond_true] at h; omega
  ·
   rw [decide_eq_false n1, cond_false] at h ⊢; have x1 := szES_ne hl (Int.not_lt.1 n1); by_cases n2 : szIntS p.Cols (szExprS p.Exprs l) < 0
   · rw [decide_eq_true n2, cond_true] at h; omega
   ·
    rw [decide_eq_false n2, cond_false] at h ⊢
    have x2 : szIntS p.Cols (szExprS p.Exprs l) = szExprS p.Exprs l - (length p.Cols : Int) := by
     unfold szIntS at n2 ⊢; by_cases e : szExprS p.Exprs l - (length p.Cols : Int) < 0
     · rw [decide_eq_true e, cond_true] at n2; omega
     · rw [decide_eq_false e, cond_false]
    by_cases n3 : szPlan_c0 (szPlan_r f) p l < 0
    · rw [decide_eq_true n3, cond_true] at h; omega
    ·
     rw [decide_eq_false n3, cond_false] at h ⊢; unfold szPlan_c0 at h ⊢; by_cases n4 : szIntS p.Cols (szExprS p.Exprs l) - (length (Pln.Kids p) : Int) < 0
     · rw [decide_eq_true n4, cond_true] at h; omega
     ·
      rw [decide_eq_false n4, cond_false] at h ⊢
      have := sz_sum Pln.zero (szPlan_l0 (szPlan_r f) p) p.Kids (szPlan_r f) (fun x => ne x.Exprs + x.Cols.length + ndP f x.Kids)
       (fun k l i hi => by
        show (bif decide ((i : Int) < (length p.Kids : Int)) then _ else _) = _
        rw [lt_dec hi, cond_true])
       (fun k l i hi => by
        show (bif decide ((i : Int) < (length p.Kids : Int)) then _ else _) = _
        rw [ge_dec hi, cond_false])
       (fun i hi l hl h => ih _ l (by have := pkid_lt hi; omega) hl h) _ _ 0 (by omega) (by omega) h
      rw [List.drop_zero] at this
      have hn : ndP (f + 1) p.Kids = 2 * p.Kids.length + (p.Kids.map (fun x => ne x.Exprs + x.Cols.length + ndP f x.Kids)).sum := by
       rw [← sum_add]; show (p.Kids.map (fun x => 2 + ne x.Exprs + x.Cols.length + ndP f x.Kids)).sum = _; congr 1; exact List.map_congr_left fun x _ => by omega
      show _ ≤ 4 * (l - Sum.elim (fun z => z) (fun r => r) (szPlan_l0 (szPlan_r f) p (p.Kids.length - 0 + 1) (szIntS p.Cols (szExprS p.Exprs l) - (length (Pln.Kids p) : Int)) 0)); rw [hn]; omega

end
end Go.Proofs.Ytodcdgolcbdkgaa
