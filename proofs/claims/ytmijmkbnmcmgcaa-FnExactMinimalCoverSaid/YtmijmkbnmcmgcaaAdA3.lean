/-
  A part of the proof of this claim (AdA3): what functions of the program compute, and plain facts of that. No conditions.
-/
import Derived.Test.YtmijmkbnmcmgcaaAdA2
import Derived.Test.YtmijmkbnmcmgcaaAdY
import Derived.Test.YtmijmkbnmcmgcaaAdL
import Derived.Test.YtmijmkbnmcmgcaaAnT
set_option linter.all false
namespace Go.Proofs.Ytmijmkbnmcmgcaa
open Go Go.Am

theorem q1 (fds : List Dep) (w : Int) (v : Nat) : ∀ (k i : Nat) (l : List Dep), iMinCover_l1 fds w v k i l = iMinimalCover_l1 fds w v k i l ∧ (iMinCover_l1 fds w v k i l).length ≤ l.length + k := by
 intro k
 induction k with
 | zero => intro i l; exact ⟨rfl, Nat.le_refl _⟩
 | succ k ih =>
  intro i l
  unfold iMinCover_l1 iMinimalCover_l1
  cases decide (((i : Nat) : Int) < w) with
  | false => exact ⟨rfl, by rw [cond_false]; omega⟩
  | true =>
   simp only [cond_true]
   cases (bif (contains (Dep.To (List.getD fds v Dep.zero)) ((1 : Int) * 2 ^ i)) then (!(contains (Dep.From (List.getD fds v Dep.zero)) ((1 : Int) * 2 ^ i))) else false) with
   | true =>
    have := ih (i + 1) (l ++ [Dep.mk (Dep.From (List.getD fds v Dep.zero)) ((1 : Int) * 2 ^ i)])
    rw [List.length_append] at this
    exact ⟨this.1, by rw [cond_true]; have := this.2; simp only [List.length_cons, List.length_nil] at this; omega⟩
   | false =>
    have := ih (i + 1) l
    exact ⟨this.1, by rw [cond_false]; omega⟩

theorem q0 (fds : List Dep) (w : Int) (hw : w ≤ 6) : ∀ (k i : Nat) (l : List Dep), iMinCover_l0 fds w k i l = iMinimalCover_l0 fds w k i l ∧ (iMinCover_l0 fds w k i l).length ≤ l.length + 7 * k := by
 intro k
 induction k with
 | zero => intro i l; exact ⟨rfl, Nat.le_refl _⟩
 | succ k ih =>
  intro i l
  unfold iMinCover_l0 iMinimalCover_l0 Go.Am.andThen
  cases decide (((i : Nat) : Int) < ((List.length fds : Nat) : Int)) with
  | false => exact ⟨rfl, by rw [cond_false]; omega⟩
  | true =>
   simp only [cond_true]
   obtain ⟨a, b⟩ := q1 fds w i (Int.toNat (w - ((0 : Nat) : Int)) + 1) 0 l
   have c := ih (i + 1) (iMinCover_l1 fds w i (Int.toNat (w - ((0 : Nat) : Int)) + 1) 0 l)
   rw [← a]
   exact ⟨c.1, by have := c.2; omega⟩

theorem bif_pair {b : Bool} {x y x' y' : List Dep} {n : Nat} (h1 : x = x' ∧ x.length = n) (h2 : y = y' ∧ y.length = n) : (bif b then x else y) = (bif b then x' else y') ∧ (bif b then x else y).length = n := by
 cases b
 ·
  exact h2
 ·
  exact h1

theorem q3 (w : Int) (v : Nat) : ∀ (k i : Nat) (l : List Dep), iMinCover_l3 w v k i l = iMinimalCover_l3 w v k i l ∧ (iMinCover_l3 w v k i l).length = l.length := by
 intro k
 induction k with
 | zero => intro i l; exact ⟨rfl, rfl⟩
 | succ k ih =>
  intro i l
  unfold iMinCover_l3 iMinimalCover_l3
  cases decide (((i : Nat) : Int) < w) with
  | false => exact ⟨rfl, rfl⟩
  | true =>
   simp only [cond_true]
   exact bif_pair (by have h := ih (i + 1) (List.set l v (Dep.mk (bits .andNot .i64 (Dep.From (List.getD l v Dep.zero)) ((1 : Int) * 2 ^ i)) (Dep.To (List.getD l v Dep.zero)))); rw [List.length_set] at h; exact h) (ih (i + 1) l)

theorem q2 (w : Int) (l0 : List Dep) : ∀ (k i : Nat) (l : List Dep), iMinCover_l2 w l0 k i l = iMinimalCover_l2 w l0 k i l ∧ (iMinCover_l2 w l0 k i l).length = l.length := by
 intro k
 induction k with
 | zero => intro i l; exact ⟨rfl, rfl⟩
 | succ k ih =>
  intro i l
  unfold iMinCover_l2 iMinimalCover_l2 Go.Am.andThen
  cases decide (((i : Nat) : Int) < ((List.length l0 : Nat) : Int)) with
  | false => exact ⟨rfl, rfl⟩
  | true =>
   simp only [cond_true]
   obtain ⟨a, b⟩ := q3 w i (Int.toNat (w - ((0 : Nat) : Int)) + 1) 0 l
   have c := ih (i + 1) (iMinCover_l3 w i (Int.toNat (w - ((0 : Nat) : Int)) + 1) 0 l)
   rw [← a]
   exact ⟨c.1, c.2.trans b⟩

theorem q4 : ∀ (k i : Nat) (l : List Dep), iMinCover_l4 k i l = iMinimalCover_l4 k l i ∧ (iMinCover_l4 k i l).length ≤ l.length := by
 intro k
 induction k with
 | zero => intro i l; exact ⟨rfl, Nat.le_refl _⟩
 | succ k ih =>
  intro i l
  unfold iMinCover_l4 iMinimalCover_l4
  rw [cc]
  by_cases hi : i < l.length
  ·
   rw [lt_dec hi]
   simp only [cond_true]
   cases iimplies (concat [List.take i l, List.drop (i + 1) l]) (List.getD l i Dep.zero) with
   | true =>
    have := ih i (concat [List.take i l, List.drop (i + 1) l])
    have e := concat_len hi
    exact ⟨this.1, by rw [cond_true]; have := this.2; omega⟩
   | false => exact ih (i + 1) l
  ·
   rw [ge_dec hi]
   exact ⟨rfl, Nat.le_refl _⟩

theorem minCover_eq (fds : List Dep) (w : Int) : iMinCover fds w = iMinimalCover fds w ∧ (iMinCover fds w).length ≤ 1000 := by
 unfold iMinCover iMinimalCover Go.Am.andThen
 cases h : ValidDependencies fds w with
 | false => exact ⟨rfl, by simp⟩
 | true =>
  obtain ⟨hw, h8, -⟩ := deps_ok h
  simp only [Bool.not_true, cond_false]
  obtain ⟨a1, a2⟩ := q0 fds w hw.2 (List.length fds - 0 + 1) 0 []
  obtain ⟨b1, b2⟩ := q2 w (iMinCover_l0 fds w (List.length fds - 0 + 1) 0 []) (List.length (iMinCover_l0 fds w (List.length fds - 0 + 1) 0 []) - 0 + 1) 0 (iMinCover_l0 fds w (List.length fds - 0 + 1) 0 [])
  obtain ⟨c1, c2⟩ := q4 (List.length (iMinCover_l2 w (iMinCover_l0 fds w (List.length fds - 0 + 1) 0 []) (List.length (iMinCover_l0 fds w (List.length fds - 0 + 1) 0 []) - 0 + 1) 0 (iMinCover_l0 fds w (List.length fds - 0 + 1) 0 [])) - 0 + 1) 0 (iMinCover_l2 w (iMinCover_l0 fds w (List.length fds - 0 + 1) 0 []) (List.length (iMinCover_l0 fds w (List.length fds - 0 + 1) 0 []) - 0 + 1) 0 (iMinCover_l0 fds w (List.length fds - 0 + 1) 0 []))
  rw [← a1, ← b1]
  refine ⟨c1, ?_⟩
  simp only [List.length_nil] at a2
  omega

/-! ### Marks -/

def mD (_ : Dep) (k : Int) : Dep × Int := (Dep.mk k (IntKind.wrap .i64 (k + 1)), IntKind.wrap .i64 ((IntKind.wrap .i64 (k + 1)) + 1))

theorem markD_held (a : List Dep) : (markDependencyS a 1).2 = kf mD a 1 ∧ heldDependencyS (markDependencyS a 1).1 1 = kf mD a 1 := by
 have hok : ∀ (l : List Dep) (k : Int), Go.Am.OKL mD (fun _ _ => True) l k := by
  intro l
  induction l with
  | nil => intro k; exact trivial
  | cons x l ih => intro k; exact ⟨trivial, ih _⟩
 have h := mark_held (m := mD) (ok := fun _ _ => True) Dep.zero markDependencyS_l0 heldDependencyS_l0
  (fun n k i a hi => by
   show (bif decide (((i : Nat) : Int) < ((List.length a : Nat) : Int)) then _ else _) = _
   rw [lt_dec hi, cond_true, lgetD_set_eq hi, List.set_set]
   rfl)
  (fun n k i a hi => by
   show (bif decide (((i : Nat) : Int) < ((List.length a : Nat) : Int)) then _ else _) = _
   rw [ge_dec hi, cond_false])
  (fun b n k i x hi e _ => by
   show (bif decide (((i : Nat) : Int) < ((List.length b : Nat) : Int)) then _ else _) = _
   rw [lt_dec hi, cond_true, e]
   show (bif k != k then _ else bif IntKind.wrap .i64 (k + 1) != IntKind.wrap .i64 (k + 1) then _ else _) = _
   rw [bne_self_eq_false, bne_self_eq_false, cond_false, cond_false]
   rfl)
  (fun b n k i hi => by
   show (bif decide (((i : Nat) : Int) < ((List.length b : Nat) : Int)) then _ else _) = _
   rw [ge_dec hi, cond_false])
  (a.length - 0 + 1) 1 0 a (by omega) (hok _ _)
 obtain ⟨h1, h2, h3, h4⟩ := h
 rw [List.drop_zero] at h1 h4
 refine ⟨h1, ?_⟩
 have h5 := h4 (a.length - 0 + 1) (by omega)
 show Sum.elim (fun z => (fun (k1 : Int) => k1) z) (fun r => r) (heldDependencyS_l0 (markDependencyS_l0 (a.length - 0 + 1) 1 0 a).2 ((markDependencyS_l0 (a.length - 0 + 1) 1 0 a).2.length - 0 + 1) 1 0) = _
 rw [h2, h5]
 rfl

theorem kf_nn (a : List Dep) (h : a.length ≤ 1048576) : ¬ kf mD a 1 < 0 := by
 have := (kf_sum (m := mD) (ok := fun _ _ => True) (c := fun _ => 2) (B := 4611686018427387900) (fun x k h0 hB => ⟨by
  show IntKind.wrap .i64 ((IntKind.wrap .i64 (k + 1)) + 1) = _
  rw [wrapI (x := k + 1) (by omega) (by omega), wrapI (by omega) (by omega)]
  omega, trivial⟩) a 1 (by decide) (by
   have := sum_le (c := fun _ : Dep => 2) (b := 2) a (fun _ _ => Nat.le_refl _)
   omega)).1
 omega

theorem toDep_len (a : List Dep) : (toDependencyS a).length = a.length := by
 have key : ∀ (k i : Nat) (out : List Dep), (toDependencyS_l0 a k i out).length = out.length := by
  intro k
  induction k with
  | zero => intro i out; rfl
  | succ k ih =>
   intro i out
   unfold toDependencyS_l0
   cases decide (((i : Nat) : Int) < ((List.length a : Nat) : Int)) with
   | false => rfl
   | true => rw [cond_true, ih, List.length_set]
 unfold toDependencyS Go.Am.andThen
 rw [key]
 simp

theorem FnExactMinimalCover_law (a : List Dep) (w : Int) : FnExactMinimalCover a w = true := by
 unfold FnExactMinimalCover
 obtain ⟨e1, e2⟩ := minCover_eq (toDependencyS a) w
 have e3 := e1.trans (cover_eq (toDependencyS a) w)
 rw [← e3]
 simp only [eqDependencyS_self, Bool.not_true, cond_false]
 by_cases h : szDependencyS a 1048576 < 0
 ·
  rw [decide_eq_true h]; rfl
 ·
  rw [decide_eq_false h, cond_false]
  have hl := szDep_le h
  obtain ⟨m1, m2⟩ := markD_held (iMinCover (toDependencyS a) w)
  obtain ⟨m3, -⟩ := markD_held (toDependencyS a)
  have n1 := kf_nn (toDependencyS a) (by rw [toDep_len]; omega)
  have n2 := kf_nn (iMinCover (toDependencyS a) w) (by omega)
  rw [m3, m2, m1, decide_eq_false n1, decide_eq_false n2, bne_self_eq_false]
  rfl

end Go.Proofs.Ytmijmkbnmcmgcaa
