/-
  A part of the proof of this claim (AdL): what functions of the program compute, and plain facts of that. No conditions.
-/
import Derived.Test.YtmijmkbnmcmgcaaAd2
set_option linter.all false
namespace Go.Proofs.Ytmijmkbnmcmgcaa
open Go Go.Am

/-! ### The two closures are the same -/

theorem contains_eq {s p : Int} (h1 : -9223372036854775808 ≤ p) (h2 : p ≤ 9223372036854775807) : contains s p = (bits .and .i64 p s == p) := by
 rw [Bool.eq_iff_iff, contains_iff h1 h2]
 simp

theorem cond_same {s : Int} {f : Dep} (h : (-9223372036854775808 ≤ f.From ∧ f.From ≤ 9223372036854775807) ∧ (-9223372036854775808 ≤ f.To ∧ f.To ≤ 9223372036854775807)) :
  (bif contains s f.From then (!(contains s f.To)) else false) = (bif (bits .and .i64 f.From s == f.From) then (bits .and .i64 f.To s != f.To) else false) := by
 rw [contains_eq h.1.1 h.1.2, contains_eq h.2.1 h.2.2]
 rfl

def InR (fds : List Dep) : Prop := ∀ f ∈ fds, (-9223372036854775808 ≤ f.From ∧ f.From ≤ 9223372036854775807) ∧ (-9223372036854775808 ≤ f.To ∧ f.To ≤ 9223372036854775807)

theorem inR_getD {fds : List Dep} (h : InR fds) (i : Nat) : (-9223372036854775808 ≤ (fds.getD i Dep.zero).From ∧ (fds.getD i Dep.zero).From ≤ 9223372036854775807) ∧ (-9223372036854775808 ≤ (fds.getD i Dep.zero).To ∧ (fds.getD i Dep.zero).To ≤ 9223372036854775807) := by
 by_cases hi : i < fds.length
 ·
  exact h _ (getD_mem fds i Dep.zero hi)
 ·
  rw [List.getD_eq_getElem?_getD, List.getElem?_eq_none (by omega)]
  simp [Dep.zero]

theorem round_same {fds : List Dep} (h : InR fds) : ∀ (k : Nat) (s : Int) (c : Bool) (i : Nat) (st : List Int), ((derived_l1 fds k s c i st).1, (derived_l1 fds k s c i st).2.1) = closureOf_l1 fds k s c i := by
 intro k
 induction k with
 | zero => intro s c i st; rfl
 | succ k ih =>
  intro s c i st
  simp only [derived_l1, closureOf_l1]
  cases decide (((i : Nat) : Int) < ((List.length fds : Nat) : Int)) with
  | false => rfl
  | true =>
   simp only [cond_true]
   rw [cond_same (inR_getD h i)]
   cases (bif (bits .and .i64 (fds.getD i Dep.zero).From s == (fds.getD i Dep.zero).From) then (bits .and .i64 (fds.getD i Dep.zero).To s != (fds.getD i Dep.zero).To) else false) with
   | true => exact ih _ _ _ _
   | false => exact ih _ _ _ _

theorem rounds_same {fds : List Dep} (h : InR fds) : ∀ (k : Nat) (s : Int) (c : Bool) (st : List Int), (derived_l0 fds k s c st).1 = closureOf_l0 fds k s c := by
 intro k
 induction k with
 | zero => intro s c st; rfl
 | succ k ih =>
  intro s c st
  simp only [derived_l0, closureOf_l0]
  cases c with
  | false => rfl
  | true =>
   simp only [cond_true, andThen]
   have := round_same h (List.length fds - 0 + 1) s false 0 st
   rw [← this]
   exact ih _ _ _

theorem closure_eq {fds : List Dep} (h : InR fds) (s : Int) : closure fds s = closureOf fds s := by
 simp only [closure, derived, closureOf, andThen]
 exact rounds_same h _ _ _ _

theorem eqDependency_self (a : Dep) : eqDependency a a = true := by simp [eqDependency]

theorem eqDependencyS_self (a : List Dep) : eqDependencyS a a = true := by
 unfold eqDependencyS
 simp only [bne_self_eq_false, cond_false]
 rcases all_loop (eqDependencyS_l0 a a) a.length (fun i => !(eqDependency (List.getD a i Dep.zero) (List.getD a i Dep.zero))) (fun k i => rfl) (a.length - 0 + 1) 0 (by omega) with ⟨h1, _⟩ | ⟨_, j, _, _, h⟩
 ·
  rw [h1]; rfl
 ·
  rw [eqDependency_self] at h; cases h

end Go.Proofs.Ytmijmkbnmcmgcaa
