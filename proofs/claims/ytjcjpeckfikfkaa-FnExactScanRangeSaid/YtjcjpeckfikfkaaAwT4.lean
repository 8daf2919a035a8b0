/-
  A part of the proof of this claim (AwT4): what functions of the program compute, and plain facts of that. No conditions.
-/
import Derived.Test.YtjcjpeckfikfkaaAwT3
import Derived.Test.YtjcjpeckfikfkaaAwE
import Derived.Test.YtjcjpeckfikfkaaAnL
set_option linter.all false
namespace Go.Proofs.Ytjcjpeckfikfkaa
open Go Go.Am
noncomputable section

theorem szSS_le {a : List (List Val)} : ∀ (k : Nat) (l : Int) (i : Nat), 0 ≤ l → a.length - i < k → ¬ Sum.elim (fun z => z) (fun r => r) (szValueSS_l0 a k l i) < 0 → ∀ j, i ≤ j → j < a.length → (List.length (List.getD a j []) : Int) ≤ l := by
 intro k
 induction k with
 | zero => intro l i _ h; omega
 | succ k ih =>
  intro l i hl hk h j hj hn
  unfold szValueSS_l0 at h
  by_cases hi : i < a.length
  ·
   rw [lt_dec hi, cond_true] at h
   by_cases h1 : szValueS (a.getD i []) l < 0
   ·
    rw [decide_eq_true h1, cond_true] at h
    exact absurd (by decide) h
   ·
    rw [decide_eq_false h1, cond_false] at h
    have h2 := szValueS_ge (a := a.getD i []) hl
    rcases Nat.eq_or_lt_of_le hj with rfl | hj
    ·
     unfold szValueS at h1
     by_cases e : l - ((List.length (a.getD i []) : Nat) : Int) < 0
     ·
      rw [decide_eq_true e, cond_true] at h1
      exact absurd (by decide) h1
     ·
      omega
    ·
     have := ih _ (i + 1) (by omega) (by omega) h j hj hn
     omega
  ·
   omega

theorem szSS_fit {a : List (List Val)} (h : ¬ szValueSS a 1048576 < 0) : (List.length a : Int) ≤ 1048576 ∧ ∀ i : Nat, i < List.length a → (List.length (List.getD a i []) : Int) ≤ 1048576 := by
 unfold szValueSS at h
 by_cases e : (1048576 : Int) - ((List.length a : Nat) : Int) < 0
 ·
  rw [decide_eq_true e, cond_true] at h
  exact absurd (by decide) h
 ·
  rw [decide_eq_false e, cond_false] at h
  refine ⟨by omega, fun i hi => ?_⟩
  have := szSS_le _ _ 0 (by omega) (by omega) h i (by omega) hi
  omega

end
end Go.Proofs.Ytjcjpeckfikfkaa
