/-
  A part of the proof of this claim (AwT6): what functions of the program compute, and plain facts of that. No conditions.
-/
import Derived.Test.YtjcjpeckfikfkaaAwT5
set_option linter.all false
namespace Go.Proofs.Ytjcjpeckfikfkaa
open Go Go.Am
noncomputable section

theorem szTable_fit {t : Tab} (h : ¬ szTable t 1048576 < 0) : (List.length t.Rows : Int) ≤ 1048576 ∧ ∀ i : Nat, i < List.length t.Rows → (List.length (List.getD t.Rows i []) : Int) ≤ 1048576 := by
 unfold szTable at h
 by_cases h1 : szValueSS t.Rows 1048576 < 0
 ·
  rw [decide_eq_true h1, cond_true] at h
  exact absurd (by decide) h
 ·
  exact szSS_fit h1

theorem toTable_fit {t : Tab} (h : (List.length t.Rows : Int) ≤ 1048576 ∧ ∀ i : Nat, i < List.length t.Rows → (List.length (List.getD t.Rows i []) : Int) ≤ 1048576) : ¬ (markValueSS (toTable t).Rows 1).2 < 0 ∧ 0 ≤ (markValueSS (toTable t).Rows 1).2 ∧ (markValueSS (toTable t).Rows 1).2 ≤ 2199023255553 := by
 have h2 := cnt_fits (toSS_fit h)
 have h1 := markSS_nn h
 have h3 := (markSS_cnt (toValueSS t.Rows) 1 (by decide) (by unfold BND; omega)).1
 refine ⟨h1, ?_, ?_⟩ <;> (show _ ≤ _; first | (show 0 ≤ (markValueSS (toValueSS t.Rows) 1).2; omega) | (show (markValueSS (toValueSS t.Rows) 1).2 ≤ _; omega))

end
end Go.Proofs.Ytjcjpeckfikfkaa
