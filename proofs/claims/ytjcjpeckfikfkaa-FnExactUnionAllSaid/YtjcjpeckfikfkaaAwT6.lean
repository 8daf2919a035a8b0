/-
  A part of the proof of this claim (AwT6): what functions of the program compute, and plain facts of that. No conditions.
-/
import Derived.Test.YtjcjpeckfikfkaaAwT5
set_option linter.all false
namespace Go.Proofs.Ytjcjpeckfikfkaa
open Go Go.Am
noncomputable section

theorem szTable_fit {t : Tab} (h : ¬ szTable t 1048576 < 0) : (List.length t.Rows : Int) ≤ 1048576 ∧ ∀ i : Nat, i < List.length t.Rows → (List.length (List.getD t.Rows i []) : Int) ≤ 1048576 := by
 unfold szTable at h
 by_cases h1 : szValueSS t.Rows 1048576 < 0
 ·
  rw [decide_eq_true h1, cond_true] at h
  exact absurd (by decide) h
 ·
  exact szSS_fit h1

theorem szSS_ge {a : List (List Val)} : ∀ (k : Nat) (l : Int) (i : Nat), 0 ≤ l → Sum.elim (fun z => z) (fun r => r) (szValueSS_l0 a k l i) ≤ l := by
 intro k
 induction k with
 | zero => intro l i _; exact Int.le_refl _
 | succ k ih =>
  intro l i hl
  unfold szValueSS_l0
  cases decide (((i : Nat) : Int) < ((List.length a : Nat) : Int)) with
  | false => exact Int.le_refl _
  | true =>
   rw [cond_true]
   have h2 := szValueS_ge (a := a.getD i []) hl
   by_cases h1 : szValueS (a.getD i []) l < 0
   ·
    rw [decide_eq_true h1, cond_true]
    show (-1 : Int) ≤ l
    omega
   ·
    rw [decide_eq_false h1, cond_false]
    have := ih (szValueS (a.getD i []) l) (i + 1) (by omega)
    omega

theorem szTable_ge {t : Tab} {l : Int} (hl : 0 ≤ l) : szTable t l ≤ l := by
 unfold szTable
 by_cases h1 : szValueSS t.Rows l < 0
 ·
  rw [decide_eq_true h1, cond_true]; omega
 ·
  rw [decide_eq_false h1, cond_false]
  unfold szValueSS
  by_cases e : l - ((List.length t.Rows : Nat) : Int) < 0
  ·
   rw [decide_eq_true e, cond_true]; omega
  ·
   rw [decide_eq_false e, cond_false]
   have := szSS_ge (a := t.Rows) (t.Rows.length - 0 + 1) (l - ((List.length t.Rows : Nat) : Int)) 0 (by omega)
   have h3 : Sum.elim (fun z => z) (fun r => r) (szValueSS_l0 t.Rows (t.Rows.length - 0 + 1) (l - ((List.length t.Rows : Nat) : Int)) 0) ≤ l := by omega
   exact h3

theorem szTable_fit2 {a t : Tab} (ha : ¬ szTable a 1048576 < 0) (h : ¬ szTable t (szTable a 1048576) < 0) : (List.length t.Rows : Int) ≤ 1048576 ∧ ∀ i : Nat, i < List.length t.Rows → (List.length (List.getD t.Rows i []) : Int) ≤ 1048576 := by
 have h0 := szTable_ge (t := a) (l := 1048576) (by decide)
 generalize szTable a 1048576 = l at ha h h0
 unfold szTable at h
 by_cases h1 : szValueSS t.Rows l < 0
 ·
  rw [decide_eq_true h1, cond_true] at h
  exact absurd (by decide) h
 ·
  unfold szValueSS at h1
  by_cases e : l - ((List.length t.Rows : Nat) : Int) < 0
  ·
   rw [decide_eq_true e, cond_true] at h1
   exact absurd (by decide) h1
  ·
   rw [decide_eq_false e, cond_false] at h1
   refine ⟨by omega, fun i hi => ?_⟩
   have := szSS_le _ _ 0 (by omega) (by omega) h1 i (by omega) hi
   omega

theorem toTable_fit {t : Tab} (h : (List.length t.Rows : Int) ≤ 1048576 ∧ ∀ i : Nat, i < List.length t.Rows → (List.length (List.getD t.Rows i []) : Int) ≤ 1048576) : ¬ (markValueSS (toTable t).Rows 1).2 < 0 ∧ 0 ≤ (markValueSS (toTable t).Rows 1).2 ∧ (markValueSS (toTable t).Rows 1).2 ≤ 2199023255553 := by
 have h2 := cnt_fits (toSS_fit h)
 have h1 := markSS_nn h
 have h3 := (markSS_cnt (toValueSS t.Rows) 1 (by decide) (by unfold BND; omega)).1
 refine ⟨h1, ?_, ?_⟩ <;> (show _ ≤ _; first | (show 0 ≤ (markValueSS (toValueSS t.Rows) 1).2; omega) | (show (markValueSS (toValueSS t.Rows) 1).2 ≤ _; omega))

end
end Go.Proofs.Ytjcjpeckfikfkaa
