/-
  An, part L: loops that many functions share, in plain terms.
-/
import Derived.Test.YtjcjpeckfikfkaaAmY
set_option linter.all false
namespace Go.Am

theorem lt_dec {i n : Nat} (h : i < n) : decide (((i : Nat) : Int) < ((n : Nat) : Int)) = true := by simp; exact h
theorem ge_dec {i n : Nat} (h : ¬ i < n) : decide (((i : Nat) : Int) < ((n : Nat) : Int)) = false := by simp; omega

theorem getD_set_int (a : List Int) (i j : Nat) (x : Int) (hj : j < a.length) : (a.set i x).getD j 0 = if i = j then x else a.getD j 0 := by
  simp only [List.getD_eq_getElem?_getD, List.getElem?_set]; by_cases h : i = j
  · subst h; simp [hj]
  · simp [h]

theorem mark_loop (L : Nat → Nat → Nat → List Int → Nat × List Int)
    (hS : ∀ k c i a, L (k + 1) c i a = bif decide (((i : Nat) : Int) < ((List.length a : Nat) : Int)) then L k (c + 1) (i + 1) (List.set a i ((c : Nat) : Int)) else (c, a)) :
    ∀ k c i a, a.length - i < k → i ≤ a.length → (L k c i a).1 = c + (a.length - i) ∧ (L k c i a).2.length = a.length ∧
      (∀ j, j < i → j < a.length → (L k c i a).2.getD j 0 = a.getD j 0) ∧ ∀ j, i ≤ j → j < a.length → (L k c i a).2.getD j 0 = ((c + (j - i) : Nat) : Int) := by
  intro k
  induction k with
  | zero => intro c i a h; omega
  | succ k ih =>
    intro c i a hk hi; rw [hS]; by_cases h : i < a.length
    · rw [lt_dec h, cond_true]; obtain ⟨h1, h2, h3, h4⟩ := ih (c + 1) (i + 1) (List.set a i ((c : Nat) : Int)) (by rw [List.length_set]; omega) (by rw [List.length_set]; omega); rw [List.length_set] at h1 h2 h3 h4; refine ⟨by omega, h2, fun j hj hl => ?_, fun j hj hl => ?_⟩
      · rw [h3 j (by omega) hl, getD_set_int _ _ _ _ hl, if_neg (by omega)]
      · by_cases hij : i = j
        · subst hij; rw [h3 i (by omega) hl, getD_set_int _ _ _ _ hl, if_pos rfl]; congr 1; omega
        · rw [h4 j (by omega) hl]; congr 1; omega
    · rw [ge_dec h, cond_false]; exact ⟨by omega, rfl, fun _ _ _ => rfl, fun j h1 h2 => by omega⟩

theorem held_loop (a : List Int) (L : Nat → Int → Nat → Int ⊕ Int)
    (hS : ∀ k c i, L (k + 1) c i = bif decide (((i : Nat) : Int) < ((List.length a : Nat) : Int)) then (bif (List.getD a i 0 != c) then .inr (-1) else L k (c + 1) (i + 1)) else .inl c) :
    ∀ k c i, a.length - i < k → i ≤ a.length → (∀ j, i ≤ j → j < a.length → a.getD j 0 = c + ((j - i : Nat) : Int)) → L k c i = .inl (c + ((a.length - i : Nat) : Int)) := by
  intro k
  induction k with
  | zero => intro c i h; omega
  | succ k ih =>
    intro c i hk hi h; rw [hS]; by_cases hl : i < a.length
    · rw [lt_dec hl, cond_true]; have := h i (Nat.le_refl _) hl
      rw [Nat.sub_self] at this
      rw [this, show (c + ((0 : Nat) : Int) != c) = false by simp, cond_false, ih (c + 1) (i + 1) (by omega) (by omega) fun j h1 h2 => by rw [h j (by omega) h2]; omega]; congr 1; omega
    · rw [ge_dec hl, cond_false]; congr 1; omega

end Go.Am
