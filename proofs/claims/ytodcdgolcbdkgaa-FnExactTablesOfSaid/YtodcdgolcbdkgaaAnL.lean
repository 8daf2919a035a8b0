/-
  An, part L: loops that many functions share, in plain terms.
-/
import Derived.Test.YtodcdgolcbdkgaaAmY
set_option linter.all false
namespace Go.Am

theorem lt_dec {i n : Nat} (h : i < n) : decide (((i : Nat) : Int) < ((n : Nat) : Int)) = true := by simp; exact h
theorem ge_dec {i n : Nat} (h : ¬ i < n) : decide (((i : Nat) : Int) < ((n : Nat) : Int)) = false := by simp; omega

theorem getD_set_int (a : List Int) (i j : Nat) (x : Int) (hj : j < a.length) : (a.set i x).getD j 0 = if i = j then x else a.getD j 0 := by
  simp only [List.getD_eq_getElem?_getD, List.getElem?_set]; by_cases h : i = j
  · subst h; simp [hj]
  · simp [h]

end Go.Am
