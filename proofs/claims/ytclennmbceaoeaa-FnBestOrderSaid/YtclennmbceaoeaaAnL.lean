/-
  An, part L: loops that many functions share, in plain terms.
-/
import Derived.Test.YtclennmbceaoeaaAmY
set_option linter.all false
namespace Go.Am

theorem lt_dec {i n : Nat} (h : i < n) : decide (((i : Nat) : Int) < ((n : Nat) : Int)) = true := by simp; exact h
theorem ge_dec {i n : Nat} (h : ¬ i < n) : decide (((i : Nat) : Int) < ((n : Nat) : Int)) = false := by simp; omega

end Go.Am
