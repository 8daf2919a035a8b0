/-
  An, part T: marks in a list, and the look at them again, in plain terms.
-/
import Derived.Test.YtjcjpeckfikfkaaAnL
set_option linter.all false
namespace Go.Am
open List

section
variable {α : Type} (m : α → Int → α × Int) (ok : α → Int → Prop)

variable {m ok}

theorem lgetD_set_ne {a : List α} {i j : Nat} {x d : α} (h : i ≠ j) : (a.set i x).getD j d = a.getD j d := by
  simp only [getD_eq_getElem?_getD, getElem?_set_ne h]

theorem lgetD_set_eq {a : List α} {i : Nat} {x d : α} (h : i < a.length) : (a.set i x).getD i d = x := by
  simp [getD_eq_getElem?_getD, h]

end
end Go.Am
