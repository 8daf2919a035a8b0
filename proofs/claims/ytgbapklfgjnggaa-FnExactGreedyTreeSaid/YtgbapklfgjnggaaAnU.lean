/-
  A part of the proof of this claim (AnU): what functions of the program compute, and plain facts of that. No conditions.
-/
import Derived.Test.YtgbapklfgjnggaaAnS
import Derived.Test.YtgbapklfgjnggaaAnT
set_option linter.all false
/-! A tree's elements, told in another way. -/
namespace Go.Am
open List
open Go

theorem AW.retree [U : Univ] {P : Program} {E : Ent} {N : Nat} {c : Code} {Q : Exit → St → Prop} {sl : List (Nat × SV)} {id ep : Nat} {u : Ty} {xs ys : List u.den} (e : xs = ys)
    (h : AW P E N c Q ⟨sl, [(id, .tree ep u ys)]⟩) : AW P E N c Q ⟨sl, [(id, .tree ep u xs)]⟩ := by
  subst e; exact h

theorem set_twice {α : Type} {a : List α} {i : Nat} {y d : α} (f : α → α) (h : i < a.length) : (a.set i y).set i (f ((a.set i y).getD i d)) = a.set i (f y) := by
  rw [lgetD_set_eq h, set_set]

end Go.Am
