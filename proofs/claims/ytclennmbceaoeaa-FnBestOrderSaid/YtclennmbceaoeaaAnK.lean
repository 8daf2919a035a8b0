/-
  An, part K: the library's SortFunc as a function that sorts ('SortC').
-/
import Derived.Test.YtclennmbceaoeaaAnI
import Derived.Test.YtclennmbceaoeaaAnJ
import Derived.Shelf.SlSortCmp.NoneTotal
set_option linter.all false
namespace Go.Am
open List
open Go.Sort Go.Proofs
variable [U : Univ]
attribute [local irreducible] OFF

section
variable {P : Program} {ρ : Go.Shelf.Ren}

structure Sortable {α : Type} (cf : α → α → Int) (ok : α → Prop) : Prop where
  irr : ∀ x, ok x → ¬ cf x x < 0
  tr : ∀ x y z, ok x → ok y → ok z → cf x y < 0 → cf y z < 0 → cf x z < 0
  ntr : ∀ x y z, ok x → ok y → ok z → ¬ cf x y < 0 → ¬ cf y z < 0 → ¬ cf x z < 0
  anti : ∀ x y, ok x → ok y → ¬ cf x y < 0 → ¬ cf y x < 0 → x = y

end
end Go.Am
