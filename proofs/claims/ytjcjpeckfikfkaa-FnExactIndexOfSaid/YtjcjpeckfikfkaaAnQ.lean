/-
  An, part Q: the library's insertion sort of numbers that ascend at first: by a comparison that tells them apart where the given one does not.
-/
import Derived.Test.YtjcjpeckfikfkaaAnP
import Derived.Sort.LotA
import Derived.Shelf.SlSortCmp.Insertion1
set_option linter.all false
namespace Go.Am
open Go.Sort Go.Proofs

section
variable {α : Type} [Inhabited α] {lt lt' : α → α → Bool} {v : α → Int}

end
end Go.Am
