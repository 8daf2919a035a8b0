/-
  An, part T: marks in a list, and the look at them again, in plain terms.
-/
import Derived.Test.YtclennmbceaoeaaAnL
set_option linter.all false
namespace Go.Am
open List

section
variable {α : Type} (m : α → Int → α × Int) (ok : α → Int → Prop)

variable {m ok}

end
end Go.Am
