/-
  An, part X: cells that are written one after the other; clear.
-/
import Derived.Test.YtclennmbceaoeaaAnW
import Derived.Deep.RegionLaw
import Derived.WalkKit
set_option linter.all false
namespace Go.Am
open List

variable {P : Program}

end Go.Am
