/-
  A part of the proof of this claim (AwL): what functions of the program compute, and plain facts of that. No conditions.
-/
import Derived.Test.YtjcjpeckfikfkaaAw5
import Derived.Test.YtjcjpeckfikfkaaAnM
import Derived.WalkKit
import Derived.TacticsIn
import Derived.BigFrameIn
import Derived.Test.YtjcjpeckfikfkaaAw7
set_option linter.all false
namespace Go.Proofs.Ytjcjpeckfikfkaa
open Go Go.Am
noncomputable section

theorem VT.rowsOK {t : Tab} (h : VT t) : RowsOK t.Rows := rows_of_getD h.rows

end
end Go.Proofs.Ytjcjpeckfikfkaa
