/-
  A part of the proof of this claim (AwJ): what functions of the program compute, and plain facts of that. No conditions.
-/
import Derived.Test.YtjcjpeckfikfkaaAwE
set_option linter.all false
namespace Go.Proofs.Ytjcjpeckfikfkaa
open Go Go.Am
open List (length getD)
noncomputable section

/-! ### Sorted lists of rows -/

structure Fits (width : Int) (rows : List (List Val)) : Prop where
 w1 : 1 ≤ width
 w6 : width ≤ 6
 n4 : rows.length ≤ 400
 rows : RowsW width.toNat rows

end
end Go.Proofs.Ytjcjpeckfikfkaa
