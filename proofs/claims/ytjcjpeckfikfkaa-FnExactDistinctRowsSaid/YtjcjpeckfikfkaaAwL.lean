/-
  A part of the proof of this claim (AwL): what functions of the program compute, and plain facts of that. No conditions.
-/
import Derived.Test.YtjcjpeckfikfkaaAwK
import Derived.Test.YtjcjpeckfikfkaaAw7
set_option linter.all false
namespace Go.Proofs.Ytjcjpeckfikfkaa
open Go Go.Am
noncomputable section

def collectD_l0 (width : Int) : List (List Val) → (List (List Val)) → (List (List Val)) ⊕ Tab
 | [], ar22 => .inl ar22
 | v8 :: l, ar22 => (bif (((List.length ar22 : Nat) : Int) == 400) then (.inr (Tab.mk width ([] : List (List Val)))) else (collectD_l0 width l (ar22 ++ ([(icopied v8)] : List (List Val)))))

def collectD (width : Int) (rows : List (List Val)) : Tab := (Sum.elim (fun z => (fun (ar22 : List (List Val)) => (Tab.mk width (srtRows ar22))) z) (fun r => r) (collectD_l0 width (diffRows rows) ([] : List (List Val))))

theorem VT.rowsOK {t : Tab} (h : VT t) : RowsOK t.Rows := rows_of_getD h.rows

def iDistinctRows (t : Tab) : Tab × Bool := (bif (!(ValidTable t)) then ((Tab.mk 0 ([] : List (List Val))), false) else ((collectD (Tab.Width t) (differentRowsF (Tab.Rows t))), true))

end
end Go.Proofs.Ytjcjpeckfikfkaa
