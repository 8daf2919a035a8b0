/-
  A part of the proof of this claim (AwT2): what functions of the program compute, and plain facts of that. No conditions.
-/
import Derived.Test.YtjcjpeckfikfkaaAwT1
import Derived.Test.YtjcjpeckfikfkaaAw7
set_option linter.all false
namespace Go.Proofs.Ytjcjpeckfikfkaa
open Go Go.Am
noncomputable section

theorem sortRowsT : SortTC Try.prog 96 68 (.slice (.named 1)) RowsOK srtRows :=
 SortTC.make noGlob sortRows rfl ⟨Try.func96, by kernel_rfl, rfl⟩ (fun n h => by cases h) icompareRows_ok rfl rfl (cf := icompareRows)
  (fun xs ⟨wd, h⟩ => ⟨fun r => VR r ∧ r.length = wd, h, rows_sortable wd, fun _ _ _ _ => trivial, fun _ _ _ _ => rfl⟩)
  srtRows_len (fun xs _ => srtRows_perm xs) (fun xs ⟨wd, h⟩ => (srtRows_sorted xs).imp_of_mem fun {a b} ha hb hab => by
   have h1 := h a (srtRows_mem.1 ha)
   have h2 := h b (srtRows_mem.1 hb)
   rw [iRows_lex h2.1 h1.1 (by omega)]
   exact of_decide_eq_false hab)

end
end Go.Proofs.Ytjcjpeckfikfkaa
