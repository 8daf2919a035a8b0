/-
  A part of the proof of this claim (AwQ): what functions of the program compute, and plain facts of that. No conditions.
-/
import Derived.Test.YtjcjpeckfikfkaaAwO
import Derived.Test.YtjcjpeckfikfkaaAwJ
set_option linter.all false
namespace Go.Proofs.Ytjcjpeckfikfkaa
open Go Go.Am
noncomputable section

/-! ### Equal rows, counted -/

theorem getD_row {rows : List (List Val)} {i : Nat} (h : i < rows.length) : rows.getD i [] = rows[i] := by
 rw [List.getD_eq_getElem?_getD, List.getElem?_eq_getElem h]
 rfl

theorem VT.rowsW {t : Tab} (h : VT t) : RowsW t.Width.toNat t.Rows := RowsW.of_getD fun j hj => by
 have := h.rows j hj
 refine ⟨this.1, ?_⟩
 have h2 : (((t.Rows.getD j []).length : Nat) : Int) = t.Width := this.2
 omega

theorem VT.rsorted {t : Tab} (h : VT t) : RSorted t.Rows := by
 have hw := h.rowsW
 -- neighbours are in order, so all are
 have nb : ∀ i (hi : i + 1 < t.Rows.length), rlt t.Rows[i + 1] t.Rows[i] = false := fun i hi => by
  have := h.sorted (i + 1) hi (by omega)
  rw [show i + 1 - 1 = i by omega] at this
  have h1 : compareRows (t.Rows.getD i []) (t.Rows.getD (i + 1) []) ≤ 0 := this
  rw [getD_row hi, getD_row (by omega)] at h1
  exact (cmp_le (hw _ (List.getElem_mem _)) (hw _ (List.getElem_mem _))).1 h1
 unfold RSorted
 rw [List.pairwise_iff_getElem]
 have key : ∀ d i (hi : i + d + 1 < t.Rows.length), rlt t.Rows[i + d + 1] t.Rows[i] = false := by
  intro d
  induction d with
  | zero => intro i hi; exact nb i hi
  | succ d ih =>
   intro i hi
   have h1 := ih i (by omega)
   have h2 := nb (i + d + 1) (by omega)
   exact rle_trans h1 h2
 intro i j hi hj hij
 have := key (j - i - 1) i (by omega)
 have e : i + (j - i - 1) + 1 = j := by omega
 simp only [e] at this
 exact this

end
end Go.Proofs.Ytjcjpeckfikfkaa
