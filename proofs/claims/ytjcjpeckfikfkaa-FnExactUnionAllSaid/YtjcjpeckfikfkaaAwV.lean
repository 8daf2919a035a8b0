/-
  A part of the proof of this claim (AwV): what functions of the program compute, and plain facts of that. No conditions.
-/
import Derived.Test.YtjcjpeckfikfkaaAwO
import Derived.Test.YtjcjpeckfikfkaaAwJ
set_option linter.all false
namespace Go.Proofs.Ytjcjpeckfikfkaa
open Go Go.Am
noncomputable section

end
end Go.Proofs.Ytjcjpeckfikfkaa


namespace Go.Proofs.Ytjcjpeckfikfkaa
open Go Go.Am
noncomputable section

/-! ### Equal rows, counted -/

theorem VT.rowsW {t : Tab} (h : VT t) : RowsW t.Width.toNat t.Rows := RowsW.of_getD fun j hj => by
 have := h.rows j hj
 refine ⟨this.1, ?_⟩
 have h2 : (((t.Rows.getD j []).length : Nat) : Int) = t.Width := this.2
 omega

end
end Go.Proofs.Ytjcjpeckfikfkaa


namespace Go.Proofs.Ytjcjpeckfikfkaa
open Go Go.Am
noncomputable section

/-! ### Rows, each once -/

/-! ### Both tables' rows -/

theorem iUnionAll_yes {a b : Tab} (ha : VT a) (hb : VT b) (hw : a.Width = b.Width) : iUnionAll a b = (if a.Rows.length + b.Rows.length ≤ 400 then ⟨a.Width, srtRows (a.Rows ++ b.Rows)⟩ else ⟨a.Width, []⟩, true) := by
 unfold iUnionAll
 rw [ValidTable_iff.2 ha, ValidTable_iff.2 hb, bne_eq_false_iff_eq.2 hw, Bool.not_true, cond_false, cond_false, cond_false, show ∀ l, valuesF l = l from fun _ => rfl, concat_pair, collect_eq, List.length_append]

theorem iUnionAll_no {a b : Tab} (h : ¬ (VT a ∧ VT b ∧ a.Width = b.Width)) : iUnionAll a b = (⟨0, []⟩, false) := by
 unfold iUnionAll
 cases e : (bif (bif (!(ValidTable a)) then true else (!(ValidTable b))) then true else ((Tab.Width a) != (Tab.Width b))) with
 | true => rfl
 | false =>
  have e1 := or_neg e
  have e2 := or_neg e1.1
  exact absurd ⟨ValidTable_iff.1 (not_neg e2.1), ValidTable_iff.1 (not_neg e2.2), by simpa using e1.2⟩ h

theorem union_same (a b : Tab) : iUnionAll a b = sUnionAll a b := by
 by_cases h : VT a ∧ VT b ∧ a.Width = b.Width
 ·
  obtain ⟨ha, hb, hw⟩ := h
  rw [iUnionAll_yes ha hb hw]
  unfold sUnionAll unionAll
  rw [vt_eq, vt_eq, ValidTable_iff.2 ha, ValidTable_iff.2 hb, bne_eq_false_iff_eq.2 hw, Bool.not_true, cond_false, cond_false, cond_false, List.nil_append,
   tableOf_eq (wd := a.Width.toNat) a.Width (fun r hr => ?_), List.length_append]
  rcases List.mem_append.1 hr with hr | hr
  ·
   exact ha.rowsW r hr
  ·
   rw [hw]; exact hb.rowsW r hr
 ·
  rw [iUnionAll_no h]
  unfold sUnionAll
  rw [vt_eq, vt_eq]
  cases e : (bif (bif (!(ValidTable a)) then true else (!(ValidTable b))) then true else ((Tab.Width a) != (Tab.Width b))) with
  | true => rfl
  | false =>
   have e1 := or_neg e
   have e2 := or_neg e1.1
   exact absurd ⟨ValidTable_iff.1 (not_neg e2.1), ValidTable_iff.1 (not_neg e2.2), by simpa using e1.2⟩ h

theorem iUnionAll_len (a b : Tab) : (iUnionAll a b).1.Rows.length ≤ 400 := by
 by_cases h : VT a ∧ VT b ∧ a.Width = b.Width
 ·
  obtain ⟨ha, hb, hw⟩ := h
  rw [iUnionAll_yes ha hb hw]
  by_cases q : a.Rows.length + b.Rows.length ≤ 400
  ·
   rw [if_pos q]
   show (srtRows (a.Rows ++ b.Rows)).length ≤ 400
   rw [srtRows_len, List.length_append]
   exact q
  ·
   rw [if_neg q]
   exact Nat.zero_le _
 ·
  rw [iUnionAll_no h]
  exact Nat.zero_le _

end
end Go.Proofs.Ytjcjpeckfikfkaa
