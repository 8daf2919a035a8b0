/-
  A part of the proof of this claim (AwV): what functions of the program compute, and plain facts of that. No conditions.
-/
import Derived.Test.YtjcjpeckfikfkaaAwQ
set_option linter.all false
namespace Go.Proofs.Ytjcjpeckfikfkaa
open Go Go.Am
noncomputable section

/-! ### Rows, each once -/

theorem collectD_l0_eq (width : Int) : ∀ (l ar : List (List Val)), ar.length + l.length ≤ 400 → collectD_l0 width l ar = .inl (ar ++ l) := by
 intro l
 induction l with
 | nil => intro ar h; simp [collectD_l0]
 | cons r l ih =>
  intro ar h
  simp only [List.length_cons] at h
  unfold collectD_l0
  rw [beq_eq_false_iff_ne.2 (by omega), cond_false, icopied_eq, ih _ (by simp only [List.length_append, List.length_cons, List.length_nil]; omega)]
  simp

theorem diffP_sublist {α : Type} {same : α → α → Bool} : ∀ (l : List α) (p : Option α), (diffP same p l).Sublist l := by
 intro l
 induction l with
 | nil => intro p; exact List.Sublist.slnil
 | cons y l ih =>
  intro p
  simp only [diffP]
  cases likeP same p y with
  | true => rw [cond_true]; exact (ih _).cons _
  | false => rw [cond_false]; exact (ih _).cons_cons _

theorem diffRows_sublist (rows : List (List Val)) : (diffRows rows).Sublist rows := diffP_sublist _ _

theorem srt_self {wd : Nat} {rows : List (List Val)} (h : RowsW wd rows) (hs : RSorted rows) : srtRows rows = rows := (srtRows_eq h (List.Perm.refl _) hs).symm

theorem collectD_eq {wd : Nat} (width : Int) {rows : List (List Val)} (h : RowsW wd rows) (hs : RSorted rows) (hn : rows.length ≤ 400) : collectD width rows = ⟨width, diffRows rows⟩ := by
 have hd := (diffRows_sublist rows).length_le
 unfold collectD
 rw [collectD_l0_eq _ _ _ (by simp only [List.length_nil]; omega), Sum.elim_inl, List.nil_append]
 show (⟨width, srtRows (diffRows rows)⟩ : Tab) = _
 rw [srt_self (h.sub fun r hr => (diffRows_sublist rows).mem hr) (List.Pairwise.sublist (diffRows_sublist rows) hs)]

theorem iDistinctRows_yes {t : Tab} (h : VT t) : iDistinctRows t = (⟨t.Width, diffRows t.Rows⟩, true) := by
 unfold iDistinctRows
 rw [ValidTable_iff.2 h, Bool.not_true, cond_false, show differentRowsF t.Rows = t.Rows from rfl, collectD_eq t.Width h.rowsW h.rsorted h.n4]

theorem iDistinctRows_no {t : Tab} (h : ¬ VT t) : iDistinctRows t = (⟨0, []⟩, false) := by
 unfold iDistinctRows
 cases e : ValidTable t with
 | true => exact absurd (ValidTable_iff.1 e) h
 | false => rfl

theorem distinctRows_l0_eq {wd : Nat} {t : Tab} (h : RowsW wd t.Rows) : ∀ (k i : Nat) (ar : List (List Val)), t.Rows.length - i < k → i ≤ t.Rows.length → distinctRows_l0 t k i ar = ar ++ diffP (fun x y => icompareRows x y == 0) (prevAt t.Rows i) (t.Rows.drop i) := by
 intro k
 induction k with
 | zero => intro i ar hk; omega
 | succ k ih =>
  intro i ar hk hi
  unfold distinctRows_l0
  by_cases hlt : i < t.Rows.length
  ·
   rw [decide_eq_true (by omega : ((i : Nat) : Int) < ((List.length t.Rows : Nat) : Int)), cond_true, List.drop_eq_getElem_cons hlt, getD_row hlt, copyRow_eq]
   have hpi : prevAt t.Rows (i + 1) = some t.Rows[i] := List.getElem?_eq_getElem hlt
   have e : (bif (((i : Nat) : Int) == 0) then true else ((compareRows (List.getD t.Rows (Int.toNat (((i : Nat) : Int) - 1)) []) t.Rows[i]) != 0)) = !(likeP (fun x y => icompareRows x y == 0) (prevAt t.Rows i) t.Rows[i]) := by
    cases i with
    | zero => rfl
    | succ i =>
     have hi' : i < t.Rows.length := by omega
     have hp : prevAt t.Rows (i + 1) = some t.Rows[i] := List.getElem?_eq_getElem hi'
     rw [hp, beq_eq_false_iff_ne.2 (by omega), cond_false, toNat_pred, Nat.add_sub_cancel, getD_row hi']
     have := cmpRows (h _ (List.getElem_mem hi')).1 (h _ (List.getElem_mem hlt)).1 (by rw [(h _ (List.getElem_mem hi')).2, (h _ (List.getElem_mem hlt)).2])
     show _ = !(icompareRows _ _ == 0)
     rw [this]
     rfl
   rw [e]
   simp only [diffP]
   cases likeP (fun x y => icompareRows x y == 0) (prevAt t.Rows i) t.Rows[i] with
   | true =>
    simp only [Bool.not_true, cond_false, cond_true]
    rw [ih _ _ (by omega) (by omega), hpi]
   | false =>
    simp only [Bool.not_false, cond_false, cond_true]
    rw [ih _ _ (by omega) (by omega), hpi, List.append_assoc]
    rfl
  ·
   rw [decide_eq_false (by omega), cond_false, List.drop_of_length_le (by omega)]
   simp [diffP]

theorem distinct_same (t : Tab) : iDistinctRows t = sDistinctRows t := by
 unfold sDistinctRows
 rw [vt_eq]
 by_cases h : VT t
 ·
  rw [iDistinctRows_yes h, ValidTable_iff.2 h, Bool.not_true, cond_false]
  have := distinctRows_l0_eq h.rowsW (t.Rows.length - 0 + 1) 0 [] (by omega) (Nat.zero_le _)
  rw [List.drop_zero, List.nil_append] at this
  unfold distinctRows
  dsimp only [Go.Am.andThen]
  rw [this]
  rfl
 ·
  rw [iDistinctRows_no h]
  cases e : ValidTable t with
  | true => exact absurd (ValidTable_iff.1 e) h
  | false => rfl

/-! ### Both tables' rows -/

end
end Go.Proofs.Ytjcjpeckfikfkaa
