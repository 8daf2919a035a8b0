/-
  A part of the proof of this claim (AyG): what functions of the program compute, and plain facts of that. No conditions.
-/
import Derived.Test.YtjcjpeckfikfkaaAwL
import Derived.Test.YtjcjpeckfikfkaaAwE
import Derived.Test.YtjcjpeckfikfkaaAwJ
import Derived.Test.YtjcjpeckfikfkaaAyD
set_option linter.all false
namespace Go.Proofs.Ytjcjpeckfikfkaa
open Go Go.Am
noncomputable section

/-! ### Equal rows, counted -/

theorem getD_row {rows : List (List Val)} {i : Nat} (h : i < rows.length) : rows.getD i [] = rows[i] := by
 rw [List.getD_eq_getElem?_getD, List.getElem?_eq_getElem h]
 rfl

theorem VT.rowsW {t : Tab} (h : VT t) : RowsW t.Width.toNat t.Rows := RowsW.of_getD fun j hj => by
 have := h.rows j hj
 refine ⟨this.1, ?_⟩
 have h2 : (((t.Rows.getD j []).length : Nat) : Int) = t.Width := this.2
 omega

theorem VT.rsorted {t : Tab} (h : VT t) : RSorted t.Rows := by
 have hw := h.rowsW
 -- neighbours are in order, so all are
 have nb : ∀ i (hi : i + 1 < t.Rows.length), rlt t.Rows[i + 1] t.Rows[i] = false := fun i hi => by
  have := h.sorted (i + 1) hi (by omega)
  rw [show i + 1 - 1 = i by omega] at this
  have h1 : compareRows (t.Rows.getD i []) (t.Rows.getD (i + 1) []) ≤ 0 := this
  rw [getD_row hi, getD_row (by omega)] at h1
  exact (cmp_le (hw _ (List.getElem_mem _)) (hw _ (List.getElem_mem _))).1 h1
 unfold RSorted
 rw [List.pairwise_iff_getElem]
 have key : ∀ d i (hi : i + d + 1 < t.Rows.length), rlt t.Rows[i + d + 1] t.Rows[i] = false := by
  intro d
  induction d with
  | zero => intro i hi; exact nb i hi
  | succ d ih =>
   intro i hi
   have h1 := ih i (by omega)
   have h2 := nb (i + d + 1) (by omega)
   exact rle_trans h1 h2
 intro i j hi hj hij
 have := key (j - i - 1) i (by omega)
 have e : i + (j - i - 1) + 1 = j := by omega
 simp only [e] at this
 exact this

end
end Go.Proofs.Ytjcjpeckfikfkaa


namespace Go.Proofs.Ytjcjpeckfikfkaa
open Go Go.Am
noncomputable section

/-! ### Rows, each once -/

theorem srt_self {wd : Nat} {rows : List (List Val)} (h : RowsW wd rows) (hs : RSorted rows) : srtRows rows = rows := (srtRows_eq h (List.Perm.refl _) hs).symm

/-! ### Both tables' rows -/

end
end Go.Proofs.Ytjcjpeckfikfkaa


namespace Go.Proofs.Ytjcjpeckfikfkaa
open Go Go.Am
noncomputable section

theorem iScan_l0_eq : ∀ (l ar : List (List Val)), iScanRange_l0 l ar = ar ++ l := by
 intro l
 induction l with
 | nil => intro ar; exact (List.append_nil _).symm
 | cons x l ih =>
  intro ar
  unfold iScanRange_l0
  rw [ih, icopied_eq, List.append_assoc]
  rfl

theorem kept_sublist (rows : List (List Val)) (r : Rng) (col : Int) : (keptRows rows r col).Sublist rows := List.filter_sublist

theorem iScan_yes {t : Tab} {col : Int} (h : VT t ∧ 0 ≤ col ∧ col < t.Width) (r : Rng) : iScanRange t col r = (⟨t.Width, keptRows t.Rows r col⟩, true) := by
 unfold iScanRange
 rw [hasColumn_iff.2 h, Bool.not_true, cond_false]
 show (Tab.mk t.Width (srtRows (iScanRange_l0 (keptRows t.Rows r col) [])), true) = _
 rw [iScan_l0_eq, List.nil_append, srt_self (h.1.rowsW.sub fun r hr => kept_mem hr) (List.Pairwise.sublist (kept_sublist _ _ _) h.1.rsorted)]

theorem iScan_no {t : Tab} {col : Int} (h : ¬ (VT t ∧ 0 ≤ col ∧ col < t.Width)) (r : Rng) : iScanRange t col r = (⟨0, []⟩, false) := by
 unfold iScanRange
 cases e : hasColumn t col with
 | true => exact absurd (hasColumn_iff.1 e) h
 | false => rfl

theorem sScan_l0_eq (t : Tab) (col : Int) (r : Rng) : ∀ (k i : Nat) (ar : List (List Val)), t.Rows.length - i < k → sScanRange_l0 t col r k i ar = ar ++ keptRows (t.Rows.drop i) r col := by
 intro k
 induction k with
 | zero => intro i ar hk; omega
 | succ k ih =>
  intro i ar hk
  unfold sScanRange_l0
  by_cases hlt : i < t.Rows.length
  ·
   rw [decide_eq_true (by omega : ((i : Nat) : Int) < ((List.length t.Rows : Nat) : Int)), cond_true, List.drop_eq_getElem_cons hlt, getD_row hlt]
   have e : (bif (!(Val.Null (List.getD t.Rows[i] (Int.toNat col) Val.zero))) then (inRange (Val.N (List.getD t.Rows[i] (Int.toNat col) Val.zero)) (Rng.Low r) (Rng.High r)) else false) = keepF t.Rows[i] r col := by
    unfold keepF rngHas inRange
    cases Val.Null (List.getD t.Rows[i] (Int.toNat col) Val.zero) <;> simp
   rw [e]
   unfold keptRows
   cases hk2 : keepF t.Rows[i] r col with
   | true =>
    rw [cond_true, ih _ _ (by omega), List.filter_cons_of_pos (p := fun row => keepF row r col) hk2, List.append_assoc]
    rfl
   | false =>
    rw [cond_false, ih _ _ (by omega), List.filter_cons_of_neg (p := fun row => keepF row r col) (by show ¬ keepF t.Rows[i] r col = true; rw [hk2]; exact Bool.false_ne_true)]
    rfl
  ·
   rw [decide_eq_false (by omega), cond_false, List.drop_of_length_le (by omega)]
   exact (List.append_nil _).symm

theorem scan_same (t : Tab) (col : Int) (r : Rng) : iScanRange t col r = sScanRange t col r := by
 by_cases h : VT t ∧ 0 ≤ col ∧ col < t.Width
 ·
  rw [iScan_yes h]
  unfold sScanRange
  rw [validTable_iff.2 h.1, inRange_iff.2 ⟨h.2.1, by have := h.2.2; omega⟩, Bool.not_true, cond_false, cond_false]
  show _ = (tableOf t.Width (sScanRange_l0 t col r (t.Rows.length - 0 + 1) 0 []), true)
  have hw : RowsW t.Width.toNat (keptRows t.Rows r col) := h.1.rowsW.sub fun r hr => kept_mem hr
  rw [sScan_l0_eq t col r _ _ _ (by omega), List.nil_append, List.drop_zero, tableOf_eq t.Width hw, if_pos (Nat.le_trans (kept_sublist _ _ _).length_le h.1.n4), srt_self hw (List.Pairwise.sublist (kept_sublist _ _ _) h.1.rsorted)]
 ·
  rw [iScan_no h]
  unfold sScanRange
  cases e : (bif (!(validTable t)) then true else (!(inRange col 0 ((Tab.Width t) - 1)))) with
  | true => rfl
  | false =>
   have e1 := or_neg e
   have e2 := inRange_iff.1 (not_neg e1.2)
   exact absurd ⟨validTable_iff.1 (not_neg e1.1), e2.1, by omega⟩ h

end
end Go.Proofs.Ytjcjpeckfikfkaa
