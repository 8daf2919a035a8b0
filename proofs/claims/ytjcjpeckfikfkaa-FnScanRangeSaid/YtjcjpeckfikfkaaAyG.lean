/-
  A part of the proof of this claim (AyG): what functions of the program compute, and plain facts of that. No conditions.
-/
import Derived.Test.YtjcjpeckfikfkaaAyF
set_option linter.all false
namespace Go.Proofs.Ytjcjpeckfikfkaa
open Go Go.Am
noncomputable section

theorem iScan_l0_eq : ∀ (l ar : List (List Val)), iScanRange_l0 l ar = ar ++ l := by
 intro l
 induction l with
 | nil => intro ar; exact (List.append_nil _).symm
 | cons x l ih =>
  intro ar
  unfold iScanRange_l0
  rw [ih, icopied_eq, List.append_assoc]
  rfl

theorem kept_sublist (rows : List (List Val)) (r : Rng) (col : Int) : (keptRows rows r col).Sublist rows := List.filter_sublist

theorem iScan_yes {t : Tab} {col : Int} (h : VT t ∧ 0 ≤ col ∧ col < t.Width) (r : Rng) : iScanRange t col r = (⟨t.Width, keptRows t.Rows r col⟩, true) := by
 unfold iScanRange
 rw [hasColumn_iff.2 h, Bool.not_true, cond_false]
 show (Tab.mk t.Width (srtRows (iScanRange_l0 (keptRows t.Rows r col) [])), true) = _
 rw [iScan_l0_eq, List.nil_append, srt_self (h.1.rowsW.sub fun r hr => kept_mem hr) (List.Pairwise.sublist (kept_sublist _ _ _) h.1.rsorted)]

theorem iScan_no {t : Tab} {col : Int} (h : ¬ (VT t ∧ 0 ≤ col ∧ col < t.Width)) (r : Rng) : iScanRange t col r = (⟨0, []⟩, false) := by
 unfold iScanRange
 cases e : hasColumn t col with
 | true => exact absurd (hasColumn_iff.1 e) h
 | false => rfl

theorem sScan_l0_eq (t : Tab) (col : Int) (r : Rng) : ∀ (k i : Nat) (ar : List (List Val)), t.Rows.length - i < k → sScanRange_l0 t col r k i ar = ar ++ keptRows (t.Rows.drop i) r col := by
 intro k
 induction k with
 | zero => intro i ar hk; omega
 | succ k ih =>
  intro i ar hk
  unfold sScanRange_l0
  by_cases hlt : i < t.Rows.length
  ·
   rw [decide_eq_true (by omega : ((i : Nat) : Int) < ((List.length t.Rows : Nat) : Int)), cond_true, List.drop_eq_getElem_cons hlt, getD_row hlt]
   have e : (bif (!(Val.Null (List.getD t.Rows[i] (Int.toNat col) Val.zero))) then (inRange (Val.N (List.getD t.Rows[i] (Int.toNat col) Val.zero)) (Rng.Low r) (Rng.High r)) else false) = keepF t.Rows[i] r col := by
    unfold keepF rngHas inRange
    cases Val.Null (List.getD t.Rows[i] (Int.toNat col) Val.zero) <;> simp
   rw [e]
   unfold keptRows
   cases hk2 : keepF t.Rows[i] r col with
   | true =>
    rw [cond_true, ih _ _ (by omega), List.filter_cons_of_pos (p := fun row => keepF row r col) hk2, List.append_assoc]
    rfl
   | false =>
    rw [cond_false, ih _ _ (by omega), List.filter_cons_of_neg (p := fun row => keepF row r col) (by show ¬ keepF t.Rows[i] r col = true; rw [hk2]; exact Bool.false_ne_true)]
    rfl
  ·
   rw [decide_eq_false (by omega), cond_false, List.drop_of_length_le (by omega)]
   exact (List.append_nil _).symm

theorem scan_same (t : Tab) (col : Int) (r : Rng) : iScanRange t col r = sScanRange t col r := by
 by_cases h : VT t ∧ 0 ≤ col ∧ col < t.Width
 ·
  rw [iScan_yes h]
  unfold sScanRange
  rw [validTable_iff.2 h.1, inRange_iff.2 ⟨h.2.1, by have := h.2.2; omega⟩, Bool.not_true, cond_false, cond_false]
  show _ = (tableOf t.Width (sScanRange_l0 t col r (t.Rows.length - 0 + 1) 0 []), true)
  have hw : RowsW t.Width.toNat (keptRows t.Rows r col) := h.1.rowsW.sub fun r hr => kept_mem hr
  rw [sScan_l0_eq t col r _ _ _ (by omega), List.nil_append, List.drop_zero, tableOf_eq t.Width hw, if_pos (Nat.le_trans (kept_sublist _ _ _).length_le h.1.n4), srt_self hw (List.Pairwise.sublist (kept_sublist _ _ _) h.1.rsorted)]
 ·
  rw [iScan_no h]
  unfold sScanRange
  cases e : (bif (!(validTable t)) then true else (!(inRange col 0 ((Tab.Width t) - 1)))) with
  | true => rfl
  | false =>
   have e1 := or_neg e
   have e2 := inRange_iff.1 (not_neg e1.2)
   exact absurd ⟨validTable_iff.1 (not_neg e1.1), e2.1, by omega⟩ h

theorem vt_kept {t : Tab} (h : VT t) (r : Rng) (col : Int) : VT ⟨t.Width, keptRows t.Rows r col⟩ := by
 have hf : Fits t.Width (keptRows t.Rows r col) := ⟨h.w1, h.w6, Nat.le_trans (kept_sublist _ _ _).length_le h.n4, h.rowsW.sub fun r hr => kept_mem hr⟩
 have := vt_srt hf
 rw [srt_self hf.rows (List.Pairwise.sublist (kept_sublist _ _ _) h.rsorted)] at this
 exact this

theorem has_none {r : Rng} (h : r.High < r.Low) (row : List Val) (col : Int) : keepF row r col = false := by
 unfold keepF rngHas
 cases Val.Null (List.getD row (Int.toNat col) Val.zero) with
 | true => rfl
 | false =>
  simp only [Bool.not_false, cond_true]
  by_cases h1 : r.Low ≤ Val.N (List.getD row (Int.toNat col) Val.zero)
  ·
   rw [decide_eq_true h1, cond_true, decide_eq_false (by omega)]
  ·
   rw [decide_eq_false h1, cond_false]

theorem has_split {lo mid hi : Int} (h1 : lo ≤ mid) (h2 : mid ≤ hi) (row : List Val) (col : Int) : keepF row ⟨lo, hi⟩ col = (keepF row ⟨lo, mid⟩ col || keepF row ⟨mid + 1, hi⟩ col) ∧ (keepF row ⟨lo, mid⟩ col && keepF row ⟨mid + 1, hi⟩ col) = false := by
 unfold keepF rngHas
 cases Val.Null (List.getD row (Int.toNat col) Val.zero) with
 | true => exact ⟨rfl, rfl⟩
 | false =>
  simp only [Bool.not_false, cond_true]
  generalize Val.N (List.getD row (Int.toNat col) Val.zero) = n
  by_cases q1 : lo ≤ n <;> by_cases q2 : n ≤ mid <;> by_cases q3 : mid + 1 ≤ n <;> by_cases q4 : n ≤ hi <;> simp [q1, q2, q3, q4] <;> omega

theorem kept_split {lo mid hi : Int} (h1 : lo ≤ mid) (h2 : mid ≤ hi) (col : Int) : ∀ rows : List (List Val), (keptRows rows ⟨lo, mid⟩ col ++ keptRows rows ⟨mid + 1, hi⟩ col).Perm (keptRows rows ⟨lo, hi⟩ col) := by
 intro rows
 unfold keptRows
 induction rows with
 | nil => exact List.Perm.refl _
 | cons x l ih =>
  obtain ⟨q1, q2⟩ := has_split h1 h2 x col
  simp only [List.filter_cons, q1]
  cases ha : keepF x ⟨lo, mid⟩ col with
  | true =>
   rw [ha, Bool.true_and] at q2
   simp only [q2, Bool.true_or, if_true, Bool.false_eq_true, if_false, List.cons_append]
   exact ih.cons _
  | false =>
   cases hb : keepF x ⟨mid + 1, hi⟩ col with
   | true =>
    simp only [Bool.false_or, if_true, Bool.false_eq_true, if_false]
    exact List.perm_middle.trans (ih.cons _)
   | false =>
    simp only [Bool.false_or, Bool.false_eq_true, if_false]
    exact ih

theorem FnScanRange_law (code cut : List Int) : FnScanRange code cut = true := by
 unfold FnScanRange
 cases (bif (decide (1048576 < ((List.length code : Nat) : Int))) then true else (decide (1048576 < ((List.length cut : Nat) : Int)))) with
 | true => rfl
 | false =>
  rw [cond_false, ← scan_same, bne_self_eq_false, beq_self_eq_true, equalTables_self]
  simp only [Bool.not_true, cond_false, cond_true]
  by_cases h : VT (DrawScanRange code).1 ∧ 0 ≤ (DrawScanRange code).2.1 ∧ (DrawScanRange code).2.1 < (DrawScanRange code).1.Width
  ·
   simp only [iScan_yes h]
   generalize (DrawScanRange code).1 = t at *
   generalize (DrawScanRange code).2.1 = col at *
   generalize (DrawScanRange code).2.2 = r at *
   rw [Bool.not_true, cond_false]
   by_cases hr : r.High < r.Low
   ·
    rw [decide_eq_true hr, cond_true]
    have : keptRows t.Rows r col = [] := List.filter_eq_nil_iff.2 fun x _ => by rw [has_none hr]; exact Bool.false_ne_true
    rw [this]
    rfl
   ·
    rw [decide_eq_false hr, cond_false, cond_true, cond_true]
    have m1 := Int.emod_nonneg ((List.length cut : Nat) : Int) (b := r.High - r.Low + 1) (by omega)
    have m2 := Int.emod_lt_of_pos ((List.length cut : Nat) : Int) (b := r.High - r.Low + 1) (by omega)
    generalize ((List.length cut : Nat) : Int) % (r.High - r.Low + 1) = m at *
    obtain ⟨lo, hi⟩ := r
    simp only at *
    have hp := kept_split (lo := lo) (mid := lo + m) (hi := hi) (by omega) (by omega) col t.Rows
    have hw : RowsW t.Width.toNat (keptRows t.Rows ⟨lo, hi⟩ col) := h.1.rowsW.sub fun r hr => kept_mem hr
    have hn : (keptRows t.Rows ⟨lo, lo + m⟩ col).length + (keptRows t.Rows ⟨lo + m + 1, hi⟩ col).length ≤ 400 := by
     have := hp.length_eq
     rw [List.length_append] at this
     rw [this]
     exact Nat.le_trans (kept_sublist _ _ _).length_le h.1.n4
    have hu := iUnionAll_yes (vt_kept h.1 ⟨lo, lo + m⟩ col) (vt_kept h.1 ⟨lo + m + 1, hi⟩ col) rfl
    rw [if_pos hn] at hu
    rw [hu]
    simp only [cond_true]
    rw [srtRows_congr hw hp, srt_self hw (List.Pairwise.sublist (kept_sublist _ _ _) h.1.rsorted), equalTables_self]
  ·
   simp only [iScan_no h]
   rfl

end
end Go.Proofs.Ytjcjpeckfikfkaa
