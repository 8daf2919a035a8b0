/-
  A part of the proof of this claim (Aw7): what functions of the program compute, and plain facts of that. No conditions.
-/
import Derived.Test.YtjcjpeckfikfkaaAw2
import Derived.Test.YtjcjpeckfikfkaaAwT
import Derived.Test.YtjcjpeckfikfkaaAnJ
import Derived.WalkKit
import Derived.TacticsIn
import Derived.BigFrameIn
set_option linter.all false
namespace Go.Proofs.Ytjcjpeckfikfkaa
open Go Go.Am
open List (length getD)
noncomputable section

theorem or_bif {α : Type} (a b : Bool) (x y : α) : (bif a then x else bif b then x else y) = bif (bif a then true else b) then x else y := by
 cases a <;> rfl

def rowAt (t : Tab) (i : Nat) : List Val := getD (Tab.Rows t) i []

structure VT (t : Tab) : Prop where
 w1 : 1 ≤ t.Width
 w6 : t.Width ≤ 6
 n4 : t.Rows.length ≤ 400
 rows : ∀ i < t.Rows.length, VR (rowAt t i) ∧ ((rowAt t i).length : Int) = t.Width
 sorted : ∀ i < t.Rows.length, 0 < i → compareRows (rowAt t (i - 1)) (rowAt t i) ≤ 0

theorem toNat_pred (i : Nat) : Int.toNat ((i : Int) - 1) = i - 1 := by omega

theorem ValidTable_iff {t : Tab} : ValidTable t = true ↔ VT t := by
 unfold ValidTable
 cases h : (bif (!(validWidth (Tab.Width t))) then true else (decide (400 < (length (Tab.Rows t) : Int)))) with
 | true =>
  simp only [cond_true, Bool.false_eq_true, false_iff]; rintro ⟨h1, h2, h3, _, _⟩; rcases or_pos h with h | h
  · rw [validWidth_iff.2 ⟨h1, h2⟩] at h; cases h
  · have := of_decide_eq_true h; omega
 | false =>
  have h := or_neg h; have hw := validWidth_iff.1 (not_neg h.1); have hn := of_decide_eq_false h.2; simp only [cond_false]; rcases all_loop (ValidTable_l0 t) t.Rows.length (fun i => bif (bif ((((rowAt t i).length : Nat) : Int) != (Tab.Width t)) then true else (!(ivalidRow (rowAt t i)))) then true else (bif (decide (0 < (i : Int))) then (decide (0 < (icompareRows (rowAt t (Int.toNat ((i : Int) - 1))) (rowAt t i)))) else false)) (fun k i => by rw [← or_bif]; rfl) (t.Rows.length - 0 + 1) 0 (by omega) with ⟨h1, h2⟩ | ⟨h1, j, h2, h3, h4⟩
  ·
   rw [h1]; simp only [Sum.elim_inl, true_iff]
   have hr : ∀ i < t.Rows.length, VR (rowAt t i) ∧ ((rowAt t i).length : Int) = t.Width := fun i hi => by
    have := or_neg (or_neg (h2 i (by omega) hi)).1; exact ⟨ivalidRow_iff.1 (not_neg this.2), by simpa using this.1⟩
   refine ⟨by omega, by omega, by omega, hr, fun i hi h0 => ?_⟩; have := (or_neg (h2 i (by omega) hi)).2
   rw [show decide (0 < (i : Int)) = true by simp; exact h0, cond_true, toNat_pred] at this
   have := of_decide_eq_false this
   rw [cmpRows (hr _ (by omega)).1 (hr _ hi).1 (by have := (hr _ hi).2; have := (hr (i - 1) (by omega)).2; omega)] at this
   omega
  ·
   rw [h1]; simp only [Sum.elim_inr, Bool.false_eq_true, false_iff]; rintro ⟨_, _, _, hr, hs⟩; rcases or_pos h4 with h | h
   ·
    rcases or_pos h with h | h
    · have := (hr j h3).2; simp at h; omega
    · rw [ivalidRow_iff.2 (hr j h3).1] at h; cases h
   · have h := and_pos h; have h0 := of_decide_eq_true h.1; have h5 := of_decide_eq_true h.2; have := hs j h3 (by omega); rw [toNat_pred, cmpRows (hr _ (by omega)).1 (hr _ h3).1 (by have := (hr _ h3).2; have := (hr (j - 1) (by omega)).2; omega)] at h5; omega

theorem validTable_iff {t : Tab} : validTable t = true ↔ VT t := by
 unfold validTable; rcases all_loop (validTable_l0 t) t.Rows.length (fun i => bif (bif (!(validRow (rowAt t i))) then true else ((((rowAt t i).length : Nat) : Int) != (Tab.Width t))) then true else (bif (decide (0 < (i : Int))) then (decide (0 < (compareRows (rowAt t (Int.toNat ((i : Int) - 1))) (rowAt t i)))) else false)) (fun k i => rfl) (t.Rows.length - 0 + 1) 0 (by omega) with ⟨h1, h2⟩ | ⟨h1, j, h2, h3, h4⟩
 ·
  rw [h1]; simp only [Sum.elim_inl]
  have hr : ∀ i < t.Rows.length, VR (rowAt t i) ∧ ((rowAt t i).length : Int) = t.Width := fun i hi => by
   have := or_neg (or_neg (h2 i (by omega) hi)).1; exact ⟨validRow_iff.1 (not_neg this.1), by simpa using this.2⟩
  have hs : ∀ i < t.Rows.length, 0 < i → compareRows (rowAt t (i - 1)) (rowAt t i) ≤ 0 := fun i hi h0 => by
   have := (or_neg (h2 i (by omega) hi)).2
   rw [show decide (0 < (i : Int)) = true by simp; exact h0, cond_true, toNat_pred] at this
   have := of_decide_eq_false this
   omega
  constructor
  · intro h; have h := and_pos h; have hw := inRange_iff.1 h.1; have := of_decide_eq_true h.2; exact ⟨hw.1, hw.2, by omega, hr, hs⟩
  · rintro ⟨h1, h2, h3, _, _⟩; rw [inRange_iff.2 ⟨h1, h2⟩, cond_true]; simp; omega
 ·
  rw [h1]; simp only [Sum.elim_inr, Bool.false_eq_true, false_iff]; rintro ⟨_, _, _, hr, hs⟩; rcases or_pos h4 with h | h
  ·
   rcases or_pos h with h | h
   · rw [validRow_iff.2 (hr j h3).1] at h; cases h
   · have := (hr j h3).2; simp at h; omega
  · have h := and_pos h; have h0 := of_decide_eq_true h.1; have h5 := of_decide_eq_true h.2; have := hs j h3 (by omega); rw [toNat_pred] at h5; omega

end
end Go.Proofs.Ytjcjpeckfikfkaa


namespace Go.Proofs.Ytjcjpeckfikfkaa
open Go Go.Am
open List (length)
noncomputable section

/-! ### The order of rows -/

theorem VR.mem {r : List Val} (h : VR r) : ∀ v ∈ r, VV v := by
 intro v hv; obtain ⟨i, hi, rfl⟩ := List.mem_iff_getElem.1 hv; have := h.vs i hi
 rwa [List.getD_eq_getElem?_getD, List.getElem?_eq_getElem hi] at this

def RowsW (wd : Nat) (rows : List (List Val)) : Prop := ∀ r ∈ rows, VR r ∧ r.length = wd
def RowsOK (rows : List (List Val)) : Prop := ∃ wd, RowsW wd rows

theorem RowsW.sub {wd : Nat} {a b : List (List Val)} (h : RowsW wd b) (hs : ∀ r ∈ a, r ∈ b) : RowsW wd a := fun r hr => h r (hs r hr)
theorem RowsOK.sub {a b : List (List Val)} (h : RowsOK b) (hs : ∀ r ∈ a, r ∈ b) : RowsOK a := by
 obtain ⟨wd, h⟩ := h; exact ⟨wd, h.sub hs⟩
theorem RowsOK.len {a : List (List Val)} (h : RowsOK a) {r : List Val} (hr : r ∈ a) : 1 ≤ r.length ∧ r.length ≤ 6 := by
 obtain ⟨wd, h⟩ := h; exact ⟨(h r hr).1.n1, (h r hr).1.n6⟩
end
end Go.Proofs.Ytjcjpeckfikfkaa


namespace Go.Proofs.Ytjcjpeckfikfkaa
open Go Go.Am
open Go.Am.AW (seq r1U ret kpU cdE r0U r1 meet block rS bk exit lpB)
open List (length getD)
noncomputable section

theorem getD_mem_row {rows : List (List Val)} {r : List Val} (h : r ∈ rows) : ∃ i, i < rows.length ∧ rows.getD i [] = r := by
 obtain ⟨i, hi, rfl⟩ := List.mem_iff_getElem.1 h; exact ⟨i, hi, by rw [List.getD_eq_getElem?_getD, List.getElem?_eq_getElem hi]; rfl⟩

end
end Go.Proofs.Ytjcjpeckfikfkaa
