/-
  A part of the proof of this claim (AjN): what functions of the program compute, and plain facts of that. No conditions.
-/
import Derived.Test.YtpoohhjlpepmfaaAj9
set_option linter.all false
namespace Go.Proofs.Ytpoohhjlpepmfaa
open Go Go.Am

theorem VG.edges_take {g : Graph} (h : VG g) (n : Nat) : VG (Graph.mk g.Rows (List.take n g.Edges)) where
  n1 := h.n1
  n5 := h.n5
  e6 := by have := h.e6; simp only [List.length_take]; omega
  rows := h.rows
  edges := fun e he => h.edges e (List.mem_of_mem_take he)

theorem VG.edges_nil {g : Graph} (h : VG g) : VG (Graph.mk g.Rows []) where
  n1 := h.n1
  n5 := h.n5
  e6 := by simp
  rows := h.rows
  edges := by simp

/-- The size of a set is at most what it was before the edges. -/
theorem l1_le {g : Graph} (hV : VG g) {m : Int} : ∀ (k : Nat) (n : Int) (i : Nat), 0 ≤ n → subsetSize_l1 g m k n i ≤ n := by
  intro k
  induction k with
  | zero => intro n i h; exact Int.le_refl _
  | succ k ih =>
    intro n i h
    unfold subsetSize_l1
    by_cases hi : i < g.Edges.length
    · rw [lt_dec hi, cond_true]
      have he := hV.edges _ (getD_mem g.Edges i Edge.zero hi)
      have hd := divs h he.2.2.2.1
      cases (bif (has m (Edge.A (List.getD (Graph.Edges g) i Edge.zero))) then (has m (Edge.B (List.getD (Graph.Edges g) i Edge.zero))) else false) with
      | true =>
        simp only [cond_true]
        have := ih _ (i + 1) hd.1
        omega
      | false =>
        simp only [cond_false]
        exact ih _ _ h
    · rw [ge_dec hi, cond_false]
      exact Int.le_refl _

theorem l1_take {g : Graph} (hV : VG g) {m : Int} (h : Nat) : ∀ (k k2 : Nat) (n : Int) (i : Nat), 0 ≤ n → g.Edges.length - i < k → (List.take h g.Edges).length - i < k2 →
    subsetSize_l1 g m k n i ≤ subsetSize_l1 (Graph.mk g.Rows (List.take h g.Edges)) m k2 n i := by
  intro k
  induction k with
  | zero => intro k2 n i _ hk; omega
  | succ k ih =>
    intro k2 n i hn hk hk2
    cases k2 with
    | zero => omega
    | succ k2 =>
      by_cases hi : i < (List.take h g.Edges).length
      · have hi2 : i < g.Edges.length := by simp only [List.length_take] at hi; omega
        have e : List.getD (List.take h g.Edges) i Edge.zero = List.getD g.Edges i Edge.zero := by
          simp only [List.length_take] at hi
          simp only [List.getD_eq_getElem?_getD, List.getElem?_take]
          rw [if_pos (by omega)]
        rw [subsetSize_l1, subsetSize_l1]
        simp only [e]
        rw [lt_dec hi, lt_dec hi2, cond_true, cond_true]
        have he := hV.edges _ (getD_mem g.Edges i Edge.zero hi2)
        have hd := divs hn he.2.2.2.1
        cases (bif (has m (Edge.A (List.getD (Graph.Edges g) i Edge.zero))) then (has m (Edge.B (List.getD (Graph.Edges g) i Edge.zero))) else false) with
        | true =>
          simp only [cond_true]
          exact ih k2 _ (i + 1) hd.1 (by omega) (by omega)
        | false =>
          simp only [cond_false]
          exact ih k2 _ (i + 1) hn (by omega) (by omega)
      · have := l1_le hV (m := m) (k + 1) n i hn
        have e2 : subsetSize_l1 (Graph.mk g.Rows (List.take h g.Edges)) m (k2 + 1) n i = n := by
          unfold subsetSize_l1
          rw [ge_dec hi]
          rfl
        rw [e2]
        exact this

theorem l0_pos {g : Graph} (hV : VG g) {m : Int} : ∀ (k : Nat) (n : Int) (i : Nat), 1 ≤ n → 1 ≤ subsetSize_l0 g m k n i := by
  intro k
  induction k with
  | zero => intro n i h; exact h
  | succ k ih =>
    intro n i h
    unfold subsetSize_l0
    by_cases hi : i < g.Rows.length
    · rw [lt_dec hi, cond_true]
      have hr := hV.rows _ (getD_mem g.Rows i 0 hi)
      cases has m ((i : Nat) : Int) with
      | true =>
        simp only [cond_true]
        refine ih _ _ ?_
        have := Int.mul_le_mul h hr.1 (by decide) (by omega)
        simpa using this
      | false => simp only [cond_false]; exact ih _ _ h
    · rw [ge_dec hi, cond_false]
      exact h

theorem subsetSize_rows (rows : List Int) (e1 e2 : List Edge) (m : Int) : ∀ (k : Nat) (n : Int) (i : Nat), subsetSize_l0 (Graph.mk rows e1) m k n i = subsetSize_l0 (Graph.mk rows e2) m k n i := by
  intro k
  induction k with
  | zero => intro n i; rfl
  | succ k ih =>
    intro n i
    simp only [subsetSize_l0, ih]

theorem rows_same (g : Graph) (e : List Edge) (m : Int) (k : Nat) (n : Int) (i : Nat) : subsetSize_l0 (Graph.mk g.Rows e) m k n i = subsetSize_l0 g m k n i := subsetSize_rows g.Rows e g.Edges m k n i

theorem product_eq (code : List Int) : ∀ (k : Nat) (n : Int) (i : Nat), FnSubsetSize_l0 code k n i = subsetSize_l0 (DrawSubsetSize code).1 (DrawSubsetSize code).2 k n i := by
  intro k
  induction k with
  | zero => intro n i; rfl
  | succ k ih =>
    intro n i
    unfold FnSubsetSize_l0 subsetSize_l0
    rw [ih, ih]
    rfl

theorem SubsetSize_valid {g : Graph} {m : Int} (hV : VG g) (hr : inRange m 1 ((1 : Int) * 2 ^ g.Rows.length - 1) = true) : SubsetSize g m = subsetSize g m := by
  unfold SubsetSize
  rw [validGraph_iff.2 hV, hr]
  rfl

theorem sub_range {g : Graph} {m : Int} (h : ¬ SubsetSize g m < 0) : inRange m 1 ((1 : Int) * 2 ^ g.Rows.length - 1) = true := by
  unfold SubsetSize at h
  cases hc : (bif (!(validGraph g)) then true else (!(inRange m 1 ((1 : Int) * 2 ^ (List.length (Graph.Rows g)) - 1)))) with
  | true => rw [hc, cond_true] at h; exact absurd (by decide) h
  | false => exact not_neg (or_neg hc).2

theorem FnSubsetSize_law (code : List Int) : FnSubsetSize code = true := by
  unfold FnSubsetSize
  cases (decide (1048576 < ((List.length code : Nat) : Int))) with
  | true => rfl
  | false =>
    simp only [cond_false, iSubsetSize_eq, product_eq]
    generalize DrawSubsetSize code = d
    obtain ⟨g, m⟩ := d
    simp only
    cases hc : (bif (SubsetSize g m != SubsetSize g m) then true else (decide (SubsetSize g m < 0))) with
    | true => simp
    | false =>
      have hn := of_decide_eq_false (or_neg hc).2
      obtain ⟨hV, h1, h32⟩ := sub_valid hn
      have hr := sub_range hn
      simp only [cond_false, Go.Am.andThen]
      rw [SubsetSize_valid hV hr, SubsetSize_valid hV.edges_nil hr, SubsetSize_valid (hV.edges_take _) hr]
      have s := sSize_b hV (by omega : 0 ≤ m) h32
      have p := l0_pos hV (m := m) (g.Rows.length - 0 + 1) 1 0 (by decide)
      have e0 : subsetSize (Graph.mk g.Rows []) m = subsetSize_l0 g m (g.Rows.length - 0 + 1) 1 0 := by
        simp only [subsetSize, Go.Am.andThen]
        rw [rows_same g []]
        show (if 1 > subsetSize_l0 g m (g.Rows.length - 0 + 1) 1 0 then 1 else subsetSize_l0 g m (g.Rows.length - 0 + 1) 1 0) = _
        rw [if_neg (by omega)]
      have e1 : subsetSize g m ≤ subsetSize (Graph.mk g.Rows (List.take (Int.toNat (((List.length (Graph.Edges g) : Nat) : Int) / 2)) g.Edges)) m := by
        have := l1_take hV (m := m) (Int.toNat (((List.length (Graph.Edges g) : Nat) : Int) / 2)) (g.Edges.length - 0 + 1) ((List.take (Int.toNat (((List.length (Graph.Edges g) : Nat) : Int) / 2)) g.Edges).length - 0 + 1) (subsetSize_l0 g m (g.Rows.length - 0 + 1) 1 0) 0 (by omega) (by omega) (by omega)
        simp only [subsetSize, Go.Am.andThen]
        rw [rows_same g (List.take (Int.toNat (((List.length (Graph.Edges g) : Nat) : Int) / 2)) g.Edges)]
        split <;> split <;> omega
      rw [e0]
      simp only [decide_eq_true s.1, decide_eq_true e1]
      simp

end Go.Proofs.Ytpoohhjlpepmfaa
