/-
  A part of the proof of this claim (AyO): what functions of the program compute, and plain facts of that. No conditions.
-/
import Derived.Test.YtjcjpeckfikfkaaAyM
import Derived.Test.YtjcjpeckfikfkaaAwJ
set_option linter.all false
namespace Go.Proofs.Ytjcjpeckfikfkaa
open Go Go.Am
noncomputable section

theorem anyTable_len (r : Rdr) {width most : Int} (hw : 1 ≤ width ∧ width ≤ 6) (hm : 0 ≤ most ∧ most ≤ 99) : ((anyTable r width most).1.Rows.length : Int) ≤ most + 1 := by
 have hp := pick_ok (n := most + 1) r.b r.p (by omega)
 have a := anyTable_l0_p width hw.2 (Int.toNat (pick (Rdr.b r) (Rdr.p r) (most + 1)) + 1) (pick (Rdr.b r) (Rdr.p r) (most + 1)) (Rdr.b r) ((Rdr.p r) + 1) [] hp.1 RB.nil
 dsimp only [anyTable, Go.Am.andThen]
 generalize anyTable_l0 width (Int.toNat (pick (Rdr.b r) (Rdr.p r) (most + 1)) + 1) (pick (Rdr.b r) (Rdr.p r) (most + 1)) (Rdr.b r) ((Rdr.p r) + 1) [] = x at *
 obtain ⟨r0, p, rows⟩ := x
 simp only [List.length_nil] at a ⊢
 have b := anyTable_l1_p a.2.2.1 (rows.length - 0 + 1) 0 [] (Nat.le_refl _) RB.nil
 generalize anyTable_l1 rows (rows.length - 0 + 1) 0 [] = l at *
 cases (pick r0 p 20 == 0) with
 | true => simp only [cond_true]; omega
 | false =>
  cases (pick r0 p 20 == 1) with
  | true =>
   simp only [cond_true, cond_false]
   cases decide (0 < ((List.length l : Nat) : Int)) with
   | true => simp only [cond_true, List.length_append, List.length_cons, List.length_nil]; omega
   | false => simp only [cond_false]; omega
  | false =>
   cases (pick r0 p 20 == 2) with
   | true =>
    simp only [cond_true, cond_false]
    cases decide (0 < ((List.length l : Nat) : Int)) with
    | true => simp only [cond_true, List.length_set]; omega
    | false => simp only [cond_false]; omega
   | false => simp only [cond_false]; omega

theorem DrawIndexOf_len (code : List Int) : (DrawIndexOf code).1.Rows.length ≤ 8 := by
 have h0 := newReader_p code
 have hw := pick_ok (n := 2) (newReader code).b (newReader code).p (by decide)
 have := anyTable_len (Rdr.mk (newReader code).b ((newReader code).p + 1)) (width := 1 + pick (newReader code).b (newReader code).p 2) (most := 7) (by omega) (by decide)
 show (anyTable (Rdr.mk (newReader code).b ((newReader code).p + 1)) (1 + pick (newReader code).b (newReader code).p 2) 7).1.Rows.length ≤ 8
 omega

def nullAt (t : Tab) (col : Int) (i : Nat) : Bool := Val.Null (List.getD (List.getD (Tab.Rows t) i []) (Int.toNat col) Val.zero)

def nums (t : Tab) (col : Int) : Nat → Nat → List Int
 | 0, _ => []
 | f + 1, i => bif nullAt t col i then nums t col f (i + 1) else ((i : Nat) : Int) :: nums t col f (i + 1)

theorem nums_mem {t : Tab} {col : Int} : ∀ {f i : Nat} {x : Int}, x ∈ nums t col f i ↔ ∃ j : Nat, x = (j : Int) ∧ i ≤ j ∧ j < i + f ∧ nullAt t col j = false := by
 intro f
 induction f with
 | zero => intro i x; exact ⟨fun h => (by cases h), fun ⟨j, _, h1, h2, _⟩ => by omega⟩
 | succ f ih =>
  intro i x
  unfold nums
  cases hn : nullAt t col i with
  | true =>
   rw [cond_true, ih]
   constructor
   ·
    rintro ⟨j, h1, h2, h3, h4⟩
    exact ⟨j, h1, by omega, by omega, h4⟩
   ·
    rintro ⟨j, h1, h2, h3, h4⟩
    refine ⟨j, h1, ?_, by omega, h4⟩
    by_cases e : j = i
    ·
     subst e; rw [hn] at h4; cases h4
    ·
     omega
  | false =>
   rw [cond_false, List.mem_cons, ih]
   constructor
   ·
    rintro (h | ⟨j, h1, h2, h3, h4⟩)
    ·
     exact ⟨i, h, Nat.le_refl _, by omega, hn⟩
    ·
     exact ⟨j, h1, by omega, by omega, h4⟩
   ·
    rintro ⟨j, h1, h2, h3, h4⟩
    by_cases e : j = i
    ·
     subst e; exact .inl h1
    ·
     exact .inr ⟨j, h1, by omega, by omega, h4⟩

theorem nums_asc (t : Tab) (col : Int) : ∀ (f i : Nat), (nums t col f i).Pairwise (· < ·) := by
 intro f
 induction f with
 | zero => intro i; exact List.Pairwise.nil
 | succ f ih =>
  intro i
  unfold nums
  cases nullAt t col i with
  | true => exact ih (i + 1)
  | false =>
   rw [cond_false]
   refine List.Pairwise.cons (fun x hx => ?_) (ih (i + 1))
   obtain ⟨j, h1, h2, _⟩ := nums_mem.1 hx
   omega

theorem iIndexOf_l0_eq (t : Tab) (col : Int) : ∀ (k i : Nat) (l : List Int), t.Rows.length - i < k → iIndexOf_l0 t col k i l = l ++ nums t col (t.Rows.length - i) i := by
 intro k
 induction k with
 | zero => intro i l h; omega
 | succ k ih =>
  intro i l h
  unfold iIndexOf_l0
  by_cases hlt : i < t.Rows.length
  ·
   rw [decide_eq_true (by omega : ((i : Nat) : Int) < ((List.length (Tab.Rows t) : Nat) : Int)), cond_true, show t.Rows.length - i = (t.Rows.length - (i + 1)) + 1 by omega]
   show (bif !(nullAt t col i) then _ else _) = l ++ (bif nullAt t col i then _ else _)
   cases nullAt t col i with
   | true => exact ih (i + 1) l (by omega)
   | false =>
    rw [Bool.not_false, cond_true, cond_false, ih _ _ (by omega), List.append_assoc]
    rfl
  ·
   rw [decide_eq_false (by omega), cond_false, show t.Rows.length - i = 0 by omega]
   exact (List.append_nil _).symm

theorem iIndexOf_yes {t : Tab} {col : Int} (h : hasColumn t col = true) : iIndexOf t col = idxSort t col (nums t col t.Rows.length 0) := by
 unfold iIndexOf
 rw [h, Bool.not_true, cond_false]
 show idxSort t col (iIndexOf_l0 t col (t.Rows.length - 0 + 1) 0 []) = _
 rw [iIndexOf_l0_eq t col _ _ _ (by omega), List.nil_append, Nat.sub_zero]

theorem iIndexOf_mem {t : Tab} {col : Int} {x : Int} (h : x ∈ iIndexOf t col) : ∃ j : Nat, x = (j : Int) ∧ j < t.Rows.length ∧ nullAt t col j = false := by
 cases hc : hasColumn t col with
 | false =>
  unfold iIndexOf at h
  rw [hc] at h
  cases h
 | true =>
  rw [iIndexOf_yes hc] at h
  obtain ⟨j, h1, _, h3, h4⟩ := nums_mem.1 ((idxSort_perm t col _).mem_iff.1 h)
  exact ⟨j, h1, by omega, h4⟩

theorem nums_len (t : Tab) (col : Int) : ∀ (f i : Nat), (nums t col f i).length ≤ f := by
 intro f
 induction f with
 | zero => intro i; exact Nat.le_refl _
 | succ f ih =>
  intro i
  unfold nums
  have := ih (i + 1)
  cases nullAt t col i with
  | true => rw [cond_true]; omega
  | false => rw [cond_false, List.length_cons]; omega

theorem iIndexOf_len (t : Tab) (col : Int) : (iIndexOf t col).length ≤ t.Rows.length := by
 cases hc : hasColumn t col with
 | false =>
  unfold iIndexOf
  rw [hc]
  exact Nat.zero_le _
 | true =>
  rw [iIndexOf_yes hc, idxSort_len]
  exact nums_len t col _ 0

end
end Go.Proofs.Ytjcjpeckfikfkaa
