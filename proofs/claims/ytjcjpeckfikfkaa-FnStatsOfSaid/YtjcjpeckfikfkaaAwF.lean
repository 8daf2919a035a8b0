/-
  A part of the proof of this claim (AwF): what functions of the program compute, and plain facts of that. No conditions.
-/
import Derived.Test.YtjcjpeckfikfkaaAwD
set_option linter.all false
namespace Go.Proofs.Ytjcjpeckfikfkaa
open Go Go.Am
open List (length set)
noncomputable section

theorem anyTable_l0_p (width : Int) (hw : width ≤ 6) : ∀ (k : Nat) (n : Int) (r0 : List Int) (p : Int) (rows : List (List Val)), 0 ≤ n → RB rows → p ≤ (anyTable_l0 width k n r0 p rows).2.1 ∧ (anyTable_l0 width k n r0 p rows).2.1 ≤ p + 300 * n ∧
  RB (anyTable_l0 width k n r0 p rows).2.2 ∧ ((anyTable_l0 width k n r0 p rows).2.2.length : Int) ≤ rows.length + n := by
 intro k
 induction k with
 | zero => intro n r0 p rows hn hr; exact ⟨Int.le_refl _, by show p ≤ p + _; omega, hr, by show (rows.length : Int) ≤ _; omega⟩
 | succ k ih =>
  intro n r0 p rows hn hr; unfold anyTable_l0; by_cases h : 0 < n
  ·
   rw [decide_eq_true h, cond_true]; have hp := randomRow_p (Rdr.mk r0 p) (width := width) (by omega); simp only at hp; have := ih (n - 1) (Rdr.b ((randomRow (Rdr.mk r0 p) width).2)) (Rdr.p ((randomRow (Rdr.mk r0 p) width).2)) (rows ++ ([((randomRow (Rdr.mk r0 p) width).1)] : List (List Val))) (by omega) (hr.add (by omega))
   simp only [List.length_append, List.length_cons, List.length_nil] at this
   exact ⟨by omega, by omega, this.2.2.1, by omega⟩
  · rw [decide_eq_false h, cond_false]; exact ⟨Int.le_refl _, by show p ≤ p + _; omega, hr, by show (rows.length : Int) ≤ _; omega⟩

theorem anyTable_l1_p {rows : List (List Val)} (h : RB rows) : ∀ (k i : Nat) (a : List (List Val)), a.length ≤ i → RB a → RB (anyTable_l1 rows k i a) ∧ (anyTable_l1 rows k i a).length ≤ max i rows.length := by
 intro k
 induction k with
 | zero => intro i a hi ha; exact ⟨ha, by show a.length ≤ _; omega⟩
 | succ k ih =>
  intro i a hi ha; unfold anyTable_l1; by_cases hlt : (i : Int) < (length rows : Int)
  · rw [decide_eq_true hlt, cond_true]; have := ih (i + 1) _ (by rw [insertRow_len]; omega) (ha.insert (h i (by omega))); exact ⟨this.1, by omega⟩
  · rw [decide_eq_false hlt, cond_false]; exact ⟨ha, by omega⟩

structure Drawn (t : Tab) : Prop where
 rb : RB t.Rows
 len : t.Rows.length ≤ 200

theorem anyTable_p (r : Rdr) {width most : Int} (hw : 1 ≤ width ∧ width ≤ 6) (hm : 0 ≤ most ∧ most ≤ 99) : (r.p ≤ (anyTable r width most).2.p ∧ (anyTable r width most).2.p ≤ r.p + 40000) ∧ Drawn (anyTable r width most).1 := by
 have hp := pick_ok (n := most + 1) r.b r.p (by omega); have a := anyTable_l0_p width hw.2 (Int.toNat (pick (Rdr.b r) (Rdr.p r) (most + 1)) + 1) (pick (Rdr.b r) (Rdr.p r) (most + 1)) (Rdr.b r) ((Rdr.p r) + 1) [] hp.1 RB.nil; dsimp only [anyTable, andThen]; generalize anyTable_l0 width (Int.toNat (pick (Rdr.b r) (Rdr.p r) (most + 1)) + 1) (pick (Rdr.b r) (Rdr.p r) (most + 1)) (Rdr.b r) ((Rdr.p r) + 1) [] = x at *; obtain ⟨r0, p, rows⟩ := x; simp only [List.length_nil] at a ⊢; have b := anyTable_l1_p a.2.2.1 (rows.length - 0 + 1) 0 [] (Nat.le_refl _) RB.nil; generalize anyTable_l1 rows (rows.length - 0 + 1) 0 [] = l at *; have hq := anyRow_p (Rdr.mk r0 (p + 1)) (width := width) hw.2; have hn := (anyRow_len (Rdr.mk r0 (p + 1)) (width := width) hw.2); simp only at hq
 cases (pick r0 p 20 == 0) with
 | true => simp only [cond_true]; exact ⟨by omega, b.1, by show l.length ≤ 200; omega⟩
 | false =>
  cases (pick r0 p 20 == 1) with
  | true =>
   simp only [cond_true, cond_false]; by_cases h : 0 < (length l : Int)
   · rw [decide_eq_true h]; simp only [cond_true]; exact ⟨by omega, b.1.add (b.1 0 (by omega)), by show (l ++ [_]).length ≤ 200; simp only [List.length_append, List.length_cons, List.length_nil]; omega⟩
   · rw [decide_eq_false h]; simp only [cond_false]; exact ⟨by omega, b.1, by show l.length ≤ 200; omega⟩
  | false =>
   cases (pick r0 p 20 == 2) with
   | true =>
    simp only [cond_true, cond_false]; by_cases h : 0 < (length l : Int)
    ·
     rw [decide_eq_true h]; simp only [cond_true]; refine ⟨by omega, RB_iff.2 fun x hx => ?_, by show (set l 0 _).length ≤ 200; rw [List.length_set]; omega⟩; rcases List.mem_or_eq_of_mem_set hx with hx | rfl
     · exact RB_iff.1 b.1 x hx
     · omega
    · rw [decide_eq_false h]; simp only [cond_false]; exact ⟨by omega, b.1, by show l.length ≤ 200; omega⟩
   | false => simp only [cond_false]; exact ⟨by omega, b.1, by show l.length ≤ 200; omega⟩

end
end Go.Proofs.Ytjcjpeckfikfkaa


namespace Go.Proofs.Ytjcjpeckfikfkaa
open Go Go.Am
open Go.Am.AW (seq r1U ret kpU cdE r0U r1 meet block rS bk exit lpB r0 kp d0U)
open List (length getD)
noncomputable section

def equalRows_l0 (a : List Val) (b : List Val) : Nat → Nat → Unit ⊕ Bool
 | 0, i => .inl ()
 | k + 1, i => (bif (decide ((i : Int) < (length a : Int))) then (bif (!(bif ((Val.Null (getD a i Val.zero)) == (Val.Null (getD b i Val.zero))) then (bif ((Val.N (getD a i Val.zero)) == (Val.N (getD b i Val.zero))) then true else false) else false)) then (.inr false) else (equalRows_l0 a b k (i + 1))) else (.inl ()))

def equalRows (a : List Val) (b : List Val) : Bool := (bif ((length a : Int) != (length b : Int)) then false else (Sum.elim (fun _ => true) (fun r => r) (equalRows_l0 a b ((length a) - 0 + 1) 0)))

end
end Go.Proofs.Ytjcjpeckfikfkaa
