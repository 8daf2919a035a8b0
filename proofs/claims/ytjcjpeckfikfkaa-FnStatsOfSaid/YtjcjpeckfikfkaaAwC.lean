/-
  A part of the proof of this claim (AwC): what functions of the program compute, and plain facts of that. No conditions.
-/
import Derived.Test.YtjcjpeckfikfkaaAwB
set_option linter.all false
namespace Go.Proofs.Ytjcjpeckfikfkaa
open Go Go.Am
open Go.Am.AW (seq r1U ret kpU cdE r0U meet block rS bk exit lpB kp cutQ d0U)
open List (length getD)
noncomputable section

theorem getD_appendL (a b : List (List Val)) (i : Nat) : getD (a ++ b) i [] = if i < a.length then getD a i [] else getD b (i - a.length) [] := by
 simp only [List.getD_eq_getElem?_getD, List.getElem?_append]; split <;> rfl

def RB (rows : List (List Val)) : Prop := ∀ i : Nat, i < length rows → (length (getD rows i []) : Int) ≤ 1048576

theorem RB.add {rows : List (List Val)} {r : List Val} (h : RB rows) (hr : (r.length : Int) ≤ 1048576) : RB (rows ++ [r]) := by
 intro i hi; rw [getD_appendL]; split
 · exact h i (by omega)
 · simp only [List.length_append, List.length_cons, List.length_nil] at hi; rw [show i - rows.length = 0 by omega]; exact hr

theorem RB_iff {rows : List (List Val)} : RB rows ↔ ∀ x ∈ rows, (x.length : Int) ≤ 1048576 := by
 constructor
 ·
  intro h x hx; obtain ⟨i, hi, rfl⟩ := List.mem_iff_getElem.1 hx; have := h i hi
  rwa [List.getD_eq_getElem?_getD, List.getElem?_eq_getElem hi] at this
 · intro h i hi; exact h _ (getD_mem rows i [] hi)

theorem mem_insertRow {rows : List (List Val)} {row x : List Val} (h : x ∈ insertRow rows row) : x ∈ rows ∨ x = row := by
 unfold insertRow at h; dsimp only [andThen] at h; simp only [List.nil_append, List.mem_append, List.mem_cons, List.not_mem_nil, or_false] at h; rcases h with (h | h) | h
 · exact .inl (List.mem_of_mem_take h)
 · exact .inr h
 · exact .inl (List.mem_of_mem_drop h)

theorem RB.insert {rows : List (List Val)} {r : List Val} (h : RB rows) (hr : (r.length : Int) ≤ 1048576) : RB (insertRow rows r) :=
 RB_iff.2 fun x hx => (mem_insertRow hx).elim (RB_iff.1 h x) fun e => e ▸ hr

theorem RB.nil : RB [] := fun i hi => absurd hi (Nat.not_lt_zero _)

end
end Go.Proofs.Ytjcjpeckfikfkaa
