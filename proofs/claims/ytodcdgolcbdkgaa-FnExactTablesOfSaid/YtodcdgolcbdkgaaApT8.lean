/-
  A part of the proof of this claim (ApT8): what functions of the program compute, and plain facts of that. No conditions.
-/
import Derived.Test.YtodcdgolcbdkgaaApT6
set_option linter.all false
namespace Go.Proofs.Ytodcdgolcbdkgaa
open Go Go.Am
open Go.Am.AW (seq r1U ret kpU cdE r0U meet block rS bk exit lpB d0U)
open List (length getD set replicate)
noncomputable section

theorem set_take {α : Type} {l : List α} {i : Nat} {x : α} (h : i < l.length) : (l.set i x).take (i + 1) = l.take i ++ [x] := by
 rw [List.take_add_one, List.getElem?_set_self h, List.take_set_of_le (Nat.le_refl _)]; rfl

def FI (self : Xpr → Xpr) (kids ar : List Xpr) (c i : Nat) : Prop := (ar.take i = (kids.take i).map self ∧ c = ((kids.take i).map self).countP (fun x => x.Kind == 2)) ∧ (i ≤ kids.length ∧ ar.length = kids.length) ∧ c ≤ i

theorem FI.out {self : Xpr → Xpr} {kids ar : List Xpr} {c i : Nat} (h : FI self kids ar c i) (hi : ¬ i < kids.length) : (ar = kids.map self ∧ c = ar.countP (fun x => x.Kind == 2)) ∧ ar.length = kids.length := by
 have e1 := h.1.1; have e2 := h.1.2; rw [List.take_of_length_le (by have := h.2.1.2; omega), List.take_of_length_le (by omega)] at e1; rw [List.take_of_length_le (by omega), ← e1] at e2; exact ⟨⟨e1, e2⟩, h.2.1.2⟩

end
end Go.Proofs.Ytodcdgolcbdkgaa
