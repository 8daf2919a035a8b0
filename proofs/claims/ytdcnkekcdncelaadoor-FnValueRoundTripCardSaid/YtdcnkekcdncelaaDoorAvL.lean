/-
  A part of the proof of this claim (AvL): what functions of the program compute, and plain facts of that. No conditions.
-/
import Derived.Test.YtdcnkekcdncelaaDoorAvJ
import Derived.Test.YtdcnkekcdncelaaDoorAv2
set_option linter.all false
namespace Go.Proofs.YtdcnkekcdncelaaDoor
open Go Go.Am
noncomputable section

theorem iEncode_number (n : Int) : iEncodeValue (Val.mk false n) = if -9999 ≤ n ∧ n ≤ 9999 then itoaS n else ⟨#[]⟩ := by
 have e : ivalid (Val.mk false n) = decide (-9999 ≤ n ∧ n ≤ 9999) := by
  unfold ivalid; by_cases h1 : -9999 ≤ n
  · by_cases h2 : n ≤ 9999 <;> simp [h1, h2]
  · simp [h1]
 unfold iEncodeValue; rw [e]; by_cases h : -9999 ≤ n ∧ n ≤ 9999
 · rw [decide_eq_true h, if_pos h]; rfl
 · rw [decide_eq_false h, if_neg h]; rfl

theorem validValue_number (n : Int) : validValue (Val.mk false n) = decide (-9999 ≤ n ∧ n ≤ 9999) := by
 unfold validValue inRange; by_cases h1 : -9999 ≤ n
 · by_cases h2 : n ≤ 9999 <;> simp [h1, h2]
 · simp [h1]

end
end Go.Proofs.YtdcnkekcdncelaaDoor
