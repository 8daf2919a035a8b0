/-
  A part of the proof of this claim (AvL): what functions of the program compute, and plain facts of that. No conditions.
-/
import Derived.Test.YtdcnkekcdncelaaDoorAvJ
import Derived.Test.YtdcnkekcdncelaaDoorAv2
set_option linter.all false
namespace Go.Proofs.YtdcnkekcdncelaaDoor
open Go Go.Am
noncomputable section

theorem iEncode_number (n : Int) : iEncodeValue (Val.mk false n) = if -9999 ≤ n ∧ n ≤ 9999 then itoaS n else ⟨#[]⟩ := by
 have e : ivalid (Val.mk false n) = decide (-9999 ≤ n ∧ n ≤ 9999) := by
  unfold ivalid; by_cases h1 : -9999 ≤ n
  · by_cases h2 : n ≤ 9999 <;> simp [h1, h2]
  · simp [h1]
 unfold iEncodeValue; rw [e]; by_cases h : -9999 ≤ n ∧ n ≤ 9999
 · rw [decide_eq_true h, if_pos h]; rfl
 · rw [decide_eq_false h, if_neg h]; rfl

theorem validValue_number (n : Int) : validValue (Val.mk false n) = decide (-9999 ≤ n ∧ n ≤ 9999) := by
 unfold validValue inRange; by_cases h1 : -9999 ≤ n
 · by_cases h2 : n ≤ 9999 <;> simp [h1, h2]
 · simp [h1]

theorem atoiE_empty : atoiE ⟨#[]⟩ = true := rfl

theorem Decode_eq (s : ByteArray) : iDecodeValue s = DecodeValue s := by
 unfold iDecodeValue DecodeValue parseValue
 cases hs : seq s (ByteArray.mk #[110, 117, 108, 108]) with
 | true =>
  obtain rfl := seq_iff.1 hs; simp only [cond_true]; rw [show validValue (Val.mk true 0) = true from rfl, show formatValue (Val.mk true 0) = ByteArray.mk #[110, 117, 108, 108] from rfl, hs]; rfl
 | false =>
  simp only [cond_false, inumber]; rw [iEncode_number, validValue_number]; show _ = bif (bif (!decide (-9999 ≤ parseInt s ∧ parseInt s ≤ 9999)) then true else (!(seq (formatInt (parseInt s)) s))) then ((Val.mk false 0), false) else ((Val.mk false (parseInt s)), true); by_cases hA : ∃ n, -9999 ≤ n ∧ n ≤ 9999 ∧ s = itoaS n
  · obtain ⟨n, h0, h1, rfl⟩ := hA; rw [atoiE_itoa n h0 h1, atoiN_itoa n h0 h1, parseInt_itoa n h0 h1, if_pos ⟨h0, h1⟩, formatInt_eq n (by omega), decide_eq_true (⟨h0, h1⟩ : -9999 ≤ n ∧ n ≤ 9999)]; rfl
  ·
   have e1 : (bif (atoiE s) then true else (!(seq (if -9999 ≤ atoiN s ∧ atoiN s ≤ 9999 then itoaS (atoiN s) else ⟨#[]⟩) s))) = true := by
    cases hE : atoiE s with
    | true => rfl
    | false =>
     rw [cond_false, Bool.not_eq_true', seq_false]; intro e; split at e
     · rename_i h; exact hA ⟨_, h.1, h.2, e.symm⟩
     · subst e; rw [atoiE_empty] at hE; cases hE
   have e2 : (bif (!decide (-9999 ≤ parseInt s ∧ parseInt s ≤ 9999)) then true else (!(seq (formatInt (parseInt s)) s))) = true := by
    by_cases h : -9999 ≤ parseInt s ∧ parseInt s ≤ 9999
    · rw [decide_eq_true h, Bool.not_true, cond_false, Bool.not_eq_true', seq_false]; intro e; rw [formatInt_eq _ (by omega)] at e; exact hA ⟨_, h.1, h.2, e.symm⟩
    · rw [decide_eq_false h]; rfl
   rw [e1, e2, cond_true, cond_true]

end
end Go.Proofs.YtdcnkekcdncelaaDoor
