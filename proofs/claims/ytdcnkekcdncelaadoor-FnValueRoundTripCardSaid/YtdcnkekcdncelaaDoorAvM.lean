/-
  A part of the proof of this claim (AvM): what functions of the program compute, and plain facts of that. No conditions.
-/
import Derived.Test.YtdcnkekcdncelaaDoorAvL
import Derived.Test.YtdcnkekcdncelaaDoorAv6
set_option linter.all false
namespace Go.Proofs.YtdcnkekcdncelaaDoor
open Go Go.Am
open List (length)
noncomputable section

theorem valid_iff (v : Val) : ivalid v = validValue v := by
 obtain ⟨b, n⟩ := v
 cases b with
 | false => rw [validValue_number]; unfold ivalid; by_cases h1 : -9999 ≤ n <;> by_cases h2 : n ≤ 9999 <;> simp [h1, h2]
 | true =>
  unfold ivalid validValue inRange; by_cases h : n = 0
  · subst h; rfl
  · (have : (n == 0) = false := by simpa using h); simp [this]

theorem Encode_eq (v : Val) : iEncodeValue v = EncodeValue v := by
 unfold iEncodeValue EncodeValue formatValue; rw [valid_iff]
 cases h : validValue v with
 | false => rfl
 | true =>
  simp only [Bool.not_true, cond_false]
  cases hn : v.Null with
  | true => rfl
  | false =>
   have : -9999 ≤ v.N ∧ v.N ≤ 9999 := by
    unfold validValue inRange at h; simp at h; exact h.1
   rw [cond_false, cond_false, formatInt_eq _ (by omega)]

theorem itoaS_null (n : Int) (h0 : -9999 ≤ n) (h1 : n ≤ 9999) : seq (itoaS n) (ByteArray.mk #[110, 117, 108, 108]) = false := by
 rw [seq_false]; intro e; have h := atoiE_itoa n h0 h1; rw [e] at h; exact absurd h (by show ¬ (true = false); decide)

theorem itoaS_ne (n : Int) : seq (itoaS n) (ByteArray.mk #[]) = false := by
 rw [seq_false]; intro e
 have : Lib.itoa n = [] := by
  have := congrArg (fun b : ByteArray => b.data.toList) e
  simpa [itoaS] using this
 unfold Lib.itoa at this
 split at this
 · cases this
 · exact decDigits_ne _ this

theorem round (v : Val) (h : validValue v = true) : seq (iEncodeValue v) (ByteArray.mk #[]) = false ∧ iDecodeValue (iEncodeValue v) = (v, true) := by
 obtain ⟨b, n⟩ := v
 cases b with
 | true =>
  have hn : n = 0 := by
   unfold validValue at h; simp at h; exact h.2
  subst hn; have e : iEncodeValue (Val.mk true 0) = ByteArray.mk #[110, 117, 108, 108] := rfl; rw [e]; refine ⟨seq_false.2 (fun h => absurd (congrArg ByteArray.size h) (by decide)), ?_⟩; unfold iDecodeValue; rw [seq_iff.2 rfl]; rfl
 | false =>
  rw [validValue_number, decide_eq_true_eq] at h; rw [iEncode_number, if_pos h]; refine ⟨itoaS_ne n, ?_⟩; unfold iDecodeValue; rw [itoaS_null n h.1 h.2, atoiE_itoa n h.1 h.2, atoiN_itoa n h.1 h.2]; simp only [cond_false, inumber]; rw [iEncode_number, if_pos h, seq_iff.2 rfl]; rfl

theorem FnValueRoundTrip_law (code : List Int) : FnValueRoundTrip code = true := by
 unfold FnValueRoundTrip; generalize DrawEncodeValue code = v
 cases (decide (1048576 < (length code : Int))) with
 | true => rfl
 | false =>
  rw [cond_false, ← Encode_eq, seq_iff.2 rfl]
  cases h : validValue v with
  | true =>
   obtain ⟨h1, h2⟩ := round v h; rw [h1, h2]; simp
  | false =>
   (have e : iEncodeValue v = ByteArray.mk #[] := by unfold iEncodeValue; rw [valid_iff, h]; rfl); (have e2 : iValidValue v = false := by unfold iValidValue; rw [valid_iff, h]); rw [e, e2, seq_iff.2 rfl]; rfl

end
end Go.Proofs.YtdcnkekcdncelaaDoor
