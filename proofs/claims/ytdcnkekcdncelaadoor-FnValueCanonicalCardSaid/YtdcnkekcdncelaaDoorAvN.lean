/-
  A part of the proof of this claim (AvN): what functions of the program compute, and plain facts of that. No conditions.
-/
import Derived.Test.YtdcnkekcdncelaaDoorAvL
import Derived.Test.YtdcnkekcdncelaaDoorAv7
set_option linter.all false
namespace Go.Proofs.YtdcnkekcdncelaaDoor
open Go Go.Am
open List (length)
noncomputable section

theorem canon (s : ByteArray) (h : (iDecodeValue s).2 = true) : iValidValue (iDecodeValue s).1 = true ∧ iEncodeValue (iDecodeValue s).1 = s := by
 unfold iDecodeValue at h ⊢
 cases hs : seq s (ByteArray.mk #[110, 117, 108, 108]) with
 | true =>
  obtain rfl := seq_iff.1 hs; exact ⟨rfl, rfl⟩
 | false =>
  rw [hs] at h; simp only [cond_false, inumber] at h ⊢
  cases hb : (bif (atoiE s) then true else (!(seq (iEncodeValue (Val.mk false (atoiN s))) s))) with
  | true => rw [hb] at h; cases h
  | false =>
   rw [cond_false]
   have hE : atoiE s = false := by
    cases hE : atoiE s with
    | true => rw [hE] at hb; cases hb
    | false => rfl
   rw [hE, cond_false, Bool.not_eq_false'] at hb; have e := seq_iff.1 hb; refine ⟨?_, e⟩; rw [iEncode_number] at e; split at e
   · rename_i hr; show ivalid (Val.mk false (atoiN s)) = true; unfold ivalid; simp [hr.1, hr.2]
   · subst e; rw [atoiE_empty] at hE; cases hE

theorem FnValueCanonical_law (code : List Int) : FnValueCanonical code = true := by
 unfold FnValueCanonical; generalize DrawDecodeValue code = s; rw [← Decode_eq]; have hc := canon s; generalize iDecodeValue s = p at hc
 cases (decide (1048576 < (length code : Int))) with
 | true => rfl
 | false =>
  obtain ⟨v, ok⟩ := p
  cases ok with
  | false => simp
  | true =>
   obtain ⟨h1, h2⟩ := hc rfl; simp only at h1 h2; rw [h1, h2, seq_iff.2 rfl]; simp

end
end Go.Proofs.YtdcnkekcdncelaaDoor
