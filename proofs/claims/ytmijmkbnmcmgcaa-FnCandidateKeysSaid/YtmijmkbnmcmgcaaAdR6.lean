/-
  The statement FnCandidateKeys is proved. Every key contains a candidate key. Conditions: none.
-/
import Derived.Test.YtmijmkbnmcmgcaaAdN
import Derived.Test.YtmijmkbnmcmgcaaAdS
set_option linter.all false
namespace Go.Proofs.Ytmijmkbnmcmgcaa.fnCandidateKeys
open Go Go.Am Go.RowKit Go.ChangeAt Go.WideShapes

theorem reads : ∀ t ∈ Try.f7.params.toList, Try.prog.readableRec t = true ∧ t < Try.prog.types.size := seatReads (by kernel_rfl)

set_option maxRecDepth 100000 in
theorem lifted (os : Os) (started : os.Started) (H : Type) (enc : TypeId × Value → H) :
    ReturnsInHanded {} Try.checked os 7 .any (Rows.fnCandidateKeysSpec.pre6 enc Try.prog Try.f7 Rows.fnCandidateKeysRow.domain false) (Rows.fnCandidateKeysSpec.post enc Try.prog Try.f7 false true false false) := by
  refine returnsInHanded_of_change (C := Try.checked) seatOwn started (by kernel_rfl) Try.func7 (ChangeSpec.witness6 (enc := enc) (C := Try.checked) false ⟨#[], #[.slice none 0 0, .slice none 0 0], []⟩ 8 (by kernel_rfl) (by kernel_rfl) (by kernel_rfl) (by kernel_rfl)) ?_
  intro W base args ds gs before hval hW _ _
  exact law_contract (C := mkCtx tyL []) tyOK (tys := [(.slice (.int .u8)), (.slice (.int .u8))]) FnCandidateKeys_ok rfl rfl
    (AllTV.get (p := fun tvs => FnCandidateKeys_sp.pre tvs) (fun _ _ => trivial))
    (AllTV.get (p := fun tvs => (∀ tv ∈ tvs, Wf tv) → FnCandidateKeys_sp.fn tvs = [⟨.bool, true⟩]) (fun x0 x1 _ => congrArg (fun b => [(⟨.bool, b⟩ : TV)]) (FnCandidateKeys_law x0 x1)))
    rfl rfl Try.underlying4 seatLaid reads rfl (fun ds h => by match ds, h with | [d0, d1], _ => rfl) W base args ds gs before hval hW

theorem proved : Rows.FnCandidateKeysSaid :=
  OpenClaim.holds_of_wide 7 Try.f7 rfl rfl rfl rfl rfl rfl rfl ⟨rfl, rfl, rfl, rfl, rfl⟩ rfl rfl rfl rfl rfl (by kernel_rfl) Try.func7 (by kernel_rfl) (of_decide_eq_true (by kernel_rfl))
    (by unfold Func.isWrapper; first | (rw [if_pos (by decide +kernel)]; kernel_rfl) | (rw [if_neg (by decide +kernel)]; exact ⟨rfl, rfl⟩))
    (fun os started H enc _ => lifted os started H enc)

end Go.Proofs.Ytmijmkbnmcmgcaa.fnCandidateKeys
#print axioms Go.Proofs.Ytmijmkbnmcmgcaa.fnCandidateKeys.proved
