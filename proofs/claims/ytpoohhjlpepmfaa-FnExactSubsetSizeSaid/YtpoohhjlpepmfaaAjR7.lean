/-
  The statement FnExactSubsetSize is proved. The program's SubsetSize returns what the reference's returns, for all arguments. Conditions: none.
-/
import Derived.Test.YtpoohhjlpepmfaaAjL
import Derived.Test.YtpoohhjlpepmfaaAjS
set_option linter.all false
namespace Go.Proofs.Ytpoohhjlpepmfaa.fnExactSubsetSize
open Go Go.Am Go.RowKit Go.ChangeAt Go.WideShapes

theorem reads : ∀ t ∈ Try.f4.params.toList, Try.prog.readableRec t = true ∧ t < Try.prog.types.size := seatReads (by kernel_rfl)

set_option maxRecDepth 100000 in
theorem lifted (os : Os) (started : os.Started) (H : Type) (enc : TypeId × Value → H) :
    ReturnsInHanded {} Try.checked os 4 .any (Rows.fnExactSubsetSizeSpec.pre6 enc Try.prog Try.f4 Rows.fnExactSubsetSizeRow.domain false) (Rows.fnExactSubsetSizeSpec.post enc Try.prog Try.f4 false true false false) := by
  refine returnsInHanded_of_change (C := Try.checked) seatOwn started (by kernel_rfl) Try.func4 (ChangeSpec.witness6 (enc := enc) (C := Try.checked) false ⟨#[], #[.agg #[.slice none 0 0, .slice none 0 0], .int .i64 0], []⟩ 8 (by kernel_rfl) (by kernel_rfl) (by kernel_rfl) (by kernel_rfl)) ?_
  intro W base args ds gs before hval hW _ _
  exact law_contract (C := mkCtx tyL []) tyOK (tys := [(.named 1), (.int .i64)]) FnExactSubsetSize_ok rfl rfl
    (AllTV.get (p := fun tvs => FnExactSubsetSize_sp.pre tvs) (fun _ _ => trivial))
    (AllTV.get (p := fun tvs => (∀ tv ∈ tvs, Wf tv) → FnExactSubsetSize_sp.fn tvs = [⟨.bool, true⟩]) (fun x0 x1 _ => congrArg (fun b => [(⟨.bool, b⟩ : TV)]) (FnExactSubsetSize_law x0 x1)))
    rfl rfl Try.underlying4 seatLaid reads rfl (fun ds h => by match ds, h with | [d0, d1], _ => rfl) W base args ds gs before hval hW

theorem proved : Rows.FnExactSubsetSizeSaid :=
  OpenClaim.holds_of_wide 4 Try.f4 rfl rfl rfl rfl rfl rfl rfl ⟨rfl, rfl, rfl, rfl, rfl⟩ rfl rfl rfl rfl rfl (by kernel_rfl) Try.func4 (by kernel_rfl) (of_decide_eq_true (by kernel_rfl))
    (by unfold Func.isWrapper; first | (rw [if_pos (by decide +kernel)]; kernel_rfl) | (rw [if_neg (by decide +kernel)]; exact ⟨rfl, rfl⟩))
    (fun os started H enc _ => lifted os started H enc)

end Go.Proofs.Ytpoohhjlpepmfaa.fnExactSubsetSize
#print axioms Go.Proofs.Ytpoohhjlpepmfaa.fnExactSubsetSize.proved
