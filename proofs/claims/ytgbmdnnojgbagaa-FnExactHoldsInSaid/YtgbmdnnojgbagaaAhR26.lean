/-
  The statement FnExactHoldsIn is proved. The program's HoldsIn returns what the reference's returns, for all arguments. Conditions: none.
-/
import Derived.Test.YtgbmdnnojgbagaaAh6
import Derived.Test.YtgbmdnnojgbagaaAhS
set_option linter.all false
namespace Go.Proofs.Ytgbmdnnojgbagaa.fnExactHoldsIn
open Go Go.Am Go.RowKit Go.ChangeAt Go.WideShapes

theorem reads : ∀ t ∈ Try.f3.params.toList, Try.prog.readableRec t = true ∧ t < Try.prog.types.size := seatReads (by kernel_rfl)

set_option maxRecDepth 100000 in
theorem lifted (os : Os) (started : os.Started) (H : Type) (enc : TypeId × Value → H) :
    ReturnsInHanded {} Try.checked os 3 .any (Rows.fnExactHoldsInSpec.pre6 enc Try.prog Try.f3 Rows.fnExactHoldsInRow.domain false) (Rows.fnExactHoldsInSpec.post enc Try.prog Try.f3 false true false false) := by
  refine returnsInHanded_of_change (C := Try.checked) seatOwn started (by kernel_rfl) Try.func3 (ChangeSpec.witness6 (enc := enc) (C := Try.checked) false ⟨#[], #[.agg #[.int .i64 0, .int .i64 0], .agg #[.int .i64 0, .slice none 0 0]], []⟩ 8 (by kernel_rfl) (by kernel_rfl) (by kernel_rfl) (by kernel_rfl)) ?_
  intro W base args ds gs before hval hW _ _
  exact law_contract (C := mkCtx tyL []) tyOK (tys := [(.named 0), (.named 2)]) FnExactHoldsIn_ok rfl rfl
    (AllTV.get (p := fun tvs => FnExactHoldsIn_sp.pre tvs) (fun _ _ => trivial))
    (AllTV.get (p := fun tvs => (∀ tv ∈ tvs, Wf tv) → FnExactHoldsIn_sp.fn tvs = [⟨.bool, true⟩]) (fun x0 x1 _ => congrArg (fun b => [(⟨.bool, b⟩ : TV)]) (FnExactHoldsIn_law x0 x1)))
    rfl rfl Try.underlying4 seatLaid reads rfl (fun ds h => by match ds, h with | [d0, d1], _ => rfl) W base args ds gs before hval hW

theorem proved : Rows.FnExactHoldsInSaid :=
  OpenClaim.holds_of_wide 3 Try.f3 rfl rfl rfl rfl rfl rfl rfl ⟨rfl, rfl, rfl, rfl, rfl⟩ rfl rfl rfl rfl rfl (by kernel_rfl) Try.func3 (by kernel_rfl) (of_decide_eq_true (by kernel_rfl))
    (by unfold Func.isWrapper; first | (rw [if_pos (by decide +kernel)]; kernel_rfl) | (rw [if_neg (by decide +kernel)]; exact ⟨rfl, rfl⟩))
    (fun os started H enc _ => lifted os started H enc)

end Go.Proofs.Ytgbmdnnojgbagaa.fnExactHoldsIn
#print axioms Go.Proofs.Ytgbmdnnojgbagaa.fnExactHoldsIn.proved
