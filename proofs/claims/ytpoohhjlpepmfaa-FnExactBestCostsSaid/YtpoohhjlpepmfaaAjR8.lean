/-
  The statement FnExactBestCosts is proved. The program's BestCosts returns what the reference's returns, for all arguments. Conditions: none.
-/
import Derived.Test.YtpoohhjlpepmfaaAjC
import Derived.Test.YtpoohhjlpepmfaaAjS
set_option linter.all false
namespace Go.Proofs.Ytpoohhjlpepmfaa.fnExactBestCosts
open Go Go.Am Go.RowKit Go.ChangeAt Go.WideShapes

theorem reads : ∀ t ∈ Try.f8.params.toList, Try.prog.readableRec t = true ∧ t < Try.prog.types.size := seatReads (by kernel_rfl)

set_option maxRecDepth 100000 in
theorem lifted (os : Os) (started : os.Started) (H : Type) (enc : TypeId × Value → H) :
  ReturnsInHanded {} Try.checked os 8 .any (Rows.fnExactBestCostsSpec.pre6 enc Try.prog Try.f8 Rows.fnExactBestCostsRow.domain false) (Rows.fnExactBestCostsSpec.post enc Try.prog Try.f8 false true false false) := by
 refine returnsInHanded_of_change (C := Try.checked) seatOwn started (by kernel_rfl) Try.func8 (ChangeSpec.witness6 (enc := enc) (C := Try.checked) false ⟨#[], #[.agg #[.slice none 0 0, .slice none 0 0]], []⟩ 8 (by kernel_rfl) (by kernel_rfl) (by kernel_rfl) (by kernel_rfl)) ?_
 intro W base args ds gs before hval hW _ _
 exact law_contract (C := mkCtx tyL []) tyOK (tys := [(.named 1)]) FnExactBestCosts_ok rfl rfl
  (AllTV.get (p := fun tvs => FnExactBestCosts_sp.pre tvs) (fun _ => trivial))
  (AllTV.get (p := fun tvs => (∀ tv ∈ tvs, Wf tv) → FnExactBestCosts_sp.fn tvs = [⟨.bool, true⟩]) (fun x0 _ => congrArg (fun b => [(⟨.bool, b⟩ : TV)]) (FnExactBestCosts_law x0)))
  rfl rfl Try.underlying4 seatLaid reads rfl (fun ds h => by match ds, h with | [d0], _ => rfl) W base args ds gs before hval hW

theorem p1 : (Rows.fnExactBestCostsRow.inPlace == Try.prog.inPlace 8) = true := by kernel_rfl

theorem p2 : (Rows.fnExactBestCostsRow.unfollowed == Try.prog.unfollowed 8) = true := by kernel_rfl

theorem p3 : (Rows.fnExactBestCostsRow.recurses == Try.prog.recurses 8) = true := by kernel_rfl

theorem p4 : (Rows.fnExactBestCostsRow.named == Try.prog.varsNamed 8) = true := by kernel_rfl

theorem closed : joinedFacts Try.prog 8 Try.f8 Rows.fnExactBestCostsSpec Rows.fnExactBestCostsRow = true := by
 unfold joinedFacts
 rw [p1, p2, p3, p4, seatEnter, show (Rows.fnExactBestCostsRow.lifted == Try.prog.liftsFinal) = true by rw [seatLifts]; rfl]
 kernel_rfl

theorem proved : Rows.FnExactBestCostsSaid :=
 OpenClaim.holds_of_wide 8 Try.f8 rfl rfl rfl rfl rfl rfl rfl ⟨rfl, rfl, rfl, rfl, rfl⟩ rfl rfl rfl rfl rfl (by kernel_rfl) Try.func8 closed (of_decide_eq_true (by kernel_rfl))
  (by unfold Func.isWrapper; first | (rw [if_pos (by decide +kernel)]; kernel_rfl) | (rw [if_neg (by decide +kernel)]; exact ⟨rfl, rfl⟩))
  (fun os started H enc _ => lifted os started H enc)

end Go.Proofs.Ytpoohhjlpepmfaa.fnExactBestCosts
#print axioms Go.Proofs.Ytpoohhjlpepmfaa.fnExactBestCosts.proved
