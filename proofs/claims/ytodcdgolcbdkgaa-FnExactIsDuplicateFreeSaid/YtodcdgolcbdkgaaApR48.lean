/-
  The statement FnExactIsDuplicateFree is proved. The program's IsDuplicateFree returns what the reference's returns, for all arguments. Conditions: none.
-/
import Derived.Test.YtodcdgolcbdkgaaApL
import Derived.Test.YtodcdgolcbdkgaaApS
set_option linter.all false
namespace Go.Proofs.Ytodcdgolcbdkgaa.fnExactIsDuplicateFree
open Go Go.Am Go.RowKit Go.ChangeAt Go.WideShapes

theorem reads : ∀ t ∈ Try.f8.params.toList, Try.prog.readableRec t = true ∧ t < Try.prog.types.size := seatReads (by kernel_rfl)

set_option maxRecDepth 100000 in
theorem lifted (os : Os) (started : os.Started) (H : Type) (enc : TypeId × Value → H) :
  ReturnsInHanded {} Try.checked os 8 .any (Rows.fnExactIsDuplicateFreeSpec.pre6 enc Try.prog Try.f8 Rows.fnExactIsDuplicateFreeRow.domain false) (Rows.fnExactIsDuplicateFreeSpec.post enc Try.prog Try.f8 false true false false) := by
 refine returnsInHanded_of_change (C := Try.checked) seatOwn started (by kernel_rfl) Try.func8 (ChangeSpec.witness6 (enc := enc) (C := Try.checked) false ⟨#[], #[.agg #[.int .i64 0, .int .i64 0, .slice none 0 0, .slice none 0 0, .slice none 0 0], .slice none 0 0, .slice none 0 0], []⟩ 8 (by kernel_rfl) (by kernel_rfl) (by kernel_rfl) (by kernel_rfl)) ?_
 intro W base args ds gs before hval hW _ _
 exact law_contract (C := mkCtx tyL []) tyOK (tys := [(.named 2), (.slice (.int .i64)), (.slice .bool)]) FnExactIsDuplicateFree_ok rfl rfl
  (AllTV.get (p := fun tvs => FnExactIsDuplicateFree_sp.pre tvs) (fun _ _ _ => trivial))
  (AllTV.get (p := fun tvs => (∀ tv ∈ tvs, Wf tv) → FnExactIsDuplicateFree_sp.fn tvs = [⟨.bool, true⟩]) (fun x0 x1 x2 _ => congrArg (fun b => [(⟨.bool, b⟩ : TV)]) (FnExactIsDuplicateFree_law x0 x1 x2)))
  rfl rfl Try.underlying4 seatLaid reads rfl (fun ds h => by match ds, h with | [d0, d1, d2], _ => rfl) W base args ds gs before hval hW

theorem closed : joinedFacts Try.prog 8 Try.f8 Rows.fnExactIsDuplicateFreeSpec Rows.fnExactIsDuplicateFreeRow = true := by
 unfold joinedFacts
 rw [seatEnter, show (Rows.fnExactIsDuplicateFreeRow.lifted == Try.prog.liftsFinal) = true by rw [seatLifts]; rfl]
 kernel_rfl

theorem proved : Rows.FnExactIsDuplicateFreeSaid :=
 OpenClaim.holds_of_wide 8 Try.f8 rfl rfl rfl rfl rfl rfl rfl ⟨rfl, rfl, rfl, rfl, rfl⟩ rfl rfl rfl rfl rfl (by kernel_rfl) Try.func8 closed (of_decide_eq_true (by kernel_rfl))
  (by unfold Func.isWrapper; first | (rw [if_pos (by decide +kernel)]; kernel_rfl) | (rw [if_neg (by decide +kernel)]; exact ⟨rfl, rfl⟩))
  (fun os started H enc _ => lifted os started H enc)

end Go.Proofs.Ytodcdgolcbdkgaa.fnExactIsDuplicateFree
#print axioms Go.Proofs.Ytodcdgolcbdkgaa.fnExactIsDuplicateFree.proved
