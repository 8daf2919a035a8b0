/-
  The statement FnExactFoldExpr is proved. The program's FoldExpr returns what the reference's returns, for all arguments, in memory of its own. Conditions: none.
-/
import Derived.Test.YtodcdgolcbdkgaaApTB
import Derived.Test.YtodcdgolcbdkgaaApS
set_option linter.all false
namespace Go.Proofs.Ytodcdgolcbdkgaa.fnExactFoldExpr
open Go Go.Am Go.RowKit Go.ChangeAt Go.WideShapes

theorem reads : ∀ t ∈ Try.f12.params.toList, Try.prog.readableRec t = true ∧ t < Try.prog.types.size := seatReads (by kernel_rfl)

set_option maxRecDepth 100000 in
theorem lifted (os : Os) (started : os.Started) (H : Type) (enc : TypeId × Value → H) :
  ReturnsInHanded {} Try.checked os 12 .any (Rows.fnExactFoldExprSpec.pre6 enc Try.prog Try.f12 Rows.fnExactFoldExprRow.domain false) (Rows.fnExactFoldExprSpec.post enc Try.prog Try.f12 false true false false) := by
 refine returnsInHanded_of_change (C := Try.checked) seatOwn started (by kernel_rfl) Try.func12 (ChangeSpec.witness6 (enc := enc) (C := Try.checked) false ⟨#[], #[.agg #[.int .i64 0, .int .i64 0, .bool false, .int .i64 0, .slice none 0 0]], []⟩ 8 (by kernel_rfl) (by kernel_rfl) (by kernel_rfl) (by kernel_rfl)) ?_
 intro W base args ds gs before hval hW _ _
 exact law_contract (C := mkCtx tyL []) tyOK (tys := [(.named 1)]) FnExactFoldExpr_ok rfl rfl
  (AllTV.get (p := fun tvs => FnExactFoldExpr_sp.pre tvs) (fun _ => trivial))
  (AllTV.get (p := fun tvs => (∀ tv ∈ tvs, Wf tv) → FnExactFoldExpr_sp.fn tvs = [⟨.bool, true⟩]) (fun x0 _ => congrArg (fun b => [(⟨.bool, b⟩ : TV)]) (FnExactFoldExpr_law x0)))
  rfl rfl Try.underlying4 noGlob seatLaid reads rfl (fun ds h => by match ds, h with | [d0], _ => rfl) W base args ds gs before hval hW

theorem p1 : (Rows.fnExactFoldExprRow.inPlace == Try.prog.inPlace 12) = true := by kernel_rfl

theorem p2 : (Rows.fnExactFoldExprRow.unfollowed == Try.prog.unfollowed 12) = true := by kernel_rfl

theorem p3 : (Rows.fnExactFoldExprRow.recurses == Try.prog.recurses 12) = true := by kernel_rfl

theorem p4 : (Rows.fnExactFoldExprRow.named == Try.prog.varsNamed 12) = true := by kernel_rfl

theorem closed : joinedFacts Try.prog 12 Try.f12 Rows.fnExactFoldExprSpec Rows.fnExactFoldExprRow = true := by
 unfold joinedFacts
 rw [p1, p2, p3, p4, seatEnter, show (Rows.fnExactFoldExprRow.lifted == Try.prog.liftsFinal) = true by rw [seatLifts]; rfl]
 kernel_rfl

theorem proved : Rows.FnExactFoldExprSaid :=
 OpenClaim.holds_of_wide 12 Try.f12 rfl rfl rfl rfl rfl rfl rfl ⟨rfl, rfl, rfl, rfl, rfl⟩ rfl rfl rfl rfl rfl (by kernel_rfl) Try.func12 closed (of_decide_eq_true (by kernel_rfl))
  (by unfold Func.isWrapper; first | (rw [if_pos (by decide +kernel)]; kernel_rfl) | (rw [if_neg (by decide +kernel)]; exact ⟨rfl, rfl⟩))
  (fun os started H enc _ => lifted os started H enc)

end Go.Proofs.Ytodcdgolcbdkgaa.fnExactFoldExpr
#print axioms Go.Proofs.Ytodcdgolcbdkgaa.fnExactFoldExpr.proved
