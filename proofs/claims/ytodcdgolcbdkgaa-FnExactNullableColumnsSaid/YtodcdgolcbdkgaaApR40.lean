/-
  The statement FnExactNullableColumns is proved. The program's NullableColumns returns what the reference's returns, for all arguments, in memory of its own. Conditions: none.
-/
import Derived.Test.YtodcdgolcbdkgaaApTN
import Derived.Test.YtodcdgolcbdkgaaApS
set_option linter.all false
namespace Go.Proofs.Ytodcdgolcbdkgaa.fnExactNullableColumns
open Go Go.Am Go.RowKit Go.ChangeAt Go.WideShapes

theorem reads : ∀ t ∈ Try.f5.params.toList, Try.prog.readableRec t = true ∧ t < Try.prog.types.size := seatReads (by kernel_rfl)

set_option maxRecDepth 100000 in
theorem lifted (os : Os) (started : os.Started) (H : Type) (enc : TypeId × Value → H) :
  ReturnsInHanded {} Try.checked os 5 .any (Rows.fnExactNullableColumnsSpec.pre6 enc Try.prog Try.f5 Rows.fnExactNullableColumnsRow.domain false) (Rows.fnExactNullableColumnsSpec.post enc Try.prog Try.f5 false true false false) := by
 refine returnsInHanded_of_change (C := Try.checked) seatOwn started (by kernel_rfl) Try.func5 (ChangeSpec.witness6 (enc := enc) (C := Try.checked) false ⟨#[], #[.agg #[.int .i64 0, .int .i64 0, .slice none 0 0, .slice none 0 0, .slice none 0 0], .slice none 0 0, .slice none 0 0], []⟩ 8 (by kernel_rfl) (by kernel_rfl) (by kernel_rfl) (by kernel_rfl)) ?_; intro W base args ds gs before hval hW _ _
 exact law_contract (C := mkCtx tyL []) tyOK (tys := [(.named 2), (.slice (.int .i64)), (.slice (.slice .bool))]) FnExactNullableColumns_ok rfl rfl
  (AllTV.get (p := fun tvs => FnExactNullableColumns_sp.pre tvs) (fun _ _ _ => trivial))
  (AllTV.get (p := fun tvs => (∀ tv ∈ tvs, Wf tv) → FnExactNullableColumns_sp.fn tvs = [⟨.bool, true⟩]) (fun x0 x1 x2 _ => congrArg (fun b => [(⟨.bool, b⟩ : TV)]) (FnExactNullableColumns_law x0 x1 x2)))
  rfl rfl Try.underlying4 noGlob seatLaid reads rfl (fun ds h => by match ds, h with | [d0, d1, d2], _ => rfl) W base args ds gs before hval hW

theorem p1 : (Rows.fnExactNullableColumnsRow.inPlace == Try.prog.inPlace 5) = true := by kernel_rfl

theorem p2 : (Rows.fnExactNullableColumnsRow.unfollowed == Try.prog.unfollowed 5) = true := by kernel_rfl

theorem p3 : (Rows.fnExactNullableColumnsRow.recurses == Try.prog.recurses 5) = true := by kernel_rfl

theorem p4 : (Rows.fnExactNullableColumnsRow.named == Try.prog.varsNamed 5) = true := by kernel_rfl

theorem closed : joinedFacts Try.prog 5 Try.f5 Rows.fnExactNullableColumnsSpec Rows.fnExactNullableColumnsRow = true := by
 unfold joinedFacts; rw [p1, p2, p3, p4, seatEnter, show (Rows.fnExactNullableColumnsRow.lifted == Try.prog.liftsFinal) = true by rw [seatLifts]; rfl]; kernel_rfl

theorem proved : Rows.FnExactNullableColumnsSaid :=
 OpenClaim.holds_of_wide 5 Try.f5 rfl rfl rfl rfl rfl rfl rfl ⟨rfl, rfl, rfl, rfl, rfl⟩ rfl rfl rfl rfl rfl (by kernel_rfl) Try.func5 closed (of_decide_eq_true (by kernel_rfl))
  (by unfold Func.isWrapper; first | (rw [if_pos (by decide +kernel)]; kernel_rfl) | (rw [if_neg (by decide +kernel)]; exact ⟨rfl, rfl⟩))
  (fun os started H enc _ => lifted os started H enc)

end Go.Proofs.Ytodcdgolcbdkgaa.fnExactNullableColumns
#print axioms Go.Proofs.Ytodcdgolcbdkgaa.fnExactNullableColumns.proved
