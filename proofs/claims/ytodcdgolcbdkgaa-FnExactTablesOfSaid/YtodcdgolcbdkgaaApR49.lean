/-
  The statement FnExactTablesOf is proved. The program's TablesOf returns what the reference's returns, for all arguments, in memory of its own. Conditions: none.
-/
import Derived.Test.YtodcdgolcbdkgaaApTV
import Derived.Test.YtodcdgolcbdkgaaApS
set_option linter.all false
namespace Go.Proofs.Ytodcdgolcbdkgaa.fnExactTablesOf
open Go Go.Am Go.RowKit Go.ChangeAt Go.WideShapes

theorem reads : ∀ t ∈ Try.f7.params.toList, Try.prog.readableRec t = true ∧ t < Try.prog.types.size := seatReads (by kernel_rfl)

set_option maxRecDepth 100000 in
theorem lifted (os : Os) (started : os.Started) (H : Type) (enc : TypeId × Value → H) :
  ReturnsInHanded {} Try.checked os 7 .any (Rows.fnExactTablesOfSpec.pre6 enc Try.prog Try.f7 Rows.fnExactTablesOfRow.domain false) (Rows.fnExactTablesOfSpec.post enc Try.prog Try.f7 false true false false) := by
 refine returnsInHanded_of_change (C := Try.checked) seatOwn started (by kernel_rfl) Try.func7 (ChangeSpec.witness6 (enc := enc) (C := Try.checked) false ⟨#[], #[.agg #[.int .i64 0, .int .i64 0, .slice none 0 0, .slice none 0 0, .slice none 0 0], .slice none 0 0], []⟩ 8 (by kernel_rfl) (by kernel_rfl) (by kernel_rfl) (by kernel_rfl)) ?_; intro W base args ds gs before hval hW _ _
 exact law_contract (C := mkCtx tyL []) tyOK (tys := [(.named 2), (.slice (.int .i64))]) FnExactTablesOf_ok rfl rfl
  (AllTV.get (p := fun tvs => FnExactTablesOf_sp.pre tvs) (fun _ _ => trivial))
  (AllTV.get (p := fun tvs => (∀ tv ∈ tvs, Wf tv) → FnExactTablesOf_sp.fn tvs = [⟨.bool, true⟩]) (fun x0 x1 _ => congrArg (fun b => [(⟨.bool, b⟩ : TV)]) (FnExactTablesOf_law x0 x1)))
  rfl rfl Try.underlying4 noGlob seatLaid reads rfl (fun ds h => by match ds, h with | [d0, d1], _ => rfl) W base args ds gs before hval hW

theorem p1 : (Rows.fnExactTablesOfRow.inPlace == Try.prog.inPlace 7) = true := by kernel_rfl

theorem p2 : (Rows.fnExactTablesOfRow.unfollowed == Try.prog.unfollowed 7) = true := by kernel_rfl

theorem p3 : (Rows.fnExactTablesOfRow.recurses == Try.prog.recurses 7) = true := by kernel_rfl

theorem p4 : (Rows.fnExactTablesOfRow.named == Try.prog.varsNamed 7) = true := by kernel_rfl

theorem closed : joinedFacts Try.prog 7 Try.f7 Rows.fnExactTablesOfSpec Rows.fnExactTablesOfRow = true := by
 unfold joinedFacts; rw [p1, p2, p3, p4, seatEnter, show (Rows.fnExactTablesOfRow.lifted == Try.prog.liftsFinal) = true by rw [seatLifts]; rfl]; kernel_rfl

theorem proved : Rows.FnExactTablesOfSaid :=
 OpenClaim.holds_of_wide 7 Try.f7 rfl rfl rfl rfl rfl rfl rfl ⟨rfl, rfl, rfl, rfl, rfl⟩ rfl rfl rfl rfl rfl (by kernel_rfl) Try.func7 closed (of_decide_eq_true (by kernel_rfl))
  (by unfold Func.isWrapper; first | (rw [if_pos (by decide +kernel)]; kernel_rfl) | (rw [if_neg (by decide +kernel)]; exact ⟨rfl, rfl⟩))
  (fun os started H enc _ => lifted os started H enc)

end Go.Proofs.Ytodcdgolcbdkgaa.fnExactTablesOf
#print axioms Go.Proofs.Ytodcdgolcbdkgaa.fnExactTablesOf.proved
