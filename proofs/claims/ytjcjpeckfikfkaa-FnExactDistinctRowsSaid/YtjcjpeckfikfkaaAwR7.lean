/-
  The statement FnExactDistinctRows is proved. The program's DistinctRows returns what the reference's returns, for all arguments, in memory of its own. Conditions: none.
-/
import Derived.Test.YtjcjpeckfikfkaaAwT9
import Derived.Test.YtjcjpeckfikfkaaAwS
set_option linter.all false
namespace Go.Proofs.Ytjcjpeckfikfkaa.fnExactDistinctRows
open Go Go.Am Go.RowKit Go.ChangeAt Go.WideShapes

theorem reads : ∀ t ∈ Try.f7.params.toList, Try.prog.readableRec t = true ∧ t < Try.prog.types.size := seatReads (by kernel_rfl)

set_option maxRecDepth 100000 in
theorem lifted (os : Os) (started : os.Started) (H : Type) (enc : TypeId × Value → H) :
  ReturnsInHanded {} Try.checked os 7 .any (Rows.fnExactDistinctRowsSpec.pre6 enc Try.prog Try.f7 Rows.fnExactDistinctRowsRow.domain false) (Rows.fnExactDistinctRowsSpec.post enc Try.prog Try.f7 false true false false) := by
 refine returnsInHanded_of_change (C := Try.checked) seatOwn started (by kernel_rfl) Try.func7 (ChangeSpec.witness6 (enc := enc) (C := Try.checked) false ⟨#[], #[.agg #[.int .i64 0, .slice none 0 0]], []⟩ 8 (by kernel_rfl) (by kernel_rfl) (by kernel_rfl) (by kernel_rfl)) ?_
 intro W base args ds gs before hval hW _ _
 exact law_contract (C := mkCtx tyL []) tyOK (tys := [(.named 2)]) FnExactDistinctRows_ok rfl rfl
  (AllTV.get (p := fun tvs => FnExactDistinctRows_sp.pre tvs) (fun _ => trivial))
  (AllTV.get (p := fun tvs => (∀ tv ∈ tvs, Wf tv) → FnExactDistinctRows_sp.fn tvs = [⟨.bool, true⟩]) (fun x0 _ => congrArg (fun b => [(⟨.bool, b⟩ : TV)]) (FnExactDistinctRows_law x0)))
  rfl rfl Try.underlying4 noGlob seatLaid reads rfl (fun ds h => by match ds, h with | [d0], _ => rfl) W base args ds gs before hval hW

theorem p1 : (Rows.fnExactDistinctRowsRow.inPlace == Try.prog.inPlace 7) = true := by kernel_rfl

theorem p2 : (Rows.fnExactDistinctRowsRow.unfollowed == Try.prog.unfollowed 7) = true := by kernel_rfl

theorem p3 : (Rows.fnExactDistinctRowsRow.recurses == Try.prog.recurses 7) = true := by kernel_rfl

theorem p4 : (Rows.fnExactDistinctRowsRow.named == Try.prog.varsNamed 7) = true := by kernel_rfl

theorem closed : joinedFacts Try.prog 7 Try.f7 Rows.fnExactDistinctRowsSpec Rows.fnExactDistinctRowsRow = true := by
 unfold joinedFacts
 rw [p1, p2, p3, p4, seatEnter, show (Rows.fnExactDistinctRowsRow.lifted == Try.prog.liftsFinal) = true by rw [seatLifts]; rfl]
 kernel_rfl

theorem proved : Rows.FnExactDistinctRowsSaid :=
 OpenClaim.holds_of_wide 7 Try.f7 rfl rfl rfl rfl rfl rfl rfl ⟨rfl, rfl, rfl, rfl, rfl⟩ rfl rfl rfl rfl rfl (by kernel_rfl) Try.func7 closed (of_decide_eq_true (by kernel_rfl))
  (by unfold Func.isWrapper; first | (rw [if_pos (by decide +kernel)]; kernel_rfl) | (rw [if_neg (by decide +kernel)]; exact ⟨rfl, rfl⟩))
  (fun os started H enc _ => lifted os started H enc)

end Go.Proofs.Ytjcjpeckfikfkaa.fnExactDistinctRows
#print axioms Go.Proofs.Ytjcjpeckfikfkaa.fnExactDistinctRows.proved
