/-
  The statement FnExactBestOrder is proved. The program's BestOrder returns what the reference's returns, for all arguments, in memory of its own. Conditions: none.
-/
import Derived.Test.YtclennmbceaoeaaAoT3
import Derived.Test.YtclennmbceaoeaaAoS
set_option linter.all false
namespace Go.Proofs.Ytclennmbceaoeaa.fnExactBestOrder
open Go Go.Am Go.RowKit Go.ChangeAt Go.WideShapes

theorem reads : ∀ t ∈ Try.f4.params.toList, Try.prog.readableRec t = true ∧ t < Try.prog.types.size := seatReads (by kernel_rfl)

set_option maxRecDepth 100000 in
theorem lifted (os : Os) (started : os.Started) (H : Type) (enc : TypeId × Value → H) :
  ReturnsInHanded {} Try.checked os 4 .any (Rows.fnExactBestOrderSpec.pre6 enc Try.prog Try.f4 Rows.fnExactBestOrderRow.domain false) (Rows.fnExactBestOrderSpec.post enc Try.prog Try.f4 false true false false) := by
 refine returnsInHanded_of_change (C := Try.checked) seatOwn started (by kernel_rfl) Try.func4 (ChangeSpec.witness6 (enc := enc) (C := Try.checked) false ⟨#[], #[.agg #[.slice none 0 0, .slice none 0 0]], []⟩ 8 (by kernel_rfl) (by kernel_rfl) (by kernel_rfl) (by kernel_rfl)) ?_; intro W base args ds gs before hval hW _ _
 exact law_contract (C := mkCtx tyL []) tyOK (tys := [(.named 1)]) FnExactBestOrder_ok rfl rfl
  (AllTV.get (p := fun tvs => FnExactBestOrder_sp.pre tvs) (fun _ => trivial))
  (AllTV.get (p := fun tvs => (∀ tv ∈ tvs, Wf tv) → FnExactBestOrder_sp.fn tvs = [⟨.bool, true⟩]) (fun x0 _ => congrArg (fun b => [(⟨.bool, b⟩ : TV)]) (FnExactBestOrder_law x0)))
  rfl rfl Try.underlying4 noGlob seatLaid reads rfl (fun ds h => by match ds, h with | [d0], _ => rfl) W base args ds gs before hval hW

theorem p1 : (Rows.fnExactBestOrderRow.inPlace == Try.prog.inPlace 4) = true := by kernel_rfl

theorem p2 : (Rows.fnExactBestOrderRow.unfollowed == Try.prog.unfollowed 4) = true := by kernel_rfl

theorem p3 : (Rows.fnExactBestOrderRow.recurses == Try.prog.recurses 4) = true := by kernel_rfl

theorem p4 : (Rows.fnExactBestOrderRow.named == Try.prog.varsNamed 4) = true := by kernel_rfl

theorem closed : joinedFacts Try.prog 4 Try.f4 Rows.fnExactBestOrderSpec Rows.fnExactBestOrderRow = true := by
 unfold joinedFacts; rw [p1, p2, p3, p4, seatEnter, show (Rows.fnExactBestOrderRow.lifted == Try.prog.liftsFinal) = true by rw [seatLifts]; rfl]; kernel_rfl

theorem proved : Rows.FnExactBestOrderSaid :=
 OpenClaim.holds_of_wide 4 Try.f4 rfl rfl rfl rfl rfl rfl rfl ⟨rfl, rfl, rfl, rfl, rfl⟩ rfl rfl rfl rfl rfl (by kernel_rfl) Try.func4 closed (of_decide_eq_true (by kernel_rfl))
  (by unfold Func.isWrapper; first | (rw [if_pos (by decide +kernel)]; kernel_rfl) | (rw [if_neg (by decide +kernel)]; exact ⟨rfl, rfl⟩))
  (fun os started H enc _ => lifted os started H enc)

end Go.Proofs.Ytclennmbceaoeaa.fnExactBestOrder
#print axioms Go.Proofs.Ytclennmbceaoeaa.fnExactBestOrder.proved
