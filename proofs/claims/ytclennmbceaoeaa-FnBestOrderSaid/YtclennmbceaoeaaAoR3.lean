/-
  The statement FnBestOrder is proved. No order is cheaper. Conditions: none.
-/
import Derived.Test.YtclennmbceaoeaaAoQ5
import Derived.Test.YtclennmbceaoeaaAoS
set_option linter.all false
namespace Go.Proofs.Ytclennmbceaoeaa.fnBestOrder
open Go Go.Am Go.RowKit Go.ChangeAt Go.WideShapes

theorem reads : ∀ t ∈ Try.f3.params.toList, Try.prog.readableRec t = true ∧ t < Try.prog.types.size := seatReads (by kernel_rfl)

set_option maxRecDepth 100000 in
theorem lifted (os : Os) (started : os.Started) (H : Type) (enc : TypeId × Value → H) :
  ReturnsInHanded {} Try.checked os 3 .any (Rows.fnBestOrderSpec.pre6 enc Try.prog Try.f3 Rows.fnBestOrderRow.domain false) (Rows.fnBestOrderSpec.post enc Try.prog Try.f3 false true false false) := by
 refine returnsInHanded_of_change (C := Try.checked) seatOwn started (by kernel_rfl) Try.func3 (ChangeSpec.witness6 (enc := enc) (C := Try.checked) false ⟨#[], #[.slice none 0 0], []⟩ 8 (by kernel_rfl) (by kernel_rfl) (by kernel_rfl) (by kernel_rfl)) ?_; intro W base args ds gs before hval hW _ _
 exact law_contract (C := mkCtx tyL []) tyOK (tys := [(.slice (.int .u8))]) FnBestOrder_ok rfl rfl
  (AllTV.get (p := fun tvs => FnBestOrder_sp.pre tvs) (fun _ => trivial))
  (AllTV.get (p := fun tvs => (∀ tv ∈ tvs, Wf tv) → FnBestOrder_sp.fn tvs = [⟨.bool, true⟩]) (fun x0 _ => congrArg (fun b => [(⟨.bool, b⟩ : TV)]) (FnBestOrder_law x0)))
  rfl rfl Try.underlying4 noGlob seatLaid reads rfl (fun ds h => by match ds, h with | [d0], _ => rfl) W base args ds gs before hval hW

theorem p1 : (Rows.fnBestOrderRow.inPlace == Try.prog.inPlace 3) = true := by kernel_rfl

theorem p2 : (Rows.fnBestOrderRow.unfollowed == Try.prog.unfollowed 3) = true := by kernel_rfl

theorem p3 : (Rows.fnBestOrderRow.recurses == Try.prog.recurses 3) = true := by kernel_rfl

theorem p4 : (Rows.fnBestOrderRow.named == Try.prog.varsNamed 3) = true := by kernel_rfl

theorem closed : joinedFacts Try.prog 3 Try.f3 Rows.fnBestOrderSpec Rows.fnBestOrderRow = true := by
 unfold joinedFacts; rw [p1, p2, p3, p4, seatEnter, show (Rows.fnBestOrderRow.lifted == Try.prog.liftsFinal) = true by rw [seatLifts]; rfl]; kernel_rfl

theorem proved : Rows.FnBestOrderSaid :=
 OpenClaim.holds_of_wide 3 Try.f3 rfl rfl rfl rfl rfl rfl rfl ⟨rfl, rfl, rfl, rfl, rfl⟩ rfl rfl rfl rfl rfl (by kernel_rfl) Try.func3 closed (of_decide_eq_true (by kernel_rfl))
  (by unfold Func.isWrapper; first | (rw [if_pos (by decide +kernel)]; kernel_rfl) | (rw [if_neg (by decide +kernel)]; exact ⟨rfl, rfl⟩))
  (fun os started H enc _ => lifted os started H enc)

end Go.Proofs.Ytclennmbceaoeaa.fnBestOrder
#print axioms Go.Proofs.Ytclennmbceaoeaa.fnBestOrder.proved
