/-
  The statement FnTreeCost is proved. Tree costs add up. Conditions: none.
-/
import Derived.Test.YtpoohhjlpepmfaaAkD
import Derived.Test.YtpoohhjlpepmfaaAjS
set_option linter.all false
namespace Go.Proofs.Ytpoohhjlpepmfaa.fnTreeCost
open Go Go.Am Go.RowKit Go.ChangeAt Go.WideShapes

theorem reads : ∀ t ∈ Try.f7.params.toList, Try.prog.readableRec t = true ∧ t < Try.prog.types.size := seatReads (by kernel_rfl)

set_option maxRecDepth 100000 in
theorem lifted (os : Os) (started : os.Started) (H : Type) (enc : TypeId × Value → H) :
  ReturnsInHanded {} Try.checked os 7 .any (Rows.fnTreeCostSpec.pre6 enc Try.prog Try.f7 Rows.fnTreeCostRow.domain false) (Rows.fnTreeCostSpec.post enc Try.prog Try.f7 false true false false) := by
 refine returnsInHanded_of_change (C := Try.checked) seatOwn started (by kernel_rfl) Try.func7 (ChangeSpec.witness6 (enc := enc) (C := Try.checked) false ⟨#[], #[.slice none 0 0], []⟩ 8 (by kernel_rfl) (by kernel_rfl) (by kernel_rfl) (by kernel_rfl)) ?_
 intro W base args ds gs before hval hW _ _
 exact law_contract (C := mkCtx tyL []) tyOK (tys := [(.slice (.int .u8))]) FnTreeCost_ok rfl rfl
  (AllTV.get (p := fun tvs => FnTreeCost_sp.pre tvs) (fun _ => trivial))
  (AllTV.get (p := fun tvs => (∀ tv ∈ tvs, Wf tv) → FnTreeCost_sp.fn tvs = [⟨.bool, true⟩]) (fun x0 _ => congrArg (fun b => [(⟨.bool, b⟩ : TV)]) (FnTreeCost_law x0)))
  rfl rfl Try.underlying4 seatLaid reads rfl (fun ds h => by match ds, h with | [d0], _ => rfl) W base args ds gs before hval hW

theorem p1 : (Rows.fnTreeCostRow.inPlace == Try.prog.inPlace 7) = true := by kernel_rfl

theorem p2 : (Rows.fnTreeCostRow.unfollowed == Try.prog.unfollowed 7) = true := by kernel_rfl

theorem p3 : (Rows.fnTreeCostRow.recurses == Try.prog.recurses 7) = true := by kernel_rfl

theorem p4 : (Rows.fnTreeCostRow.named == Try.prog.varsNamed 7) = true := by kernel_rfl

theorem closed : joinedFacts Try.prog 7 Try.f7 Rows.fnTreeCostSpec Rows.fnTreeCostRow = true := by
 unfold joinedFacts
 rw [p1, p2, p3, p4, seatEnter, show (Rows.fnTreeCostRow.lifted == Try.prog.liftsFinal) = true by rw [seatLifts]; rfl]
 kernel_rfl

theorem proved : Rows.FnTreeCostSaid :=
 OpenClaim.holds_of_wide 7 Try.f7 rfl rfl rfl rfl rfl rfl rfl ⟨rfl, rfl, rfl, rfl, rfl⟩ rfl rfl rfl rfl rfl (by kernel_rfl) Try.func7 closed (of_decide_eq_true (by kernel_rfl))
  (by unfold Func.isWrapper; first | (rw [if_pos (by decide +kernel)]; kernel_rfl) | (rw [if_neg (by decide +kernel)]; exact ⟨rfl, rfl⟩))
  (fun os started H enc _ => lifted os started H enc)

end Go.Proofs.Ytpoohhjlpepmfaa.fnTreeCost
#print axioms Go.Proofs.Ytpoohhjlpepmfaa.fnTreeCost.proved
