/-
  The statement FnExactGreedyTree is proved. The program's GreedyTree returns what the reference's returns, for all arguments, in memory of its own. Conditions: none.
-/
import Derived.Test.YtgbapklfgjnggaaAxH3
import Derived.Test.YtgbapklfgjnggaaAxS
set_option linter.all false
namespace Go.Proofs.Ytgbapklfgjnggaa.fnExactGreedyTree
open Go Go.Am Go.RowKit Go.ChangeAt Go.WideShapes

theorem reads : ∀ t ∈ Try.f12.params.toList, Try.prog.readableRec t = true ∧ t < Try.prog.types.size := seatReads (by kernel_rfl)

set_option maxRecDepth 100000 in
theorem lifted (os : Os) (started : os.Started) (H : Type) (enc : TypeId × Value → H) :
  ReturnsInHanded {} Try.checked os 12 .any (Rows.fnExactGreedyTreeSpec.pre6 enc Try.prog Try.f12 Rows.fnExactGreedyTreeRow.domain false) (Rows.fnExactGreedyTreeSpec.post enc Try.prog Try.f12 false true false false) := by
 refine returnsInHanded_of_change (C := Try.checked) seatOwn started (by kernel_rfl) Try.func12 (ChangeSpec.witness6 (enc := enc) (C := Try.checked) false ⟨#[], #[.agg #[.slice none 0 0, .slice none 0 0]], []⟩ 8 (by kernel_rfl) (by kernel_rfl) (by kernel_rfl) (by kernel_rfl)) ?_; intro W base args ds gs before hval hW _ _
 exact law_contract (C := mkCtx tyL []) tyOK (tys := [(.named 1)]) FnExactGreedyTree_ok rfl rfl
  (AllTV.get (p := fun tvs => FnExactGreedyTree_sp.pre tvs) (fun _ => trivial))
  (AllTV.get (p := fun tvs => (∀ tv ∈ tvs, Wf tv) → FnExactGreedyTree_sp.fn tvs = [⟨.bool, true⟩]) (fun x0 _ => congrArg (fun b => [(⟨.bool, b⟩ : TV)]) (FnExactGreedyTree_law x0)))
  rfl rfl Try.underlying4 noGlob seatLaid reads rfl (fun ds h => by match ds, h with | [d0], _ => rfl) W base args ds gs before hval hW

theorem p1 : (Rows.fnExactGreedyTreeRow.inPlace == Try.prog.inPlace 12) = true := by kernel_rfl

theorem p2 : (Rows.fnExactGreedyTreeRow.unfollowed == Try.prog.unfollowed 12) = true := by kernel_rfl

theorem p3 : (Rows.fnExactGreedyTreeRow.recurses == Try.prog.recurses 12) = true := by kernel_rfl

theorem p4 : (Rows.fnExactGreedyTreeRow.named == Try.prog.varsNamed 12) = true := by kernel_rfl

theorem closed : joinedFacts Try.prog 12 Try.f12 Rows.fnExactGreedyTreeSpec Rows.fnExactGreedyTreeRow = true := by
 unfold joinedFacts; rw [p1, p2, p3, p4, seatEnter, show (Rows.fnExactGreedyTreeRow.lifted == Try.prog.liftsFinal) = true by rw [seatLifts]; rfl]; kernel_rfl

theorem proved : Rows.FnExactGreedyTreeSaid :=
 OpenClaim.holds_of_wide 12 Try.f12 rfl rfl rfl rfl rfl rfl rfl ⟨rfl, rfl, rfl, rfl, rfl⟩ rfl rfl rfl rfl rfl (by kernel_rfl) Try.func12 closed (of_decide_eq_true (by kernel_rfl))
  (by unfold Func.isWrapper; first | (rw [if_pos (by decide +kernel)]; kernel_rfl) | (rw [if_neg (by decide +kernel)]; exact ⟨rfl, rfl⟩))
  (fun os started H enc _ => lifted os started H enc)

end Go.Proofs.Ytgbapklfgjnggaa.fnExactGreedyTree
#print axioms Go.Proofs.Ytgbapklfgjnggaa.fnExactGreedyTree.proved
