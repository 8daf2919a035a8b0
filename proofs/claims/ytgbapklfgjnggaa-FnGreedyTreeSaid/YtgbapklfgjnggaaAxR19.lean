/-
  The statement FnGreedyTree is proved. A greedy tree is not better than the best one. Conditions: none.
-/
import Derived.Test.YtgbapklfgjnggaaAxG6
import Derived.Test.YtgbapklfgjnggaaAxS
set_option linter.all false
namespace Go.Proofs.Ytgbapklfgjnggaa.fnGreedyTree
open Go Go.Am Go.RowKit Go.ChangeAt Go.WideShapes

theorem reads : ∀ t ∈ Try.f13.params.toList, Try.prog.readableRec t = true ∧ t < Try.prog.types.size := seatReads (by kernel_rfl)

set_option maxRecDepth 100000 in
theorem lifted (os : Os) (started : os.Started) (H : Type) (enc : TypeId × Value → H) :
  ReturnsInHanded {} Try.checked os 13 .any (Rows.fnGreedyTreeSpec.pre6 enc Try.prog Try.f13 Rows.fnGreedyTreeRow.domain false) (Rows.fnGreedyTreeSpec.post enc Try.prog Try.f13 false true false false) := by
 refine returnsInHanded_of_change (C := Try.checked) seatOwn started (by kernel_rfl) Try.func13 (ChangeSpec.witness6 (enc := enc) (C := Try.checked) false ⟨#[], #[.slice none 0 0], []⟩ 8 (by kernel_rfl) (by kernel_rfl) (by kernel_rfl) (by kernel_rfl)) ?_
 intro W base args ds gs before hval hW _ _
 exact law_contract (C := mkCtx tyL []) tyOK (tys := [(.slice (.int .u8))]) FnGreedyTree_ok rfl rfl
  (AllTV.get (p := fun tvs => FnGreedyTree_sp.pre tvs) (fun _ => trivial))
  (AllTV.get (p := fun tvs => (∀ tv ∈ tvs, Wf tv) → FnGreedyTree_sp.fn tvs = [⟨.bool, true⟩]) (fun x0 _ => congrArg (fun b => [(⟨.bool, b⟩ : TV)]) (FnGreedyTree_law x0)))
  rfl rfl Try.underlying4 noGlob seatLaid reads rfl (fun ds h => by match ds, h with | [d0], _ => rfl) W base args ds gs before hval hW

theorem p1 : (Rows.fnGreedyTreeRow.inPlace == Try.prog.inPlace 13) = true := by kernel_rfl

theorem p2 : (Rows.fnGreedyTreeRow.unfollowed == Try.prog.unfollowed 13) = true := by kernel_rfl

theorem p3 : (Rows.fnGreedyTreeRow.recurses == Try.prog.recurses 13) = true := by kernel_rfl

theorem p4 : (Rows.fnGreedyTreeRow.named == Try.prog.varsNamed 13) = true := by kernel_rfl

theorem closed : joinedFacts Try.prog 13 Try.f13 Rows.fnGreedyTreeSpec Rows.fnGreedyTreeRow = true := by
 unfold joinedFacts
 rw [p1, p2, p3, p4, seatEnter, show (Rows.fnGreedyTreeRow.lifted == Try.prog.liftsFinal) = true by rw [seatLifts]; rfl]
 kernel_rfl

theorem proved : Rows.FnGreedyTreeSaid :=
 OpenClaim.holds_of_wide 13 Try.f13 rfl rfl rfl rfl rfl rfl rfl ⟨rfl, rfl, rfl, rfl, rfl⟩ rfl rfl rfl rfl rfl (by kernel_rfl) Try.func13 closed (of_decide_eq_true (by kernel_rfl))
  (by unfold Func.isWrapper; first | (rw [if_pos (by decide +kernel)]; kernel_rfl) | (rw [if_neg (by decide +kernel)]; exact ⟨rfl, rfl⟩))
  (fun os started H enc _ => lifted os started H enc)

end Go.Proofs.Ytgbapklfgjnggaa.fnGreedyTree
#print axioms Go.Proofs.Ytgbapklfgjnggaa.fnGreedyTree.proved
