/-
  The statement FnMinimalCover is proved. A cover is equivalent. Conditions: none.
-/
import Derived.Test.YtmijmkbnmcmgcaaAdZ
import Derived.Test.YtmijmkbnmcmgcaaAdS
set_option linter.all false
namespace Go.Proofs.Ytmijmkbnmcmgcaa.fnMinimalCover
open Go Go.Am Go.RowKit Go.ChangeAt Go.WideShapes

theorem reads : ∀ t ∈ Try.f10.params.toList, Try.prog.readableRec t = true ∧ t < Try.prog.types.size := seatReads (by kernel_rfl)

set_option maxRecDepth 100000 in
theorem lifted (os : Os) (started : os.Started) (H : Type) (enc : TypeId × Value → H) :
  ReturnsInHanded {} Try.checked os 10 .any (Rows.fnMinimalCoverSpec.pre6 enc Try.prog Try.f10 Rows.fnMinimalCoverRow.domain false) (Rows.fnMinimalCoverSpec.post enc Try.prog Try.f10 false true false false) := by
 refine returnsInHanded_of_change (C := Try.checked) seatOwn started (by kernel_rfl) Try.func10 (ChangeSpec.witness6 (enc := enc) (C := Try.checked) false ⟨#[], #[.slice none 0 0], []⟩ 8 (by kernel_rfl) (by kernel_rfl) (by kernel_rfl) (by kernel_rfl)) ?_
 intro W base args ds gs before hval hW _ _
 exact law_contract (C := mkCtx tyL []) tyOK (tys := [(.slice (.int .u8))]) FnMinimalCover_ok rfl rfl
  (AllTV.get (p := fun tvs => FnMinimalCover_sp.pre tvs) (fun _ => trivial))
  (AllTV.get (p := fun tvs => (∀ tv ∈ tvs, Wf tv) → FnMinimalCover_sp.fn tvs = [⟨.bool, true⟩]) (fun x0 _ => congrArg (fun b => [(⟨.bool, b⟩ : TV)]) (FnMinimalCover_law x0)))
  rfl rfl Try.underlying4 seatLaid reads rfl (fun ds h => by match ds, h with | [d0], _ => rfl) W base args ds gs before hval hW

theorem p1 : (Rows.fnMinimalCoverRow.inPlace == Try.prog.inPlace 10) = true := by kernel_rfl

theorem p2 : (Rows.fnMinimalCoverRow.unfollowed == Try.prog.unfollowed 10) = true := by kernel_rfl

theorem p3 : (Rows.fnMinimalCoverRow.recurses == Try.prog.recurses 10) = true := by kernel_rfl

theorem p4 : (Rows.fnMinimalCoverRow.named == Try.prog.varsNamed 10) = true := by kernel_rfl

theorem closed : joinedFacts Try.prog 10 Try.f10 Rows.fnMinimalCoverSpec Rows.fnMinimalCoverRow = true := by
 unfold joinedFacts
 rw [p1, p2, p3, p4, seatEnter, show (Rows.fnMinimalCoverRow.lifted == Try.prog.liftsFinal) = true by rw [seatLifts]; rfl]
 kernel_rfl

theorem proved : Rows.FnMinimalCoverSaid :=
 OpenClaim.holds_of_wide 10 Try.f10 rfl rfl rfl rfl rfl rfl rfl ⟨rfl, rfl, rfl, rfl, rfl⟩ rfl rfl rfl rfl rfl (by kernel_rfl) Try.func10 closed (of_decide_eq_true (by kernel_rfl))
  (by unfold Func.isWrapper; first | (rw [if_pos (by decide +kernel)]; kernel_rfl) | (rw [if_neg (by decide +kernel)]; exact ⟨rfl, rfl⟩))
  (fun os started H enc _ => lifted os started H enc)

end Go.Proofs.Ytmijmkbnmcmgcaa.fnMinimalCover
#print axioms Go.Proofs.Ytmijmkbnmcmgcaa.fnMinimalCover.proved
