/-
  The statement FnStatsOf is proved. The statistics of a table count what its columns hold. Conditions: none.
-/
import Derived.Test.YtjcjpeckfikfkaaAyY
import Derived.Test.YtjcjpeckfikfkaaAwS
set_option linter.all false
namespace Go.Proofs.Ytjcjpeckfikfkaa.fnStatsOf
open Go Go.Am Go.RowKit Go.ChangeAt Go.WideShapes

theorem reads : ∀ t ∈ Try.f14.params.toList, Try.prog.readableRec t = true ∧ t < Try.prog.types.size := seatReads (by kernel_rfl)

set_option maxRecDepth 100000 in
theorem lifted (os : Os) (started : os.Started) (H : Type) (enc : TypeId × Value → H) :
  ReturnsInHanded {} Try.checked os 14 .any (Rows.fnStatsOfSpec.pre6 enc Try.prog Try.f14 Rows.fnStatsOfRow.domain false) (Rows.fnStatsOfSpec.post enc Try.prog Try.f14 false true false false) := by
 refine returnsInHanded_of_change (C := Try.checked) seatOwn started (by kernel_rfl) Try.func14 (ChangeSpec.witness6 (enc := enc) (C := Try.checked) false ⟨#[], #[.slice none 0 0], []⟩ 8 (by kernel_rfl) (by kernel_rfl) (by kernel_rfl) (by kernel_rfl)) ?_; intro W base args ds gs before hval hW _ _
 exact law_contract (C := mkCtx tyL []) tyOK (tys := [(.slice (.int .u8))]) FnStatsOf_ok rfl rfl
  (AllTV.get (p := fun tvs => FnStatsOf_sp.pre tvs) (fun _ => trivial))
  (AllTV.get (p := fun tvs => (∀ tv ∈ tvs, Wf tv) → FnStatsOf_sp.fn tvs = [⟨.bool, true⟩]) (fun x0 _ => congrArg (fun b => [(⟨.bool, b⟩ : TV)]) (FnStatsOf_law x0)))
  rfl rfl Try.underlying4 noGlob seatLaid reads rfl (fun ds h => by match ds, h with | [d0], _ => rfl) W base args ds gs before hval hW

theorem p1 : (Rows.fnStatsOfRow.inPlace == Try.prog.inPlace 14) = true := by kernel_rfl

theorem p2 : (Rows.fnStatsOfRow.unfollowed == Try.prog.unfollowed 14) = true := by kernel_rfl

theorem p3 : (Rows.fnStatsOfRow.recurses == Try.prog.recurses 14) = true := by kernel_rfl

theorem p4 : (Rows.fnStatsOfRow.named == Try.prog.varsNamed 14) = true := by kernel_rfl

theorem closed : joinedFacts Try.prog 14 Try.f14 Rows.fnStatsOfSpec Rows.fnStatsOfRow = true := by
 unfold joinedFacts; rw [p1, p2, p3, p4, seatEnter, show (Rows.fnStatsOfRow.lifted == Try.prog.liftsFinal) = true by rw [seatLifts]; rfl]; kernel_rfl

theorem proved : Rows.FnStatsOfSaid :=
 OpenClaim.holds_of_wide 14 Try.f14 rfl rfl rfl rfl rfl rfl rfl ⟨rfl, rfl, rfl, rfl, rfl⟩ rfl rfl rfl rfl rfl (by kernel_rfl) Try.func14 closed (of_decide_eq_true (by kernel_rfl))
  (by unfold Func.isWrapper; first | (rw [if_pos (by decide +kernel)]; kernel_rfl) | (rw [if_neg (by decide +kernel)]; exact ⟨rfl, rfl⟩))
  (fun os started H enc _ => lifted os started H enc)

end Go.Proofs.Ytjcjpeckfikfkaa.fnStatsOf
#print axioms Go.Proofs.Ytjcjpeckfikfkaa.fnStatsOf.proved
