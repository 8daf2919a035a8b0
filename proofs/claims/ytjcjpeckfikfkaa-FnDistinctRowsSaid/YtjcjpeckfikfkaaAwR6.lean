/-
  The statement FnDistinctRows is proved. Distinct is idempotent. Conditions: none.
-/
import Derived.Test.YtjcjpeckfikfkaaAwX
import Derived.Test.YtjcjpeckfikfkaaAwS
set_option linter.all false
namespace Go.Proofs.Ytjcjpeckfikfkaa.fnDistinctRows
open Go Go.Am Go.RowKit Go.ChangeAt Go.WideShapes

theorem reads : ∀ t ∈ Try.f6.params.toList, Try.prog.readableRec t = true ∧ t < Try.prog.types.size := seatReads (by kernel_rfl)

set_option maxRecDepth 100000 in
theorem lifted (os : Os) (started : os.Started) (H : Type) (enc : TypeId × Value → H) :
  ReturnsInHanded {} Try.checked os 6 .any (Rows.fnDistinctRowsSpec.pre6 enc Try.prog Try.f6 Rows.fnDistinctRowsRow.domain false) (Rows.fnDistinctRowsSpec.post enc Try.prog Try.f6 false true false false) := by
 refine returnsInHanded_of_change (C := Try.checked) seatOwn started (by kernel_rfl) Try.func6 (ChangeSpec.witness6 (enc := enc) (C := Try.checked) false ⟨#[], #[.slice none 0 0], []⟩ 8 (by kernel_rfl) (by kernel_rfl) (by kernel_rfl) (by kernel_rfl)) ?_
 intro W base args ds gs before hval hW _ _
 exact law_contract (C := mkCtx tyL []) tyOK (tys := [(.slice (.int .u8))]) FnDistinctRows_ok rfl rfl
  (AllTV.get (p := fun tvs => FnDistinctRows_sp.pre tvs) (fun _ => trivial))
  (AllTV.get (p := fun tvs => (∀ tv ∈ tvs, Wf tv) → FnDistinctRows_sp.fn tvs = [⟨.bool, true⟩]) (fun x0 _ => congrArg (fun b => [(⟨.bool, b⟩ : TV)]) (FnDistinctRows_law x0)))
  rfl rfl Try.underlying4 seatLaid reads rfl (fun ds h => by match ds, h with | [d0], _ => rfl) W base args ds gs before hval hW

theorem p1 : (Rows.fnDistinctRowsRow.inPlace == Try.prog.inPlace 6) = true := by kernel_rfl

theorem p2 : (Rows.fnDistinctRowsRow.unfollowed == Try.prog.unfollowed 6) = true := by kernel_rfl

theorem p3 : (Rows.fnDistinctRowsRow.recurses == Try.prog.recurses 6) = true := by kernel_rfl

theorem p4 : (Rows.fnDistinctRowsRow.named == Try.prog.varsNamed 6) = true := by kernel_rfl

theorem closed : joinedFacts Try.prog 6 Try.f6 Rows.fnDistinctRowsSpec Rows.fnDistinctRowsRow = true := by
 unfold joinedFacts
 rw [p1, p2, p3, p4, seatEnter, show (Rows.fnDistinctRowsRow.lifted == Try.prog.liftsFinal) = true by rw [seatLifts]; rfl]
 kernel_rfl

theorem proved : Rows.FnDistinctRowsSaid :=
 OpenClaim.holds_of_wide 6 Try.f6 rfl rfl rfl rfl rfl rfl rfl ⟨rfl, rfl, rfl, rfl, rfl⟩ rfl rfl rfl rfl rfl (by kernel_rfl) Try.func6 closed (of_decide_eq_true (by kernel_rfl))
  (by unfold Func.isWrapper; first | (rw [if_pos (by decide +kernel)]; kernel_rfl) | (rw [if_neg (by decide +kernel)]; exact ⟨rfl, rfl⟩))
  (fun os started H enc _ => lifted os started H enc)

end Go.Proofs.Ytjcjpeckfikfkaa.fnDistinctRows
#print axioms Go.Proofs.Ytjcjpeckfikfkaa.fnDistinctRows.proved
