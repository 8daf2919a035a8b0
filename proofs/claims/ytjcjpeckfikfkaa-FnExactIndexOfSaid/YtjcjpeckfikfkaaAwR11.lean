/-
  The statement FnExactIndexOf is proved. The program's IndexOf returns what the reference's returns, for all arguments. Conditions: none.
-/
import Derived.Test.YtjcjpeckfikfkaaAwTE
import Derived.Test.YtjcjpeckfikfkaaAwS
set_option linter.all false
namespace Go.Proofs.Ytjcjpeckfikfkaa.fnExactIndexOf
open Go Go.Am Go.RowKit Go.ChangeAt Go.WideShapes

theorem reads : ∀ t ∈ Try.f11.params.toList, Try.prog.readableRec t = true ∧ t < Try.prog.types.size := seatReads (by kernel_rfl)

set_option maxRecDepth 100000 in
theorem lifted (os : Os) (started : os.Started) (H : Type) (enc : TypeId × Value → H) :
  ReturnsInHanded {} Try.checked os 11 .any (Rows.fnExactIndexOfSpec.pre6 enc Try.prog Try.f11 Rows.fnExactIndexOfRow.domain false) (Rows.fnExactIndexOfSpec.post enc Try.prog Try.f11 false true false false) := by
 refine returnsInHanded_of_change (C := Try.checked) seatOwn started (by kernel_rfl) Try.func11 (ChangeSpec.witness6 (enc := enc) (C := Try.checked) false ⟨#[], #[.agg #[.int .i64 0, .slice none 0 0], .int .i64 0], []⟩ 8 (by kernel_rfl) (by kernel_rfl) (by kernel_rfl) (by kernel_rfl)) ?_; intro W base args ds gs before hval hW _ _
 exact law_contract (C := mkCtx tyL []) tyOK (tys := [(.named 2), (.int .i64)]) FnExactIndexOf_ok rfl rfl
  (AllTV.get (p := fun tvs => FnExactIndexOf_sp.pre tvs) (fun _ _ => trivial))
  (AllTV.get (p := fun tvs => (∀ tv ∈ tvs, Wf tv) → FnExactIndexOf_sp.fn tvs = [⟨.bool, true⟩]) (fun x0 x1 _ => congrArg (fun b => [(⟨.bool, b⟩ : TV)]) (FnExactIndexOf_law x0 x1)))
  rfl rfl Try.underlying4 noGlob seatLaid reads rfl (fun ds h => by match ds, h with | [d0, d1], _ => rfl) W base args ds gs before hval hW

theorem p1 : (Rows.fnExactIndexOfRow.inPlace == Try.prog.inPlace 11) = true := by kernel_rfl

theorem p2 : (Rows.fnExactIndexOfRow.unfollowed == Try.prog.unfollowed 11) = true := by kernel_rfl

theorem p3 : (Rows.fnExactIndexOfRow.recurses == Try.prog.recurses 11) = true := by kernel_rfl

theorem p4 : (Rows.fnExactIndexOfRow.named == Try.prog.varsNamed 11) = true := by kernel_rfl

theorem closed : joinedFacts Try.prog 11 Try.f11 Rows.fnExactIndexOfSpec Rows.fnExactIndexOfRow = true := by
 unfold joinedFacts; rw [p1, p2, p3, p4, seatEnter, show (Rows.fnExactIndexOfRow.lifted == Try.prog.liftsFinal) = true by rw [seatLifts]; rfl]; kernel_rfl

theorem proved : Rows.FnExactIndexOfSaid :=
 OpenClaim.holds_of_wide 11 Try.f11 rfl rfl rfl rfl rfl rfl rfl ⟨rfl, rfl, rfl, rfl, rfl⟩ rfl rfl rfl rfl rfl (by kernel_rfl) Try.func11 closed (of_decide_eq_true (by kernel_rfl))
  (by unfold Func.isWrapper; first | (rw [if_pos (by decide +kernel)]; kernel_rfl) | (rw [if_neg (by decide +kernel)]; exact ⟨rfl, rfl⟩))
  (fun os started H enc _ => lifted os started H enc)

end Go.Proofs.Ytjcjpeckfikfkaa.fnExactIndexOf
#print axioms Go.Proofs.Ytjcjpeckfikfkaa.fnExactIndexOf.proved
