/-
  The statement FnUnionAll is proved. Unions add counts. Conditions: none.
-/
import Derived.Test.YtjcjpeckfikfkaaAwX
import Derived.Test.YtjcjpeckfikfkaaAwS
set_option linter.all false
namespace Go.Proofs.Ytjcjpeckfikfkaa.fnUnionAll
open Go Go.Am Go.RowKit Go.ChangeAt Go.WideShapes

theorem reads : ∀ t ∈ Try.f8.params.toList, Try.prog.readableRec t = true ∧ t < Try.prog.types.size := seatReads (by kernel_rfl)

set_option maxRecDepth 100000 in
theorem lifted (os : Os) (started : os.Started) (H : Type) (enc : TypeId × Value → H) :
  ReturnsInHanded {} Try.checked os 8 .any (Rows.fnUnionAllSpec.pre6 enc Try.prog Try.f8 Rows.fnUnionAllRow.domain false) (Rows.fnUnionAllSpec.post enc Try.prog Try.f8 false true false false) := by
 refine returnsInHanded_of_change (C := Try.checked) seatOwn started (by kernel_rfl) Try.func8 (ChangeSpec.witness6 (enc := enc) (C := Try.checked) false ⟨#[], #[.slice none 0 0], []⟩ 8 (by kernel_rfl) (by kernel_rfl) (by kernel_rfl) (by kernel_rfl)) ?_
 intro W base args ds gs before hval hW _ _
 exact law_contract (C := mkCtx tyL []) tyOK (tys := [(.slice (.int .u8))]) FnUnionAll_ok rfl rfl
  (AllTV.get (p := fun tvs => FnUnionAll_sp.pre tvs) (fun _ => trivial))
  (AllTV.get (p := fun tvs => (∀ tv ∈ tvs, Wf tv) → FnUnionAll_sp.fn tvs = [⟨.bool, true⟩]) (fun x0 _ => congrArg (fun b => [(⟨.bool, b⟩ : TV)]) (FnUnionAll_law x0)))
  rfl rfl Try.underlying4 seatLaid reads rfl (fun ds h => by match ds, h with | [d0], _ => rfl) W base args ds gs before hval hW

theorem p1 : (Rows.fnUnionAllRow.inPlace == Try.prog.inPlace 8) = true := by kernel_rfl

theorem p2 : (Rows.fnUnionAllRow.unfollowed == Try.prog.unfollowed 8) = true := by kernel_rfl

theorem p3 : (Rows.fnUnionAllRow.recurses == Try.prog.recurses 8) = true := by kernel_rfl

theorem p4 : (Rows.fnUnionAllRow.named == Try.prog.varsNamed 8) = true := by kernel_rfl

theorem closed : joinedFacts Try.prog 8 Try.f8 Rows.fnUnionAllSpec Rows.fnUnionAllRow = true := by
 unfold joinedFacts
 rw [p1, p2, p3, p4, seatEnter, show (Rows.fnUnionAllRow.lifted == Try.prog.liftsFinal) = true by rw [seatLifts]; rfl]
 kernel_rfl

theorem proved : Rows.FnUnionAllSaid :=
 OpenClaim.holds_of_wide 8 Try.f8 rfl rfl rfl rfl rfl rfl rfl ⟨rfl, rfl, rfl, rfl, rfl⟩ rfl rfl rfl rfl rfl (by kernel_rfl) Try.func8 closed (of_decide_eq_true (by kernel_rfl))
  (by unfold Func.isWrapper; first | (rw [if_pos (by decide +kernel)]; kernel_rfl) | (rw [if_neg (by decide +kernel)]; exact ⟨rfl, rfl⟩))
  (fun os started H enc _ => lifted os started H enc)

end Go.Proofs.Ytjcjpeckfikfkaa.fnUnionAll
#print axioms Go.Proofs.Ytjcjpeckfikfkaa.fnUnionAll.proved
