/-
  The statement FnExactIsKey is proved: the program's IsKey returns what the reference's returns, for all arguments. Conditions: none.
-/
import Derived.Test.YtmijmkbnmcmgcaaAdL
import Derived.Test.YtmijmkbnmcmgcaaAmZ
import Derived.Test.YtmijmkbnmcmgcaaRows
import Derived.JoinedCond
set_option linter.all false
namespace Go.Proofs.Ytmijmkbnmcmgcaa.fnExactIsKey
open Go Go.Am Go.RowKit Go.ChangeAt Go.WideShapes

theorem own : ownKnob Try.prog.godebug = none := by kernel_rfl

theorem laid : laidOutB Try.prog = true := by kernel_rfl

theorem reads : ∀ t ∈ Try.f3.params.toList, Try.prog.readableRec t = true ∧ t < Try.prog.types.size := by
  have h : (Try.f3.params.toList.all fun t => Program.readableRec Try.prog t && Nat.blt t Try.prog.types.size) = true := by kernel_rfl
  intro t ht
  have := List.all_eq_true.1 h t ht
  simpa using this

set_option maxRecDepth 100000 in
theorem lifted (os : Os) (started : os.Started) (H : Type) (enc : TypeId × Value → H) :
    ReturnsInHanded {} Try.checked os 3 .any (Rows.fnExactIsKeySpec.pre6 enc Try.prog Try.f3 Rows.fnExactIsKeyRow.domain false) (Rows.fnExactIsKeySpec.post enc Try.prog Try.f3 false true false false) := by
  refine returnsInHanded_of_change (C := Try.checked) own started (by kernel_rfl) Try.func3 (ChangeSpec.witness6 (enc := enc) (C := Try.checked) false ⟨#[], #[.slice none 0 0, .int .i64 0, .int .i64 0], []⟩ 8 (by kernel_rfl) (by kernel_rfl) (by kernel_rfl) (by kernel_rfl)) ?_
  intro W base args ds gs before hval hW _ _
  exact law_contract (C := mkCtx tyL []) tyOK (tys := [.slice (.named 0), .int .i64, .int .i64]) FnExactIsKey_ok rfl rfl
    (AllTV.get (p := fun tvs => FnExactIsKey_sp.pre tvs) (fun _ _ _ => trivial))
    (AllTV.get (p := fun tvs => (∀ tv ∈ tvs, Wf tv) → FnExactIsKey_sp.fn tvs = [⟨.bool, true⟩]) (fun a w s _ => congrArg (fun b => [(⟨.bool, b⟩ : TV)]) (FnExactIsKey_law a w s)))
    rfl rfl Try.underlying4 laid reads rfl (fun ds h => by match ds, h with | [d1, d2, d3], _ => rfl) W base args ds gs before hval hW

theorem proved : Rows.FnExactIsKeySaid :=
  OpenClaim.holds_of_wide 3 Try.f3 rfl rfl rfl rfl rfl rfl rfl ⟨rfl, rfl, rfl, rfl, rfl⟩ rfl rfl rfl rfl rfl (by kernel_rfl) Try.func3 (by kernel_rfl) (of_decide_eq_true (by kernel_rfl))
    (by unfold Func.isWrapper; first | (rw [if_pos (by decide +kernel)]; kernel_rfl) | (rw [if_neg (by decide +kernel)]; exact ⟨rfl, rfl⟩))
    (fun os started H enc _ => lifted os started H enc)

end Go.Proofs.Ytmijmkbnmcmgcaa.fnExactIsKey
#print axioms Go.Proofs.Ytmijmkbnmcmgcaa.fnExactIsKey.proved
