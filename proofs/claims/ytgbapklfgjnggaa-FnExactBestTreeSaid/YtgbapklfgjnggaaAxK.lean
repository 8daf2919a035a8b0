/-
  A part of the proof of this claim (AxK): what functions of the program compute, and plain facts of that. No conditions.
-/
import Derived.Test.YtgbapklfgjnggaaAxJ
set_option linter.all false
namespace Go.Proofs.Ytgbapklfgjnggaa
open Go Go.Am
noncomputable section

theorem part_iff : ∀ p m : Fin 32, (bits .andNot .i64 (p.val : Int) (m.val : Int) == 0) = !(bits .and .i64 (p.val : Int) (m.val : Int) != (p.val : Int)) := by decide +kernel

theorem part_iff' {p m : Nat} (hp : p < 32) (hm : m < 32) : (bits .andNot .i64 (p : Int) (m : Int) == 0) = !(bits .and .i64 (p : Int) (m : Int) != (p : Int)) := part_iff ⟨p, hp⟩ ⟨m, hm⟩

end
end Go.Proofs.Ytgbapklfgjnggaa
