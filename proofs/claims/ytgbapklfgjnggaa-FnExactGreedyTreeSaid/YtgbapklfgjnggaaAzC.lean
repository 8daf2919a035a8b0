/-
  A part of the proof of this claim (AzC): what functions of the program compute, and plain facts of that. No conditions.
-/
import Derived.Test.YtgbapklfgjnggaaAzE
import Derived.Test.YtgbapklfgjnggaaAxD
import Derived.Test.YtgbapklfgjnggaaAxX
import Derived.Test.YtgbapklfgjnggaaAnG
set_option linter.all false
namespace Go.Proofs.Ytgbapklfgjnggaa
open Go Go.Am
open List (length getD)

theorem cost_fuel {g : Graph} : ∀ (f1 f2 : Nat) (t : JoinTree), treeMask t (length g.Rows : Int) ≠ 0 → SizeOf.sizeOf t < f1 → SizeOf.sizeOf t < f2 → treeCost_r f1 g t = treeCost_r f2 g t := by
 intro f1
 induction f1 with
 | zero => intro f2 t _ h; omega
 | succ f1 ih =>
  intro f2 t hm h1 h2; obtain ⟨f2, rfl⟩ : ∃ j, f2 = j + 1 := ⟨f2 - 1, by omega⟩; unfold treeCost_r; by_cases h0 : t.Kids.length = 0
  · rw [kids_beq0 h0, cond_true, cond_true]
  · rw [kids_beq h0, cond_false, cond_false]; have j := join2 h0 hm; have k0 := kid_lt (t := t) (i := 0) (by omega); have k1 := kid_lt (t := t) (i := 1) (by have := j.two; omega); rw [ih f2 _ j.ne0 (by omega) (by omega), ih f2 _ j.ne1 (by omega) (by omega)]

end Go.Proofs.Ytgbapklfgjnggaa
