/-
  A part of the proof of this claim (AxV): what functions of the program compute, and plain facts of that. No conditions.
-/
import Derived.Test.YtgbapklfgjnggaaAxJ
import Derived.Test.YtgbapklfgjnggaaAxQ
set_option linter.all false
namespace Go.Proofs.Ytgbapklfgjnggaa
open Go Go.Am

theorem firsts_ok {g : Graph} (hV : VG g) : (bestCosts g).2.length ≤ 32 ∧ ∀ m : Nat, m < (bestCosts g).2.length → List.getD (bestCosts g).2 m 0 = 0 ∨ Part m (List.getD (bestCosts g).2 m 0) := by
 have hA := gAll_b hV
 obtain ⟨h1, h2, h3, h4⟩ := impl_best hV
 refine ⟨by omega, fun m hm => ?_⟩
 by_cases h0 : m = 0
 ·
  subst h0; exact .inl h4.zero
 ·
  rw [h4.eq m (by omega) (by omega)]
  rcases mn_mem (c := (bestCosts g).1) (mask := m) (parts (m : Int)) (-1, 0) with h | h
  ·
   exact .inl (by unfold best; rw [h])
  ·
   exact .inr (parts_part h.1)

end Go.Proofs.Ytgbapklfgjnggaa
