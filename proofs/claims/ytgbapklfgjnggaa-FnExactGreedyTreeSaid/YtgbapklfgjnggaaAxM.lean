/-
  A part of the proof of this claim (AxM): what functions of the program compute, and plain facts of that. No conditions.
-/
import Derived.Test.YtgbapklfgjnggaaAx6
set_option linter.all false
namespace Go.Proofs.Ytgbapklfgjnggaa
open Go Go.Am
open List (length getD)

theorem kids_beq {t : JoinTree} (hk : t.Kids.length ≠ 0) : ((length (JoinTree.Kids t) : Int) == 0) = false := by
 simp; intro h; exact hk (by rw [h]; rfl)

theorem kids_beq0 {t : JoinTree} (hk : t.Kids.length = 0) : ((length (JoinTree.Kids t) : Int) == 0) = true := by rw [hk]; rfl

theorem mask_range {n : Int} (hn : n ≤ 5) (t : JoinTree) : 0 ≤ treeMask t n ∧ treeMask t n < 32 := mask_b hn (SizeOf.sizeOf t + 1) t

theorem eqJoinTree_refl : ∀ (f : Nat) (a : JoinTree), SizeOf.sizeOf a < f → eqJoinTree_r f a a = true := by
 intro f
 induction f with
 | zero => intro a h; omega
 | succ f ih =>
  intro a h
  have hc : eqJoinTree_c0 (eqJoinTree_r f) a a = true := by
   unfold eqJoinTree_c0; simp only [bne_self_eq_false, cond_false]; rcases all_loop (eqJoinTree_l0 (eqJoinTree_r f) a a) a.Kids.length (fun i => !(eqJoinTree_r f (getD a.Kids i JoinTree.zero) (getD a.Kids i JoinTree.zero))) (fun k i => rfl) (a.Kids.length - 0 + 1) 0 (by omega) with ⟨h1, _⟩ | ⟨_, j, _, hj, h2⟩
   · rw [h1]; rfl
   · have := kid_lt (t := a) hj; rw [ih _ (by omega)] at h2; cases h2
  unfold eqJoinTree_r; simp only [bne_self_eq_false, cond_false, andThen, hc]; rfl

end Go.Proofs.Ytgbapklfgjnggaa
