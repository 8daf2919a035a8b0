/-
  A part of the proof of this claim (AxD): what functions of the program compute, and plain facts of that. No conditions.
-/
import Derived.Test.YtgbapklfgjnggaaAx6
import Derived.Test.YtgbapklfgjnggaaAnG
set_option linter.all false
namespace Go.Proofs.Ytgbapklfgjnggaa
open Go Go.Am

theorem kids_beq {t : JoinTree} (hk : t.Kids.length ≠ 0) : (((List.length (JoinTree.Kids t) : Nat) : Int) == 0) = false := by
 simp
 intro h
 exact hk (by rw [h]; rfl)

theorem kids_beq0 {t : JoinTree} (hk : t.Kids.length = 0) : (((List.length (JoinTree.Kids t) : Nat) : Int) == 0) = true := by rw [hk]; rfl

theorem eqJoinTree_refl : ∀ (f : Nat) (a : JoinTree), SizeOf.sizeOf a < f → eqJoinTree_r f a a = true := by
 intro f
 induction f with
 | zero => intro a h; omega
 | succ f ih =>
  intro a h
  have hc : eqJoinTree_c0 (eqJoinTree_r f) a a = true := by
   unfold eqJoinTree_c0
   simp only [bne_self_eq_false, cond_false]
   rcases all_loop (eqJoinTree_l0 (eqJoinTree_r f) a a) a.Kids.length (fun i => !(eqJoinTree_r f (List.getD a.Kids i JoinTree.zero) (List.getD a.Kids i JoinTree.zero))) (fun k i => rfl) (a.Kids.length - 0 + 1) 0 (by omega) with ⟨h1, _⟩ | ⟨_, j, _, hj, h2⟩
   ·
    rw [h1]; rfl
   ·
    have := kid_lt (t := a) hj
    rw [ih _ (by omega)] at h2
    cases h2
  unfold eqJoinTree_r
  simp only [bne_self_eq_false, cond_false, Go.Am.andThen, hc]
  rfl

end Go.Proofs.Ytgbapklfgjnggaa


namespace Go.Proofs.Ytgbapklfgjnggaa
open Go Go.Am
noncomputable section

structure Nd (n : Int) (d : Nat) (t : JoinTree) : Prop where
 ne : treeMask t n ≠ 0
 pc : pc (treeMask t n).toNat ≤ d

end
end Go.Proofs.Ytgbapklfgjnggaa
