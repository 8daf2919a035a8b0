/-
  A part of the proof of this claim (AzC): what functions of the program compute, and plain facts of that. No conditions.
-/
import Derived.Test.YtgbapklfgjnggaaAzE
import Derived.Test.YtgbapklfgjnggaaAxE
import Derived.Test.YtgbapklfgjnggaaAnG
set_option linter.all false
namespace Go.Proofs.Ytgbapklfgjnggaa
open Go Go.Am

theorem eqT_self : ∀ (f : Nat) (t : JoinTree), SizeOf.sizeOf t < f → equalTrees_r f t t = true := by
 intro f
 induction f with
 | zero => intro t h; omega
 | succ f ih =>
  intro t h
  unfold equalTrees_r
  rw [bne_self_eq_false, bne_self_eq_false, cond_false, cond_false]
  rcases all_loop (equalTrees_l0 (equalTrees_r f) t t) t.Kids.length (fun i => !(equalTrees_r f (List.getD (JoinTree.Kids t) i JoinTree.zero) (List.getD (JoinTree.Kids t) i JoinTree.zero))) (fun k i => rfl) (t.Kids.length - 0 + 1) 0 (by omega) with ⟨h1, _⟩ | ⟨_, j, _, h2, h3⟩
  ·
   rw [h1]; rfl
  ·
   have := kid_lt h2
   rw [ih _ (by omega)] at h3
   cases h3

theorem cost_fuel {g : Graph} : ∀ (f1 f2 : Nat) (t : JoinTree), treeMask t (List.length g.Rows : Int) ≠ 0 → SizeOf.sizeOf t < f1 → SizeOf.sizeOf t < f2 → treeCost_r f1 g t = treeCost_r f2 g t := by
 intro f1
 induction f1 with
 | zero => intro f2 t _ h; omega
 | succ f1 ih =>
  intro f2 t hm h1 h2
  obtain ⟨f2, rfl⟩ : ∃ j, f2 = j + 1 := ⟨f2 - 1, by omega⟩
  unfold treeCost_r
  by_cases h0 : t.Kids.length = 0
  ·
   rw [kids_beq0 h0, cond_true, cond_true]
  ·
   rw [kids_beq h0, cond_false, cond_false]
   have j := join2 h0 hm
   have k0 := kid_lt (t := t) (i := 0) (by omega)
   have k1 := kid_lt (t := t) (i := 1) (by have := j.two; omega)
   rw [ih f2 _ j.ne0 (by omega) (by omega), ih f2 _ j.ne1 (by omega) (by omega)]

theorem pc_all : ∀ n : Fin 6, pc ((1 : Int) * 2 ^ n.val - 1).toNat = n.val := by decide +kernel

end Go.Proofs.Ytgbapklfgjnggaa
