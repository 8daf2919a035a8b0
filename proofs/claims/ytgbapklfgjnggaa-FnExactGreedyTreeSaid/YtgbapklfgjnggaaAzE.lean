/-
  A part of the proof of this claim (AzE): what functions of the program compute, and plain facts of that. No conditions.
-/
import Derived.Test.YtgbapklfgjnggaaAxD
import Derived.Test.YtgbapklfgjnggaaAxX
set_option linter.all false
namespace Go.Proofs.Ytgbapklfgjnggaa
open Go Go.Am
open List (length getD)

section
variable {n : Int} (hn : n ≤ 5)
include hn

end

/-! what the leaves are -/

theorem leaf_mask {t : JoinTree} {n : Int} (hm : treeMask t n ≠ 0) (hk : t.Kids.length = 0) : (0 ≤ t.Leaf ∧ t.Leaf ≤ n - 1) ∧ treeMask t n = 1 * 2 ^ t.Leaf.toNat := by
 have e := mask_eq t n; rw [kids_beq0 hk, cond_true] at e
 cases hr : inRange t.Leaf 0 (n - 1) with
 | false => rw [hr, cond_false] at e; exact absurd e hm
 | true => rw [hr, cond_true] at e; exact ⟨inRange_iff.1 hr, e⟩

theorem pc_pow : ∀ i : Fin 5, pc ((1 : Int) * 2 ^ i.val).toNat = 1 := by decide +kernel

end Go.Proofs.Ytgbapklfgjnggaa


namespace Go.Proofs.Ytgbapklfgjnggaa
open Go Go.Am
open List (getD)

theorem powf2 : ∀ (n : Fin 6) (i : Fin 5), i.val < n.val → (1 : Int) ≤ (1 : Int) * 2 ^ i.val ∧ (1 : Int) * 2 ^ i.val < (1 : Int) * 2 ^ n.val := by decide +kernel

theorem powf3 {n i : Nat} (hn : n ≤ 5) (hi : i < n) : (1 : Int) ≤ (1 : Int) * 2 ^ i ∧ (1 : Int) * 2 ^ i < (1 : Int) * 2 ^ n := powf2 ⟨n, by omega⟩ ⟨i, by omega⟩ hi

theorem mask_lt {k : Nat} (hk : k ≤ 5) : ∀ (f : Nat) (t : JoinTree), SizeOf.sizeOf t < f → treeMask t (k : Int) ≠ 0 → treeMask t (k : Int) < (1 : Int) * 2 ^ k := by
 intro f
 induction f with
 | zero => intro t h; omega
 | succ f ih =>
  intro t hf hm; by_cases h0 : t.Kids.length = 0
  · obtain ⟨h1, h2⟩ := leaf_mask hm h0; rw [h2]; exact (powf3 hk (i := t.Leaf.toNat) (by omega)).2
  ·
   have j := join2 h0 hm; have k0 := kid_lt (t := t) (i := 0) (by omega); have k1 := kid_lt (t := t) (i := 1) (by have := j.two; omega); have a := ih _ (by omega) j.ne0; have b := ih _ (by omega) j.ne1; have ra := mask_range (n := (k : Int)) (by omega) (getD t.Kids 0 JoinTree.zero); have rb := mask_range (n := (k : Int)) (by omega) (getD t.Kids 1 JoinTree.zero); rw [j.mask, (bits62 ra.1 (by omega) rb.1 (by omega)).2]; have e : ((2 : Int) ^ k) = ((2 ^ k : Nat) : Int) := by push_cast; rfl
   have := Nat.or_lt_two_pow (x := (treeMask (getD t.Kids 0 JoinTree.zero) (k : Int)).toNat) (y := (treeMask (getD t.Kids 1 JoinTree.zero) (k : Int)).toNat) (n := k)
    (by omega) (by omega)
   omega

end Go.Proofs.Ytgbapklfgjnggaa


namespace Go.Proofs.Ytgbapklfgjnggaa
open Go Go.Am
open List (length getD)

theorem pc_full : ∀ (n : Fin 6) (m : Fin 32), (m.val : Int) < (1 : Int) * 2 ^ n.val → pc m.val = n.val → (m.val : Int) = (1 : Int) * 2 ^ n.val - 1 := by decide +kernel

end Go.Proofs.Ytgbapklfgjnggaa
