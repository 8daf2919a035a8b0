/-
  A part of the proof of this claim (Ax6): what functions of the program compute, and plain facts of that. No conditions.
-/
import Derived.Test.YtgbapklfgjnggaaAx4
import Derived.Test.YtgbapklfgjnggaaAnB
set_option linter.all false
namespace Go.Proofs.Ytgbapklfgjnggaa
open Go Go.Am
noncomputable section

def treeMask_r : Nat → JoinTree → Int → Int
 | 0, t, n => 0
 | fuel + 1, t, n => (bif (((List.length (JoinTree.Kids t) : Nat) : Int) == 0) then (bif (inRange (JoinTree.Leaf t) 0 (n - 1)) then ((1 : Int) * 2 ^ (Int.toNat (JoinTree.Leaf t))) else 0) else (bif (bif (((List.length (JoinTree.Kids t) : Nat) : Int) != 2) then true else ((JoinTree.Leaf t) != 0)) then 0 else (bif (bif (bif (((treeMask_r fuel) (List.getD (JoinTree.Kids t) 0 JoinTree.zero) n) == 0) then true else (((treeMask_r fuel) (List.getD (JoinTree.Kids t) 1 JoinTree.zero) n) == 0)) then true else ((bits .and .i64 ((treeMask_r fuel) (List.getD (JoinTree.Kids t) 0 JoinTree.zero) n) ((treeMask_r fuel) (List.getD (JoinTree.Kids t) 1 JoinTree.zero) n)) != 0)) then 0 else (bits .or .i64 ((treeMask_r fuel) (List.getD (JoinTree.Kids t) 0 JoinTree.zero) n) ((treeMask_r fuel) (List.getD (JoinTree.Kids t) 1 JoinTree.zero) n)))))

def treeMask (t : JoinTree) (n : Int) : Int := treeMask_r (SizeOf.sizeOf t + 1) t n

end
end Go.Proofs.Ytgbapklfgjnggaa


namespace Go.Proofs.Ytgbapklfgjnggaa
open Go Go.Am
noncomputable section

theorem mask_irrel : ∀ (f1 f2 : Nat) (t : JoinTree) (n : Int), SizeOf.sizeOf t < f1 → SizeOf.sizeOf t < f2 → treeMask_r f1 t n = treeMask_r f2 t n := by
 intro f1
 induction f1 with
 | zero => intro f2 t n h; omega
 | succ f1 ih =>
  intro f2 t n h1 h2
  cases f2 with
  | zero => omega
  | succ f2 =>
   unfold treeMask_r
   by_cases hk : 2 ≤ t.Kids.length
   ·
    have a := kid_lt (t := t) (i := 0) (by omega)
    have b := kid_lt (t := t) (i := 1) (by omega)
    rw [ih f2 (List.getD t.Kids 0 JoinTree.zero) n (by omega) (by omega), ih f2 (List.getD t.Kids 1 JoinTree.zero) n (by omega) (by omega)]
   ·
    by_cases h0 : t.Kids.length = 0
    ·
     rw [show (((List.length (JoinTree.Kids t) : Nat) : Int) == 0) = true by rw [h0]; rfl]
     simp only [cond_true]
    ·
     have e : t.Kids.length = 1 := by omega
     rw [e, show (((1 : Nat) : Int) == 0) = false from rfl, show (((1 : Nat) : Int) != 2) = true from rfl]
     simp only [cond_false, cond_true]

theorem mask_eq (t : JoinTree) (n : Int) : treeMask t n = (bif (((List.length (JoinTree.Kids t) : Nat) : Int) == 0) then (bif (inRange (JoinTree.Leaf t) 0 (n - 1)) then ((1 : Int) * 2 ^ (Int.toNat (JoinTree.Leaf t))) else 0) else (bif (bif (((List.length (JoinTree.Kids t) : Nat) : Int) != 2) then true else ((JoinTree.Leaf t) != 0)) then 0 else (bif (bif (bif ((treeMask (List.getD (JoinTree.Kids t) 0 JoinTree.zero) n) == 0) then true else ((treeMask (List.getD (JoinTree.Kids t) 1 JoinTree.zero) n) == 0)) then true else ((bits .and .i64 (treeMask (List.getD (JoinTree.Kids t) 0 JoinTree.zero) n) (treeMask (List.getD (JoinTree.Kids t) 1 JoinTree.zero) n)) != 0)) then 0 else (bits .or .i64 (treeMask (List.getD (JoinTree.Kids t) 0 JoinTree.zero) n) (treeMask (List.getD (JoinTree.Kids t) 1 JoinTree.zero) n))))) := by
 rw [treeMask, treeMask_r]
 by_cases hk : 2 ≤ t.Kids.length
 ·
  have a := kid_lt (t := t) (i := 0) (by omega)
  have b := kid_lt (t := t) (i := 1) (by omega)
  have ta : treeMask_r (SizeOf.sizeOf t) (List.getD t.Kids 0 JoinTree.zero) n = treeMask (List.getD t.Kids 0 JoinTree.zero) n := by
   rw [treeMask]
   exact mask_irrel _ _ _ _ (by omega) (by omega)
  have tb : treeMask_r (SizeOf.sizeOf t) (List.getD t.Kids 1 JoinTree.zero) n = treeMask (List.getD t.Kids 1 JoinTree.zero) n := by
   rw [treeMask]
   exact mask_irrel _ _ _ _ (by omega) (by omega)
  rw [ta, tb]
 ·
  by_cases h0 : t.Kids.length = 0
  ·
   rw [show (((List.length (JoinTree.Kids t) : Nat) : Int) == 0) = true by rw [h0]; rfl]
   simp only [cond_true]
  ·
   have e : t.Kids.length = 1 := by omega
   rw [e, show (((1 : Nat) : Int) == 0) = false from rfl, show (((1 : Nat) : Int) != 2) = true from rfl]
   simp only [cond_false, cond_true]

def pc (x : Nat) : Nat := x % 2 + x / 2 % 2 + x / 4 % 2 + x / 8 % 2 + x / 16 % 2

structure Join2 (t : JoinTree) (n : Int) : Prop where
 two : t.Kids.length = 2
 leaf : t.Leaf = 0
 ne0 : treeMask (List.getD t.Kids 0 JoinTree.zero) n ≠ 0
 ne1 : treeMask (List.getD t.Kids 1 JoinTree.zero) n ≠ 0
 apart : bits .and .i64 (treeMask (List.getD t.Kids 0 JoinTree.zero) n) (treeMask (List.getD t.Kids 1 JoinTree.zero) n) = 0
 mask : treeMask t n = bits .or .i64 (treeMask (List.getD t.Kids 0 JoinTree.zero) n) (treeMask (List.getD t.Kids 1 JoinTree.zero) n)

theorem join2 {t : JoinTree} {n : Int} (hk : t.Kids.length ≠ 0) (hm : treeMask t n ≠ 0) : Join2 t n := by
 have e := mask_eq t n
 rw [show (((List.length (JoinTree.Kids t) : Nat) : Int) == 0) = false by simp; intro h; exact hk (by rw [h]; rfl), cond_false] at e
 cases h1 : (bif (((List.length (JoinTree.Kids t) : Nat) : Int) != 2) then true else ((JoinTree.Leaf t) != 0)) with
 | true => rw [h1, cond_true] at e; exact absurd e hm
 | false =>
  rw [h1, cond_false] at e
  cases h2 : (bif (bif ((treeMask (List.getD (JoinTree.Kids t) 0 JoinTree.zero) n) == 0) then true else ((treeMask (List.getD (JoinTree.Kids t) 1 JoinTree.zero) n) == 0)) then true else ((bits .and .i64 (treeMask (List.getD (JoinTree.Kids t) 0 JoinTree.zero) n) (treeMask (List.getD (JoinTree.Kids t) 1 JoinTree.zero) n)) != 0)) with
  | true => rw [h2, cond_true] at e; exact absurd e hm
  | false =>
   rw [h2, cond_false] at e
   have a := or_neg h1
   have b := (or_neg h2).imp_left or_neg
   have a1 := bne_neg a.1
   exact ⟨by omega, bne_neg a.2, beq_neg b.1.1, beq_neg b.1.2, bne_neg b.2, e⟩

theorem sSize_b {g : Graph} (hV : VG g) {m : Int} (hm : 0 ≤ m) (hm' : m < 32) : 1 ≤ subsetSize g m ∧ subsetSize g m ≤ 1000000000000000 := by
 rw [← size_eq hV hm (by omega)]
 exact gSize_b hV m

def treeCost_r : Nat → Graph → JoinTree → Int
 | 0, g, t => 0
 | fuel + 1, g, t => (bif (((List.length (JoinTree.Kids t) : Nat) : Int) == 0) then 0 else (((subsetSize g (treeMask (JoinTree.mk (JoinTree.Leaf t) (JoinTree.Kids t)) ((List.length (Graph.Rows g) : Nat) : Int))) + ((treeCost_r fuel) g (List.getD (JoinTree.Kids t) 0 JoinTree.zero))) + ((treeCost_r fuel) g (List.getD (JoinTree.Kids t) 1 JoinTree.zero))))

def treeCost (g : Graph) (t : JoinTree) : Int := treeCost_r (SizeOf.sizeOf t + 1) g t

end
end Go.Proofs.Ytgbapklfgjnggaa
