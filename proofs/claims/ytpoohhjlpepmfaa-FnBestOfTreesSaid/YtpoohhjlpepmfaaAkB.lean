/-
  A part of the proof of this claim (AkB): what functions of the program compute, and plain facts of that. No conditions.
-/
import Derived.Test.YtpoohhjlpepmfaaAkE
import Derived.Test.YtpoohhjlpepmfaaAjH
set_option linter.all false
namespace Go.Proofs.Ytpoohhjlpepmfaa
open Go Go.Am

theorem FnBestOfTrees_law (code : List Int) : FnBestOfTrees code = true := by
 unfold FnBestOfTrees
 simp only [JoinTree.eta, ← treeCost_same, bne_self_eq_false, cond_false, beq_self_eq_true]
 generalize (DrawTreeCost code).1 = g
 generalize (DrawTreeCost code).2 = t
 cases decide (1048576 < ((List.length code : Nat) : Int)) with
 | true => rfl
 | false =>
  rw [cond_false]
  by_cases h0 : iTreeCost g t < 0
  ·
   rw [decide_eq_true h0]; rfl
  ·
   rw [decide_eq_false h0]
   simp only [cond_false]
   have hne : ¬ iTreeCost g t = -1 := by omega
   cases hl : (((List.length (LeavesOf g t) : Nat) : Int) != ((List.length (Graph.Rows g) : Nat) : Int)) with
   | true => rfl
   | false =>
    have hl := bne_neg hl
    rw [LeavesOf_eq hne] at hl
    obtain ⟨hV, hT⟩ := cost_top hne
    have hm := top_mask hne (by omega)
    have ho := optimal hV (SizeOf.sizeOf t + 1) t (Nat.lt_succ_self _) hT.ne
    rw [hm] at ho
    rw [cond_false]
    refine decide_eq_true ?_
    rw [best_cost hV, cost_val hne]
    exact ho

end Go.Proofs.Ytpoohhjlpepmfaa
