/-
  A part of the proof of this claim (AjC): what functions of the program compute, and plain facts of that. No conditions.
-/
import Derived.Test.YtpoohhjlpepmfaaAjB
import Derived.Test.YtpoohhjlpepmfaaAnL
set_option linter.all false
namespace Go.Proofs.Ytpoohhjlpepmfaa
open Go Go.Am

theorem iBest_same' (g : Graph) : iBestCosts g = BestCosts g := by
 unfold iBestCosts BestCosts
 rw [vg_eq]
 cases hv : ValidGraph g with
 | false => rfl
 | true => exact (best_same (ValidGraph_iff.1 hv)).symm

theorem FnExactBestCosts_law (a : Graph) : FnExactBestCosts a = true := by
 unfold FnExactBestCosts
 have e : (Graph.mk (toIntS (Graph.Rows a)) (toEdgeS (Graph.Edges a))) = toGraph a := rfl
 rw [e, iBest_same']
 generalize hl : BestCosts (toGraph a) = l
 rw [eqIntS_self, eqGraph_self]
 cases decide (szGraph a 1048576 < 0) with
 | true => rfl
 | false =>
  simp only [Bool.not_true, cond_false, Go.Am.andThen]
  rw [show decide ((((FnExactBestCosts_l1 ((List.length (toEdgeS (Graph.Edges a))) - 0 + 1) (FnExactBestCosts_l0 ((List.length (toIntS (Graph.Rows a))) - 0 + 1) 1 0 (toIntS (Graph.Rows a))).1 0 (toEdgeS (Graph.Edges a))) : Nat) : Int) < 0) = false from decide_eq_false (by omega)]
  simp only [cond_false]
  obtain ⟨h1, h2, h3, h4⟩ := mark_loop FnExactBestCosts_l2 (fun k c i a => rfl) (l.length - 0 + 1) 1 0 l (by omega) (Nat.zero_le _)
  generalize FnExactBestCosts_l2 (l.length - 0 + 1) 1 0 l = m at *
  obtain ⟨c, b⟩ := m
  simp only at h1 h2 h3 h4
  have hh : heldIntS b 1 = ((c : Nat) : Int) := by
   unfold heldIntS
   rw [held_loop b (heldIntS_l0 b) (fun k c i => rfl) _ _ _ (by omega) (Nat.zero_le _) fun j _ hj => by rw [h4 j (Nat.zero_le _) (by omega)]; omega]
   simp only [Sum.elim_inl]
   omega
  simp only [hh]
  simp

end Go.Proofs.Ytpoohhjlpepmfaa
