/-
  A part of the proof of this claim (AoT3): what functions of the program compute, and plain facts of that. No conditions.
-/
import Derived.Test.YtclennmbceaoeaaAoT2
import Derived.Test.YtclennmbceaoeaaAnL
set_option linter.all false
namespace Go.Proofs.Ytclennmbceaoeaa
open Go Go.Am

theorem FnExactBestOrder_law (a : Graph) : FnExactBestOrder a = true := by
 unfold FnExactBestOrder; have e : (Graph.mk (toIntS (Graph.Rows a)) (toEdgeS (Graph.Edges a))) = toGraph a := rfl; rw [e, BestOrder_same]; generalize BestOrder (toGraph a) = z; obtain ⟨l, c⟩ := z; rw [eqIntS_self, eqGraph_self]
 cases decide (szGraph a 1048576 < 0) with
 | true => rfl
 | false =>
  simp only [Bool.not_true, cond_false, Go.Am.andThen, bne_self_eq_false]; rw [show decide ((((FnExactBestOrder_l1 ((List.length (toEdgeS (Graph.Edges a))) - 0 + 1) (FnExactBestOrder_l0 ((List.length (toIntS (Graph.Rows a))) - 0 + 1) 1 0 (toIntS (Graph.Rows a))).1 0 (toEdgeS (Graph.Edges a))) : Nat) : Int) < 0) = false from decide_eq_false (by omega)]; simp only [cond_false]; obtain ⟨h1, h2, h3, h4⟩ := mark_loop FnExactBestOrder_l2 (fun k c i a => rfl) (l.length - 0 + 1) 1 0 l (by omega) (Nat.zero_le _); generalize FnExactBestOrder_l2 (l.length - 0 + 1) 1 0 l = m at *; obtain ⟨c, b⟩ := m; simp only at h1 h2 h3 h4
  have hh : heldIntS b 1 = ((c : Nat) : Int) := by
   unfold heldIntS; rw [held_loop b (heldIntS_l0 b) (fun k c i => rfl) _ _ _ (by omega) (Nat.zero_le _) fun j _ hj => by rw [h4 j (Nat.zero_le _) (by omega)]; omega]; simp only [Sum.elim_inl]; omega
  simp only [hh]; simp

end Go.Proofs.Ytclennmbceaoeaa
