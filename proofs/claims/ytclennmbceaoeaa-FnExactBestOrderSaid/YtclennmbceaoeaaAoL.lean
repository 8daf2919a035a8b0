/-
  A part of the proof of this claim (AoL): what functions of the program compute, and plain facts of that. No conditions.
-/
import Derived.Test.YtclennmbceaoeaaAo3
import Derived.Test.YtclennmbceaoeaaAnB
import Derived.Test.YtclennmbceaoeaaAnL
set_option linter.all false
namespace Go.Proofs.Ytclennmbceaoeaa
open Go Go.Am

theorem has_bit {m : Int} {i : Nat} (hm : 0 ≤ m) (hm' : m < 4611686018427387904) (hi : i ≤ 61) : (bits .and .i64 m ((1 : Int) * 2 ^ i) != 0) = has m ((i : Nat) : Int) := by
 unfold has; exact bit_ne hm hm' hi

theorem size_l0_eq {g : Graph} {m : Int} (hV : VG g) (hm : 0 ≤ m) (hm' : m < 4611686018427387904) : ∀ (k : Nat) (n : Int) (i : Nat), gSize_l0 g m k n i = subsetSize_l0 g m k n i := by
 intro k
 induction k with
 | zero => intro n i; rfl
 | succ k ih =>
  intro n i; unfold gSize_l0 subsetSize_l0; by_cases hi : i < g.Rows.length
  · have := hV.n5; rw [lt_dec hi, cond_true, cond_true, has_bit hm hm' (by omega), ih, ih]
  · rw [ge_dec hi]; rfl

theorem size_l1_eq {g : Graph} {m : Int} (hV : VG g) (hm : 0 ≤ m) (hm' : m < 4611686018427387904) : ∀ (k : Nat) (n : Int) (i : Nat), gSize_l1 g m k n i = subsetSize_l1 g m k n i := by
 intro k
 induction k with
 | zero => intro n i; rfl
 | succ k ih =>
  intro n i; unfold gSize_l1 subsetSize_l1; by_cases hi : i < g.Edges.length
  · have h5 := hV.n5; have he := hV.edges _ (getD_mem g.Edges i Edge.zero hi); have ha := has_bit (m := m) (i := Int.toNat (Edge.A (List.getD (Graph.Edges g) i Edge.zero))) hm hm' (by omega); have hb := has_bit (m := m) (i := Int.toNat (Edge.B (List.getD (Graph.Edges g) i Edge.zero))) hm hm' (by omega); rw [Int.toNat_of_nonneg (by omega)] at ha hb; rw [lt_dec hi, cond_true, cond_true, ha, hb, ih, ih]
  · rw [ge_dec hi]; rfl

theorem size_eq {g : Graph} {m : Int} (hV : VG g) (hm : 0 ≤ m) (hm' : m < 4611686018427387904) : gSize g m = subsetSize g m := by
 unfold gSize subsetSize; simp only [Go.Am.andThen, size_l0_eq hV hm hm', size_l1_eq hV hm hm']

theorem eqIntS_self (a : List Int) : eqIntS a a = true := by
 unfold eqIntS; simp only [bne_self_eq_false, cond_false]; rcases all_loop (eqIntS_l0 a a) a.length (fun i => (List.getD a i 0) != (List.getD a i 0)) (fun k i => rfl) (a.length - 0 + 1) 0 (by omega) with ⟨h1, _⟩ | ⟨_, j, _, _, h⟩
 · rw [h1]; rfl
 · simp at h

theorem eqEdge_self (a : Edge) : eqEdge a a = true := by simp [eqEdge]

theorem eqEdgeS_self (a : List Edge) : eqEdgeS a a = true := by
 unfold eqEdgeS; simp only [bne_self_eq_false, cond_false]; rcases all_loop (eqEdgeS_l0 a a) a.length (fun i => !(eqEdge (List.getD a i Edge.zero) (List.getD a i Edge.zero))) (fun k i => rfl) (a.length - 0 + 1) 0 (by omega) with ⟨h1, _⟩ | ⟨_, j, _, _, h⟩
 · rw [h1]; rfl
 · rw [eqEdge_self] at h; cases h

theorem eqGraph_self (a : Graph) : eqGraph a a = true := by
 unfold eqGraph; rw [eqIntS_self, eqEdgeS_self]; rfl

end Go.Proofs.Ytclennmbceaoeaa
