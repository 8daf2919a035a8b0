/-
  A part of the proof of this claim (AjA): what functions of the program compute, and plain facts of that. No conditions.
-/
import Derived.Test.YtpoohhjlpepmfaaAjZ
set_option linter.all false
namespace Go.Proofs.Ytpoohhjlpepmfaa
open Go Go.Am

theorem pair_facts : ∀ i k : Fin 5, k.val < i.val → parts (bits .or .i64 ((1 : Int) * 2 ^ i.val) ((1 : Int) * 2 ^ k.val)) = [(1 : Int) * 2 ^ k.val, (1 : Int) * 2 ^ i.val] ∧
  Int.toNat (bits .or .i64 ((1 : Int) * 2 ^ i.val) ((1 : Int) * 2 ^ k.val)) - Int.toNat ((1 : Int) * 2 ^ k.val) = Int.toNat ((1 : Int) * 2 ^ i.val) ∧
  Int.toNat (bits .or .i64 ((1 : Int) * 2 ^ i.val) ((1 : Int) * 2 ^ k.val)) - Int.toNat ((1 : Int) * 2 ^ i.val) = Int.toNat ((1 : Int) * 2 ^ k.val) := by decide +kernel

theorem one_facts : ∀ i : Fin 5, parts ((1 : Int) * 2 ^ i.val) = [] := by decide +kernel

theorem single_zero {g : Graph} (hV : VG g) {i : Nat} (hi : i < g.Rows.length) : List.getD (bestCosts g).1 (Int.toNat ((1 : Int) * 2 ^ i)) 0 = 0 := by
 have h5 := hV.n5
 obtain ⟨hbl, _, hR, _⟩ := impl_best hV
 have hp := powf' h5 hi
 have hG : gAll g + 1 = 1 * 2 ^ (List.length (Graph.Rows g)) := by unfold gAll; omega
 rw [hR.eq _ (by omega) (by omega)]
 unfold best
 rw [show ((Int.toNat ((1 : Int) * 2 ^ i) : Nat) : Int) = (1 : Int) * 2 ^ i by omega, one_facts ⟨i, by omega⟩]
 rfl

theorem pair_size {g : Graph} (hV : VG g) {i k : Nat} (hi : i < g.Rows.length) (hk : k < i) :
  List.getD (bestCosts g).1 (Int.toNat (bits .or .i64 ((1 : Int) * 2 ^ i) ((1 : Int) * 2 ^ k))) 0 = iSubsetSize g (bits .or .i64 ((1 : Int) * 2 ^ i) ((1 : Int) * 2 ^ k)) := by
 have h5 := hV.n5
 obtain ⟨hbl, _, hR, _⟩ := impl_best hV
 have hG : gAll g + 1 = 1 * 2 ^ (List.length (Graph.Rows g)) := by unfold gAll; omega
 have ho := orf' h5 hi hk
 obtain ⟨f1, f2, f3⟩ := pair_facts ⟨i, by omega⟩ ⟨k, by omega⟩ hk
 simp only at f1 f2 f3
 have z1 := single_zero hV hi
 have z2 := single_zero hV (i := k) (by omega)
 have hA := gAll_b hV
 unfold iSubsetSize
 rw [ValidGraph_iff.2 hV]
 generalize hm : bits .or .i64 ((1 : Int) * 2 ^ i) ((1 : Int) * 2 ^ k) = m at *
 rw [show decide (m < 1) = false from decide_eq_false (by omega), show decide (gAll g < m) = false from decide_eq_false (by omega)]
 simp only [Bool.not_true, cond_false]
 rw [hR.eq _ (by omega) (by omega), size_eq hV (by omega) (by omega)]
 have hmm : ((Int.toNat m : Nat) : Int) = m := by omega
 unfold best val
 rw [hmm, f1]
 unfold mn mn mn sumAt
 rw [f2, f3, z1, z2]
 show (0 : Int) + 0 + subsetSize g m = subsetSize g m
 omega

theorem best_l1 {code : List Int} (hV : VG (DrawBestCosts code)) (hB : iBestCosts (DrawBestCosts code) = (bestCosts (DrawBestCosts code)).1) {i : Nat} (hi : i < (DrawBestCosts code).Rows.length) : ∀ (k k1 : Nat), i - k1 < k → FnBestCosts_l1 code i k k1 = .inl () := by
 intro k
 induction k with
 | zero => intro k1 h; omega
 | succ k ih =>
  intro k1 h
  unfold FnBestCosts_l1
  by_cases hk : ((k1 : Nat) : Int) < ((i : Nat) : Int)
  ·
   rw [decide_eq_true hk, cond_true, bneF (by rw [hB]; exact pair_size hV hi (by omega)), cond_false]
   exact ih (k1 + 1) (by omega)
  ·
   rw [decide_eq_false hk, cond_false]

theorem best_l0 {code : List Int} (hV : VG (DrawBestCosts code)) (hB : iBestCosts (DrawBestCosts code) = (bestCosts (DrawBestCosts code)).1) : ∀ (k i : Nat), (DrawBestCosts code).Rows.length - i < k → FnBestCosts_l0 code k i = .inl () := by
 intro k
 induction k with
 | zero => intro i h; omega
 | succ k ih =>
  intro i h
  unfold FnBestCosts_l0
  by_cases hk : ((i : Nat) : Int) < ((List.length (Graph.Rows (DrawBestCosts code)) : Nat) : Int)
  ·
   rw [decide_eq_true hk, cond_true, best_l1 hV hB (by omega) _ _ (by omega)]
   simp only [Sum.elim_inl]
   rw [bneF (by rw [hB]; exact single_zero hV (by omega)), cond_false]
   exact ih (i + 1) (by omega)
  ·
   rw [decide_eq_false hk, cond_false]

theorem FnBestCosts_law (code : List Int) : FnBestCosts code = true := by
 unfold FnBestCosts
 rw [← iBest_same, equalInts_iff.2 rfl]
 cases decide (1048576 < ((List.length code : Nat) : Int)) with
 | true => rfl
 | false =>
  rw [cond_false, Bool.not_true, cond_false]
  cases hz : ((List.length (iBestCosts (DrawBestCosts code)) : Nat) : Int) == 0 with
  | true => rfl
  | false =>
   have hB := iBest_V (g := DrawBestCosts code) (by simpa using hz)
   obtain ⟨hV, hl, hB⟩ := hB
   rw [cond_false, best_l0 hV hB _ _ (by omega)]
   simp only [Sum.elim_inl]
   rw [beq_iff_eq.2 hl, cond_true]
   unfold iBestTree lawsAll
   rw [ValidGraph_iff.2 hV, hB]
   simp only [Bool.not_true, cond_false]
   exact beq_self_eq_true _

end Go.Proofs.Ytpoohhjlpepmfaa
