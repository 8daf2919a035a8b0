/-
  A part of the proof of this claim (AoQ5): what functions of the program compute, and plain facts of that. No conditions.
-/
import Derived.Test.YtclennmbceaoeaaAoQ4
set_option linter.all false
namespace Go.Proofs.Ytclennmbceaoeaa
open Go Go.Am
noncomputable section

theorem pow_or : ∀ (n : Fin 6) (i : Fin 5) (m : Fin 32), i.val < n.val → (m.val : Int) < (1 : Int) * 2 ^ n.val → 1 ≤ bits .or .i64 (m.val : Int) ((1 : Int) * 2 ^ i.val) ∧ bits .or .i64 (m.val : Int) ((1 : Int) * 2 ^ i.val) < (1 : Int) * 2 ^ n.val := by decide +kernel

theorem pow32 : ∀ n : Fin 6, (1 : Int) * 2 ^ n.val ≤ 32 := by decide

theorem or_size {g : Graph} (hV : VG g) {l : List Int} (h : RL g.Rows.length l) {i : Nat} (hi : i < l.length) {m : Int} (hm : 0 ≤ m ∧ m < (1 : Int) * 2 ^ g.Rows.length) :
  (0 ≤ bits .or .i64 m ((1 : Int) * 2 ^ Int.toNat (List.getD l i 0)) ∧ bits .or .i64 m ((1 : Int) * 2 ^ Int.toNat (List.getD l i 0)) < (1 : Int) * 2 ^ g.Rows.length) ∧
  iSubsetSize g (bits .or .i64 m ((1 : Int) * 2 ^ Int.toNat (List.getD l i 0))) = subsetSize g (bits .or .i64 m ((1 : Int) * 2 ^ Int.toNat (List.getD l i 0))) := by
 have h5 := hV.n5; have a := h i hi; have p := pow32 ⟨g.Rows.length, by omega⟩; simp only at p; have b := pow_or ⟨g.Rows.length, by omega⟩ ⟨(List.getD l i 0).toNat, by omega⟩ ⟨m.toNat, by omega⟩ (by show (List.getD l i 0).toNat < g.Rows.length; omega) (by show ((m.toNat : Nat) : Int) < _; rw [Int.toNat_of_nonneg hm.1]; exact hm.2); simp only [Int.toNat_of_nonneg hm.1] at b; refine ⟨by omega, ?_⟩; (have hG : gAll g + 1 = (1 : Int) * 2 ^ (List.length (Graph.Rows g)) := by unfold gAll; omega); rw [iSize_eq hV (by omega), decide_eq_false (by omega), decide_eq_false (by omega)]; rfl

theorem FB_l0 {code : List Int} (hF : Fnd code) : ∀ (k : Nat) (c m o t : Int) (i : Nat), 0 ≤ m ∧ m < (1 : Int) * 2 ^ (DrawOrders code).1.Rows.length → 0 ≤ t ∧ t < (1 : Int) * 2 ^ (DrawOrders code).1.Rows.length →
  FnBestOrder_l0 code k c m o t i = (orderCost_l0 (DrawOrders code).1 (DrawOrders code).2 k m c i, orderCost_l0 (DrawOrders code).1 (iBestOrder (DrawOrders code).1).1 k t o i) := by
 intro k
 induction k with
 | zero => intro c m o t i _ _; rfl
 | succ k ih =>
  intro c m o t i hm ht; unfold FnBestOrder_l0 orderCost_l0; have hd := hF.dl; have he := hF.ol; by_cases h : i < (DrawOrders code).2.length
  ·
   rw [decide_eq_true (by omega : ((i : Nat) : Int) < ((List.length (DrawOrders code).2 : Nat) : Int)), decide_eq_true (by omega : ((i : Nat) : Int) < ((List.length (iBestOrder (DrawOrders code).1).1 : Nat) : Int)), cond_true, cond_true, cond_true]; obtain ⟨m1, m2⟩ := or_size hF.vg hF.drl h hm; obtain ⟨t1, t2⟩ := or_size hF.vg hF.orl (show i < (iBestOrder (DrawOrders code).1).1.length by omega) ht; rw [m2, t2]
   cases decide ((0 : Int) < ((i : Nat) : Int)) with
   | true => rw [cond_true, cond_true, cond_true]; exact ih _ _ _ _ _ m1 t1
   | false => rw [cond_false, cond_false, cond_false]; exact ih _ _ _ _ _ m1 t1
  · rw [decide_eq_false (by omega : ¬ ((i : Nat) : Int) < ((List.length (DrawOrders code).2 : Nat) : Int)), decide_eq_false (by omega : ¬ ((i : Nat) : Int) < ((List.length (iBestOrder (DrawOrders code).1).1 : Nat) : Int)), cond_false, cond_false, cond_false]

theorem equalInts_self (a : List Int) : equalInts a a = true := by
 have key : ∀ (k i : Nat), equalInts_l0 a a k i = Sum.inl () := by
  intro k
  induction k with
  | zero => intro i; rfl
  | succ k ih => intro i; unfold equalInts_l0; cases decide (((i : Nat) : Int) < ((List.length a : Nat) : Int)) <;> simp [ih]
 unfold equalInts; rw [key]; simp

theorem FnBestOrder_law (code : List Int) : FnBestOrder code = true := by
 unfold FnBestOrder
 cases decide ((1048576 : Int) < ((List.length code : Nat) : Int)) with
 | true => rfl
 | false =>
  rw [cond_false, ← BestOrder_same, equalInts_self]; by_cases h : (iBestOrder (DrawOrders code).1).2 < 0
  · rw [decide_eq_true h]; simp
  ·
   rw [decide_eq_false h]; have hF := fnd h; have hd := hF.dl; have he := hF.ol; obtain ⟨hV, u, hP, hl, hc⟩ := order_good _ (by omega : 0 ≤ (iBestOrder (DrawOrders code).1).2)
   have hp : (1 : Int) ≤ (1 : Int) * 2 ^ (DrawOrders code).1.Rows.length := by
    have : (0 : Int) < 2 ^ (DrawOrders code).1.Rows.length := Int.pow_pos (by decide); omega
   have e := FB_l0 hF (List.length (DrawOrders code).2 - 0 + 1) 0 0 0 0 0 ⟨by decide, by omega⟩ ⟨by decide, by omega⟩; have e1 : orderCost_l0 (DrawOrders code).1 (DrawOrders code).2 (List.length (DrawOrders code).2 - 0 + 1) 0 0 0 = orderCost (DrawOrders code).1 (DrawOrders code).2 := rfl
   have e2 : orderCost_l0 (DrawOrders code).1 (iBestOrder (DrawOrders code).1).1 (List.length (DrawOrders code).2 - 0 + 1) 0 0 0 = orderCost (DrawOrders code).1 (iBestOrder (DrawOrders code).1).1 := by
    rw [hd, ← he]; rfl
   have hm := (order_min hV (perm_comp hV.n5 (drawn_perm code))).2; have ht := tree_le hV hP hl; rw [e, e1, e2, ← hc]; rw [← hc] at ht; unfold Go.Am.andThen; rw [he]; simp [hm, ht]

end
end Go.Proofs.Ytclennmbceaoeaa
