/-
  A part of the proof of this claim (AeB): what functions of the program compute, and plain facts of that. No conditions.
-/
import Derived.Test.YtophfihhdelbiaaAeA
set_option linter.all false
namespace Go.Proofs.Ytophfihhdelbiaa
open Go Go.Am
noncomputable section

theorem rl0 (w : Nat) : ∀ (k i : Nat) (st : List Int), w - i < k → (List.length st = w ∧ ∀ j, j < i → List.getD st j 0 = 7) →
  List.length (iRejectsNulls_l0 (w : Int) k i st) = w ∧ ∀ j, j < w → List.getD (iRejectsNulls_l0 (w : Int) k i st) j 0 = 7 := by
 intro k
 induction k with
 | zero => intro i st h; omega
 | succ k ih =>
  intro i st h hs
  unfold iRejectsNulls_l0
  simp only [List.length_replicate, Int.toNat_natCast]
  by_cases hk : i < w
  ·
   rw [lt_dec hk, cond_true]
   refine ih _ _ (by omega) ⟨by rw [List.length_set]; exact hs.1, fun j hj => ?_⟩
   rw [getD_set_int _ _ _ _ (by omega)]
   split
   ·
    rfl
   ·
    exact hs.2 j (by omega)
  ·
   rw [ge_dec hk, cond_false]
   exact ⟨hs.1, fun j hj => hs.2 j (by omega)⟩

theorem rl1 (w : Nat) (nulls : List Int) : ∀ (k i : Nat) (st : List Int), nulls.length - i < k → List.length st = w →
  List.length (iRejectsNulls_l1 (w : Int) nulls k i st) = w ∧ ∀ j, j < w → List.getD (iRejectsNulls_l1 (w : Int) nulls k i st) j 0 = if ((j : Nat) : Int) ∈ nulls.drop i then 4 else List.getD st j 0 := by
 intro k
 induction k with
 | zero => intro i st h; omega
 | succ k ih =>
  intro i st h hs
  unfold iRejectsNulls_l1
  by_cases hk : i < nulls.length
  ·
   rw [lt_dec hk, cond_true, drop_getD hk]
   generalize List.getD nulls i 0 = x
   cases hc : (bif (decide (0 ≤ x)) then (decide (x < (w : Int))) else false) with
   | true =>
    rw [cond_true]
    have h1 := of_decide_eq_true (and_pos hc).1
    have h2 := of_decide_eq_true (and_pos hc).2
    obtain ⟨a, b⟩ := ih (i + 1) (List.set st x.toNat 4) (by omega) (by rw [List.length_set]; exact hs)
    refine ⟨a, fun j hj => ?_⟩
    rw [b j hj, getD_set_int _ _ _ _ (by omega)]
    by_cases he : ((j : Nat) : Int) = x
    ·
     rw [if_pos (show x.toNat = j by omega), he, if_pos (List.mem_cons_self ..)]
     split <;> rfl
    ·
     rw [if_neg (show ¬ x.toNat = j by omega)]
     by_cases hm : ((j : Nat) : Int) ∈ nulls.drop (i + 1)
     ·
      rw [if_pos hm, if_pos (List.mem_cons_of_mem _ hm)]
     ·
      rw [if_neg hm, if_neg (by rw [List.mem_cons]; rintro (h | h); exact he h; exact hm h)]
   | false =>
    rw [cond_false]
    obtain ⟨a, b⟩ := ih (i + 1) st (by omega) hs
    refine ⟨a, fun j hj => ?_⟩
    rw [b j hj]
    have he : ¬ ((j : Nat) : Int) = x := by
     intro he
     rw [decide_eq_true (show 0 ≤ x by omega), decide_eq_true (show x < (w : Int) by omega)] at hc
     cases hc
    by_cases hm : ((j : Nat) : Int) ∈ nulls.drop (i + 1)
    ·
     rw [if_pos hm, if_pos (List.mem_cons_of_mem _ hm)]
    ·
     rw [if_neg hm, if_neg (by rw [List.mem_cons]; rintro (h | h); exact he h; exact hm h)]
  ·
   rw [ge_dec hk, cond_false, List.drop_eq_nil_of_le (by omega)]
   exact ⟨hs, fun j hj => by simp⟩

theorem eq_nst {w : Nat} {nulls st : List Int} (h1 : List.length st = w) (h2 : ∀ j, j < w → List.getD st j 0 = if ((j : Nat) : Int) ∈ nulls then 4 else 7) : st = nst w nulls := by
 refine List.ext_getElem (by rw [h1, nst_length]) fun j h3 h4 => ?_
 have a := h2 j (by omega)
 have b := nst_getD (w := w) nulls (show j < w by omega)
 rw [← b] at a
 simpa [h3, h4] using a

theorem RejectsNulls_same (e : Xpr) (w : Int) (nulls : List Int) : iRejectsNulls e w nulls = RejectsNulls e w nulls := by
 unfold iRejectsNulls RejectsNulls rejects
 rw [Xpr.eta, ValidExpr_same]
 cases hv : ValidExpr e w with
 | false => rfl
 | true =>
  have hV := ValidExpr_iff.1 hv
  obtain ⟨n, rfl⟩ := Int.eq_ofNat_of_zero_le (show 0 ≤ w by omega)
  simp only [Bool.not_true, cond_false, cond_true, Go.Am.andThen, Xpr.eta]
  rw [nullStates_eq nulls hV.1, outcomes_same (nst_VX hV.1 hV.2), Int.toNat_natCast]
  obtain ⟨a1, a2⟩ := rl0 n ((List.length (List.replicate n 0 : List Int)) - 0 + 1) 0 (List.replicate n 0) (by simp) ⟨by simp, fun j hj => absurd hj (Nat.not_lt_zero _)⟩
  obtain ⟨b1, b2⟩ := rl1 n nulls ((List.length nulls) - 0 + 1) 0 _ (by omega) a1
  rw [eq_nst b1 fun j hj => by rw [b2 j hj, List.drop_zero, a2 j hj]]

end
end Go.Proofs.Ytophfihhdelbiaa
