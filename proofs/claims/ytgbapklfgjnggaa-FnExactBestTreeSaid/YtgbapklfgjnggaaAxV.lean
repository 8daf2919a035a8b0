/-
  A part of the proof of this claim (AxV): what functions of the program compute, and plain facts of that. No conditions.
-/
import Derived.Test.YtgbapklfgjnggaaAxP
import Derived.Test.YtgbapklfgjnggaaAxQ
set_option linter.all false
namespace Go.Proofs.Ytgbapklfgjnggaa
open Go Go.Am

theorem spec_inner {mask : Nat} (hm : mask < 32) (out : List Int) : ∀ (f k p : Nat) (b : Int × Int), mask - p ≤ f → mask - p < k → 1 ≤ p →
  sbestCosts_l1 mask out k b.1 p = (mn out mask (partsFrom (mask : Int) f (p : Int)) b).1 := by
 intro f
 induction f with
 | zero =>
  intro k p b hf hk hp
  obtain ⟨k, rfl⟩ : ∃ j, k = j + 1 := ⟨k - 1, by omega⟩
  unfold sbestCosts_l1
  rw [show decide (((p : Nat) : Int) < ((mask : Nat) : Int)) = false from decide_eq_false (by omega), cond_false]
  rfl
 | succ f ih =>
  intro k p b hf hk hp
  obtain ⟨k, rfl⟩ : ∃ j, k = j + 1 := ⟨k - 1, by omega⟩
  unfold sbestCosts_l1 partsFrom
  by_cases hlt : ((p : Nat) : Int) < ((mask : Nat) : Int)
  ·
   rw [decide_eq_true hlt, cond_true, cond_true, part_iff' (by omega) hm]
   have ih := fun r => ih k (p + 1) r (by omega) (by omega) (by omega)
   rw [show (((p + 1 : Nat)) : Int) = (p : Int) + 1 by omega] at ih
   rw [show (bits .and .i64 ((p : Nat) : Int) ((mask : Nat) : Int) != ((p : Nat) : Int)) = !(bits .and .i64 ((p : Nat) : Int) ((mask : Nat) : Int) == ((p : Nat) : Int)) from rfl, Bool.not_not]
   cases hb : bits .and .i64 (p : Int) (mask : Int) == (p : Int) with
   | false => exact ih b
   | true =>
    rw [cond_true, cond_true]
    have hs : List.getD out p 0 + List.getD out (Int.toNat (((mask : Nat) : Int) - ((p : Nat) : Int))) 0 = sumAt out mask (p : Int) := by
     unfold sumAt
     rw [Int.toNat_natCast, show Int.toNat (((mask : Nat) : Int) - ((p : Nat) : Int)) = mask - p by omega]
    rw [hs]
    show _ = (mn out mask (partsFrom (mask : Int) f ((p : Int) + 1)) _).1
    rw [← ih]
    cases (bif decide (b.1 < 0) then true else decide (sumAt out mask (p : Int) < b.1)) with
    | true => rfl
    | false => rfl
  ·
   rw [decide_eq_false hlt, cond_false, cond_false]
   rfl

theorem spec_loop {g : Graph} (hV : VG g) : ∀ (k mask : Nat) (c : List Int), 1 ≤ mask → c.length = Int.toNat (gAll g + 1) → Int.toNat (gAll g + 1 - (mask : Int)) < k →
  Right g c mask → (sbestCosts_l0 g k mask c).length = Int.toNat (gAll g + 1) ∧ Right g (sbestCosts_l0 g k mask c) (Int.toNat (gAll g + 1)) := by
 have hA := gAll_b hV
 have hG : gAll g + 1 = 1 * 2 ^ (List.length (Graph.Rows g)) := by unfold gAll; omega
 intro k
 induction k with
 | zero => intro mask c _ _ h; omega
 | succ k ih =>
  intro mask c h1 hc hk hr
  unfold sbestCosts_l0
  rw [← hG]
  by_cases hlt : ((mask : Nat) : Int) < gAll g + 1
  ·
   rw [decide_eq_true hlt, cond_true]
   have hi := spec_inner (mask := mask) (by omega) c mask (mask - 1 + 1) 1 (-1, 0) (by omega) (by omega) (by omega)
   simp only at hi
   unfold Go.Am.andThen
   rw [hi]
   have hr' := hr.step hV (by omega) h1 (by omega)
   have hb : (mn c mask (partsFrom ((mask : Nat) : Int) mask ((1 : Nat) : Int)) (-1, 0)) = best c mask := by
    unfold best parts
    rw [Int.toNat_natCast]
    rfl
   rw [hb]
   have hok := best_ok hr.nn mask
   simp only
   by_cases h0 : 0 ≤ (best c mask).1
   ·
    rw [decide_eq_true h0, cond_true]
    have hv : (best c mask).1 + subsetSize g ((mask : Nat) : Int) = val g mask (best c mask) := by
     unfold val
     rw [show decide ((best c mask).1 < 0) = false from decide_eq_false (by omega), cond_false]
    rw [hv]
    exact ih (mask + 1) _ (by omega) (by rw [List.length_set]; exact hc) (by omega) hr'
   ·
    rw [decide_eq_false h0, cond_false]
    have hv : val g mask (best c mask) = 0 := by
     unfold val
     rw [show decide ((best c mask).1 < 0) = true from decide_eq_true (by omega), cond_true]
    rw [hv, set_same (by omega) (hr.above mask (Nat.le_refl _))] at hr'
    exact ih (mask + 1) _ (by omega) hc (by omega) hr'
  ·
   rw [decide_eq_false hlt, cond_false]
   exact ⟨hc, hr.nn, hr.zero, fun m h1 h2 => hr.eq m h1 (by omega), fun m h => getD_out (by omega)⟩

theorem spec_best {g : Graph} (hV : VG g) : (sbestCosts g).length = Int.toNat (gAll g + 1) ∧ Right g (sbestCosts g) (Int.toNat (gAll g + 1)) := by
 have hA := gAll_b hV
 have hG : gAll g + 1 = 1 * 2 ^ (List.length (Graph.Rows g)) := by unfold gAll; omega
 unfold sbestCosts
 rw [← hG]
 exact spec_loop hV (Int.toNat (gAll g + 1 - ((1 : Nat) : Int)) + 1) 1 (List.replicate (Int.toNat (gAll g + 1)) 0) (Nat.le_refl _) (by simp) (by omega) Right.one

theorem best_same {g : Graph} (hV : VG g) : sbestCosts g = (bestCosts g).1 := by
 have a := spec_best hV
 have b := impl_best hV
 exact a.2.unique b.2.2.1 (by rw [a.1, b.1])

theorem parts_pow : ∀ m : Fin 32, (bits .and .i64 (m.val : Int) ((m.val : Int) - 1) == 0) = decide (parts (m.val : Int) = []) := by decide +kernel

theorem parts_pow' {m : Nat} (hm : m < 32) : (bits .and .i64 (m : Int) ((m : Int) - 1) == 0) = decide (parts (m : Int) = []) := parts_pow ⟨m, hm⟩

theorem firsts_ok {g : Graph} (hV : VG g) : (bestCosts g).2.length ≤ 32 ∧ ∀ m : Nat, m < (bestCosts g).2.length → List.getD (bestCosts g).2 m 0 = 0 ∨ Part m (List.getD (bestCosts g).2 m 0) := by
 have hA := gAll_b hV
 obtain ⟨h1, h2, h3, h4⟩ := impl_best hV
 refine ⟨by omega, fun m hm => ?_⟩
 by_cases h0 : m = 0
 ·
  subst h0; exact .inl h4.zero
 ·
  rw [h4.eq m (by omega) (by omega)]
  rcases mn_mem (c := (bestCosts g).1) (mask := m) (parts (m : Int)) (-1, 0) with h | h
  ·
   exact .inl (by unfold best; rw [h])
  ·
   exact .inr (parts_part h.1)

theorem CB_of {c : List Int} (h : CB c) (hl : c.length ≤ 32) (j : Nat) : 0 ≤ List.getD c j 0 ∧ List.getD c j 0 ≤ 31000000000000000 := by
 by_cases hj : j < c.length
 ·
  have := h j
  omega
 ·
  rw [getD_out (by omega)]
  omega

end Go.Proofs.Ytgbapklfgjnggaa
