/-
  A part of the proof of this claim (AwT6): what functions of the program compute, and plain facts of that. No conditions.
-/
import Derived.Test.YtjcjpeckfikfkaaAwT3
import Derived.Test.YtjcjpeckfikfkaaAwE
import Derived.Test.YtjcjpeckfikfkaaAnL
import Derived.Test.YtjcjpeckfikfkaaAwJ
import Derived.Test.YtjcjpeckfikfkaaAnT
set_option linter.all false
namespace Go.Proofs.Ytjcjpeckfikfkaa
open Go Go.Am
open Go.Am.AW (seq r1U ret kpU cdE r0U r1 rS r0 kp)
open List (length getD)
noncomputable section

theorem szSS_le {a : List (List Val)} : ∀ (k : Nat) (l : Int) (i : Nat), 0 ≤ l → a.length - i < k → ¬ Sum.elim (fun z => z) (fun r => r) (szValueSS_l0 a k l i) < 0 → ∀ j, i ≤ j → j < a.length → (length (getD a j []) : Int) ≤ l := by
 intro k
 induction k with
 | zero => intro l i _ h; omega
 | succ k ih =>
  intro l i hl hk h j hj hn; unfold szValueSS_l0 at h; by_cases hi : i < a.length
  ·
   rw [lt_dec hi, cond_true] at h; by_cases h1 : szValueS (a.getD i []) l < 0
   · rw [decide_eq_true h1, cond_true] at h; exact absurd (by decide) h
   ·
    rw [decide_eq_false h1, cond_false] at h; have h2 := szValueS_ge (a := a.getD i []) hl; rcases Nat.eq_or_lt_of_le hj with rfl | hj
    ·
     unfold szValueS at h1; by_cases e : l - (length (a.getD i []) : Int) < 0
     · rw [decide_eq_true e, cond_true] at h1; exact absurd (by decide) h1
     · omega
    · have := ih _ (i + 1) (by omega) (by omega) h j hj hn; omega
  · omega

theorem szSS_fit {a : List (List Val)} (h : ¬ szValueSS a 1048576 < 0) : (length a : Int) ≤ 1048576 ∧ ∀ i : Nat, i < length a → (length (getD a i []) : Int) ≤ 1048576 := by
 unfold szValueSS at h; by_cases e : (1048576 : Int) - (length a : Int) < 0
 · rw [decide_eq_true e, cond_true] at h; exact absurd (by decide) h
 · rw [decide_eq_false e, cond_false] at h; refine ⟨by omega, fun i hi => ?_⟩; have := szSS_le _ _ 0 (by omega) (by omega) h i (by omega) hi; omega

end
end Go.Proofs.Ytjcjpeckfikfkaa


namespace Go.Proofs.Ytjcjpeckfikfkaa
open Go Go.Am
open List (length getD replicate)
noncomputable section

/-! ### Marks -/

def markV (v : Val) (k : Int) : Val × Int := (⟨Int.tmod k 3 == 0, IntKind.wrap .i64 (k + 1)⟩, IntKind.wrap .i64 (IntKind.wrap .i64 (k + 1) + 1))

def BND : Int := 4611686018427387900

theorem markS_held (a : List Val) (k : Int) : (markValueS a k).2 = kf markV a k ∧ (markValueS a k).1.length = a.length ∧ heldValueS (markValueS a k).1 k = kf markV a k := by
 have hok : ∀ (l : List Val) (k : Int), OKL markV (fun _ _ => True) l k := by
  intro l
  induction l with
  | nil => intro k; trivial
  | cons x l ih => intro k; exact ⟨trivial, ih _⟩
 obtain ⟨h1, h2, _, h4⟩ := mark_held (m := markV) (ok := fun _ _ => True) Val.zero markValueS_l0 heldValueS_l0
  (fun n k i a hi => by
   show (bif decide ((i : Int) < (length a : Int)) then _ else _) = _; rw [lt_dec hi, cond_true, lgetD_set_eq hi, List.set_set]
   rfl)
  (fun n k i a hi => by
   show (bif decide ((i : Int) < (length a : Int)) then _ else _) = _
   rw [ge_dec hi, cond_false])
  (fun b n k i x hi hb _ => by
   show (bif decide ((i : Int) < (length b : Int)) then _ else _) = _; rw [lt_dec hi, cond_true, hb]
   simp [markV])
  (fun b n k i hi => by
   show (bif decide ((i : Int) < (length b : Int)) then _ else _) = _
   rw [ge_dec hi, cond_false]) (a.length - 0 + 1) k 0 a (by omega) (hok _ _)
 rw [List.drop_zero] at h1 h4; refine ⟨h1, h2, ?_⟩; have := h4 ((markValueS_l0 (a.length - 0 + 1) k 0 a).2.length - 0 + 1) (by rw [h2]; omega); show Sum.elim _ _ (heldValueS_l0 (markValueS_l0 (a.length - 0 + 1) k 0 a).2 ((markValueS_l0 (a.length - 0 + 1) k 0 a).2.length - 0 + 1) k 0) = _; rw [this]; rfl

def cntS (r : List Val) : Nat := (r.map fun _ => 2).sum
theorem cntS_eq (r : List Val) : cntS r = 2 * r.length := by
 unfold cntS
 induction r with
 | nil => rfl
 | cons x r ih => simp only [List.map_cons, List.sum_cons, List.length_cons, ih]; omega

theorem markS_cnt (a : List Val) (k : Int) (h0 : 0 ≤ k) (hB : k + (cntS a : Nat) ≤ BND) : (markValueS a k).2 = k + (cntS a : Nat) ∧ heldValueS (markValueS a k).1 k = k + (cntS a : Nat) := by
 have := (kf_sum (m := markV) (ok := fun _ _ => True) (c := fun _ => 2) (B := BND) (fun x k h0 hB => by
  unfold BND at hB; refine ⟨?_, trivial⟩; show IntKind.wrap .i64 (IntKind.wrap .i64 (k + 1) + 1) = _; rw [wrapI (x := k + 1) (by omega) (by omega), wrapI (by omega) (by omega)]
  omega) a k h0 hB).1
 obtain ⟨h1, _, h3⟩ := markS_held a k; rw [h1, h3, this]; exact ⟨rfl, rfl⟩

def cntSS (rows : List (List Val)) : Nat := (rows.map cntS).sum

theorem markSS_cnt (a : List (List Val)) (k : Int) (h0 : 0 ≤ k) (hB : k + (cntSS a : Nat) ≤ BND) : (markValueSS a k).2 = k + (cntSS a : Nat) ∧ heldValueSS (markValueSS a k).1 k = k + (cntSS a : Nat) := by
 obtain ⟨hs, hok⟩ := kf_sum (m := markValueS) (ok := fun x k => 0 ≤ (markValueS x k).2 ∧ heldValueS (markValueS x k).1 k = (markValueS x k).2) (c := cntS) (B := BND) (fun x k h0 hB => by
  obtain ⟨h1, h2⟩ := markS_cnt x k h0 hB
  exact ⟨h1, by omega, by rw [h1, h2]⟩) a k h0 hB
 obtain ⟨h1, h2, _, h4⟩ := mark_held (m := markValueS) (ok := fun x k => 0 ≤ (markValueS x k).2 ∧ heldValueS (markValueS x k).1 k = (markValueS x k).2) [] markValueSS_l0 heldValueSS_l0
  (fun n k i a hi => by
   show (bif decide ((i : Int) < (length a : Int)) then _ else _) = _
   rw [lt_dec hi, cond_true])
  (fun n k i a hi => by
   show (bif decide ((i : Int) < (length a : Int)) then _ else _) = _
   rw [ge_dec hi, cond_false])
  (fun b n k i x hi hb ho => by
   show (bif decide ((i : Int) < (length b : Int)) then _ else _) = _
   rw [lt_dec hi, cond_true, hb, ho.2, decide_eq_false (by omega), cond_false])
  (fun b n k i hi => by
   show (bif decide ((i : Int) < (length b : Int)) then _ else _) = _
   rw [ge_dec hi, cond_false]) (a.length - 0 + 1) k 0 a (by omega) (by rw [List.drop_zero]; exact hok)
 rw [List.drop_zero] at h1 h4; refine ⟨h1.trans hs, ?_⟩; have := h4 ((markValueSS_l0 (a.length - 0 + 1) k 0 a).2.length - 0 + 1) (by rw [h2]; omega); show Sum.elim _ _ (heldValueSS_l0 (markValueSS_l0 (a.length - 0 + 1) k 0 a).2 ((markValueSS_l0 (a.length - 0 + 1) k 0 a).2.length - 0 + 1) k 0) = _; rw [this, hs]; rfl

theorem cnt_fits {a : List (List Val)} (h : (length a : Int) ≤ 1048576 ∧ ∀ i : Nat, i < length a → (length (getD a i []) : Int) ≤ 1048576) : (cntSS a : Int) ≤ 2199023255552 := by
 have : cntSS a ≤ a.length * 2097152 := sum_le a fun x hx => by
  obtain ⟨i, hi, rfl⟩ := List.mem_iff_getElem.1 hx; have := h.2 i hi
  rw [List.getD_eq_getElem?_getD, List.getElem?_eq_getElem hi] at this
  simp only [Option.getD_some] at this
  rw [cntS_eq]; omega
 have h2 : a.length * 2097152 ≤ 1048576 * 2097152 := Nat.mul_le_mul_right _ (by omega); omega

theorem toValueS_l0_eq (a : List Val) : ∀ (k i : Nat) (out : List Val), a.length - i < k → out.length = a.length → (toValueS_l0 a k i out).length = a.length := by
 intro k
 induction k with
 | zero => intro i out h; omega
 | succ k ih =>
  intro i out hk ho; unfold toValueS_l0; by_cases hi : i < a.length
  · rw [lt_dec hi, cond_true]; exact ih _ _ (by omega) (by rw [List.length_set]; exact ho)
  · rw [ge_dec hi, cond_false]; exact ho

theorem toValueS_len (a : List Val) : (toValueS a).length = a.length := toValueS_l0_eq a _ 0 _ (by omega) (by simp)

theorem toSS_l0 (a : List (List Val)) : ∀ (k i : Nat) (out : List (List Val)), a.length - i < k → out.length = a.length → (∀ j, j < i → j < a.length → (out.getD j []).length = (a.getD j []).length) →
  (toValueSS_l0 a k i out).length = a.length ∧ ∀ j, j < a.length → ((toValueSS_l0 a k i out).getD j []).length = (a.getD j []).length := by
 intro k
 induction k with
 | zero => intro i out h; omega
 | succ k ih =>
  intro i out hk ho hj; unfold toValueSS_l0; by_cases hi : i < a.length
  ·
   rw [lt_dec hi, cond_true]; refine ih _ _ (by omega) (by rw [List.length_set]; exact ho) fun j h1 h2 => ?_; by_cases hij : j = i
   · subst hij; rw [lgetD_set_eq (by omega), toValueS_len]
   · rw [lgetD_set_ne (by omega)]; exact hj j (by omega) h2
  · rw [ge_dec hi, cond_false]; exact ⟨ho, fun j h => hj j (by omega) h⟩

theorem toSS_fit {a : List (List Val)} (h : (length a : Int) ≤ 1048576 ∧ ∀ i : Nat, i < length a → (length (getD a i []) : Int) ≤ 1048576) :
  (length (toValueSS a) : Int) ≤ 1048576 ∧ ∀ i : Nat, i < length (toValueSS a) → (length (getD (toValueSS a) i []) : Int) ≤ 1048576 := by
 obtain ⟨h1, h2⟩ := toSS_l0 a (a.length - 0 + 1) 0 (replicate a.length []) (by omega) (by simp) (fun j hj => absurd hj (Nat.not_lt_zero _)); have h1 : (toValueSS a).length = a.length := h1; refine ⟨by rw [h1]; exact h.1, fun i hi => ?_⟩; rw [h1] at hi; have : ((toValueSS a).getD i []).length = (a.getD i []).length := h2 i hi; rw [this]; exact h.2 i hi

theorem markSS_nn {a : List (List Val)} (h : (length a : Int) ≤ 1048576 ∧ ∀ i : Nat, i < length a → (length (getD a i []) : Int) ≤ 1048576) : ¬ (markValueSS (toValueSS a) 1).2 < 0 := by
 have := cnt_fits (toSS_fit h); rw [(markSS_cnt (toValueSS a) 1 (by decide) (by unfold BND; omega)).1]; omega

theorem eqValue_refl (a : Val) : eqValue a a = true := by
 unfold eqValue; simp

theorem eqValueS_refl (a : List Val) : eqValueS a a = true := by
 unfold eqValueS; rw [show ((length a : Int) != (length a : Int)) = false by simp, cond_false]; rcases all_loop (eqValueS_l0 a a) a.length (fun i => !(eqValue (getD a i Val.zero) (getD a i Val.zero))) (fun k i => rfl) (a.length - 0 + 1) 0 (by omega) with ⟨h1, h2⟩ | ⟨h1, j, h2, h3, h4⟩
 · rw [h1]; rfl
 · rw [eqValue_refl] at h4; cases h4

theorem eqValueSS_refl (a : List (List Val)) : eqValueSS a a = true := by
 unfold eqValueSS; rw [show ((length a : Int) != (length a : Int)) = false by simp, cond_false]; rcases all_loop (eqValueSS_l0 a a) a.length (fun i => !(eqValueS (getD a i []) (getD a i []))) (fun k i => rfl) (a.length - 0 + 1) 0 (by omega) with ⟨h1, h2⟩ | ⟨h1, j, h2, h3, h4⟩
 · rw [h1]; rfl
 · rw [eqValueS_refl] at h4; cases h4

theorem eqTable_refl (a : Tab) : eqTable a a = true := by
 unfold eqTable; rw [show (a.Width != a.Width) = false by simp, cond_false, eqValueSS_refl]; rfl

end
end Go.Proofs.Ytjcjpeckfikfkaa


namespace Go.Proofs.Ytjcjpeckfikfkaa
open Go Go.Am
open List (length getD)
noncomputable section

theorem szTable_fit {t : Tab} (h : ¬ szTable t 1048576 < 0) : (length t.Rows : Int) ≤ 1048576 ∧ ∀ i : Nat, i < length t.Rows → (length (getD t.Rows i []) : Int) ≤ 1048576 := by
 unfold szTable at h; by_cases h1 : szValueSS t.Rows 1048576 < 0
 · rw [decide_eq_true h1, cond_true] at h; exact absurd (by decide) h
 · exact szSS_fit h1

theorem toTable_fit {t : Tab} (h : (length t.Rows : Int) ≤ 1048576 ∧ ∀ i : Nat, i < length t.Rows → (length (getD t.Rows i []) : Int) ≤ 1048576) : ¬ (markValueSS (toTable t).Rows 1).2 < 0 ∧ 0 ≤ (markValueSS (toTable t).Rows 1).2 ∧ (markValueSS (toTable t).Rows 1).2 ≤ 2199023255553 := by
 have h2 := cnt_fits (toSS_fit h); have h1 := markSS_nn h; have h3 := (markSS_cnt (toValueSS t.Rows) 1 (by decide) (by unfold BND; omega)).1; refine ⟨h1, ?_, ?_⟩ <;> (show _ ≤ _; first | (show 0 ≤ (markValueSS (toValueSS t.Rows) 1).2; omega) | (show (markValueSS (toValueSS t.Rows) 1).2 ≤ _; omega))

end
end Go.Proofs.Ytjcjpeckfikfkaa
