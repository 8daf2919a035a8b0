/-
  A part of the proof of this claim (AsD): what functions of the program compute, and plain facts of that. No conditions.
-/
import Derived.Test.YtbhgdogogpihhaaAsC
set_option linter.all false
namespace Go.Proofs.Ytbhgdogogpihhaa
open Go Go.Am

theorem agree_iff {a b : List Val} {set : Int} : agree a b set = true ↔ ∀ c, c < a.length → has set ((c : Nat) : Int) = true → compareValues (List.getD a c Val.zero) (List.getD b c Val.zero) = 0 := by
 unfold agree
 rcases all_loop (agree_l0 a b set) a.length (fun c => (bif (has set ((c : Nat) : Int)) then ((compareValues (List.getD a c Val.zero) (List.getD b c Val.zero)) != 0) else false)) (fun k i => rfl) (a.length - 0 + 1) 0 (by omega) with ⟨h1, h2⟩ | ⟨h1, j, _, h2, h3⟩
 ·
  rw [h1]
  refine ⟨fun _ c hc hh => ?_, fun _ => rfl⟩
  have := h2 c (Nat.zero_le _) hc
  rw [hh, cond_true] at this
  simpa [bne] using this
 ·
  rw [h1]
  refine ⟨fun h => by simp at h, fun h => ?_⟩
  cases hh : has set ((j : Nat) : Int) with
  | false => rw [hh] at h3; cases h3
  | true =>
   rw [hh, cond_true, h j h2 hh] at h3
   exact absurd h3 (by decide)

/-- The dependency holds between all rows. -/
def Holds (f : Dep) (t : Tab) : Prop := ∀ i, i < t.Rows.length → ∀ k, k < i → agree (List.getD (Tab.Rows t) i []) (List.getD (Tab.Rows t) k []) f.From = true → agree (List.getD (Tab.Rows t) i []) (List.getD (Tab.Rows t) k []) f.To = true

theorem holds_l1 (f : Dep) (t : Tab) (i : Nat) : (sHoldsIn_l1 f t i (i - 0 + 1) 0 = .inl () ∧ ∀ k, k < i → agree (List.getD (Tab.Rows t) i []) (List.getD (Tab.Rows t) k []) f.From = true → agree (List.getD (Tab.Rows t) i []) (List.getD (Tab.Rows t) k []) f.To = true) ∨
  (sHoldsIn_l1 f t i (i - 0 + 1) 0 = .inr false ∧ ∃ k, k < i ∧ agree (List.getD (Tab.Rows t) i []) (List.getD (Tab.Rows t) k []) f.From = true ∧ agree (List.getD (Tab.Rows t) i []) (List.getD (Tab.Rows t) k []) f.To = false) := by
 rcases all_loop (sHoldsIn_l1 f t i) i (fun k1 => (bif (agree (List.getD (Tab.Rows t) i []) (List.getD (Tab.Rows t) k1 []) (Dep.From f)) then (!(agree (List.getD (Tab.Rows t) i []) (List.getD (Tab.Rows t) k1 []) (Dep.To f))) else false)) (fun k i => rfl) (i - 0 + 1) 0 (by omega) with ⟨h1, h2⟩ | ⟨h1, j, _, h2, h3⟩
 ·
  refine .inl ⟨h1, fun k hk hF => ?_⟩
  have := h2 k (Nat.zero_le _) hk
  rw [hF, cond_true] at this
  simpa using this
 ·
  refine .inr ⟨h1, j, h2, ?_⟩
  cases hF : agree (List.getD (Tab.Rows t) i []) (List.getD (Tab.Rows t) j []) f.From with
  | false => rw [hF] at h3; cases h3
  | true => rw [hF, cond_true] at h3; exact ⟨rfl, by simpa using h3⟩

theorem holds_l0 (f : Dep) (t : Tab) : ∀ (k i : Nat), t.Rows.length - i < k → (sHoldsIn_l0 f t k i = .inl () ∧ ∀ j, i ≤ j → j < t.Rows.length → ∀ k, k < j → agree (List.getD (Tab.Rows t) j []) (List.getD (Tab.Rows t) k []) f.From = true → agree (List.getD (Tab.Rows t) j []) (List.getD (Tab.Rows t) k []) f.To = true) ∨
  (sHoldsIn_l0 f t k i = .inr false ∧ ¬ Holds f t) := by
 intro k
 induction k with
 | zero => intro i h; omega
 | succ k ih =>
  intro i h
  unfold sHoldsIn_l0
  by_cases hi : ((i : Nat) : Int) < ((List.length (Tab.Rows t) : Nat) : Int)
  ·
   rw [decide_eq_true hi, cond_true]
   rcases holds_l1 f t i with ⟨h1, h2⟩ | ⟨h1, j, h2, h3, h4⟩
   ·
    rw [h1]
    simp only [Sum.elim_inl]
    rcases ih (i + 1) (by omega) with ⟨h3, h4⟩ | h3
    ·
     refine .inl ⟨h3, fun j hj hjl => ?_⟩
     by_cases e : j = i
     ·
      subst e; exact h2
     ·
      exact h4 j (by omega) hjl
    ·
     exact .inr h3
   ·
    rw [h1]
    exact .inr ⟨rfl, fun h => by have := h i (by omega) j h2 h3; rw [h4] at this; cases this⟩
  ·
   rw [decide_eq_false hi, cond_false]
   exact .inl ⟨rfl, fun j hj hjl => by omega⟩

theorem hold_iff {f : Dep} {t : Tab} : HoldsIn f t = true ↔ (VT t ∧ depValid f t.Width = true) ∧ Holds f t := by
 by_cases hV : ValidTable t = true ∧ depValid f t.Width = true
 ·
  have e : HoldsIn f t = Sum.elim (fun _ => true) (fun r => r) (sHoldsIn_l0 f t ((List.length (Tab.Rows t)) - 0 + 1) 0) := by
   rw [hold_eq]
   have hd := depValid_iff.1 hV.2
   have hVT := ValidTable_iff.1 hV.1
   unfold sHoldsIn
   rw [validTable_iff.2 hVT, validSet_iff.2 ⟨⟨hVT.w1, hVT.w6⟩, ivalidSet_iff.2 hd.1⟩, validSet_iff.2 ⟨⟨hVT.w1, hVT.w6⟩, ivalidSet_iff.2 hd.2⟩]
   rfl
  rw [e]
  rcases holds_l0 f t (t.Rows.length - 0 + 1) 0 (by omega) with ⟨h1, h2⟩ | ⟨h1, h2⟩
  ·
   rw [h1]
   exact ⟨fun _ => ⟨⟨ValidTable_iff.1 hV.1, hV.2⟩, fun i hi => h2 i (Nat.zero_le _) hi⟩, fun _ => rfl⟩
  ·
   rw [h1]
   exact ⟨fun h => by simp at h, fun h => absurd h.2 h2⟩
 ·
  constructor
  ·
   intro h
   exfalso
   apply hV
   unfold HoldsIn at h
   cases h1 : ValidTable t with
   | false => rw [h1] at h; cases h
   | true =>
    cases h2 : depValid f t.Width with
    | false => rw [h1, h2] at h; cases h
    | true => exact ⟨rfl, rfl⟩
  ·
   rintro ⟨⟨h1, h2⟩, _⟩
   exact absurd ⟨ValidTable_iff.2 h1, h2⟩ hV

theorem sub_has : ∀ (F T : Fin 8) (c : Fin 3), bits .and .i64 (F.val : Int) (T.val : Int) = (T.val : Int) → has (T.val : Int) ((c.val : Nat) : Int) = true → has (F.val : Int) ((c.val : Nat) : Int) = true := by decide +kernel

theorem sub_has' {F T : Int} (hF : 0 ≤ F ∧ F ≤ 7) (hT : 0 ≤ T ∧ T ≤ 7) {c : Nat} (hc : c < 3) (h : bits .and .i64 F T = T) (hh : has T (c : Int) = true) : has F (c : Int) = true := by
 obtain ⟨F, rfl⟩ := Int.eq_ofNat_of_zero_le hF.1
 obtain ⟨T, rfl⟩ := Int.eq_ofNat_of_zero_le hT.1
 exact sub_has ⟨F, by omega⟩ ⟨T, by omega⟩ ⟨c, hc⟩ h hh

theorem VT.rowlen {t : Tab} (h : VT t) {i : Nat} (hi : i < t.Rows.length) : ((List.getD t.Rows i []).length : Int) = t.Width := (h.rows i hi).2

theorem holds_trivial {f : Dep} {t : Tab} (hV : VT t) (hw : t.Width = 3) (hF : 0 ≤ f.From ∧ f.From ≤ 7) (hT : 0 ≤ f.To ∧ f.To ≤ 7) (h : bits .and .i64 f.From f.To = f.To) : HoldsIn f t = true := by
 refine hold_iff.2 ⟨⟨hV, depValid_iff.2 ?_⟩, fun i hi k hk hag => ?_⟩
 ·
  rw [hw]
  show (0 ≤ f.From ∧ f.From < 2 ^ 3) ∧ (0 ≤ f.To ∧ f.To < 2 ^ 3)
  omega
 ·
  rw [agree_iff] at hag ⊢
  intro c hc hh
  have hl := hV.rowlen hi
  exact hag c hc (sub_has' hF hT (by omega) h hh)

theorem getD_takeT (l : List (List Val)) (n i : Nat) (h : i < n) : List.getD (List.take n l) i [] = List.getD l i [] := by
 simp only [List.getD_eq_getElem?_getD, List.getElem?_take]
 rw [if_pos h]

theorem VT.take {t : Tab} (h : VT t) (n : Nat) : VT ⟨t.Width, List.take n t.Rows⟩ := by
 refine ⟨h.w1, h.w6, ?_, fun i hi => ?_, fun i hi h0 => ?_⟩
 ·
  show (List.take n t.Rows).length ≤ 400
  rw [List.length_take]
  have := h.n4
  omega
 ·
  have hi' : i < (List.take n t.Rows).length := hi
  rw [List.length_take] at hi'
  unfold rowAt
  show VR (List.getD (List.take n t.Rows) i []) ∧ ((List.getD (List.take n t.Rows) i []).length : Int) = t.Width
  rw [getD_takeT _ _ _ (by omega)]
  exact h.rows i (by omega)
 ·
  have hi' : i < (List.take n t.Rows).length := hi
  rw [List.length_take] at hi'
  unfold rowAt
  show compareRows (List.getD (List.take n t.Rows) (i - 1) []) (List.getD (List.take n t.Rows) i []) ≤ 0
  rw [getD_takeT _ _ _ (by omega), getD_takeT _ _ _ (by omega)]
  exact h.sorted i (by omega) h0

theorem holds_take {f : Dep} {t : Tab} (h : HoldsIn f t = true) (n : Nat) : HoldsIn f ⟨t.Width, List.take n t.Rows⟩ = true := by
 obtain ⟨⟨hV, hd⟩, hH⟩ := hold_iff.1 h
 refine hold_iff.2 ⟨⟨hV.take n, hd⟩, fun i hi k hk => ?_⟩
 have hi' : i < (List.take n t.Rows).length := hi
 rw [List.length_take] at hi'
 show agree (List.getD (List.take n t.Rows) i []) (List.getD (List.take n t.Rows) k []) f.From = true → agree (List.getD (List.take n t.Rows) i []) (List.getD (List.take n t.Rows) k []) f.To = true
 rw [getD_takeT _ _ _ (by omega), getD_takeT _ _ _ (by omega)]
 exact hH i (by omega) k hk

theorem FnHoldsIn_law (code : List Int) : FnHoldsIn code = true := by
 unfold FnHoldsIn
 rw [← hold_eq]
 generalize (DrawHoldsIn code).1 = f
 generalize (DrawHoldsIn code).2 = t
 cases decide (1048576 < ((List.length code : Nat) : Int)) with
 | true => rfl
 | false =>
  simp only [bne_self_eq_false, cond_false, beq_self_eq_true]
  cases hc : (bif (bif (bif (bif (bif (!(ValidTable t)) then true else ((Tab.Width t) != 3)) then true else (decide ((Dep.From f) < 0))) then true else (decide (7 < (Dep.From f)))) then true else (decide ((Dep.To f) < 0))) then true else (decide (7 < (Dep.To f)))) with
  | true => rfl
  | false =>
   rw [cond_false]
   have h6 := or_neg hc
   have h5 := or_neg h6.1
   have h4 := or_neg h5.1
   have h3 := or_neg h4.1
   have h2 := or_neg h3.1
   have hV := ValidTable_iff.1 (not_neg h2.1)
   have hw := bne_neg h2.2
   have f0 := of_decide_eq_false h3.2
   have f7 := of_decide_eq_false h4.2
   have t0 := of_decide_eq_false h5.2
   have t7 := of_decide_eq_false h6.2
   cases hok : HoldsIn f t with
   | true =>
    rw [holds_take hok]
    cases ((bits .and .i64 (Dep.From f) (Dep.To f)) != (Dep.To f)) <;> rfl
   | false =>
    cases hs : ((bits .and .i64 (Dep.From f) (Dep.To f)) != (Dep.To f)) with
    | true => rfl
    | false =>
     have := holds_trivial hV hw ⟨by omega, by omega⟩ ⟨by omega, by omega⟩ (bne_neg hs)
     rw [hok] at this
     cases this

end Go.Proofs.Ytbhgdogogpihhaa
