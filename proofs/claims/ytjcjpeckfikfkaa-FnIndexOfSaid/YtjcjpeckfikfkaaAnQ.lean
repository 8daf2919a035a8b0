/-
  An, part Q: the library's insertion sort of numbers that ascend at first: by a comparison that tells them apart where the given one does not.
-/
import Derived.Test.YtjcjpeckfikfkaaAnP
import Derived.Sort.LotA
import Derived.Shelf.SlSortCmp.Insertion1
set_option linter.all false
namespace Go.Am
open Go.Sort Go.Proofs

section
variable {α : Type} [Inhabited α] {lt lt' : α → α → Bool} {v : α → Int}

theorem inner_eq (h : ∀ x y, v y < v x → lt' x y = lt x y) : ∀ (j : Nat) (d : Array α), j < d.size → (∀ i, i < j → v d[i]! < v d[j]!) → insInner lt 0 j d = insInner lt' 0 j d := by
  intro j
  induction j with
  | zero => intro d _ _; rfl
  | succ j ih =>
    intro d hj hd
    unfold insInner
    rw [h _ _ (hd j (Nat.lt_succ_self j))]
    split
    · refine ih _ (by rw [size_swp]; omega) fun i hi => ?_
      rw [swp_right d (j + 1) j (by omega), swp_other d (j + 1) j i (by omega) (by omega)]
      exact hd i (by omega)
    · rfl

theorem inner_size (lt : α → α → Bool) : ∀ (j : Nat) (d : Array α), (insInner lt 0 j d).size = d.size := by
  intro j
  induction j with
  | zero => intro d; rfl
  | succ j ih =>
    intro d
    unfold insInner
    split
    · rw [ih, size_swp]
    · rfl

theorem inner_hi (lt : α → α → Bool) : ∀ (j : Nat) (d : Array α) (m : Nat), j < m → (insInner lt 0 j d)[m]! = d[m]! := by
  intro j
  induction j with
  | zero => intro d m _; rfl
  | succ j ih =>
    intro d m hm
    unfold insInner
    split
    · rw [ih _ m (by omega), swp_other d (j + 1) j m (by omega) (by omega)]
    · rfl

theorem inner_lo (lt : α → α → Bool) : ∀ (j : Nat) (d : Array α) (k : Nat), j < d.size → k ≤ j → ∃ k', k' ≤ j ∧ (insInner lt 0 j d)[k]! = d[k']! := by
  intro j
  induction j with
  | zero => intro d k _ hk; exact ⟨k, hk, rfl⟩
  | succ j ih =>
    intro d k hj hk
    unfold insInner
    split
    · by_cases hkj : k = j + 1
      · subst hkj
        refine ⟨j, by omega, ?_⟩
        rw [inner_hi lt j _ _ (by omega), swp_left d (j + 1) j hj (by omega)]
      · obtain ⟨k', hk', e⟩ := ih (swp d (j + 1) j) k (by rw [size_swp]; omega) (by omega)
        rw [e]
        by_cases h2 : k' = j
        · subst h2
          exact ⟨k' + 1, Nat.le_refl _, swp_right d (k' + 1) k' (by omega)⟩
        · exact ⟨k', by omega, swp_other d (j + 1) j k' (by omega) h2⟩
    · exact ⟨k, hk, rfl⟩

theorem outer_eq (h : ∀ x y, v y < v x → lt' x y = lt x y) (n : Nat) : ∀ (k i : Nat) (d : Array α), n - i ≤ k → d.size = n → (∀ a b, a < b → i ≤ b → b < n → v d[a]! < v d[b]!) → insOuter lt 0 n i d = insOuter lt' 0 n i d := by
  intro k
  induction k with
  | zero =>
    intro i d hk hn hd
    rw [insOuter_stop _ 0 n i d (by omega), insOuter_stop _ 0 n i d (by omega)]
  | succ k ih =>
    intro i d hk hn hd
    by_cases hi : i < n
    · rw [insOuter_go _ 0 n i d hi, insOuter_go _ 0 n i d hi, ← inner_eq h i d (by omega) fun a ha => hd a i ha (Nat.le_refl _) hi]
      refine ih (i + 1) _ (by omega) (by rw [inner_size]; exact hn) fun a b hab hib hb => ?_
      rw [inner_hi lt i d b (by omega)]
      by_cases hai : a ≤ i
      · obtain ⟨k', hk', e⟩ := inner_lo lt i d a (by omega) hai
        rw [e]
        exact hd k' b (by omega) (by omega) hb
      · rw [inner_hi lt i d a (by omega)]
        exact hd a b hab (by omega) hb
    · rw [insOuter_stop _ 0 n i d hi, insOuter_stop _ 0 n i d hi]

theorem insertion_eq (h : ∀ x y, v y < v x → lt' x y = lt x y) (d : Array α) (hd : ∀ a b, a < b → b < d.size → v d[a]! < v d[b]!) : insertionSort lt d 0 d.size = insertionSort lt' d 0 d.size := by
  unfold insertionSort
  exact outer_eq h d.size _ _ d (Nat.le_refl _) rfl fun a b hab _ hb => hd a b hab hb

end
end Go.Am
