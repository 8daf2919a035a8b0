/-
  An, part 2: the library's stable sort in plain Lean: what an exchange of two rows of places, a rotation and a merge in place do.
-/
import Derived.Test.YtjcjpeckfikfkaaAnQ
set_option linter.all false
namespace Go.Am
open Go.Sort Go.Proofs

section
variable {α : Type} [Inhabited α]

def IsSwap (a b n : Nat) (d d' : Array α) : Prop := ∀ k : Nat, d'[k]! = if a ≤ k ∧ k < a + n then d[b + (k - a)]! else if b ≤ k ∧ k < b + n then d[a + (k - b)]! else d[k]!

def IsRot (a m b : Nat) (d d' : Array α) : Prop := ∀ k : Nat, d'[k]! = if a ≤ k ∧ k < a + (b - m) then d[k + (m - a)]! else if a + (b - m) ≤ k ∧ k < b then d[k - (b - m)]! else d[k]!

theorem at_eq (d : Array α) {i j : Nat} (h : i = j) : d[i]! = d[j]! := by rw [h]

theorem IsSwap.zero (a b : Nat) (d : Array α) : IsSwap a b 0 d d := by
  intro k; rw [if_neg (by omega), if_neg (by omega)]

theorem IsSwap.step {a b i : Nat} {d dk : Array α} (h : IsSwap a b i d dk) (hab : a + i < b) (hb : b + i < dk.size) : IsSwap a b (i + 1) d (swp dk (a + i) (b + i)) := by
  intro k; rw [swp_get dk (by omega) (by omega)]; have h1 := h (a + i); have h2 := h (b + i); rw [if_neg (by omega), if_neg (by omega)] at h1 h2; by_cases e1 : k = a + i
  · subst e1; rw [if_neg (by omega), if_pos rfl, h2, if_pos (by omega)]; exact at_eq d (by omega)
  · by_cases e2 : k = b + i
    · subst e2; rw [if_pos rfl, h1, if_neg (by omega), if_pos (by omega)]; exact at_eq d (by omega)
    · rw [if_neg e2, if_neg e1, h k]; by_cases c1 : a ≤ k ∧ k < a + i
      · rw [if_pos c1, if_pos (by omega)]
      · rw [if_neg c1, if_neg (by omega : ¬ (a ≤ k ∧ k < a + (i + 1)))]; by_cases c2 : b ≤ k ∧ k < b + i
        · rw [if_pos c2, if_pos (by omega)]
        · rw [if_neg c2, if_neg (by omega)]

theorem IsRot.left (m b : Nat) (h : m ≤ b) (d : Array α) : IsRot m m b d d := by
  intro k; by_cases c1 : m ≤ k ∧ k < m + (b - m)
  · rw [if_pos c1]; exact at_eq d (by omega)
  · rw [if_neg c1, if_neg (by omega)]

theorem IsRot.right (a m : Nat) (d : Array α) : IsRot a m m d d := by
  intro k; rw [if_neg (by omega)]; by_cases c2 : a + (m - m) ≤ k ∧ k < m
  · rw [if_pos c2]; exact at_eq d (by omega)
  · rw [if_neg c2]

theorem rot_gt {m i j : Nat} {d dk d' : Array α} (hij : j < i) (hm : i ≤ m) (hs : IsSwap (m - i) m j d dk) (h : IsRot (m - (i - j)) m (m + j) dk d') : IsRot (m - i) m (m + j) d d' := by
  intro k; rw [h k]; have e1 := hs (k + (m - (m - (i - j)))); have e2 := hs (k - (m + j - m)); have e3 := hs k; rcases (by omega : k < m - i ∨ (m - i ≤ k ∧ k < m - (i - j)) ∨ (m - (i - j) ≤ k ∧ k < m - (i - j) + j) ∨ (m - (i - j) + j ≤ k ∧ k < m + j) ∨ m + j ≤ k) with c | c | c | c | c
  · rw [if_neg (by omega), if_neg (by omega), if_neg (by omega), if_neg (by omega), e3, if_neg (by omega), if_neg (by omega)]
  · rw [if_neg (by omega), if_neg (by omega), if_pos (by omega), e3, if_pos (by omega)]; exact at_eq d (by omega)
  · rw [if_pos (by omega), e1]; by_cases q : m ≤ k + (m - (m - (i - j)))
    · rw [if_neg (by omega), if_pos (by omega), if_neg (by omega), if_pos (by omega)]; exact at_eq d (by omega)
    · omega
  · rw [if_neg (by omega), if_pos (by omega), e2, if_neg (by omega), if_neg (by omega), if_neg (by omega), if_pos (by omega)]
  · rw [if_neg (by omega), if_neg (by omega), if_neg (by omega), if_neg (by omega), e3, if_neg (by omega), if_neg (by omega)]

theorem rot_lt {m i j : Nat} {d dk d' : Array α} (hij : i < j) (hm : i ≤ m) (hs : IsSwap (m - i) (m + j - i) i d dk) (h : IsRot (m - i) m (m + (j - i)) dk d') : IsRot (m - i) m (m + j) d d' := by
  intro k; rw [h k]; have e1 := hs (k + (m - (m - i))); have e2 := hs (k - (m + (j - i) - m)); have e3 := hs k; rcases (by omega : k < m - i ∨ (m - i ≤ k ∧ k < m - i + (j - i)) ∨ (m - i + (j - i) ≤ k ∧ k < m + (j - i)) ∨ (m + (j - i) ≤ k ∧ k < m + j) ∨ m + j ≤ k) with c | c | c | c | c
  · rw [if_neg (by omega), if_neg (by omega), if_neg (by omega), if_neg (by omega), e3, if_neg (by omega), if_neg (by omega)]
  · rw [if_pos (by omega), if_pos (by omega), e1, if_neg (by omega), if_neg (by omega)]
  · rw [if_neg (by omega), if_pos (by omega), e2, if_pos (by omega), if_pos (by omega)]; exact at_eq d (by omega)
  · rw [if_neg (by omega), if_neg (by omega), if_neg (by omega), if_pos (by omega), e3, if_neg (by omega), if_pos (by omega)]; exact at_eq d (by omega)
  · rw [if_neg (by omega), if_neg (by omega), if_neg (by omega), if_neg (by omega), e3, if_neg (by omega), if_neg (by omega)]

theorem rot_eq {m i : Nat} {d dk : Array α} (hm : i ≤ m) (hs : IsSwap (m - i) m i d dk) : IsRot (m - i) m (m + i) d dk := by
  intro k; rw [hs k]; by_cases c1 : m - i ≤ k ∧ k < m - i + i
  · rw [if_pos c1, if_pos (by omega)]; exact at_eq d (by omega)
  · by_cases c2 : m ≤ k ∧ k < m + i
    · rw [if_neg c1, if_pos c2, if_neg (by omega), if_pos (by omega)]; exact at_eq d (by omega)
    · rw [if_neg c1, if_neg c2, if_neg (by omega), if_neg (by omega)]

theorem rot_up {a k : Nat} {d dk : Array α} (h : IsRot a (a + 1) (k + 1) d dk) (hak : a ≤ k) (hk : k + 1 < dk.size) : IsRot a (a + 1) (k + 2) d (swp dk k (k + 1)) := by
  intro q; rw [swp_get dk (by omega) (by omega)]; have h1 := h k; have h2 := h (k + 1); by_cases e1 : q = k + 1
  · rw [if_pos e1, h1, if_neg (by omega), if_pos (by omega), if_neg (by omega), if_pos (by omega)]; exact at_eq d (by omega)
  · rw [if_neg e1]; by_cases e2 : q = k
    · rw [if_pos e2, h2, if_neg (by omega), if_neg (by omega), if_pos (by omega)]; exact at_eq d (by omega)
    · rw [if_neg e2, h q]; rcases (by omega : q < a ∨ (a ≤ q ∧ q < k) ∨ k + 1 < q) with c | c | c
      · rw [if_neg (by omega), if_neg (by omega), if_neg (by omega), if_neg (by omega)]
      · rw [if_pos (by omega), if_pos (by omega)]
      · rw [if_neg (by omega), if_neg (by omega), if_neg (by omega), if_neg (by omega)]

theorem rot_down {k m : Nat} {d dk : Array α} (h : IsRot (k + 1) m (m + 1) d dk) (hkm : k + 1 ≤ m) (hm : m < dk.size) : IsRot k m (m + 1) d (swp dk (k + 1) k) := by
  intro q; rw [swp_get dk (by omega) (by omega)]; have h1 := h k; have h2 := h (k + 1); by_cases e1 : q = k
  · rw [if_pos e1, h2, if_pos (by omega), if_pos (by omega)]; exact at_eq d (by omega)
  · rw [if_neg e1]; by_cases e2 : q = k + 1
    · rw [if_pos e2, h1, if_neg (by omega), if_neg (by omega), if_neg (by omega), if_pos (by omega)]; exact at_eq d (by omega)
    · rw [if_neg e2, h q]; rcases (by omega : q < k ∨ (k + 1 < q ∧ q < m + 1) ∨ m < q) with c | c | c
      · rw [if_neg (by omega), if_neg (by omega), if_neg (by omega), if_neg (by omega)]
      · rw [if_neg (by omega), if_pos (by omega), if_neg (by omega), if_pos (by omega)]
      · rw [if_neg (by omega), if_neg (by omega), if_neg (by omega), if_neg (by omega)]

/-! ### Merging in place -/

structure Cmp2 (lt lt' : α → α → Bool) (v : α → Int) : Prop where
  swo : SWO lt'
  eq : ∀ x y, v y < v x → lt' x y = lt x y

variable {lt lt' : α → α → Bool} {v : α → Int}

theorem Cmp2.pos (h : Cmp2 lt lt' v) {x y : α} (hv : v x < v y) (hl : lt y x = true) : lt' x y = false := h.swo.asymmA (by rw [h.eq _ _ hv]; exact hl)
theorem Cmp2.neg (h : Cmp2 lt lt' v) {x y : α} (hv : v x < v y) (hl : lt y x = false) : lt' y x = false := by rw [h.eq _ _ hv]; exact hl
theorem Cmp2.tr (h : Cmp2 lt lt' v) {x y z : α} (h1 : lt' y x = false) (h2 : lt' z y = false) : lt' z x = false := h.swo.ntrans _ _ _ h2 h1

structure Two (lt' : α → α → Bool) (v : α → Int) (a m b : Nat) (d : Array α) : Prop where
  sa : SortedIn lt' a m d
  sb : SortedIn lt' m b d
  cr : ∀ i j, a ≤ i → i < m → m ≤ j → j < b → v d[i]! < v d[j]!

structure Cut (lt' : α → α → Bool) (a m b s e : Nat) (d : Array α) : Prop where
  ls : a ≤ s
  sm : s ≤ m
  me : m ≤ e
  eb : e ≤ b
  up : s = a ∨ e = b ∨ lt' d[e]! d[s - 1]! = false
  dn : s = m ∨ e = m ∨ lt' d[s]! d[e - 1]! = false

theorem SortedIn.le (hS : SWO lt') {a b : Nat} {d : Array α} (h : SortedIn lt' a b d) {i j : Nat} (hi : a ≤ i) (hij : i ≤ j) (hj : j < b) : lt' d[j]! d[i]! = false := by
  rcases Nat.eq_or_lt_of_le hij with e | e
  · subst e; exact hS.irrefl _
  · exact h i j hi e hj

theorem Cut.low (hC : Cmp2 lt lt' v) {a m b s e : Nat} {d : Array α} (h : Cut lt' a m b s e d) (hT : Two lt' v a m b d) {i j : Nat} (hi : (a ≤ i ∧ i < s) ∨ (m ≤ i ∧ i < e)) (hj : (s ≤ j ∧ j < m) ∨ (e ≤ j ∧ j < b)) : lt' d[j]! d[i]! = false := by
  have h1 := h.ls; have h2 := h.sm; have h3 := h.me; have h4 := h.eb; rcases hi with hi | hi
  · rcases hj with hj | hj
    · exact hT.sa i j (by omega) (by omega) (by omega)
    · rcases h.up with u | u | u
      · omega
      · omega
      · exact hC.tr (SortedIn.le hC.swo hT.sa (i := i) (j := s - 1) (by omega) (by omega) (by omega)) (hC.tr u (SortedIn.le hC.swo hT.sb (i := e) (j := j) (by omega) (by omega) (by omega)))
  · rcases hj with hj | hj
    · rcases h.dn with u | u | u
      · omega
      · omega
      · exact hC.tr (SortedIn.le hC.swo hT.sb (i := i) (j := e - 1) (by omega) (by omega) (by omega)) (hC.tr u (SortedIn.le hC.swo hT.sa (i := s) (j := j) (by omega) (by omega) (by omega)))
    · exact hT.sb i j (by omega) (by omega) (by omega)

theorem Cut.rot (hC : Cmp2 lt lt' v) {a m b s e mid : Nat} {d d' : Array α} (h : Cut lt' a m b s e d) (hT : Two lt' v a m b d) (hR : IsRot s m e d d') (hm : s + e = mid + m) :
    Two lt' v a s mid d' ∧ Two lt' v mid e b d' ∧ ∀ i j, a ≤ i → i < mid → mid ≤ j → j < b → lt' d'[j]! d'[i]! = false := by
  have h1 := h.ls; have h2 := h.sm; have h3 := h.me; have h4 := h.eb; (have p1 : ∀ k, k < s → d'[k]! = d[k]! := fun k hk => by rw [hR k, if_neg (by omega), if_neg (by omega)]); (have p2 : ∀ k, s ≤ k → k < mid → d'[k]! = d[k + (m - s)]! := fun k hk hk' => by rw [hR k, if_pos (by omega)]); (have p3 : ∀ k, mid ≤ k → k < e → d'[k]! = d[k - (e - m)]! := fun k hk hk' => by rw [hR k, if_neg (by omega), if_pos (by omega)]); (have p4 : ∀ k, e ≤ k → d'[k]! = d[k]! := fun k hk => by rw [hR k, if_neg (by omega), if_neg (by omega)]); refine ⟨⟨?_, ?_, ?_⟩, ⟨?_, ?_, ?_⟩, ?_⟩
  · intro i j hi hij hj; rw [p1 i (by omega), p1 j (by omega)]; exact hT.sa i j (by omega) hij (by omega)
  · intro i j hi hij hj; rw [p2 i (by omega) (by omega), p2 j (by omega) (by omega)]; exact hT.sb _ _ (by omega) (by omega) (by omega)
  · intro i j hi hi' hj hj'; rw [p1 i (by omega), p2 j (by omega) (by omega)]; exact hT.cr _ _ (by omega) (by omega) (by omega) (by omega)
  · intro i j hi hij hj; rw [p3 i (by omega) (by omega), p3 j (by omega) (by omega)]; exact hT.sa _ _ (by omega) (by omega) (by omega)
  · intro i j hi hij hj; rw [p4 i (by omega), p4 j (by omega)]; exact hT.sb _ _ (by omega) (by omega) (by omega)
  · intro i j hi hi' hj hj'; rw [p3 i (by omega) (by omega), p4 j (by omega)]; exact hT.cr _ _ (by omega) (by omega) (by omega) (by omega)
  · intro i j hi hi' hj hj'
    have ei : ∃ i', ((a ≤ i' ∧ i' < s) ∨ (m ≤ i' ∧ i' < e)) ∧ d'[i]! = d[i']! := by
      by_cases c : i < s
      · exact ⟨i, .inl ⟨hi, c⟩, p1 i c⟩
      · exact ⟨i + (m - s), .inr ⟨by omega, by omega⟩, p2 i (by omega) hi'⟩
    have ej : ∃ j', ((s ≤ j' ∧ j' < m) ∨ (e ≤ j' ∧ j' < b)) ∧ d'[j]! = d[j']! := by
      by_cases c : j < e
      · exact ⟨j - (e - m), .inl ⟨by omega, by omega⟩, p3 j hj c⟩
      · exact ⟨j, .inr ⟨by omega, by omega⟩, p4 j (by omega)⟩
    obtain ⟨i', hi', ei⟩ := ei; obtain ⟨j', hj', ej⟩ := ej; rw [ei, ej]; exact h.low hC hT hi' hj'

theorem halves {a mid b : Nat} {d1 d2 d3 : Array α} (hb : b ≤ d1.size) (ha : a ≤ mid) (hmb : mid ≤ b) (hx : ∀ i j, a ≤ i → i < mid → mid ≤ j → j < b → lt' d1[j]! d1[i]! = false)
    (hP : PermIn a mid d1 d2) (hs : SortedIn lt' a mid d2) (hQ : PermIn mid b d2 d3) (ht : SortedIn lt' mid b d3) : SortedIn lt' a b d3 := by
  intro i j hi hij hj; by_cases c1 : j < mid
  · rw [hQ.2.1 i (.inl (by omega)), hQ.2.1 j (.inl (by omega))]; exact hs i j hi hij c1
  · by_cases c2 : mid ≤ i
    · exact ht i j c2 hij hj
    · rw [hQ.2.1 i (.inl (by omega))]; refine permIn_all d1 d2 a mid (fun x => lt' d3[j]! x = false) (by omega) hP (fun i hi hi' => ?_) i hi (by omega); refine permIn_all d2 d3 mid b (fun y => lt' y d1[i]! = false) (by rw [hP.1]; exact hb) hQ (fun j hj hj' => ?_) j (by omega) hj; show lt' d2[j]! d1[i]! = false; rw [hP.2.1 j (.inr hj)]; exact hx i j hi hi' hj hj'

theorem one_first (hC : Cmp2 lt lt' v) {a b i : Nat} {d d' : Array α} (hT : Two lt' v a (a + 1) b d) (hi : a + 1 ≤ i) (hib : i ≤ b) (h1 : ∀ k, a + 1 ≤ k → k < i → lt' d[a]! d[k]! = false) (h2 : ∀ k, i ≤ k → k < b → lt' d[k]! d[a]! = false) (hR : IsRot a (a + 1) i d d') : SortedIn lt' a b d' := by
  intro p q hp hpq hq; (have e1 : ∀ k, a ≤ k → k < i - 1 → d'[k]! = d[k + 1]! := fun k hk hk' => by rw [hR k, if_pos (by omega)]; exact at_eq d (by omega)); (have e2 : d'[i - 1]! = d[a]! := by rw [hR (i - 1), if_neg (by omega), if_pos (by omega)]; exact at_eq d (by omega)); (have e3 : ∀ k, i ≤ k → d'[k]! = d[k]! := fun k hk => by rw [hR k, if_neg (by omega), if_neg (by omega)]); rcases (by omega : q < i - 1 ∨ q = i - 1 ∨ i ≤ q) with c | c | c
  · rw [e1 p hp (by omega), e1 q (by omega) c]; exact hT.sb _ _ (by omega) (by omega) (by omega)
  · subst c; rw [e2, e1 p hp hpq]; exact h1 _ (by omega) (by omega)
  · rw [e3 q c]; rcases (by omega : p < i - 1 ∨ p = i - 1 ∨ i ≤ p) with c' | c' | c'
    · rw [e1 p hp c']; exact hT.sb _ _ (by omega) (by omega) (by omega)
    · subst c'; rw [e2]; exact h2 _ c hq
    · rw [e3 p c']; exact hT.sb _ _ (by omega) (by omega) (by omega)

theorem one_last (hC : Cmp2 lt lt' v) {a m i : Nat} {d d' : Array α} (hT : Two lt' v a m (m + 1) d) (hi : a ≤ i) (him : i ≤ m) (h1 : ∀ k, a ≤ k → k < i → lt' d[m]! d[k]! = false) (h2 : ∀ k, i ≤ k → k < m → lt' d[k]! d[m]! = false) (hR : IsRot i m (m + 1) d d') : SortedIn lt' a (m + 1) d' := by
  intro p q hp hpq hq; (have e1 : ∀ k, k < i → d'[k]! = d[k]! := fun k hk => by rw [hR k, if_neg (by omega), if_neg (by omega)]); (have e2 : d'[i]! = d[m]! := by rw [hR i, if_pos (by omega)]; exact at_eq d (by omega)); (have e3 : ∀ k, i < k → k ≤ m → d'[k]! = d[k - 1]! := fun k hk hk' => by rw [hR k, if_neg (by omega), if_pos (by omega)]; exact at_eq d (by omega)); rcases (by omega : q < i ∨ q = i ∨ i < q) with c | c | c
  · rw [e1 p (by omega), e1 q c]; exact hT.sa _ _ (by omega) (by omega) (by omega)
  · subst c; rw [e2, e1 p hpq]; exact h1 _ (by omega) (by omega)
  · rw [e3 q c (by omega)]; rcases (by omega : p < i ∨ p = i ∨ i < p) with c' | c' | c'
    · rw [e1 p c']; exact hT.sa _ _ (by omega) (by omega) (by omega)
    · subst c'; rw [e2]; exact h2 _ (by omega) (by omega)
    · rw [e3 p c' (by omega)]; exact hT.sa _ _ (by omega) (by omega) (by omega)

end
end Go.Am
