/-
  An, part 3: the searches of the library's merge in place, its insertion sort of a part, and its rows of twenty, doubled.
-/
import Derived.Test.YtjcjpeckfikfkaaAn2
set_option linter.all false
namespace Go.Am
open Go.Sort Go.Proofs

section
variable {α : Type} [Inhabited α] {lt lt' : α → α → Bool} {v : α → Int}

theorem cut_of (hC : Cmp2 lt lt' v) {a m b mid s0 r0 s : Nat} {d : Array α} (hT : Two lt' v a m b d) (ham : a < m) (hmb : m < b) (hmid : mid = (a + b) / 2) (h0 : (m ≤ mid ∧ s0 = a ∧ r0 = m) ∨ (mid < m ∧ s0 = mid + m - b ∧ r0 = mid)) (hs : s0 ≤ s) (hr : s ≤ r0)
    (h1 : s = s0 ∨ lt d[mid + m - 1 - (s - 1)]! d[s - 1]! = false) (h2 : s = r0 ∨ lt d[mid + m - 1 - s]! d[s]! = true) : Cut lt' a m b s (mid + m - s) d := by
  refine ⟨by omega, by omega, by omega, by omega, ?_, ?_⟩
  · by_cases e : s = s0
    · omega
    · rcases h1 with h1 | h1
      · exact absurd h1 e
      · refine .inr (.inr ?_); rw [at_eq d (show mid + m - 1 - (s - 1) = mid + m - s by omega)] at h1; exact hC.neg (hT.cr _ _ (by omega) (by omega) (by omega) (by omega)) h1
  · by_cases e : s = r0
    · omega
    · rcases h2 with h2 | h2
      · exact absurd h2 e
      · refine .inr (.inr ?_); rw [at_eq d (show mid + m - 1 - s = mid + m - s - 1 by omega)] at h2; exact hC.pos (hT.cr _ _ (by omega) (by omega) (by omega) (by omega)) h2

theorem sea1_up (hC : Cmp2 lt lt' v) {a b h : Nat} {d : Array α} (hT : Two lt' v a (a + 1) b d) (hm : a + 1 ≤ h) (hb : h < b) (hl : lt d[h]! d[a]! = true) : ∀ k, a + 1 ≤ k → k < h + 1 → lt' d[a]! d[k]! = false := fun k hk hk' =>
  hC.tr (SortedIn.le hC.swo hT.sb hk (show k ≤ h by omega) hb) (hC.pos (hT.cr a h (Nat.le_refl _) (by omega) hm hb) hl)

theorem sea1_dn (hC : Cmp2 lt lt' v) {a b h : Nat} {d : Array α} (hT : Two lt' v a (a + 1) b d) (hm : a + 1 ≤ h) (hb : h < b) (hl : lt d[h]! d[a]! = false) : ∀ k, h ≤ k → k < b → lt' d[k]! d[a]! = false := fun k hk hk' =>
  hC.tr (hC.neg (hT.cr a h (Nat.le_refl _) (by omega) hm hb) hl) (SortedIn.le hC.swo hT.sb hm hk hk')

theorem sea2_up (hC : Cmp2 lt lt' v) {a m h : Nat} {d : Array α} (hT : Two lt' v a m (m + 1) d) (ha : a ≤ h) (hm : h < m) (hl : lt d[m]! d[h]! = false) : ∀ k, a ≤ k → k < h + 1 → lt' d[m]! d[k]! = false := fun k hk hk' =>
  hC.tr (SortedIn.le hC.swo hT.sa hk (show k ≤ h by omega) hm) (hC.neg (hT.cr h m ha hm (Nat.le_refl _) (by omega)) hl)

theorem sea2_dn (hC : Cmp2 lt lt' v) {a m h : Nat} {d : Array α} (hT : Two lt' v a m (m + 1) d) (ha : a ≤ h) (hm : h < m) (hl : lt d[m]! d[h]! = true) : ∀ k, h ≤ k → k < m → lt' d[k]! d[m]! = false := fun k hk hk' =>
  hC.tr (hC.pos (hT.cr h m ha hm (Nat.le_refl _) (by omega)) hl) (SortedIn.le hC.swo hT.sa ha hk hk')

theorem Two.congr {a m b : Nat} {d d' : Array α} (h : Two lt' v a m b d) (he : ∀ i, a ≤ i → i < b → d'[i]! = d[i]!) (ham : a ≤ m) (hmb : m ≤ b) : Two lt' v a m b d' := by
  refine ⟨fun i j hi hij hj => ?_, fun i j hi hij hj => ?_, fun i j hi hi' hj hj' => ?_⟩
  · rw [he i hi (by omega), he j (by omega) (by omega)]; exact h.sa i j hi hij hj
  · rw [he i (by omega) (by omega), he j (by omega) hj]; exact h.sb i j hi hij hj
  · rw [he i hi (by omega), he j (by omega) hj']; exact h.cr i j hi hi' hj hj'

theorem Two.one {a m b : Nat} {d : Array α} (h : Two lt' v a m b d) (hm : m = a ∨ m = b) : SortedIn lt' a b d := by
  rcases hm with rfl | rfl
  · exact h.sb
  · exact h.sa

section
variable {a m b s e mid : Nat} {d d1 d2 d3 : Array α} (hC : Cmp2 lt lt' v) (hT : Two lt' v a m b d) (hcut : Cut lt' a m b s e d) (h1 : e + s ≤ mid + m) (h2 : mid + m ≤ e + s) (hR : IsRot s m e d d1)
include hC hT hcut h1 h2 hR

theorem sym_two : Two lt' v a s mid d1 := (hcut.rot hC hT hR (show s + e = mid + m by omega)).1

theorem sym_l (hn : ¬ (a < s ∧ s < mid)) (h3 : s ≤ mid) : SortedIn lt' a mid d1 := (sym_two hC hT hcut h1 h2 hR).one (by have := hcut.ls; omega)

theorem sym_two2 (hP2 : PermIn a mid d1 d2) (h3 : mid ≤ e) : Two lt' v mid e b d2 :=
  (hcut.rot hC hT hR (show s + e = mid + m by omega)).2.1.congr (fun i hi _ => hP2.2.1 i (.inr hi)) h3 hcut.eb

theorem sym_r (hP2 : PermIn a mid d1 d2) (hn : ¬ (mid < e ∧ e < b)) (h3 : mid ≤ e) : SortedIn lt' mid b d2 := (sym_two2 hC hT hcut h1 h2 hR hP2 h3).one (by have := hcut.eb; omega)

theorem sym_done (ha : a ≤ mid) (hb : mid ≤ b) (hbd : b ≤ d.size) (hP1 : PermIn a b d d1) (hP2 : PermIn a mid d1 d2) (hs2 : SortedIn lt' a mid d2) (hP3 : PermIn mid b d2 d3) (hs3 : SortedIn lt' mid b d3) : PermIn a b d d3 ∧ SortedIn lt' a b d3 := by
  have e1 := hP1.1; have e2 := hP2.1; have hx := (hcut.rot hC hT hR (show s + e = mid + m by omega)).2.2; exact ⟨permIn_trans _ _ _ _ _ hP1 (permIn_trans _ _ _ _ _ (permIn_mono _ _ _ _ _ _ (Nat.le_refl _) hb (by omega) hP2) (permIn_mono _ _ _ _ _ _ ha (Nat.le_refl _) (by omega) hP3)), halves (by omega) ha hb hx hP2 hs2 hP3 hs3⟩
end

/-! ### The insertion sort of a part -/

theorem innerA_eq (h : ∀ x y, v y < v x → lt' x y = lt x y) (a : Nat) : ∀ (j : Nat) (d : Array α), j < d.size → (∀ i, a ≤ i → i < j → v d[i]! < v d[j]!) → insInner lt a j d = insInner lt' a j d := by
  intro j
  induction j with
  | zero => intro d _ _; rfl
  | succ j ih =>
    intro d hj hd; unfold insInner; by_cases ha : a ≤ j
    · rw [h _ _ (hd j ha (Nat.lt_succ_self j))]; split
      · refine ih _ (by rw [size_swp]; omega) fun i hai hi => ?_; rw [swp_right d (j + 1) j (by omega), swp_other d (j + 1) j i (by omega) (by omega)]; exact hd i hai (by omega)
      · rfl
    · rw [decide_eq_false (show ¬ j + 1 > a by omega), Bool.false_and, Bool.false_and]; rfl

theorem innerA_size (lt : α → α → Bool) (a : Nat) : ∀ (j : Nat) (d : Array α), (insInner lt a j d).size = d.size := by
  intro j
  induction j with
  | zero => intro d; rfl
  | succ j ih =>
    intro d; unfold insInner; split
    · rw [ih, size_swp]
    · rfl

theorem innerA_hi (lt : α → α → Bool) (a : Nat) : ∀ (j : Nat) (d : Array α) (m : Nat), j < m → (insInner lt a j d)[m]! = d[m]! := by
  intro j
  induction j with
  | zero => intro d m _; rfl
  | succ j ih =>
    intro d m hm; unfold insInner; split
    · rw [ih _ m (by omega), swp_other d (j + 1) j m (by omega) (by omega)]
    · rfl

theorem innerA_lo (lt : α → α → Bool) (a : Nat) : ∀ (j : Nat) (d : Array α) (k : Nat), j < d.size → a ≤ k → k ≤ j → ∃ k', a ≤ k' ∧ k' ≤ j ∧ (insInner lt a j d)[k]! = d[k']! := by
  intro j
  induction j with
  | zero => intro d k _ ha hk; exact ⟨k, ha, hk, rfl⟩
  | succ j ih =>
    intro d k hj ha hk; unfold insInner; split
    · rename_i hc; have hc := (Bool.and_eq_true _ _).mp hc; have hja : j + 1 > a := of_decide_eq_true hc.1; by_cases hkj : k = j + 1
      · subst hkj; refine ⟨j, by omega, by omega, ?_⟩; rw [innerA_hi lt a j _ _ (by omega), swp_left d (j + 1) j hj (by omega)]
      · obtain ⟨k', ha', hk', e⟩ := ih (swp d (j + 1) j) k (by rw [size_swp]; omega) ha (by omega); rw [e]; by_cases h2 : k' = j
        · subst h2; exact ⟨k' + 1, by omega, Nat.le_refl _, swp_right d (k' + 1) k' (by omega)⟩
        · exact ⟨k', ha', by omega, swp_other d (j + 1) j k' (by omega) h2⟩
    · exact ⟨k, ha, hk, rfl⟩

theorem outerA_eq (h : ∀ x y, v y < v x → lt' x y = lt x y) (a0 n : Nat) : ∀ (k i : Nat) (d : Array α), n - i ≤ k → a0 ≤ i → n ≤ d.size → (∀ a b, a0 ≤ a → a < b → i ≤ b → b < n → v d[a]! < v d[b]!) → insOuter lt a0 n i d = insOuter lt' a0 n i d := by
  intro k
  induction k with
  | zero =>
    intro i d hk _ hn hd; rw [insOuter_stop _ a0 n i d (by omega), insOuter_stop _ a0 n i d (by omega)]
  | succ k ih =>
    intro i d hk h0 hn hd; by_cases hi : i < n
    · rw [insOuter_go _ a0 n i d hi, insOuter_go _ a0 n i d hi, ← innerA_eq h a0 i d (by omega) fun a h1 ha => hd a i h1 ha (Nat.le_refl _) hi]; refine ih (i + 1) _ (by omega) (by omega) (by rw [innerA_size]; exact hn) fun a b h1 hab hib hb => ?_; rw [innerA_hi lt a0 i d b (by omega)]; by_cases hai : a ≤ i
      · obtain ⟨k', ha', hk', e⟩ := innerA_lo lt a0 i d a (by omega) h1 hai; rw [e]; exact hd k' b ha' (by omega) (by omega) hb
      · rw [innerA_hi lt a0 i d a (by omega)]; exact hd a b h1 hab (by omega) hb
    · rw [insOuter_stop _ a0 n i d hi, insOuter_stop _ a0 n i d hi]

theorem insertionA (hC : Cmp2 lt lt' v) {d : Array α} {a b : Nat} (hab : a ≤ b) (hb : b ≤ d.size) (hd : ∀ i j, a ≤ i → i < j → j < b → v d[i]! < v d[j]!) : PermIn a b d (insertionSort lt d a b) ∧ SortedIn lt' a b (insertionSort lt d a b) := by
  have e : insertionSort lt d a b = insertionSort lt' d a b := by
    unfold insertionSort; exact outerA_eq hC.eq a b _ _ d (Nat.le_refl _) (by omega) hb fun i j hi hij _ hj => hd i j hi hij hj
  rw [e]; exact insertionSort_holds hC.swo d a b hab hb

/-! ### Rows -/

def Len (g : Nat) : Prop := g = 20 ∨ g = 40 ∨ g = 80 ∨ g = 160 ∨ g = 320

structure Ins (lt' : α → α → Bool) (v : α → Int) (a n : Nat) (d : Array α) : Prop where
  s : ∀ i j, i < j → j < n → j < a → i / 20 = j / 20 → lt' d[j]! d[i]! = false
  c : ∀ i j, i < j → j < n → (j < a → i / 20 ≠ j / 20) → v d[i]! < v d[j]!

structure Runs (lt' : α → α → Bool) (v : α → Int) (g a n : Nat) (d : Array α) : Prop where
  s1 : ∀ i j, i < j → j < n → j < a → i / (2 * g) = j / (2 * g) → lt' d[j]! d[i]! = false
  s2 : ∀ i j, i < j → j < n → a ≤ i → i / g = j / g → lt' d[j]! d[i]! = false
  c1 : ∀ i j, i < j → j < n → j < a → i / (2 * g) ≠ j / (2 * g) → v d[i]! < v d[j]!
  c2 : ∀ i j, i < j → j < n → i < a → a ≤ j → v d[i]! < v d[j]!
  c3 : ∀ i j, i < j → j < n → a ≤ i → i / g ≠ j / g → v d[i]! < v d[j]!

theorem PermIn.src {a b : Nat} {d d' : Array α} (h : PermIn a b d d') (hb : b ≤ d.size) {i : Nat} (hi : a ≤ i) (hi' : i < b) : ∃ k, a ≤ k ∧ k < b ∧ d'[i]! = d[k]! :=
  permIn_all d d' a b (fun x => ∃ k, a ≤ k ∧ k < b ∧ x = d[k]!) hb h (fun k hk hk' => ⟨k, hk, hk', rfl⟩) i hi hi'

theorem Ins.zero {n : Nat} {d : Array α} (h : ∀ i j, i < j → j < n → v d[i]! < v d[j]!) : Ins lt' v 0 n d := ⟨fun i j _ _ h => by omega, fun i j hij hj _ => h i j hij hj⟩

theorem Ins.asc {a b n : Nat} {d : Array α} (h : Ins lt' v a n d) (hb : b ≤ n) : ∀ i j, a ≤ i → i < j → j < b → v d[i]! < v d[j]! := fun i j hi hij hj => h.c i j hij (by omega) (fun h => by omega)

theorem Ins.step {a b n : Nat} {d d' : Array α} (h : Ins lt' v a n d) (ha : a % 20 = 0) (hab : a ≤ b) (hb : b ≤ n) (hb2 : b ≤ a + 20) (hb3 : b < a + 20 → b = n) (hn : n ≤ d.size) (hP : PermIn a b d d') (hs : SortedIn lt' a b d') : Ins lt' v (a + 20) n d' := by
  have hsrc : ∀ i, a ≤ i → i < b → ∃ k, a ≤ k ∧ k < b ∧ d'[i]! = d[k]! := fun i hi hi' => PermIn.src hP (by omega) hi hi'; refine ⟨fun i j hij hj hja he => ?_, fun i j hij hj hne => ?_⟩
  · by_cases c : j < a
    · rw [hP.2.1 i (.inl (by omega)), hP.2.1 j (.inl c)]; exact h.s i j hij hj c he
    · exact hs i j (by omega) hij (by omega)
  · by_cases c1 : i < a ∨ b ≤ i
    · rw [hP.2.1 i c1]; by_cases c2 : j < a ∨ b ≤ j
      · rw [hP.2.1 j c2]; exact h.c i j hij hj (fun hja => hne (by omega))
      · obtain ⟨k, hk, hk', e⟩ := hsrc j (by omega) (by omega); rw [e]; exact h.c i k (by omega) (by omega) (fun hja => by omega)
    · obtain ⟨k, hk, hk', e⟩ := hsrc i (by omega) (by omega); rw [e]; by_cases c2 : j < a ∨ b ≤ j
      · rw [hP.2.1 j c2]; exact h.c k j (by omega) (by omega) (fun hja => by omega)
      · exact absurd (show i / 20 = j / 20 by omega) (hne (by omega))

theorem Ins.runs {a n : Nat} {d : Array α} (h : Ins lt' v a n d) (hn : n ≤ a) : Runs lt' v 20 0 n d :=
  ⟨fun i j _ _ h => by omega, fun i j hij hj _ he => h.s i j hij hj (by omega) he, fun i j _ _ h => by omega, fun i j _ _ h => by omega, fun i j hij hj _ hne => h.c i j hij hj (fun _ => hne)⟩

theorem Runs.two {g a b n : Nat} {d : Array α} (hg : Len g) (h : Runs lt' v g a n d) (ha : a % (2 * g) = 0) (hg2 : a + g ≤ n) (hb : b ≤ n) (hb2 : b ≤ a + 2 * g) : Two lt' v a (a + g) b d := by
  refine ⟨fun i j hi hij hj => ?_, fun i j hi hij hj => ?_, fun i j hi hi' hj hj' => ?_⟩
  · refine h.s2 i j hij (by omega) hi ?_; rcases hg with rfl | rfl | rfl | rfl | rfl <;> omega
  · refine h.s2 i j hij (by omega) (by omega) ?_; rcases hg with rfl | rfl | rfl | rfl | rfl <;> omega
  · refine h.c3 i j (by omega) (by omega) (by omega) ?_; rcases hg with rfl | rfl | rfl | rfl | rfl <;> omega

theorem Runs.step {g a b n : Nat} {d d' : Array α} (hg : Len g) (h : Runs lt' v g a n d) (ha : a % (2 * g) = 0) (hab : a ≤ b) (hb : b ≤ n) (hb2 : b ≤ a + 2 * g) (hb3 : b < a + 2 * g → b = n) (hn : n ≤ d.size) (hP : PermIn a b d d') (hs : SortedIn lt' a b d') : Runs lt' v g (a + 2 * g) n d' := by
  have hsrc : ∀ i, a ≤ i → i < b → ∃ k, a ≤ k ∧ k < b ∧ d'[i]! = d[k]! := fun i hi hi' => PermIn.src hP (by omega) hi hi'
  have hlow : ∀ i j, i < j → j < a + 2 * g → i / (2 * g) = j / (2 * g) → a ≤ j → a ≤ i := by
    intro i j h1 h2 h3 h4; rcases hg with rfl | rfl | rfl | rfl | rfl <;> omega
  have hlow2 : ∀ i j, i < j → j < a + 2 * g → i / (2 * g) ≠ j / (2 * g) → a ≤ j → i < a := by
    intro i j h1 h2 h3 h4; rcases hg with rfl | rfl | rfl | rfl | rfl <;> omega
  have hdif : ∀ k j, k < a + 2 * g → a + 2 * g ≤ j → k / g ≠ j / g := by
    intro k j h1 h2; rcases hg with rfl | rfl | rfl | rfl | rfl <;> omega
  refine ⟨fun i j hij hj hja he => ?_, fun i j hij hj hi he => ?_, fun i j hij hj hja hne => ?_, fun i j hij hj hi hja => ?_, fun i j hij hj hi hne => ?_⟩
  · by_cases c : j < a
    · rw [hP.2.1 i (.inl (by omega)), hP.2.1 j (.inl c)]; exact h.s1 i j hij hj c he
    · exact hs i j (hlow i j hij hja he (by omega)) hij (by omega)
  · rw [hP.2.1 i (.inr (by omega)), hP.2.1 j (.inr (by omega))]; exact h.s2 i j hij hj (by omega) he
  · by_cases c : j < a
    · rw [hP.2.1 i (.inl (by omega)), hP.2.1 j (.inl c)]; exact h.c1 i j hij hj c hne
    · have hi := hlow2 i j hij hja hne (by omega); obtain ⟨k, hk, hk', e⟩ := hsrc j (by omega) (by omega); rw [hP.2.1 i (.inl hi), e]; exact h.c2 i k (by omega) (by omega) hi hk
  · rw [hP.2.1 j (.inr (by omega))]; by_cases c : i < a
    · rw [hP.2.1 i (.inl c)]; exact h.c2 i j hij hj c (by omega)
    · obtain ⟨k, hk, hk', e⟩ := hsrc i (by omega) (by omega); rw [e]; exact h.c3 k j (by omega) hj hk (hdif k j (by omega) hja)
  · rw [hP.2.1 i (.inr (by omega)), hP.2.1 j (.inr (by omega))]; exact h.c3 i j hij hj (by omega) hne

theorem Runs.skip {g a n : Nat} {d : Array α} (hg : Len g) (h : Runs lt' v g a n d) (ha : a % (2 * g) = 0) (hn : n ≤ a + g) : Runs lt' v g (a + 2 * g) n d := by
  have hlow : ∀ i j, i < j → j < n → i / (2 * g) = j / (2 * g) → a ≤ j → a ≤ i ∧ i / g = j / g := by
    intro i j h1 h2 h3 h4; rcases hg with rfl | rfl | rfl | rfl | rfl <;> omega
  have hlow2 : ∀ i j, i < j → j < n → i / (2 * g) ≠ j / (2 * g) → a ≤ j → i < a := by
    intro i j h1 h2 h3 h4; rcases hg with rfl | rfl | rfl | rfl | rfl <;> omega
  refine ⟨fun i j hij hj hja he => ?_, fun i j hij hj hi he => by omega, fun i j hij hj hja hne => ?_, fun i j hij hj hi hja => by omega, fun i j hij hj hi hne => by omega⟩
  · by_cases c : j < a
    · exact h.s1 i j hij hj c he
    · obtain ⟨h1, h2⟩ := hlow i j hij hj he (by omega); exact h.s2 i j hij hj h1 h2
  · by_cases c : j < a
    · exact h.c1 i j hij hj c hne
    · exact h.c2 i j hij hj (hlow2 i j hij hj hne (by omega)) (by omega)

theorem Runs.next {g a n : Nat} {d : Array α} (h : Runs lt' v g a n d) (hn : n ≤ a) : Runs lt' v (2 * g) 0 n d :=
  ⟨fun i j _ _ h => by omega, fun i j hij hj _ he => h.s1 i j hij hj (by omega) he, fun i j _ _ h => by omega, fun i j _ _ h => by omega, fun i j hij hj _ hne => h.c1 i j hij hj (by omega) hne⟩

theorem Runs.done {g n : Nat} {d : Array α} (h : Runs lt' v g 0 n d) (hn : n ≤ g) : SortedIn lt' 0 n d := fun i j hi hij hj =>
  h.s2 i j hij hj hi (by rw [Nat.div_eq_of_lt (by omega), Nat.div_eq_of_lt (by omega)])

end
end Go.Am
