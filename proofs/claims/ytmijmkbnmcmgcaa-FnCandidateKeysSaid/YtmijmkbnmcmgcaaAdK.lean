/-
  A part of the proof of this claim (AdK): what functions of the program compute, and plain facts of that. No conditions.
-/
import Derived.Test.YtmijmkbnmcmgcaaAd7
import Derived.Test.YtmijmkbnmcmgcaaAnL
set_option linter.all false
namespace Go.Proofs.Ytmijmkbnmcmgcaa
open Go Go.Am

/-! ### Candidate keys -/

theorem eqIntS_self (a : List Int) : eqIntS a a = true := by
  unfold eqIntS
  simp only [bne_self_eq_false, cond_false]
  rcases all_loop (eqIntS_l0 a a) a.length (fun i => (List.getD a i 0) != (List.getD a i 0)) (fun k i => rfl) (a.length - 0 + 1) 0 (by omega) with ⟨h1, _⟩ | ⟨_, j, _, _, h⟩
  · rw [h1]; rfl
  · simp at h

theorem equalInts_self (a : List Int) : equalInts a a = true := by
  unfold equalInts
  simp only [bne_self_eq_false, cond_false]
  rcases all_loop (equalInts_l0 a a) a.length (fun i => (List.getD a i 0) != (List.getD a i 0)) (fun k i => rfl) (a.length - 0 + 1) 0 (by omega) with ⟨h1, _⟩ | ⟨_, j, _, _, h⟩
  · rw [h1]; rfl
  · simp at h

/-- Does a list have no part of a set? -/
def noPart (s : Int) (l : List Int) : Prop := ∀ j, j < l.length → ¬ Sub6 (l.getD j 0) s

theorem find_noPart {s : Nat} {l : List Int} (hl : ∀ x ∈ l, S6 x) : (0 ≤ iCandidateKeys_c0 s l) ↔ ¬ noPart ((s : Nat) : Int) l := by
  unfold iCandidateKeys_c0
  have hc : ∀ j, j < l.length → (contains ((s : Nat) : Int) (l.getD j 0) = true ↔ Sub6 (l.getD j 0) ((s : Nat) : Int)) := fun j hj => by
    have := hl _ (getD_mem l j 0 hj)
    rw [contains_eq (by have := this.1; omega) (by have := this.2; omega)]
    simp [Sub6]
  rcases find_loop l.length (fun i => contains ((s : Nat) : Int) (List.getD l i 0)) (iCandidateKeys_l1 s l) (fun k i => rfl) (l.length - 0 + 1) 0 (by omega) with ⟨h1, h2⟩ | ⟨j, h1, _, h3, h4, _⟩
  · rw [h1]
    constructor
    · intro h
      exact absurd h (by decide)
    · intro h
      refine absurd (fun j hj hs => ?_) h
      have := h2 j (Nat.zero_le _) hj
      rw [(hc j hj).2 hs] at this
      cases this
  · rw [h1]
    constructor
    · intro _ h
      exact h j h3 ((hc j h3).1 h4)
    · intro _
      exact Int.natCast_nonneg _

theorem spec_noPart {fds : List Dep} {w : Int} {s : Nat} {l : List Int} {b : Bool} : candidateKeys_l1 s l (l.length - 0 + 1) b 0 = true ↔ b = true ∧ noPart ((s : Nat) : Int) l := by
  rw [and_loop l.length (fun i => (bits .and .i64 (List.getD l i 0) ((s : Nat) : Int)) != (List.getD l i 0)) (candidateKeys_l1 s l) (fun k b i => rfl) _ _ _ (by omega)]
  simp [noPart, Sub6]

theorem keys_loop {fds : List Dep} {w : Int} (h : ValidDependencies fds w = true) : ∀ (k s : Nat) (l : List Int), (∀ x ∈ l, S6 x) → iCandidateKeys_l0 fds w k s l = candidateKeys_l0 fds w k s l := by
  obtain ⟨hw, _⟩ := valid_deps h
  have hp := pow32 hw.2 (by omega)
  intro k
  induction k with
  | zero => intro s l _; rfl
  | succ k ih =>
    intro s l hl
    unfold iCandidateKeys_l0 candidateKeys_l0
    by_cases hs : ((s : Nat) : Int) < (1 : Int) * 2 ^ w.toNat
    · rw [decide_eq_true hs, cond_true, cond_true]
      have h6 : S6 ((s : Nat) : Int) := ⟨Int.natCast_nonneg _, by omega⟩
      have hv : ivalidSet ((s : Nat) : Int) w = true := ivalidSet_iff.2 ⟨h6.1, by omega⟩
      rw [iIsKey_valid h hv]
      have hl' : ∀ x ∈ l ++ [((s : Nat) : Int)], S6 x := by
        intro x hx
        rcases List.mem_append.1 hx with hx | hx
        · exact hl x hx
        · rw [List.mem_singleton.1 hx]; exact h6
      simp only [Go.Am.andThen]
      cases hk : (closureOf fds ((s : Nat) : Int) == (1 : Int) * 2 ^ w.toNat - 1) with
      | false =>
        have : candidateKeys_l1 s l (l.length - 0 + 1) false 0 = false := by
          rw [Bool.eq_false_iff]
          intro e
          have := (spec_noPart (fds := fds) (w := w)).1 e
          exact absurd this.1 (by decide)
        rw [this]
        exact ih _ _ hl
      | true =>
        simp only [Bool.not_true, cond_false]
        by_cases hn : noPart ((s : Nat) : Int) l
        · rw [(spec_noPart (fds := fds) (w := w)).2 ⟨rfl, hn⟩, decide_eq_false (fun e => (find_noPart hl).1 e hn)]
          exact ih _ _ hl'
        · have : candidateKeys_l1 s l (l.length - 0 + 1) true 0 = false := by
            rw [Bool.eq_false_iff]
            intro e
            exact hn ((spec_noPart (fds := fds) (w := w)).1 e).2
          rw [this, decide_eq_true ((find_noPart hl).2 hn)]
          exact ih _ _ hl
    · rw [decide_eq_false hs]
      rfl

theorem keys_eq (fds : List Dep) (w : Int) : iCandidateKeys fds w = CandidateKeys fds w := by
  unfold iCandidateKeys CandidateKeys
  rw [valid_eq]
  cases h : ValidDependencies fds w with
  | false => rfl
  | true =>
    simp only [Bool.not_true, cond_false, Go.Am.andThen, candidateKeys]
    exact keys_loop h _ _ _ (by simp)

theorem FnExactCandidateKeys_law (a : List Dep) (w : Int) : FnExactCandidateKeys a w = true := by
  unfold FnExactCandidateKeys
  rw [keys_eq]
  generalize hl : CandidateKeys (toDependencyS a) w = l
  rw [eqIntS_self, eqDependencyS_self]
  cases decide (szDependencyS a 1048576 < 0) with
  | true => rfl
  | false =>
    simp only [Bool.not_true, cond_false, Go.Am.andThen]
    obtain ⟨h1, h2, h3, h4⟩ := mark_loop FnExactCandidateKeys_l1 (fun k c i a => rfl) (l.length - 0 + 1) 1 0 l (by omega) (Nat.zero_le _)
    generalize FnExactCandidateKeys_l1 (l.length - 0 + 1) 1 0 l = m at *
    obtain ⟨c, b⟩ := m
    simp only at h1 h2 h3 h4
    have hh : heldIntS b 1 = ((c : Nat) : Int) := by
      unfold heldIntS
      rw [held_loop b (heldIntS_l0 b) (fun k c i => rfl) _ _ _ (by omega) (Nat.zero_le _) fun j _ hj => by rw [h4 j (Nat.zero_le _) (by omega)]; omega]
      simp only [Sum.elim_inl]
      omega
    simp only [hh]
    simp

end Go.Proofs.Ytmijmkbnmcmgcaa
