/-
  A part of the proof of this claim (AeM): what functions of the program compute, and plain facts of that. No conditions.
-/
import Derived.Test.YtophfihhdelbiaaAeB
set_option linter.all false
namespace Go.Proofs.Ytophfihhdelbiaa
open Go Go.Am
noncomputable section

/-- Are the states of x among those of y? -/
def Sub (x y : Int) : Prop := bits .and .i64 y x = x

def subN (x y : Nat) : Bool := bits .and .i64 (y : Int) (x : Int) == (x : Int)

theorem cs_mono8 : ∀ a a' b b' : Fin 8, (!(subN a.val a'.val && subN b.val b'.val)) = true ∨ (bits .and .i64 (combinedStates 8 (a'.val : Int) (b'.val : Int)) (combinedStates 8 (a.val : Int) (b.val : Int)) == combinedStates 8 (a.val : Int) (b.val : Int)) = true := by decide +kernel
theorem cs_mono9 : ∀ a a' b b' : Fin 8, (!(subN a.val a'.val && subN b.val b'.val)) = true ∨ (bits .and .i64 (combinedStates 9 (a'.val : Int) (b'.val : Int)) (combinedStates 9 (a.val : Int) (b.val : Int)) == combinedStates 9 (a.val : Int) (b.val : Int)) = true := by decide +kernel
theorem cs_mono3 : ∀ a a' b b' : Fin 8, (!(subN a.val a'.val && subN b.val b'.val)) = true ∨ (bits .and .i64 (combinedStates 3 (a'.val : Int) (b'.val : Int)) (combinedStates 3 (a.val : Int) (b.val : Int)) == combinedStates 3 (a.val : Int) (b.val : Int)) = true := by decide +kernel
theorem cs_mono6 : ∀ a a' b b' : Fin 8, (!(subN a.val a'.val && subN b.val b'.val)) = true ∨ (bits .and .i64 (combinedStates 6 (a'.val : Int) (b'.val : Int)) (combinedStates 6 (a.val : Int) (b.val : Int)) == combinedStates 6 (a.val : Int) (b.val : Int)) = true := by decide +kernel
theorem not_mono : ∀ a a' : Fin 8, (!(subN a.val a'.val)) = true ∨ (bits .and .i64 (notStates (a'.val : Int)) (notStates (a.val : Int)) == notStates (a.val : Int)) = true := by decide +kernel

def nt (a : Int) : Int := nullTest (bits .and .i64 a 4 != 0) (bits .andNot .i64 a 4 != 0)
theorem nt_mono : ∀ a a' : Fin 8, (!(subN a.val a'.val)) = true ∨ (bits .and .i64 (nt (a'.val : Int)) (nt (a.val : Int)) == nt (a.val : Int)) = true := by decide +kernel

theorem cs_kind {k : Int} (h : 3 ≤ k ∧ k ≤ 9) (a b : Int) : combinedStates k a b = combinedStates (if k ≤ 5 then 3 else if k ≤ 7 then 6 else k) a b := by
 have : k = 3 ∨ k = 4 ∨ k = 5 ∨ k = 6 ∨ k = 7 ∨ k = 8 ∨ k = 9 := by omega
 rcases this with rfl | rfl | rfl | rfl | rfl | rfl | rfl
 ·
  rw [if_pos (by decide)]
 ·
  rw [if_pos (by decide)]
  simp only [combinedStates, Int.reduceBEq, cond_false, cond_true]
 ·
  rw [if_pos (by decide)]
  simp only [combinedStates, Int.reduceBEq, cond_false, cond_true]
 ·
  rw [if_neg (by decide), if_pos (by decide)]
 ·
  rw [if_neg (by decide), if_pos (by decide)]
  simp only [combinedStates, Int.reduceBEq, cond_false, cond_true]
 ·
  rw [if_neg (by decide), if_neg (by decide)]
 ·
  rw [if_neg (by decide), if_neg (by decide)]

theorem un8 {a : Int} (h : 0 ≤ a ∧ a ≤ 7) : ∃ n : Fin 8, a = (n.val : Int) := ⟨⟨a.toNat, by omega⟩, by simp; omega⟩

theorem imp2 {p q : Bool} (h : (!p) = true ∨ q = true) (hp : p = true) : q = true := by
 rcases h with h | h
 ·
  rw [hp] at h; cases h
 ·
  exact h

theorem cs_mono {k : Int} (hk : 3 ≤ k ∧ k ≤ 9) {a a' b b' : Int} (ha : 0 ≤ a ∧ a ≤ 7) (ha' : 0 ≤ a' ∧ a' ≤ 7) (hb : 0 ≤ b ∧ b ≤ 7) (hb' : 0 ≤ b' ∧ b' ≤ 7) (h1 : Sub a a') (h2 : Sub b b') : Sub (combinedStates k a b) (combinedStates k a' b') := by
 rw [cs_kind hk a b, cs_kind hk a' b']
 obtain ⟨n, rfl⟩ := un8 ha
 obtain ⟨n', rfl⟩ := un8 ha'
 obtain ⟨m, rfl⟩ := un8 hb
 obtain ⟨m', rfl⟩ := un8 hb'
 have hh : (subN n.val n'.val && subN m.val m'.val) = true := by
  unfold subN
  unfold Sub at h1 h2
  rw [h1, h2]
  simp
 unfold Sub
 split
 ·
  exact beq_iff_eq.1 (imp2 (cs_mono3 n n' m m') hh)
 ·
  split
  ·
   exact beq_iff_eq.1 (imp2 (cs_mono6 n n' m m') hh)
  ·
   have : k = 8 ∨ k = 9 := by omega
   rcases this with rfl | rfl
   ·
    exact beq_iff_eq.1 (imp2 (cs_mono8 n n' m m') hh)
   ·
    exact beq_iff_eq.1 (imp2 (cs_mono9 n n' m m') hh)

theorem ioutcomes_mono {st st' : List Int} (hl : st.length = st'.length) (hS : ∀ j, j < st.length → Sub (st.getD j 0) (st'.getD j 0)) :
  ∀ (f : Nat) (e : Xpr), VX st e → VX st' e → Sub (ioutcomes_r f e st) (ioutcomes_r f e st') := by
 intro f
 induction f with
 | zero => intro e _ _; show bits .and .i64 (0 : Int) 0 = 0; decide
 | succ f ih =>
  intro e h h'
  have hn := h.node
  have hnk := hn.kids
  have hkc := kids_cases (Xpr.Kind e)
  unfold ioutcomes_r
  by_cases h1 : e.Kind = 1
  ·
   rw [show (e.Kind == 1) = true from beq_iff_eq.2 h1, cond_true, cond_true]
   have hc := hn.col h1
   exact hS _ (by omega)
  ·
   rw [show (e.Kind == 1) = false from beq_false_of_ne h1, cond_false, cond_false]
   by_cases h2 : e.Kind = 2
   ·
    rw [show (e.Kind == 2) = true from beq_iff_eq.2 h2, cond_true, cond_true]
    unfold Sub istateOf
    cases (Val.Null e.V) with
    | true => rw [cond_true]; decide
    | false =>
     rw [cond_false]
     cases (Val.N e.V == 0) <;> simp only [cond_true, cond_false] <;> decide
   ·
    rw [show (e.Kind == 2) = false from beq_false_of_ne h2, cond_false, cond_false]
    have a := ioutcomes_b f _ st (h.kid (i := 0) (by omega))
    have a' := ioutcomes_b f _ st' (h'.kid (i := 0) (by omega))
    have s0 := ih _ (h.kid (i := 0) (by omega)) (h'.kid (i := 0) (by omega))
    by_cases h3 : e.Kind = 10
    ·
     rw [show (e.Kind == 10) = true from beq_iff_eq.2 h3, cond_true, cond_true]
     obtain ⟨n, hn⟩ := un8 a
     obtain ⟨n', hn'⟩ := un8 a'
     rw [hn, hn'] at s0 ⊢
     refine beq_iff_eq.1 (imp2 (not_mono n n') ?_)
     unfold subN
     unfold Sub at s0
     rw [s0]; simp
    ·
     rw [show (e.Kind == 10) = false from beq_false_of_ne h3, cond_false, cond_false]
     by_cases h4 : e.Kind = 11
     ·
      rw [show (e.Kind == 11) = true from beq_iff_eq.2 h4, cond_true, cond_true]
      obtain ⟨n, hn⟩ := un8 a
      obtain ⟨n', hn'⟩ := un8 a'
      rw [hn, hn'] at s0 ⊢
      refine beq_iff_eq.1 (imp2 (nt_mono n n') ?_)
      unfold subN
      unfold Sub at s0
      rw [s0]; simp
     ·
      rw [show (e.Kind == 11) = false from beq_false_of_ne h4, cond_false, cond_false]
      exact cs_mono (by omega) a a' (ioutcomes_b f _ st (h.kid (i := 1) (by omega))) (ioutcomes_b f _ st' (h'.kid (i := 1) (by omega))) s0 (ih _ (h.kid (i := 1) (by omega)) (h'.kid (i := 1) (by omega)))

end
end Go.Proofs.Ytophfihhdelbiaa
