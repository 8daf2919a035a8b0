/-
  A part of the proof of this claim (AxM): what functions of the program compute, and plain facts of that. No conditions.
-/
import Derived.Test.YtgbapklfgjnggaaAx6
set_option linter.all false
namespace Go.Proofs.Ytgbapklfgjnggaa
open Go Go.Am

theorem kids_beq {t : JoinTree} (hk : t.Kids.length ≠ 0) : (((List.length (JoinTree.Kids t) : Nat) : Int) == 0) = false := by
 simp
 intro h
 exact hk (by rw [h]; rfl)

theorem kids_beq0 {t : JoinTree} (hk : t.Kids.length = 0) : (((List.length (JoinTree.Kids t) : Nat) : Int) == 0) = true := by rw [hk]; rfl

theorem mask_range {n : Int} (hn : n ≤ 5) (t : JoinTree) : 0 ≤ treeMask t n ∧ treeMask t n < 32 := mask_b hn (SizeOf.sizeOf t + 1) t

theorem measure_same {g : Graph} (hV : VG g) : ∀ (f : Nat) (t : JoinTree) (l : Nat), SizeOf.sizeOf t < f →
  ((measure_r f t g ((l : Nat) : Int)).1 ≠ 0 → treeMask t (List.length g.Rows : Int) = (measure_r f t g ((l : Nat) : Int)).1 ∧ ∀ f2, SizeOf.sizeOf t < f2 → treeCost_r f2 g t = (measure_r f t g ((l : Nat) : Int)).2) ∧
  (treeMask t (List.length g.Rows : Int) ≠ 0 → pc (treeMask t (List.length g.Rows : Int)).toNat ≤ l + 1 → (measure_r f t g ((l : Nat) : Int)).1 ≠ 0) := by
 have h5 : (List.length g.Rows : Int) ≤ 5 := by have := hV.n5; omega
 intro f
 induction f with
 | zero => intro t l h; omega
 | succ f ih =>
  intro t l hf
  have me := mask_eq t (List.length g.Rows : Int)
  unfold measure_r
  by_cases hk : t.Kids.length = 0
  ·
   rw [kids_beq0 hk, cond_true] at me ⊢
   by_cases hr : 0 ≤ t.Leaf ∧ t.Leaf ≤ (List.length g.Rows : Int) - 1
   ·
    have hp := lt32 (a := t.Leaf) hr.1 (by omega)
    rw [inRange_iff.2 hr, cond_true] at me
    rw [decide_eq_false (show ¬ t.Leaf < 0 by omega), decide_eq_false (show ¬ (List.length (Graph.Rows g) : Int) ≤ t.Leaf by omega)]
    simp only [cond_false]
    refine ⟨fun _ => ⟨me, fun f2 h2 => ?_⟩, fun _ _ => by omega⟩
    cases f2 with
    | zero => omega
    | succ f2 =>
     unfold treeCost_r
     rw [kids_beq0 hk, cond_true]
   ·
    have e : inRange t.Leaf 0 ((List.length g.Rows : Int) - 1) = false := by
     rw [Bool.eq_false_iff]
     exact fun h => hr (inRange_iff.1 h)
    rw [e, cond_false] at me
    have hb : (bif (decide ((JoinTree.Leaf t) < 0)) then true else (decide (((List.length (Graph.Rows g) : Nat) : Int) ≤ (JoinTree.Leaf t)))) = true := by
     by_cases h : t.Leaf < 0
     ·
      rw [decide_eq_true h]; rfl
     ·
      rw [decide_eq_false h, decide_eq_true (show (List.length (Graph.Rows g) : Int) ≤ t.Leaf by omega)]; rfl
    rw [hb, cond_true]
    exact ⟨fun h => absurd rfl h, fun h => absurd me h⟩
  ·
   rw [kids_beq hk, cond_false] at me ⊢
   by_cases hc : t.Kids.length = 2 ∧ t.Leaf = 0 ∧ l ≠ 0
   ·
    obtain ⟨c1, c2, c3⟩ := hc
    obtain ⟨m, rfl⟩ : ∃ m, l = m + 1 := ⟨l - 1, by omega⟩
    have cond1 : (bif (bif ((JoinTree.Leaf t) != 0) then true else (((List.length (JoinTree.Kids t) : Nat) : Int) != 2)) then true else ((((m + 1 : Nat) : Nat) : Int) == 0)) = false := by
     rw [c2, c1]
     simp
     omega
    have cond2 : (bif (((List.length (JoinTree.Kids t) : Nat) : Int) != 2) then true else ((JoinTree.Leaf t) != 0)) = false := by
     rw [c2, c1]
     simp
    rw [cond1, cond_false]
    rw [cond2, cond_false] at me
    rw [show (((m + 1 : Nat) : Nat) : Int) - 1 = ((m : Nat) : Int) by omega]
    have k0 := kid_lt (t := t) (i := 0) (by omega)
    have k1 := kid_lt (t := t) (i := 1) (by omega)
    obtain ⟨a1, a2⟩ := ih (List.getD t.Kids 0 JoinTree.zero) m (by omega)
    obtain ⟨b1, b2⟩ := ih (List.getD t.Kids 1 JoinTree.zero) m (by omega)
    have s : treeMask t (List.length g.Rows : Int) ≠ 0 → gSize g (treeMask t (List.length g.Rows : Int)) = subsetSize g (treeMask t (List.length g.Rows : Int)) := fun _ => by
     have := mask_range h5 t
     exact size_eq hV this.1 (by omega)
    generalize hx : measure_r f (List.getD t.Kids 0 JoinTree.zero) g ((m : Nat) : Int) = x at *
    generalize hy : measure_r f (List.getD t.Kids 1 JoinTree.zero) g ((m : Nat) : Int) = y at *
    obtain ⟨x1, x2⟩ := x
    obtain ⟨y1, y2⟩ := y
    simp only at a1 a2 b1 b2 ⊢
    constructor
    ·
     intro h
     by_cases hx0 : x1 = 0
     ·
      rw [beq_iff_eq.2 hx0, cond_true] at h
      exact absurd rfl h
     ·
      have ex : (x1 == 0) = false := by simp [hx0]
      rw [ex, cond_false] at h ⊢
      cases hc2 : (bif (y1 == 0) then true else ((bits .and .i64 x1 y1) != 0)) with
      | true => rw [hc2, cond_true] at h; exact absurd rfl h
      | false =>
       rw [cond_false]
       have hy0 := beq_neg (or_neg hc2).1
       have hap := bne_neg (or_neg hc2).2
       obtain ⟨e1, e2⟩ := a1 hx0
       obtain ⟨e3, e4⟩ := b1 hy0
       rw [e1, e3] at me
       rw [ex, show (y1 == 0) = false by simp [hy0], hap] at me
       simp only [cond_false, bne_self_eq_false] at me
       refine ⟨me, fun f2 h2 => ?_⟩
       cases f2 with
       | zero => omega
       | succ f2 =>
        unfold treeCost_r
        rw [kids_beq hk, cond_false, JoinTree.eta, e2 f2 (by omega), e4 f2 (by omega), ← s (by
         rw [hc2, cond_false] at h
         rw [me]; exact h), me]
    ·
     intro hm hp
     have j := join2 hk hm
     obtain ⟨_, q2, q3, q4, _, _⟩ := pc_join h5 j
     have hx0 := a2 j.ne0 (by omega)
     have hy0 := b2 j.ne1 (by omega)
     have e1 := (a1 hx0).1
     have e3 := (b1 hy0).1
     have hap := j.apart
     have hmk := j.mask
     rw [e1, e3] at hap hmk
     rw [show (x1 == 0) = false by simp [hx0], show (y1 == 0) = false by simp [hy0], hap]
     simp only [cond_false, bne_self_eq_false]
     rw [← hmk]
     exact hm
   ·
    have cond1 : (bif (bif ((JoinTree.Leaf t) != 0) then true else (((List.length (JoinTree.Kids t) : Nat) : Int) != 2)) then true else (((l : Nat) : Int) == 0)) = true := by
     by_cases h1 : t.Leaf = 0
     ·
      by_cases h2 : t.Kids.length = 2
      ·
       have : l = 0 := by
        refine Decidable.byContradiction fun h => hc ⟨h2, h1, h⟩
       rw [h1, h2, this]
       rfl
      ·
       rw [h1, show (((List.length (JoinTree.Kids t) : Nat) : Int) != 2) = true by simp; omega]
       rfl
     ·
      rw [show (t.Leaf != 0) = true by simp [h1]]
      rfl
    rw [cond1, cond_true]
    refine ⟨fun h => absurd rfl h, fun hm hp => ?_⟩
    have j := join2 hk hm
    obtain ⟨_, q2, q3, q4, _, _⟩ := pc_join h5 j
    exact absurd ⟨j.two, j.leaf, by omega⟩ hc

theorem treeCost_same (g : Graph) (t : JoinTree) : iTreeCost g t = TreeCost g t := by
 unfold iTreeCost TreeCost
 rw [vg_eq, JoinTree.eta]
 cases hv : ValidGraph g with
 | false => rfl
 | true =>
  have hV := ValidGraph_iff.1 hv
  have h5 : (List.length g.Rows : Int) ≤ 5 := by have := hV.n5; omega
  simp only [Bool.not_true, cond_false]
  obtain ⟨m1, m2⟩ := measure_same hV (SizeOf.sizeOf t + 1) t 5 (Nat.lt_succ_self _)
  change ((measure t g 5).1 ≠ 0 → _ ∧ _) at m1
  change (_ → _ → (measure t g 5).1 ≠ 0) at m2
  by_cases h : (measure t g 5).1 = 0
  ·
   have hm : treeMask t (List.length g.Rows : Int) = 0 := by
    refine Decidable.byContradiction fun hm => m2 hm ?_ h
    have hr := mask_range h5 t
    have := (pc_one ⟨(treeMask t (List.length g.Rows : Int)).toNat, by omega⟩).2
    simp only at this
    omega
   rw [h, hm]
   rfl
  ·
   obtain ⟨e1, e2⟩ := m1 h
   have e3 : treeCost g t = (measure t g 5).2 := e2 (SizeOf.sizeOf t + 1) (Nat.lt_succ_self _)
   replace e1 : treeMask t (List.length g.Rows : Int) = (measure t g 5).1 := e1
   rw [e1, e3]

end Go.Proofs.Ytgbapklfgjnggaa
