/-
  A part of the proof of this claim (AzL): what functions of the program compute, and plain facts of that. No conditions.
-/
import Derived.Test.YtgbapklfgjnggaaAxD
set_option linter.all false
namespace Go.Proofs.Ytgbapklfgjnggaa
open Go Go.Am

def lvs : Nat → JoinTree → List Int
 | 0, t => [t.Leaf]
 | d + 1, t => bif ((List.length t.Kids : Int) == 0) then [t.Leaf] else lvs d (List.getD t.Kids 0 JoinTree.zero) ++ lvs d (List.getD t.Kids 1 JoinTree.zero)

theorem loop2 (F : Nat → Nat → List Int → List Int) (G : Nat → List Int → List Int) (n : Nat) (hS : ∀ k v l, F (k + 1) v l = bif decide (((v : Nat) : Int) < ((n : Nat) : Int)) then F k (v + 1) (G v l) else l) (hn : n = 2) (l : List Int) :
  F (n - 0 + 1) 0 l = G 1 (G 0 l) := by
 subst hn
 show F (0 + 1 + 1 + 1) 0 l = _
 rw [hS, hS, hS]
 rfl

theorem kidsF {t : JoinTree} (h : ¬ t.Kids.length = 0) : ((List.length t.Kids : Int) == 0) = false := kids_beq h
theorem kidsT {t : JoinTree} (h : t.Kids.length = 0) : ((List.length t.Kids : Int) == 0) = true := kids_beq0 h

section
variable {n : Int} (hn : n ≤ 5)
include hn

theorem lv_c0 {t : JoinTree} {a b c : Nat} (l : List Int) (h : Nd n 2 (List.getD (JoinTree.Kids (List.getD (JoinTree.Kids (List.getD (JoinTree.Kids t) a JoinTree.zero)) b JoinTree.zero)) c JoinTree.zero)) :
  LeavesOf_c0 t a b c l = l ++ lvs 1 (List.getD (JoinTree.Kids (List.getD (JoinTree.Kids (List.getD (JoinTree.Kids t) a JoinTree.zero)) b JoinTree.zero)) c JoinTree.zero) := by
 unfold LeavesOf_c0
 by_cases hk : (List.getD (JoinTree.Kids (List.getD (JoinTree.Kids (List.getD (JoinTree.Kids t) a JoinTree.zero)) b JoinTree.zero)) c JoinTree.zero).Kids.length = 0
 ·
  rw [kidsT hk]
  unfold lvs
  rw [kidsT hk]
  rfl
 ·
  rw [kidsF hk]
  unfold lvs
  rw [kidsF hk]
  simp only [cond_false, Go.Am.andThen]
  rw [loop2 (LeavesOf_l3 t a b c) _ _ (fun k v l => rfl) (h.join hn hk).1]
  simp only [List.append_assoc]
  rfl

theorem lv_c1 {t : JoinTree} {a b : Nat} (l : List Int) (h : Nd n 3 (List.getD (JoinTree.Kids (List.getD (JoinTree.Kids t) a JoinTree.zero)) b JoinTree.zero)) :
  LeavesOf_c1 t a b l = l ++ lvs 2 (List.getD (JoinTree.Kids (List.getD (JoinTree.Kids t) a JoinTree.zero)) b JoinTree.zero) := by
 unfold LeavesOf_c1
 by_cases hk : (List.getD (JoinTree.Kids (List.getD (JoinTree.Kids t) a JoinTree.zero)) b JoinTree.zero).Kids.length = 0
 ·
  rw [kidsT hk]
  unfold lvs
  rw [kidsT hk]
  rfl
 ·
  rw [kidsF hk]
  unfold lvs
  rw [kidsF hk]
  simp only [cond_false, Go.Am.andThen]
  obtain ⟨h2, _, h3, h4⟩ := h.join hn hk
  rw [loop2 (LeavesOf_l2 t a b) (fun v l => LeavesOf_c0 t a b v l) _ (fun k v l => rfl) h2]
  rw [lv_c0 hn _ h3, lv_c0 hn _ h4, List.append_assoc]

theorem lv_c2 {t : JoinTree} {a : Nat} (l : List Int) (h : Nd n 4 (List.getD (JoinTree.Kids t) a JoinTree.zero)) :
  LeavesOf_c2 t a l = l ++ lvs 3 (List.getD (JoinTree.Kids t) a JoinTree.zero) := by
 unfold LeavesOf_c2
 by_cases hk : (List.getD (JoinTree.Kids t) a JoinTree.zero).Kids.length = 0
 ·
  rw [kidsT hk]
  unfold lvs
  rw [kidsT hk]
  rfl
 ·
  rw [kidsF hk]
  unfold lvs
  rw [kidsF hk]
  simp only [cond_false, Go.Am.andThen]
  obtain ⟨h2, _, h3, h4⟩ := h.join hn hk
  rw [loop2 (LeavesOf_l1 t a) (fun v l => LeavesOf_c1 t a v l) _ (fun k v l => rfl) h2]
  rw [lv_c1 hn _ h3, lv_c1 hn _ h4, List.append_assoc]

theorem lv_c3 {t : JoinTree} (h : Nd n 5 t) : LeavesOf_c3 t = lvs 4 t := by
 unfold LeavesOf_c3
 by_cases hk : t.Kids.length = 0
 ·
  rw [kidsT hk]
  unfold lvs
  rw [kidsT hk]
  rfl
 ·
  rw [kidsF hk]
  unfold lvs
  rw [kidsF hk]
  simp only [cond_false, Go.Am.andThen]
  obtain ⟨h2, _, h3, h4⟩ := h.join hn hk
  rw [loop2 (LeavesOf_l0 t) (fun v l => LeavesOf_c2 t v l) _ (fun k v l => rfl) h2]
  rw [lv_c2 hn _ h3, lv_c2 hn _ h4, List.nil_append]
end

theorem LeavesOf_eq {g : Graph} {t : JoinTree} (h : ¬ iTreeCost g t = -1) : LeavesOf g t = lvs 4 t := by
 obtain ⟨hV, hT⟩ := cost_top h
 have h5 := hV.n5
 unfold LeavesOf
 rw [JoinTree.eta, show (iTreeCost g t == -1) = false from beq_false_of_ne h]
 simp only [cond_false, Go.Am.andThen]
 exact lv_c3 (n := (List.length g.Rows : Int)) (by omega) hT

/-! what the leaves are -/

theorem leaf_mask {t : JoinTree} {n : Int} (hm : treeMask t n ≠ 0) (hk : t.Kids.length = 0) : (0 ≤ t.Leaf ∧ t.Leaf ≤ n - 1) ∧ treeMask t n = 1 * 2 ^ t.Leaf.toNat := by
 have e := mask_eq t n
 rw [kids_beq0 hk, cond_true] at e
 cases hr : inRange t.Leaf 0 (n - 1) with
 | false => rw [hr, cond_false] at e; exact absurd e hm
 | true => rw [hr, cond_true] at e; exact ⟨inRange_iff.1 hr, e⟩

theorem pc_pow : ∀ i : Fin 5, pc ((1 : Int) * 2 ^ i.val).toNat = 1 := by decide +kernel

theorem lv_len {n : Int} (hn : n ≤ 5) : ∀ (d : Nat) (t : JoinTree), Nd n (d + 1) t → (lvs d t).length = pc (treeMask t n).toNat := by
 have one : ∀ t : JoinTree, treeMask t n ≠ 0 → t.Kids.length = 0 → 1 = pc (treeMask t n).toNat := fun t hm hk => by
  obtain ⟨h1, h2⟩ := leaf_mask hm hk
  rw [h2, pc_pow ⟨t.Leaf.toNat, by omega⟩]
 intro d
 induction d with
 | zero => intro t h; exact one t h.ne (h.last hn)
 | succ d ih =>
  intro t h
  unfold lvs
  by_cases hk : t.Kids.length = 0
  ·
   rw [kidsT hk]; exact one t h.ne hk
  ·
   rw [kidsF hk, cond_false, List.length_append]
   obtain ⟨_, _, h3, h4⟩ := h.join hn hk
   rw [ih _ h3, ih _ h4, (pc_join hn (join2 hk h.ne)).2.1]

end Go.Proofs.Ytgbapklfgjnggaa
