/-
  A part of the proof of this claim (AxT4): what functions of the program compute, and plain facts of that. No conditions.
-/
import Derived.Test.YtgbapklfgjnggaaAxT3
import Derived.Test.YtgbapklfgjnggaaAzC
set_option linter.all false
namespace Go.Proofs.Ytgbapklfgjnggaa
open Go Go.Am
noncomputable section

/-! ### Marks -/

theorem kf_sumM {α : Type} {m : α → Int → α × Int} {ok : α → Int → Prop} {c : α → Nat} {B : Int} : ∀ (l : List α), (∀ x ∈ l, ∀ k, 0 ≤ k → k + (c x : Nat) ≤ B → (m x k).2 = k + (c x : Nat) ∧ ok x k) → ∀ (k : Int), 0 ≤ k → k + (((l.map c).sum : Nat) : Int) ≤ B →
  kf m l k = k + (((l.map c).sum : Nat) : Int) ∧ OKL m ok l k := by
 intro l
 induction l with
 | nil => intro _ k _ _; exact ⟨by simp [kf], trivial⟩
 | cons x l ih =>
  intro h k h0 hB
  simp only [List.map_cons, List.sum_cons, Int.natCast_add] at hB ⊢
  obtain ⟨h1, h2⟩ := h x (List.Mem.head _) k h0 (by omega)
  obtain ⟨h3, h4⟩ := ih (fun y hy => h y (List.Mem.tail _ hy)) (k + (c x : Nat)) (by omega) (by omega)
  refine ⟨?_, h2, ?_⟩
  ·
   show kf m l (m x k).2 = _
   rw [h1, h3]
   omega
  ·
   show OKL m ok l (m x k).2
   rw [h1]
   exact h4

def BND : Int := 4611686018427387900

def nd : Nat → List JoinTree → Nat
 | 0, _ => 0
 | f + 1, l => (l.map (fun x => 1 + nd f x.Kids)).sum

theorem held_congr {s1 s2 : List JoinTree → Int → Int} (b : List JoinTree) (h : ∀ i, i < b.length → ∀ k, s1 (List.getD b i JoinTree.zero).Kids k = s2 (List.getD b i JoinTree.zero).Kids k) : ∀ (n : Nat) (k : Int) (i : Nat), heldJoinTreeS_l0 s1 b n k i = heldJoinTreeS_l0 s2 b n k i := by
 intro n
 induction n with
 | zero => intro k i; rfl
 | succ n ih =>
  intro k i
  unfold heldJoinTreeS_l0
  by_cases hi : i < b.length
  ·
   rw [h i hi, ih]
  ·
   rw [ge_dec hi, cond_false, cond_false]

theorem held_fuel : ∀ (f g : Nat) (a : List JoinTree) (k : Int), SizeOf.sizeOf a < f → SizeOf.sizeOf a < g → heldJoinTreeS_r f a k = heldJoinTreeS_r g a k := by
 intro f
 induction f with
 | zero => intro g a k h; omega
 | succ f ih =>
  intro g a k h1 h2
  obtain ⟨g, rfl⟩ : ∃ q, g = q + 1 := ⟨g - 1, by omega⟩
  unfold heldJoinTreeS_r
  rw [held_congr a fun i hi k => ih g _ k (by have := kids_szL hi; omega) (by have := kids_szL hi; omega)]

theorem held_unf (a : List JoinTree) (k : Int) : heldJoinTreeS a k = Sum.elim (fun z => z) (fun r => r) (heldJoinTreeS_l0 heldJoinTreeS a (a.length - 0 + 1) k 0) := by
 show Sum.elim (fun z => z) (fun r => r) (heldJoinTreeS_l0 (heldJoinTreeS_r (SizeOf.sizeOf a)) a (a.length - 0 + 1) k 0) = _
 rw [held_congr (s2 := heldJoinTreeS) a fun i hi k => held_fuel _ (SizeOf.sizeOf (List.getD a i JoinTree.zero).Kids + 1) _ k (kids_szL hi) (Nat.lt_succ_self _)]

def up4 (k : Int) : Int := IntKind.wrap .i64 (k + 1)

def markX (self : List JoinTree → Int → List JoinTree × Int) (x : JoinTree) (k : Int) : JoinTree × Int :=
 (JoinTree.mk k (self x.Kids (up4 k)).1, (self x.Kids (up4 k)).2)

def okX (self : List JoinTree → Int → List JoinTree × Int) (x : JoinTree) (k : Int) : Prop := 0 ≤ (self x.Kids (up4 k)).2 ∧ heldJoinTreeS (self x.Kids (up4 k)).1 (up4 k) = (self x.Kids (up4 k)).2

theorem markE_step (self : List JoinTree → Int → List JoinTree × Int) (a : List JoinTree) (k : Int) (hok : OKL (markX self) (okX self) a k) :
  (markJoinTreeS_l0 self (a.length - 0 + 1) k 0 a).1 = kf (markX self) a k ∧ heldJoinTreeS (markJoinTreeS_l0 self (a.length - 0 + 1) k 0 a).2 k = kf (markX self) a k := by
 obtain ⟨h1, h2, _, h4⟩ := mark_held (m := markX self) (ok := okX self) JoinTree.zero (markJoinTreeS_l0 self) (heldJoinTreeS_l0 heldJoinTreeS)
  (fun n k i a hi => by
   show (bif decide (((i : Nat) : Int) < ((List.length a : Nat) : Int)) then _ else _) = _
   rw [lt_dec hi, cond_true, lgetD_set_eq hi]
   rfl)
  (fun n k i a hi => by
   show (bif decide (((i : Nat) : Int) < ((List.length a : Nat) : Int)) then _ else _) = _
   rw [ge_dec hi, cond_false])
  (fun b n k i x hi hb ho => by
   show (bif decide (((i : Nat) : Int) < ((List.length b : Nat) : Int)) then _ else _) = _
   rw [lt_dec hi, cond_true, hb]
   have e2 : heldJoinTreeS (markX self x k).1.Kids (up4 k) = (markX self x k).2 := ho.2
   have e1 : ¬ (markX self x k).2 < 0 := Int.not_lt.2 ho.1
   show (bif k != k then _ else bif decide (heldJoinTreeS (markX self x k).1.Kids (up4 k) < 0) then _ else heldJoinTreeS_l0 heldJoinTreeS b n (heldJoinTreeS (markX self x k).1.Kids (up4 k)) (i + 1)) = _
   rw [e2, decide_eq_false e1]
   simp only [bne_self_eq_false, cond_false])
  (fun b n k i hi => by
   show (bif decide (((i : Nat) : Int) < ((List.length b : Nat) : Int)) then _ else _) = _
   rw [ge_dec hi, cond_false]) (a.length - 0 + 1) k 0 a (by omega) (by rw [List.drop_zero]; exact hok)
 rw [List.drop_zero] at h1 h4
 refine ⟨h1, ?_⟩
 rw [held_unf, h4 _ (by rw [h2]; omega)]
 rfl

theorem up4_eq {k : Int} (h0 : 0 ≤ k) (hB : k + 1 ≤ BND) : up4 k = k + 1 := by
 unfold BND at hB
 exact wrapI (by omega) (by omega)

theorem markE_cnt : ∀ (f : Nat) (a : List JoinTree) (k : Int), SizeOf.sizeOf a < f → 0 ≤ k → k + (nd f a : Nat) ≤ BND → (markJoinTreeS_r f a k).2 = k + (nd f a : Nat) ∧ heldJoinTreeS (markJoinTreeS_r f a k).1 k = k + (nd f a : Nat) := by
 intro f
 induction f with
 | zero => intro a k h; omega
 | succ f ih =>
  intro a k hs h0 hB
  obtain ⟨h1, h2⟩ := kf_sumM (m := markX (markJoinTreeS_r f)) (ok := okX (markJoinTreeS_r f)) (c := fun x => 1 + nd f x.Kids) (B := BND) a (fun x hx k h0 hB => by
   have hx2 : SizeOf.sizeOf x.Kids < f := by
    obtain ⟨i, hi, rfl⟩ := List.mem_iff_getElem.1 hx
    have := kids_szL hi
    rw [List.getD_eq_getElem?_getD, List.getElem?_eq_getElem hi, Option.getD_some] at this
    omega
   have e : up4 k = k + 1 := up4_eq h0 (by omega)
   obtain ⟨a1, a2⟩ := ih x.Kids (k + 1) hx2 (by omega) (by omega)
   refine ⟨?_, ?_, ?_⟩
   ·
    show (markJoinTreeS_r f x.Kids (up4 k)).2 = _
    rw [e, a1]
    omega
   ·
    rw [e, a1]
    omega
   ·
    rw [e, a1, a2]) k h0 hB
  obtain ⟨h3, h4⟩ := markE_step (markJoinTreeS_r f) a k h2
  have hn : nd (f + 1) a = (a.map (fun x => 1 + nd f x.Kids)).sum := rfl
  rw [hn]
  rw [h1] at h3 h4
  exact ⟨h3, h4⟩

theorem mark_cnt (a : List JoinTree) (k : Int) (h0 : 0 ≤ k) (hB : k + (nd (SizeOf.sizeOf a + 1) a : Nat) ≤ BND) : (markJoinTreeS a k).2 = k + (nd (SizeOf.sizeOf a + 1) a : Nat) ∧ heldJoinTreeS (markJoinTreeS a k).1 k = k + (nd (SizeOf.sizeOf a + 1) a : Nat) :=
 markE_cnt _ a k (Nat.lt_succ_self _) h0 hB

def bnd : Nat → Nat
 | 0 => 0
 | l + 1 => 2 * (1 + bnd l)

theorem treeOf_nd (firsts : List Int) : ∀ (f g : Nat) (mask : Int), nd g (treeOf_r f firsts mask).Kids ≤ bnd f := by
 intro f
 induction f with
 | zero =>
  intro g mask
  show nd g [] ≤ 0
  cases g <;> exact Nat.le_refl _
 | succ f ih =>
  intro g mask
  unfold treeOf_r
  cases (List.getD firsts (Int.toNat mask) 0 == 0) with
  | true =>
   show nd g [] ≤ _
   cases g <;> exact Nat.zero_le _
  | false =>
   rw [cond_false]
   cases g with
   | zero => exact Nat.zero_le _
   | succ g =>
    have h1 := ih g (List.getD firsts (Int.toNat mask) 0)
    have h2 := ih g (bits .andNot .i64 mask (List.getD firsts (Int.toNat mask) 0))
    show (1 + nd g (treeOf_r f firsts (List.getD firsts (Int.toNat mask) 0)).Kids) + ((1 + nd g (treeOf_r f firsts (bits .andNot .i64 mask (List.getD firsts (Int.toNat mask) 0))).Kids) + 0) ≤ 2 * (1 + bnd f)
    omega

theorem bnd_mono : ∀ (a b : Nat), a ≤ b → bnd a ≤ bnd b := by
 intro a
 induction a with
 | zero => intro b _; exact Nat.zero_le _
 | succ a ih =>
  intro b h
  obtain ⟨b, rfl⟩ : ∃ q, b = q + 1 := ⟨b - 1, by omega⟩
  have := ih b (by omega)
  show 2 * (1 + bnd a) ≤ 2 * (1 + bnd b)
  omega

theorem BestTree_same (g : Graph) : iBestTree g = BestTree g := by
 cases hv : ValidGraph g with
 | true => exact (tree_same (ValidGraph_iff.1 hv)).1
 | false =>
  have e1 : iBestTree g = (JoinTree.mk 0 [], -1) := by unfold iBestTree; rw [hv]; rfl
  have e2 : BestTree g = (JoinTree.mk 0 [], -1) := by unfold BestTree; rw [vg_eq, hv]; rfl
  rw [e1, e2]

theorem BestTree_nd (g : Graph) (f : Nat) : nd f (BestTree g).1.Kids ≤ 17179869184 := by
 rw [← BestTree_same]
 cases hv : ValidGraph g with
 | false =>
  have e1 : iBestTree g = (JoinTree.mk 0 [], -1) := by unfold iBestTree; rw [hv]; rfl
  rw [e1]
  show nd f [] ≤ _
  cases f <;> exact Nat.zero_le _
 | true =>
  have hA := gAll_b (ValidGraph_iff.1 hv)
  unfold iBestTree
  rw [hv]
  have h1 := treeOf_nd (bestCosts g).2 (Int.toNat (gAll g) + 1) f (gAll g)
  have h2 := bnd_mono (Int.toNat (gAll g) + 1) 32 (by omega)
  have h3 : bnd 32 ≤ 17179869184 := by decide
  show nd f (treeOf_r (Int.toNat (gAll g) + 1) (bestCosts g).2 (gAll g)).Kids ≤ _
  omega

theorem held_mark (x : JoinTree) (h : ((nd (SizeOf.sizeOf x.Kids + 1) x.Kids : Nat) : Int) ≤ 17179869184) : heldJoinTree (JoinTree.mk (JoinTree.Leaf x) (markJoinTreeS x.Kids 1).1) 1 = (markJoinTreeS x.Kids 1).2 ∧ ¬ (markJoinTreeS x.Kids 1).2 < 0 := by
 obtain ⟨h1, h2⟩ := mark_cnt x.Kids 1 (by decide) (by unfold BND; omega)
 have h3 : ¬ (markJoinTreeS x.Kids 1).2 < 0 := by omega
 refine ⟨?_, h3⟩
 show (bif decide (heldJoinTreeS (markJoinTreeS x.Kids 1).1 1 < 0) then (-1 : Int) else heldJoinTreeS (markJoinTreeS x.Kids 1).1 1) = _
 rw [h2, ← h1, decide_eq_false h3, cond_false]

theorem eqJ_self (a : JoinTree) : eqJoinTree a a = true := eqJoinTree_refl _ a (Nat.lt_succ_self _)

theorem graph_eta (g : Graph) : Graph.mk (Graph.Rows g) (Graph.Edges g) = g := rfl

theorem toG_eq (a : Graph) : Graph.mk (toIntS (Graph.Rows a)) (toEdgeS (Graph.Edges a)) = toGraph a := rfl

theorem FnExactBestTree_law (g : Graph) : FnExactBestTree g = true := by
 unfold FnExactBestTree Go.Am.andThen
 simp only [iBestTreeD_eq, graph_eta, JoinTree.eta, toG_eq, BestTree_same, eqGraph_self, eqJ_self]
 by_cases hz : szGraph g 1048576 < 0
 ·
  rw [decide_eq_true hz]; rfl
 ·
  obtain ⟨h2, h3⟩ := held_mark (BestTree (toGraph g)).1 (by have := BestTree_nd (toGraph g) (SizeOf.sizeOf (BestTree (toGraph g)).1.Kids + 1); omega)
  rw [decide_eq_false hz, h2, decide_eq_false h3, decide_eq_false (by omega)]
  simp

end
end Go.Proofs.Ytgbapklfgjnggaa
