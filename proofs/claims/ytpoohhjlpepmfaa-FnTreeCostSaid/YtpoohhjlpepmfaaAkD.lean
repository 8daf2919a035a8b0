/-
  A part of the proof of this claim (AkD): what functions of the program compute, and plain facts of that. No conditions.
-/
import Derived.Test.YtpoohhjlpepmfaaAkA
import Derived.Test.YtpoohhjlpepmfaaAkF
set_option linter.all false
namespace Go.Proofs.Ytpoohhjlpepmfaa
open Go Go.Am

def orL : Int → List Int → Int
 | m, [] => m
 | m, x :: l => orL (bits .or .i64 m ((1 : Int) * 2 ^ x.toNat)) l

theorem orL_append : ∀ (l l' : List Int) (m : Int), orL m (l ++ l') = orL (orL m l) l' := by
 intro l
 induction l with
 | nil => intro l' m; rfl
 | cons x l ih => intro l' m; exact ih l' _

def S5 (m : Int) : Prop := 0 ≤ m ∧ m < 32

theorem or5 {a b : Int} (ha : S5 a) (hb : S5 b) : bits .or .i64 a b = ((a.toNat ||| b.toNat : Nat) : Int) := (bits62 ha.1 (by have := ha.2; omega) hb.1 (by have := hb.2; omega)).2

theorem or5_S {a b : Int} (ha : S5 a) (hb : S5 b) : S5 (bits .or .i64 a b) := or32b ha hb

theorem or5_assoc {a b c : Int} (ha : S5 a) (hb : S5 b) (hc : S5 c) : bits .or .i64 (bits .or .i64 a b) c = bits .or .i64 a (bits .or .i64 b c) := by
 rw [or5 (or5_S ha hb) hc, or5 ha (or5_S hb hc), or5 ha hb, or5 hb hc, Int.toNat_natCast, Int.toNat_natCast, Nat.or_assoc]

theorem or5_comm {a b : Int} (ha : S5 a) (hb : S5 b) : bits .or .i64 a b = bits .or .i64 b a := by
 rw [or5 ha hb, or5 hb ha, Nat.or_comm]

theorem lv_mask {n : Int} (hn : n ≤ 5) : ∀ (d : Nat) (t : JoinTree) (m : Int), S5 m → Nd n (d + 1) t → orL m (lvs d t) = bits .or .i64 m (treeMask t n) := by
 have one : ∀ (t : JoinTree) (m : Int), treeMask t n ≠ 0 → t.Kids.length = 0 → orL m [t.Leaf] = bits .or .i64 m (treeMask t n) := fun t m hm hk => by
  rw [(leaf_mask hm hk).2]
  rfl
 intro d
 induction d with
 | zero => intro t m hS h; exact one t m h.ne (h.last hn)
 | succ d ih =>
  intro t m hS h
  unfold lvs
  by_cases hk : t.Kids.length = 0
  ·
   rw [kidsT hk]; exact one t m h.ne hk
  ·
   rw [kidsF hk, cond_false, orL_append]
   obtain ⟨_, _, h3, h4⟩ := h.join hn hk
   have ra : S5 _ := mask_range hn (List.getD t.Kids 0 JoinTree.zero)
   have rb : S5 _ := mask_range hn (List.getD t.Kids 1 JoinTree.zero)
   rw [ih _ _ hS h3, ih _ _ (or5_S hS ra) h4, or5_assoc hS ra rb, ← (join2 hk h.ne).mask]

theorem tc_loop (code : List Int) (L : List Int) (hL : LeavesOf ((DrawTreeCost code).1) (JoinTree.mk (JoinTree.Leaf ((DrawTreeCost code).2)) (JoinTree.Kids ((DrawTreeCost code).2))) = L) : ∀ (k i : Nat) (m : Int), L.length - i < k → FnTreeCost_l0 code k m i = orL m (L.drop i) := by
 intro k
 induction k with
 | zero => intro i m h; omega
 | succ k ih =>
  intro i m h
  unfold FnTreeCost_l0
  rw [hL]
  by_cases hi : ((i : Nat) : Int) < ((List.length L : Nat) : Int)
  ·
   have hi' : i < L.length := by omega
   rw [decide_eq_true hi, cond_true, ih _ _ (by omega), List.drop_eq_getElem_cons hi']
   show _ = orL (bits .or .i64 m ((1 : Int) * 2 ^ (L[i]).toNat)) _
   rw [List.getD_eq_getElem?_getD, List.getElem?_eq_getElem hi']
   rfl
  ·
   rw [decide_eq_false hi, cond_false, List.drop_eq_nil_of_le (by omega)]
   rfl

theorem cost_fuel2 {g : Graph} : ∀ (f1 f2 : Nat) (t : JoinTree), treeMask t (List.length g.Rows : Int) ≠ 0 → SizeOf.sizeOf t < f1 → SizeOf.sizeOf t < f2 → treeCost_r f1 g t = treeCost_r f2 g t := by
 intro f1
 induction f1 with
 | zero => intro f2 t _ h; omega
 | succ f1 ih =>
  intro f2 t hm h1 h2
  obtain ⟨f2, rfl⟩ : ∃ j, f2 = j + 1 := ⟨f2 - 1, by omega⟩
  unfold treeCost_r
  by_cases h0 : t.Kids.length = 0
  ·
   rw [kids_beq0 h0, cond_true, cond_true]
  ·
   rw [kids_beq h0, cond_false, cond_false]
   have j := join2 h0 hm
   have k0 := kid_lt (t := t) (i := 0) (by omega)
   have k1 := kid_lt (t := t) (i := 1) (by have := j.two; omega)
   rw [ih f2 _ j.ne0 (by omega) (by omega), ih f2 _ j.ne1 (by omega) (by omega)]

theorem cost_kids {g : Graph} {t : JoinTree} (h0 : t.Kids.length ≠ 0) (hm : treeMask t (List.length g.Rows : Int) ≠ 0) :
  treeCost g t = subsetSize g (treeMask t (List.length g.Rows : Int)) + treeCost g (List.getD t.Kids 0 JoinTree.zero) + treeCost g (List.getD t.Kids 1 JoinTree.zero) := by
 have j := join2 h0 hm
 have k0 := kid_lt (t := t) (i := 0) (by omega)
 have k1 := kid_lt (t := t) (i := 1) (by have := j.two; omega)
 show treeCost_r (SizeOf.sizeOf t + 1) g t = _
 unfold treeCost_r
 rw [kids_beq h0, cond_false, JoinTree.eta]
 rw [cost_fuel2 (SizeOf.sizeOf t) (SizeOf.sizeOf (List.getD t.Kids 0 JoinTree.zero) + 1) _ j.ne0 k0 (Nat.lt_succ_self _),
  cost_fuel2 (SizeOf.sizeOf t) (SizeOf.sizeOf (List.getD t.Kids 1 JoinTree.zero) + 1) _ j.ne1 k1 (Nat.lt_succ_self _)]
 rfl

theorem cost_of {g : Graph} (hV : VG g) {t : JoinTree} (hm : treeMask t (List.length g.Rows : Int) ≠ 0) : iTreeCost g t = treeCost g t := by
 rw [treeCost_same]
 unfold TreeCost
 rw [JoinTree.eta, validGraph_iff.2 hV, show (treeMask t (List.length g.Rows : Int) == 0) = false from beq_false_of_ne hm]
 rfl

theorem mask_swap {t : JoinTree} {n : Int} (hn : n ≤ 5) (h0 : t.Kids.length ≠ 0) (hm : treeMask t n ≠ 0) : treeMask (JoinTree.mk 0 [List.getD t.Kids 1 JoinTree.zero, List.getD t.Kids 0 JoinTree.zero]) n = treeMask t n := by
 have j := join2 h0 hm
 have ra : S5 _ := mask_range hn (List.getD t.Kids 0 JoinTree.zero)
 have rb : S5 _ := mask_range hn (List.getD t.Kids 1 JoinTree.zero)
 have ha := j.apart
 rw [mask_eq]
 show (bif false then _ else bif false then 0 else bif (bif (bif (treeMask (List.getD t.Kids 1 JoinTree.zero) n == 0) then true else (treeMask (List.getD t.Kids 0 JoinTree.zero) n == 0)) then true else (bits .and .i64 (treeMask (List.getD t.Kids 1 JoinTree.zero) n) (treeMask (List.getD t.Kids 0 JoinTree.zero) n) != 0)) then 0 else bits .or .i64 (treeMask (List.getD t.Kids 1 JoinTree.zero) n) (treeMask (List.getD t.Kids 0 JoinTree.zero) n)) = _
 have e : bits .and .i64 (treeMask (List.getD t.Kids 1 JoinTree.zero) n) (treeMask (List.getD t.Kids 0 JoinTree.zero) n) = 0 := by
  rw [(bits62 ra.1 (by have := ra.2; omega) rb.1 (by have := rb.2; omega)).1] at ha
  rw [(bits62 rb.1 (by have := rb.2; omega) ra.1 (by have := ra.2; omega)).1, Nat.and_comm]
  exact ha
 rw [e, beq_false_of_ne j.ne0, beq_false_of_ne j.ne1, or5_comm rb ra, ← j.mask]
 rfl

theorem tree_laws {g : Graph} {t : JoinTree} (h : ¬ iTreeCost g t < 0) (h0 : t.Kids.length ≠ 0) :
  iTreeCost g t = iSubsetSize g (orL 0 (LeavesOf g t)) + iTreeCost g (List.getD t.Kids 0 JoinTree.zero) + iTreeCost g (List.getD t.Kids 1 JoinTree.zero) ∧
  iTreeCost g (JoinTree.mk 0 [List.getD t.Kids 1 JoinTree.zero, List.getD t.Kids 0 JoinTree.zero]) = iTreeCost g t := by
 have hne : ¬ iTreeCost g t = -1 := by omega
 obtain ⟨hV, hT⟩ := cost_top hne
 have h5 := hV.n5
 have hA : 1 ≤ gAll g ∧ gAll g ≤ 31 := by
  have h1 := hV.n1
  unfold gAll
  have : ∀ n : Fin 6, 1 ≤ n.val → (1 : Int) ≤ 1 * 2 ^ n.val - 1 ∧ (1 : Int) * 2 ^ n.val - 1 ≤ 31 := by decide
  exact this ⟨g.Rows.length, by omega⟩ h1
 have hG : gAll g + 1 = 1 * 2 ^ (List.length (Graph.Rows g)) := by unfold gAll; omega
 have j := join2 h0 hT.ne
 have hr := mask_range (n := (List.length g.Rows : Int)) (by omega) t
 have hlt := mask_lt h5 (SizeOf.sizeOf t + 1) t (Nat.lt_succ_self _) hT.ne
 have hm0 : orL 0 (LeavesOf g t) = treeMask t (List.length g.Rows : Int) := by
  rw [LeavesOf_eq hne, lv_mask (n := (List.length g.Rows : Int)) (by omega) 4 t 0 ⟨by decide, by decide⟩ hT, or5 (a := 0) ⟨by decide, by decide⟩ hr]
  show ((0 ||| (treeMask t (List.length g.Rows : Int)).toNat : Nat) : Int) = _
  rw [Nat.zero_or]
  omega
 have hsz : iSubsetSize g (treeMask t (List.length g.Rows : Int)) = subsetSize g (treeMask t (List.length g.Rows : Int)) := by
  unfold iSubsetSize
  rw [ValidGraph_iff.2 hV, decide_eq_false (show ¬ treeMask t (List.length g.Rows : Int) < 1 by have := hT.ne; omega), decide_eq_false (show ¬ gAll g < treeMask t (List.length g.Rows : Int) by omega)]
  simp only [Bool.not_true, cond_false]
  exact size_eq hV hr.1 (by omega)
 have e1 : iTreeCost g t = iSubsetSize g (treeMask t (List.length g.Rows : Int)) + iTreeCost g (List.getD t.Kids 0 JoinTree.zero) + iTreeCost g (List.getD t.Kids 1 JoinTree.zero) := by
  rw [cost_of hV hT.ne, cost_of hV j.ne0, cost_of hV j.ne1, hsz]
  exact cost_kids h0 hT.ne
 refine ⟨by rw [hm0]; exact e1, ?_⟩
 have hsw := mask_swap (n := (List.length g.Rows : Int)) (by omega) h0 hT.ne
 have hk2 := cost_kids (g := g) (t := JoinTree.mk 0 [List.getD t.Kids 1 JoinTree.zero, List.getD t.Kids 0 JoinTree.zero]) (by show 2 ≠ 0; decide) (by rw [hsw]; exact hT.ne)
 rw [cost_of hV (by rw [hsw]; exact hT.ne), cost_of hV hT.ne, hk2, hsw, cost_kids h0 hT.ne]
 show _ + treeCost g (List.getD t.Kids 1 JoinTree.zero) + treeCost g (List.getD t.Kids 0 JoinTree.zero) = _
 omega

theorem FnTreeCost_law (code : List Int) : FnTreeCost code = true := by
 unfold FnTreeCost
 rw [tc_loop code _ rfl _ 0 0 (Nat.lt_succ_self _)]
 simp only [JoinTree.eta, ← treeCost_same, bne_self_eq_false, cond_false, beq_self_eq_true, cond_true, Go.Am.andThen, List.drop_zero]
 generalize (DrawTreeCost code).1 = g
 generalize (DrawTreeCost code).2 = t
 cases decide (1048576 < ((List.length code : Nat) : Int)) with
 | true => rfl
 | false =>
  rw [cond_false]
  by_cases h0 : iTreeCost g t < 0
  ·
   rw [decide_eq_true h0, decide_eq_true (show iTreeCost g t ≤ 0 by omega)]; rfl
  ·
   rw [decide_eq_false h0]
   by_cases hk : t.Kids.length = 0
   ·
    rw [kids_beq0 hk]
    simp only [cond_true, cond_false]
    have hne : ¬ iTreeCost g t = -1 := by omega
    have : iTreeCost g t = 0 := by
     obtain ⟨hV, hT⟩ := cost_top hne
     rw [cost_of hV hT.ne]
     show treeCost_r (SizeOf.sizeOf t + 1) g t = 0
     unfold treeCost_r
     rw [kids_beq0 hk, cond_true]
    rw [this]
    rfl
   ·
    rw [kids_beq hk]
    simp only [cond_false]
    obtain ⟨h1, h2⟩ := tree_laws h0 hk
    rw [← h1, h2]
    simp

end Go.Proofs.Ytpoohhjlpepmfaa
