/-
  A part of the proof of this claim (AxG6): what functions of the program compute, and plain facts of that. No conditions.
-/
import Derived.Test.YtgbapklfgjnggaaAxG5
import Derived.Test.YtgbapklfgjnggaaAzE
import Derived.Test.YtgbapklfgjnggaaAx8
import Derived.Test.YtgbapklfgjnggaaAnG
import Derived.Test.YtgbapklfgjnggaaAxX
import Derived.Test.YtgbapklfgjnggaaAxD
import Derived.Test.YtgbapklfgjnggaaAzC
set_option linter.all false
namespace Go.Proofs.Ytgbapklfgjnggaa
open Go Go.Am

noncomputable def szOf (g : Graph) (ms : List Int) (i j : Nat) : Int := subsetSize g (bits .or .i64 (List.getD ms i 0) (List.getD ms j 0))

def MS (ms : List Int) : Prop := ∀ i, i < ms.length → 0 ≤ List.getD ms i 0 ∧ List.getD ms i 0 < 32

theorem MS.or {ms : List Int} (h : MS ms) {i j : Nat} (hi : i < ms.length) (hj : j < ms.length) : 0 ≤ bits .or .i64 (List.getD ms i 0) (List.getD ms j 0) ∧ bits .or .i64 (List.getD ms i 0) (List.getD ms j 0) < 32 := by
 have a := h i hi
 have b := h j hj
 have := or32 a.1 a.2 b.1 b.2
 omega

theorem gs_eq {g : Graph} (hV : VG g) {ms : List Int} (h : MS ms) {i j : Nat} (hi : i < ms.length) (hj : j < ms.length) : gSize g (bits .or .i64 (List.getD ms i 0) (List.getD ms j 0)) = szOf g ms i j ∧ 1 ≤ szOf g ms i j := by
 have := h.or hi hj
 exact ⟨size_eq hV this.1 (by omega), (sSize_b hV this.1 this.2).1⟩

theorem in3 {g : Graph} (hV : VG g) {ts : List JoinTree} {ms : List Int} (hl : ms.length = ts.length) (hm : MS ms) {i : Nat} (hi : i < ms.length) : ∀ (k1 k2 j a b : Nat), ms.length - j < k1 → ms.length - j < k2 → a < ms.length → b < ms.length →
  iGreedyTree_l3 g ms i k1 a b (szOf g ms a b) j = ((GreedyTree_l3 g ts ms i k2 a b j).1, (GreedyTree_l3 g ts ms i k2 a b j).2, szOf g ms (GreedyTree_l3 g ts ms i k2 a b j).1 (GreedyTree_l3 g ts ms i k2 a b j).2) ∧
  (GreedyTree_l3 g ts ms i k2 a b j).1 < ms.length ∧ (GreedyTree_l3 g ts ms i k2 a b j).2 < ms.length := by
 intro k1
 induction k1 with
 | zero => intro k2 j a b h; omega
 | succ k1 ih =>
  intro k2 j a b h1 h2 ha hb
  obtain ⟨k2, rfl⟩ : ∃ q, k2 = q + 1 := ⟨k2 - 1, by omega⟩
  unfold iGreedyTree_l3 GreedyTree_l3
  rw [← hl]
  by_cases hj : j < ms.length
  ·
   have e1 := gs_eq hV hm hi hj
   have e2 := gs_eq hV hm ha hb
   rw [lt_dec hj, cond_true, cond_true, e1.1, show (szOf g ms a b == -1) = false from beq_false_of_ne (by omega), cond_false]
   show _ ∧ _
   rw [show subsetSize g (bits .or .i64 (List.getD ms i 0) (List.getD ms j 0)) = szOf g ms i j from rfl, show subsetSize g (bits .or .i64 (List.getD ms a 0) (List.getD ms b 0)) = szOf g ms a b from rfl]
   cases decide (szOf g ms i j < szOf g ms a b) with
   | true => exact ih k2 (j + 1) i j (by omega) (by omega) hi hj
   | false => exact ih k2 (j + 1) a b (by omega) (by omega) ha hb
  ·
   rw [ge_dec hj, cond_false, cond_false]
   exact ⟨rfl, ha, hb⟩

theorem in2 {g : Graph} (hV : VG g) {ts : List JoinTree} {ms : List Int} (hl : ms.length = ts.length) (hm : MS ms) : ∀ (k1 k2 i a b : Nat), ms.length - i < k1 → ms.length - i < k2 → a < ms.length → b < ms.length →
  iGreedyTree_l2 g ms k1 a b (szOf g ms a b) i = ((GreedyTree_l2 g ts ms k2 a b i).1, (GreedyTree_l2 g ts ms k2 a b i).2, szOf g ms (GreedyTree_l2 g ts ms k2 a b i).1 (GreedyTree_l2 g ts ms k2 a b i).2) ∧
  (GreedyTree_l2 g ts ms k2 a b i).1 < ms.length ∧ (GreedyTree_l2 g ts ms k2 a b i).2 < ms.length := by
 intro k1
 induction k1 with
 | zero => intro k2 i a b h; omega
 | succ k1 ih =>
  intro k2 i a b h1 h2 ha hb
  obtain ⟨k2, rfl⟩ : ∃ q, k2 = q + 1 := ⟨k2 - 1, by omega⟩
  unfold iGreedyTree_l2 GreedyTree_l2 Go.Am.andThen
  rw [← hl]
  by_cases hi : i < ms.length
  ·
   rw [lt_dec hi, cond_true, cond_true]
   obtain ⟨e, p, q⟩ := in3 hV hl hm hi (ms.length - (i + 1) + 1) (ms.length - (i + 1) + 1) (i + 1) a b (by omega) (by omega) ha hb
   rw [e]
   exact ih k2 (i + 1) _ _ (by omega) (by omega) p q
  ·
   rw [ge_dec hi, cond_false, cond_false]
   exact ⟨rfl, ha, hb⟩

theorem ord3 {g : Graph} {ts : List JoinTree} {ms : List Int} {i : Nat} : ∀ (k a b j : Nat), a < b → i < j → b < ts.length → (GreedyTree_l3 g ts ms i k a b j).1 < (GreedyTree_l3 g ts ms i k a b j).2 ∧ (GreedyTree_l3 g ts ms i k a b j).2 < ts.length := by
 intro k
 induction k with
 | zero => intro a b j h _ hb; exact ⟨h, hb⟩
 | succ k ih =>
  intro a b j h hj hb
  unfold GreedyTree_l3
  by_cases hl : j < ts.length
  ·
   rw [lt_dec hl, cond_true]
   cases decide (subsetSize g (bits .or .i64 (List.getD ms i 0) (List.getD ms j 0)) < subsetSize g (bits .or .i64 (List.getD ms a 0) (List.getD ms b 0))) with
   | true => exact ih i j (j + 1) hj (by omega) hl
   | false => exact ih a b (j + 1) h (by omega) hb
  ·
   rw [ge_dec hl, cond_false]
   exact ⟨h, hb⟩

theorem ord2 {g : Graph} {ts : List JoinTree} {ms : List Int} : ∀ (k a b i : Nat), a < b → b < ts.length → (GreedyTree_l2 g ts ms k a b i).1 < (GreedyTree_l2 g ts ms k a b i).2 ∧ (GreedyTree_l2 g ts ms k a b i).2 < ts.length := by
 intro k
 induction k with
 | zero => intro a b i h hb; exact ⟨h, hb⟩
 | succ k ih =>
  intro a b i h hb
  unfold GreedyTree_l2 Go.Am.andThen
  by_cases hl : i < ts.length
  ·
   rw [lt_dec hl, cond_true]
   have := ord3 (g := g) (ts := ts) (ms := ms) (i := i) (ts.length - (i + 1) + 1) a b (i + 1) h (by omega) hb
   exact ih _ _ _ this.1 this.2
  ·
   rw [ge_dec hl, cond_false]
   exact ⟨h, hb⟩

theorem pair_same {g : Graph} (hV : VG g) {ts : List JoinTree} {ms : List Int} (hl : ms.length = ts.length) (hm : MS ms) (h2 : 2 ≤ ts.length) :
  iGreedyTree_l2 g ms (ms.length - 0 + 1) 0 0 (-1) 0 = ((GreedyTree_l2 g ts ms (ts.length - 0 + 1) 0 1 0).1, (GreedyTree_l2 g ts ms (ts.length - 0 + 1) 0 1 0).2, szOf g ms (GreedyTree_l2 g ts ms (ts.length - 0 + 1) 0 1 0).1 (GreedyTree_l2 g ts ms (ts.length - 0 + 1) 0 1 0).2) := by
 have e1 := gs_eq hV hm (i := 0) (j := 1) (by omega) (by omega)
 unfold iGreedyTree_l2 GreedyTree_l2 Go.Am.andThen
 rw [← hl, lt_dec (show 0 < ms.length by omega), cond_true, cond_true]
 have s1 : iGreedyTree_l3 g ms 0 (ms.length - (0 + 1) + 1) 0 0 (-1) (0 + 1) = iGreedyTree_l3 g ms 0 (ms.length - (0 + 1)) 0 1 (szOf g ms 0 1) 2 := by
  conv => lhs; unfold iGreedyTree_l3
  rw [lt_dec (show 0 + 1 < ms.length by omega), cond_true, show ((-1 : Int) == -1) = true from rfl, cond_true, cond_true, e1.1]
 have s2 : GreedyTree_l3 g ts ms 0 (ms.length - (0 + 1) + 1) 0 1 (0 + 1) = GreedyTree_l3 g ts ms 0 (ms.length - (0 + 1)) 0 1 2 := by
  conv => lhs; unfold GreedyTree_l3
  rw [← hl, lt_dec (show 0 + 1 < ms.length by omega), cond_true, decide_eq_false (Int.lt_irrefl _), cond_false]
 rw [s1, s2]
 obtain ⟨e, p, q⟩ := in3 hV hl hm (i := 0) (by omega) (ms.length - (0 + 1)) (ms.length - (0 + 1)) 2 0 1 (by omega) (by omega) (by omega) (by omega)
 rw [e]
 exact (in2 hV hl hm (ms.length - 0) (ms.length - 0) (0 + 1) _ _ (by omega) (by omega) p q).1

/-! ### Costs -/

noncomputable def costs (g : Graph) (ts : List JoinTree) : Int := (ts.map (treeCost g)).sum
noncomputable def rels (n : Int) (ts : List JoinTree) : Nat := (ts.map fun t => pc (treeMask t n).toNat).sum

theorem two_cost {g : Graph} {x y : JoinTree} (hx : treeMask x (List.length g.Rows : Int) ≠ 0) (hy : treeMask y (List.length g.Rows : Int) ≠ 0) : treeCost g (two x y) = subsetSize g (treeMask (two x y) (List.length g.Rows : Int)) + treeCost g x + treeCost g y := by
 have kx : SizeOf.sizeOf x < SizeOf.sizeOf (two x y) := kid_lt (t := two x y) (i := 0) (by show 0 < 2; decide)
 have ky : SizeOf.sizeOf y < SizeOf.sizeOf (two x y) := kid_lt (t := two x y) (i := 1) (by show 1 < 2; decide)
 conv => lhs; unfold treeCost treeCost_r
 rw [kids_beq (t := two x y) (by show (2 : Nat) ≠ 0; decide), cond_false, JoinTree.eta]
 show subsetSize g (treeMask (two x y) (List.length g.Rows : Int)) + treeCost_r _ g x + treeCost_r _ g y = _
 rw [cost_fuel _ (SizeOf.sizeOf x + 1) x hx kx (by omega), cost_fuel _ (SizeOf.sizeOf y + 1) y hy ky (by omega)]
 rfl

theorem perm_sumN {l m : List Nat} (h : l.Perm m) : l.sum = m.sum := h.sum_nat

theorem jn_cost {g : Graph} (hV : VG g) {ts : List JoinTree} (h : FT (List.length g.Rows : Int) ts) {a b : Nat} (hab : a < b) (hb : b < ts.length) :
  costs g (jn ts a b (two (List.getD ts a JoinTree.zero) (List.getD ts b JoinTree.zero))) = costs g ts + szOf g (mks (List.length g.Rows : Int) ts) a b ∧
  rels (List.length g.Rows : Int) (jn ts a b (two (List.getD ts a JoinTree.zero) (List.getD ts b JoinTree.zero))) = rels (List.length g.Rows : Int) ts := by
 have hn : (List.length g.Rows : Int) ≤ 5 := by have := hV.n5; omega
 obtain ⟨rest, p, q⟩ := jn_perm hab hb (two (List.getD ts a JoinTree.zero) (List.getD ts b JoinTree.zero)) JoinTree.zero
 have hp := h.perm hn p
 have hx := hp.ne _ (List.mem_cons_self ..)
 have hy := hp.ne _ (List.mem_cons_of_mem _ (List.mem_cons_self ..))
 have hxy := (List.pairwise_cons.1 hp.ap).1 _ (List.mem_cons_self ..)
 have hj := two_join hn hx hy hxy
 constructor
 ·
  unfold costs
  rw [perm_sum (p.map _), perm_sum (q.map _)]
  simp only [List.map_cons, List.sum_cons]
  rw [two_cost hx hy, two_mask hx hy hxy]
  unfold szOf
  rw [mks_at (show a < ts.length by omega), mks_at hb]
  omega
 ·
  unfold rels
  rw [perm_sumN (p.map _), perm_sumN (q.map _)]
  simp only [List.map_cons, List.sum_cons]
  have := (pc_join hn hj.2).2.1
  have e : pc (treeMask (two (List.getD ts a JoinTree.zero) (List.getD ts b JoinTree.zero)) (List.length g.Rows : Int)).toNat = pc (treeMask (List.getD ts a JoinTree.zero) (List.length g.Rows : Int)).toNat + pc (treeMask (List.getD ts b JoinTree.zero) (List.length g.Rows : Int)).toNat := this
  omega

theorem greedy_loop {g : Graph} (hV : VG g) : ∀ (k1 k2 : Nat) (c : Int) (ts : List JoinTree), ts.length < k1 → ts.length < k2 → 1 ≤ ts.length → FT (List.length g.Rows : Int) ts →
  ∃ t, GreedyTree_l1 g k2 ts (mks (List.length g.Rows : Int) ts) = [t] ∧ iGreedyTree_l1 g k1 c ts (mks (List.length g.Rows : Int) ts) = (c + treeCost g t - costs g ts, [t]) ∧
   treeMask t (List.length g.Rows : Int) ≠ 0 ∧ pc (treeMask t (List.length g.Rows : Int)).toNat = rels (List.length g.Rows : Int) ts := by
 have hn : (List.length g.Rows : Int) ≤ 5 := by have := hV.n5; omega
 intro k1
 induction k1 with
 | zero => intro k2 c ts h; omega
 | succ k1 ih =>
  intro k2 c ts h1 h2 hl hF
  obtain ⟨k2, rfl⟩ : ∃ q, k2 = q + 1 := ⟨k2 - 1, by omega⟩
  unfold GreedyTree_l1 iGreedyTree_l1 Go.Am.andThen
  by_cases h : 1 < ts.length
  ·
   have hm : MS (mks (List.length g.Rows : Int) ts) := fun i hi => mks_in hn ts (by rw [mks_len] at hi; exact hi)
   rw [show decide ((1 : Int) < ((List.length ts : Nat) : Int)) = true from decide_eq_true (by omega), cond_true, cond_true, pair_same hV (mks_len _ _) hm (by omega)]
   dsimp only
   have ho := ord2 (g := g) (ts := ts) (ms := mks (List.length g.Rows : Int) ts) (ts.length - 0 + 1) 0 1 0 (by decide) (by omega)
   generalize (GreedyTree_l2 g ts (mks (List.length g.Rows : Int) ts) (ts.length - 0 + 1) 0 1 0).1 = a at *
   generalize (GreedyTree_l2 g ts (mks (List.length g.Rows : Int) ts) (ts.length - 0 + 1) 0 1 0).2 = b at *
   rw [jn_take, jn_take]
   obtain ⟨f1, f2⟩ := hF.jn hn ho.1 ho.2
   obtain ⟨c1, c2⟩ := jn_cost hV hF ho.1 ho.2
   have hlen := jn_len (ts := ts) (a := a) ho.2 (two (List.getD ts a JoinTree.zero) (List.getD ts b JoinTree.zero))
   obtain ⟨t, t1, t2, t3, t4⟩ := ih k2 (c + szOf g (mks (List.length g.Rows : Int) ts) a b) (jn ts a b (two (List.getD ts a JoinTree.zero) (List.getD ts b JoinTree.zero))) (by omega) (by omega) (by omega) f1
   rw [f2] at t1 t2
   refine ⟨t, t1, ?_, t3, t4.trans c2⟩
   refine t2.trans ?_
   rw [c1]
   congr 1
   omega
  ·
   rw [show decide ((1 : Int) < ((List.length ts : Nat) : Int)) = false from decide_eq_false (by omega), cond_false, cond_false]
   obtain ⟨t, rfl⟩ := List.length_eq_one_iff.1 (show ts.length = 1 by omega)
   refine ⟨t, rfl, ?_, hF.ne t (List.mem_cons_self ..), ?_⟩
   ·
    congr 1
    unfold costs
    simp only [List.map_cons, List.map_nil, List.sum_cons, List.sum_nil]
    omega
   ·
    unfold rels
    simp

theorem lfs_loop (g : Graph) : ∀ (k i : Nat), g.Rows.length - i < k → i ≤ g.Rows.length → GreedyTree_l0 g k i (lfs i) ((List.range i).map fun j => (1 : Int) * 2 ^ j) = (lfs g.Rows.length, (List.range g.Rows.length).map fun j => (1 : Int) * 2 ^ j) ∧
  iGreedyTree_l0 g k i (lfs i) ((List.range i).map fun j => (1 : Int) * 2 ^ j) = (lfs g.Rows.length, (List.range g.Rows.length).map fun j => (1 : Int) * 2 ^ j) := by
 intro k
 induction k with
 | zero => intro i h; omega
 | succ k ih =>
  intro i h hi
  unfold GreedyTree_l0 iGreedyTree_l0
  by_cases hlt : i < g.Rows.length
  ·
   rw [lt_dec hlt, cond_true, cond_true, ← lfs_succ, ← pws_succ]
   exact ih (i + 1) (by omega) hlt
  ·
   rw [ge_dec hlt, cond_false, cond_false]
   obtain rfl : i = g.Rows.length := by omega
   exact ⟨rfl, rfl⟩

theorem lfs_cost (g : Graph) (n : Nat) : costs g (lfs n) = 0 := by
 induction n with
 | zero => rfl
 | succ n ih =>
  unfold costs at *
  rw [lfs_succ, List.map_append, List.sum_append, ih]
  rfl

theorem rel5 : ∀ n : Fin 6, ((List.range n.val).map fun j => pc ((1 : Int) * 2 ^ j).toNat).sum = n.val := by decide +kernel

theorem lfs_rels {n : Nat} (hn : n ≤ 5) : rels (n : Int) (lfs n) = n := by
 have h := (lfs_ft hn).2
 unfold mks at h
 unfold rels
 have e : (lfs n).map (fun t => pc (treeMask t (n : Int)).toNat) = ((lfs n).map fun t => treeMask t (n : Int)).map fun m => pc m.toNat := by rw [List.map_map]; rfl
 rw [e, h, List.map_map]
 exact rel5 ⟨n, by omega⟩

theorem greedy_same {g : Graph} (hV : VG g) : ∃ t, GreedyTree g = (t, treeCost g t) ∧ iGreedyTree g = (t, treeCost g t) ∧ treeMask t (List.length g.Rows : Int) = gAll g ∧ treeMask t (List.length g.Rows : Int) ≠ 0 := by
 have h5 := hV.n5
 have h1 := hV.n1
 obtain ⟨hF, hms⟩ := lfs_ft h5
 obtain ⟨t, t1, t2, t3, t4⟩ := greedy_loop hV ((lfs g.Rows.length).length + 1) ((lfs g.Rows.length).length + 1) 0 (lfs g.Rows.length) (by omega) (by omega) (by rw [lfs_len]; exact h1) hF
 have l0 := lfs_loop g (g.Rows.length - 0 + 1) 0 (by omega) (Nat.zero_le _)
 rw [hms] at t1 t2
 refine ⟨t, ?_, ?_, ?_, t3⟩
 ·
  unfold GreedyTree Go.Am.andThen
  rw [validGraph_iff.2 hV]
  have e0 : GreedyTree_l0 g (g.Rows.length - 0 + 1) 0 [] [] = _ := l0.1
  rw [e0]
  dsimp only
  rw [t1]
  show (JoinTree.mk (JoinTree.Leaf t) (JoinTree.Kids t), treeCost g t) = _
  rw [JoinTree.eta]
 ·
  unfold iGreedyTree Go.Am.andThen
  rw [ValidGraph_iff.2 hV]
  have e0 : iGreedyTree_l0 g (g.Rows.length - 0 + 1) 0 [] [] = _ := l0.2
  rw [e0]
  dsimp only
  rw [t2, lfs_cost]
  show (JoinTree.mk (JoinTree.Leaf t) (JoinTree.Kids t), 0 + treeCost g t - 0) = _
  rw [JoinTree.eta]
  congr 1
  omega
 ·
  rw [lfs_rels h5] at t4
  have hlt := mask_lt h5 (SizeOf.sizeOf t + 1) t (Nat.lt_succ_self _) t3
  have hrg := mask_range (n := (List.length g.Rows : Int)) (by omega) t
  have := pc_full ⟨g.Rows.length, by omega⟩ ⟨(treeMask t (List.length g.Rows : Int)).toNat, by omega⟩ (by show (((treeMask t (List.length g.Rows : Int)).toNat : Nat) : Int) < (1 : Int) * 2 ^ g.Rows.length; omega) t4
  simp only at this
  unfold gAll
  omega

theorem FnGreedyTree_law (code : List Int) : FnGreedyTree code = true := by
 unfold FnGreedyTree
 generalize DrawGreedyTree code = g
 cases decide (1048576 < ((List.length code : Nat) : Int)) with
 | true => rfl
 | false =>
  rw [cond_false]
  simp only [JoinTree.eta]
  cases hv : validGraph g with
  | false =>
   have e1 : GreedyTree g = (JoinTree.mk 0 [], -1) := by unfold GreedyTree; rw [hv]; rfl
   have e2 : iGreedyTree g = (JoinTree.mk 0 [], -1) := by
    unfold iGreedyTree
    have : ValidGraph g = false := by
     cases h : ValidGraph g with
     | false => rfl
     | true => rw [validGraph_iff.2 (ValidGraph_iff.1 h)] at hv; cases hv
    rw [this]
    rfl
   rw [e1, e2]
   simp only [equalTrees, eqT_self _ _ (Nat.lt_succ_self _)]
   rfl
  | true =>
   have hV := validGraph_iff.1 hv
   have h5 := hV.n5
   obtain ⟨t, e1, e2, hm, h0⟩ := greedy_same hV
   rw [e1, e2]
   simp only [equalTrees, eqT_self _ _ (Nat.lt_succ_self _)]
   have hc := cost_b hV (SizeOf.sizeOf t + 1) t h0
   have hc0 : 0 ≤ treeCost g t := hc.1
   have hi : iTreeCost g t = treeCost g t := by
    rw [treeCost_same]
    unfold TreeCost
    rw [JoinTree.eta, hv, show (treeMask t (List.length g.Rows : Int) == 0) = false from beq_false_of_ne h0]
    rfl
   have hne : ¬ iTreeCost g t = -1 := by omega
   have ho := optimal hV (SizeOf.sizeOf t + 1) t (Nat.lt_succ_self _) h0
   rw [hm] at ho
   have hle : (iBestTree g).2 ≤ treeCost g t := by rw [best_cost hV]; exact ho
   have hlen : ((List.length (LeavesOf g t) : Nat) : Int) = ((List.length (Graph.Rows g) : Nat) : Int) := by
    rw [LeavesOf_eq hne, lv_len (n := (List.length g.Rows : Int)) (by omega) 4 _ (cost_top hne).2, hm]
    have := pc_all ⟨g.Rows.length, by omega⟩
    simp only at this
    unfold gAll
    rw [this]
   rw [bne_self_eq_false, cond_false, hi, show decide (treeCost g t < 0) = false from decide_eq_false (by omega), hlen, show decide ((iBestTree g).2 ≤ treeCost g t) = true from decide_eq_true hle]
   simp

end Go.Proofs.Ytgbapklfgjnggaa
