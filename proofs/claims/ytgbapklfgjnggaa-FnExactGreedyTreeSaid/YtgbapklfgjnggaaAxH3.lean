/-
  A part of the proof of this claim (AxH3): what functions of the program compute, and plain facts of that. No conditions.
-/
import Derived.Test.YtgbapklfgjnggaaAxG2
import Derived.Test.YtgbapklfgjnggaaAxG4
import Derived.Test.YtgbapklfgjnggaaAxD
import Derived.Test.YtgbapklfgjnggaaAzE
import Derived.Test.YtgbapklfgjnggaaAx7
import Derived.Test.YtgbapklfgjnggaaAnG
import Derived.Test.YtgbapklfgjnggaaAxX
import Derived.Test.YtgbapklfgjnggaaAzC
import Derived.Test.YtgbapklfgjnggaaAxT2
import Derived.Test.YtgbapklfgjnggaaAxH2
set_option linter.all false
namespace Go.Proofs.Ytgbapklfgjnggaa
open Go Go.Am
open Go.Am.AW (seq r1U ret kpU cdE r0U r1 meet block bk exit lpB kp d0U)
open List (length getD set take drop)
noncomputable section

def iGreedyTree_l0 (g : Graph) : Nat → Nat → (List JoinTree) → (List Int) → (List JoinTree) × (List Int)
 | 0, v21, trees, masks => (trees, masks)
 | k + 1, v21, trees, masks => (bif (decide ((v21 : Int) < (length (Graph.Rows g) : Int))) then (iGreedyTree_l0 g k (v21 + 1) (trees ++ ([(JoinTree.mk (v21 : Int) ([] : List JoinTree))] : List JoinTree)) (masks ++ ([((1 : Int) * 2 ^ v21)] : List Int))) else (trees, masks))

def iGreedyTree_l3 (g : Graph) (masks1 : List Int) (v40 : Nat) : Nat → Nat → Nat → Int → Nat → Nat × Nat × Int
 | 0, first1, second1, least1, j => (first1, second1, least1)
 | k + 1, first1, second1, least1, j => (bif (decide ((j : Int) < (length masks1 : Int))) then (bif (bif (least1 == (-1)) then true else (decide ((gSize g (bits .or .i64 (getD masks1 v40 0) (getD masks1 j 0))) < least1))) then (iGreedyTree_l3 g masks1 v40 k v40 j (gSize g (bits .or .i64 (getD masks1 v40 0) (getD masks1 j 0))) (j + 1)) else (iGreedyTree_l3 g masks1 v40 k first1 second1 least1 (j + 1))) else (first1, second1, least1))

def iGreedyTree_l2 (g : Graph) (masks1 : List Int) : Nat → Nat → Nat → Int → Nat → Nat × Nat × Int
 | 0, first, second, least, v40 => (first, second, least)
 | k + 1, first, second, least, v40 => (bif (decide ((v40 : Int) < (length masks1 : Int))) then (andThen (iGreedyTree_l3 g masks1 v40 ((length masks1) - (v40 + 1) + 1) first second least (v40 + 1)) (fun z => (fun (first1 : Nat) (second1 : Nat) (least1 : Int) => (iGreedyTree_l2 g masks1 k first1 second1 least1 (v40 + 1))) z.1 z.2.1 z.2.2)) else (first, second, least))

def iGreedyTree_l1 (g : Graph) : Nat → Int → (List JoinTree) → (List Int) → Int × (List JoinTree)
 | 0, cost1, trees1, masks1 => (cost1, trees1)
 | k + 1, cost1, trees1, masks1 => (bif (decide (1 < (length trees1 : Int))) then (andThen (iGreedyTree_l2 g masks1 ((length masks1) - 0 + 1) 0 0 (-1) 0) (fun z => (fun (first : Nat) (second : Nat) (least : Int) => (iGreedyTree_l1 g k (cost1 + least) (take second (set trees1 first (JoinTree.mk 0 ([(getD trees1 first JoinTree.zero), (getD trees1 second JoinTree.zero)] : List JoinTree))) ++ drop (second + 1) (set trees1 first (JoinTree.mk 0 ([(getD trees1 first JoinTree.zero), (getD trees1 second JoinTree.zero)] : List JoinTree)))) (take second (set masks1 first (bits .or .i64 (getD masks1 first 0) (getD masks1 second 0))) ++ drop (second + 1) (set masks1 first (bits .or .i64 (getD masks1 first 0) (getD masks1 second 0)))))) z.1 z.2.1 z.2.2)) else (cost1, trees1))

def iGreedyTree (g : Graph) : JoinTree × Int := (bif (!(ValidGraph g)) then ((JoinTree.mk 0 ([] : List JoinTree)), (-1)) else (andThen (iGreedyTree_l0 g ((length (Graph.Rows g)) - 0 + 1) 0 ([] : List JoinTree) ([] : List Int)) (fun z => (fun (trees : List JoinTree) (masks : List Int) => (andThen (iGreedyTree_l1 g (length trees + 1) 0 trees masks) (fun z => (fun (cost1 : Int) (trees1 : List JoinTree) => ((JoinTree.mk (JoinTree.Leaf (getD trees1 0 JoinTree.zero)) (JoinTree.Kids (getD trees1 0 JoinTree.zero))), cost1)) z.1 z.2))) z.1 z.2)))

end
end Go.Proofs.Ytgbapklfgjnggaa


namespace Go.Proofs.Ytgbapklfgjnggaa
open Go Go.Am
open List (length getD)

noncomputable def szOf (g : Graph) (ms : List Int) (i j : Nat) : Int := subsetSize g (bits .or .i64 (getD ms i 0) (getD ms j 0))

def MS (ms : List Int) : Prop := ∀ i, i < ms.length → 0 ≤ getD ms i 0 ∧ getD ms i 0 < 32

theorem MS.or {ms : List Int} (h : MS ms) {i j : Nat} (hi : i < ms.length) (hj : j < ms.length) : 0 ≤ bits .or .i64 (getD ms i 0) (getD ms j 0) ∧ bits .or .i64 (getD ms i 0) (getD ms j 0) < 32 := by
 have a := h i hi; have b := h j hj; have := or32 a.1 a.2 b.1 b.2; omega

theorem gs_eq {g : Graph} (hV : VG g) {ms : List Int} (h : MS ms) {i j : Nat} (hi : i < ms.length) (hj : j < ms.length) : gSize g (bits .or .i64 (getD ms i 0) (getD ms j 0)) = szOf g ms i j ∧ 1 ≤ szOf g ms i j := by
 have := h.or hi hj; exact ⟨size_eq hV this.1 (by omega), (sSize_b hV this.1 this.2).1⟩

theorem in3 {g : Graph} (hV : VG g) {ts : List JoinTree} {ms : List Int} (hl : ms.length = ts.length) (hm : MS ms) {i : Nat} (hi : i < ms.length) : ∀ (k1 k2 j a b : Nat), ms.length - j < k1 → ms.length - j < k2 → a < ms.length → b < ms.length →
  iGreedyTree_l3 g ms i k1 a b (szOf g ms a b) j = ((GreedyTree_l3 g ts ms i k2 a b j).1, (GreedyTree_l3 g ts ms i k2 a b j).2, szOf g ms (GreedyTree_l3 g ts ms i k2 a b j).1 (GreedyTree_l3 g ts ms i k2 a b j).2) ∧
  (GreedyTree_l3 g ts ms i k2 a b j).1 < ms.length ∧ (GreedyTree_l3 g ts ms i k2 a b j).2 < ms.length := by
 intro k1
 induction k1 with
 | zero => intro k2 j a b h; omega
 | succ k1 ih =>
  intro k2 j a b h1 h2 ha hb; obtain ⟨k2, rfl⟩ : ∃ q, k2 = q + 1 := ⟨k2 - 1, by omega⟩; unfold iGreedyTree_l3 GreedyTree_l3; rw [← hl]; by_cases hj : j < ms.length
  ·
   have e1 := gs_eq hV hm hi hj; have e2 := gs_eq hV hm ha hb; rw [lt_dec hj, cond_true, cond_true, e1.1, show (szOf g ms a b == -1) = false from beq_false_of_ne (by omega), cond_false]; rw [show subsetSize g (bits .or .i64 (getD ms i 0) (getD ms j 0)) = szOf g ms i j from rfl, show subsetSize g (bits .or .i64 (getD ms a 0) (getD ms b 0)) = szOf g ms a b from rfl]
   cases decide (szOf g ms i j < szOf g ms a b) with
   | true => exact ih k2 (j + 1) i j (by omega) (by omega) hi hj
   | false => exact ih k2 (j + 1) a b (by omega) (by omega) ha hb
  · rw [ge_dec hj, cond_false, cond_false]; exact ⟨rfl, ha, hb⟩

theorem in2 {g : Graph} (hV : VG g) {ts : List JoinTree} {ms : List Int} (hl : ms.length = ts.length) (hm : MS ms) : ∀ (k1 k2 i a b : Nat), ms.length - i < k1 → ms.length - i < k2 → a < ms.length → b < ms.length →
  iGreedyTree_l2 g ms k1 a b (szOf g ms a b) i = ((GreedyTree_l2 g ts ms k2 a b i).1, (GreedyTree_l2 g ts ms k2 a b i).2, szOf g ms (GreedyTree_l2 g ts ms k2 a b i).1 (GreedyTree_l2 g ts ms k2 a b i).2) ∧
  (GreedyTree_l2 g ts ms k2 a b i).1 < ms.length ∧ (GreedyTree_l2 g ts ms k2 a b i).2 < ms.length := by
 intro k1
 induction k1 with
 | zero => intro k2 i a b h; omega
 | succ k1 ih =>
  intro k2 i a b h1 h2 ha hb; obtain ⟨k2, rfl⟩ : ∃ q, k2 = q + 1 := ⟨k2 - 1, by omega⟩; unfold iGreedyTree_l2 GreedyTree_l2 andThen; rw [← hl]; by_cases hi : i < ms.length
  · rw [lt_dec hi, cond_true, cond_true]; obtain ⟨e, p, q⟩ := in3 hV hl hm hi (ms.length - (i + 1) + 1) (ms.length - (i + 1) + 1) (i + 1) a b (by omega) (by omega) ha hb; rw [e]; exact ih k2 (i + 1) _ _ (by omega) (by omega) p q
  · rw [ge_dec hi, cond_false, cond_false]; exact ⟨rfl, ha, hb⟩

theorem ord3 {g : Graph} {ts : List JoinTree} {ms : List Int} {i : Nat} : ∀ (k a b j : Nat), a < b → i < j → b < ts.length → (GreedyTree_l3 g ts ms i k a b j).1 < (GreedyTree_l3 g ts ms i k a b j).2 ∧ (GreedyTree_l3 g ts ms i k a b j).2 < ts.length := by
 intro k
 induction k with
 | zero => intro a b j h _ hb; exact ⟨h, hb⟩
 | succ k ih =>
  intro a b j h hj hb; unfold GreedyTree_l3; by_cases hl : j < ts.length
  ·
   rw [lt_dec hl, cond_true]
   cases decide (subsetSize g (bits .or .i64 (getD ms i 0) (getD ms j 0)) < subsetSize g (bits .or .i64 (getD ms a 0) (getD ms b 0))) with
   | true => exact ih i j (j + 1) hj (by omega) hl
   | false => exact ih a b (j + 1) h (by omega) hb
  · rw [ge_dec hl, cond_false]; exact ⟨h, hb⟩

theorem ord2 {g : Graph} {ts : List JoinTree} {ms : List Int} : ∀ (k a b i : Nat), a < b → b < ts.length → (GreedyTree_l2 g ts ms k a b i).1 < (GreedyTree_l2 g ts ms k a b i).2 ∧ (GreedyTree_l2 g ts ms k a b i).2 < ts.length := by
 intro k
 induction k with
 | zero => intro a b i h hb; exact ⟨h, hb⟩
 | succ k ih =>
  intro a b i h hb; unfold GreedyTree_l2 andThen; by_cases hl : i < ts.length
  · rw [lt_dec hl, cond_true]; have := ord3 (g := g) (ts := ts) (ms := ms) (i := i) (ts.length - (i + 1) + 1) a b (i + 1) h (by omega) hb; exact ih _ _ _ this.1 this.2
  · rw [ge_dec hl, cond_false]; exact ⟨h, hb⟩

theorem pair_same {g : Graph} (hV : VG g) {ts : List JoinTree} {ms : List Int} (hl : ms.length = ts.length) (hm : MS ms) (h2 : 2 ≤ ts.length) :
  iGreedyTree_l2 g ms (ms.length - 0 + 1) 0 0 (-1) 0 = ((GreedyTree_l2 g ts ms (ts.length - 0 + 1) 0 1 0).1, (GreedyTree_l2 g ts ms (ts.length - 0 + 1) 0 1 0).2, szOf g ms (GreedyTree_l2 g ts ms (ts.length - 0 + 1) 0 1 0).1 (GreedyTree_l2 g ts ms (ts.length - 0 + 1) 0 1 0).2) := by
 have e1 := gs_eq hV hm (i := 0) (j := 1) (by omega) (by omega); unfold iGreedyTree_l2 GreedyTree_l2 andThen; rw [← hl, lt_dec (show 0 < ms.length by omega), cond_true, cond_true]
 have s1 : iGreedyTree_l3 g ms 0 (ms.length - (0 + 1) + 1) 0 0 (-1) (0 + 1) = iGreedyTree_l3 g ms 0 (ms.length - (0 + 1)) 0 1 (szOf g ms 0 1) 2 := by
  (conv => lhs; unfold iGreedyTree_l3); rw [lt_dec (show 0 + 1 < ms.length by omega), cond_true, show ((-1 : Int) == -1) = true from rfl, cond_true, cond_true, e1.1]
 have s2 : GreedyTree_l3 g ts ms 0 (ms.length - (0 + 1) + 1) 0 1 (0 + 1) = GreedyTree_l3 g ts ms 0 (ms.length - (0 + 1)) 0 1 2 := by
  (conv => lhs; unfold GreedyTree_l3); rw [← hl, lt_dec (show 0 + 1 < ms.length by omega), cond_true, decide_eq_false (Int.lt_irrefl _), cond_false]
 rw [s1, s2]; obtain ⟨e, p, q⟩ := in3 hV hl hm (i := 0) (by omega) (ms.length - (0 + 1)) (ms.length - (0 + 1)) 2 0 1 (by omega) (by omega) (by omega) (by omega); rw [e]; exact (in2 hV hl hm (ms.length - 0) (ms.length - 0) (0 + 1) _ _ (by omega) (by omega) p q).1

/-! ### Costs -/

noncomputable def costs (g : Graph) (ts : List JoinTree) : Int := (ts.map (treeCost g)).sum
noncomputable def rels (n : Int) (ts : List JoinTree) : Nat := (ts.map fun t => pc (treeMask t n).toNat).sum

theorem two_cost {g : Graph} {x y : JoinTree} (hx : treeMask x (length g.Rows : Int) ≠ 0) (hy : treeMask y (length g.Rows : Int) ≠ 0) : treeCost g (two x y) = subsetSize g (treeMask (two x y) (length g.Rows : Int)) + treeCost g x + treeCost g y := by
 have kx : SizeOf.sizeOf x < SizeOf.sizeOf (two x y) := kid_lt (t := two x y) (i := 0) (by show 0 < 2; decide); have ky : SizeOf.sizeOf y < SizeOf.sizeOf (two x y) := kid_lt (t := two x y) (i := 1) (by show 1 < 2; decide); (conv => lhs; unfold treeCost treeCost_r); rw [kids_beq (t := two x y) (by show (2 : Nat) ≠ 0; decide), cond_false, JoinTree.eta]; show subsetSize g (treeMask (two x y) (length g.Rows : Int)) + treeCost_r _ g x + treeCost_r _ g y = _; rw [cost_fuel _ (SizeOf.sizeOf x + 1) x hx kx (by omega), cost_fuel _ (SizeOf.sizeOf y + 1) y hy ky (by omega)]; rfl

theorem perm_sumN {l m : List Nat} (h : l.Perm m) : l.sum = m.sum := h.sum_nat

theorem jn_cost {g : Graph} (hV : VG g) {ts : List JoinTree} (h : FT (length g.Rows : Int) ts) {a b : Nat} (hab : a < b) (hb : b < ts.length) :
  costs g (jn ts a b (two (getD ts a JoinTree.zero) (getD ts b JoinTree.zero))) = costs g ts + szOf g (mks (length g.Rows : Int) ts) a b ∧
  rels (length g.Rows : Int) (jn ts a b (two (getD ts a JoinTree.zero) (getD ts b JoinTree.zero))) = rels (length g.Rows : Int) ts := by
 (have hn : (length g.Rows : Int) ≤ 5 := by have := hV.n5; omega); obtain ⟨rest, p, q⟩ := jn_perm hab hb (two (getD ts a JoinTree.zero) (getD ts b JoinTree.zero)) JoinTree.zero; have hp := h.perm hn p; have hx := hp.ne _ (List.mem_cons_self ..); have hy := hp.ne _ (List.mem_cons_of_mem _ (List.mem_cons_self ..)); have hxy := (List.pairwise_cons.1 hp.ap).1 _ (List.mem_cons_self ..); have hj := two_join hn hx hy hxy; constructor
 · unfold costs; rw [perm_sum (p.map _), perm_sum (q.map _)]; simp only [List.map_cons, List.sum_cons]; rw [two_cost hx hy, two_mask hx hy hxy]; unfold szOf; rw [mks_at (show a < ts.length by omega), mks_at hb]; omega
 ·
  unfold rels; rw [perm_sumN (p.map _), perm_sumN (q.map _)]; simp only [List.map_cons, List.sum_cons]; have := (pc_join hn hj.2).2.1
  have e : pc (treeMask (two (getD ts a JoinTree.zero) (getD ts b JoinTree.zero)) (length g.Rows : Int)).toNat = pc (treeMask (getD ts a JoinTree.zero) (length g.Rows : Int)).toNat + pc (treeMask (getD ts b JoinTree.zero) (length g.Rows : Int)).toNat := this
  omega

theorem greedy_loop {g : Graph} (hV : VG g) : ∀ (k1 k2 : Nat) (c : Int) (ts : List JoinTree), ts.length < k1 → ts.length < k2 → 1 ≤ ts.length → FT (length g.Rows : Int) ts →
  ∃ t, GreedyTree_l1 g k2 ts (mks (length g.Rows : Int) ts) = [t] ∧ iGreedyTree_l1 g k1 c ts (mks (length g.Rows : Int) ts) = (c + treeCost g t - costs g ts, [t]) ∧
   treeMask t (length g.Rows : Int) ≠ 0 ∧ pc (treeMask t (length g.Rows : Int)).toNat = rels (length g.Rows : Int) ts := by
 (have hn : (length g.Rows : Int) ≤ 5 := by have := hV.n5; omega); intro k1
 induction k1 with
 | zero => intro k2 c ts h; omega
 | succ k1 ih =>
  intro k2 c ts h1 h2 hl hF; obtain ⟨k2, rfl⟩ : ∃ q, k2 = q + 1 := ⟨k2 - 1, by omega⟩; unfold GreedyTree_l1 iGreedyTree_l1 andThen; by_cases h : 1 < ts.length
  · have hm : MS (mks (length g.Rows : Int) ts) := fun i hi => mks_in hn ts (by rw [mks_len] at hi; exact hi); rw [show decide ((1 : Int) < (length ts : Int)) = true from decide_eq_true (by omega), cond_true, cond_true, pair_same hV (mks_len _ _) hm (by omega)]; dsimp only; have ho := ord2 (g := g) (ts := ts) (ms := mks (length g.Rows : Int) ts) (ts.length - 0 + 1) 0 1 0 (by decide) (by omega); generalize (GreedyTree_l2 g ts (mks (length g.Rows : Int) ts) (ts.length - 0 + 1) 0 1 0).1 = a at *; generalize (GreedyTree_l2 g ts (mks (length g.Rows : Int) ts) (ts.length - 0 + 1) 0 1 0).2 = b at *; rw [jn_take, jn_take]; obtain ⟨f1, f2⟩ := hF.jn hn ho.1 ho.2; obtain ⟨c1, c2⟩ := jn_cost hV hF ho.1 ho.2; have hlen := jn_len (ts := ts) (a := a) ho.2 (two (getD ts a JoinTree.zero) (getD ts b JoinTree.zero)); obtain ⟨t, t1, t2, t3, t4⟩ := ih k2 (c + szOf g (mks (length g.Rows : Int) ts) a b) (jn ts a b (two (getD ts a JoinTree.zero) (getD ts b JoinTree.zero))) (by omega) (by omega) (by omega) f1; rw [f2] at t1 t2; refine ⟨t, t1, ?_, t3, t4.trans c2⟩; refine t2.trans ?_; rw [c1]; congr 1; omega
  ·
   rw [show decide ((1 : Int) < (length ts : Int)) = false from decide_eq_false (by omega), cond_false, cond_false]; obtain ⟨t, rfl⟩ := List.length_eq_one_iff.1 (show ts.length = 1 by omega); refine ⟨t, rfl, ?_, hF.ne t (List.mem_cons_self ..), ?_⟩
   · congr 1; unfold costs; simp only [List.map_cons, List.map_nil, List.sum_cons, List.sum_nil]; omega
   · unfold rels; simp

theorem lfs_loop (g : Graph) : ∀ (k i : Nat), g.Rows.length - i < k → i ≤ g.Rows.length → GreedyTree_l0 g k i (lfs i) ((List.range i).map fun j => (1 : Int) * 2 ^ j) = (lfs g.Rows.length, (List.range g.Rows.length).map fun j => (1 : Int) * 2 ^ j) ∧
  iGreedyTree_l0 g k i (lfs i) ((List.range i).map fun j => (1 : Int) * 2 ^ j) = (lfs g.Rows.length, (List.range g.Rows.length).map fun j => (1 : Int) * 2 ^ j) := by
 intro k
 induction k with
 | zero => intro i h; omega
 | succ k ih =>
  intro i h hi; unfold GreedyTree_l0 iGreedyTree_l0; by_cases hlt : i < g.Rows.length
  · rw [lt_dec hlt, cond_true, cond_true, ← lfs_succ, ← pws_succ]; exact ih (i + 1) (by omega) hlt
  · rw [ge_dec hlt, cond_false, cond_false]; (obtain rfl : i = g.Rows.length := by omega); exact ⟨rfl, rfl⟩

theorem lfs_cost (g : Graph) (n : Nat) : costs g (lfs n) = 0 := by
 induction n with
 | zero => rfl
 | succ n ih =>
  unfold costs at *; rw [lfs_succ, List.map_append, List.sum_append, ih]; rfl

theorem rel5 : ∀ n : Fin 6, ((List.range n.val).map fun j => pc ((1 : Int) * 2 ^ j).toNat).sum = n.val := by decide +kernel

theorem lfs_rels {n : Nat} (hn : n ≤ 5) : rels (n : Int) (lfs n) = n := by
 have h := (lfs_ft hn).2; unfold mks at h; unfold rels; (have e : (lfs n).map (fun t => pc (treeMask t (n : Int)).toNat) = ((lfs n).map fun t => treeMask t (n : Int)).map fun m => pc m.toNat := by rw [List.map_map]; rfl); rw [e, h, List.map_map]; exact rel5 ⟨n, by omega⟩

theorem greedy_same {g : Graph} (hV : VG g) : ∃ t, GreedyTree g = (t, treeCost g t) ∧ iGreedyTree g = (t, treeCost g t) ∧ treeMask t (length g.Rows : Int) = gAll g ∧ treeMask t (length g.Rows : Int) ≠ 0 := by
 have h5 := hV.n5; have h1 := hV.n1; obtain ⟨hF, hms⟩ := lfs_ft h5; obtain ⟨t, t1, t2, t3, t4⟩ := greedy_loop hV ((lfs g.Rows.length).length + 1) ((lfs g.Rows.length).length + 1) 0 (lfs g.Rows.length) (by omega) (by omega) (by rw [lfs_len]; exact h1) hF; have l0 := lfs_loop g (g.Rows.length - 0 + 1) 0 (by omega) (Nat.zero_le _); rw [hms] at t1 t2; refine ⟨t, ?_, ?_, ?_, t3⟩
 · unfold GreedyTree andThen; rw [validGraph_iff.2 hV]; have e0 : GreedyTree_l0 g (g.Rows.length - 0 + 1) 0 [] [] = _ := l0.1; rw [e0]; dsimp only; rw [t1]; show (JoinTree.mk (JoinTree.Leaf t) (JoinTree.Kids t), treeCost g t) = _; rw [JoinTree.eta]
 · unfold iGreedyTree andThen; rw [ValidGraph_iff.2 hV]; have e0 : iGreedyTree_l0 g (g.Rows.length - 0 + 1) 0 [] [] = _ := l0.2; rw [e0]; dsimp only; rw [t2, lfs_cost]; show (JoinTree.mk (JoinTree.Leaf t) (JoinTree.Kids t), 0 + treeCost g t - 0) = _; rw [JoinTree.eta]; congr 1; omega
 ·
  rw [lfs_rels h5] at t4; have hlt := mask_lt h5 (SizeOf.sizeOf t + 1) t (Nat.lt_succ_self _) t3; have hrg := mask_range (n := (length g.Rows : Int)) (by omega) t; have := pc_full ⟨g.Rows.length, by omega⟩ ⟨(treeMask t (length g.Rows : Int)).toNat, by omega⟩ (by show (((treeMask t (length g.Rows : Int)).toNat : Nat) : Int) < (1 : Int) * 2 ^ g.Rows.length; omega) t4
  simp only at this
  unfold gAll; omega

end Go.Proofs.Ytgbapklfgjnggaa


namespace Go.Proofs.Ytgbapklfgjnggaa
open Go Go.Am
open List (length getD)
noncomputable section

/-! ### Marks -/

theorem kf_sumM {α : Type} {m : α → Int → α × Int} {ok : α → Int → Prop} {c : α → Nat} {B : Int} : ∀ (l : List α), (∀ x ∈ l, ∀ k, 0 ≤ k → k + (c x : Nat) ≤ B → (m x k).2 = k + (c x : Nat) ∧ ok x k) → ∀ (k : Int), 0 ≤ k → k + (((l.map c).sum : Nat) : Int) ≤ B →
  kf m l k = k + (((l.map c).sum : Nat) : Int) ∧ OKL m ok l k := by
 intro l
 induction l with
 | nil => intro _ k _ _; exact ⟨by simp [kf], trivial⟩
 | cons x l ih =>
  intro h k h0 hB; simp only [List.map_cons, List.sum_cons, Int.natCast_add] at hB ⊢; obtain ⟨h1, h2⟩ := h x (List.Mem.head _) k h0 (by omega); obtain ⟨h3, h4⟩ := ih (fun y hy => h y (List.Mem.tail _ hy)) (k + (c x : Nat)) (by omega) (by omega); refine ⟨?_, h2, ?_⟩
  · show kf m l (m x k).2 = _; rw [h1, h3]; omega
  · rw [h1]; exact h4

def BND : Int := 4611686018427387900

def nd : Nat → List JoinTree → Nat
 | 0, _ => 0
 | f + 1, l => (l.map (fun x => 1 + nd f x.Kids)).sum

theorem held_congr {s1 s2 : List JoinTree → Int → Int} (b : List JoinTree) (h : ∀ i, i < b.length → ∀ k, s1 (getD b i JoinTree.zero).Kids k = s2 (getD b i JoinTree.zero).Kids k) : ∀ (n : Nat) (k : Int) (i : Nat), heldJoinTreeS_l0 s1 b n k i = heldJoinTreeS_l0 s2 b n k i := by
 intro n
 induction n with
 | zero => intro k i; rfl
 | succ n ih =>
  intro k i; unfold heldJoinTreeS_l0; by_cases hi : i < b.length
  · rw [h i hi, ih]
  · rw [ge_dec hi, cond_false, cond_false]

theorem held_fuel : ∀ (f g : Nat) (a : List JoinTree) (k : Int), SizeOf.sizeOf a < f → SizeOf.sizeOf a < g → heldJoinTreeS_r f a k = heldJoinTreeS_r g a k := by
 intro f
 induction f with
 | zero => intro g a k h; omega
 | succ f ih =>
  intro g a k h1 h2; obtain ⟨g, rfl⟩ : ∃ q, g = q + 1 := ⟨g - 1, by omega⟩; unfold heldJoinTreeS_r; rw [held_congr a fun i hi k => ih g _ k (by have := kids_szL hi; omega) (by have := kids_szL hi; omega)]

theorem held_unf (a : List JoinTree) (k : Int) : heldJoinTreeS a k = Sum.elim (fun z => z) (fun r => r) (heldJoinTreeS_l0 heldJoinTreeS a (a.length - 0 + 1) k 0) := by
 show Sum.elim (fun z => z) (fun r => r) (heldJoinTreeS_l0 (heldJoinTreeS_r (SizeOf.sizeOf a)) a (a.length - 0 + 1) k 0) = _; rw [held_congr (s2 := heldJoinTreeS) a fun i hi k => held_fuel _ (SizeOf.sizeOf (getD a i JoinTree.zero).Kids + 1) _ k (kids_szL hi) (Nat.lt_succ_self _)]

def up4 (k : Int) : Int := IntKind.wrap .i64 (k + 1)

def markX (self : List JoinTree → Int → List JoinTree × Int) (x : JoinTree) (k : Int) : JoinTree × Int :=
 (JoinTree.mk k (self x.Kids (up4 k)).1, (self x.Kids (up4 k)).2)

def okX (self : List JoinTree → Int → List JoinTree × Int) (x : JoinTree) (k : Int) : Prop := 0 ≤ (self x.Kids (up4 k)).2 ∧ heldJoinTreeS (self x.Kids (up4 k)).1 (up4 k) = (self x.Kids (up4 k)).2

theorem markE_step (self : List JoinTree → Int → List JoinTree × Int) (a : List JoinTree) (k : Int) (hok : OKL (markX self) (okX self) a k) :
  (markJoinTreeS_l0 self (a.length - 0 + 1) k 0 a).1 = kf (markX self) a k ∧ heldJoinTreeS (markJoinTreeS_l0 self (a.length - 0 + 1) k 0 a).2 k = kf (markX self) a k := by
 obtain ⟨h1, h2, _, h4⟩ := mark_held (m := markX self) (ok := okX self) JoinTree.zero (markJoinTreeS_l0 self) (heldJoinTreeS_l0 heldJoinTreeS)
  (fun n k i a hi => by
   show (bif decide ((i : Int) < (length a : Int)) then _ else _) = _; rw [lt_dec hi, cond_true, lgetD_set_eq hi]
   rfl)
  (fun n k i a hi => by
   show (bif decide ((i : Int) < (length a : Int)) then _ else _) = _
   rw [ge_dec hi, cond_false])
  (fun b n k i x hi hb ho => by
   show (bif decide ((i : Int) < (length b : Int)) then _ else _) = _; rw [lt_dec hi, cond_true, hb]; have e2 : heldJoinTreeS (markX self x k).1.Kids (up4 k) = (markX self x k).2 := ho.2; have e1 : ¬ (markX self x k).2 < 0 := Int.not_lt.2 ho.1; show (bif k != k then _ else bif decide (heldJoinTreeS (markX self x k).1.Kids (up4 k) < 0) then _ else heldJoinTreeS_l0 heldJoinTreeS b n (heldJoinTreeS (markX self x k).1.Kids (up4 k)) (i + 1)) = _; rw [e2, decide_eq_false e1]
   simp only [bne_self_eq_false, cond_false])
  (fun b n k i hi => by
   show (bif decide ((i : Int) < (length b : Int)) then _ else _) = _
   rw [ge_dec hi, cond_false]) (a.length - 0 + 1) k 0 a (by omega) (by rw [List.drop_zero]; exact hok)
 rw [List.drop_zero] at h1 h4; refine ⟨h1, ?_⟩; rw [held_unf, h4 _ (by rw [h2]; omega)]; rfl

theorem up4_eq {k : Int} (h0 : 0 ≤ k) (hB : k + 1 ≤ BND) : up4 k = k + 1 := by
 unfold BND at hB; exact wrapI (by omega) (by omega)

theorem markE_cnt : ∀ (f : Nat) (a : List JoinTree) (k : Int), SizeOf.sizeOf a < f → 0 ≤ k → k + (nd f a : Nat) ≤ BND → (markJoinTreeS_r f a k).2 = k + (nd f a : Nat) ∧ heldJoinTreeS (markJoinTreeS_r f a k).1 k = k + (nd f a : Nat) := by
 intro f
 induction f with
 | zero => intro a k h; omega
 | succ f ih =>
  intro a k hs h0 hB
  obtain ⟨h1, h2⟩ := kf_sumM (m := markX (markJoinTreeS_r f)) (ok := okX (markJoinTreeS_r f)) (c := fun x => 1 + nd f x.Kids) (B := BND) a (fun x hx k h0 hB => by
   have hx2 : SizeOf.sizeOf x.Kids < f := by
    obtain ⟨i, hi, rfl⟩ := List.mem_iff_getElem.1 hx; have := kids_szL hi
    rw [List.getD_eq_getElem?_getD, List.getElem?_eq_getElem hi, Option.getD_some] at this
    omega
   have e : up4 k = k + 1 := up4_eq h0 (by omega); obtain ⟨a1, a2⟩ := ih x.Kids (k + 1) hx2 (by omega) (by omega); refine ⟨?_, ?_, ?_⟩
   · show (markJoinTreeS_r f x.Kids (up4 k)).2 = _; rw [e, a1]; omega
   · rw [e, a1]; omega
   · rw [e, a1, a2]) k h0 hB
  obtain ⟨h3, h4⟩ := markE_step (markJoinTreeS_r f) a k h2; have hn : nd (f + 1) a = (a.map (fun x => 1 + nd f x.Kids)).sum := rfl; rw [hn]; rw [h1] at h3 h4; exact ⟨h3, h4⟩

theorem mark_cnt (a : List JoinTree) (k : Int) (h0 : 0 ≤ k) (hB : k + (nd (SizeOf.sizeOf a + 1) a : Nat) ≤ BND) : (markJoinTreeS a k).2 = k + (nd (SizeOf.sizeOf a + 1) a : Nat) ∧ heldJoinTreeS (markJoinTreeS a k).1 k = k + (nd (SizeOf.sizeOf a + 1) a : Nat) :=
 markE_cnt _ a k (Nat.lt_succ_self _) h0 hB

theorem held_mark (x : JoinTree) (h : ((nd (SizeOf.sizeOf x.Kids + 1) x.Kids : Nat) : Int) ≤ 17179869184) : heldJoinTree (JoinTree.mk (JoinTree.Leaf x) (markJoinTreeS x.Kids 1).1) 1 = (markJoinTreeS x.Kids 1).2 ∧ ¬ (markJoinTreeS x.Kids 1).2 < 0 := by
 obtain ⟨h1, h2⟩ := mark_cnt x.Kids 1 (by decide) (by unfold BND; omega); (have h3 : ¬ (markJoinTreeS x.Kids 1).2 < 0 := by omega); refine ⟨?_, h3⟩; show (bif decide (heldJoinTreeS (markJoinTreeS x.Kids 1).1 1 < 0) then (-1 : Int) else heldJoinTreeS (markJoinTreeS x.Kids 1).1 1) = _; rw [h2, ← h1, decide_eq_false h3, cond_false]

theorem eqJ_self (a : JoinTree) : eqJoinTree a a = true := eqJoinTree_refl _ a (Nat.lt_succ_self _)

theorem graph_eta (g : Graph) : Graph.mk (Graph.Rows g) (Graph.Edges g) = g := rfl

theorem toG_eq (a : Graph) : Graph.mk (toIntS (Graph.Rows a)) (toEdgeS (Graph.Edges a)) = toGraph a := rfl

end
end Go.Proofs.Ytgbapklfgjnggaa


namespace Go.Proofs.Ytgbapklfgjnggaa
open Go Go.Am
open List (length getD)
noncomputable section

theorem gD_l0 (g : Graph) : ∀ (k i : Nat) (a : List JoinTree) (b : List Int), iGreedyTreeD_l0 g k i a b = iGreedyTree_l0 g k i a b := by
 intro k
 induction k with
 | zero => intro i a b; rfl
 | succ k ih =>
  intro i a b; unfold iGreedyTreeD_l0 iGreedyTree_l0; simp only [ih]

theorem gD_l3 (g : Graph) (ms : List Int) (i : Nat) : ∀ (k a b : Nat) (c : Int) (j : Nat), iGreedyTreeD_l3 g ms i k a b c j = iGreedyTree_l3 g ms i k a b c j := by
 intro k
 induction k with
 | zero => intro a b c j; rfl
 | succ k ih =>
  intro a b c j; unfold iGreedyTreeD_l3 iGreedyTree_l3; simp only [ih]

theorem gD_l2 (g : Graph) (ms : List Int) : ∀ (k a b : Nat) (c : Int) (j : Nat), iGreedyTreeD_l2 g ms k a b c j = iGreedyTree_l2 g ms k a b c j := by
 intro k
 induction k with
 | zero => intro a b c j; rfl
 | succ k ih =>
  intro a b c j; unfold iGreedyTreeD_l2 iGreedyTree_l2; simp only [ih, gD_l3]

theorem gD_l1 (g : Graph) : ∀ (k : Nat) (c : Int) (a : List JoinTree) (b : List Int), iGreedyTreeD_l1 g k c a b = iGreedyTree_l1 g k c a b := by
 intro k
 induction k with
 | zero => intro c a b; rfl
 | succ k ih =>
  intro c a b; unfold iGreedyTreeD_l1 iGreedyTree_l1; simp only [ih, gD_l2]

theorem iGreedyTreeD_eq (g : Graph) : iGreedyTreeD g = iGreedyTree g := by
 unfold iGreedyTreeD iGreedyTree; simp only [gD_l0, gD_l1]

theorem Greedy_same (g : Graph) : iGreedyTree g = GreedyTree g := by
 cases hv : ValidGraph g with
 | true =>
  obtain ⟨t, e1, e2, _⟩ := greedy_same (ValidGraph_iff.1 hv); rw [e1, e2]
 | false =>
  (have e1 : iGreedyTree g = (JoinTree.mk 0 [], -1) := by unfold iGreedyTree; rw [hv]; rfl); (have e2 : GreedyTree g = (JoinTree.mk 0 [], -1) := by unfold GreedyTree; rw [vg_eq, hv]; rfl); rw [e1, e2]

theorem nd_nil (f : Nat) : nd f [] = 0 := by cases f <;> rfl

theorem nd_mask {n : Int} (hn : n ≤ 5) : ∀ (f : Nat) (t : JoinTree) (q : Nat), SizeOf.sizeOf t < f → treeMask t n ≠ 0 → nd q t.Kids + 2 ≤ 2 * pc (treeMask t n).toNat := by
 intro f
 induction f with
 | zero => intro t q h; omega
 | succ f ih =>
  intro t q hf hm; by_cases h0 : t.Kids.length = 0
  ·
   obtain ⟨h1, h2⟩ := leaf_mask hm h0; rw [List.length_eq_zero_iff.1 h0, nd_nil, h2]; have := pc_pow ⟨t.Leaf.toNat, by omega⟩
   simp only at this
   omega
  ·
   have j := join2 h0 hm; have k0 := kid_lt (t := t) (i := 0) (by omega); have k1 := kid_lt (t := t) (i := 1) (by have := j.two; omega); obtain ⟨_, p, p0, p1, _⟩ := pc_join hn j
   cases q with
   | zero =>
    show 0 + 2 ≤ _; omega
   | succ q =>
    have a := ih _ q (by omega) j.ne0; have b := ih _ q (by omega) j.ne1; rw [p]
    have e : nd (q + 1) t.Kids = (1 + nd q (getD t.Kids 0 JoinTree.zero).Kids) + ((1 + nd q (getD t.Kids 1 JoinTree.zero).Kids) + 0) := by
     have h2 := j.two; generalize t.Kids = l at h2
     match l, h2 with
     | [x, y], _ => rfl
    omega

theorem pc32 : ∀ n : Fin 32, pc n.val ≤ 5 := by decide

theorem Greedy_nd (g : Graph) (f : Nat) : nd f (GreedyTree g).1.Kids ≤ 17179869184 := by
 rw [← Greedy_same]
 cases hv : ValidGraph g with
 | false =>
  (have e1 : iGreedyTree g = (JoinTree.mk 0 [], -1) := by unfold iGreedyTree; rw [hv]; rfl); rw [e1]; show nd f [] ≤ _; rw [nd_nil]; exact Nat.zero_le _
 | true =>
  have hV := ValidGraph_iff.1 hv; have h5 := hV.n5; obtain ⟨t, e1, e2, _, h0⟩ := greedy_same hV; rw [e2]; have h1 := nd_mask (n := (length g.Rows : Int)) (by omega) (SizeOf.sizeOf t + 1) t f (Nat.lt_succ_self _) h0; have hrg := mask_range (n := (length g.Rows : Int)) (by omega) t; have := pc32 ⟨(treeMask t (length g.Rows : Int)).toNat, by omega⟩
  simp only at this
  show nd f t.Kids ≤ _; omega

theorem FnExactGreedyTree_law (g : Graph) : FnExactGreedyTree g = true := by
 unfold FnExactGreedyTree andThen; simp only [iGreedyTreeD_eq, graph_eta, JoinTree.eta, toG_eq, Greedy_same, eqGraph_self, eqJ_self]; by_cases hz : szGraph g 1048576 < 0
 · rw [decide_eq_true hz]; rfl
 · obtain ⟨h2, h3⟩ := held_mark (GreedyTree (toGraph g)).1 (by have := Greedy_nd (toGraph g) (SizeOf.sizeOf (GreedyTree (toGraph g)).1.Kids + 1); omega); rw [decide_eq_false hz, h2, decide_eq_false h3, decide_eq_false (by omega)]; simp

end
end Go.Proofs.Ytgbapklfgjnggaa
