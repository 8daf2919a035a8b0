/-
  A part of the proof of this claim (AzC): what functions of the program compute, and plain facts of that. No conditions.
-/
import Derived.Test.YtgbapklfgjnggaaAzL
import Derived.Test.YtgbapklfgjnggaaAxX
import Derived.Test.YtgbapklfgjnggaaAxF
set_option linter.all false
namespace Go.Proofs.Ytgbapklfgjnggaa
open Go Go.Am

theorem mn_first {c : List Int} {mask : Nat} : ∀ (l : List Int) (b : Int × Int), (∀ v ∈ l, 0 ≤ sumAt c mask v) →
  (mn c mask l b = b ∧ (0 ≤ b.1 → ∀ u ∈ l, b.1 ≤ sumAt c mask u) ∧ (b.1 < 0 → l = [])) ∨
  ∃ l1 v l2, l = l1 ++ v :: l2 ∧ mn c mask l b = (sumAt c mask v, v) ∧ (∀ u ∈ l1, sumAt c mask v < sumAt c mask u) ∧ (0 ≤ b.1 → sumAt c mask v < b.1) := by
 intro l
 induction l with
 | nil => intro b _; exact .inl ⟨rfl, fun _ u hu => (by cases hu), fun _ => rfl⟩
 | cons w l ih =>
  intro b hn
  have h0 := hn w (List.mem_cons_self ..)
  have hn' : ∀ v ∈ l, 0 ≤ sumAt c mask v := fun v hv => hn v (List.mem_cons_of_mem _ hv)
  cases hc : (bif decide (b.1 < 0) then true else decide (sumAt c mask w < b.1)) with
  | true =>
   have e : mn c mask (w :: l) b = mn c mask l (sumAt c mask w, w) := by
    show mn c mask l _ = _
    rw [hc]
    rfl
   have hlt : 0 ≤ b.1 → sumAt c mask w < b.1 := fun hb => by
    rw [decide_eq_false (show ¬ b.1 < 0 by omega), cond_false] at hc
    exact of_decide_eq_true hc
   rcases ih (sumAt c mask w, w) hn' with ⟨h1, _, _⟩ | ⟨l1, v, l2, h1, h2, h3, h4⟩
   ·
    exact .inr ⟨[], w, l, rfl, e.trans h1, fun u hu => (by cases hu), hlt⟩
   ·
    have h4 := h4 h0
    simp only at h4
    refine .inr ⟨w :: l1, v, l2, by rw [h1]; rfl, e.trans h2, fun u hu => ?_, fun hb => ?_⟩
    ·
     rcases List.mem_cons.1 hu with rfl | hu
     ·
      exact h4
     ·
      exact h3 u hu
    ·
     have := hlt hb
     omega
  | false =>
   have e : mn c mask (w :: l) b = mn c mask l b := by
    show mn c mask l _ = _
    rw [hc]
    rfl
   have hb0 : 0 ≤ b.1 := by
    by_cases hb : b.1 < 0
    ·
     rw [decide_eq_true hb] at hc; cases hc
    ·
     omega
   have hge : b.1 ≤ sumAt c mask w := by
    rw [decide_eq_false (show ¬ b.1 < 0 by omega), cond_false] at hc
    have := of_decide_eq_false hc
    omega
   rcases ih b hn' with ⟨h1, h2, _⟩ | ⟨l1, v, l2, h1, h2, h3, h4⟩
   ·
    refine .inl ⟨e.trans h1, fun _ u hu => ?_, fun hb => by omega⟩
    rcases List.mem_cons.1 hu with rfl | hu
    ·
     exact hge
    ·
     exact h2 hb0 u hu
   ·
    refine .inr ⟨w :: l1, v, l2, by rw [h1]; rfl, e.trans h2, fun u hu => ?_, h4⟩
    have := h4 hb0
    rcases List.mem_cons.1 hu with rfl | hu
    ·
     omega
    ·
     exact h3 u hu

def fnd (self : Graph → List Int → Int → JoinTree) (g : Graph) (c : List Int) (mask : Nat) : List Int → Unit ⊕ JoinTree
 | [] => .inl ()
 | v :: l => bif (sumAt c mask v + subsetSize g (mask : Int) == List.getD c mask 0) then .inr (JoinTree.mk 0 [self g c v, self g c ((mask : Int) - v)]) else fnd self g c mask l

theorem find_eq {self : Graph → List Int → Int → JoinTree} {g : Graph} {c : List Int} {mask : Nat} (hm : mask < 32) (hp2 : (bits .and .i64 (mask : Int) ((mask : Int) - 1) == 0) = false) : ∀ (f k p : Nat), mask - p ≤ f → mask - p < k → 1 ≤ p →
  bestTree_l0 self g c (mask : Int) k p = fnd self g c mask (partsFrom (mask : Int) f (p : Int)) := by
 intro f
 induction f with
 | zero =>
  intro k p hf hk hp
  obtain ⟨k, rfl⟩ : ∃ j, k = j + 1 := ⟨k - 1, by omega⟩
  unfold bestTree_l0
  rw [show decide (((p : Nat) : Int) < ((mask : Nat) : Int)) = false from decide_eq_false (by omega), cond_false]
  rfl
 | succ f ih =>
  intro k p hf hk hp
  obtain ⟨k, rfl⟩ : ∃ j, k = j + 1 := ⟨k - 1, by omega⟩
  unfold bestTree_l0 partsFrom
  by_cases hlt : ((p : Nat) : Int) < ((mask : Nat) : Int)
  ·
   rw [decide_eq_true hlt, cond_true, cond_true, part_iff' (by omega) hm]
   have ih := ih k (p + 1) (by omega) (by omega) (by omega)
   rw [show (((p + 1 : Nat)) : Int) = (p : Int) + 1 by omega] at ih
   rw [show (bits .and .i64 ((p : Nat) : Int) ((mask : Nat) : Int) != ((p : Nat) : Int)) = !(bits .and .i64 ((p : Nat) : Int) ((mask : Nat) : Int) == ((p : Nat) : Int)) from rfl, Bool.not_not,
    show (bits .and .i64 (mask : Int) ((mask : Int) - 1) != 0) = true by show (!(_ == _)) = true; rw [hp2]; rfl]
   cases hb : bits .and .i64 (p : Int) (mask : Int) == (p : Int) with
   | false => exact ih
   | true =>
    simp only [cond_true]
    have hs : List.getD c p 0 + List.getD c (Int.toNat (((mask : Nat) : Int) - ((p : Nat) : Int))) 0 = sumAt c mask (p : Int) := by
     unfold sumAt
     rw [Int.toNat_natCast, show Int.toNat (((mask : Nat) : Int) - ((p : Nat) : Int)) = mask - p by omega]
    rw [hs, Int.toNat_natCast]
    unfold fnd
    rw [← ih]
  ·
   rw [decide_eq_false hlt, cond_false, cond_false]
   rfl

theorem find_none {self : Graph → List Int → Int → JoinTree} {g : Graph} {c : List Int} {mask : Nat} (hp2 : (bits .and .i64 (mask : Int) ((mask : Int) - 1) == 0) = true) : ∀ (k p : Nat), bestTree_l0 self g c (mask : Int) k p = .inl () := by
 intro k
 induction k with
 | zero => intro p; rfl
 | succ k ih =>
  intro p
  unfold bestTree_l0
  rw [show (bits .and .i64 (mask : Int) ((mask : Int) - 1) != 0) = false by show (!(_ == _)) = false; rw [hp2]; rfl]
  cases decide (((p : Nat) : Int) < (mask : Int)) with
  | false => rfl
  | true =>
   cases (bits .and .i64 ((p : Nat) : Int) (mask : Int) == ((p : Nat) : Int)) <;> exact ih _

theorem fnd_at {self : Graph → List Int → Int → JoinTree} {g : Graph} {c : List Int} {mask : Nat} {v : Int} {l2 : List Int} (hv : sumAt c mask v + subsetSize g (mask : Int) = List.getD c mask 0) : ∀ (l1 : List Int), (∀ u ∈ l1, sumAt c mask v < sumAt c mask u) →
  fnd self g c mask (l1 ++ v :: l2) = .inr (JoinTree.mk 0 [self g c v, self g c ((mask : Int) - v)]) := by
 intro l1
 induction l1 with
 | nil =>
  intro _
  show (bif (sumAt c mask v + subsetSize g (mask : Int) == List.getD c mask 0) then _ else _) = _
  rw [beq_iff_eq.2 hv, cond_true]
 | cons u l1 ih =>
  intro h
  have hu := h u (List.mem_cons_self ..)
  show (bif (sumAt c mask u + subsetSize g (mask : Int) == List.getD c mask 0) then _ else _) = _
  rw [beq_false_of_ne (by omega), cond_false]
  exact ih fun x hx => h x (List.mem_cons_of_mem _ hx)

theorem leaf_facts : ∀ (n : Fin 6) (m : Fin 32), 1 ≤ m.val → (m.val : Int) < (1 : Int) * 2 ^ n.val → parts (m.val : Int) = [] → treeOf_l0 (m.val : Int) (Int.toNat ((m.val : Int) / 2 ^ 0) + 1) 0 = bestTree_l1 (m.val : Int) (5 - 0 + 1) 0 ∧ bestTree_l1 (m.val : Int) (5 - 0 + 1) 0 < n.val ∧ (1 : Int) * 2 ^ bestTree_l1 (m.val : Int) (5 - 0 + 1) 0 = (m.val : Int) := by decide +kernel

theorem split_facts : ∀ m v : Fin 32, 1 ≤ v.val → v.val < m.val → bits .andNot .i64 (v.val : Int) (m.val : Int) = 0 → bits .and .i64 (v.val : Int) ((m.val : Int) - (v.val : Int)) = 0 ∧ bits .or .i64 (v.val : Int) ((m.val : Int) - (v.val : Int)) = (m.val : Int) ∧ bits .andNot .i64 (m.val : Int) (v.val : Int) = (m.val : Int) - (v.val : Int) := by decide +kernel

theorem cost_fuel {g : Graph} : ∀ (f1 f2 : Nat) (t : JoinTree), treeMask t (List.length g.Rows : Int) ≠ 0 → SizeOf.sizeOf t < f1 → SizeOf.sizeOf t < f2 → treeCost_r f1 g t = treeCost_r f2 g t := by
 intro f1
 induction f1 with
 | zero => intro f2 t _ h; omega
 | succ f1 ih =>
  intro f2 t hm h1 h2
  obtain ⟨f2, rfl⟩ : ∃ j, f2 = j + 1 := ⟨f2 - 1, by omega⟩
  unfold treeCost_r
  by_cases h0 : t.Kids.length = 0
  ·
   rw [kids_beq0 h0, cond_true, cond_true]
  ·
   rw [kids_beq h0, cond_false, cond_false]
   have j := join2 h0 hm
   have k0 := kid_lt (t := t) (i := 0) (by omega)
   have k1 := kid_lt (t := t) (i := 1) (by have := j.two; omega)
   rw [ih f2 _ j.ne0 (by omega) (by omega), ih f2 _ j.ne1 (by omega) (by omega)]

theorem best_tree {g : Graph} (hV : VG g) : ∀ (k mask f1 f2 : Nat), mask ≤ k → 1 ≤ mask → (mask : Int) ≤ gAll g → mask < f1 → mask < f2 →
  treeOf_r f1 (bestCosts g).2 (mask : Int) = bestTree_r f2 g (bestCosts g).1 (mask : Int) ∧
  treeMask (bestTree_r f2 g (bestCosts g).1 (mask : Int)) (List.length g.Rows : Int) = (mask : Int) ∧
  treeCost g (bestTree_r f2 g (bestCosts g).1 (mask : Int)) = List.getD (bestCosts g).1 mask 0 := by
 have h5 := hV.n5
 have hA := gAll_b hV
 obtain ⟨hbl, hfl, hR, hF⟩ := impl_best hV
 have hG : gAll g + 1 = 1 * 2 ^ (List.length (Graph.Rows g)) := by unfold gAll; omega
 intro k
 induction k with
 | zero => intro mask f1 f2 h h1; omega
 | succ k ih =>
  intro mask f1 f2 hk h1 hall hf1 hf2
  obtain ⟨f1, rfl⟩ : ∃ j, f1 = j + 1 := ⟨f1 - 1, by omega⟩
  obtain ⟨f2, rfl⟩ : ∃ j, f2 = j + 1 := ⟨f2 - 1, by omega⟩
  have hm32 : mask < 32 := by omega
  have hfe := hF.eq mask h1 (by omega)
  have hce := hR.eq mask h1 (by omega)
  have hs0 : ∀ v ∈ parts (mask : Int), 0 ≤ sumAt (bestCosts g).1 mask v := fun v _ => by
   have a := hR.nn v.toNat
   have b := hR.nn (mask - v.toNat)
   unfold sumAt
   omega
  by_cases hp : parts (mask : Int) = []
  ·
   have hpw := parts_pow' hm32
   rw [decide_eq_true hp] at hpw
   have hlf := leaf_facts ⟨g.Rows.length, by omega⟩ ⟨mask, hm32⟩ h1 (by show (mask : Int) < (1 : Int) * 2 ^ g.Rows.length; omega) hp
   simp only at hlf
   have hf0 : List.getD (bestCosts g).2 mask 0 = 0 := by rw [hfe]; unfold best; rw [hp]; rfl
   have hc0 : List.getD (bestCosts g).1 mask 0 = 0 := by rw [hce]; unfold best; rw [hp]; rfl
   have e2 : bestTree_r (f2 + 1) g (bestCosts g).1 (mask : Int) = JoinTree.mk ((bestTree_l1 (mask : Int) (5 - 0 + 1) 0 : Nat) : Int) [] := by
    unfold bestTree_r
    rw [find_none hpw]
    rfl
   have e1 : treeOf_r (f1 + 1) (bestCosts g).2 (mask : Int) = JoinTree.mk ((treeOf_l0 (mask : Int) (Int.toNat ((mask : Int) / 2 ^ 0) + 1) 0 : Nat) : Int) [] := by
    unfold treeOf_r
    rw [Int.toNat_natCast, hf0]
    rfl
   rw [e1, e2]
   refine ⟨by rw [hlf.1], ?_, ?_⟩
   ·
    rw [mask_eq, kids_beq0 (t := JoinTree.mk ((bestTree_l1 (mask : Int) (5 - 0 + 1) 0 : Nat) : Int) []) rfl, cond_true]
    show (bif inRange ((bestTree_l1 (mask : Int) (5 - 0 + 1) 0 : Nat) : Int) 0 ((List.length g.Rows : Int) - 1) then (1 : Int) * 2 ^ Int.toNat ((bestTree_l1 (mask : Int) (5 - 0 + 1) 0 : Nat) : Int) else 0) = _
    rw [inRange_iff.2 ⟨by omega, by omega⟩, cond_true, Int.toNat_natCast]
    exact hlf.2.2
   ·
    rw [hc0]
    rfl
  ·
   have hpw := parts_pow' hm32
   rw [decide_eq_false hp] at hpw
   rcases mn_first (c := (bestCosts g).1) (mask := mask) (parts (mask : Int)) (-1, 0) hs0 with ⟨_, _, h⟩ | ⟨l1, v, l2, hl, hmn, hlt, _⟩
   ·
    exact absurd (h (by decide)) hp
   ·
    have hvm : v ∈ parts (mask : Int) := by rw [hl]; simp
    have hpt := parts_part hvm
    have p1 := hpt.1
    have p2 := hpt.2.1
    have hsv := hs0 v hvm
    have hsp := split_facts ⟨mask, hm32⟩ ⟨v.toNat, by omega⟩ (by show 1 ≤ v.toNat; omega) (by show v.toNat < mask; omega) (by show bits .andNot .i64 ((v.toNat : Nat) : Int) (mask : Int) = 0; rw [show ((v.toNat : Nat) : Int) = v by omega]; exact hpt.2.2)
    simp only [show ((v.toNat : Nat) : Int) = v by omega] at hsp
    have hf0 : List.getD (bestCosts g).2 mask 0 = v := by rw [hfe]; unfold best; rw [hmn]
    have hc0 : sumAt (bestCosts g).1 mask v + subsetSize g (mask : Int) = List.getD (bestCosts g).1 mask 0 := by
     rw [hce]; unfold best val; rw [hmn]
     simp only
     rw [decide_eq_false (show ¬ sumAt (bestCosts g).1 mask v < 0 by omega), cond_false]
    have e2 : bestTree_r (f2 + 1) g (bestCosts g).1 (mask : Int) = JoinTree.mk 0 [bestTree_r f2 g (bestCosts g).1 v, bestTree_r f2 g (bestCosts g).1 ((mask : Int) - v)] := by
     conv => lhs; unfold bestTree_r
     rw [find_eq hm32 hpw mask _ 1 (by omega) (by show mask - 1 < Int.toNat ((mask : Int) - ((1 : Nat) : Int)) + 1; omega) (Nat.le_refl _)]
     have : partsFrom (mask : Int) mask ((1 : Nat) : Int) = l1 ++ v :: l2 := by
      rw [← hl]
      unfold parts
      rw [Int.toNat_natCast]
      rfl
     rw [this, fnd_at hc0 l1 hlt]
     rfl
    have e1 : treeOf_r (f1 + 1) (bestCosts g).2 (mask : Int) = JoinTree.mk 0 [treeOf_r f1 (bestCosts g).2 v, treeOf_r f1 (bestCosts g).2 ((mask : Int) - v)] := by
     conv => lhs; unfold treeOf_r
     rw [Int.toNat_natCast, hf0, beq_false_of_ne (show v ≠ 0 by omega), cond_false, hsp.2.2]
    have ea := ih v.toNat f1 f2 (by omega) (by omega) (by omega) (by omega) (by omega)
    have eb := ih (mask - v.toNat) f1 f2 (by omega) (by omega) (by omega) (by omega) (by omega)
    rw [show ((v.toNat : Nat) : Int) = v by omega] at ea
    rw [show ((mask - v.toNat : Nat) : Int) = (mask : Int) - v by omega] at eb
    rw [e1, e2]
    refine ⟨by rw [ea.1, eb.1], ?_⟩
    have hmask : treeMask (JoinTree.mk 0 [bestTree_r f2 g (bestCosts g).1 v, bestTree_r f2 g (bestCosts g).1 ((mask : Int) - v)]) (List.length g.Rows : Int) = (mask : Int) := by
     rw [mask_eq]
     show (bif false then _ else bif false then 0 else bif (bif (bif (treeMask (bestTree_r f2 g (bestCosts g).1 v) (List.length g.Rows : Int) == 0) then true else (treeMask (bestTree_r f2 g (bestCosts g).1 ((mask : Int) - v)) (List.length g.Rows : Int) == 0)) then true else (bits .and .i64 (treeMask (bestTree_r f2 g (bestCosts g).1 v) (List.length g.Rows : Int)) (treeMask (bestTree_r f2 g (bestCosts g).1 ((mask : Int) - v)) (List.length g.Rows : Int)) != 0)) then 0 else bits .or .i64 (treeMask (bestTree_r f2 g (bestCosts g).1 v) (List.length g.Rows : Int)) (treeMask (bestTree_r f2 g (bestCosts g).1 ((mask : Int) - v)) (List.length g.Rows : Int))) = _
     rw [ea.2.1, eb.2.1, hsp.1, hsp.2.1, beq_false_of_ne (show v ≠ 0 by omega), beq_false_of_ne (show (mask : Int) - v ≠ 0 by omega)]
     rfl
    refine ⟨hmask, ?_⟩
    have hca : treeCost g (JoinTree.mk 0 [bestTree_r f2 g (bestCosts g).1 v, bestTree_r f2 g (bestCosts g).1 ((mask : Int) - v)]) = subsetSize g (mask : Int) + treeCost g (bestTree_r f2 g (bestCosts g).1 v) + treeCost g (bestTree_r f2 g (bestCosts g).1 ((mask : Int) - v)) := by
     have k0 := kid_lt (t := JoinTree.mk 0 [bestTree_r f2 g (bestCosts g).1 v, bestTree_r f2 g (bestCosts g).1 ((mask : Int) - v)]) (i := 0) (by show 0 < 2; decide)
     have k1 := kid_lt (t := JoinTree.mk 0 [bestTree_r f2 g (bestCosts g).1 v, bestTree_r f2 g (bestCosts g).1 ((mask : Int) - v)]) (i := 1) (by show 1 < 2; decide)
     generalize ht : JoinTree.mk 0 [bestTree_r f2 g (bestCosts g).1 v, bestTree_r f2 g (bestCosts g).1 ((mask : Int) - v)] = T at *
     have hk0 : List.getD T.Kids 0 JoinTree.zero = bestTree_r f2 g (bestCosts g).1 v := by rw [← ht]; rfl
     have hk1 : List.getD T.Kids 1 JoinTree.zero = bestTree_r f2 g (bestCosts g).1 ((mask : Int) - v) := by rw [← ht]; rfl
     have hkl : T.Kids.length = 2 := by rw [← ht]; rfl
     rw [hk0] at k0
     rw [hk1] at k1
     show treeCost_r (SizeOf.sizeOf T + 1) g T = _
     unfold treeCost_r
     rw [kids_beq (by omega), cond_false, JoinTree.eta, hmask, hk0, hk1]
     rw [cost_fuel (SizeOf.sizeOf T) (SizeOf.sizeOf (bestTree_r f2 g (bestCosts g).1 v) + 1) _ (by rw [ea.2.1]; omega) k0 (Nat.lt_succ_self _),
      cost_fuel (SizeOf.sizeOf T) (SizeOf.sizeOf (bestTree_r f2 g (bestCosts g).1 ((mask : Int) - v)) + 1) _ (by rw [eb.2.1]; omega) k1 (Nat.lt_succ_self _)]
     rfl
    rw [hca, ea.2.2, eb.2.2, ← hc0]
    unfold sumAt
    omega

theorem tree_same {g : Graph} (hV : VG g) : iBestTree g = BestTree g ∧ treeMask (iBestTree g).1 (List.length g.Rows : Int) = gAll g ∧ treeCost g (iBestTree g).1 = (iBestTree g).2 := by
 have hA := gAll_b hV
 obtain ⟨hbl, _, _, _⟩ := impl_best hV
 have hbs := best_same hV
 have hl : ((List.length (sbestCosts g) : Nat) : Int) - 1 = gAll g := by rw [hbs]; omega
 have hb := best_tree hV (gAll g).toNat (gAll g).toNat ((gAll g).toNat + 1) ((gAll g).toNat + 1) (Nat.le_refl _) (by omega) (by omega) (Nat.lt_succ_self _) (Nat.lt_succ_self _)
 rw [show (((gAll g).toNat : Nat) : Int) = gAll g by omega] at hb
 have e1 : iBestTree g = (bestTree g (bestCosts g).1 (gAll g), List.getD (bestCosts g).1 (Int.toNat (gAll g)) 0) := by
  unfold iBestTree
  rw [ValidGraph_iff.2 hV]
  simp only [Bool.not_true, cond_false, JoinTree.eta]
  have : treeOf (bestCosts g).2 (gAll g) = bestTree g (bestCosts g).1 (gAll g) := hb.1
  rw [this]
 have e2 : BestTree g = (bestTree g (bestCosts g).1 (gAll g), List.getD (bestCosts g).1 (Int.toNat (gAll g)) 0) := by
  unfold BestTree
  rw [validGraph_iff.2 hV]
  simp only [Bool.not_true, cond_false, JoinTree.eta]
  rw [hl, hbs]
 rw [e1, e2]
 exact ⟨rfl, hb.2.1, hb.2.2⟩

end Go.Proofs.Ytgbapklfgjnggaa
