/-
  A part of the proof of this claim (AzE): what functions of the program compute, and plain facts of that. No conditions.
-/
import Derived.Test.YtgbapklfgjnggaaAzL
import Derived.Test.YtgbapklfgjnggaaAxX
set_option linter.all false
namespace Go.Proofs.Ytgbapklfgjnggaa
open Go Go.Am

theorem powf2 : ∀ (n : Fin 6) (i : Fin 5), i.val < n.val → (1 : Int) ≤ (1 : Int) * 2 ^ i.val ∧ (1 : Int) * 2 ^ i.val < (1 : Int) * 2 ^ n.val := by decide +kernel

theorem powf3 {n i : Nat} (hn : n ≤ 5) (hi : i < n) : (1 : Int) ≤ (1 : Int) * 2 ^ i ∧ (1 : Int) * 2 ^ i < (1 : Int) * 2 ^ n := powf2 ⟨n, by omega⟩ ⟨i, by omega⟩ hi

theorem mask_lt {k : Nat} (hk : k ≤ 5) : ∀ (f : Nat) (t : JoinTree), SizeOf.sizeOf t < f → treeMask t (k : Int) ≠ 0 → treeMask t (k : Int) < (1 : Int) * 2 ^ k := by
 intro f
 induction f with
 | zero => intro t h; omega
 | succ f ih =>
  intro t hf hm
  by_cases h0 : t.Kids.length = 0
  ·
   obtain ⟨h1, h2⟩ := leaf_mask hm h0
   rw [h2]
   exact (powf3 hk (i := t.Leaf.toNat) (by omega)).2
  ·
   have j := join2 h0 hm
   have k0 := kid_lt (t := t) (i := 0) (by omega)
   have k1 := kid_lt (t := t) (i := 1) (by have := j.two; omega)
   have a := ih _ (by omega) j.ne0
   have b := ih _ (by omega) j.ne1
   have ra := mask_range (n := (k : Int)) (by omega) (List.getD t.Kids 0 JoinTree.zero)
   have rb := mask_range (n := (k : Int)) (by omega) (List.getD t.Kids 1 JoinTree.zero)
   rw [j.mask, (bits62 ra.1 (by omega) rb.1 (by omega)).2]
   have e : ((2 : Int) ^ k) = ((2 ^ k : Nat) : Int) := by push_cast; rfl
   have := Nat.or_lt_two_pow (x := (treeMask (List.getD t.Kids 0 JoinTree.zero) (k : Int)).toNat) (y := (treeMask (List.getD t.Kids 1 JoinTree.zero) (k : Int)).toNat) (n := k)
    (by omega) (by omega)
   omega

end Go.Proofs.Ytgbapklfgjnggaa


namespace Go.Proofs.Ytgbapklfgjnggaa
open Go Go.Am

theorem parts_all : ∀ m v : Fin 32, 1 ≤ v.val → v.val < m.val → bits .andNot .i64 (v.val : Int) (m.val : Int) = 0 → (v.val : Int) ∈ parts (m.val : Int) := by decide +kernel

theorem or_part : ∀ a b : Fin 32, a.val &&& b.val = 0 → 1 ≤ a.val → 1 ≤ b.val → bits .andNot .i64 (a.val : Int) (((a.val ||| b.val : Nat)) : Int) = 0 := by decide +kernel

theorem one_facts2 : ∀ i : Fin 5, parts ((1 : Int) * 2 ^ i.val) = [] := by decide +kernel

theorem single_zero2 {g : Graph} (hV : VG g) {i : Nat} (hi : i < g.Rows.length) : List.getD (bestCosts g).1 (Int.toNat ((1 : Int) * 2 ^ i)) 0 = 0 := by
 have h5 := hV.n5
 obtain ⟨hbl, _, hR, _⟩ := impl_best hV
 have hp := powf3 h5 hi
 have hG : gAll g + 1 = 1 * 2 ^ (List.length (Graph.Rows g)) := by unfold gAll; omega
 rw [hR.eq _ (by omega) (by omega)]
 unfold best
 rw [show ((Int.toNat ((1 : Int) * 2 ^ i) : Nat) : Int) = (1 : Int) * 2 ^ i by omega, one_facts2 ⟨i, by omega⟩]
 rfl

theorem kid_part {n : Int} (hn : n ≤ 5) {t : JoinTree} (h : Join2 t n) : treeMask (List.getD t.Kids 0 JoinTree.zero) n ∈ parts (treeMask t n) ∧ treeMask t n = treeMask (List.getD t.Kids 0 JoinTree.zero) n + treeMask (List.getD t.Kids 1 JoinTree.zero) n := by
 have p := pc_join hn h
 have ra := mask_range hn (List.getD t.Kids 0 JoinTree.zero)
 have rb := mask_range hn (List.getD t.Kids 1 JoinTree.zero)
 have rt := mask_range hn t
 have hand := h.apart
 have hmk := h.mask
 refine ⟨?_, p.1⟩
 generalize treeMask (List.getD t.Kids 0 JoinTree.zero) n = x at *
 generalize treeMask (List.getD t.Kids 1 JoinTree.zero) n = y at *
 generalize treeMask t n = m at *
 rw [(bits62 ra.1 (by omega) rb.1 (by omega)).1] at hand
 rw [(bits62 ra.1 (by omega) rb.1 (by omega)).2] at hmk
 have h1 := or_part ⟨x.toNat, by omega⟩ ⟨y.toNat, by omega⟩ (by show x.toNat &&& y.toNat = 0; omega) (by show 1 ≤ x.toNat; omega) (by show 1 ≤ y.toNat; omega)
 simp only at h1
 rw [← hmk, show ((x.toNat : Nat) : Int) = x by omega] at h1
 have := parts_all ⟨m.toNat, by omega⟩ ⟨x.toNat, by omega⟩ (by show 1 ≤ x.toNat; omega) (by show x.toNat < m.toNat; omega)
 simp only [show ((x.toNat : Nat) : Int) = x by omega, show ((m.toNat : Nat) : Int) = m by omega] at this
 exact this h1

theorem optimal {g : Graph} (hV : VG g) : ∀ (f : Nat) (t : JoinTree), SizeOf.sizeOf t < f → treeMask t (List.length g.Rows : Int) ≠ 0 → List.getD (bestCosts g).1 (Int.toNat (treeMask t (List.length g.Rows : Int))) 0 ≤ treeCost_r f g t := by
 have h5 := hV.n5
 obtain ⟨hbl, _, hR, _⟩ := impl_best hV
 have hG : gAll g + 1 = 1 * 2 ^ (List.length (Graph.Rows g)) := by unfold gAll; omega
 intro f
 induction f with
 | zero => intro t h; omega
 | succ f ih =>
  intro t hf hm
  have hlt := mask_lt h5 (SizeOf.sizeOf t + 1) t (Nat.lt_succ_self _) hm
  have hrg := mask_range (n := (List.length g.Rows : Int)) (by omega) t
  unfold treeCost_r
  by_cases h0 : t.Kids.length = 0
  ·
   rw [kids_beq0 h0, cond_true]
   obtain ⟨h1, h2⟩ := leaf_mask hm h0
   rw [h2, single_zero2 hV (i := t.Leaf.toNat) (by omega)]
   exact Int.le_refl _
  ·
   rw [kids_beq h0, cond_false, JoinTree.eta]
   have j := join2 h0 hm
   have k0 := kid_lt (t := t) (i := 0) (by omega)
   have k1 := kid_lt (t := t) (i := 1) (by have := j.two; omega)
   have a := ih _ (by omega) j.ne0
   have b := ih _ (by omega) j.ne1
   obtain ⟨hp, hsum⟩ := kid_part (n := (List.length g.Rows : Int)) (by omega) j
   have ra := mask_range (n := (List.length g.Rows : Int)) (by omega) (List.getD t.Kids 0 JoinTree.zero)
   have rb := mask_range (n := (List.length g.Rows : Int)) (by omega) (List.getD t.Kids 1 JoinTree.zero)
   generalize treeMask (List.getD t.Kids 0 JoinTree.zero) (List.length g.Rows : Int) = x at *
   generalize treeMask (List.getD t.Kids 1 JoinTree.zero) (List.length g.Rows : Int) = y at *
   generalize hmm : treeMask t (List.length g.Rows : Int) = m at *
   obtain ⟨k, rfl⟩ := Int.eq_ofNat_of_zero_le hrg.1
   have hsz := sSize_b hV (m := (k : Int)) (by omega) (by omega)
   rw [Int.toNat_natCast, hR.eq k (by omega) (by omega)]
   have hle := (mn_le (c := (bestCosts g).1) (mask := k) (parts (k : Int)) (-1, 0) (fun v _ => by
    have h1 := hR.nn v.toNat
    have h2 := hR.nn (k - v.toNat)
    unfold sumAt
    omega)).2.1 x hp
   have hs : sumAt (bestCosts g).1 k x = List.getD (bestCosts g).1 x.toNat 0 + List.getD (bestCosts g).1 y.toNat 0 := by
    unfold sumAt
    rw [show k - x.toNat = y.toNat by omega]
   have hx := hR.nn x.toNat
   have hy := hR.nn y.toNat
   unfold val best
   by_cases hneg : (mn (bestCosts g).1 k (parts (k : Int)) (-1, 0)).1 < 0
   ·
    rw [decide_eq_true hneg, cond_true]; omega
   ·
    rw [decide_eq_false hneg, cond_false]; omega

theorem pc_full : ∀ (n : Fin 6) (m : Fin 32), (m.val : Int) < (1 : Int) * 2 ^ n.val → pc m.val = n.val → (m.val : Int) = (1 : Int) * 2 ^ n.val - 1 := by decide +kernel

theorem best_cost {g : Graph} (hV : VG g) : (iBestTree g).2 = List.getD (bestCosts g).1 (Int.toNat (gAll g)) 0 := by
 unfold iBestTree
 rw [ValidGraph_iff.2 hV]
 rfl

end Go.Proofs.Ytgbapklfgjnggaa
