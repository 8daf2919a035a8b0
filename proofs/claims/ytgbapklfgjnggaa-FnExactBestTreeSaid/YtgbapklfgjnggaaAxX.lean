/-
  A part of the proof of this claim (AxX): what functions of the program compute, and plain facts of that. No conditions.
-/
import Derived.Test.YtgbapklfgjnggaaAxV
import Derived.Test.YtgbapklfgjnggaaAx6
set_option linter.all false
namespace Go.Proofs.Ytgbapklfgjnggaa
open Go Go.Am
noncomputable section

theorem gn5 {g : Graph} (h : VG g) : 1 ≤ List.length g.Rows ∧ List.length g.Rows ≤ 5 := ⟨h.n1, h.n5⟩

structure FO (f : List Int) : Prop where
 le : f.length ≤ 32
 part : ∀ m : Nat, m < f.length → List.getD f m 0 = 0 ∨ Part m (List.getD f m 0)

theorem FO.at {f : List Int} (h : FO f) {m : Int} (h0 : 0 ≤ m) (hm : m < (f.length : Int)) (hz : List.getD f (Int.toNat m) 0 ≠ 0) :
  (1 ≤ List.getD f (Int.toNat m) 0 ∧ List.getD f (Int.toNat m) 0 < m) ∧ 1 ≤ bits .andNot .i64 m (List.getD f (Int.toNat m) 0) ∧ bits .andNot .i64 m (List.getD f (Int.toNat m) 0) < m := by
 have hl := h.le
 have hp := (h.part (Int.toNat m) (by omega)).resolve_left hz
 have hm' : ((Int.toNat m : Nat) : Int) = m := by omega
 have hp' : 1 ≤ List.getD f (Int.toNat m) 0 ∧ List.getD f (Int.toNat m) 0 < m ∧ bits .andNot .i64 (List.getD f (Int.toNat m) 0) m = 0 := by
  have := hp
  unfold Part at this
  rwa [hm'] at this
 have hr := part_rest (m := m) (p := List.getD f (Int.toNat m) 0) (by omega) hp'
 have h1 := hp.1
 have h2 := hp.2.1
 omega

theorem sh_lt {m : Int} {l : Nat} (h : 1 < m / 2 ^ l) : m / 2 ^ (l + 1) < m / 2 ^ l := by
 rw [Int.pow_succ, ← Int.ediv_ediv_of_nonneg (by have := Int.pow_pos (n := 2) (m := l) (by decide); omega)]
 omega

theorem sh_b {m : Int} (h0 : 0 ≤ m) (h32 : m < 32) {l : Nat} (h : 1 < m / 2 ^ l) : l < 5 := by
 refine Nat.lt_of_not_le fun hl => ?_
 have h2 : 2 ^ 5 ≤ 2 ^ l := Nat.pow_le_pow_right (by decide) hl
 have h3 : ((2 : Int) ^ l) = ((2 ^ l : Nat) : Int) := by push_cast; rfl
 rw [Int.ediv_eq_zero_of_lt h0 (by omega)] at h
 omega

def treeOf_l0 (mask : Int) : Nat → Nat → Nat
 | 0, leaf => leaf
 | k + 1, leaf => (bif (decide (1 < (mask / 2 ^ leaf))) then (treeOf_l0 mask k (leaf + 1)) else leaf)

def treeOf_r : Nat → (List Int) → Int → JoinTree
 | 0, firsts, mask => JoinTree.zero
 | fuel + 1, firsts, mask => (bif ((List.getD firsts (Int.toNat mask) 0) == 0) then (Go.Am.andThen (treeOf_l0 mask (Int.toNat (mask / 2 ^ 0) + 1) 0) (fun z => (fun (leaf : Nat) => (JoinTree.mk ((leaf : Nat) : Int) ([] : List JoinTree))) z)) else (JoinTree.mk 0 ([((treeOf_r fuel) firsts (List.getD firsts (Int.toNat mask) 0)), ((treeOf_r fuel) firsts (bits .andNot .i64 mask (List.getD firsts (Int.toNat mask) 0)))] : List JoinTree)))

def treeOf (firsts : List Int) (mask : Int) : JoinTree := treeOf_r (Int.toNat mask + 1) firsts mask

end
end Go.Proofs.Ytgbapklfgjnggaa


namespace Go.Proofs.Ytgbapklfgjnggaa
open Go Go.Am
noncomputable section

def pickR (r : Rdr) (n : Int) : Int × Rdr := (bif (bif (decide (n < 1)) then true else (((List.length (Rdr.b r) : Nat) : Int) == 0)) then (0, (Rdr.mk (Rdr.b r) ((Rdr.p r) + 1))) else (bif (decide ((((Rdr.p r) + 1) - 1) < ((List.length (Rdr.b r) : Nat) : Int))) then (((List.getD (Rdr.b r) (Int.toNat (((Rdr.p r) + 1) - 1)) 0) % n), (Rdr.mk (Rdr.b r) ((Rdr.p r) + 1))) else (((bits .xor .i64 (((((List.getD (Rdr.b r) (Int.toNat ((((Rdr.p r) + 1) - 1) % ((List.length (Rdr.b r) : Nat) : Int))) 0) * 131) + ((List.getD (Rdr.b r) (Int.toNat ((((((Rdr.p r) + 1) - 1) * 7) + 3) % ((List.length (Rdr.b r) : Nat) : Int))) 0) * 1117)) + ((((Rdr.p r) + 1) - 1) * 29)) + (((((Rdr.p r) + 1) - 1) / ((List.length (Rdr.b r) : Nat) : Int)) * 53)) ((((((List.getD (Rdr.b r) (Int.toNat ((((Rdr.p r) + 1) - 1) % ((List.length (Rdr.b r) : Nat) : Int))) 0) * 131) + ((List.getD (Rdr.b r) (Int.toNat ((((((Rdr.p r) + 1) - 1) * 7) + 3) % ((List.length (Rdr.b r) : Nat) : Int))) 0) * 1117)) + ((((Rdr.p r) + 1) - 1) * 29)) + (((((Rdr.p r) + 1) - 1) / ((List.length (Rdr.b r) : Nat) : Int)) * 53)) / 64)) % n), (Rdr.mk (Rdr.b r) ((Rdr.p r) + 1)))))

def pick (b : List Int) (p n : Int) : Int := (pickR ⟨b, p⟩ n).1

def one (b : List Int) (p : Int) (l : List Int) : Int := List.getD l (Int.toNat (pick b p ((List.length l : Nat) : Int))) 0

end
end Go.Proofs.Ytgbapklfgjnggaa


namespace Go.Proofs.Ytgbapklfgjnggaa
open Go Go.Am
noncomputable section

theorem firsts_FO {g : Graph} (hV : VG g) : FO (bestCosts g).2 := ⟨(firsts_ok hV).1, (firsts_ok hV).2⟩

def iBestTree (g : Graph) : JoinTree × Int := (bif (!(ValidGraph g)) then ((JoinTree.mk 0 ([] : List JoinTree)), (-1)) else ((JoinTree.mk (JoinTree.Leaf (treeOf ((bestCosts g).2) (gAll g))) (JoinTree.Kids (treeOf ((bestCosts g).2) (gAll g)))), (List.getD ((bestCosts g).1) (Int.toNat (gAll g)) 0)))

theorem Right.cb {g : Graph} (hV : VG g) {c : List Int} {M : Nat} (hM : M ≤ 32) (h : Right g c M) : CB c := by
 intro m
 induction m using Nat.strongRecOn with
 | _ m ih =>
  refine ⟨h.nn m, ?_⟩
  by_cases h0 : m = 0
  ·
   subst h0; rw [h.zero]; decide
  ·
   by_cases hm : m < M
   ·
    rw [h.eq m (by omega) hm]
    have hs := (sSize_b hV (m := (m : Int)) (by omega) (by omega)).2
    have hb := mn_mem (c := c) (mask := m) (parts (m : Int)) (-1, 0)
    unfold val
    by_cases hn : (best c m).1 < 0
    ·
     rw [decide_eq_true hn, cond_true]; omega
    ·
     rw [decide_eq_false hn, cond_false]
     rcases hb with hb | ⟨hb1, hb2⟩
     ·
      exact absurd (by unfold best; rw [hb]; decide) hn
     ·
      have hp := parts_part hb1
      have hp1 := hp.1
      have hp2 := hp.2.1
      have e1 := (ih (Int.toNat (mn c m (parts (m : Int)) (-1, 0)).2) (by omega)).2
      have e2 := (ih (m - Int.toNat (mn c m (parts (m : Int)) (-1, 0)).2) (by omega)).2
      unfold sumAt at hb2
      unfold best
      omega
   ·
    rw [h.above m (by omega)]; omega

def Sm (l : List Int) (B : Int) : Prop := l.length ≤ 32 ∧ ∀ j : Nat, -B ≤ List.getD l j 0 ∧ List.getD l j 0 ≤ B

theorem Sm.set {l : List Int} {B : Int} (h : Sm l B) {i : Nat} {v : Int} (h0 : -B ≤ v) (h1 : v ≤ B) : Sm (List.set l i v) B := by
 refine ⟨by rw [List.length_set]; exact h.1, fun j => ?_⟩
 rw [List.getD_eq_getElem?_getD, List.getElem?_set]
 have := h.2 j
 rw [List.getD_eq_getElem?_getD] at this
 split
 ·
  split
  ·
   exact ⟨h0, h1⟩
  ·
   simp; omega
 ·
  exact this

theorem Sm.mono {l : List Int} {B C : Int} (h : Sm l B) (hB : B ≤ C) : Sm l C := ⟨h.1, fun j => by have := h.2 j; omega⟩

end
end Go.Proofs.Ytgbapklfgjnggaa
