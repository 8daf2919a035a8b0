/-
  A part of the proof of this claim (Ax4): what functions of the program compute, and plain facts of that. No conditions.
-/
import Derived.Test.YtgbapklfgjnggaaAx3
import Derived.Test.YtgbapklfgjnggaaAnB
import Derived.Test.YtgbapklfgjnggaaAnL
set_option linter.all false
namespace Go.Proofs.Ytgbapklfgjnggaa
open Go Go.Am

theorem has_bit {m : Int} {i : Nat} (hm : 0 ≤ m) (hm' : m < 4611686018427387904) (hi : i ≤ 61) : (bits .and .i64 m ((1 : Int) * 2 ^ i) != 0) = has m ((i : Nat) : Int) := by
 unfold has
 exact bit_ne hm hm' hi

theorem size_l0_eq {g : Graph} {m : Int} (hV : VG g) (hm : 0 ≤ m) (hm' : m < 4611686018427387904) : ∀ (k : Nat) (n : Int) (i : Nat), gSize_l0 g m k n i = subsetSize_l0 g m k n i := by
 intro k
 induction k with
 | zero => intro n i; rfl
 | succ k ih =>
  intro n i
  unfold gSize_l0 subsetSize_l0
  by_cases hi : i < g.Rows.length
  ·
   have := hV.n5
   rw [lt_dec hi, cond_true, cond_true, has_bit hm hm' (by omega), ih, ih]
  ·
   rw [ge_dec hi]
   rfl

theorem size_l1_eq {g : Graph} {m : Int} (hV : VG g) (hm : 0 ≤ m) (hm' : m < 4611686018427387904) : ∀ (k : Nat) (n : Int) (i : Nat), gSize_l1 g m k n i = subsetSize_l1 g m k n i := by
 intro k
 induction k with
 | zero => intro n i; rfl
 | succ k ih =>
  intro n i
  unfold gSize_l1 subsetSize_l1
  by_cases hi : i < g.Edges.length
  ·
   have h5 := hV.n5
   have he := hV.edges _ (getD_mem g.Edges i Edge.zero hi)
   have ha := has_bit (m := m) (i := Int.toNat (Edge.A (List.getD (Graph.Edges g) i Edge.zero))) hm hm' (by omega)
   have hb := has_bit (m := m) (i := Int.toNat (Edge.B (List.getD (Graph.Edges g) i Edge.zero))) hm hm' (by omega)
   rw [Int.toNat_of_nonneg (by omega)] at ha hb
   rw [lt_dec hi, cond_true, cond_true, ha, hb, ih, ih]
  ·
   rw [ge_dec hi]
   rfl

theorem size_eq {g : Graph} {m : Int} (hV : VG g) (hm : 0 ≤ m) (hm' : m < 4611686018427387904) : gSize g m = subsetSize g m := by
 unfold gSize subsetSize
 simp only [Go.Am.andThen, size_l0_eq hV hm hm', size_l1_eq hV hm hm']

end Go.Proofs.Ytgbapklfgjnggaa


namespace Go.Proofs.Ytgbapklfgjnggaa
open Go Go.Am
noncomputable section

theorem kid_lt {t : JoinTree} {i : Nat} (h : i < t.Kids.length) : SizeOf.sizeOf (t.Kids.getD i JoinTree.zero) < SizeOf.sizeOf t := by
 cases t with
 | mk l ks =>
  have := List.sizeOf_lt_of_mem (getD_mem ks i JoinTree.zero h)
  simp only [JoinTree.mk.sizeOf_spec, JoinTree.Kids] at *
  omega

def szJoinTree_l0 (self : JoinTree → Int → Int) (a : JoinTree) : Nat → Int → Nat → Int ⊕ Int
 | 0, left1, i => .inl left1
 | k + 1, left1, i => (bif (decide (((i : Nat) : Int) < ((List.length (JoinTree.Kids a) : Nat) : Int))) then (bif (decide ((self (List.getD (JoinTree.Kids a) i JoinTree.zero) left1) < 0)) then (.inr (-1)) else (szJoinTree_l0 self a k (self (List.getD (JoinTree.Kids a) i JoinTree.zero) left1) (i + 1))) else (.inl left1))

def szJoinTree_c0 (self : JoinTree → Int → Int) (a : JoinTree) (left : Int) : Int :=
 (bif (decide ((left - ((List.length (JoinTree.Kids a) : Nat) : Int)) < 0)) then (-1) else (Sum.elim (fun z => (fun (left1 : Int) => left1) z) (fun r => r) (szJoinTree_l0 self a ((List.length (JoinTree.Kids a)) - 0 + 1) (left - ((List.length (JoinTree.Kids a) : Nat) : Int)) 0)))

def szJoinTree_r : Nat → JoinTree → Int → Int
 | 0, a, left => 0
 | fuel + 1, a, left => (Go.Am.andThen (szJoinTree_c0 (szJoinTree_r fuel) a left) (fun z => (fun (v8 : Int) => (bif (decide (v8 < 0)) then (-1) else v8)) z))

def szJoinTree (a : JoinTree) (left : Int) : Int := szJoinTree_r (SizeOf.sizeOf a + 1) a left

def Fits (a : JoinTree) : Prop := ∃ f l, SizeOf.sizeOf a < f ∧ (0 ≤ l ∧ l ≤ 1048576) ∧ 0 ≤ szJoinTree_r f a l

theorem Fits.of {a : JoinTree} (h : ¬ szJoinTree a 1048576 < 0) : Fits a := ⟨SizeOf.sizeOf a + 1, 1048576, Nat.lt_succ_self _, by omega, by unfold szJoinTree at h; omega⟩

theorem gSize_b {g : Graph} (hV : VG g) (m : Int) : 1 ≤ gSize g m ∧ gSize g m ≤ 1000000000000000 := by
 have h0 : ∀ (k : Nat) (n : Int) (i : Nat), 1 ≤ n → n ≤ 1000 ^ i → i ≤ g.Rows.length → 1 ≤ gSize_l0 g m k n i ∧ gSize_l0 g m k n i ≤ 1000000000000000 := by
  intro k
  induction k with
  | zero =>
   intro n i h1 h2 h3
   have := pow5 (i := i) (by have := hV.n5; omega)
   show 1 ≤ n ∧ n ≤ 1000000000000000
   omega
  | succ k ih =>
   intro n i h1 h2 h3
   unfold gSize_l0
   by_cases hi : i < g.Rows.length
   ·
    rw [lt_dec hi, cond_true]
    have hr := hV.rows _ (getD_mem g.Rows i 0 hi)
    have ht := times h1 h2 hr.1 hr.2
    cases (bits .and .i64 m ((1 : Int) * 2 ^ i) != 0) with
    | true => exact ih _ _ ht.1 ht.2 (by omega)
    | false => exact ih _ _ h1 (grow5 h2) (by omega)
   ·
    rw [ge_dec hi, cond_false]
    have := pow5 (i := i) (by have := hV.n5; omega)
    omega
 have h1 : ∀ (k : Nat) (n : Int) (i : Nat), 0 ≤ n → n ≤ 1000000000000000 → 0 ≤ gSize_l1 g m k n i ∧ gSize_l1 g m k n i ≤ 1000000000000000 := by
  intro k
  induction k with
  | zero => intro n i h1 h2; exact ⟨h1, h2⟩
  | succ k ih =>
   intro n i h1 h2
   unfold gSize_l1
   by_cases hi : i < g.Edges.length
   ·
    rw [lt_dec hi, cond_true]
    have he := hV.edges _ (getD_mem g.Edges i Edge.zero hi)
    have hd := divs h1 he.2.2.2.1
    cases (bif ((bits .and .i64 m ((1 : Int) * 2 ^ (Int.toNat (Edge.A (List.getD (Graph.Edges g) i Edge.zero))))) != 0) then ((bits .and .i64 m ((1 : Int) * 2 ^ (Int.toNat (Edge.B (List.getD (Graph.Edges g) i Edge.zero))))) != 0) else false) with
    | true => exact ih _ _ hd.1 (by omega)
    | false => exact ih _ _ h1 h2
   ·
    rw [ge_dec hi, cond_false]
    exact ⟨h1, h2⟩
 have a := h0 (g.Rows.length - 0 + 1) 1 0 (by decide) (by decide) (by omega)
 have b := h1 (g.Edges.length - 0 + 1) _ 0 (show 0 ≤ gSize_l0 g m (g.Rows.length - 0 + 1) 1 0 by omega) a.2
 simp only [gSize, Go.Am.andThen]
 split <;> omega

end
end Go.Proofs.Ytgbapklfgjnggaa
