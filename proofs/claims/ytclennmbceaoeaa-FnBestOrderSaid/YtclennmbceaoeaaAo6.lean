/-
  A part of the proof of this claim (Ao6): what functions of the program compute, and plain facts of that. No conditions.
-/
import Derived.Test.YtclennmbceaoeaaAoL
import Derived.Test.YtclennmbceaoeaaAnB
set_option linter.all false
namespace Go.Proofs.Ytclennmbceaoeaa
open Go Go.Am
noncomputable section

theorem gSize_b {g : Graph} (hV : VG g) (m : Int) : 1 ≤ gSize g m ∧ gSize g m ≤ 1000000000000000 := by
 have h0 : ∀ (k : Nat) (n : Int) (i : Nat), 1 ≤ n → n ≤ 1000 ^ i → i ≤ g.Rows.length → 1 ≤ gSize_l0 g m k n i ∧ gSize_l0 g m k n i ≤ 1000000000000000 := by
  intro k
  induction k with
  | zero =>
   intro n i h1 h2 h3; have := pow5 (i := i) (by have := hV.n5; omega); show 1 ≤ n ∧ n ≤ 1000000000000000; omega
  | succ k ih =>
   intro n i h1 h2 h3; unfold gSize_l0; by_cases hi : i < g.Rows.length
   ·
    rw [lt_dec hi, cond_true]; have hr := hV.rows _ (getD_mem g.Rows i 0 hi); have ht := times h1 h2 hr.1 hr.2
    cases (bits .and .i64 m ((1 : Int) * 2 ^ i) != 0) with
    | true => exact ih _ _ ht.1 ht.2 (by omega)
    | false => exact ih _ _ h1 (grow5 h2) (by omega)
   · rw [ge_dec hi, cond_false]; have := pow5 (i := i) (by have := hV.n5; omega); omega
 have h1 : ∀ (k : Nat) (n : Int) (i : Nat), 0 ≤ n → n ≤ 1000000000000000 → 0 ≤ gSize_l1 g m k n i ∧ gSize_l1 g m k n i ≤ 1000000000000000 := by
  intro k
  induction k with
  | zero => intro n i h1 h2; exact ⟨h1, h2⟩
  | succ k ih =>
   intro n i h1 h2; unfold gSize_l1; by_cases hi : i < g.Edges.length
   ·
    rw [lt_dec hi, cond_true]; have he := hV.edges _ (getD_mem g.Edges i Edge.zero hi); have hd := divs h1 he.2.2.2.1
    cases (bif ((bits .and .i64 m ((1 : Int) * 2 ^ (Int.toNat (Edge.A (List.getD (Graph.Edges g) i Edge.zero))))) != 0) then ((bits .and .i64 m ((1 : Int) * 2 ^ (Int.toNat (Edge.B (List.getD (Graph.Edges g) i Edge.zero))))) != 0) else false) with
    | true => exact ih _ _ hd.1 (by omega)
    | false => exact ih _ _ h1 h2
   · rw [ge_dec hi, cond_false]; exact ⟨h1, h2⟩
 have a := h0 (g.Rows.length - 0 + 1) 1 0 (by decide) (by decide) (by omega); have b := h1 (g.Edges.length - 0 + 1) _ 0 (show 0 ≤ gSize_l0 g m (g.Rows.length - 0 + 1) 1 0 by omega) a.2; simp only [gSize, Go.Am.andThen]; split <;> omega

end
end Go.Proofs.Ytclennmbceaoeaa


namespace Go.Proofs.Ytclennmbceaoeaa
open Go Go.Am
noncomputable section

theorem lt32 {a : Int} (h : 0 ≤ a) (h5 : a < 5) : (1 : Int) ≤ 1 * 2 ^ a.toNat ∧ (1 : Int) * 2 ^ a.toNat < 32 := by
 obtain ⟨n, rfl⟩ := Int.eq_ofNat_of_zero_le h; simp only [Int.toNat_natCast]; have : n < 5 := by omega
 match n, this with
 | 0, _ | 1, _ | 2, _ | 3, _ | 4, _ => decide

theorem or32 {a b : Int} (ha : 0 ≤ a) (ha' : a < 32) (hb : 0 ≤ b) (hb' : b < 32) : a ≤ bits .or .i64 a b ∧ b ≤ bits .or .i64 a b ∧ bits .or .i64 a b < 32 := by
 rw [(bits62 ha (by omega) hb (by omega)).2]; have h1 : a.toNat ≤ a.toNat ||| b.toNat := Nat.left_le_or; have h2 : b.toNat ≤ a.toNat ||| b.toNat := Nat.right_le_or; have h3 : a.toNat ||| b.toNat < 2 ^ 5 := Nat.or_lt_two_pow (by omega) (by omega); omega

end
end Go.Proofs.Ytclennmbceaoeaa


namespace Go.Proofs.Ytclennmbceaoeaa
open Go Go.Am
noncomputable section

def pc (x : Nat) : Nat := x % 2 + x / 2 % 2 + x / 4 % 2 + x / 8 % 2 + x / 16 % 2

theorem pc_one : ∀ a : Fin 32, (a.val ≠ 0 → 1 ≤ pc a.val) ∧ pc a.val ≤ 5 := by decide +kernel


theorem sSize_b {g : Graph} (hV : VG g) {m : Int} (hm : 0 ≤ m) (hm' : m < 32) : 1 ≤ subsetSize g m ∧ subsetSize g m ≤ 1000000000000000 := by
 rw [← size_eq hV hm (by omega)]; exact gSize_b hV m

end
end Go.Proofs.Ytclennmbceaoeaa
