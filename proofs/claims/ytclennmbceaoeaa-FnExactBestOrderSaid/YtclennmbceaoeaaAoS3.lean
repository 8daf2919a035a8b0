/-
  A part of the proof of this claim (AoS3): what functions of the program compute, and plain facts of that. No conditions.
-/
import Derived.Test.YtclennmbceaoeaaAoS1
set_option linter.all false
namespace Go.Proofs.Ytclennmbceaoeaa
open Go Go.Am
noncomputable section

theorem orderCost_l0_b {g : Graph} (hV : VG g) {l : List Int} (h : RL g.Rows.length l) : ∀ (k : Nat) (m c : Int) (i : Nat), 0 ≤ m ∧ m < 32 → 0 ≤ c → i ≤ l.length → 0 ≤ orderCost_l0 g l k m c i ∧ orderCost_l0 g l k m c i ≤ c + 1000000000000000 * ((l.length - i : Nat) : Int) := by
 intro k
 induction k with
 | zero => intro m c i _ hc _; exact ⟨hc, by show c ≤ _; omega⟩
 | succ k ih =>
  intro m c i hm hc hi; unfold orderCost_l0; by_cases hlt : i < l.length
  ·
   rw [lt_dec hlt, cond_true]; obtain ⟨a, b⟩ := oc_step hV h hlt hm
   cases decide ((0 : Int) < ((i : Nat) : Int)) with
   | true =>
    have := ih _ (c + subsetSize g (bits .or .i64 m ((1 : Int) * 2 ^ Int.toNat (List.getD l i 0)))) (i + 1) a (by omega) hlt; rw [cond_true]; omega
   | false =>
    have := ih _ c (i + 1) a hc hlt; rw [cond_false]; omega
  · rw [ge_dec hlt, cond_false]; exact ⟨hc, by omega⟩

theorem orderCost_b {g : Graph} (hV : VG g) {l : List Int} (h : RL g.Rows.length l) (h5 : l.length ≤ 5) : 0 ≤ orderCost g l ∧ orderCost g l ≤ 5000000000000000 := by
 have := orderCost_l0_b hV h (l.length - 0 + 1) 0 0 0 (by decide) (by decide) (Nat.zero_le _); show 0 ≤ orderCost_l0 g l (l.length - 0 + 1) 0 0 0 ∧ orderCost_l0 g l (l.length - 0 + 1) 0 0 0 ≤ _; omega

theorem or_sub : ∀ (m : Fin 32) (i : Fin 5), has (m.val : Int) ((i.val : Nat) : Int) = false → bits .or .i64 (m.val : Int) ((1 : Int) * 2 ^ i.val) - (1 : Int) * 2 ^ i.val = (m.val : Int) := by decide +kernel

structure LV (n d : Nat) (l : List Int) (u c : Int) : Prop where
 rl : RL n l
 len : l.length = d
 u : 0 ≤ u ∧ u < 32
 c : -1 ≤ c ∧ c ≤ 5000000000000000

theorem LV.zero (n : Nat) : LV n 0 [] 0 (-1) := ⟨fun i h => absurd h (Nat.not_lt_zero _), rfl, by decide, by decide⟩

theorem RL.snoc {n : Nat} {l : List Int} (h : RL n l) {i : Nat} (hi : i < n) : RL n (l ++ ([((i : Nat) : Int)] : List Int)) := by
 intro j hj; rw [List.length_append] at hj; by_cases hlt : j < l.length
 · rw [List.getD_eq_getElem?_getD, List.getElem?_append_left hlt, ← List.getD_eq_getElem?_getD]; exact h j hlt
 ·
  have : j = l.length := by simp only [List.length_cons, List.length_nil] at hj; omega
  subst this
  rw [List.getD_eq_getElem?_getD, List.getElem?_append_right (Nat.le_refl _)]; simp only [Nat.sub_self, List.getElem?_cons_zero, Option.getD_some]; omega

theorem bit_b {u : Int} (hu : 0 ≤ u ∧ u < 32) {n i : Nat} (hn : n ≤ 5) (hi : i < n) : (1 ≤ (1 : Int) * 2 ^ i ∧ (1 : Int) * 2 ^ i ≤ 16) ∧ 0 ≤ bits .or .i64 u ((1 : Int) * 2 ^ i) ∧ bits .or .i64 u ((1 : Int) * 2 ^ i) < 32 := by
 have b := p16 ⟨i, by omega⟩; simp only at b; have := or32 hu.1 hu.2 (b := (1 : Int) * 2 ^ i) (by omega) (by omega); exact ⟨b, by omega⟩

theorem LV.next {n d : Nat} {l : List Int} {u c : Int} (h : LV n d l u c) (hn : n ≤ 5) {i : Nat} (hi : i < n) : LV n (d + 1) (l ++ ([((i : Nat) : Int)] : List Int)) (bits .or .i64 u ((1 : Int) * 2 ^ i)) c :=
 ⟨h.rl.snoc hi, by rw [List.length_append, h.len]; rfl, (bit_b h.u hn hi).2, h.c⟩

theorem LV.back {n d : Nat} {l l' L : List Int} {u u' U c c' : Int} (h : LV n d l u c) (hn : n ≤ 5) {i : Nat} (hi : i < n) (hh : has u ((i : Nat) : Int) = false) (hl : l' = l ++ ([((i : Nat) : Int)] : List Int)) (hu : u' = bits .or .i64 u ((1 : Int) * 2 ^ i))
  (hc : -1 ≤ c' ∧ c' ≤ 5000000000000000) (he : l = L ∧ u = U) : LV n d (List.take (Int.toNat (((List.length l' : Nat) : Int) - 1)) l') (u' - (1 : Int) * 2 ^ i) c' ∧ (List.take (Int.toNat (((List.length l' : Nat) : Int) - 1)) l' = L ∧ u' - (1 : Int) * 2 ^ i = U) := by
 have e1 : List.take (Int.toNat (((List.length l' : Nat) : Int) - 1)) l' = l := by
  rw [hl, List.length_append, show Int.toNat (((l.length + ([((i : Nat) : Int)] : List Int).length : Nat) : Int) - 1) = l.length by simp only [List.length_cons, List.length_nil]; omega, List.take_left']; rfl
 have e2 : u' - (1 : Int) * 2 ^ i = u := by
  have h1 := h.u; have := or_sub ⟨u.toNat, by omega⟩ ⟨i, by omega⟩
  simp only [Int.toNat_of_nonneg h1.1] at this
  rw [hu]; exact this hh
 rw [e1, e2]; exact ⟨⟨h.rl, h.len, h.u, hc⟩, he⟩

end
end Go.Proofs.Ytclennmbceaoeaa
