/-
  A part of the proof of this claim (AvJ): what functions of the program compute, and plain facts of that. No conditions.
-/
import Derived.Test.YtdcnkekcdncelaaDoorAv1
import Derived.Lib.AtoiTie
import Derived.Lib.ItoaMem
set_option linter.all false
namespace Go.Proofs.YtdcnkekcdncelaaDoor
open Go Go.Am
noncomputable section

theorem seq_iff {a b : ByteArray} : seq a b = true ↔ a = b := by
 unfold seq; rw [beq_iff_eq, ByteArray.toList_eq, ByteArray.toList_eq]; constructor
 · intro h; obtain ⟨a⟩ := a; obtain ⟨b⟩ := b; congr 1; exact Array.toList_inj.1 h
 · rintro rfl; rfl

theorem seq_false {a b : ByteArray} : seq a b = false ↔ a ≠ b := by
 rw [← Bool.not_eq_true, seq_iff]

theorem mk_append (a b : List UInt8) : (⟨a.toArray⟩ : ByteArray) ++ (⟨b.toArray⟩ : ByteArray) = ⟨(a ++ b).toArray⟩ := by
 apply seq_iff.1; unfold seq; rw [beq_iff_eq, ByteArray.toList_eq, ByteArray.toList_eq]; rw [ByteArray.data_append]; simp

theorem strOf_one (n : Nat) : strOf [48 + (n : Int)] = ⟨[UInt8.ofNat (48 + n)].toArray⟩ := by
 unfold strOf; rw [List.map_cons, List.map_nil, show (48 + (n : Int)).toNat = 48 + n by omega]

theorem formatInt_nonneg : ∀ (f : Nat) (n : Nat), n < f → formatInt_r f (n : Int) = ⟨(Lib.decDigits n).toArray⟩ := by
 intro f
 induction f with
 | zero => intro n h; omega
 | succ f ih =>
  intro n h; unfold formatInt_r; rw [decide_eq_false (by omega : ¬ (n : Int) < -9223372036854775807), cond_false, decide_eq_false (by omega : ¬ (n : Int) < 0), cond_false, Lib.decDigits]; by_cases h10 : n < 10
  · rw [decide_eq_true (by omega : (n : Int) < 10), cond_true, dif_pos h10, strOf_one]
  · rw [decide_eq_false (by omega : ¬ (n : Int) < 10), cond_false, dif_neg h10]; (have e1 : (n : Int) / 10 = ((n / 10 : Nat) : Int) := by omega); (have e2 : (n : Int) % 10 = ((n % 10 : Nat) : Int) := by omega); rw [e1, e2, ih (n / 10) (by omega), strOf_one, mk_append]

theorem formatInt_eq (n : Int) (h0 : -9223372036854775807 ≤ n) : formatInt n = itoaS n := by
 unfold formatInt itoaS; by_cases hn : 0 ≤ n
 · obtain ⟨u, rfl⟩ : ∃ u : Nat, n = (u : Int) := ⟨n.toNat, by omega⟩; rw [Lib.itoa_nonneg]; exact formatInt_nonneg _ u (by omega)
 · obtain ⟨u, rfl⟩ : ∃ u : Nat, n = -(u : Int) := ⟨n.natAbs, by omega⟩; rw [Lib.itoa_neg u (by omega)]; unfold formatInt_r; rw [decide_eq_false (by omega : ¬ -(u : Int) < -9223372036854775807), cond_false, decide_eq_true (by omega : -(u : Int) < 0), cond_true, Int.neg_neg, formatInt_nonneg _ u (by omega)]; exact mk_append [45] _

theorem decFrom_append (l : List UInt8) (b : UInt8) (d : Nat) (hb : Lib.digitVal b = some d) : ∀ (acc n : Nat), Lib.decFrom acc l = some n → Lib.decFrom acc (l ++ [b]) = some (n * 10 + d) := by
 induction l with
 | nil =>
  intro acc n h; simp only [Lib.decFrom, Option.some.injEq] at h; subst h; simp [Lib.decFrom, hb]
 | cons c l ih =>
  intro acc n h; simp only [Lib.decFrom, List.cons_append] at h ⊢
  cases hc : Lib.digitVal c with
  | none => rw [hc] at h; cases h
  | some e => rw [hc] at h; exact ih _ _ h

theorem digitVal_of {d : Nat} (h : d < 10) : Lib.digitVal (UInt8.ofNat (48 + d)) = some d := by
 unfold Lib.digitVal; (have : (UInt8.ofNat (48 + d)).toNat = 48 + d := by rw [UInt8.toNat_ofNat']; omega); rw [this, if_pos (by omega)]; congr 1; omega

theorem decFrom_digits (u : Nat) : Lib.decFrom 0 (Lib.decDigits u) = some u := by
 induction u using Nat.strongRecOn with
 | _ u ih =>
  rw [Lib.decDigits]; split
  · rename_i h; simp only [Lib.decFrom]; rw [digitVal_of h]; simp
  · rename_i h; rw [decFrom_append _ _ _ (digitVal_of (Nat.mod_lt _ (by decide))) 0 _ (ih (u / 10) (by omega))]; congr 1; omega

theorem decDigits_ne (u : Nat) : Lib.decDigits u ≠ [] := by
 rw [Lib.decDigits]; split <;> simp

theorem decNat_digits (u : Nat) : Lib.decNat (Lib.decDigits u) = some u := by
 unfold Lib.decNat; rw [decFrom_digits]; have := decDigits_ne u
 cases h : Lib.decDigits u with
 | nil => exact absurd h this
 | cons => rfl

theorem digit_head {u : Nat} {b : UInt8} {r : List UInt8} (h : Lib.decDigits u = b :: r) : 48 ≤ b.toNat ∧ b.toNat ≤ 57 := by
 have h1 := decFrom_digits u; rw [h] at h1; simp only [Lib.decFrom] at h1
 cases hd : Lib.digitVal b with
 | none => rw [hd] at h1; cases h1
 | some d =>
  unfold Lib.digitVal at hd; split at hd
  · assumption
  · cases hd

theorem atoi_itoa (n : Int) : Lib.atoi (Lib.itoa n) = some n := by
 by_cases hn : 0 ≤ n
 ·
  obtain ⟨u, rfl⟩ : ∃ u : Nat, n = (u : Int) := ⟨n.toNat, by omega⟩; rw [Lib.itoa_nonneg]
  cases h : Lib.decDigits u with
  | nil => exact absurd h (decDigits_ne u)
  | cons b r =>
   have hb := digit_head h
   have h45 : (b == 45) = false := by
    rw [beq_eq_false_iff_ne]; rintro rfl; exact absurd hb (by decide)
   have h43 : (b == 43) = false := by
    rw [beq_eq_false_iff_ne]; rintro rfl; exact absurd hb (by decide)
   simp only [Lib.atoi, h45, h43]; rw [← h, decNat_digits]; rfl
 · obtain ⟨u, rfl⟩ : ∃ u : Nat, n = -(u : Int) := ⟨n.natAbs, by omega⟩; rw [Lib.itoa_neg u (by omega)]; simp only [Lib.atoi, decNat_digits]; rfl

theorem itoa_len (n : Int) (h0 : -9999 ≤ n) (h1 : n ≤ 9999) : (Lib.itoa n).length ≤ 5 := by
 unfold Lib.itoa; split
 · have := decDigits_len 3 n.natAbs (by omega); simp only [List.length_cons]; omega
 · have := decDigits_len 3 n.toNat (by omega); omega

theorem atoiAll_itoa (n : Int) (h0 : -9999 ≤ n) (h1 : n ≤ 9999) : Lib.atoiAll (itoaS n).data.toList = .ok n := by
 show Lib.atoiAll (Lib.itoa n) = .ok n; rw [Lib.atoiAll_short _ (by have := itoa_len n h0 h1; omega), atoi_itoa]; rfl

theorem atoiN_itoa (n : Int) (h0 : -9999 ≤ n) (h1 : n ≤ 9999) : atoiN (itoaS n) = n := by
 unfold atoiN; rw [atoiAll_itoa n h0 h1]

theorem atoiE_itoa (n : Int) (h0 : -9999 ≤ n) (h1 : n ≤ 9999) : atoiE (itoaS n) = false := by
 unfold atoiE; rw [atoiAll_itoa n h0 h1]

end
end Go.Proofs.YtdcnkekcdncelaaDoor
