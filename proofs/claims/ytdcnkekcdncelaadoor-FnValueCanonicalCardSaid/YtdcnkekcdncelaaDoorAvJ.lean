/-
  A part of the proof of this claim (AvJ): what functions of the program compute, and plain facts of that. No conditions.
-/
import Derived.Test.YtdcnkekcdncelaaDoorAv1
import Derived.Lib.AtoiTie
import Derived.Lib.ItoaMem
set_option linter.all false
namespace Go.Proofs.YtdcnkekcdncelaaDoor
open Go Go.Am
noncomputable section

theorem seq_iff {a b : ByteArray} : seq a b = true ↔ a = b := by
 unfold seq; rw [beq_iff_eq, ByteArray.toList_eq, ByteArray.toList_eq]; constructor
 · intro h; obtain ⟨a⟩ := a; obtain ⟨b⟩ := b; congr 1; exact Array.toList_inj.1 h
 · rintro rfl; rfl

theorem seq_false {a b : ByteArray} : seq a b = false ↔ a ≠ b := by
 rw [← Bool.not_eq_true, seq_iff]

theorem mk_append (a b : List UInt8) : (⟨a.toArray⟩ : ByteArray) ++ (⟨b.toArray⟩ : ByteArray) = ⟨(a ++ b).toArray⟩ := by
 apply seq_iff.1; unfold seq; rw [beq_iff_eq, ByteArray.toList_eq, ByteArray.toList_eq]; rw [ByteArray.data_append]; simp

theorem strOf_one (n : Nat) : strOf [48 + (n : Int)] = ⟨[UInt8.ofNat (48 + n)].toArray⟩ := by
 unfold strOf; rw [List.map_cons, List.map_nil, show (48 + (n : Int)).toNat = 48 + n by omega]

theorem formatInt_nonneg : ∀ (f : Nat) (n : Nat), n < f → formatInt_r f (n : Int) = ⟨(Lib.decDigits n).toArray⟩ := by
 intro f
 induction f with
 | zero => intro n h; omega
 | succ f ih =>
  intro n h; unfold formatInt_r; rw [decide_eq_false (by omega : ¬ (n : Int) < -9223372036854775807), cond_false, decide_eq_false (by omega : ¬ (n : Int) < 0), cond_false, Lib.decDigits]; by_cases h10 : n < 10
  · rw [decide_eq_true (by omega : (n : Int) < 10), cond_true, dif_pos h10, strOf_one]
  · rw [decide_eq_false (by omega : ¬ (n : Int) < 10), cond_false, dif_neg h10]; (have e1 : (n : Int) / 10 = ((n / 10 : Nat) : Int) := by omega); (have e2 : (n : Int) % 10 = ((n % 10 : Nat) : Int) := by omega); rw [e1, e2, ih (n / 10) (by omega), strOf_one, mk_append]

theorem formatInt_eq (n : Int) (h0 : -9223372036854775807 ≤ n) : formatInt n = itoaS n := by
 unfold formatInt itoaS; by_cases hn : 0 ≤ n
 · obtain ⟨u, rfl⟩ : ∃ u : Nat, n = (u : Int) := ⟨n.toNat, by omega⟩; rw [Lib.itoa_nonneg]; exact formatInt_nonneg _ u (by omega)
 · obtain ⟨u, rfl⟩ : ∃ u : Nat, n = -(u : Int) := ⟨n.natAbs, by omega⟩; rw [Lib.itoa_neg u (by omega)]; unfold formatInt_r; rw [decide_eq_false (by omega : ¬ -(u : Int) < -9223372036854775807), cond_false, decide_eq_true (by omega : -(u : Int) < 0), cond_true, Int.neg_neg, formatInt_nonneg _ u (by omega)]; exact mk_append [45] _

theorem decFrom_append (l : List UInt8) (b : UInt8) (d : Nat) (hb : Lib.digitVal b = some d) : ∀ (acc n : Nat), Lib.decFrom acc l = some n → Lib.decFrom acc (l ++ [b]) = some (n * 10 + d) := by
 induction l with
 | nil =>
  intro acc n h; simp only [Lib.decFrom, Option.some.injEq] at h; subst h; simp [Lib.decFrom, hb]
 | cons c l ih =>
  intro acc n h; simp only [Lib.decFrom, List.cons_append] at h ⊢
  cases hc : Lib.digitVal c with
  | none => rw [hc] at h; cases h
  | some e => rw [hc] at h; exact ih _ _ h

theorem digitVal_of {d : Nat} (h : d < 10) : Lib.digitVal (UInt8.ofNat (48 + d)) = some d := by
 unfold Lib.digitVal; (have : (UInt8.ofNat (48 + d)).toNat = 48 + d := by rw [UInt8.toNat_ofNat']; omega); rw [this, if_pos (by omega)]; congr 1; omega

theorem decFrom_digits (u : Nat) : Lib.decFrom 0 (Lib.decDigits u) = some u := by
 induction u using Nat.strongRecOn with
 | _ u ih =>
  rw [Lib.decDigits]; split
  · rename_i h; simp only [Lib.decFrom]; rw [digitVal_of h]; simp
  · rename_i h; rw [decFrom_append _ _ _ (digitVal_of (Nat.mod_lt _ (by decide))) 0 _ (ih (u / 10) (by omega))]; congr 1; omega

theorem decDigits_ne (u : Nat) : Lib.decDigits u ≠ [] := by
 rw [Lib.decDigits]; split <;> simp

theorem decNat_digits (u : Nat) : Lib.decNat (Lib.decDigits u) = some u := by
 unfold Lib.decNat; rw [decFrom_digits]; have := decDigits_ne u
 cases h : Lib.decDigits u with
 | nil => exact absurd h this
 | cons => rfl

theorem digit_head {u : Nat} {b : UInt8} {r : List UInt8} (h : Lib.decDigits u = b :: r) : 48 ≤ b.toNat ∧ b.toNat ≤ 57 := by
 have h1 := decFrom_digits u; rw [h] at h1; simp only [Lib.decFrom] at h1
 cases hd : Lib.digitVal b with
 | none => rw [hd] at h1; cases h1
 | some d =>
  unfold Lib.digitVal at hd; split at hd
  · assumption
  · cases hd

theorem atoi_itoa (n : Int) : Lib.atoi (Lib.itoa n) = some n := by
 by_cases hn : 0 ≤ n
 ·
  obtain ⟨u, rfl⟩ : ∃ u : Nat, n = (u : Int) := ⟨n.toNat, by omega⟩; rw [Lib.itoa_nonneg]
  cases h : Lib.decDigits u with
  | nil => exact absurd h (decDigits_ne u)
  | cons b r =>
   have hb := digit_head h
   have h45 : (b == 45) = false := by
    rw [beq_eq_false_iff_ne]; rintro rfl; exact absurd hb (by decide)
   have h43 : (b == 43) = false := by
    rw [beq_eq_false_iff_ne]; rintro rfl; exact absurd hb (by decide)
   simp only [Lib.atoi, h45, h43]; rw [← h, decNat_digits]; rfl
 · obtain ⟨u, rfl⟩ : ∃ u : Nat, n = -(u : Int) := ⟨n.natAbs, by omega⟩; rw [Lib.itoa_neg u (by omega)]; simp only [Lib.atoi, decNat_digits]; rfl

theorem itoa_len (n : Int) (h0 : -9999 ≤ n) (h1 : n ≤ 9999) : (Lib.itoa n).length ≤ 5 := by
 unfold Lib.itoa; split
 · have := decDigits_len 3 n.natAbs (by omega); simp only [List.length_cons]; omega
 · have := decDigits_len 3 n.toNat (by omega); omega

theorem atoiAll_itoa (n : Int) (h0 : -9999 ≤ n) (h1 : n ≤ 9999) : Lib.atoiAll (itoaS n).data.toList = .ok n := by
 show Lib.atoiAll (Lib.itoa n) = .ok n; rw [Lib.atoiAll_short _ (by have := itoa_len n h0 h1; omega), atoi_itoa]; rfl

theorem atoiN_itoa (n : Int) (h0 : -9999 ≤ n) (h1 : n ≤ 9999) : atoiN (itoaS n) = n := by
 unfold atoiN; rw [atoiAll_itoa n h0 h1]

theorem atoiE_itoa (n : Int) (h0 : -9999 ≤ n) (h1 : n ≤ 9999) : atoiE (itoaS n) = false := by
 unfold atoiE; rw [atoiAll_itoa n h0 h1]

theorem parseInt_l0_eq (s : ByteArray) : ∀ (k : Nat) (n : Int) (i : Nat), parseInt_l0 s k n i = parseInt_l0a (ByteArray.extract s 1 (ByteArray.size s)) k n i := by
 intro k
 induction k with
 | zero => intro n i; rfl
 | succ k ih =>
  intro n i; unfold parseInt_l0 parseInt_l0a; rw [ih]

theorem sat_at {l : List UInt8} {i : Nat} (h : i < l.length) : sat ⟨l.toArray⟩ (i : Int) = (l[i].toNat : Int) := by
 unfold sat; rw [Int.toNat_natCast]; simp [h]

theorem parse_digits (l : List UInt8) (hl : l.length ≤ 9) : ∀ (k acc i v : Nat), l.length - i < k → i ≤ l.length → acc < 10 ^ i → Lib.decFrom acc (l.drop i) = some v →
  parseInt_l0a ⟨l.toArray⟩ k (acc : Int) i = (v : Int) := by
 intro k
 induction k with
 | zero => intro acc i v h; omega
 | succ k ih =>
  intro acc i v hk hi hacc hv; unfold parseInt_l0a; (have hsz : (ByteArray.size ⟨l.toArray⟩ : Nat) = l.length := by simp [ByteArray.size]); rw [hsz]; by_cases h : i < l.length
  ·
   rw [decide_eq_true (by omega : (i : Int) < (l.length : Int)), cond_true, decide_eq_true (by omega : (i : Int) < 9), cond_true, sat_at h]; rw [List.drop_eq_getElem_cons h] at hv; simp only [Lib.decFrom] at hv
   cases hd : Lib.digitVal l[i] with
   | none => rw [hd] at hv; cases hv
   | some d =>
    rw [hd] at hv
    have hd2 : 48 ≤ l[i].toNat ∧ l[i].toNat ≤ 57 ∧ d = l[i].toNat - 48 := by
     unfold Lib.digitVal at hd; split at hd
     · rename_i hc; exact ⟨hc.1, hc.2, (Option.some.inj hd).symm⟩
     · cases hd
    have hp : 10 ^ i ≤ 10 ^ 8 := Nat.pow_le_pow_right (by decide) (by omega); have hacc' : acc * 10 + d < 10 ^ (i + 1) := by rw [Nat.pow_succ]; omega
    rw [wrap_in (n := 10 * (acc : Int)) ⟨by simp only [IntKind.min, IntKind.bits, IntKind.signed]; omega, by simp only [IntKind.max, IntKind.bits, IntKind.signed]; omega⟩,
     wrap_in (n := 10 * (acc : Int) + _) ⟨by simp only [IntKind.min, IntKind.bits, IntKind.signed]; omega, by simp only [IntKind.max, IntKind.bits, IntKind.signed]; omega⟩,
     wrap_in (n := 10 * (acc : Int) + _ - 48) ⟨by simp only [IntKind.min, IntKind.bits, IntKind.signed]; omega, by simp only [IntKind.max, IntKind.bits, IntKind.signed]; omega⟩]
    (have e : 10 * (acc : Int) + (l[i].toNat : Int) - 48 = ((acc * 10 + d : Nat) : Int) := by omega); rw [e]; exact ih _ _ _ (by omega) (by omega) hacc' hv
  · rw [decide_eq_false (by omega : ¬ (i : Int) < (l.length : Int)), cond_false, cond_false]; rw [List.drop_eq_nil_of_le (by omega)] at hv; simp only [Lib.decFrom, Option.some.injEq] at hv; rw [hv]

theorem extract_tail (b : UInt8) (l : List UInt8) : ByteArray.extract ⟨(b :: l).toArray⟩ 1 (ByteArray.size ⟨(b :: l).toArray⟩) = ⟨l.toArray⟩ := by
 apply seq_iff.1; unfold seq; rw [beq_iff_eq, ByteArray.toList_eq, ByteArray.toList_mk]; simp [ByteArray.data_extract, ByteArray.size]

theorem parseInt_itoa (n : Int) (h0 : -9999 ≤ n) (h1 : n ≤ 9999) : parseInt (itoaS n) = n := by
 unfold parseInt itoaS; by_cases hn : 0 ≤ n
 ·
  obtain ⟨u, rfl⟩ : ∃ u : Nat, n = (u : Int) := ⟨n.toNat, by omega⟩; rw [Lib.itoa_nonneg]; have hlen := decDigits_len 3 u (by omega); have key := parse_digits (Lib.decDigits u) (by omega) (9 - 0 + 1) 0 0 u (by omega) (by omega) (by decide) (decFrom_digits u)
  cases h : Lib.decDigits u with
  | nil => exact absurd h (decDigits_ne u)
  | cons b r =>
   have hb := digit_head h; rw [h] at key; have hs : sat ⟨(b :: r).toArray⟩ 0 = (b.toNat : Int) := sat_at (l := b :: r) (i := 0) (by simp); (have hf : (sat ⟨(b :: r).toArray⟩ 0 == 45) = false := by rw [hs, beq_eq_false_iff_ne]; omega); rw [hf]; (have hc : (bif (decide (0 < ((ByteArray.size ⟨(b :: r).toArray⟩ : Nat) : Int))) then false else false) = false := by cases (decide (0 < ((ByteArray.size ⟨(b :: r).toArray⟩ : Nat) : Int))) <;> rfl); rw [hc, cond_false]; unfold andThen; rw [show parseInt_l0a ⟨(b :: r).toArray⟩ (9 - 0 + 1) 0 0 = (u : Int) from key]; simp only [Int.one_mul]; exact wrap_in ⟨by simp only [IntKind.min, IntKind.bits, IntKind.signed]; omega, by simp only [IntKind.max, IntKind.bits, IntKind.signed]; omega⟩
 · obtain ⟨u, rfl⟩ : ∃ u : Nat, n = -(u : Int) := ⟨n.natAbs, by omega⟩; rw [Lib.itoa_neg u (by omega)]; have hlen := decDigits_len 3 u (by omega); have key := parse_digits (Lib.decDigits u) (by omega) (9 - 0 + 1) 0 0 u (by omega) (by omega) (by decide) (decFrom_digits u); have hs : sat ⟨(45 :: Lib.decDigits u).toArray⟩ 0 = 45 := sat_at (l := 45 :: Lib.decDigits u) (i := 0) (by simp); (have hsz : (0 : Int) < ((ByteArray.size ⟨(45 :: Lib.decDigits u).toArray⟩ : Nat) : Int) := by simp [ByteArray.size]); rw [decide_eq_true hsz, cond_true, hs, show ((45 : Int) == 45) = true from rfl, cond_true]; unfold andThen; rw [parseInt_l0_eq, extract_tail, show parseInt_l0a ⟨(Lib.decDigits u).toArray⟩ (9 - 0 + 1) 0 0 = (u : Int) from key]; (have e : (-1) * (u : Int) = -(u : Int) := by omega); show IntKind.wrap .i64 ((-1) * (u : Int)) = -(u : Int); rw [e]; exact wrap_in (n := -(u : Int)) ⟨Int.le_trans (show IntKind.min .i64 ≤ -9999 by decide) (by omega), Int.le_trans (show -(u : Int) ≤ 0 by omega) (by decide)⟩

end
end Go.Proofs.YtdcnkekcdncelaaDoor
