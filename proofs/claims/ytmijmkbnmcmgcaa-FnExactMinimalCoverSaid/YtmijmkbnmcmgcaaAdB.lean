/-
  A part of the proof of this claim (AdB): what functions of the program compute, and plain facts of that. No conditions.
-/
import Derived.Test.YtmijmkbnmcmgcaaAdT
import Derived.Laws.BitsLemmas
set_option linter.all false
namespace Go.Proofs.Ytmijmkbnmcmgcaa
open Go Go.Am

theorem wraps_i64 (j : Nat) (hj : j ≤ 63) (n : Int) (h₀ : 0 ≤ n) (h₁ : n < 2 ^ j) : IntKind.i64.wrap n = n := by
 rw [IntKind.wrap_i64]
 have : (2 : Int) ^ j ≤ 2 ^ 63 := by
  have := Nat.pow_le_pow_right (show 0 < 2 by decide) hj
  exact_mod_cast this
 omega

theorem bits64 {a b : Int} (ha : 0 ≤ a) (ha' : a < 64) (hb : 0 ≤ b) (hb' : b < 64) :
  bits .and .i64 a b = ((a.toNat &&& b.toNat : Nat) : Int) ∧ bits .or .i64 a b = ((a.toNat ||| b.toNat : Nat) : Int) := by
 obtain ⟨n, rfl⟩ := Int.eq_ofNat_of_zero_le ha
 obtain ⟨m, rfl⟩ := Int.eq_ofNat_of_zero_le hb
 exact bits_nat .i64 6 (by decide) (wraps_i64 6 (by decide)) n m (by omega) (by omega)

theorem nat_or_sub {s t : Nat} (h : s ||| t = s) : t &&& s = t := by
 apply Nat.eq_of_testBit_eq
 intro i
 have := congrArg (fun x => x.testBit i) h
 simp only [Nat.testBit_or] at this
 rw [Nat.testBit_and]
 cases hs : s.testBit i <;> cases ht : t.testBit i <;> simp_all

theorem or64 {a b : Int} (ha : 0 ≤ a) (ha' : a < 64) (hb : 0 ≤ b) (hb' : b < 64) : a ≤ bits .or .i64 a b ∧ bits .or .i64 a b < 64 := by
 rw [(bits64 ha ha' hb hb').2]
 have h1 : a.toNat ≤ a.toNat ||| b.toNat := Nat.left_le_or
 have h2 : a.toNat ||| b.toNat < 2 ^ 6 := Nat.or_lt_two_pow (by omega) (by omega)
 omega

theorem or64More {a b : Int} (ha : 0 ≤ a) (ha' : a < 64) (hb : 0 ≤ b) (hb' : b < 64) (h : bits .and .i64 b a ≠ b) : a < bits .or .i64 a b := by
 have h1 := or64 ha ha' hb hb'
 have hne : a ≠ bits .or .i64 a b := by
  intro e
  apply h
  rw [(bits64 ha ha' hb hb').2] at e
  rw [(bits64 hb hb' ha ha').1]
  have : a.toNat ||| b.toNat = a.toNat := by omega
  rw [nat_or_sub this]
  omega
 omega

theorem wrap_toNat (v : BitVec 64) : IntKind.i64.wrap (v.toNat : Int) = v.toInt := by
 rw [IntKind.wrap_i64, BitVec.toInt_eq_toNat_cond]
 have := v.isLt
 split <;> omega

theorem ofInt_toInt {b : Int} (h1 : -9223372036854775808 ≤ b) (h2 : b ≤ 9223372036854775807) : (BitVec.ofInt 64 b).toInt = b := by
 rw [BitVec.toInt_ofInt]
 simp only [Int.bmod]
 omega

theorem andNot_zero {a b : Int} (h1 : -9223372036854775808 ≤ b) (h2 : b ≤ 9223372036854775807) : bits .andNot .i64 b a = 0 ↔ bits .and .i64 b a = b := by
 have e1 : bits .andNot .i64 b a = (BitVec.ofInt 64 b &&& ~~~ (BitVec.ofInt 64 a)).toInt := wrap_toNat _
 have e2 : bits .and .i64 b a = (BitVec.ofInt 64 b &&& BitVec.ofInt 64 a).toInt := wrap_toNat _
 rw [e1, e2]
 generalize hB : BitVec.ofInt 64 b = B
 have hb : B.toInt = b := by rw [← hB]; exact ofInt_toInt h1 h2
 generalize BitVec.ofInt 64 a = A
 rw [← hb]
 constructor
 ·
  intro h
  have h : B &&& ~~~A = 0#64 := BitVec.eq_of_toInt_eq (by rw [h]; rfl)
  congr 1
  apply BitVec.eq_of_getLsbD_eq
  intro i hi
  have := congrArg (fun x => x.getLsbD i) h
  simp only [BitVec.getLsbD_and, BitVec.getLsbD_not, hi, decide_true, Bool.true_and, BitVec.getLsbD_zero] at this
  rw [BitVec.getLsbD_and]
  revert this
  cases B.getLsbD i <;> cases A.getLsbD i <;> simp
 ·
  intro h
  have h := BitVec.eq_of_toInt_eq h
  have : B &&& ~~~A = 0#64 := by
   apply BitVec.eq_of_getLsbD_eq
   intro i hi
   have := congrArg (fun x => x.getLsbD i) h
   simp only [BitVec.getLsbD_and] at this
   simp only [BitVec.getLsbD_and, BitVec.getLsbD_not, hi, decide_true, Bool.true_and, BitVec.getLsbD_zero]
   revert this
   cases B.getLsbD i <;> cases A.getLsbD i <;> simp
  rw [this]; rfl

end Go.Proofs.Ytmijmkbnmcmgcaa
