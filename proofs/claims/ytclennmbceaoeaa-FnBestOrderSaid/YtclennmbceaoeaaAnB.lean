/-
  An, part B: bits of numbers that are not negative.
-/
import Derived.Test.YtclennmbceaoeaaAmY
import Derived.Laws.BitsLemmas
set_option linter.all false
namespace Go.Am

theorem wraps62 (n : Int) (h₀ : 0 ≤ n) (h₁ : n < 2 ^ 62) : IntKind.i64.wrap n = n := by
  rw [IntKind.wrap_i64]; omega

theorem bits62 {a b : Int} (ha : 0 ≤ a) (ha' : a < 4611686018427387904) (hb : 0 ≤ b) (hb' : b < 4611686018427387904) :
    bits .and .i64 a b = ((a.toNat &&& b.toNat : Nat) : Int) ∧ bits .or .i64 a b = ((a.toNat ||| b.toNat : Nat) : Int) := by
  obtain ⟨n, rfl⟩ := Int.eq_ofNat_of_zero_le ha; obtain ⟨m, rfl⟩ := Int.eq_ofNat_of_zero_le hb; exact bits_nat .i64 62 (by decide) wraps62 n m (by omega) (by omega)

theorem pow_cast (n : Nat) : ((2 : Int) ^ n) = ((2 ^ n : Nat) : Int) := by push_cast; rfl

theorem bit_ne {m : Int} {i : Nat} (hm : 0 ≤ m) (hm' : m < 4611686018427387904) (hi : i ≤ 61) : (bits .and .i64 m ((1 : Int) * 2 ^ i) != 0) = ((m / 2 ^ i) % 2 == 1) := by
  obtain ⟨n, rfl⟩ := Int.eq_ofNat_of_zero_le hm; have h1 : 2 ^ i ≤ 2 ^ 61 := Nat.pow_le_pow_right (by decide) hi; (have h2 : (1 : Int) * 2 ^ i = ((2 ^ i : Nat) : Int) := by rw [Int.one_mul, pow_cast]); rw [h2, (bits62 hm hm' (Int.natCast_nonneg _) (by omega)).1, pow_cast]; simp only [Int.toNat_natCast]; rw [show ((n : Int) / ((2 ^ i : Nat) : Int)) % 2 = ((n / 2 ^ i % 2 : Nat) : Int) by omega]
  have hb : (n &&& 2 ^ i = 0) ↔ n.testBit i = false := by
    constructor
    · intro h; have := congrArg (fun x => x.testBit i) h
      simpa [Nat.testBit_and, Nat.testBit_two_pow] using this
    · intro h; apply Nat.eq_of_testBit_eq; intro j; rw [Nat.testBit_and, Nat.testBit_two_pow, Nat.zero_testBit]; by_cases e : i = j
      · subst e; rw [h]; rfl
      · simp [e]
  rw [Nat.testBit_eq_decide_div_mod_eq] at hb; by_cases h : n / 2 ^ i % 2 = 1
  · (have : ¬ n &&& 2 ^ i = 0 := by rw [hb]; simp [h]); rw [h]; simp only [bne_iff_ne, ne_eq, Bool.beq_eq_decide_eq] at *; simp; omega
  · have h2 : n &&& 2 ^ i = 0 := hb.2 (by simp [h]); (have h3 : n / 2 ^ i % 2 = 0 := by omega); rw [h2, h3]; rfl

end Go.Am
