/-
  A part of the proof of this claim (AvH): what functions of the program compute, and plain facts of that. No conditions.
-/
import Derived.Test.YtdcnkekcdncelaaDoorAvT
import Derived.Lib.AtoiAll
import Derived.Lib.ItoaNum
set_option linter.all false
namespace Go.Proofs.YtdcnkekcdncelaaDoor
open Go Go.Am
noncomputable section

def itoaS (n : Int) : ByteArray := ⟨(Lib.itoa n).toArray⟩

def atoiN (s : ByteArray) : Int := match Lib.atoiAll s.data.toList with
 | .ok v => v
 | .range => Lib.atoiSat s.data.toList
 | _ => 0

def atoiE (s : ByteArray) : Bool := match Lib.atoiAll s.data.toList with
 | .ok _ => false
 | _ => true

def itoa_sp : FnSpec := mkSpec [.val (.int .i64)] [.val .str] (fun (_ : Int) => True) (fun (n : Int) => [⟨.str, itoaS n⟩])

def atoi_sp : FnSpec := mkSpec [.val .str] [.val (.int .i64), .err] (fun (s : ByteArray) => ((ByteArray.size s : Nat) : Int) ≤ 281474976710656) (fun (s : ByteArray) => [⟨.int .i64, atoiN s⟩, ⟨.bool, atoiE s⟩])

theorem sat64 (s : ByteArray) (i : Int) : -9223372036854775808 ≤ sat s i ∧ sat s i ≤ 9223372036854775807 := by
 have := sat_range s i; omega

theorem decDigits_len : ∀ (k n : Nat), n < 10 ^ (k + 1) → (Lib.decDigits n).length ≤ k + 1 := by
 intro k
 induction k with
 | zero =>
  intro n h; rw [Lib.decDigits, dif_pos (by simpa using h)]; simp
 | succ k ih =>
  intro n h; rw [Lib.decDigits]; split
  · simp
  · rw [List.length_append]; have := ih (n / 10) (by rw [Nat.pow_succ] at h; omega); simp only [List.length_cons, List.length_nil]; omega

theorem itoaS_size (n : Int) (h0 : -9223372036854775808 ≤ n) (h1 : n ≤ 9223372036854775807) : (itoaS n).size ≤ 20 := by
 show ((Lib.itoa n).toArray).size ≤ 20; rw [List.size_toArray]; unfold Lib.itoa; split
 · have := decDigits_len 18 n.natAbs (by omega); simp only [List.length_cons]; omega
 · have := decDigits_len 18 n.toNat (by omega); omega

theorem itoaS_small (n : Int) (h0 : -9223372036854775808 ≤ n) (h1 : n ≤ 9223372036854775807) : ((itoaS n).size : Int) ≤ lim := by
 have := itoaS_size n h0 h1; simp only [lim]; omega

end
end Go.Proofs.YtdcnkekcdncelaaDoor
