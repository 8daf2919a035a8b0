/-
  A part of the proof of this claim (Ax7): what functions of the program compute, and plain facts of that. No conditions.
-/
import Derived.Test.YtgbapklfgjnggaaAx6
set_option linter.all false
namespace Go.Proofs.Ytgbapklfgjnggaa
open Go Go.Am
open Go.Am.AW (seq r1U ret kpU cdE r0U r1 rS r0 d0U)
open List (length getD take)
noncomputable section

def pickR (r : Rdr) (n : Int) : Int × Rdr := (bif (bif (decide (n < 1)) then true else ((length (Rdr.b r) : Int) == 0)) then (0, (Rdr.mk (Rdr.b r) ((Rdr.p r) + 1))) else (bif (decide ((((Rdr.p r) + 1) - 1) < (length (Rdr.b r) : Int))) then (((getD (Rdr.b r) (Int.toNat (((Rdr.p r) + 1) - 1)) 0) % n), (Rdr.mk (Rdr.b r) ((Rdr.p r) + 1))) else (((bits .xor .i64 (((((getD (Rdr.b r) (Int.toNat ((((Rdr.p r) + 1) - 1) % (length (Rdr.b r) : Int))) 0) * 131) + ((getD (Rdr.b r) (Int.toNat ((((((Rdr.p r) + 1) - 1) * 7) + 3) % (length (Rdr.b r) : Int))) 0) * 1117)) + ((((Rdr.p r) + 1) - 1) * 29)) + (((((Rdr.p r) + 1) - 1) / (length (Rdr.b r) : Int)) * 53)) ((((((getD (Rdr.b r) (Int.toNat ((((Rdr.p r) + 1) - 1) % (length (Rdr.b r) : Int))) 0) * 131) + ((getD (Rdr.b r) (Int.toNat ((((((Rdr.p r) + 1) - 1) * 7) + 3) % (length (Rdr.b r) : Int))) 0) * 1117)) + ((((Rdr.p r) + 1) - 1) * 29)) + (((((Rdr.p r) + 1) - 1) / (length (Rdr.b r) : Int)) * 53)) / 64)) % n), (Rdr.mk (Rdr.b r) ((Rdr.p r) + 1)))))

def pick (b : List Int) (p n : Int) : Int := (pickR ⟨b, p⟩ n).1

def one (b : List Int) (p : Int) (l : List Int) : Int := getD l (Int.toNat (pick b p (length l : Int))) 0

end
end Go.Proofs.Ytgbapklfgjnggaa
