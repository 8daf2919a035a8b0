/-
  A part of the proof of this claim (Ad4): what functions of the program compute, and plain facts of that. No conditions.
-/
import Derived.Test.YtmijmkbnmcmgcaaAdL
set_option linter.all false
namespace Go.Proofs.Ytmijmkbnmcmgcaa
open Go Go.Am
noncomputable section

def pickR (r : Rdr) (n : Int) : Int × Rdr := (bif (bif (decide (n < 1)) then true else (((List.length (Rdr.b r) : Nat) : Int) == 0)) then (0, (Rdr.mk (Rdr.b r) ((Rdr.p r) + 1))) else (bif (decide ((((Rdr.p r) + 1) - 1) < ((List.length (Rdr.b r) : Nat) : Int))) then (((List.getD (Rdr.b r) (Int.toNat (((Rdr.p r) + 1) - 1)) 0) % n), (Rdr.mk (Rdr.b r) ((Rdr.p r) + 1))) else (((bits .xor .i64 (((((List.getD (Rdr.b r) (Int.toNat ((((Rdr.p r) + 1) - 1) % ((List.length (Rdr.b r) : Nat) : Int))) 0) * 131) + ((List.getD (Rdr.b r) (Int.toNat ((((((Rdr.p r) + 1) - 1) * 7) + 3) % ((List.length (Rdr.b r) : Nat) : Int))) 0) * 1117)) + ((((Rdr.p r) + 1) - 1) * 29)) + (((((Rdr.p r) + 1) - 1) / ((List.length (Rdr.b r) : Nat) : Int)) * 53)) ((((((List.getD (Rdr.b r) (Int.toNat ((((Rdr.p r) + 1) - 1) % ((List.length (Rdr.b r) : Nat) : Int))) 0) * 131) + ((List.getD (Rdr.b r) (Int.toNat ((((((Rdr.p r) + 1) - 1) * 7) + 3) % ((List.length (Rdr.b r) : Nat) : Int))) 0) * 1117)) + ((((Rdr.p r) + 1) - 1) * 29)) + (((((Rdr.p r) + 1) - 1) / ((List.length (Rdr.b r) : Nat) : Int)) * 53)) / 64)) % n), (Rdr.mk (Rdr.b r) ((Rdr.p r) + 1)))))

def pick (b : List Int) (p n : Int) : Int := (pickR ⟨b, p⟩ n).1

def one (b : List Int) (p : Int) (l : List Int) : Int := List.getD l (Int.toNat (pick b p ((List.length l : Nat) : Int))) 0

end
end Go.Proofs.Ytmijmkbnmcmgcaa
