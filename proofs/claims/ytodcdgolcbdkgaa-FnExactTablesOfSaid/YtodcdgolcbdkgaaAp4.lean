/-
  A part of the proof of this claim (Ap4): what functions of the program compute, and plain facts of that. No conditions.
-/
import Derived.Test.YtodcdgolcbdkgaaAp3
set_option linter.all false
namespace Go.Proofs.Ytodcdgolcbdkgaa
open Go Go.Am
open Go.Am.AW (seq r1U ret kpU cdE r0U r1 rI block rS r0 kp)
noncomputable section

def inumber (n : Int) : Val := (Val.mk false n)

def inull : Val := (Val.mk true 0)

def numberOrNull (n : Int) : Val := (bif (valValid (inumber n)) then (inumber n) else inull)

def flag (holds : Bool) : Val := (bif holds then (inumber 1) else (inumber 0))

def truthOf (v : Val) : Int := (bif (Val.Null v) then 1 else (bif ((Val.N v) == 0) then 0 else 2))

def truthValue (t : Int) : Val := (bif (t == 1) then inull else (flag (t == 2)))

end
end Go.Proofs.Ytodcdgolcbdkgaa


namespace Go.Proofs.Ytodcdgolcbdkgaa
open Go Go.Am
open Go.Am.AW (seq r1U ret kpU cdE r0U r1 meet block rS bk exit lpB r0 kp d0U)
open List (length getD)
noncomputable section

def combined (kind : Int) (a : Val) (b : Val) : Val := (bif (kind == 8) then (truthValue (if (truthOf b) < (truthOf a) then (truthOf b) else (truthOf a))) else (bif (kind == 9) then (truthValue (if (truthOf b) > (truthOf a) then (truthOf b) else (truthOf a))) else (bif (bif (Val.Null a) then true else (Val.Null b)) then inull else (bif (kind == 3) then (numberOrNull ((Val.N a) + (Val.N b))) else (bif (kind == 4) then (numberOrNull ((Val.N a) - (Val.N b))) else (bif (kind == 5) then (numberOrNull ((Val.N a) * (Val.N b))) else (bif (kind == 6) then (flag ((Val.N a) == (Val.N b))) else (flag (decide ((Val.N a) < (Val.N b)))))))))))

end
end Go.Proofs.Ytodcdgolcbdkgaa
