/-
  An, part I: the library's SortFunc sorts an array of the call's own, by a function that has a contract.
-/
import Derived.Test.YtmijmkbnmcmgcaaAnH
import Derived.Shelf.SlSortCmp.Whole1
set_option linter.all false
namespace Go.Am
open Go.Sort Go.Proofs
variable [U : Univ]
attribute [local irreducible] OFF

section
variable {P : Program} {ρ : Go.Shelf.Ren}

def Elt (A : Nat → Prop) (w : World) (t : Ty) (ok : t.den → Prop) : Type := { p : Value × t.den // RepC A w t p.2 [p.1] ∧ ok p.2 }

def Elt.at {A : Nat → Prop} {w : World} {t : Ty} {ok : t.den → Prop} (e : Elt A w t ok) : Value × t.den := e.1

end
end Go.Am
