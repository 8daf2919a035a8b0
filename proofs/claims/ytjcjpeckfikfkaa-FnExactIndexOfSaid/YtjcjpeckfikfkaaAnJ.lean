/-
  An, part J: a range over a function whose values are data that lie in memory.
-/
import Derived.Test.YtjcjpeckfikfkaaAnE
set_option linter.all false
namespace Go.Am
variable [U : Univ]
attribute [local irreducible] OFF

section
variable {E : Ent} {N : Nat} {env : Nat → SV} {mem : Nat → Option Blk} {a : Act} {w : World} {β : Bind} {P : Program} {C : Ctx} {Q Q' : Exit → St → Prop} {st st' : St}

end
end Go.Am
