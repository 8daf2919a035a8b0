/-
  An, part M: a new variable that nobody writes into: what it holds is data.
-/
import Derived.Test.YtodcdgolcbdkgaaAnI
import Derived.Test.YtodcdgolcbdkgaaAnJ
import Derived.Shelf.SlSortCmp.NoneTotal
set_option linter.all false
namespace Go.Am
open List
open Go.Sort Go.Proofs
variable [U : Univ]
attribute [local irreducible] OFF

section
variable {P : Program} {ρ : Go.Shelf.Ren}

structure Sortable {α : Type} (cf : α → α → Int) (ok : α → Prop) : Prop where
  irr : ∀ x, ok x → ¬ cf x x < 0
  tr : ∀ x y z, ok x → ok y → ok z → cf x y < 0 → cf y z < 0 → cf x z < 0
  ntr : ∀ x y z, ok x → ok y → ok z → ¬ cf x y < 0 → ¬ cf y z < 0 → ¬ cf x z < 0
  anti : ∀ x y, ok x → ok y → ¬ cf x y < 0 → ¬ cf y x < 0 → x = y

end
end Go.Am


namespace Go.Am
open List
variable [U : Univ]
attribute [local irreducible] OFF

section
variable {E : Ent} {N : Nat} {P : Program} {ops : Array Oper} {Q : Exit → St → Prop} {st : St} {a : Act} {w : World} {β : Bind} {env : Nat → SV} {mem : Nat → Option Blk}

theorem RepV.cells_rep {A : Nat → Prop} {w : World} {t : Ty} {x : t.den} {v : Value} (h : RepV A w t x v) : RepC A w t x v.cells.toList := by
  cases h with
  | agg n x cs h => simpa [Value.cells] using h
  | one t x v ht h =>
    have h1 := h.one v (mem_singleton.2 rfl)
    have : v.cells = #[v] := by
      cases v <;> first | rfl | simp [Value.oneCell'] at h1
    rw [this]; exact h

end
end Go.Am
