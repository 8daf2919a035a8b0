/-
  An, part W: elements are taken out of an array of the call's own.
-/
import Derived.Test.YtclennmbceaoeaaAnI
set_option linter.all false
namespace Go.Am
variable [U : Univ]
attribute [local irreducible] OFF

section
variable {E : Ent} {N : Nat} {P : Program} {ops : Array Oper} {Q : Exit → St → Prop} {st : St} {a : Act} {w : World} {β : Bind} {env : Nat → SV} {mem : Nat → Option Blk}

structure DelC (P : Program) (f : FuncId) (sz : Nat) : Prop where
  fn : ∃ fn c, P.funcs[f]? = some fn ∧ (fn.name == "runtime.NumGoroutine") = false ∧ fn.body = some c
  row : ∀ (w : World) (b D : Nat) (cs : Array Value) (el n i j : Nat), w.heap[b]? = some (.cells cs el (0, 0)) → cs.size = D * sz → n ≤ D → (n : Int) ≤ 4294967296 → i < j → j ≤ n →
    (∀ k, k < n * sz → ∃ v, cs[k]? = some v ∧ v.oneCell' = true) →
    Calls P f #[.slice (some ⟨b, 0, none⟩) n D, .int .i64 i, .int .i64 j] w fun e w' => e = .returned (.slice (some ⟨b, 0, none⟩) (n - (j - i)) D) ∧ w'.os = w.os ∧ w'.tape = w.tape ∧ (w'.output = w.output ∧ U.dr w.drawn ≤ U.dr w'.drawn) ∧ w.heap.size ≤ w'.heap.size ∧
      (∀ c, c < w.heap.size → c ≠ b → w'.heap[c]? = w.heap[c]?) ∧ ∃ cs' : Array Value, w'.heap[b]? = some (.cells cs' el (0, 0)) ∧ cs'.size = cs.size ∧
        ∀ k, k < (n - (j - i)) * sz → cs'[k]? = if k < i * sz then cs[k]? else cs[k + (j - i) * sz]?

end
end Go.Am
