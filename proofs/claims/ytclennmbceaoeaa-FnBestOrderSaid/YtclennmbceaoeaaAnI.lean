/-
  An, part I: the library's SortFunc sorts an array of the call's own, by a function that has a contract.
-/
import Derived.Test.YtclennmbceaoeaaAnG
import Derived.Shelf.SlSortCmp.Whole1
set_option linter.all false
namespace Go.Am
open List
variable [U : Univ]
attribute [local irreducible] OFF

section
variable {E : Ent} {N : Nat} {P : Program} {ops : Array Oper} {Q : Exit → St → Prop} {st : St} {a : Act} {w : World} {β : Bind} {env : Nat → SV} {mem : Nat → Option Blk}

structure SortC (P : Program) (f g : FuncId) (t : Ty) (pre : List t.den → Prop) (srt : List t.den → List t.den) : Prop where
  fn : ∃ fn c, P.funcs[f]? = some fn ∧ (fn.name == "runtime.NumGoroutine") = false ∧ fn.body = some c
  len : ∀ xs, (srt xs).length = xs.length
  nilp : ∀ w, Calls P f #[.slice none 0 0, .func (.func g) #[] #[]] w fun e w' => e = .returned (.tuple #[]) ∧ w' = w
  row : ∀ (A : Nat → Prop) (w : World) (b D : Nat) (cs : Array Value) (el : Nat) (xs : List t.den) (css : Nat → List Value), (∀ c, A c → c < w.heap.size ∧ c ≠ b) → w.heap[b]? = some (.cells cs el (0, 0)) →
    cs.size = D * t.size → xs.length ≤ D → (∀ k (hk : k < xs.length), (css k).length = t.size ∧ (∀ (j : Nat) (v : Value), (css k)[j]? = some v → cs[k * t.size + j]? = some v) ∧ RepC A w t xs[k] (css k)) →
    (xs.length : Int) ≤ 4294967296 → pre xs →
    Calls P f #[.slice (some ⟨b, 0, none⟩) xs.length D, .func (.func g) #[] #[]] w fun e w' => e = .returned (.tuple #[]) ∧ w'.os = w.os ∧ w'.tape = w.tape ∧ (w'.output = w.output ∧ U.dr w.drawn ≤ U.dr w'.drawn) ∧ w.heap.size ≤ w'.heap.size ∧
      (∀ c, c < w.heap.size → c ≠ b → w'.heap[c]? = w.heap[c]?) ∧ ∃ (cs' : Array Value) (css' : Nat → List Value), w'.heap[b]? = some (.cells cs' el (0, 0)) ∧ cs'.size = D * t.size ∧
        ∀ k (hk : k < (srt xs).length), (css' k).length = t.size ∧ (∀ (j : Nat) (v : Value), (css' k)[j]? = some v → cs'[k * t.size + j]? = some v) ∧ RepC A w t (srt xs)[k] (css' k)

end
end Go.Am


namespace Go.Am
open List
open Go.Sort Go.Proofs
variable [U : Univ]
attribute [local irreducible] OFF

section
variable {P : Program} {ρ : Go.Shelf.Ren}

def Elt (A : Nat → Prop) (w : World) (t : Ty) (ok : t.den → Prop) : Type := { p : Value × t.den // RepC A w t p.2 [p.1] ∧ ok p.2 }

def Elt.at {A : Nat → Prop} {w : World} {t : Ty} {ok : t.den → Prop} (e : Elt A w t ok) : Value × t.den := e.1

end
end Go.Am
