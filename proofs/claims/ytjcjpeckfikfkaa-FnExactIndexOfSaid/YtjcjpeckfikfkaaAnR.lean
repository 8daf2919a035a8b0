/-
  An, part R: trees: an empty slice is one; they are sorted.
-/
import Derived.Test.YtjcjpeckfikfkaaAnM
set_option linter.all false
namespace Go.Am
variable [U : Univ]
section
variable {P : Program} {E : Ent} {N : Nat} {Q : Exit → St → Prop} {st : St} {c : Code}

end
section
variable {E : Ent} {N : Nat} {P : Program} {c : Code} {Q : Exit → St → Prop} {st : St}

end
end Go.Am

namespace Go.Am
open Go.Sort Go.Proofs
variable [U : Univ]
attribute [local irreducible] OFF

structure SortTC (P : Program) (f g : FuncId) (t : Ty) (pre : List t.den → Prop) (srt : List t.den → List t.den) : Prop where
  fn : ∃ fn c, P.funcs[f]? = some fn ∧ (fn.name == "runtime.NumGoroutine") = false ∧ fn.body = some c
  len : ∀ xs, (srt xs).length = xs.length
  nilp : ∀ w, Calls P f #[.slice none 0 0, .func (.func g) #[] #[]] w fun e w' => e = .returned (.tuple #[]) ∧ w' = w
  row : ∀ (w : World) (b D : Nat) (cs : Array Value) (el : Nat) (xs : List t.den) (css : Nat → List Value) (T : Nat → Nat → Prop), (∀ k c, k < xs.length → T k c → c < w.heap.size ∧ c ≠ b) → (∀ j k c, j < xs.length → k < xs.length → T j c → T k c → j = k) →
    w.heap[b]? = some (.cells cs el (0, 0)) → cs.size = D * t.size → xs.length ≤ D →
    (∀ k (hk : k < xs.length), (css k).length = t.size ∧ (∀ (j : Nat) (v : Value), (css k)[j]? = some v → cs[k * t.size + j]? = some v) ∧ RepO w t xs[k] (css k) (T k)) →
    (xs.length : Int) ≤ 4294967296 → pre xs →
    Calls P f #[.slice (some ⟨b, 0, none⟩) xs.length D, .func (.func g) #[] #[]] w fun e w' => e = .returned (.tuple #[]) ∧ w'.os = w.os ∧ w'.tape = w.tape ∧ (w'.output = w.output ∧ U.dr w.drawn ≤ U.dr w'.drawn) ∧ w.heap.size ≤ w'.heap.size ∧
      (∀ c, c < w.heap.size → c ≠ b → w'.heap[c]? = w.heap[c]?) ∧ ∃ (cs' : Array Value) (css' : Nat → List Value) (T' : Nat → Nat → Prop), w'.heap[b]? = some (.cells cs' el (0, 0)) ∧ cs'.size = D * t.size ∧
        (∀ k c, k < xs.length → T' k c → ∃ j, j < xs.length ∧ T j c) ∧ (∀ j k c, j < xs.length → k < xs.length → T' j c → T' k c → j = k) ∧
        ∀ k (hk : k < (srt xs).length), (css' k).length = t.size ∧ (∀ (j : Nat) (v : Value), (css' k)[j]? = some v → cs'[k * t.size + j]? = some v) ∧ RepO w t (srt xs)[k] (css' k) (T' k)

section
variable {P : Program} {ρ : Go.Shelf.Ren}

end

section
variable {E : Ent} {N : Nat} {P : Program} {ops : Array Oper} {Q : Exit → St → Prop} {st : St} {a : Act} {w : World} {β : Bind} {env : Nat → SV} {mem : Nat → Option Blk}

end
end Go.Am

namespace Go.Am
variable [U : Univ]
section
variable {E : Ent} {N : Nat} {P : Program} {C : Ctx} {c : Code} {Q : Exit → St → Prop} {st : St}

theorem CtxOK.deepen (h : CtxOK P C) : CtxOK P { C with deep := true } := ⟨fun T t hT => { info := (h.ty T t hT).info, und := (h.ty T t hT).und, zc := (h.ty T t hT).zc, eqs := by have := (h.ty T t hT).eqs; cases t <;> exact this, arrs := fun B n e => ⟨((h.ty T t hT).arrs B n e).pos, ((h.ty T t hT).arrs B n e).und, ((h.ty T t hT).arrs B n e).zero⟩, ptrs := (h.ty T t hT).ptrs, ifcs := (h.ty T t hT).ifcs, maps := (h.ty T t hT).maps }, h.fn⟩

theorem AW.wf_tree {id ep : Nat} {t : Ty} {xs : List t.den} (hs : st.memf id = some (.tree ep t xs)) (h : (xs.length : Int) ≤ 4294967296 → (∀ x ∈ xs, Wf ⟨t, x⟩) → AW P E N c Q st) : AW P E N c Q st := by
  refine AW.fact ((xs.length : Int) ≤ 4294967296 ∧ ∀ x ∈ xs, Wf ⟨t, x⟩) ?_ (fun hp => h hp.1 hp.2); rintro a w ⟨β, hw⟩; obtain ⟨hl, ⟨_, rfl⟩ | ⟨b, D, cs, el, css, T, _, _, _, _, _, _, hel⟩⟩ := hw.blk _ _ hs
  · exact ⟨hl, by simp⟩
  · refine ⟨hl, fun x hx => ?_⟩; obtain ⟨k, hk, rfl⟩ := List.mem_iff_getElem.1 hx; exact ((hel k hk).2.2.repC (A := T k) fun _ h => h).wf

end
end Go.Am
