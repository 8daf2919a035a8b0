/-
  An, part E: a range over a function.
-/
import Derived.Test.YtclennmbceaoeaaAnD
import Derived.RangeFuncSeq
import Derived.Sort.Grow
import Derived.Deep.Draws
set_option linter.all false
namespace Go.Am
variable [U : Univ]
attribute [local irreducible] OFF

section
variable {E : Ent} {N : Nat} {env : Nat → SV} {mem : Nat → Option Blk} {a : Act} {w : World} {β : Bind} {P : Program} {C : Ctx} {Q Q' : Exit → St → Prop} {st st' : St}

noncomputable def Ent.round (E : Ent) (a : Act) (L : Nat) : Ent := { E.within (fun s => slotV E a (s - OFF)) a.defers with ro := some L }

theorem Marks.drop {E' : Ent} {A : Nat → Prop} {ds : List Deferred} {L : Nat} {o o' : Obj} (h : Marks E A w ds) (hL : E.obj L = some o) (hE : ∀ b, b ≠ L → E'.obj b = E.obj b) (hE' : E'.obj L = none) (e0 : E'.w0 = E.w0) :
    Marks E' A (w.putObj L o') ds where
  each d hd := by
    obtain ⟨D, rfl, h2, h3, h4, h5⟩ := h.each d hd; (have hne : D ≠ L := by rintro rfl; rw [hL] at h4; cases h4); exact ⟨D, rfl, h2, by rw [e0]; exact h3, by rw [hE D hne]; exact h4, by rw [World.putObj_heap_other hne]; exact h5⟩
  nodup := h.nodup
  objs b x e := by
    by_cases hb : b = L
    · subst hb; rw [hE'] at e; cases e
    · rw [hE b hb] at e; obtain ⟨⟨k1, k2⟩, k3⟩ := h.objs b x e; exact ⟨⟨k1, by rw [e0]; exact k2⟩, by rw [World.putObj_heap_other hb]; exact k3⟩

def lowS : List (Nat × SV) → List (Nat × SV)
  | [] => []
  | (i, v) :: r => bif Nat.blt i OFF then (i, v) :: lowS r else lowS r

def St.round (st : St) (p : Nat) (v : SV) : St := ⟨(p, v) :: (lowS st.slots ++ shiftS st.slots), st.mem⟩

end
end Go.Am
