/-
  An, part E: a range over a function.
-/
import Derived.Test.YtjcjpeckfikfkaaAnD
import Derived.RangeFuncSeq
import Derived.Sort.Grow
import Derived.Deep.Draws
set_option linter.all false
namespace Go.Am
variable [U : Univ]
attribute [local irreducible] OFF

section
variable {E : Ent} {N : Nat} {env : Nat → SV} {mem : Nat → Option Blk} {a : Act} {w : World} {β : Bind} {P : Program} {C : Ctx} {Q Q' : Exit → St → Prop} {st st' : St}

theorem allow_alloc (h : SimB E N env mem a w β) (o : Obj) : ∀ b, allow E w β b → allow E (w.alloc o) β b ∧ (w.alloc o).heap[b]? = w.heap[b]? := by
  rintro b ⟨h1, h2, h3⟩; exact ⟨⟨by rw [World.size_alloc]; omega, h2, h3⟩, Go.RowKit.Below.heap_alloc w o b h1⟩

theorem SimB.allocObj (h : SimB E N env mem a w β) (o : Obj) : SimB E N env mem a (w.alloc o) β := by
  refine h.evolve rfl rfl ⟨rfl, Nat.le_refl _⟩ (by rw [World.size_alloc]; omega) (fun b hb _ => Go.RowKit.Below.heap_alloc w o b (Nat.lt_of_lt_of_le hb h.grow)) (allow_alloc h o)
    (fun i k hk => ⟨k, hk, Nat.le_refl _, fun _ => ⟨k.alike_refl, rfl⟩⟩) (fun i b D hb => ?_) h.inj
    (fun b i hb => by obtain ⟨o1, o2, o3⟩ := h.own b i hb; exact ⟨o1, by rw [World.size_alloc]; omega, o3⟩) (fun c i _ _ _ hc => ⟨hc, Go.RowKit.Below.heap_alloc w o c (h.own c i hc).2.1⟩) (fun i k hk => .inl ⟨hk, rfl, fun b D hb => Go.RowKit.Below.heap_alloc w o b (h.dom i b D hb).2.1⟩) (fun i c hc => ⟨c, hc, rfl⟩)
  obtain ⟨h1, h2, h3⟩ := h.dom i b D hb; exact ⟨h1, by rw [World.size_alloc]; omega, h3⟩

theorem new_allow (h : SimB E N env mem a w β) (o : Obj) : allow E (w.alloc o) β w.heap.size ∧ E.w0.heap.size ≤ w.heap.size := by
  refine ⟨⟨by rw [World.size_alloc]; omega, .inr h.grow, fun i D hb => ?_, ?_⟩, h.grow⟩
  · have := (h.dom i _ D hb).2.1; omega
  · cases ho : β.own w.heap.size with
    | none => rfl
    | some i =>
      have := (h.own _ i ho).2.1; omega

noncomputable def Ent.round (E : Ent) (a : Act) (L : Nat) : Ent := { E.within (fun s => slotV E a (s - OFF)) a.defers with ro := some L }

theorem Marks.drop {E' : Ent} {A : Nat → Prop} {ds : List Deferred} {L : Nat} {o o' : Obj} (h : Marks E A w ds) (hL : E.obj L = some o) (hE : ∀ b, b ≠ L → E'.obj b = E.obj b) (hE' : E'.obj L = none) (e0 : E'.w0 = E.w0) :
    Marks E' A (w.putObj L o') ds where
  each d hd := by
    obtain ⟨D, rfl, h2, h3, h4, h5⟩ := h.each d hd; (have hne : D ≠ L := by rintro rfl; rw [hL] at h4; cases h4); exact ⟨D, rfl, h2, by rw [e0]; exact h3, by rw [hE D hne]; exact h4, by rw [World.putObj_heap_other hne]; exact h5⟩
  nodup := h.nodup
  objs b x e := by
    by_cases hb : b = L
    · subst hb; rw [hE'] at e; cases e
    · rw [hE b hb] at e; obtain ⟨⟨k1, k2⟩, k3⟩ := h.objs b x e; exact ⟨⟨k1, by rw [e0]; exact k2⟩, by rw [World.putObj_heap_other hb]; exact k3⟩

def lowS : List (Nat × SV) → List (Nat × SV)
  | [] => []
  | (i, v) :: r => bif Nat.blt i OFF then (i, v) :: lowS r else lowS r

def St.round (st : St) (p : Nat) (v : SV) : St := ⟨(p, v) :: (lowS st.slots ++ shiftS st.slots), st.mem⟩

end
end Go.Am
