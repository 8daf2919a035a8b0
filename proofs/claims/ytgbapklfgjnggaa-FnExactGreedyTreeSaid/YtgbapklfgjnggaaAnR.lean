/-
  An, part R: trees: an empty slice is one; they are sorted.
-/
import Derived.Test.YtgbapklfgjnggaaAnK
set_option linter.all false
namespace Go.Am
variable [U : Univ]
section
variable {P : Program} {E : Ent} {N : Nat} {Q : Exit → St → Prop} {st : St} {c : Code}

theorem AW.adoptT (s id : Nat) (t : Ty) (hs : st.env s = .nilsl) (hm : st.memf id = none) (h : AW P E N c Q ⟨(s, .tr id 1) :: st.slots, (id, .tree 1 t []) :: st.mem⟩) : AW P E N c Q st := by
  rintro a w ⟨β, hw⟩; refine h a w ⟨β, ?_⟩
  have hβ : β id = none := by
    cases e : β id with
    | none => rfl
    | some x =>
      obtain ⟨b, D⟩ := x; obtain ⟨⟨k, hk, _⟩, _⟩ := hw.dom id b D e; rw [hm] at hk; cases hk
  have hmem : ∀ i, i ≠ id → (St.memf ⟨(s, .tr id 1) :: st.slots, (id, .tree 1 t []) :: st.mem⟩) i = st.memf i := by
    intro i hi; show lookM _ i = _; simp only [lookM]; (have : Nat.beq i id = false := by rw [Bool.eq_false_iff]; intro e; exact hi (Nat.eq_of_beq_eq_true e)); rw [this, cond_false]; rfl
  have hid : (St.memf ⟨(s, .tr id 1) :: st.slots, (id, .tree 1 t []) :: st.mem⟩) id = some (.tree 1 t []) := by
    show lookM _ id = _; simp only [lookM]; rw [show Nat.beq id id = true from Nat.beq_refl id, cond_true]
  have hmono : ∀ i k, st.memf i = some k → ∃ k', (St.memf ⟨(s, .tr id 1) :: st.slots, (id, .tree 1 t []) :: st.mem⟩) i = some k' ∧ k.ep ≤ k'.ep ∧ (k.ep = k'.ep → k.alike k' ∧ β i = β i) := by
    intro i k hk; (have hi : i ≠ id := by rintro rfl; rw [hm] at hk; cases hk); exact ⟨k, by rw [hmem i hi]; exact hk, Nat.le_refl _, fun _ => ⟨k.alike_refl, rfl⟩⟩
  exact {
    defers := hw.defers, size := hw.size, hN := hw.hN, os := hw.os, tape := hw.tape, output := hw.output, grow := hw.grow, old := hw.old, inj := hw.inj
    dom := by
      intro i b D e; obtain ⟨⟨k, hk, hb⟩, h2⟩ := hw.dom i b D e; (have hi : i ≠ id := by rintro rfl; rw [hm] at hk; cases hk); exact ⟨⟨k, by rw [hmem i hi]; exact hk, hb⟩, h2⟩
    own := by
      intro b i e; obtain ⟨⟨k, hk, ht⟩, h2⟩ := hw.own b i e; (have hi : i ≠ id := by rintro rfl; rw [hm] at hk; cases hk); exact ⟨⟨k, by rw [hmem i hi]; exact hk, ht⟩, h2⟩
    blk := by
      intro i k hk; by_cases hi : i = id
      · subst hi; rw [hid] at hk; obtain rfl := Option.some.inj hk; exact ⟨by simp, .inl ⟨hβ, rfl⟩⟩
      · rw [hmem i hi] at hk; exact (hw.blk i k hk).mono (fun b hb => ⟨hb, rfl⟩) hmono rfl (fun _ _ _ => rfl) (fun _ _ hc => ⟨hc, rfl⟩)
    slot := by
      intro i; by_cases hi : i = s
      · subst hi
        have h1 : St.env ⟨(i, .tr id 1) :: st.slots, (id, .tree 1 t []) :: st.mem⟩ i = .tr id 1 := by
          show lookS _ i = _; simp only [lookS]; rw [show Nat.beq i i = true from Nat.beq_refl i, cond_true]
        have h2 := hw.slot i; rw [hs] at h2; rw [h1]; generalize slotV E a i = v at h2; cases h2; refine .tr _ _ _ ⟨_, hid, Nat.le_refl _⟩ rfl fun u xs hx => ?_; rw [hid] at hx; replace hx := hx.at; simp only [Option.some.injEq, Blk.tree.injEq, true_and] at hx; obtain ⟨rfl, hx⟩ := hx; obtain rfl := eq_of_heq hx; rw [hβ]; exact ⟨rfl, rfl, rfl⟩
      · have h1 : St.env ⟨(s, .tr id 1) :: st.slots, (id, .tree 1 t []) :: st.mem⟩ i = st.env i := by
          show lookS _ i = _; simp only [lookS]; (have : Nat.beq i s = false := by rw [Bool.eq_false_iff]; intro e; exact hi (Nat.eq_of_beq_eq_true e)); rw [this, cond_false]; rfl
        rw [h1]; exact (hw.slot i).mono (fun b hb => ⟨hb, rfl⟩) hmono
    par := by
      intro i c hc; (have hi : i ≠ id := by rintro rfl; rw [hid] at hc; cases hc); rw [hmem i hi] at hc
      exact hw.par i c hc }


end
section
variable {E : Ent} {N : Nat} {P : Program} {c : Code} {Q : Exit → St → Prop} {st : St}

end
end Go.Am

namespace Go.Am
open Go.Sort Go.Proofs
variable [U : Univ]
attribute [local irreducible] OFF

structure SortTC (P : Program) (f g : FuncId) (t : Ty) (pre : List t.den → Prop) (srt : List t.den → List t.den) : Prop where
  fn : ∃ fn c, P.funcs[f]? = some fn ∧ (fn.name == "runtime.NumGoroutine") = false ∧ fn.body = some c
  len : ∀ xs, (srt xs).length = xs.length
  nilp : ∀ w, Calls P f #[.slice none 0 0, .func (.func g) #[] #[]] w fun e w' => e = .returned (.tuple #[]) ∧ w' = w
  row : ∀ (w : World) (b D : Nat) (cs : Array Value) (el : Nat) (xs : List t.den) (css : Nat → List Value) (T : Nat → Nat → Prop), (∀ k c, k < xs.length → T k c → c < w.heap.size ∧ c ≠ b) → (∀ j k c, j < xs.length → k < xs.length → T j c → T k c → j = k) →
    w.heap[b]? = some (.cells cs el (0, 0)) → cs.size = D * t.size → xs.length ≤ D →
    (∀ k (hk : k < xs.length), (css k).length = t.size ∧ (∀ (j : Nat) (v : Value), (css k)[j]? = some v → cs[k * t.size + j]? = some v) ∧ RepO w t xs[k] (css k) (T k)) →
    (xs.length : Int) ≤ 4294967296 → pre xs →
    Calls P f #[.slice (some ⟨b, 0, none⟩) xs.length D, .func (.func g) #[] #[]] w fun e w' => e = .returned (.tuple #[]) ∧ w'.os = w.os ∧ w'.tape = w.tape ∧ (w'.output = w.output ∧ U.dr w.drawn ≤ U.dr w'.drawn) ∧ w.heap.size ≤ w'.heap.size ∧
      (∀ c, c < w.heap.size → c ≠ b → w'.heap[c]? = w.heap[c]?) ∧ ∃ (cs' : Array Value) (css' : Nat → List Value) (T' : Nat → Nat → Prop), w'.heap[b]? = some (.cells cs' el (0, 0)) ∧ cs'.size = D * t.size ∧
        (∀ k c, k < xs.length → T' k c → ∃ j, j < xs.length ∧ T j c) ∧ (∀ j k c, j < xs.length → k < xs.length → T' j c → T' k c → j = k) ∧
        ∀ k (hk : k < (srt xs).length), (css' k).length = t.size ∧ (∀ (j : Nat) (v : Value), (css' k)[j]? = some v → cs'[k * t.size + j]? = some v) ∧ RepO w t (srt xs)[k] (css' k) (T' k)

section
variable {P : Program} {ρ : Go.Shelf.Ren}

end

section
variable {E : Ent} {N : Nat} {P : Program} {ops : Array Oper} {Q : Exit → St → Prop} {st : St} {a : Act} {w : World} {β : Bind} {env : Nat → SV} {mem : Nat → Option Blk}

end
end Go.Am

namespace Go.Am
variable [U : Univ]
section
variable {E : Ent} {N : Nat} {P : Program} {C : Ctx} {c : Code} {Q : Exit → St → Prop} {st : St}

theorem CtxOK.deepen (h : CtxOK P C) : CtxOK P { C with deep := true } := ⟨fun T t hT => { info := (h.ty T t hT).info, und := (h.ty T t hT).und, zc := (h.ty T t hT).zc, eqs := by have := (h.ty T t hT).eqs; cases t <;> exact this, arrs := fun B n e => ⟨((h.ty T t hT).arrs B n e).pos, ((h.ty T t hT).arrs B n e).und, ((h.ty T t hT).arrs B n e).zero⟩, ptrs := (h.ty T t hT).ptrs, ifcs := (h.ty T t hT).ifcs, maps := (h.ty T t hT).maps }, h.fn⟩

theorem AW.wf_tree {id ep : Nat} {t : Ty} {xs : List t.den} (hs : st.memf id = some (.tree ep t xs)) (h : (xs.length : Int) ≤ 4294967296 → (∀ x ∈ xs, Wf ⟨t, x⟩) → AW P E N c Q st) : AW P E N c Q st := by
  refine AW.fact ((xs.length : Int) ≤ 4294967296 ∧ ∀ x ∈ xs, Wf ⟨t, x⟩) ?_ (fun hp => h hp.1 hp.2); rintro a w ⟨β, hw⟩; obtain ⟨hl, ⟨_, rfl⟩ | ⟨b, D, cs, el, css, T, _, _, _, _, _, _, hel⟩⟩ := hw.blk _ _ hs
  · exact ⟨hl, by simp⟩
  · refine ⟨hl, fun x hx => ?_⟩; obtain ⟨k, hk, rfl⟩ := List.mem_iff_getElem.1 hx; exact ((hel k hk).2.2.repC (A := T k) fun _ h => h).wf

end
end Go.Am
