/-
  An, part I: the library's SortFunc sorts an array of the call's own, by a function that has a contract.
-/
import Derived.Test.YtjcjpeckfikfkaaAnG
import Derived.Shelf.SlSortCmp.Whole1
set_option linter.all false
namespace Go.Am
open List
variable [U : Univ]
attribute [local irreducible] OFF

section
variable {E : Ent} {N : Nat} {P : Program} {ops : Array Oper} {Q : Exit → St → Prop} {st : St} {a : Act} {w : World} {β : Bind} {env : Nat → SV} {mem : Nat → Option Blk}

theorem SimB.writeG (h : SimB E N env mem a w β) {w' : World} {id b D : Nat} {k0 k : Blk} (hk0 : mem id = some k0) (hb : β id = some (b, D))
    (hep : k0.ep ≤ k.ep) (hal : k0.ep = k.ep → k0.alike k) (hbox : k0.isBox = k.isBox)
    (hos : w'.os = w.os) (htape : w'.tape = w.tape) (hout : w'.output = w.output ∧ U.dr w.drawn ≤ U.dr w'.drawn) (hsize : w.heap.size ≤ w'.heap.size)
    (hheap : ∀ c, c < w.heap.size → c ≠ b → w'.heap[c]? = w.heap[c]?)
    (hblk : RepBlk (allow E w' β) w' β (setm mem id k) id k) (htr : k0.isTree = k.isTree := by rfl) :
    SimB E N env (setm mem id k) a w' β := by
  have hdb := h.dom id b D hb
  have hA : ∀ c, allow E w β c → allow E w' β c ∧ w'.heap[c]? = w.heap[c]? := by
    rintro c ⟨h1, h2, h3, h4⟩; refine ⟨⟨by omega, h2, h3, h4⟩, hheap c h1 ?_⟩; rintro rfl; exact h3 id D hb
  refine h.evolve hos htape hout hsize (fun c hc hn => hheap c (by have := h.grow; omega) ?_) hA ?_ ?_ h.inj ?_ ?_ ?_ ?_
  · rintro rfl; rcases hdb.2.2 with h1 | h1
    · exact hn h1
    · omega
  · intro i k1 hk1; by_cases hi : i = id
    · subst hi; rw [hk0] at hk1; obtain rfl := Option.some.inj hk1; exact ⟨k, setm_same _ _ _, hep, fun e => ⟨hal e, rfl⟩⟩
    · exact ⟨k1, by rw [setm_ne _ _ hi]; exact hk1, Nat.le_refl _, fun _ => ⟨k1.alike_refl, rfl⟩⟩
  · intro i c C hc; obtain ⟨⟨k1, hk1, hk2⟩, h2, h3⟩ := h.dom i c C hc; refine ⟨?_, by omega, h3⟩; by_cases hi : i = id
    · subst hi; rw [hk0] at hk1; obtain rfl := Option.some.inj hk1; exact ⟨k, setm_same _ _ _, fun hb => by rw [← hbox]; exact hk2 hb⟩
    · exact ⟨k1, by rw [setm_ne _ _ hi]; exact hk1, hk2⟩
  · intro c i hc; obtain ⟨⟨k1, hk1, ht⟩, h2, h3, h4⟩ := h.own c i hc; refine ⟨?_, by omega, h3, h4⟩; by_cases hi : i = id
    · subst hi; rw [hk0] at hk1; obtain rfl := Option.some.inj hk1; exact ⟨k, setm_same _ _ _, by rw [← htr]; exact ht⟩
    · exact ⟨k1, by rw [setm_ne _ _ hi]; exact hk1, ht⟩
  · intro c i _ _ _ hc; exact ⟨hc, hheap c (h.own c i hc).2.1 (fun e => (h.own c i hc).2.2.2 id D (by rw [e]; exact hb))⟩
  · intro i k' hk'; by_cases hi : i = id
    · subst hi; rw [setm_same] at hk'; obtain rfl := Option.some.inj hk'; exact .inr hblk
    · rw [setm_ne _ _ hi] at hk'; exact .inl ⟨hk', rfl, fun c C hc => hheap c (h.dom i c C hc).2.1 (fun e => hi (by subst e; exact h.inj i id c C D hc hb))⟩
  · intro i c hc; by_cases hi : i = id
    · subst hi; rw [setm_same] at hc; obtain rfl := Option.some.inj hc; simp only [Blk.ep, Nat.le_zero] at hep
      cases k0 with
      | box e c0 => simp only at hep; subst hep; exact ⟨c0, hk0, rfl⟩
      | arr => simp [Blk.isBox] at hbox
      | tree => simp [Blk.isBox] at hbox
      | dead => simp [Blk.isBox] at hbox
      | mp => simp [Blk.isBox] at hbox
      | hole => simp [Blk.isBox] at hbox
    · rw [setm_ne _ _ hi] at hc; exact ⟨c, hc, rfl⟩

structure SortC (P : Program) (f g : FuncId) (t : Ty) (pre : List t.den → Prop) (srt : List t.den → List t.den) : Prop where
  fn : ∃ fn c, P.funcs[f]? = some fn ∧ (fn.name == "runtime.NumGoroutine") = false ∧ fn.body = some c
  len : ∀ xs, (srt xs).length = xs.length
  nilp : ∀ w, Calls P f #[.slice none 0 0, .func (.func g) #[] #[]] w fun e w' => e = .returned (.tuple #[]) ∧ w' = w
  row : ∀ (A : Nat → Prop) (w : World) (b D : Nat) (cs : Array Value) (el : Nat) (xs : List t.den) (css : Nat → List Value), (∀ c, A c → c < w.heap.size ∧ c ≠ b) → w.heap[b]? = some (.cells cs el (0, 0)) →
    cs.size = D * t.size → xs.length ≤ D → (∀ k (hk : k < xs.length), (css k).length = t.size ∧ (∀ (j : Nat) (v : Value), (css k)[j]? = some v → cs[k * t.size + j]? = some v) ∧ RepC A w t xs[k] (css k)) →
    (xs.length : Int) ≤ 4294967296 → pre xs →
    Calls P f #[.slice (some ⟨b, 0, none⟩) xs.length D, .func (.func g) #[] #[]] w fun e w' => e = .returned (.tuple #[]) ∧ w'.os = w.os ∧ w'.tape = w.tape ∧ (w'.output = w.output ∧ U.dr w.drawn ≤ U.dr w'.drawn) ∧ w.heap.size ≤ w'.heap.size ∧
      (∀ c, c < w.heap.size → c ≠ b → w'.heap[c]? = w.heap[c]?) ∧ ∃ (cs' : Array Value) (css' : Nat → List Value), w'.heap[b]? = some (.cells cs' el (0, 0)) ∧ cs'.size = D * t.size ∧
        ∀ k (hk : k < (srt xs).length), (css' k).length = t.size ∧ (∀ (j : Nat) (v : Value), (css' k)[j]? = some v → cs'[k * t.size + j]? = some v) ∧ RepC A w t (srt xs)[k] (css' k)

end
end Go.Am


namespace Go.Am
open List
open Go.Sort Go.Proofs
variable [U : Univ]
attribute [local irreducible] OFF

section
variable {P : Program} {ρ : Go.Shelf.Ren}

omit U in
theorem world_grow {w w' : World} (h1 : w'.os = w.os) (h2 : w'.tape = w.tape) (h3 : w'.output = w.output) (h4 : w.drawn ≤ w'.drawn) (h5 : w.heap.size ≤ w'.heap.size)
    (h6 : ∀ b, b < w.heap.size → w'.heap[b]? = w.heap[b]?) : ∃ q os', w' = grow (w.drewN q) os' := by
  refine ⟨w'.drawn - w.drawn, w'.heap.extract w.heap.size w'.heap.size, ?_⟩
  have hh : w'.heap = w.heap ++ w'.heap.extract w.heap.size w'.heap.size := by
    apply Array.ext_getElem?; intro i; rw [Array.getElem?_append]; split
    · rename_i hi; exact h6 i hi
    · rename_i hi; rw [Array.getElem?_extract]; split
      · congr 1; omega
      · rename_i hq; rw [Array.getElem?_eq_none]; omega
  cases w'; cases w; simp only at *; subst h1 h2 h3; unfold grow World.drewN; simp only [World.mk.injEq, true_and, and_true]; exact ⟨hh, by omega⟩

def Elt (A : Nat → Prop) (w : World) (t : Ty) (ok : t.den → Prop) : Type := { p : Value × t.den // RepC A w t p.2 [p.1] ∧ ok p.2 }

def Elt.at {A : Nat → Prop} {w : World} {t : Ty} {ok : t.den → Prop} (e : Elt A w t ok) : Value × t.den := e.1

omit U in
theorem heap_sortWorld {α : Type} [Inhabited α] (enc : α → Value) (w : World) (blk off n : Nat) (d : Array α) (os : Array Obj) {c : Nat} (hc : c < w.heap.size) (hne : c ≠ blk) : (sortWorld enc w blk off n d os).heap[c]? = w.heap[c]? := by
  unfold sortWorld grow putRow mapBlock; simp only [heap_ahead]; rw [Array.getElem?_append_left (by simpa using hc), Array.getElem?_modify, if_neg (Ne.symm hne)]

omit U in
theorem heap_sortWorld_row {α : Type} [Inhabited α] (enc : α → Value) (w : World) (blk n : Nat) (d : Array α) (os : Array Obj) {cs : Array Value} {el : Nat} (h : w.heap[blk]? = some (.cells cs el (0, 0))) :
    (sortWorld enc w blk 0 n d os).heap[blk]? = some (.cells (Go.Sort.putCells enc 0 d cs) el (0, 0)) := by
  have hb : blk < w.heap.size := (Array.getElem?_eq_some_iff.1 h).1; unfold sortWorld grow putRow mapBlock; simp only [heap_ahead]; rw [Array.getElem?_append_left (by simpa using hb), Array.getElem?_modify, if_pos rfl, h]; rfl

end
end Go.Am
