/-
  An, part M: a new variable that nobody writes into: what it holds is data.
-/
import Derived.Test.YtjcjpeckfikfkaaAnI
import Derived.Test.YtjcjpeckfikfkaaAnJ
import Derived.Shelf.SlSortCmp.NoneTotal
set_option linter.all false
namespace Go.Am
open List
open Go.Sort Go.Proofs
variable [U : Univ]
attribute [local irreducible] OFF

omit U in
theorem sorted_unique {α : Type} {r : α → α → Prop} : ∀ {l m : List α}, l.Perm m → l.Pairwise r → m.Pairwise r → (∀ a ∈ l, ∀ b ∈ l, r a b → r b a → a = b) → l = m := by
  intro l
  induction l with
  | nil => intro m h _ _ _; exact (nil_perm.1 h).symm
  | cons a l ih =>
    intro m h h1 h2 h3
    cases m with
    | nil => exact absurd h.length_eq (by simp)
    | cons b m =>
      have e : a = b := by
        by_cases hab : a = b
        · exact hab
        · have ha : a ∈ m := by
            rcases mem_cons.1 (h.mem_iff.1 (mem_cons_self)) with e | e
            · exact absurd e hab
            · exact e
          have hb : b ∈ l := by
            rcases mem_cons.1 (h.mem_iff.2 (mem_cons_self)) with e | e
            · exact absurd e.symm hab
            · exact e
          exact h3 a mem_cons_self b (mem_cons_of_mem _ hb) ((pairwise_cons.1 h1).1 b hb) ((pairwise_cons.1 h2).1 a ha)
      subst e; rw [ih ((perm_cons a).1 h) (pairwise_cons.1 h1).2 (pairwise_cons.1 h2).2 fun x hx y hy => h3 x (mem_cons_of_mem _ hx) y (mem_cons_of_mem _ hy)]

section
variable {P : Program} {ρ : Go.Shelf.Ren}

structure Sortable {α : Type} (cf : α → α → Int) (ok : α → Prop) : Prop where
  irr : ∀ x, ok x → ¬ cf x x < 0
  tr : ∀ x y z, ok x → ok y → ok z → cf x y < 0 → cf y z < 0 → cf x z < 0
  ntr : ∀ x y z, ok x → ok y → ok z → ¬ cf x y < 0 → ¬ cf y z < 0 → ¬ cf x z < 0
  anti : ∀ x y, ok x → ok y → ¬ cf x y < 0 → ¬ cf y x < 0 → x = y

end
end Go.Am


namespace Go.Am
open List
variable [U : Univ]
attribute [local irreducible] OFF

section
variable {E : Ent} {N : Nat} {P : Program} {ops : Array Oper} {Q : Exit → St → Prop} {st : St} {a : Act} {w : World} {β : Bind} {env : Nat → SV} {mem : Nat → Option Blk}

theorem RepV.cells_rep {A : Nat → Prop} {w : World} {t : Ty} {x : t.den} {v : Value} (h : RepV A w t x v) : RepC A w t x v.cells.toList := by
  cases h with
  | agg n x cs h => simpa [Value.cells] using h
  | one t x v ht h =>
    have h1 := h.one v (mem_singleton.2 rfl)
    have : v.cells = #[v] := by
      cases v <;> first | rfl | simp [Value.oneCell'] at h1
    rw [this]; exact h

theorem AWO.boxD {i : Nat} {rest : List Nat} {d : Nat} {T : TypeId} {x : Operand} {type : TypeId} {pos : String} {after : Array Edge} {t : Ty} {sv : SV} {y : t.den} {l : List Nat}
    (hl : l = i :: rest) (ho : ops[i]? = some ⟨some d, .box T x, type, pos, after, none⟩) (hd : dstOK N (some d) = true) (hx : opv st.env x = (sv, [])) (hy : (toD false fuel t sv).eval st.memf = some y)
    (h : AWO P E N ops rest Q ⟨(d, .dref t y) :: st.slots, st.mem⟩) : AWO P E N ops l Q st := by
  rintro a w ⟨β, hs⟩; subst hl
  have hdN : ∀ d', some d = some d' → d' < N := by
    intro d' e; cases e; exact Nat.le_of_ble_eq_true hd
  have hxr := opv_rep hs hx (fun p hp => by cases hp); have hv := toD_sound hs (fun b hb => hb) (lend := false) fuel (fun e => by cases e) hxr hy; generalize hxe : a.eval x = v at hv; have hc := hv.cells_rep
  have hrun : (execOp a.eval ⟨some d, .box T x, type, pos, after, none⟩).run P w = .ok (.value (.pointer (some ⟨w.heap.size, 0, none⟩))) (w.alloc (.cells v.cells T)) := by
    simp only [execOp, hxe]; rfl
  rw [wpOpsIn_cons]; unfold wpOpIn; simp only [ho]; rw [if_pos (by rfl)]; refine ⟨fun _ _ => trivial, ?_⟩; rw [Oper.semAt_eq _ _ _ (fun c e => by cases e), hrun]; have hn := new_allow hs (.cells v.cells T); refine h _ _ ⟨β, ?_⟩
  have henv : (⟨(d, .dref t y) :: st.slots, st.mem⟩ : St).env = putE st.env (some d) (.dref t y) := by
    funext s; show lookS _ s = _; simp only [lookS, putE]; rfl
  rw [henv]; refine (hs.allocObj (.cells v.cells T)).put hdN (.dref t y _ 0 v.cells.toList hn.1 (fun j u hj => ?_) (hc.mono (allow_alloc hs _))); unfold World.cell?; rw [World.alloc_heap_new]; simpa using hj

end
end Go.Am
