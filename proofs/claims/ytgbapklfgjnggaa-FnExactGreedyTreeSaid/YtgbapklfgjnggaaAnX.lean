/-
  An, part X: cells that are written one after the other; clear.
-/
import Derived.Test.YtgbapklfgjnggaaAnW
import Derived.Deep.RegionLaw
import Derived.WalkKit
set_option linter.all false
namespace Go.Am
open List

theorem setCells_same (b : Nat) : ∀ (vs : List Value) (o : Nat) (w : World) (cs : Array Value) (el : Nat), w.heap[b]? = some (.cells cs el (0, 0)) →
    ∃ cs', (w.setCells b o vs).heap[b]? = some (.cells cs' el (0, 0)) ∧ cs'.size = cs.size ∧ ∀ k, cs'[k]? = if o ≤ k ∧ k < o + vs.length ∧ k < cs.size then vs[k - o]? else cs[k]? := by
  intro vs
  induction vs with
  | nil =>
    intro o w cs el h; refine ⟨cs, h, rfl, fun k => ?_⟩; rw [if_neg (by simp; omega)]
  | cons v r ih =>
    intro o w cs el h; have hb : b < w.heap.size := (Array.getElem?_eq_some_iff.1 h).1
    have h1 : (w.setCell ⟨b, o, none⟩ v).heap[b]? = some (.cells (cs.setIfInBounds o v) el (0, 0)) := by
      unfold World.setCell; simp only [Array.getElem?_modify, if_pos, h]; rfl
    obtain ⟨cs', e1, e2, e3⟩ := ih (o + 1) _ _ _ h1; refine ⟨cs', e1, by rw [e2, Array.size_setIfInBounds], fun k => ?_⟩; rw [e3, Array.size_setIfInBounds, length_cons]; by_cases hk : k = o
    · subst hk; rw [if_neg (by omega)]; by_cases hs : k < cs.size
      · rw [if_pos (by omega), Nat.sub_self, Array.getElem?_setIfInBounds, if_pos rfl, if_pos hs]; rfl
      · rw [if_neg (by omega), Array.getElem?_eq_none (by rw [Array.size_setIfInBounds]; omega), Array.getElem?_eq_none (by omega)]
    · by_cases hc : o + 1 ≤ k ∧ k < o + 1 + r.length ∧ k < cs.size
      · rw [if_pos hc, if_pos (by omega), show k - o = (k - (o + 1)) + 1 by omega, getElem?_cons_succ]
      · rw [if_neg hc, if_neg (by omega), Array.getElem?_setIfInBounds, if_neg (fun e => hk e.symm)]

theorem setCells_rest (b : Nat) : ∀ (vs : List Value) (o : Nat) (w : World), (w.setCells b o vs).os = w.os ∧ (w.setCells b o vs).tape = w.tape ∧ (w.setCells b o vs).output = w.output ∧ (w.setCells b o vs).drawn = w.drawn ∧
    (w.setCells b o vs).heap.size = w.heap.size ∧ ∀ c, c ≠ b → (w.setCells b o vs).heap[c]? = w.heap[c]? := by
  intro vs
  induction vs with
  | nil => intro o w; exact ⟨rfl, rfl, rfl, rfl, rfl, fun _ _ => rfl⟩
  | cons v r ih =>
    intro o w; obtain ⟨h1, h2, h3, h4, h5, h6⟩ := ih (o + 1) (w.setCell ⟨b, o, none⟩ v); refine ⟨h1, h2, h3, h4, h5.trans (by unfold World.setCell; simp), fun c hc => (h6 c hc).trans ?_⟩; unfold World.setCell; simp only [Array.getElem?_modify]; rw [if_neg (fun e => hc e.symm)]

theorem zeroCells_len (z : Array Value) (n : Nat) : (Builtin.zeroCells z n).toList.length = n * z.size := by
  simp [Builtin.zeroCells]

variable {P : Program}

theorem run_clear_cells (w : World) (t e ty : TypeId) (z : Value) (ht : P.underlying t = some (.slice e)) (hv : ∀ w, (zeroValue e).run P w = .ok z w) (h0 : 0 < z.cells.size) (h1 : ∀ v ∈ z.cells, v.oneCell' = true) (b o n c : Nat) (hn : 0 < n)
    (hc : ∀ j, j < n * z.cells.size → (w.cell? ⟨b, o + j, none⟩).isSome = true) (hf : ∀ j, j < n * z.cells.size → w.frozen? ⟨b, o + j, none⟩ = false) :
    (Builtin.clear_ #[t] ty #[.slice (some ⟨b, o, none⟩) n c]).run P w = .ok (.tuple #[]) (w.setCells b o (Builtin.zeroCells z.cells n).toList) := by
  have hst := run_storeCells_cells (P := P) b o (Builtin.zeroCells z.cells n).toList 0 w (by rw [zeroCells_len]; simpa using hc) (by rw [zeroCells_len]; simpa using hf) (by
    intro v hv'; simp only [Builtin.zeroCells, Array.toList_map, mem_map] at hv'; obtain ⟨i, _, rfl⟩ := hv'; refine h1 _ ?_; have hlt : i % z.cells.size < z.cells.size := Nat.mod_lt _ h0; rw [getElem!_pos z.cells _ hlt]
    exact Array.getElem_mem hlt)
  simp only [Nat.add_zero] at hst; obtain ⟨m, rfl⟩ : ∃ m, n = m + 1 := ⟨n - 1, by omega⟩; simp [Builtin.clear_, run_underlying ht, hv, hst]

end Go.Am
