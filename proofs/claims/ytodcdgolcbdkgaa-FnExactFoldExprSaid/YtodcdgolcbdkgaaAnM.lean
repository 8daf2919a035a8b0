/-
  An, part M: a new variable that nobody writes into: what it holds is data.
-/
import Derived.Test.YtodcdgolcbdkgaaAnK
set_option linter.all false
namespace Go.Am
variable [U : Univ]
attribute [local irreducible] OFF

section
variable {E : Ent} {N : Nat} {P : Program} {ops : Array Oper} {Q : Exit → St → Prop} {st : St} {a : Act} {w : World} {β : Bind} {env : Nat → SV} {mem : Nat → Option Blk}

theorem RepV.cells_rep {A : Nat → Prop} {w : World} {t : Ty} {x : t.den} {v : Value} (h : RepV A w t x v) : RepC A w t x v.cells.toList := by
  cases h with
  | agg n x cs h => simpa [Value.cells] using h
  | one t x v ht h =>
    have h1 := h.one v (List.mem_singleton.2 rfl)
    have : v.cells = #[v] := by
      cases v <;> first | rfl | simp [Value.oneCell'] at h1
    rw [this]
    exact h

theorem AWO.boxD {i : Nat} {rest : List Nat} {d : Nat} {T : TypeId} {x : Operand} {type : TypeId} {pos : String} {after : Array Edge} {t : Ty} {sv : SV} {y : t.den} {l : List Nat}
    (hl : l = i :: rest) (ho : ops[i]? = some ⟨some d, .box T x, type, pos, after, none⟩) (hd : dstOK N (some d) = true) (hx : opv st.env x = (sv, [])) (hy : (toD false fuel t sv).eval st.memf = some y)
    (h : AWO P E N ops rest Q ⟨(d, .dref t y) :: st.slots, st.mem⟩) : AWO P E N ops l Q st := by
  rintro a w ⟨β, hs⟩
  subst hl
  have hdN : ∀ d', some d = some d' → d' < N := by
    intro d' e
    cases e
    exact Nat.le_of_ble_eq_true hd
  have hxr := opv_rep hs hx (fun p hp => by cases hp)
  have hv := toD_sound hs (fun b hb => hb) (lend := false) fuel (fun e => by cases e) hxr hy
  generalize hxe : a.eval x = v at hv
  have hc := hv.cells_rep
  have hrun : (execOp a.eval ⟨some d, .box T x, type, pos, after, none⟩).run P w = .ok (.value (.pointer (some ⟨w.heap.size, 0, none⟩))) (w.alloc (.cells v.cells T)) := by
    simp only [execOp, hxe]
    rfl
  rw [wpOpsIn_cons]
  unfold wpOpIn
  simp only [ho]
  rw [if_pos (by rfl)]
  refine ⟨fun _ _ => trivial, ?_⟩
  rw [Oper.semAt_eq _ _ _ (fun c e => by cases e), hrun]
  have hn := new_allow hs (.cells v.cells T)
  refine h _ _ ⟨β, ?_⟩
  have henv : (⟨(d, .dref t y) :: st.slots, st.mem⟩ : St).env = putE st.env (some d) (.dref t y) := by
    funext s
    show lookS _ s = _
    simp only [lookS, putE]
    rfl
  rw [henv]
  refine (hs.allocObj (.cells v.cells T)).put hdN (.dref t y _ 0 v.cells.toList hn.1 (fun j u hj => ?_) (hc.mono (allow_alloc hs _)))
  unfold World.cell?
  rw [World.alloc_heap_new]
  simpa using hj

end
end Go.Am
