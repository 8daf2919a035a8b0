/-
  An, part O: slices of pointers at variables of the call's own; one round of a loop, unrolled.
-/
import Derived.Test.YtjcjpeckfikfkaaAnM
import Derived.LoopNIn
set_option linter.all false
namespace Go.Am
open List
variable [U : Univ]
attribute [local irreducible] OFF

section
variable {E : Ent} {N : Nat} {P : Program} {ops : Array Oper} {Q : Exit → St → Prop} {st : St} {a : Act} {w : World} {β : Bind} {env : Nat → SV} {mem : Nat → Option Blk}

def AWR (P : Program) (E : Ent) (N : Nat) (c : Code) (Q : Exit → St → Prop) : Nat → St → Prop
  | 0, _ => False
  | m + 1, st => AW P E N c (thenQ (AWR P E N c Q m) Q) st

theorem AWR.step {c : Code} {m : Nat} (h : AW P E N c (thenQ (AWR P E N c Q m) Q) st) : AWR P E N c Q (m + 1) st := h

theorem AWO.one {i : Nat} {rest : List Nat} {d : Nat} {op : Op} {type : TypeId} {pos : String} {after : Array Edge} {l : List Nat} {sv : SV}
    (hl : l = i :: rest) (ho : ops[i]? = some ⟨some d, op, type, pos, after, none⟩) (hd : dstOK N (some d) = true) (hnd : ∀ c, op ≠ .defer c)
    (hrun : ∀ (a : Act) (w : World) (β : Bind), SimB E N st.env st.memf a w β → ∃ v, (execOp a.eval ⟨some d, op, type, pos, after, none⟩).run P w = .ok (.value v) w ∧ RepSV (allow E w β) w β st.memf sv v)
    (h : AWO P E N ops rest Q ⟨(d, sv) :: st.slots, st.mem⟩) : AWO P E N ops l Q st := by
  rintro a w ⟨β, hs⟩; subst hl
  have hdN : ∀ d', some d = some d' → d' < N := by
    intro d' e; cases e; exact Nat.le_of_ble_eq_true hd
  obtain ⟨v, hr, hv⟩ := hrun a w β hs; rw [wpOpsIn_cons]; unfold wpOpIn; simp only [ho]; rw [if_pos (by rfl)]; refine ⟨fun _ _ => trivial, ?_⟩; rw [Oper.semAt_eq _ _ _ hnd, hr]; refine h _ _ ⟨β, ?_⟩
  have henv : (⟨(d, sv) :: st.slots, st.mem⟩ : St).env = putE st.env (some d) sv := by
    funext s; show lookS _ s = _; simp only [lookS, putE]; rfl
  rw [henv]; exact hs.put hdN hv

structure PSl (P : Program) (T e : TypeId) : Prop where
  und : P.underlying T = some (.slice e)
  info : ∃ i z, P.info? e = some i ∧ i.size = 1 ∧ i.zero = some z

end
end Go.Am
