/-
  A part of the proof of this claim (AwE): what functions of the program compute, and plain facts of that. No conditions.
-/
import Derived.Test.YtjcjpeckfikfkaaAwA
set_option linter.all false
namespace Go.Proofs.Ytjcjpeckfikfkaa
open Go Go.Am
noncomputable section

def copyRow (row : List Val) : (List Val) := (([] : List Val) ++ row)

def copyRow_sp : FnSpec := mkSpec [.val (.slice (.named 1))] [.val (.slice (.named 1))] (fun (row : List Val) => (List.length row : Int) ≤ 1048576) (fun (row : List Val) => [⟨(.slice (.named 1)), (copyRow row)⟩])

theorem copyRow_ok : FnOK Try.prog 75 copyRow_sp := by
 have hC : CtxOK Try.prog (mkCtx tyL []) := CtxOK.nil tyOK
 refine FnOK.of_body Try.func75 (by kernel_rfl) rfl (C := (mkCtx tyL [])) hC.ty (by kernel_rfl) ?_
 intro (row : List Val) hwf hpre E
 have hpre : (List.length row : Int) ≤ 1048576 := hpre
 have hw_row : Wf ⟨(.slice (.named 1)), (row : List Val)⟩ := hwf _ (List.Mem.head _)
 have hl_row : ((List.length row : Nat) : Int) ≤ 9223372036854775807 := hw_row.len
 have e0 : copyRow row = copyRow row := rfl
 refine AW.seq (AW.r1 hC [0] [] ⟨[(0, .data (.slice (.named 1)) (row : List Val))], []⟩ ?_)
 refine AW.seq (AW.r0 hC [2] [12] ⟨[(2, .arr 12 1)], [(12, .arr 1 (.named 1) ((([] : List Val) ++ row) : List Val))]⟩ [(0 + ((List.length row : Nat) : Int) ≤ 4294967296)] ?_ ?_)
 ·
  refine ⟨?_, trivial⟩
  ·
   omega
 exact AW.ret (AW.retE (β := (List Val)) (fun v => [⟨(.slice (.named 1)), v⟩]) (fun v => []) (v := (([] : List Val) ++ row)) e0 (by kernel_rfl) rfl rfl)

theorem copyRow_eq (r : List Val) : copyRow r = r := rfl

end
end Go.Proofs.Ytjcjpeckfikfkaa


namespace Go.Proofs.Ytjcjpeckfikfkaa
open Go Go.Am
noncomputable section

theorem getD_appendL (a b : List (List Val)) (i : Nat) : List.getD (a ++ b) i [] = if i < a.length then List.getD a i [] else List.getD b (i - a.length) [] := by
 simp only [List.getD_eq_getElem?_getD, List.getElem?_append]
 split <;> rfl

def RB (rows : List (List Val)) : Prop := ∀ i : Nat, i < List.length rows → (List.length (List.getD rows i []) : Int) ≤ 1048576

theorem RB.add {rows : List (List Val)} {r : List Val} (h : RB rows) (hr : (r.length : Int) ≤ 1048576) : RB (rows ++ [r]) := by
 intro i hi
 rw [getD_appendL]
 split
 ·
  exact h i (by omega)
 ·
  simp only [List.length_append, List.length_cons, List.length_nil] at hi
  rw [show i - rows.length = 0 by omega]
  exact hr

theorem RB.nil : RB [] := fun i hi => absurd hi (Nat.not_lt_zero _)

end
end Go.Proofs.Ytjcjpeckfikfkaa


namespace Go.Proofs.Ytjcjpeckfikfkaa
open Go Go.Am
noncomputable section

structure Drawn (t : Tab) : Prop where
 rb : RB t.Rows
 len : t.Rows.length ≤ 200

end
end Go.Proofs.Ytjcjpeckfikfkaa
