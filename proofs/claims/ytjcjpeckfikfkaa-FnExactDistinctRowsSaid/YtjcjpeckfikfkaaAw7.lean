/-
  A part of the proof of this claim (Aw7): what functions of the program compute, and plain facts of that. No conditions.
-/
import Derived.Test.YtjcjpeckfikfkaaAw6
set_option linter.all false
namespace Go.Proofs.Ytjcjpeckfikfkaa
open Go Go.Am
noncomputable section

theorem getD_mem_row {rows : List (List Val)} {r : List Val} (h : r ∈ rows) : ∃ i, i < rows.length ∧ rows.getD i [] = r := by
 obtain ⟨i, hi, rfl⟩ := List.mem_iff_getElem.1 h
 exact ⟨i, hi, by rw [List.getD_eq_getElem?_getD, List.getElem?_eq_getElem hi]; rfl⟩

theorem RowsW.of_getD {wd : Nat} {rows : List (List Val)} (h : ∀ j : Nat, j < rows.length → VR (rows.getD j []) ∧ (rows.getD j []).length = wd) : RowsW wd rows := fun r hr => by
 obtain ⟨i, hi, rfl⟩ := getD_mem_row hr
 exact h i hi

theorem rows_of_getD {w : Int} {rows : List (List Val)} (h : ∀ j : Nat, j < rows.length → VR (rows.getD j []) ∧ (((rows.getD j []).length : Nat) : Int) = w) : RowsOK rows :=
 ⟨w.toNat, RowsW.of_getD fun j hj => ⟨(h j hj).1, by have := (h j hj).2; omega⟩⟩

def differentRowsF (rows : List (List Val)) : (List (List Val)) := rows

def differentRowsF_sp : FnSpec := mkSpec [.val (.slice (.slice (.named 1)))] [.clo 107 (.slice (.slice (.named 1)))] (fun (rows : List (List Val)) => True) (fun (rows : List (List Val)) => [⟨(.slice (.slice (.named 1))), (differentRowsF rows)⟩])

theorem differentRowsF_ok : FnOK Try.prog 79 differentRowsF_sp := by
 have hC : CtxOK Try.prog (mkCtx tyL []) := CtxOK.nil tyOK
 refine FnOK.of_body Try.func79 (by kernel_rfl) rfl (C := (mkCtx tyL [])) hC.ty (by kernel_rfl) ?_
 intro (rows : List (List Val)) hwf hpre E
 have hpre : True := hpre
 have hw_rows : Wf ⟨(.slice (.slice (.named 1))), (rows : List (List Val))⟩ := hwf _ (List.Mem.head _)
 have hl_rows : ((List.length rows : Nat) : Int) ≤ 9223372036854775807 := hw_rows.len
 have e0 : differentRowsF rows = differentRowsF rows := rfl
 refine AW.seq (AW.regionO [0, 1] (by rfl) ?_)
 refine AWO.boxD (t := (.slice (.slice (.named 1)))) (sv := .data (.slice (.slice (.named 1))) (rows : List (List Val))) (y := (rows : List (List Val))) (by rfl) (by rfl) (by kernel_rfl) (by kernel_rfl) (by kernel_rfl) ?_
 refine AWO.keep [1] [] ⟨[(1, .dref (.slice (.slice (.named 1))) (rows : List (List Val)))], []⟩ (by kernel_rfl) ?_
 refine AWO.run hC false [] [1] [] [1] []
  ⟨[(1, .dref (.slice (.slice (.named 1))) (rows : List (List Val)))], []⟩
  [] (by rfl) (by kernel_rfl) ?_ ?_
 ·
  exact trivial
 refine AWO.nil ?_
 refine AW.seq (AW.r1 hC [2] [] ⟨[(2, .clo 107 [.dref (.slice (.slice (.named 1))) (rows : List (List Val))])], []⟩ ?_)
 exact AW.ret (AW.retE (β := (List (List Val))) (fun v => [⟨(.slice (.slice (.named 1))), v⟩]) (fun v => []) (v := rows) e0 (by kernel_rfl) rfl rfl)

end
end Go.Proofs.Ytjcjpeckfikfkaa
