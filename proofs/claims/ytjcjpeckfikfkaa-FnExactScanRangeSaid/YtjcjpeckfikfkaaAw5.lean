/-
  A part of the proof of this claim (Aw5): what functions of the program compute, and plain facts of that. No conditions.
-/
import Derived.Test.YtjcjpeckfikfkaaAw4
import Derived.Test.YtjcjpeckfikfkaaAwT
import Derived.Test.YtjcjpeckfikfkaaAnJ
import Derived.WalkKit
import Derived.TacticsIn
import Derived.BigFrameIn
set_option linter.all false
namespace Go.Proofs.Ytjcjpeckfikfkaa
open Go Go.Am
noncomputable section

def icopied (list : List Val) : (List Val) := (bif (((List.length list : Nat) : Int) == 0) then ([] : List Val) else list)

def icopied_sp : FnSpec := mkSpec [.val (.slice (.named 1))] [.own (.named 1)] (fun (list : List Val) => (List.length list : Int) ≤ 4294967296) (fun (list : List Val) => [⟨(.slice (.named 1)), (icopied list)⟩])

theorem icopied_ok : FnOK Try.prog 95 icopied_sp := by
 have hC : CtxOK Try.prog (mkCtx tyL []) := CtxOK.nil tyOK
 refine FnOK.of_body Try.func95 (by kernel_rfl) rfl (C := (mkCtx tyL [])) hC.ty (by kernel_rfl) ?_
 intro (list : List Val) hwf hpre E
 have hpre : (List.length list : Int) ≤ 4294967296 := hpre
 have hw_list : Wf ⟨(.slice (.named 1)), (list : List Val)⟩ := hwf _ (List.Mem.head _)
 have hl_list : ((List.length list : Nat) : Int) ≤ 9223372036854775807 := hw_list.len
 have e0 : icopied list = icopied list := rfl
 refine AW.seq (AW.r1 hC [0] [] ⟨[(0, .data (.slice (.named 1)) (list : List Val))], []⟩ ?_)
 refine AW.seq (AW.seq (AW.r1 hC [0, 6] [] ⟨[(0, .data (.slice (.named 1)) (list : List Val)), (6, .bool (((List.length list : Nat) : Int) == 0))], []⟩ ?_))
 refine AW.cd (((List.length list : Nat) : Int) == 0) ?_ ?_
 ·
  intro h1
  have h1q : ((List.length list : Nat) : Int) = 0 := (Go.Am.beq_pos h1)
  have e2 := e0.trans (Go.Am.bif_t h1)
  refine AW.seq (AW.r1 hC [2] [] ⟨[(2, .nilsl)], []⟩ ?_)
  exact AW.ret (AW.retE (β := (List Val)) (fun v => [⟨(.slice (.named 1)), v⟩]) (fun v => []) (v := ([] : List Val)) e2 (by kernel_rfl) rfl rfl)
 ·
  intro h3
  have h3q : ((List.length list : Nat) : Int) ≠ 0 := (Go.Am.beq_neg h3)
  have e4 := e0.trans (Go.Am.bif_f h3)
  refine AW.kp [0] [] ⟨[(0, .data (.slice (.named 1)) (list : List Val))], []⟩ ?_
  refine AW.skip (AW.seq (AW.r0 hC [0, 3] [36] ⟨[(0, .data (.slice (.named 1)) (list : List Val)), (3, .arr 36 1)], [(36, .arr 1 (.named 1) ((List.replicate (List.length list) Val.zero : List Val) : List Val))]⟩ [(0 ≤ ((List.length list : Nat) : Int) ∧ ((List.length list : Nat) : Int) ≤ ((List.length list : Nat) : Int) ∧ ((List.length list : Nat) : Int) ≤ 4294967296)] ?_ ?_))
  ·
   refine ⟨?_, trivial⟩
   ·
    omega
  refine AW.seq (AW.r0 hC [3] [36] ⟨[(3, .arr 36 1)], [(36, .arr 1 (.named 1) (list : List Val))]⟩ [(List.length (List.replicate (List.length list) Val.zero : List Val) = List.length list)] ?_ ?_)
  ·
   refine ⟨?_, trivial⟩
   ·
    simp
  refine AW.seq (AW.r1 hC [2] [36] ⟨[(2, .arr 36 1)], [(36, .arr 1 (.named 1) (list : List Val))]⟩ ?_)
  exact AW.ret (AW.retE (β := (List Val)) (fun v => [⟨(.slice (.named 1)), v⟩]) (fun v => []) (v := list) e4 (by kernel_rfl) rfl rfl)

theorem icopied_eq (l : List Val) : icopied l = l := by
 unfold icopied
 by_cases h : ((List.length l : Nat) : Int) = 0
 ·
  rw [beq_iff_eq.2 h, cond_true]
  exact (List.length_eq_zero_iff.1 (by omega)).symm
 ·
  rw [beq_eq_false_iff_ne.2 h, cond_false]

end
end Go.Proofs.Ytjcjpeckfikfkaa
