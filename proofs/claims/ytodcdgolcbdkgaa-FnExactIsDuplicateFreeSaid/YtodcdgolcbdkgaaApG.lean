/-
  A part of the proof of this claim (ApG): what functions of the program compute, and plain facts of that. No conditions.
-/
import Derived.Test.YtodcdgolcbdkgaaApF
set_option linter.all false
namespace Go.Proofs.Ytodcdgolcbdkgaa
open Go Go.Am
noncomputable section

def widthOf (p : Pln) (ws : List Int) : Int := (bif (!(validWidths ws)) then 0 else (planWidth (Pln.mk (Pln.Kind p) (Pln.Table p) (Pln.Exprs p) (Pln.Cols p) (Pln.Kids p)) ws 8))

def widthOf_sp : FnSpec := mkSpec [.val (.named 2), .val (.slice (.int .i64))] [.val (.int .i64)] (fun (p : Pln) (ws : List Int) => True) (fun (p : Pln) (ws : List Int) => [⟨(.int .i64), (widthOf p ws)⟩])

theorem widthOf_ok : FnOK Try.prog 77 widthOf_sp := by
 have hC : CtxOK Try.prog (mkCtx tyL [(111, validWidths_sp), (112, planWidth_sp)]) := CtxOK.cons validWidths_ok (CtxOK.cons planWidth_ok (CtxOK.nil tyOK))
 refine FnOK.of_body Try.func77 (by kernel_rfl) rfl (C := (mkCtx tyL [(111, validWidths_sp), (112, planWidth_sp)])) hC.ty (by kernel_rfl) ?_
 intro (p : Pln) (ws : List Int) hwf hpre E
 have hpre : True := hpre
 have hw_p : Wf ⟨(.named 2), (p : Pln)⟩ := hwf _ (List.Mem.head _)
 have hr_p_Kind : -9223372036854775808 ≤ Pln.Kind p ∧ Pln.Kind p ≤ 9223372036854775807 := (hw_p.field (tv := ⟨(.int .i64), Pln.Kind p⟩) (List.Mem.head _)).int_inv
 have hr_p_Table : -9223372036854775808 ≤ Pln.Table p ∧ Pln.Table p ≤ 9223372036854775807 := (hw_p.field (tv := ⟨(.int .i64), Pln.Table p⟩) (List.Mem.tail _ (List.Mem.head _))).int_inv
 have hl_p_Exprs : ((List.length (Pln.Exprs p) : Nat) : Int) ≤ 9223372036854775807 := (hw_p.field (tv := ⟨(.slice (.named 1)), Pln.Exprs p⟩) (List.Mem.tail _ (List.Mem.tail _ (List.Mem.head _)))).len
 have hl_p_Cols : ((List.length (Pln.Cols p) : Nat) : Int) ≤ 9223372036854775807 := (hw_p.field (tv := ⟨(.slice (.int .i64)), Pln.Cols p⟩) (List.Mem.tail _ (List.Mem.tail _ (List.Mem.tail _ (List.Mem.head _))))).len
 have hl_p_Kids : ((List.length (Pln.Kids p) : Nat) : Int) ≤ 9223372036854775807 := (hw_p.field (tv := ⟨(.slice (.named 2)), Pln.Kids p⟩) (List.Mem.tail _ (List.Mem.tail _ (List.Mem.tail _ (List.Mem.tail _ (List.Mem.head _)))))).len
 have hw_ws : Wf ⟨(.slice (.int .i64)), (ws : List Int)⟩ := hwf _ (List.Mem.tail _ (List.Mem.head _))
 have hl_ws : ((List.length ws : Nat) : Int) ≤ 9223372036854775807 := hw_ws.len
 have e0 : widthOf p ws = widthOf p ws := rfl
 refine AW.seq ?_
 refine AW.reg hC  false [] [1, 2] [8]
  ⟨[(1, .data (.slice (.int .i64)) (ws : List Int)), (2, .ref 8 1 0)], [(8, .box 1 [.int .i64 (Pln.Kind p), .int .i64 (Pln.Table p), .data (.slice (.named 1)) ((Pln.Exprs p) : List Xpr), .data (.slice (.int .i64)) ((Pln.Cols p) : List Int), .data (.slice (.named 2)) ((Pln.Kids p) : List Pln)])]⟩
  [] (by kernel_rfl) ?_ ?_
 ·
  exact trivial
 refine AW.seq ?_
 refine AW.seq ?_
 refine AW.reg hC  false [] [1, 2, 7] [8]
  ⟨[(1, .data (.slice (.int .i64)) (ws : List Int)), (2, .ref 8 1 0), (7, .bool (!(validWidths ws)))], [(8, .box 1 [.int .i64 (Pln.Kind p), .int .i64 (Pln.Table p), .data (.slice (.named 1)) ((Pln.Exprs p) : List Xpr), .data (.slice (.int .i64)) ((Pln.Cols p) : List Int), .data (.slice (.named 2)) ((Pln.Kids p) : List Pln)])]⟩
  [(True)] (by kernel_rfl) ?_ ?_
 ·
  refine ⟨?_, trivial⟩
  ·
   trivial
 refine AW.cond (b := (!(validWidths ws))) (by kernel_rfl) ?_ ?_
 ·
  intro h1
  have h1q : (validWidths ws) = false := (Go.Am.not_pos h1)
  have e2 := e0.trans (Go.Am.bif_t h1)
  refine AW.seq ?_
  refine AW.reg hC  false [] [4] []
   ⟨[(4, .int .i64 0)], []⟩
   [] (by kernel_rfl) ?_ ?_
  ·
   exact trivial
  refine AW.ret ?_
  exact AW.retE (β := Int) (fun v => [⟨(.int .i64), v⟩]) (fun v => []) (v := 0) e2 (by kernel_rfl) rfl rfl
 ·
  intro h3
  have h3q : (validWidths ws) = true := (Go.Am.not_neg h3)
  have e4 := e0.trans (Go.Am.bif_f h3)
  refine AW.keep [1, 2] [8] ⟨[(1, .data (.slice (.int .i64)) (ws : List Int)), (2, .ref 8 1 0)], [(8, .box 1 [.int .i64 (Pln.Kind p), .int .i64 (Pln.Table p), .data (.slice (.named 1)) ((Pln.Exprs p) : List Xpr), .data (.slice (.int .i64)) ((Pln.Cols p) : List Int), .data (.slice (.named 2)) ((Pln.Kids p) : List Pln)])]⟩ (by kernel_rfl) ?_
  refine AW.skip ?_
  refine AW.seq ?_
  refine AW.reg hC  false [] [4] []
   ⟨[(4, .int .i64 (planWidth (Pln.mk (Pln.Kind p) (Pln.Table p) (Pln.Exprs p) (Pln.Cols p) (Pln.Kids p)) ws 8))], []⟩
   [(VW ws ∧ (0 ≤ (8 : Int) ∧ (8 : Int) ≤ 8))] (by kernel_rfl) ?_ ?_
  ·
   refine ⟨?_, trivial⟩
   ·
    exact ⟨validWidths_iff.1 h3q, by decide, by decide⟩
  refine AW.ret ?_
  exact AW.retE (β := Int) (fun v => [⟨(.int .i64), v⟩]) (fun v => []) (v := (planWidth (Pln.mk (Pln.Kind p) (Pln.Table p) (Pln.Exprs p) (Pln.Cols p) (Pln.Kids p)) ws 8)) e4 (by kernel_rfl) rfl rfl

def PlanWidth (p : Pln) (ws : List Int) : Int := (widthOf (Pln.mk (Pln.Kind p) (Pln.Table p) (Pln.Exprs p) (Pln.Cols p) (Pln.Kids p)) ws)

def PlanWidth_sp : FnSpec := mkSpec [.val (.named 2), .val (.slice (.int .i64))] [.val (.int .i64)] (fun (p : Pln) (ws : List Int) => True) (fun (p : Pln) (ws : List Int) => [⟨(.int .i64), (PlanWidth p ws)⟩])

theorem PlanWidth_ok : FnOK Try.prog 53 PlanWidth_sp := by
 have hC : CtxOK Try.prog (mkCtx tyL [(77, widthOf_sp)]) := CtxOK.cons widthOf_ok (CtxOK.nil tyOK)
 refine FnOK.of_body Try.func53 (by kernel_rfl) rfl (C := (mkCtx tyL [(77, widthOf_sp)])) hC.ty (by kernel_rfl) ?_
 intro (p : Pln) (ws : List Int) hwf hpre E
 have hpre : True := hpre
 have hw_p : Wf ⟨(.named 2), (p : Pln)⟩ := hwf _ (List.Mem.head _)
 have hr_p_Kind : -9223372036854775808 ≤ Pln.Kind p ∧ Pln.Kind p ≤ 9223372036854775807 := (hw_p.field (tv := ⟨(.int .i64), Pln.Kind p⟩) (List.Mem.head _)).int_inv
 have hr_p_Table : -9223372036854775808 ≤ Pln.Table p ∧ Pln.Table p ≤ 9223372036854775807 := (hw_p.field (tv := ⟨(.int .i64), Pln.Table p⟩) (List.Mem.tail _ (List.Mem.head _))).int_inv
 have hl_p_Exprs : ((List.length (Pln.Exprs p) : Nat) : Int) ≤ 9223372036854775807 := (hw_p.field (tv := ⟨(.slice (.named 1)), Pln.Exprs p⟩) (List.Mem.tail _ (List.Mem.tail _ (List.Mem.head _)))).len
 have hl_p_Cols : ((List.length (Pln.Cols p) : Nat) : Int) ≤ 9223372036854775807 := (hw_p.field (tv := ⟨(.slice (.int .i64)), Pln.Cols p⟩) (List.Mem.tail _ (List.Mem.tail _ (List.Mem.tail _ (List.Mem.head _))))).len
 have hl_p_Kids : ((List.length (Pln.Kids p) : Nat) : Int) ≤ 9223372036854775807 := (hw_p.field (tv := ⟨(.slice (.named 2)), Pln.Kids p⟩) (List.Mem.tail _ (List.Mem.tail _ (List.Mem.tail _ (List.Mem.tail _ (List.Mem.head _)))))).len
 have hw_ws : Wf ⟨(.slice (.int .i64)), (ws : List Int)⟩ := hwf _ (List.Mem.tail _ (List.Mem.head _))
 have hl_ws : ((List.length ws : Nat) : Int) ≤ 9223372036854775807 := hw_ws.len
 have e0 : PlanWidth p ws = PlanWidth p ws := rfl
 refine AW.seq ?_
 refine AW.reg hC  false [] [1, 2] [8]
  ⟨[(1, .data (.slice (.int .i64)) (ws : List Int)), (2, .ref 8 1 0)], [(8, .box 1 [.int .i64 (Pln.Kind p), .int .i64 (Pln.Table p), .data (.slice (.named 1)) ((Pln.Exprs p) : List Xpr), .data (.slice (.int .i64)) ((Pln.Cols p) : List Int), .data (.slice (.named 2)) ((Pln.Kids p) : List Pln)])]⟩
  [] (by kernel_rfl) ?_ ?_
 ·
  exact trivial
 refine AW.seq ?_
 refine AW.reg hC  false [] [4] []
  ⟨[(4, .int .i64 (widthOf (Pln.mk (Pln.Kind p) (Pln.Table p) (Pln.Exprs p) (Pln.Cols p) (Pln.Kids p)) ws))], []⟩
  [(True)] (by kernel_rfl) ?_ ?_
 ·
  refine ⟨?_, trivial⟩
  ·
   trivial
 refine AW.ret ?_
 exact AW.retE (β := Int) (fun v => [⟨(.int .i64), v⟩]) (fun v => []) (v := (widthOf (Pln.mk (Pln.Kind p) (Pln.Table p) (Pln.Exprs p) (Pln.Cols p) (Pln.Kids p)) ws)) e0 (by kernel_rfl) rfl rfl

def iPlanWidth (p : Pln) (ws : List Int) : Int := (bif (!(ivalidWidths ws)) then 0 else (widthBelow (Pln.mk (Pln.Kind p) (Pln.Table p) (Pln.Exprs p) (Pln.Cols p) (Pln.Kids p)) ws 8))

def iPlanWidth_sp : FnSpec := mkSpec [.val (.named 2), .val (.slice (.int .i64))] [.val (.int .i64)] (fun (p : Pln) (ws : List Int) => True) (fun (p : Pln) (ws : List Int) => [⟨(.int .i64), (iPlanWidth p ws)⟩])

theorem iPlanWidth_ok : FnOK Try.prog 54 iPlanWidth_sp := by
 have hC : CtxOK Try.prog (mkCtx tyL [(94, ivalidWidths_sp), (95, widthBelow_sp)]) := CtxOK.cons ivalidWidths_ok (CtxOK.cons widthBelow_ok (CtxOK.nil tyOK))
 refine FnOK.of_body Try.func54 (by kernel_rfl) rfl (C := (mkCtx tyL [(94, ivalidWidths_sp), (95, widthBelow_sp)])) hC.ty (by kernel_rfl) ?_
 intro (p : Pln) (ws : List Int) hwf hpre E
 have hpre : True := hpre
 have hw_p : Wf ⟨(.named 2), (p : Pln)⟩ := hwf _ (List.Mem.head _)
 have hr_p_Kind : -9223372036854775808 ≤ Pln.Kind p ∧ Pln.Kind p ≤ 9223372036854775807 := (hw_p.field (tv := ⟨(.int .i64), Pln.Kind p⟩) (List.Mem.head _)).int_inv
 have hr_p_Table : -9223372036854775808 ≤ Pln.Table p ∧ Pln.Table p ≤ 9223372036854775807 := (hw_p.field (tv := ⟨(.int .i64), Pln.Table p⟩) (List.Mem.tail _ (List.Mem.head _))).int_inv
 have hl_p_Exprs : ((List.length (Pln.Exprs p) : Nat) : Int) ≤ 9223372036854775807 := (hw_p.field (tv := ⟨(.slice (.named 1)), Pln.Exprs p⟩) (List.Mem.tail _ (List.Mem.tail _ (List.Mem.head _)))).len
 have hl_p_Cols : ((List.length (Pln.Cols p) : Nat) : Int) ≤ 9223372036854775807 := (hw_p.field (tv := ⟨(.slice (.int .i64)), Pln.Cols p⟩) (List.Mem.tail _ (List.Mem.tail _ (List.Mem.tail _ (List.Mem.head _))))).len
 have hl_p_Kids : ((List.length (Pln.Kids p) : Nat) : Int) ≤ 9223372036854775807 := (hw_p.field (tv := ⟨(.slice (.named 2)), Pln.Kids p⟩) (List.Mem.tail _ (List.Mem.tail _ (List.Mem.tail _ (List.Mem.tail _ (List.Mem.head _)))))).len
 have hw_ws : Wf ⟨(.slice (.int .i64)), (ws : List Int)⟩ := hwf _ (List.Mem.tail _ (List.Mem.head _))
 have hl_ws : ((List.length ws : Nat) : Int) ≤ 9223372036854775807 := hw_ws.len
 have e0 : iPlanWidth p ws = iPlanWidth p ws := rfl
 refine AW.seq ?_
 refine AW.reg hC  false [] [1, 2] [8]
  ⟨[(1, .data (.slice (.int .i64)) (ws : List Int)), (2, .ref 8 1 0)], [(8, .box 1 [.int .i64 (Pln.Kind p), .int .i64 (Pln.Table p), .data (.slice (.named 1)) ((Pln.Exprs p) : List Xpr), .data (.slice (.int .i64)) ((Pln.Cols p) : List Int), .data (.slice (.named 2)) ((Pln.Kids p) : List Pln)])]⟩
  [] (by kernel_rfl) ?_ ?_
 ·
  exact trivial
 refine AW.seq ?_
 refine AW.seq ?_
 refine AW.reg hC  false [] [1, 2, 7] [8]
  ⟨[(1, .data (.slice (.int .i64)) (ws : List Int)), (2, .ref 8 1 0), (7, .bool (!(ivalidWidths ws)))], [(8, .box 1 [.int .i64 (Pln.Kind p), .int .i64 (Pln.Table p), .data (.slice (.named 1)) ((Pln.Exprs p) : List Xpr), .data (.slice (.int .i64)) ((Pln.Cols p) : List Int), .data (.slice (.named 2)) ((Pln.Kids p) : List Pln)])]⟩
  [(True)] (by kernel_rfl) ?_ ?_
 ·
  refine ⟨?_, trivial⟩
  ·
   trivial
 refine AW.cond (b := (!(ivalidWidths ws))) (by kernel_rfl) ?_ ?_
 ·
  intro h1
  have h1q : (ivalidWidths ws) = false := (Go.Am.not_pos h1)
  have e2 := e0.trans (Go.Am.bif_t h1)
  refine AW.seq ?_
  refine AW.reg hC  false [] [4] []
   ⟨[(4, .int .i64 0)], []⟩
   [] (by kernel_rfl) ?_ ?_
  ·
   exact trivial
  refine AW.ret ?_
  exact AW.retE (β := Int) (fun v => [⟨(.int .i64), v⟩]) (fun v => []) (v := 0) e2 (by kernel_rfl) rfl rfl
 ·
  intro h3
  have h3q : (ivalidWidths ws) = true := (Go.Am.not_neg h3)
  have e4 := e0.trans (Go.Am.bif_f h3)
  refine AW.keep [1, 2] [8] ⟨[(1, .data (.slice (.int .i64)) (ws : List Int)), (2, .ref 8 1 0)], [(8, .box 1 [.int .i64 (Pln.Kind p), .int .i64 (Pln.Table p), .data (.slice (.named 1)) ((Pln.Exprs p) : List Xpr), .data (.slice (.int .i64)) ((Pln.Cols p) : List Int), .data (.slice (.named 2)) ((Pln.Kids p) : List Pln)])]⟩ (by kernel_rfl) ?_
  refine AW.skip ?_
  refine AW.seq ?_
  refine AW.reg hC  false [] [4] []
   ⟨[(4, .int .i64 (widthBelow (Pln.mk (Pln.Kind p) (Pln.Table p) (Pln.Exprs p) (Pln.Cols p) (Pln.Kids p)) ws 8))], []⟩
   [(VW ws ∧ (0 ≤ (8 : Int) ∧ (8 : Int) ≤ 8))] (by kernel_rfl) ?_ ?_
  ·
   refine ⟨?_, trivial⟩
   ·
    exact ⟨ivalidWidths_iff.1 h3q, by decide, by decide⟩
  refine AW.ret ?_
  exact AW.retE (β := Int) (fun v => [⟨(.int .i64), v⟩]) (fun v => []) (v := (widthBelow (Pln.mk (Pln.Kind p) (Pln.Table p) (Pln.Exprs p) (Pln.Cols p) (Pln.Kids p)) ws 8)) e4 (by kernel_rfl) rfl rfl

theorem PlanWidth_same (p : Pln) (ws : List Int) : iPlanWidth p ws = PlanWidth p ws := by
 unfold iPlanWidth PlanWidth widthOf
 simp only [Pln.eta]
 have : ivalidWidths ws = validWidths ws := by rw [Bool.eq_iff_iff, ivalidWidths_iff, validWidths_iff]
 rw [this]
 cases validWidths ws with
 | false => rfl
 | true => exact (planWidth_eq ws _ p 8).symm

theorem iPlanWidth_eq (p : Pln) (ws : List Int) : iPlanWidth p ws = widthOf p ws := PlanWidth_same p ws

end
end Go.Proofs.Ytodcdgolcbdkgaa
