/-
  A part of the proof of this claim (AvG): what functions of the program compute, and plain facts of that. No conditions.
-/
import Derived.Test.YtbcgmoaipneoeaaAvF
set_option linter.all false
namespace Go.Proofs.Ytbcgmoaipneoeaa
open Go Go.Am
noncomputable section

def widthOf (p : Pln) (ws : List Int) : Int := (bif (!(validWidths ws)) then 0 else (planWidth (Pln.mk (Pln.Kind p) (Pln.Table p) (Pln.Exprs p) (Pln.Cols p) (Pln.Kids p)) ws 8))

def widthOf_sp : FnSpec := mkSpec [.val (.named 2), .val (.slice (.int .i64))] [.val (.int .i64)] (fun (p : Pln) (ws : List Int) => True) (fun (p : Pln) (ws : List Int) => [⟨(.int .i64), (widthOf p ws)⟩])

theorem widthOf_ok : FnOK Try.prog 14 widthOf_sp := by
 have hC : CtxOK Try.prog (mkCtx tyL [(24, validWidths_sp), (25, planWidth_sp)]) := CtxOK.cons validWidths_ok (CtxOK.cons planWidth_ok (CtxOK.nil tyOK))
 refine FnOK.of_body Try.func14 (by kernel_rfl) rfl (C := (mkCtx tyL [(24, validWidths_sp), (25, planWidth_sp)])) hC.ty (by kernel_rfl) ?_
 intro (p : Pln) (ws : List Int) hwf hpre E
 have hpre : True := hpre
 have hw_p : Wf ⟨(.named 2), (p : Pln)⟩ := hwf _ (List.Mem.head _)
 obtain ⟨hr_p_Kind, hr_p_Table, hl_p_Exprs, hl_p_Cols, hl_p_Kids⟩ := Pln.wfl hw_p
 have hw_ws : Wf ⟨(.slice (.int .i64)), (ws : List Int)⟩ := hwf _ (List.Mem.tail _ (List.Mem.head _))
 have hl_ws : ((List.length ws : Nat) : Int) ≤ 9223372036854775807 := hw_ws.len
 have e0 : widthOf p ws = widthOf p ws := rfl
 refine AW.seq (AW.r1 hC [1, 2] [8] ⟨[(1, sD9 ws), (2, .ref 8 1 0)], [(8, .box 1 [sI (Pln.Kind p), sI (Pln.Table p), sD10 (Pln.Exprs p), sD9 (Pln.Cols p), sD11 (Pln.Kids p)])]⟩ ?_)
 refine AW.seq (AW.seq (AW.r0 hC [1, 2, 7] [8] ⟨[(1, sD9 ws), (2, .ref 8 1 0), (7, sB (!(validWidths ws)))], [(8, .box 1 [sI (Pln.Kind p), sI (Pln.Table p), sD10 (Pln.Exprs p), sD9 (Pln.Cols p), sD11 (Pln.Kids p)])]⟩ [(True)] ?_ ?_))
 ·
  refine ⟨?_, trivial⟩
  ·
   trivial
 refine AW.cd (!(validWidths ws)) ?_ ?_
 ·
  intro h1
  have h1q := (Go.Am.not_pos h1)
  have e2 := e0.trans (Go.Am.bif_t h1)
  refine AW.seq (AW.r1 hC [4] [] ⟨[(4, sI 0)], []⟩ ?_)
  exact AW.ret (AW.rI 0 e2)
 ·
  intro h3
  have h3q := (Go.Am.not_neg h3)
  have e4 := e0.trans (Go.Am.bif_f h3)
  refine AW.kp [1, 2] [8] ⟨[(1, sD9 ws), (2, .ref 8 1 0)], [(8, .box 1 [sI (Pln.Kind p), sI (Pln.Table p), sD10 (Pln.Exprs p), sD9 (Pln.Cols p), sD11 (Pln.Kids p)])]⟩ ?_
  refine AW.skip (AW.seq (AW.r0 hC [4] [] ⟨[(4, sI (planWidth (Pln.mk (Pln.Kind p) (Pln.Table p) (Pln.Exprs p) (Pln.Cols p) (Pln.Kids p)) ws 8))], []⟩ [(VW ws ∧ (0 ≤ (8 : Int) ∧ (8 : Int) ≤ 8))] ?_ ?_))
  ·
   refine ⟨?_, trivial⟩
   ·
    exact ⟨validWidths_iff.1 h3q, by decide, by decide⟩
  exact AW.ret (AW.rI (planWidth (Pln.mk (Pln.Kind p) (Pln.Table p) (Pln.Exprs p) (Pln.Cols p) (Pln.Kids p)) ws 8) e4)

def iPlanWidth (p : Pln) (ws : List Int) : Int := (bif (!(ivalidWidths ws)) then 0 else (widthBelow (Pln.mk (Pln.Kind p) (Pln.Table p) (Pln.Exprs p) (Pln.Cols p) (Pln.Kids p)) ws 8))

def iPlanWidth_sp : FnSpec := mkSpec [.val (.named 2), .val (.slice (.int .i64))] [.val (.int .i64)] (fun (p : Pln) (ws : List Int) => True) (fun (p : Pln) (ws : List Int) => [⟨(.int .i64), (iPlanWidth p ws)⟩])

theorem iPlanWidth_ok : FnOK Try.prog 18 iPlanWidth_sp := by
 have hC : CtxOK Try.prog (mkCtx tyL [(27, ivalidWidths_sp), (28, widthBelow_sp)]) := CtxOK.cons ivalidWidths_ok (CtxOK.cons widthBelow_ok (CtxOK.nil tyOK))
 refine FnOK.of_body Try.func18 (by kernel_rfl) rfl (C := (mkCtx tyL [(27, ivalidWidths_sp), (28, widthBelow_sp)])) hC.ty (by kernel_rfl) ?_
 intro (p : Pln) (ws : List Int) hwf hpre E
 have hpre : True := hpre
 have hw_p : Wf ⟨(.named 2), (p : Pln)⟩ := hwf _ (List.Mem.head _)
 obtain ⟨hr_p_Kind, hr_p_Table, hl_p_Exprs, hl_p_Cols, hl_p_Kids⟩ := Pln.wfl hw_p
 have hw_ws : Wf ⟨(.slice (.int .i64)), (ws : List Int)⟩ := hwf _ (List.Mem.tail _ (List.Mem.head _))
 have hl_ws : ((List.length ws : Nat) : Int) ≤ 9223372036854775807 := hw_ws.len
 have e0 : iPlanWidth p ws = iPlanWidth p ws := rfl
 refine AW.seq (AW.r1 hC [1, 2] [8] ⟨[(1, sD9 ws), (2, .ref 8 1 0)], [(8, .box 1 [sI (Pln.Kind p), sI (Pln.Table p), sD10 (Pln.Exprs p), sD9 (Pln.Cols p), sD11 (Pln.Kids p)])]⟩ ?_)
 refine AW.seq (AW.seq (AW.r0 hC [1, 2, 7] [8] ⟨[(1, sD9 ws), (2, .ref 8 1 0), (7, sB (!(ivalidWidths ws)))], [(8, .box 1 [sI (Pln.Kind p), sI (Pln.Table p), sD10 (Pln.Exprs p), sD9 (Pln.Cols p), sD11 (Pln.Kids p)])]⟩ [(True)] ?_ ?_))
 ·
  refine ⟨?_, trivial⟩
  ·
   trivial
 refine AW.cd (!(ivalidWidths ws)) ?_ ?_
 ·
  intro h1
  have h1q := (Go.Am.not_pos h1)
  have e2 := e0.trans (Go.Am.bif_t h1)
  refine AW.seq (AW.r1 hC [4] [] ⟨[(4, sI 0)], []⟩ ?_)
  exact AW.ret (AW.rI 0 e2)
 ·
  intro h3
  have h3q := (Go.Am.not_neg h3)
  have e4 := e0.trans (Go.Am.bif_f h3)
  refine AW.kp [1, 2] [8] ⟨[(1, sD9 ws), (2, .ref 8 1 0)], [(8, .box 1 [sI (Pln.Kind p), sI (Pln.Table p), sD10 (Pln.Exprs p), sD9 (Pln.Cols p), sD11 (Pln.Kids p)])]⟩ ?_
  refine AW.skip (AW.seq (AW.r0 hC [4] [] ⟨[(4, sI (widthBelow (Pln.mk (Pln.Kind p) (Pln.Table p) (Pln.Exprs p) (Pln.Cols p) (Pln.Kids p)) ws 8))], []⟩ [(VW ws ∧ (0 ≤ (8 : Int) ∧ (8 : Int) ≤ 8))] ?_ ?_))
  ·
   refine ⟨?_, trivial⟩
   ·
    exact ⟨ivalidWidths_iff.1 h3q, by decide, by decide⟩
  exact AW.ret (AW.rI (widthBelow (Pln.mk (Pln.Kind p) (Pln.Table p) (Pln.Exprs p) (Pln.Cols p) (Pln.Kids p)) ws 8) e4)

theorem iPlanWidth_eq (p : Pln) (ws : List Int) : iPlanWidth p ws = widthOf p ws := by
 unfold iPlanWidth widthOf
 simp only [Pln.eta]
 have : ivalidWidths ws = validWidths ws := by rw [Bool.eq_iff_iff, ivalidWidths_iff, validWidths_iff]
 rw [this]
 cases validWidths ws with
 | false => rfl
 | true => exact (planWidth_eq ws _ p 8).symm

end
end Go.Proofs.Ytbcgmoaipneoeaa
