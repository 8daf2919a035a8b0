/-
  A part of the proof of this claim (AuA): what functions of the program compute, and plain facts of that. No conditions.
-/
import Derived.Test.YtbgbekpbbcahpaaAu9
set_option linter.all false
namespace Go.Proofs.Ytbgbekpbbcahpaa
open Go Go.Am
noncomputable section

def FnExactRangeOf (aE : Xpr) (aWidth : Int) (aCol : Int) : Bool := (bif (decide ((szExpr (Xpr.mk (Xpr.Kind aE) (Xpr.Col aE) (Xpr.V aE) (Xpr.Kids aE)) 1048576) < 0)) then true else (bif (bif (!(eqRange ((iRangeOf (Xpr.mk (Xpr.Kind (toExpr (Xpr.mk (Xpr.Kind aE) (Xpr.Col aE) (Xpr.V aE) (Xpr.Kids aE)))) (Xpr.Col (toExpr (Xpr.mk (Xpr.Kind aE) (Xpr.Col aE) (Xpr.V aE) (Xpr.Kids aE)))) (Xpr.V (toExpr (Xpr.mk (Xpr.Kind aE) (Xpr.Col aE) (Xpr.V aE) (Xpr.Kids aE)))) (Xpr.Kids (toExpr (Xpr.mk (Xpr.Kind aE) (Xpr.Col aE) (Xpr.V aE) (Xpr.Kids aE))))) aWidth aCol).1) ((RangeOf (toExpr (Xpr.mk (Xpr.Kind aE) (Xpr.Col aE) (Xpr.V aE) (Xpr.Kids aE))) aWidth aCol).1))) then true else (((iRangeOf (Xpr.mk (Xpr.Kind (toExpr (Xpr.mk (Xpr.Kind aE) (Xpr.Col aE) (Xpr.V aE) (Xpr.Kids aE)))) (Xpr.Col (toExpr (Xpr.mk (Xpr.Kind aE) (Xpr.Col aE) (Xpr.V aE) (Xpr.Kids aE)))) (Xpr.V (toExpr (Xpr.mk (Xpr.Kind aE) (Xpr.Col aE) (Xpr.V aE) (Xpr.Kids aE)))) (Xpr.Kids (toExpr (Xpr.mk (Xpr.Kind aE) (Xpr.Col aE) (Xpr.V aE) (Xpr.Kids aE))))) aWidth aCol).2) != ((RangeOf (toExpr (Xpr.mk (Xpr.Kind aE) (Xpr.Col aE) (Xpr.V aE) (Xpr.Kids aE))) aWidth aCol).2))) then false else (bif (!(eqExpr (Xpr.mk (Xpr.Kind (toExpr (Xpr.mk (Xpr.Kind aE) (Xpr.Col aE) (Xpr.V aE) (Xpr.Kids aE)))) (Xpr.Col (toExpr (Xpr.mk (Xpr.Kind aE) (Xpr.Col aE) (Xpr.V aE) (Xpr.Kids aE)))) (Xpr.V (toExpr (Xpr.mk (Xpr.Kind aE) (Xpr.Col aE) (Xpr.V aE) (Xpr.Kids aE)))) (Xpr.Kids (toExpr (Xpr.mk (Xpr.Kind aE) (Xpr.Col aE) (Xpr.V aE) (Xpr.Kids aE))))) (toExpr (Xpr.mk (Xpr.Kind aE) (Xpr.Col aE) (Xpr.V aE) (Xpr.Kids aE))))) then false else true)))

def FnExactRangeOf_sp : FnSpec := mkSpec [.val (.named 1), .val (.int .i64), .val (.int .i64)] [.val .bool] (fun (aE : Xpr) (aWidth : Int) (aCol : Int) => True) (fun (aE : Xpr) (aWidth : Int) (aCol : Int) => [⟨.bool, (FnExactRangeOf aE aWidth aCol)⟩])

theorem FnExactRangeOf_ok : FnOK Try.prog 3 FnExactRangeOf_sp := by
 have hC : CtxOK Try.prog (mkCtx tyL [(5, szExpr_sp), (6, RangeOf_sp), (7, toExpr_sp), (8, iRangeOf_sp), (9, eqRange_sp), (10, eqExpr_sp)]) := CtxOK.cons szExpr_ok (CtxOK.cons RangeOf_ok (CtxOK.cons toExpr_ok (CtxOK.cons iRangeOf_ok (CtxOK.cons eqRange_ok (CtxOK.cons eqExpr_ok (CtxOK.nil tyOK))))))
 have hM : Try.prog.follows .mixedOrders = true := Try.checked.mixed
 refine FnOK.of_body Try.func3 (by kernel_rfl) rfl (C := (mkCtx tyL [(5, szExpr_sp), (6, RangeOf_sp), (7, toExpr_sp), (8, iRangeOf_sp), (9, eqRange_sp), (10, eqExpr_sp)])) hC.ty (by kernel_rfl) ?_
 intro (aE : Xpr) (aWidth : Int) (aCol : Int) hwf hpre E
 have hpre : True := hpre
 have hw_aE : Wf ⟨(.named 1), (aE : Xpr)⟩ := hwf _ (List.Mem.head _)
 obtain ⟨hr_aE_Kind, hr_aE_Col, hl_aE_Kids⟩ := Xpr.wfl hw_aE
 have hw_aWidth : Wf ⟨(.int .i64), (aWidth : Int)⟩ := hwf _ (List.Mem.tail _ (List.Mem.head _))
 have hr_aWidth : -9223372036854775808 ≤ aWidth ∧ aWidth ≤ 9223372036854775807 := hw_aWidth.int_inv
 have hw_aCol : Wf ⟨(.int .i64), (aCol : Int)⟩ := hwf _ (List.Mem.tail _ (List.Mem.tail _ (List.Mem.head _)))
 have hr_aCol : -9223372036854775808 ≤ aCol ∧ aCol ≤ 9223372036854775807 := hw_aCol.int_inv
 have e0 : FnExactRangeOf aE aWidth aCol = FnExactRangeOf aE aWidth aCol := rfl
 refine AW.seq (AW.r1 hC [1, 2, 3] [12] ⟨[(1, sI aWidth), (2, sI aCol), (3, .ref 12 1 0)], [(12, .box 1 [sI (Xpr.Kind aE), sI (Xpr.Col aE), sB (Val.Null (Xpr.V aE)), sI (Val.N (Xpr.V aE)), sD11 (Xpr.Kids aE)])]⟩ ?_)
 refine AW.seq (AW.r1 hC [1, 2, 3, 7] [12] ⟨[(1, sI aWidth), (2, sI aCol), (3, .ref 12 1 0), (7, sI 1048576)], [(12, .box 1 [sI (Xpr.Kind aE), sI (Xpr.Col aE), sB (Val.Null (Xpr.V aE)), sI (Val.N (Xpr.V aE)), sD11 (Xpr.Kids aE)])]⟩ ?_)
 refine AW.seq (AW.r0 hC [1, 2, 3, 7] [12] ⟨[(1, sI aWidth), (2, sI aCol), (3, .ref 12 1 0), (7, sI (szExpr (Xpr.mk (Xpr.Kind aE) (Xpr.Col aE) (Xpr.V aE) (Xpr.Kids aE)) 1048576))], [(12, .box 1 [sI (Xpr.Kind aE), sI (Xpr.Col aE), sB (Val.Null (Xpr.V aE)), sI (Val.N (Xpr.V aE)), sD11 (Xpr.Kids aE)])]⟩ [(0 ≤ (1048576 : Int))] ?_ ?_)
 ·
  refine ⟨?_, trivial⟩
  ·
   omega
 refine AW.seq (AW.seq (AW.r1 hC [1, 2, 3, 17] [12] ⟨[(1, sI aWidth), (2, sI aCol), (3, .ref 12 1 0), (17, sB (decide ((szExpr (Xpr.mk (Xpr.Kind aE) (Xpr.Col aE) (Xpr.V aE) (Xpr.Kids aE)) 1048576) < 0)))], [(12, .box 1 [sI (Xpr.Kind aE), sI (Xpr.Col aE), sB (Val.Null (Xpr.V aE)), sI (Val.N (Xpr.V aE)), sD11 (Xpr.Kids aE)])]⟩ ?_))
 refine AW.cd (decide ((szExpr (Xpr.mk (Xpr.Kind aE) (Xpr.Col aE) (Xpr.V aE) (Xpr.Kids aE)) 1048576) < 0)) ?_ ?_
 ·
  intro h1
  have h1q := (of_decide_eq_true h1)
  have e2 := e0.trans (Go.Am.bif_t h1)
  refine AW.seq (AW.r1 hC [6] [] ⟨[(6, sB true)], []⟩ ?_)
  exact AW.ret (AW.rB true e2)
 ·
  intro h3
  have h3q := (of_decide_eq_false h3)
  have e4 := e0.trans (Go.Am.bif_f h3)
  refine AW.kp [1, 2, 3] [12] ⟨[(1, sI aWidth), (2, sI aCol), (3, .ref 12 1 0)], [(12, .box 1 [sI (Xpr.Kind aE), sI (Xpr.Col aE), sB (Val.Null (Xpr.V aE)), sI (Val.N (Xpr.V aE)), sD11 (Xpr.Kids aE)])]⟩ ?_
  refine AW.skip (AW.seq (AW.r0 hC [1, 2, 3, 8, 9] [12, 32] ⟨[(1, sI aWidth), (2, sI aCol), (3, .ref 12 1 0), (8, .ref 32 1 0), (9, sB ((RangeOf (toExpr (Xpr.mk (Xpr.Kind aE) (Xpr.Col aE) (Xpr.V aE) (Xpr.Kids aE))) aWidth aCol).2))], [(12, .box 1 [sI (Xpr.Kind aE), sI (Xpr.Col aE), sB (Val.Null (Xpr.V aE)), sI (Val.N (Xpr.V aE)), sD11 (Xpr.Kids aE)]), (32, .box 1 [sI (Rng.Low ((RangeOf (toExpr (Xpr.mk (Xpr.Kind aE) (Xpr.Col aE) (Xpr.V aE) (Xpr.Kids aE))) aWidth aCol).1)), sI (Rng.High ((RangeOf (toExpr (Xpr.mk (Xpr.Kind aE) (Xpr.Col aE) (Xpr.V aE) (Xpr.Kids aE))) aWidth aCol).1))])]⟩ [(Fits (Xpr.mk (Xpr.Kind aE) (Xpr.Col aE) (Xpr.V aE) (Xpr.Kids aE))), (True)] ?_ ?_))
  ·
   refine ⟨?_, ?_, trivial⟩
   ·
    exact Fits.of (l := 1048576) ⟨by decide, by decide⟩ (by first | exact h3q | exact trivial | exact trivial | exact trivial)
   ·
    trivial
  refine AW.seq (AW.r0 hC [1, 2, 3, 8, 9, 10] [12, 32, 40] ⟨[(1, sI aWidth), (2, sI aCol), (3, .ref 12 1 0), (8, .ref 32 1 0), (9, sB ((RangeOf (toExpr (Xpr.mk (Xpr.Kind aE) (Xpr.Col aE) (Xpr.V aE) (Xpr.Kids aE))) aWidth aCol).2)), (10, .ref 40 1 0)], [(12, .box 1 [sI (Xpr.Kind aE), sI (Xpr.Col aE), sB (Val.Null (Xpr.V aE)), sI (Val.N (Xpr.V aE)), sD11 (Xpr.Kids aE)]), (32, .box 1 [sI (Rng.Low ((RangeOf (toExpr (Xpr.mk (Xpr.Kind aE) (Xpr.Col aE) (Xpr.V aE) (Xpr.Kids aE))) aWidth aCol).1)), sI (Rng.High ((RangeOf (toExpr (Xpr.mk (Xpr.Kind aE) (Xpr.Col aE) (Xpr.V aE) (Xpr.Kids aE))) aWidth aCol).1))]), (40, .box 1 [sI (Xpr.Kind (toExpr (Xpr.mk (Xpr.Kind aE) (Xpr.Col aE) (Xpr.V aE) (Xpr.Kids aE)))), sI (Xpr.Col (toExpr (Xpr.mk (Xpr.Kind aE) (Xpr.Col aE) (Xpr.V aE) (Xpr.Kids aE)))), sB (Val.Null (Xpr.V (toExpr (Xpr.mk (Xpr.Kind aE) (Xpr.Col aE) (Xpr.V aE) (Xpr.Kids aE))))), sI (Val.N (Xpr.V (toExpr (Xpr.mk (Xpr.Kind aE) (Xpr.Col aE) (Xpr.V aE) (Xpr.Kids aE))))), sD11 (Xpr.Kids (toExpr (Xpr.mk (Xpr.Kind aE) (Xpr.Col aE) (Xpr.V aE) (Xpr.Kids aE))))])]⟩ [(Fits (Xpr.mk (Xpr.Kind aE) (Xpr.Col aE) (Xpr.V aE) (Xpr.Kids aE)))] ?_ ?_)
  ·
   refine ⟨?_, trivial⟩
   ·
    exact Fits.of (l := 1048576) ⟨by decide, by decide⟩ (by first | exact h3q | exact trivial | exact trivial | exact trivial)
  refine AW.seq (AW.r0 hC [3, 8, 9, 10, 11, 12] [12, 32, 40, 44] ⟨[(3, .ref 12 1 0), (8, .ref 32 1 0), (9, sB ((RangeOf (toExpr (Xpr.mk (Xpr.Kind aE) (Xpr.Col aE) (Xpr.V aE) (Xpr.Kids aE))) aWidth aCol).2)), (10, .ref 40 1 0), (11, .ref 44 1 0), (12, sB ((iRangeOf (Xpr.mk (Xpr.Kind (toExpr (Xpr.mk (Xpr.Kind aE) (Xpr.Col aE) (Xpr.V aE) (Xpr.Kids aE)))) (Xpr.Col (toExpr (Xpr.mk (Xpr.Kind aE) (Xpr.Col aE) (Xpr.V aE) (Xpr.Kids aE)))) (Xpr.V (toExpr (Xpr.mk (Xpr.Kind aE) (Xpr.Col aE) (Xpr.V aE) (Xpr.Kids aE)))) (Xpr.Kids (toExpr (Xpr.mk (Xpr.Kind aE) (Xpr.Col aE) (Xpr.V aE) (Xpr.Kids aE))))) aWidth aCol).2))], [(12, .box 1 [sI (Xpr.Kind aE), sI (Xpr.Col aE), sB (Val.Null (Xpr.V aE)), sI (Val.N (Xpr.V aE)), sD11 (Xpr.Kids aE)]), (32, .box 1 [sI (Rng.Low ((RangeOf (toExpr (Xpr.mk (Xpr.Kind aE) (Xpr.Col aE) (Xpr.V aE) (Xpr.Kids aE))) aWidth aCol).1)), sI (Rng.High ((RangeOf (toExpr (Xpr.mk (Xpr.Kind aE) (Xpr.Col aE) (Xpr.V aE) (Xpr.Kids aE))) aWidth aCol).1))]), (40, .box 1 [sI (Xpr.Kind (toExpr (Xpr.mk (Xpr.Kind aE) (Xpr.Col aE) (Xpr.V aE) (Xpr.Kids aE)))), sI (Xpr.Col (toExpr (Xpr.mk (Xpr.Kind aE) (Xpr.Col aE) (Xpr.V aE) (Xpr.Kids aE)))), sB (Val.Null (Xpr.V (toExpr (Xpr.mk (Xpr.Kind aE) (Xpr.Col aE) (Xpr.V aE) (Xpr.Kids aE))))), sI (Val.N (Xpr.V (toExpr (Xpr.mk (Xpr.Kind aE) (Xpr.Col aE) (Xpr.V aE) (Xpr.Kids aE))))), sD11 (Xpr.Kids (toExpr (Xpr.mk (Xpr.Kind aE) (Xpr.Col aE) (Xpr.V aE) (Xpr.Kids aE))))]), (44, .box 1 [sI (Rng.Low ((iRangeOf (Xpr.mk (Xpr.Kind (toExpr (Xpr.mk (Xpr.Kind aE) (Xpr.Col aE) (Xpr.V aE) (Xpr.Kids aE)))) (Xpr.Col (toExpr (Xpr.mk (Xpr.Kind aE) (Xpr.Col aE) (Xpr.V aE) (Xpr.Kids aE)))) (Xpr.V (toExpr (Xpr.mk (Xpr.Kind aE) (Xpr.Col aE) (Xpr.V aE) (Xpr.Kids aE)))) (Xpr.Kids (toExpr (Xpr.mk (Xpr.Kind aE) (Xpr.Col aE) (Xpr.V aE) (Xpr.Kids aE))))) aWidth aCol).1)), sI (Rng.High ((iRangeOf (Xpr.mk (Xpr.Kind (toExpr (Xpr.mk (Xpr.Kind aE) (Xpr.Col aE) (Xpr.V aE) (Xpr.Kids aE)))) (Xpr.Col (toExpr (Xpr.mk (Xpr.Kind aE) (Xpr.Col aE) (Xpr.V aE) (Xpr.Kids aE)))) (Xpr.V (toExpr (Xpr.mk (Xpr.Kind aE) (Xpr.Col aE) (Xpr.V aE) (Xpr.Kids aE)))) (Xpr.Kids (toExpr (Xpr.mk (Xpr.Kind aE) (Xpr.Col aE) (Xpr.V aE) (Xpr.Kids aE))))) aWidth aCol).1))])]⟩ [(True)] ?_ ?_)
  ·
   refine ⟨?_, trivial⟩
   ·
    trivial
  refine AW.seq (AW.seq (AW.r0 hC [3, 10, 43] [12, 40] ⟨[(3, .ref 12 1 0), (10, .ref 40 1 0), (43, sB (bif (!(eqRange ((iRangeOf (Xpr.mk (Xpr.Kind (toExpr (Xpr.mk (Xpr.Kind aE) (Xpr.Col aE) (Xpr.V aE) (Xpr.Kids aE)))) (Xpr.Col (toExpr (Xpr.mk (Xpr.Kind aE) (Xpr.Col aE) (Xpr.V aE) (Xpr.Kids aE)))) (Xpr.V (toExpr (Xpr.mk (Xpr.Kind aE) (Xpr.Col aE) (Xpr.V aE) (Xpr.Kids aE)))) (Xpr.Kids (toExpr (Xpr.mk (Xpr.Kind aE) (Xpr.Col aE) (Xpr.V aE) (Xpr.Kids aE))))) aWidth aCol).1) ((RangeOf (toExpr (Xpr.mk (Xpr.Kind aE) (Xpr.Col aE) (Xpr.V aE) (Xpr.Kids aE))) aWidth aCol).1))) then true else (((iRangeOf (Xpr.mk (Xpr.Kind (toExpr (Xpr.mk (Xpr.Kind aE) (Xpr.Col aE) (Xpr.V aE) (Xpr.Kids aE)))) (Xpr.Col (toExpr (Xpr.mk (Xpr.Kind aE) (Xpr.Col aE) (Xpr.V aE) (Xpr.Kids aE)))) (Xpr.V (toExpr (Xpr.mk (Xpr.Kind aE) (Xpr.Col aE) (Xpr.V aE) (Xpr.Kids aE)))) (Xpr.Kids (toExpr (Xpr.mk (Xpr.Kind aE) (Xpr.Col aE) (Xpr.V aE) (Xpr.Kids aE))))) aWidth aCol).2) != ((RangeOf (toExpr (Xpr.mk (Xpr.Kind aE) (Xpr.Col aE) (Xpr.V aE) (Xpr.Kids aE))) aWidth aCol).2))))], [(12, .box 1 [sI (Xpr.Kind aE), sI (Xpr.Col aE), sB (Val.Null (Xpr.V aE)), sI (Val.N (Xpr.V aE)), sD11 (Xpr.Kids aE)]), (40, .box 1 [sI (Xpr.Kind (toExpr (Xpr.mk (Xpr.Kind aE) (Xpr.Col aE) (Xpr.V aE) (Xpr.Kids aE)))), sI (Xpr.Col (toExpr (Xpr.mk (Xpr.Kind aE) (Xpr.Col aE) (Xpr.V aE) (Xpr.Kids aE)))), sB (Val.Null (Xpr.V (toExpr (Xpr.mk (Xpr.Kind aE) (Xpr.Col aE) (Xpr.V aE) (Xpr.Kids aE))))), sI (Val.N (Xpr.V (toExpr (Xpr.mk (Xpr.Kind aE) (Xpr.Col aE) (Xpr.V aE) (Xpr.Kids aE))))), sD11 (Xpr.Kids (toExpr (Xpr.mk (Xpr.Kind aE) (Xpr.Col aE) (Xpr.V aE) (Xpr.Kids aE))))])]⟩ [(True), (((!(eqRange ((iRangeOf (Xpr.mk (Xpr.Kind (toExpr (Xpr.mk (Xpr.Kind aE) (Xpr.Col aE) (Xpr.V aE) (Xpr.Kids aE)))) (Xpr.Col (toExpr (Xpr.mk (Xpr.Kind aE) (Xpr.Col aE) (Xpr.V aE) (Xpr.Kids aE)))) (Xpr.V (toExpr (Xpr.mk (Xpr.Kind aE) (Xpr.Col aE) (Xpr.V aE) (Xpr.Kids aE)))) (Xpr.Kids (toExpr (Xpr.mk (Xpr.Kind aE) (Xpr.Col aE) (Xpr.V aE) (Xpr.Kids aE))))) aWidth aCol).1) ((RangeOf (toExpr (Xpr.mk (Xpr.Kind aE) (Xpr.Col aE) (Xpr.V aE) (Xpr.Kids aE))) aWidth aCol).1))) = false) → (((!(eqRange ((iRangeOf (Xpr.mk (Xpr.Kind (toExpr (Xpr.mk (Xpr.Kind aE) (Xpr.Col aE) (Xpr.V aE) (Xpr.Kids aE)))) (Xpr.Col (toExpr (Xpr.mk (Xpr.Kind aE) (Xpr.Col aE) (Xpr.V aE) (Xpr.Kids aE)))) (Xpr.V (toExpr (Xpr.mk (Xpr.Kind aE) (Xpr.Col aE) (Xpr.V aE) (Xpr.Kids aE)))) (Xpr.Kids (toExpr (Xpr.mk (Xpr.Kind aE) (Xpr.Col aE) (Xpr.V aE) (Xpr.Kids aE))))) aWidth aCol).1) ((RangeOf (toExpr (Xpr.mk (Xpr.Kind aE) (Xpr.Col aE) (Xpr.V aE) (Xpr.Kids aE))) aWidth aCol).1))) = false))), (((!(eqRange ((iRangeOf (Xpr.mk (Xpr.Kind (toExpr (Xpr.mk (Xpr.Kind aE) (Xpr.Col aE) (Xpr.V aE) (Xpr.Kids aE)))) (Xpr.Col (toExpr (Xpr.mk (Xpr.Kind aE) (Xpr.Col aE) (Xpr.V aE) (Xpr.Kids aE)))) (Xpr.V (toExpr (Xpr.mk (Xpr.Kind aE) (Xpr.Col aE) (Xpr.V aE) (Xpr.Kids aE)))) (Xpr.Kids (toExpr (Xpr.mk (Xpr.Kind aE) (Xpr.Col aE) (Xpr.V aE) (Xpr.Kids aE))))) aWidth aCol).1) ((RangeOf (toExpr (Xpr.mk (Xpr.Kind aE) (Xpr.Col aE) (Xpr.V aE) (Xpr.Kids aE))) aWidth aCol).1))) = false) → (((!(eqRange ((iRangeOf (Xpr.mk (Xpr.Kind (toExpr (Xpr.mk (Xpr.Kind aE) (Xpr.Col aE) (Xpr.V aE) (Xpr.Kids aE)))) (Xpr.Col (toExpr (Xpr.mk (Xpr.Kind aE) (Xpr.Col aE) (Xpr.V aE) (Xpr.Kids aE)))) (Xpr.V (toExpr (Xpr.mk (Xpr.Kind aE) (Xpr.Col aE) (Xpr.V aE) (Xpr.Kids aE)))) (Xpr.Kids (toExpr (Xpr.mk (Xpr.Kind aE) (Xpr.Col aE) (Xpr.V aE) (Xpr.Kids aE))))) aWidth aCol).1) ((RangeOf (toExpr (Xpr.mk (Xpr.Kind aE) (Xpr.Col aE) (Xpr.V aE) (Xpr.Kids aE))) aWidth aCol).1))) = false))), (((!(eqRange ((iRangeOf (Xpr.mk (Xpr.Kind (toExpr (Xpr.mk (Xpr.Kind aE) (Xpr.Col aE) (Xpr.V aE) (Xpr.Kids aE)))) (Xpr.Col (toExpr (Xpr.mk (Xpr.Kind aE) (Xpr.Col aE) (Xpr.V aE) (Xpr.Kids aE)))) (Xpr.V (toExpr (Xpr.mk (Xpr.Kind aE) (Xpr.Col aE) (Xpr.V aE) (Xpr.Kids aE)))) (Xpr.Kids (toExpr (Xpr.mk (Xpr.Kind aE) (Xpr.Col aE) (Xpr.V aE) (Xpr.Kids aE))))) aWidth aCol).1) ((RangeOf (toExpr (Xpr.mk (Xpr.Kind aE) (Xpr.Col aE) (Xpr.V aE) (Xpr.Kids aE))) aWidth aCol).1))) = false) → (((!(eqRange ((iRangeOf (Xpr.mk (Xpr.Kind (toExpr (Xpr.mk (Xpr.Kind aE) (Xpr.Col aE) (Xpr.V aE) (Xpr.Kids aE)))) (Xpr.Col (toExpr (Xpr.mk (Xpr.Kind aE) (Xpr.Col aE) (Xpr.V aE) (Xpr.Kids aE)))) (Xpr.V (toExpr (Xpr.mk (Xpr.Kind aE) (Xpr.Col aE) (Xpr.V aE) (Xpr.Kids aE)))) (Xpr.Kids (toExpr (Xpr.mk (Xpr.Kind aE) (Xpr.Col aE) (Xpr.V aE) (Xpr.Kids aE))))) aWidth aCol).1) ((RangeOf (toExpr (Xpr.mk (Xpr.Kind aE) (Xpr.Col aE) (Xpr.V aE) (Xpr.Kids aE))) aWidth aCol).1))) = false)))] ?_ ?_))
  ·
   refine ⟨?_, ?_, ?_, ?_, trivial⟩
   ·
    trivial
   ·
    intro g5
    have g5p0 : (eqRange ((iRangeOf (Xpr.mk (Xpr.Kind (toExpr (Xpr.mk (Xpr.Kind aE) (Xpr.Col aE) (Xpr.V aE) (Xpr.Kids aE)))) (Xpr.Col (toExpr (Xpr.mk (Xpr.Kind aE) (Xpr.Col aE) (Xpr.V aE) (Xpr.Kids aE)))) (Xpr.V (toExpr (Xpr.mk (Xpr.Kind aE) (Xpr.Col aE) (Xpr.V aE) (Xpr.Kids aE)))) (Xpr.Kids (toExpr (Xpr.mk (Xpr.Kind aE) (Xpr.Col aE) (Xpr.V aE) (Xpr.Kids aE))))) aWidth aCol).1) ((RangeOf (toExpr (Xpr.mk (Xpr.Kind aE) (Xpr.Col aE) (Xpr.V aE) (Xpr.Kids aE))) aWidth aCol).1)) = true := (Go.Am.not_neg g5)
    assumption
   ·
    intro g6
    have g6p0 : (eqRange ((iRangeOf (Xpr.mk (Xpr.Kind (toExpr (Xpr.mk (Xpr.Kind aE) (Xpr.Col aE) (Xpr.V aE) (Xpr.Kids aE)))) (Xpr.Col (toExpr (Xpr.mk (Xpr.Kind aE) (Xpr.Col aE) (Xpr.V aE) (Xpr.Kids aE)))) (Xpr.V (toExpr (Xpr.mk (Xpr.Kind aE) (Xpr.Col aE) (Xpr.V aE) (Xpr.Kids aE)))) (Xpr.Kids (toExpr (Xpr.mk (Xpr.Kind aE) (Xpr.Col aE) (Xpr.V aE) (Xpr.Kids aE))))) aWidth aCol).1) ((RangeOf (toExpr (Xpr.mk (Xpr.Kind aE) (Xpr.Col aE) (Xpr.V aE) (Xpr.Kids aE))) aWidth aCol).1)) = true := (Go.Am.not_neg g6)
    assumption
   ·
    intro g7
    have g7p0 : (eqRange ((iRangeOf (Xpr.mk (Xpr.Kind (toExpr (Xpr.mk (Xpr.Kind aE) (Xpr.Col aE) (Xpr.V aE) (Xpr.Kids aE)))) (Xpr.Col (toExpr (Xpr.mk (Xpr.Kind aE) (Xpr.Col aE) (Xpr.V aE) (Xpr.Kids aE)))) (Xpr.V (toExpr (Xpr.mk (Xpr.Kind aE) (Xpr.Col aE) (Xpr.V aE) (Xpr.Kids aE)))) (Xpr.Kids (toExpr (Xpr.mk (Xpr.Kind aE) (Xpr.Col aE) (Xpr.V aE) (Xpr.Kids aE))))) aWidth aCol).1) ((RangeOf (toExpr (Xpr.mk (Xpr.Kind aE) (Xpr.Col aE) (Xpr.V aE) (Xpr.Kids aE))) aWidth aCol).1)) = true := (Go.Am.not_neg g7)
    assumption
  refine AW.cd (bif (!(eqRange ((iRangeOf (Xpr.mk (Xpr.Kind (toExpr (Xpr.mk (Xpr.Kind aE) (Xpr.Col aE) (Xpr.V aE) (Xpr.Kids aE)))) (Xpr.Col (toExpr (Xpr.mk (Xpr.Kind aE) (Xpr.Col aE) (Xpr.V aE) (Xpr.Kids aE)))) (Xpr.V (toExpr (Xpr.mk (Xpr.Kind aE) (Xpr.Col aE) (Xpr.V aE) (Xpr.Kids aE)))) (Xpr.Kids (toExpr (Xpr.mk (Xpr.Kind aE) (Xpr.Col aE) (Xpr.V aE) (Xpr.Kids aE))))) aWidth aCol).1) ((RangeOf (toExpr (Xpr.mk (Xpr.Kind aE) (Xpr.Col aE) (Xpr.V aE) (Xpr.Kids aE))) aWidth aCol).1))) then true else (((iRangeOf (Xpr.mk (Xpr.Kind (toExpr (Xpr.mk (Xpr.Kind aE) (Xpr.Col aE) (Xpr.V aE) (Xpr.Kids aE)))) (Xpr.Col (toExpr (Xpr.mk (Xpr.Kind aE) (Xpr.Col aE) (Xpr.V aE) (Xpr.Kids aE)))) (Xpr.V (toExpr (Xpr.mk (Xpr.Kind aE) (Xpr.Col aE) (Xpr.V aE) (Xpr.Kids aE)))) (Xpr.Kids (toExpr (Xpr.mk (Xpr.Kind aE) (Xpr.Col aE) (Xpr.V aE) (Xpr.Kids aE))))) aWidth aCol).2) != ((RangeOf (toExpr (Xpr.mk (Xpr.Kind aE) (Xpr.Col aE) (Xpr.V aE) (Xpr.Kids aE))) aWidth aCol).2))) ?_ ?_
  ·
   intro h8
   have h8q : ((eqRange ((iRangeOf (Xpr.mk (Xpr.Kind (toExpr (Xpr.mk (Xpr.Kind aE) (Xpr.Col aE) (Xpr.V aE) (Xpr.Kids aE)))) (Xpr.Col (toExpr (Xpr.mk (Xpr.Kind aE) (Xpr.Col aE) (Xpr.V aE) (Xpr.Kids aE)))) (Xpr.V (toExpr (Xpr.mk (Xpr.Kind aE) (Xpr.Col aE) (Xpr.V aE) (Xpr.Kids aE)))) (Xpr.Kids (toExpr (Xpr.mk (Xpr.Kind aE) (Xpr.Col aE) (Xpr.V aE) (Xpr.Kids aE))))) aWidth aCol).1) ((RangeOf (toExpr (Xpr.mk (Xpr.Kind aE) (Xpr.Col aE) (Xpr.V aE) (Xpr.Kids aE))) aWidth aCol).1)) = false) ∨ ((((iRangeOf (Xpr.mk (Xpr.Kind (toExpr (Xpr.mk (Xpr.Kind aE) (Xpr.Col aE) (Xpr.V aE) (Xpr.Kids aE)))) (Xpr.Col (toExpr (Xpr.mk (Xpr.Kind aE) (Xpr.Col aE) (Xpr.V aE) (Xpr.Kids aE)))) (Xpr.V (toExpr (Xpr.mk (Xpr.Kind aE) (Xpr.Col aE) (Xpr.V aE) (Xpr.Kids aE)))) (Xpr.Kids (toExpr (Xpr.mk (Xpr.Kind aE) (Xpr.Col aE) (Xpr.V aE) (Xpr.Kids aE))))) aWidth aCol).2) != ((RangeOf (toExpr (Xpr.mk (Xpr.Kind aE) (Xpr.Col aE) (Xpr.V aE) (Xpr.Kids aE))) aWidth aCol).2)) = true) := (Or.imp (fun h => (Go.Am.not_pos h)) (fun h => h) (Go.Am.or_pos h8))
   have e9 := e4.trans (Go.Am.bif_t h8)
   refine AW.seq (AW.r1 hC [6] [] ⟨[(6, sB false)], []⟩ ?_)
   exact AW.ret (AW.rB false e9)
  ·
   intro h10
   have h10q : ((eqRange ((iRangeOf (Xpr.mk (Xpr.Kind (toExpr (Xpr.mk (Xpr.Kind aE) (Xpr.Col aE) (Xpr.V aE) (Xpr.Kids aE)))) (Xpr.Col (toExpr (Xpr.mk (Xpr.Kind aE) (Xpr.Col aE) (Xpr.V aE) (Xpr.Kids aE)))) (Xpr.V (toExpr (Xpr.mk (Xpr.Kind aE) (Xpr.Col aE) (Xpr.V aE) (Xpr.Kids aE)))) (Xpr.Kids (toExpr (Xpr.mk (Xpr.Kind aE) (Xpr.Col aE) (Xpr.V aE) (Xpr.Kids aE))))) aWidth aCol).1) ((RangeOf (toExpr (Xpr.mk (Xpr.Kind aE) (Xpr.Col aE) (Xpr.V aE) (Xpr.Kids aE))) aWidth aCol).1)) = true) ∧ ((((iRangeOf (Xpr.mk (Xpr.Kind (toExpr (Xpr.mk (Xpr.Kind aE) (Xpr.Col aE) (Xpr.V aE) (Xpr.Kids aE)))) (Xpr.Col (toExpr (Xpr.mk (Xpr.Kind aE) (Xpr.Col aE) (Xpr.V aE) (Xpr.Kids aE)))) (Xpr.V (toExpr (Xpr.mk (Xpr.Kind aE) (Xpr.Col aE) (Xpr.V aE) (Xpr.Kids aE)))) (Xpr.Kids (toExpr (Xpr.mk (Xpr.Kind aE) (Xpr.Col aE) (Xpr.V aE) (Xpr.Kids aE))))) aWidth aCol).2) != ((RangeOf (toExpr (Xpr.mk (Xpr.Kind aE) (Xpr.Col aE) (Xpr.V aE) (Xpr.Kids aE))) aWidth aCol).2)) = false) := (And.imp (fun h => (Go.Am.not_neg h)) (fun h => h) (Go.Am.or_neg h10))
   have e11 := e4.trans (Go.Am.bif_f h10)
   refine AW.kp [3, 10] [12, 40] ⟨[(3, .ref 12 1 0), (10, .ref 40 1 0)], [(12, .box 1 [sI (Xpr.Kind aE), sI (Xpr.Col aE), sB (Val.Null (Xpr.V aE)), sI (Val.N (Xpr.V aE)), sD11 (Xpr.Kids aE)]), (40, .box 1 [sI (Xpr.Kind (toExpr (Xpr.mk (Xpr.Kind aE) (Xpr.Col aE) (Xpr.V aE) (Xpr.Kids aE)))), sI (Xpr.Col (toExpr (Xpr.mk (Xpr.Kind aE) (Xpr.Col aE) (Xpr.V aE) (Xpr.Kids aE)))), sB (Val.Null (Xpr.V (toExpr (Xpr.mk (Xpr.Kind aE) (Xpr.Col aE) (Xpr.V aE) (Xpr.Kids aE))))), sI (Val.N (Xpr.V (toExpr (Xpr.mk (Xpr.Kind aE) (Xpr.Col aE) (Xpr.V aE) (Xpr.Kids aE))))), sD11 (Xpr.Kids (toExpr (Xpr.mk (Xpr.Kind aE) (Xpr.Col aE) (Xpr.V aE) (Xpr.Kids aE))))])]⟩ ?_
   refine AW.skip (AW.seq (AW.seq (AW.d0 hC hM [48] [] ⟨[(48, sB (!(eqExpr (Xpr.mk (Xpr.Kind (toExpr (Xpr.mk (Xpr.Kind aE) (Xpr.Col aE) (Xpr.V aE) (Xpr.Kids aE)))) (Xpr.Col (toExpr (Xpr.mk (Xpr.Kind aE) (Xpr.Col aE) (Xpr.V aE) (Xpr.Kids aE)))) (Xpr.V (toExpr (Xpr.mk (Xpr.Kind aE) (Xpr.Col aE) (Xpr.V aE) (Xpr.Kids aE)))) (Xpr.Kids (toExpr (Xpr.mk (Xpr.Kind aE) (Xpr.Col aE) (Xpr.V aE) (Xpr.Kids aE))))) (toExpr (Xpr.mk (Xpr.Kind aE) (Xpr.Col aE) (Xpr.V aE) (Xpr.Kids aE))))))], []⟩ [(Fits (Xpr.mk (Xpr.Kind aE) (Xpr.Col aE) (Xpr.V aE) (Xpr.Kids aE))), (True)] ?_ ?_)))
   ·
    refine ⟨?_, ?_, trivial⟩
    ·
     exact Fits.of (l := 1048576) ⟨by decide, by decide⟩ (by first | exact h10q | exact h3q | exact trivial | exact trivial)
    ·
     trivial
   refine AW.cd (!(eqExpr (Xpr.mk (Xpr.Kind (toExpr (Xpr.mk (Xpr.Kind aE) (Xpr.Col aE) (Xpr.V aE) (Xpr.Kids aE)))) (Xpr.Col (toExpr (Xpr.mk (Xpr.Kind aE) (Xpr.Col aE) (Xpr.V aE) (Xpr.Kids aE)))) (Xpr.V (toExpr (Xpr.mk (Xpr.Kind aE) (Xpr.Col aE) (Xpr.V aE) (Xpr.Kids aE)))) (Xpr.Kids (toExpr (Xpr.mk (Xpr.Kind aE) (Xpr.Col aE) (Xpr.V aE) (Xpr.Kids aE))))) (toExpr (Xpr.mk (Xpr.Kind aE) (Xpr.Col aE) (Xpr.V aE) (Xpr.Kids aE))))) ?_ ?_
   ·
    intro h12
    have h12q := (Go.Am.not_pos h12)
    have e13 := e11.trans (Go.Am.bif_t h12)
    refine AW.seq (AW.r1 hC [6] [] ⟨[(6, sB false)], []⟩ ?_)
    exact AW.ret (AW.rB false e13)
   ·
    intro h14
    have h14q := (Go.Am.not_neg h14)
    have e15 := e11.trans (Go.Am.bif_f h14)
    refine AW.kp [] [] ⟨[], []⟩ ?_
    refine AW.skip (AW.seq (AW.r1 hC [6] [] ⟨[(6, sB true)], []⟩ ?_))
    exact AW.ret (AW.rB true e15)

theorem FnExactRangeOf_law (e : Xpr) (w col : Int) : FnExactRangeOf e w col = true := by
 unfold FnExactRangeOf
 rw [Xpr.eta, Xpr.eta, range_eq, eqExpr_self]
 unfold eqRange
 simp

end
end Go.Proofs.Ytbgbekpbbcahpaa
