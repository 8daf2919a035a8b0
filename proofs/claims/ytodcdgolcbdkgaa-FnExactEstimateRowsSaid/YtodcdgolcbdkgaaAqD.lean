/-
  A part of the proof of this claim (AqD): what functions of the program compute, and plain facts of that. No conditions.
-/
import Derived.Test.YtodcdgolcbdkgaaAqC
set_option linter.all false
namespace Go.Proofs.Ytodcdgolcbdkgaa
open Go Go.Am
noncomputable section

def FnExactEstimateRows (aP : Pln) (aStats : List Sta) : Bool := (bif (decide ((szPlan (Pln.mk (Pln.Kind aP) (Pln.Table aP) (Pln.Exprs aP) (Pln.Cols aP) (Pln.Kids aP)) 1048576) < 0)) then true else (bif (decide ((szStatsS aStats (szPlan (Pln.mk (Pln.Kind aP) (Pln.Table aP) (Pln.Exprs aP) (Pln.Cols aP) (Pln.Kids aP)) 1048576)) < 0)) then true else (bif ((iEstimateRows (Pln.mk (Pln.Kind (toPlan (Pln.mk (Pln.Kind aP) (Pln.Table aP) (Pln.Exprs aP) (Pln.Cols aP) (Pln.Kids aP)))) (Pln.Table (toPlan (Pln.mk (Pln.Kind aP) (Pln.Table aP) (Pln.Exprs aP) (Pln.Cols aP) (Pln.Kids aP)))) (Pln.Exprs (toPlan (Pln.mk (Pln.Kind aP) (Pln.Table aP) (Pln.Exprs aP) (Pln.Cols aP) (Pln.Kids aP)))) (Pln.Cols (toPlan (Pln.mk (Pln.Kind aP) (Pln.Table aP) (Pln.Exprs aP) (Pln.Cols aP) (Pln.Kids aP)))) (Pln.Kids (toPlan (Pln.mk (Pln.Kind aP) (Pln.Table aP) (Pln.Exprs aP) (Pln.Cols aP) (Pln.Kids aP))))) (toStatsS aStats)) != (EstimateRows (toPlan (Pln.mk (Pln.Kind aP) (Pln.Table aP) (Pln.Exprs aP) (Pln.Cols aP) (Pln.Kids aP))) (toStatsS aStats))) then false else (bif (!(eqPlan (Pln.mk (Pln.Kind (toPlan (Pln.mk (Pln.Kind aP) (Pln.Table aP) (Pln.Exprs aP) (Pln.Cols aP) (Pln.Kids aP)))) (Pln.Table (toPlan (Pln.mk (Pln.Kind aP) (Pln.Table aP) (Pln.Exprs aP) (Pln.Cols aP) (Pln.Kids aP)))) (Pln.Exprs (toPlan (Pln.mk (Pln.Kind aP) (Pln.Table aP) (Pln.Exprs aP) (Pln.Cols aP) (Pln.Kids aP)))) (Pln.Cols (toPlan (Pln.mk (Pln.Kind aP) (Pln.Table aP) (Pln.Exprs aP) (Pln.Cols aP) (Pln.Kids aP)))) (Pln.Kids (toPlan (Pln.mk (Pln.Kind aP) (Pln.Table aP) (Pln.Exprs aP) (Pln.Cols aP) (Pln.Kids aP))))) (toPlan (Pln.mk (Pln.Kind aP) (Pln.Table aP) (Pln.Exprs aP) (Pln.Cols aP) (Pln.Kids aP))))) then false else (bif (!(eqStatsS (toStatsS aStats) (toStatsS aStats))) then false else true)))))

def FnExactEstimateRows_sp : FnSpec := mkSpec [.val (.named 2), .val (.slice (.named 3))] [.val .bool] (fun (aP : Pln) (aStats : List Sta) => True) (fun (aP : Pln) (aStats : List Sta) => [⟨.bool, (FnExactEstimateRows aP aStats)⟩])

theorem FnExactEstimateRows_ok : FnOK Try.prog 6 FnExactEstimateRows_sp := by
 have hC : CtxOK Try.prog (mkCtx tyL [(15, szPlan_sp), (16, szStatsS_sp), (18, toPlan_sp), (19, toStatsS_sp), (21, eqPlan_sp), (22, eqStatsS_sp), (41, EstimateRows_sp), (42, iEstimateRows_sp)]) := CtxOK.cons szPlan_ok (CtxOK.cons szStatsS_ok (CtxOK.cons toPlan_ok (CtxOK.cons toStatsS_ok (CtxOK.cons eqPlan_ok (CtxOK.cons eqStatsS_ok (CtxOK.cons EstimateRows_ok (CtxOK.cons iEstimateRows_ok (CtxOK.nil tyOK))))))))
 have hM : Try.prog.follows .mixedOrders = true := Try.checked.mixed
 refine FnOK.of_body Try.func6 (by kernel_rfl) rfl (C := (mkCtx tyL [(15, szPlan_sp), (16, szStatsS_sp), (18, toPlan_sp), (19, toStatsS_sp), (21, eqPlan_sp), (22, eqStatsS_sp), (41, EstimateRows_sp), (42, iEstimateRows_sp)])) hC.ty (by kernel_rfl) ?_
 intro (aP : Pln) (aStats : List Sta) hwf hpre E
 have hpre : True := hpre
 have hw_aP : Wf ⟨(.named 2), (aP : Pln)⟩ := hwf _ (List.Mem.head _)
 obtain ⟨hr_aP_Kind, hr_aP_Table, hl_aP_Exprs, hl_aP_Cols, hl_aP_Kids⟩ := Pln.wfl hw_aP
 have hw_aStats : Wf ⟨(.slice (.named 3)), (aStats : List Sta)⟩ := hwf _ (List.Mem.tail _ (List.Mem.head _))
 have hl_aStats : ((List.length aStats : Nat) : Int) ≤ 9223372036854775807 := hw_aStats.len
 have e0 : FnExactEstimateRows aP aStats = FnExactEstimateRows aP aStats := rfl
 refine AW.seq (AW.r1 hC [1, 2] [8] ⟨[(1, sD11 aStats), (2, .ref 8 1 0)], [(8, .box 1 [sI (Pln.Kind aP), sI (Pln.Table aP), sD9 (Pln.Exprs aP), sD7 (Pln.Cols aP), sD10 (Pln.Kids aP)])]⟩ ?_)
 refine AW.seq (AW.r1 hC [1, 2, 5] [8] ⟨[(1, sD11 aStats), (2, .ref 8 1 0), (5, sI 1048576)], [(8, .box 1 [sI (Pln.Kind aP), sI (Pln.Table aP), sD9 (Pln.Exprs aP), sD7 (Pln.Cols aP), sD10 (Pln.Kids aP)])]⟩ ?_)
 refine AW.seq (AW.r0 hC [1, 2, 5] [8] ⟨[(1, sD11 aStats), (2, .ref 8 1 0), (5, sI (szPlan (Pln.mk (Pln.Kind aP) (Pln.Table aP) (Pln.Exprs aP) (Pln.Cols aP) (Pln.Kids aP)) 1048576))], [(8, .box 1 [sI (Pln.Kind aP), sI (Pln.Table aP), sD9 (Pln.Exprs aP), sD7 (Pln.Cols aP), sD10 (Pln.Kids aP)])]⟩ [(0 ≤ (1048576 : Int))] ?_ ?_)
 ·
  refine ⟨?_, trivial⟩
  ·
   omega
 refine AW.seq (AW.seq (AW.r1 hC [1, 2, 5, 14] [8] ⟨[(1, sD11 aStats), (2, .ref 8 1 0), (5, sI (szPlan (Pln.mk (Pln.Kind aP) (Pln.Table aP) (Pln.Exprs aP) (Pln.Cols aP) (Pln.Kids aP)) 1048576)), (14, sB (decide ((szPlan (Pln.mk (Pln.Kind aP) (Pln.Table aP) (Pln.Exprs aP) (Pln.Cols aP) (Pln.Kids aP)) 1048576) < 0)))], [(8, .box 1 [sI (Pln.Kind aP), sI (Pln.Table aP), sD9 (Pln.Exprs aP), sD7 (Pln.Cols aP), sD10 (Pln.Kids aP)])]⟩ ?_))
 refine AW.cd (decide ((szPlan (Pln.mk (Pln.Kind aP) (Pln.Table aP) (Pln.Exprs aP) (Pln.Cols aP) (Pln.Kids aP)) 1048576) < 0)) ?_ ?_
 ·
  intro h1
  have h1q := (of_decide_eq_true h1)
  have e2 := e0.trans (Go.Am.bif_t h1)
  refine AW.seq (AW.r1 hC [4] [] ⟨[(4, sB true)], []⟩ ?_)
  exact AW.ret (AW.rB true e2)
 ·
  intro h3
  have h3q := (of_decide_eq_false h3)
  have e4 := e0.trans (Go.Am.bif_f h3)
  refine AW.kp [1, 2, 5] [8] ⟨[(1, sD11 aStats), (2, .ref 8 1 0), (5, sI (szPlan (Pln.mk (Pln.Kind aP) (Pln.Table aP) (Pln.Exprs aP) (Pln.Cols aP) (Pln.Kids aP)) 1048576))], [(8, .box 1 [sI (Pln.Kind aP), sI (Pln.Table aP), sD9 (Pln.Exprs aP), sD7 (Pln.Cols aP), sD10 (Pln.Kids aP)])]⟩ ?_
  refine AW.skip (AW.seq (AW.r0 hC [1, 2, 5] [8] ⟨[(1, sD11 aStats), (2, .ref 8 1 0), (5, sI (szStatsS aStats (szPlan (Pln.mk (Pln.Kind aP) (Pln.Table aP) (Pln.Exprs aP) (Pln.Cols aP) (Pln.Kids aP)) 1048576)))], [(8, .box 1 [sI (Pln.Kind aP), sI (Pln.Table aP), sD9 (Pln.Exprs aP), sD7 (Pln.Cols aP), sD10 (Pln.Kids aP)])]⟩ [(0 ≤ (szPlan (Pln.mk (Pln.Kind aP) (Pln.Table aP) (Pln.Exprs aP) (Pln.Cols aP) (Pln.Kids aP)) 1048576))] ?_ ?_))
  ·
   refine ⟨?_, trivial⟩
   ·
    omega
  refine AW.seq (AW.seq (AW.r1 hC [1, 2, 19] [8] ⟨[(1, sD11 aStats), (2, .ref 8 1 0), (19, sB (decide ((szStatsS aStats (szPlan (Pln.mk (Pln.Kind aP) (Pln.Table aP) (Pln.Exprs aP) (Pln.Cols aP) (Pln.Kids aP)) 1048576)) < 0)))], [(8, .box 1 [sI (Pln.Kind aP), sI (Pln.Table aP), sD9 (Pln.Exprs aP), sD7 (Pln.Cols aP), sD10 (Pln.Kids aP)])]⟩ ?_))
  refine AW.cd (decide ((szStatsS aStats (szPlan (Pln.mk (Pln.Kind aP) (Pln.Table aP) (Pln.Exprs aP) (Pln.Cols aP) (Pln.Kids aP)) 1048576)) < 0)) ?_ ?_
  ·
   intro h5
   have h5q := (of_decide_eq_true h5)
   have e6 := e4.trans (Go.Am.bif_t h5)
   refine AW.seq (AW.r1 hC [4] [] ⟨[(4, sB true)], []⟩ ?_)
   exact AW.ret (AW.rB true e6)
  ·
   intro h7
   have h7q := (of_decide_eq_false h7)
   have e8 := e4.trans (Go.Am.bif_f h7)
   refine AW.kp [1, 2] [8] ⟨[(1, sD11 aStats), (2, .ref 8 1 0)], [(8, .box 1 [sI (Pln.Kind aP), sI (Pln.Table aP), sD9 (Pln.Exprs aP), sD7 (Pln.Cols aP), sD10 (Pln.Kids aP)])]⟩ ?_
   refine AW.skip (AW.seq (AW.r0 hC [1, 2, 6] [8] ⟨[(1, sD11 aStats), (2, .ref 8 1 0), (6, sI (EstimateRows (toPlan (Pln.mk (Pln.Kind aP) (Pln.Table aP) (Pln.Exprs aP) (Pln.Cols aP) (Pln.Kids aP))) (toStatsS aStats)))], [(8, .box 1 [sI (Pln.Kind aP), sI (Pln.Table aP), sD9 (Pln.Exprs aP), sD7 (Pln.Cols aP), sD10 (Pln.Kids aP)])]⟩ [(FitsP (Pln.mk (Pln.Kind aP) (Pln.Table aP) (Pln.Exprs aP) (Pln.Cols aP) (Pln.Kids aP))), (FitSt aStats), ((List.length (toStatsS aStats) : Int) ≤ 1048576)] ?_ ?_))
   ·
    refine ⟨?_, ?_, ?_, trivial⟩
    ·
     exact FitsP.of (l := 1048576) ⟨by decide, by decide⟩ (by first | exact trivial | exact trivial | exact trivial | exact h3q | exact h7q)
    ·
     exact FitSt.of2 h3q h7q
    ·
     rw [toStatsS_len]
     exact (FitSt.of2 h3q h7q).len
   refine AW.seq (AW.r0 hC [1, 2, 6, 7] [8, 28] ⟨[(1, sD11 aStats), (2, .ref 8 1 0), (6, sI (EstimateRows (toPlan (Pln.mk (Pln.Kind aP) (Pln.Table aP) (Pln.Exprs aP) (Pln.Cols aP) (Pln.Kids aP))) (toStatsS aStats))), (7, .ref 28 1 0)], [(8, .box 1 [sI (Pln.Kind aP), sI (Pln.Table aP), sD9 (Pln.Exprs aP), sD7 (Pln.Cols aP), sD10 (Pln.Kids aP)]), (28, .box 1 [sI (Pln.Kind (toPlan (Pln.mk (Pln.Kind aP) (Pln.Table aP) (Pln.Exprs aP) (Pln.Cols aP) (Pln.Kids aP)))), sI (Pln.Table (toPlan (Pln.mk (Pln.Kind aP) (Pln.Table aP) (Pln.Exprs aP) (Pln.Cols aP) (Pln.Kids aP)))), sD9 (Pln.Exprs (toPlan (Pln.mk (Pln.Kind aP) (Pln.Table aP) (Pln.Exprs aP) (Pln.Cols aP) (Pln.Kids aP)))), sD7 (Pln.Cols (toPlan (Pln.mk (Pln.Kind aP) (Pln.Table aP) (Pln.Exprs aP) (Pln.Cols aP) (Pln.Kids aP)))), sD10 (Pln.Kids (toPlan (Pln.mk (Pln.Kind aP) (Pln.Table aP) (Pln.Exprs aP) (Pln.Cols aP) (Pln.Kids aP))))])]⟩ [(FitsP (Pln.mk (Pln.Kind aP) (Pln.Table aP) (Pln.Exprs aP) (Pln.Cols aP) (Pln.Kids aP)))] ?_ ?_)
   ·
    refine ⟨?_, trivial⟩
    ·
     exact FitsP.of (l := 1048576) ⟨by decide, by decide⟩ (by first | exact trivial | exact trivial | exact trivial | exact h3q | exact h7q)
   refine AW.seq (AW.r0 hC [1, 2, 6, 7, 8] [8, 28, 112] ⟨[(1, sD11 aStats), (2, .ref 8 1 0), (6, sI (EstimateRows (toPlan (Pln.mk (Pln.Kind aP) (Pln.Table aP) (Pln.Exprs aP) (Pln.Cols aP) (Pln.Kids aP))) (toStatsS aStats))), (7, .ref 28 1 0), (8, .arr 112 1)], [(8, .box 1 [sI (Pln.Kind aP), sI (Pln.Table aP), sD9 (Pln.Exprs aP), sD7 (Pln.Cols aP), sD10 (Pln.Kids aP)]), (28, .box 1 [sI (Pln.Kind (toPlan (Pln.mk (Pln.Kind aP) (Pln.Table aP) (Pln.Exprs aP) (Pln.Cols aP) (Pln.Kids aP)))), sI (Pln.Table (toPlan (Pln.mk (Pln.Kind aP) (Pln.Table aP) (Pln.Exprs aP) (Pln.Cols aP) (Pln.Kids aP)))), sD9 (Pln.Exprs (toPlan (Pln.mk (Pln.Kind aP) (Pln.Table aP) (Pln.Exprs aP) (Pln.Cols aP) (Pln.Kids aP)))), sD7 (Pln.Cols (toPlan (Pln.mk (Pln.Kind aP) (Pln.Table aP) (Pln.Exprs aP) (Pln.Cols aP) (Pln.Kids aP)))), sD10 (Pln.Kids (toPlan (Pln.mk (Pln.Kind aP) (Pln.Table aP) (Pln.Exprs aP) (Pln.Cols aP) (Pln.Kids aP))))]), (112, .arr 1 (.named 3) ((toStatsS aStats) : List Sta))]⟩ [(FitSt aStats)] ?_ ?_)
   ·
    refine ⟨?_, trivial⟩
    ·
     exact FitSt.of2 h3q h7q
   refine AW.seq (AW.r0 hC [1, 2, 6, 7, 8, 9] [8, 28, 112] ⟨[(1, sD11 aStats), (2, .ref 8 1 0), (6, sI (EstimateRows (toPlan (Pln.mk (Pln.Kind aP) (Pln.Table aP) (Pln.Exprs aP) (Pln.Cols aP) (Pln.Kids aP))) (toStatsS aStats))), (7, .ref 28 1 0), (8, .arr 112 1), (9, sI (iEstimateRows (Pln.mk (Pln.Kind (toPlan (Pln.mk (Pln.Kind aP) (Pln.Table aP) (Pln.Exprs aP) (Pln.Cols aP) (Pln.Kids aP)))) (Pln.Table (toPlan (Pln.mk (Pln.Kind aP) (Pln.Table aP) (Pln.Exprs aP) (Pln.Cols aP) (Pln.Kids aP)))) (Pln.Exprs (toPlan (Pln.mk (Pln.Kind aP) (Pln.Table aP) (Pln.Exprs aP) (Pln.Cols aP) (Pln.Kids aP)))) (Pln.Cols (toPlan (Pln.mk (Pln.Kind aP) (Pln.Table aP) (Pln.Exprs aP) (Pln.Cols aP) (Pln.Kids aP)))) (Pln.Kids (toPlan (Pln.mk (Pln.Kind aP) (Pln.Table aP) (Pln.Exprs aP) (Pln.Cols aP) (Pln.Kids aP))))) (toStatsS aStats)))], [(8, .box 1 [sI (Pln.Kind aP), sI (Pln.Table aP), sD9 (Pln.Exprs aP), sD7 (Pln.Cols aP), sD10 (Pln.Kids aP)]), (28, .box 1 [sI (Pln.Kind (toPlan (Pln.mk (Pln.Kind aP) (Pln.Table aP) (Pln.Exprs aP) (Pln.Cols aP) (Pln.Kids aP)))), sI (Pln.Table (toPlan (Pln.mk (Pln.Kind aP) (Pln.Table aP) (Pln.Exprs aP) (Pln.Cols aP) (Pln.Kids aP)))), sD9 (Pln.Exprs (toPlan (Pln.mk (Pln.Kind aP) (Pln.Table aP) (Pln.Exprs aP) (Pln.Cols aP) (Pln.Kids aP)))), sD7 (Pln.Cols (toPlan (Pln.mk (Pln.Kind aP) (Pln.Table aP) (Pln.Exprs aP) (Pln.Cols aP) (Pln.Kids aP)))), sD10 (Pln.Kids (toPlan (Pln.mk (Pln.Kind aP) (Pln.Table aP) (Pln.Exprs aP) (Pln.Cols aP) (Pln.Kids aP))))]), (112, .arr 1 (.named 3) ((toStatsS aStats) : List Sta))]⟩ [(True)] ?_ ?_)
   ·
    refine ⟨?_, trivial⟩
    ·
     trivial
   refine AW.seq (AW.seq (AW.r1 hC [1, 2, 7, 8, 34] [8, 28, 112] ⟨[(1, sD11 aStats), (2, .ref 8 1 0), (7, .ref 28 1 0), (8, .arr 112 1), (34, sB ((iEstimateRows (Pln.mk (Pln.Kind (toPlan (Pln.mk (Pln.Kind aP) (Pln.Table aP) (Pln.Exprs aP) (Pln.Cols aP) (Pln.Kids aP)))) (Pln.Table (toPlan (Pln.mk (Pln.Kind aP) (Pln.Table aP) (Pln.Exprs aP) (Pln.Cols aP) (Pln.Kids aP)))) (Pln.Exprs (toPlan (Pln.mk (Pln.Kind aP) (Pln.Table aP) (Pln.Exprs aP) (Pln.Cols aP) (Pln.Kids aP)))) (Pln.Cols (toPlan (Pln.mk (Pln.Kind aP) (Pln.Table aP) (Pln.Exprs aP) (Pln.Cols aP) (Pln.Kids aP)))) (Pln.Kids (toPlan (Pln.mk (Pln.Kind aP) (Pln.Table aP) (Pln.Exprs aP) (Pln.Cols aP) (Pln.Kids aP))))) (toStatsS aStats)) != (EstimateRows (toPlan (Pln.mk (Pln.Kind aP) (Pln.Table aP) (Pln.Exprs aP) (Pln.Cols aP) (Pln.Kids aP))) (toStatsS aStats))))], [(8, .box 1 [sI (Pln.Kind aP), sI (Pln.Table aP), sD9 (Pln.Exprs aP), sD7 (Pln.Cols aP), sD10 (Pln.Kids aP)]), (28, .box 1 [sI (Pln.Kind (toPlan (Pln.mk (Pln.Kind aP) (Pln.Table aP) (Pln.Exprs aP) (Pln.Cols aP) (Pln.Kids aP)))), sI (Pln.Table (toPlan (Pln.mk (Pln.Kind aP) (Pln.Table aP) (Pln.Exprs aP) (Pln.Cols aP) (Pln.Kids aP)))), sD9 (Pln.Exprs (toPlan (Pln.mk (Pln.Kind aP) (Pln.Table aP) (Pln.Exprs aP) (Pln.Cols aP) (Pln.Kids aP)))), sD7 (Pln.Cols (toPlan (Pln.mk (Pln.Kind aP) (Pln.Table aP) (Pln.Exprs aP) (Pln.Cols aP) (Pln.Kids aP)))), sD10 (Pln.Kids (toPlan (Pln.mk (Pln.Kind aP) (Pln.Table aP) (Pln.Exprs aP) (Pln.Cols aP) (Pln.Kids aP))))]), (112, .arr 1 (.named 3) ((toStatsS aStats) : List Sta))]⟩ ?_))
   refine AW.cd ((iEstimateRows (Pln.mk (Pln.Kind (toPlan (Pln.mk (Pln.Kind aP) (Pln.Table aP) (Pln.Exprs aP) (Pln.Cols aP) (Pln.Kids aP)))) (Pln.Table (toPlan (Pln.mk (Pln.Kind aP) (Pln.Table aP) (Pln.Exprs aP) (Pln.Cols aP) (Pln.Kids aP)))) (Pln.Exprs (toPlan (Pln.mk (Pln.Kind aP) (Pln.Table aP) (Pln.Exprs aP) (Pln.Cols aP) (Pln.Kids aP)))) (Pln.Cols (toPlan (Pln.mk (Pln.Kind aP) (Pln.Table aP) (Pln.Exprs aP) (Pln.Cols aP) (Pln.Kids aP)))) (Pln.Kids (toPlan (Pln.mk (Pln.Kind aP) (Pln.Table aP) (Pln.Exprs aP) (Pln.Cols aP) (Pln.Kids aP))))) (toStatsS aStats)) != (EstimateRows (toPlan (Pln.mk (Pln.Kind aP) (Pln.Table aP) (Pln.Exprs aP) (Pln.Cols aP) (Pln.Kids aP))) (toStatsS aStats))) ?_ ?_
   ·
    intro h9
    have h9q := (Go.Am.bne_pos h9)
    have e10 := e8.trans (Go.Am.bif_t h9)
    refine AW.seq (AW.r1 hC [4] [] ⟨[(4, sB false)], []⟩ ?_)
    exact AW.ret (AW.rB false e10)
   ·
    intro h11
    have h11q := (Go.Am.bne_neg h11)
    have e12 := e8.trans (Go.Am.bif_f h11)
    refine AW.kp [1, 2, 7, 8] [8, 28, 112] ⟨[(1, sD11 aStats), (2, .ref 8 1 0), (7, .ref 28 1 0), (8, .arr 112 1)], [(8, .box 1 [sI (Pln.Kind aP), sI (Pln.Table aP), sD9 (Pln.Exprs aP), sD7 (Pln.Cols aP), sD10 (Pln.Kids aP)]), (28, .box 1 [sI (Pln.Kind (toPlan (Pln.mk (Pln.Kind aP) (Pln.Table aP) (Pln.Exprs aP) (Pln.Cols aP) (Pln.Kids aP)))), sI (Pln.Table (toPlan (Pln.mk (Pln.Kind aP) (Pln.Table aP) (Pln.Exprs aP) (Pln.Cols aP) (Pln.Kids aP)))), sD9 (Pln.Exprs (toPlan (Pln.mk (Pln.Kind aP) (Pln.Table aP) (Pln.Exprs aP) (Pln.Cols aP) (Pln.Kids aP)))), sD7 (Pln.Cols (toPlan (Pln.mk (Pln.Kind aP) (Pln.Table aP) (Pln.Exprs aP) (Pln.Cols aP) (Pln.Kids aP)))), sD10 (Pln.Kids (toPlan (Pln.mk (Pln.Kind aP) (Pln.Table aP) (Pln.Exprs aP) (Pln.Cols aP) (Pln.Kids aP))))]), (112, .arr 1 (.named 3) ((toStatsS aStats) : List Sta))]⟩ ?_
    refine AW.skip (AW.seq (AW.seq (AW.d0 hC hM [1, 8, 39] [112] ⟨[(1, sD11 aStats), (8, .arr 112 1), (39, sB (!(eqPlan (Pln.mk (Pln.Kind (toPlan (Pln.mk (Pln.Kind aP) (Pln.Table aP) (Pln.Exprs aP) (Pln.Cols aP) (Pln.Kids aP)))) (Pln.Table (toPlan (Pln.mk (Pln.Kind aP) (Pln.Table aP) (Pln.Exprs aP) (Pln.Cols aP) (Pln.Kids aP)))) (Pln.Exprs (toPlan (Pln.mk (Pln.Kind aP) (Pln.Table aP) (Pln.Exprs aP) (Pln.Cols aP) (Pln.Kids aP)))) (Pln.Cols (toPlan (Pln.mk (Pln.Kind aP) (Pln.Table aP) (Pln.Exprs aP) (Pln.Cols aP) (Pln.Kids aP)))) (Pln.Kids (toPlan (Pln.mk (Pln.Kind aP) (Pln.Table aP) (Pln.Exprs aP) (Pln.Cols aP) (Pln.Kids aP))))) (toPlan (Pln.mk (Pln.Kind aP) (Pln.Table aP) (Pln.Exprs aP) (Pln.Cols aP) (Pln.Kids aP))))))], [(112, .arr 1 (.named 3) ((toStatsS aStats) : List Sta))]⟩ [(FitsP (Pln.mk (Pln.Kind aP) (Pln.Table aP) (Pln.Exprs aP) (Pln.Cols aP) (Pln.Kids aP))), (True)] ?_ ?_)))
    ·
     refine ⟨?_, ?_, trivial⟩
     ·
      exact FitsP.of (l := 1048576) ⟨by decide, by decide⟩ (by first | exact trivial | exact trivial | exact h3q | exact h7q | exact h11q)
     ·
      trivial
    refine AW.cd (!(eqPlan (Pln.mk (Pln.Kind (toPlan (Pln.mk (Pln.Kind aP) (Pln.Table aP) (Pln.Exprs aP) (Pln.Cols aP) (Pln.Kids aP)))) (Pln.Table (toPlan (Pln.mk (Pln.Kind aP) (Pln.Table aP) (Pln.Exprs aP) (Pln.Cols aP) (Pln.Kids aP)))) (Pln.Exprs (toPlan (Pln.mk (Pln.Kind aP) (Pln.Table aP) (Pln.Exprs aP) (Pln.Cols aP) (Pln.Kids aP)))) (Pln.Cols (toPlan (Pln.mk (Pln.Kind aP) (Pln.Table aP) (Pln.Exprs aP) (Pln.Cols aP) (Pln.Kids aP)))) (Pln.Kids (toPlan (Pln.mk (Pln.Kind aP) (Pln.Table aP) (Pln.Exprs aP) (Pln.Cols aP) (Pln.Kids aP))))) (toPlan (Pln.mk (Pln.Kind aP) (Pln.Table aP) (Pln.Exprs aP) (Pln.Cols aP) (Pln.Kids aP))))) ?_ ?_
    ·
     intro h13
     have h13q := (Go.Am.not_pos h13)
     have e14 := e12.trans (Go.Am.bif_t h13)
     refine AW.seq (AW.r1 hC [4] [] ⟨[(4, sB false)], []⟩ ?_)
     exact AW.ret (AW.rB false e14)
    ·
     intro h15
     have h15q := (Go.Am.not_neg h15)
     have e16 := e12.trans (Go.Am.bif_f h15)
     refine AW.kp [1, 8] [112] ⟨[(1, sD11 aStats), (8, .arr 112 1)], [(112, .arr 1 (.named 3) ((toStatsS aStats) : List Sta))]⟩ ?_
     refine AW.skip (AW.seq (AW.seq (AW.r0 hC [44] [] ⟨[(44, sB (!(eqStatsS (toStatsS aStats) (toStatsS aStats))))], []⟩ [(FitSt aStats), (True)] ?_ ?_)))
     ·
      refine ⟨?_, ?_, trivial⟩
      ·
       exact FitSt.of2 h3q h7q
      ·
       trivial
     refine AW.cd (!(eqStatsS (toStatsS aStats) (toStatsS aStats))) ?_ ?_
     ·
      intro h17
      have h17q := (Go.Am.not_pos h17)
      have e18 := e16.trans (Go.Am.bif_t h17)
      refine AW.seq (AW.r1 hC [4] [] ⟨[(4, sB false)], []⟩ ?_)
      exact AW.ret (AW.rB false e18)
     ·
      intro h19
      have h19q := (Go.Am.not_neg h19)
      have e20 := e16.trans (Go.Am.bif_f h19)
      refine AW.kp [] [] ⟨[], []⟩ ?_
      refine AW.skip (AW.seq (AW.r1 hC [4] [] ⟨[(4, sB true)], []⟩ ?_))
      exact AW.ret (AW.rB true e20)

theorem FnExactEstimateRows_law (p : Pln) (stats : List Sta) : FnExactEstimateRows p stats = true := by
 unfold FnExactEstimateRows
 rw [Pln.eta, Pln.eta, EstimateRows_same, eqPlan_self, eqStatsS_self]
 simp

end
end Go.Proofs.Ytodcdgolcbdkgaa
