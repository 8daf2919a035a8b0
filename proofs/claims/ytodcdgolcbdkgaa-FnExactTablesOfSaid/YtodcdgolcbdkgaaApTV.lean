/-
  A part of the proof of this claim (ApTV): what functions of the program compute, and plain facts of that. No conditions.
-/
import Derived.Test.YtodcdgolcbdkgaaApTT
import Derived.Test.YtodcdgolcbdkgaaApTK
import Derived.Test.YtodcdgolcbdkgaaApTC
import Derived.Test.YtodcdgolcbdkgaaApTD
import Derived.Test.YtodcdgolcbdkgaaAnV
import Derived.Test.YtodcdgolcbdkgaaApTQ
import Derived.Test.YtodcdgolcbdkgaaApTP
import Derived.Test.YtodcdgolcbdkgaaApTM
import Derived.Test.YtodcdgolcbdkgaaAnT
set_option linter.all false
namespace Go.Proofs.Ytodcdgolcbdkgaa
open Go Go.Am
open Go.Am.AW (seq r1U ret kpU cdE r0U r1 rB r0 kp d0U)
open List (length)
noncomputable section

abbrev eT (aP : Pln) : Pln := (Pln.mk (Pln.Kind aP) (Pln.Table aP) (Pln.Exprs aP) (Pln.Cols aP) (Pln.Kids aP))
abbrev dT (aP : Pln) : Pln := (toPlanD (eT aP))
abbrev fT (aP : Pln) : Pln := (Pln.mk (Pln.Kind (dT aP)) (Pln.Table (dT aP)) (Pln.Exprs (dT aP)) (Pln.Cols (dT aP)) (Pln.Kids (dT aP)))
abbrev gT (aP : Pln) (aWidths : List Int) : List Int := (iTablesOf (fT aP) (toIntS aWidths))
abbrev wT (aP : Pln) (aWidths : List Int) : List Int := (TablesOf (fT aP) (toIntS aWidths))

def FnExactTablesOf (aP : Pln) (aWidths : List Int) : Bool := (bif (decide (1048576 < (length aWidths : Int))) then true else (bif (decide ((szPlan (eT aP) 1048576) < 0)) then true else (bif (!(eqIntS (gT aP aWidths) (wT aP aWidths))) then false else (bif (!(eqPlan (fT aP) (fT aP))) then false else (bif (!(eqIntS (toIntS aWidths) (toIntS aWidths))) then false else (bif (bif (decide ((markIntS (toIntS aWidths) ((markPlanS (Pln.Kids (dT aP)) ((markIntS (Pln.Cols (dT aP)) ((markExprS (Pln.Exprs (dT aP)) 1).2)).2)).2)).2 < 0)) then true else (!(eqIntS (gT aP aWidths) (wT aP aWidths)))) then false else (bif (decide ((heldIntS ((markIntS (gT aP aWidths) 1).1) 1) < 0)) then false else (bif ((heldIntS ((markIntS (gT aP aWidths) 1).1) 1) != (markIntS (gT aP aWidths) 1).2) then false else (bif (!(eqIntS (gT aP aWidths) (wT aP aWidths))) then false else (bif (decide ((heldIntS ((markIntS (gT aP aWidths) 1).1) 1) < 0)) then false else (bif ((heldIntS ((markIntS (gT aP aWidths) 1).1) 1) != (markIntS (gT aP aWidths) 1).2) then false else true)))))))))))

def FnExactTablesOf_sp : FnSpec := mkSpec [.val (.named 2), .val (.slice (.int .i64))] [.val .bool] (fun (aP : Pln) (aWidths : List Int) => True) (fun (aP : Pln) (aWidths : List Int) => [⟨.bool, (FnExactTablesOf aP aWidths)⟩])

theorem FnExactTablesOf_ok : FnOK Try.prog 7 FnExactTablesOf_sp := by
 have hC : CtxOK Try.prog { (mkCtx tyL [(15, szPlan_sp), (18, toPlanD_sp), (21, eqPlan_sp), (30, toIntS_sp), (34, eqIntS_sp), (43, TablesOf_sp), (44, iTablesOf_sp), (45, heldIntS_sp)]) with deep := true } := CtxOK.deepen (CtxOK.cons szPlan_ok (CtxOK.cons toPlanD_ok (CtxOK.cons eqPlan_ok (CtxOK.cons toIntS_ok (CtxOK.cons eqIntS_ok (CtxOK.cons TablesOf_ok (CtxOK.cons iTablesOf_ok (CtxOK.cons heldIntS_ok (CtxOK.nil tyOK))))))))); have hM : Try.prog.follows .mixedOrders = true := Try.checked.mixed; have hC1 := hC.rebase 1000; refine FnOK.of_body Try.func7 (by kernel_rfl) rfl (C := { (mkCtx tyL [(15, szPlan_sp), (18, toPlanD_sp), (21, eqPlan_sp), (30, toIntS_sp), (34, eqIntS_sp), (43, TablesOf_sp), (44, iTablesOf_sp), (45, heldIntS_sp)]) with deep := true }) hC.ty (by kernel_rfl) ?_; intro (aP : Pln) (aWidths : List Int) hwf hpre E; have hpre : True := hpre; have e0 : FnExactTablesOf aP aWidths = FnExactTablesOf aP aWidths := rfl; refine seq (r1U hC [1, 2] [8] [(2, .ref 8 1 0)] [(8, .box 1 [sI (Pln.Kind aP), sI (Pln.Table aP), sD9 (Pln.Exprs aP), sD7 (Pln.Cols aP), sD10 (Pln.Kids aP)])] ?_); refine seq (seq (r1U hC [1, 2, 16] [8] [(16, sB (decide (1048576 < (length aWidths : Int))))] [] ?_)); refine cdE e0 ?_ ?_
 · intro h1q e2; refine seq (r1 hC [4] [] ⟨[(4, sB true)], []⟩ ?_); exact ret (rB _ e2)
 ·
  intro h3q e4; refine kpU [1, 2] [8] [] [] ?_; refine AW.skip (seq (r1U hC [1, 2, 5] [8] [(5, sI 1048576)] [] ?_)); refine seq (r0U hC [1, 2, 5] [8] [(5, sI (szPlan (eT aP) 1048576))] [] [(0 ≤ (1048576 : Int))] ?_ ?_)
  ·
   exact ⟨(by omega), trivial⟩
  refine seq (seq (r1U hC [1, 2, 21] [8] [(21, sB (decide ((szPlan (eT aP) 1048576) < 0)))] [] ?_)); refine cdE e4 ?_ ?_
  · intro h5q e6; refine seq (r1 hC [4] [] ⟨[(4, sB true)], []⟩ ?_); exact ret (rB _ e6)
  ·
   intro h7q e8; refine kpU [1, 2] [8] [] [] ?_; refine AW.skip (seq (r0U hC [1, 2, 6] [8] [(6, sD7 (wT aP aWidths))] [] [(FitsP (eT aP)), ((length aWidths : Int) ≤ 1048576), (True)] ?_ ?_))
   ·
    exact ⟨(FitsP.of (l := 1048576) ⟨by decide, by decide⟩ (by with_reducible assumption)), (by omega), trivial, trivial⟩
   refine seq (r0U hC [1, 2, 6, 7] [8, 28, 112, 113, 114] [(7, .ref 28 1 0)] [(28, .box 1 [sI (Pln.Kind (dT aP)), sI (Pln.Table (dT aP)), .tr 112 1, .arr 113 1, .tr 114 1]), (112, .tree 1 (.named 1) ((Pln.Exprs (dT aP)) : List Xpr)), (113, .arr 1 (.int .i64) ((Pln.Cols (dT aP)) : List Int)), (114, .tree 1 (.named 2) ((Pln.Kids (dT aP)) : List Pln))] [(FitsP (eT aP))] ?_ ?_)
   ·
    exact ⟨(FitsP.of (l := 1048576) ⟨by decide, by decide⟩ (by with_reducible assumption)), trivial⟩
   refine seq (r0U hC [1, 2, 6, 7, 8] [8, 28, 112, 113, 114, 120] [(8, .arr 120 1)] [(120, .arr 1 (.int .i64) ((toIntS aWidths) : List Int))] [((length aWidths : Int) ≤ 1048576)] ?_ ?_)
   ·
    exact ⟨(by omega), trivial⟩
   refine seq (r0 hC [1, 2, 6, 7, 8, 9] [8, 28, 112, 113, 114, 120, 132] ⟨[(1, sD7 aWidths), (2, .ref 8 1 0), (6, sD7 (wT aP aWidths)), (7, .ref 28 1 0), (8, .arr 120 1), (9, .arr 132 1)], [(8, .box 1 [sI (Pln.Kind aP), sI (Pln.Table aP), sD9 (Pln.Exprs aP), sD7 (Pln.Cols aP), sD10 (Pln.Kids aP)]), (28, .box 1 [sI (Pln.Kind (dT aP)), sI (Pln.Table (dT aP)), .tr 112 1, .arr 113 1, .tr 114 1]), (112, .tree 1 (.named 1) ((Pln.Exprs (dT aP)) : List Xpr)), (113, .arr 1 (.int .i64) ((Pln.Cols (dT aP)) : List Int)), (114, .tree 1 (.named 2) ((Pln.Kids (dT aP)) : List Pln)), (120, .arr 1 (.int .i64) ((toIntS aWidths) : List Int)), (132, .arr 1 (.int .i64) ((gT aP aWidths) : List Int))]⟩ [(True)] ?_ ?_)
   ·
    exact ⟨trivial, trivial⟩
   refine seq (seq (r0U hC [1, 2, 6, 7, 8, 9, 37] [8, 28, 112, 113, 114, 120, 132] [(37, sB (!(eqIntS (gT aP aWidths) (wT aP aWidths))))] [] [(True)] ?_ ?_))
   ·
    exact ⟨trivial, trivial⟩
   refine cdE e8 ?_ ?_
   · intro h9q e10; refine seq (r1 hC [4] [] ⟨[(4, sB false)], []⟩ ?_); exact ret (rB _ e10)
   ·
    intro h11q e12; refine kpU [1, 2, 6, 7, 8, 9] [8, 28, 112, 113, 114, 120, 132] [] [] ?_; refine AW.skip (seq (seq (d0U hC hM [1, 2, 6, 7, 8, 9, 42] [8, 28, 112, 113, 114, 120, 132] [(42, sB (!(eqPlan (fT aP) (fT aP))))] [] [(FitsP (eT aP)), (True)] ?_ ?_)))
    ·
     exact ⟨(FitsP.of (l := 1048576) ⟨by decide, by decide⟩ (by with_reducible assumption)), trivial, trivial⟩
    refine cdE e12 ?_ ?_
    · intro h13q e14; refine seq (r1 hC [4] [] ⟨[(4, sB false)], []⟩ ?_); exact ret (rB _ e14)
    ·
     intro h15q e16; refine kpU [1, 2, 6, 7, 8, 9] [8, 28, 112, 113, 114, 120, 132] [] [] ?_; refine AW.skip (seq (seq (r0U hC [1, 2, 6, 7, 8, 9, 47] [8, 28, 112, 113, 114, 120, 132] [(47, sB (!(eqIntS (toIntS aWidths) (toIntS aWidths))))] [] [((length aWidths : Int) ≤ 1048576), (True)] ?_ ?_)))
     ·
      exact ⟨(by omega), trivial, trivial⟩
     refine cdE e16 ?_ ?_
     · intro h17q e18; refine seq (r1 hC [4] [] ⟨[(4, sB false)], []⟩ ?_); exact ret (rB _ e18)
     ·
      intro h19q e20; refine kpU [1, 2, 6, 7, 8, 9] [8, 28, 112, 113, 114, 120, 132] [] [] ?_; refine AW.skip (seq (r1U hC [1, 2, 6, 7, 8, 9, 10] [8, 28, 112, 113, 114, 120, 132] [(10, sI 1)] [] ?_)); refine seq (AW.treedB 28 1 3 [sI (Pln.Kind (dT aP)), sI (Pln.Table (dT aP)), .tr 112 1, .arr 113 1, .tr 114 1] 113 1 (.int .i64) ((Pln.Cols (dT aP)) : List Int) (by kernel_rfl) (by kernel_rfl) (by kernel_rfl) (by kernel_rfl) ?_); refine kp [1, 2, 6, 7, 8, 9, 10] [8, 28, 112, 113, 114, 120, 132] ⟨[(1, sD7 aWidths), (2, .ref 8 1 0), (6, sD7 (wT aP aWidths)), (7, .ref 28 1 0), (8, .arr 120 1), (9, .arr 132 1), (10, sI 1)], [(8, .box 1 [sI (Pln.Kind aP), sI (Pln.Table aP), sD9 (Pln.Exprs aP), sD7 (Pln.Cols aP), sD10 (Pln.Kids aP)]), (28, .box 1 [sI (Pln.Kind (dT aP)), sI (Pln.Table (dT aP)), .tr 112 1, .tr 113 1, .tr 114 1]), (112, .tree 1 (.named 1) ((Pln.Exprs (dT aP)) : List Xpr)), (113, .tree 1 (.int .i64) ((Pln.Cols (dT aP)) : List Int)), (114, .tree 1 (.named 2) ((Pln.Kids (dT aP)) : List Pln)), (120, .arr 1 (.int .i64) ((toIntS aWidths) : List Int)), (132, .arr 1 (.int .i64) ((gT aP aWidths) : List Int))]⟩ ?_; refine AW.regionO [0, 1, 2, 3] (by rfl) ?_
      refine AWO.runU hC false [] [0, 1] [2, 3] [1, 2, 6, 8, 9, 48, 49] [8, 112, 113, 114, 120, 132]
       [(48, .agg [sI (Pln.Kind (dT aP)), sI (Pln.Table (dT aP)), .tr 112 1, .tr 113 1, .tr 114 1]), (49, sI 1)] []
       [] (by rfl) (by kernel_rfl) ?_ ?_
      · exact trivial
      refine AWO.call hC.ty (vs := [.agg [sI (Pln.Kind (dT aP)), sI (Pln.Table (dT aP)), .tr 112 1, .tr 113 1, .tr 114 1], sI 1]) (caps := []) (by rfl) rfl (.inl rfl) (by decide) (by kernel_rfl) (by kernel_rfl) Try.func36 (by kernel_rfl) rfl (by kernel_rfl) ?_; intro o1 ho1; refine kpU [0, 1, 1001, 1002, 1006, 1008, 1009] [8, 112, 113, 114, 120, 132] [] [] ?_; refine seq (r1U hC1 [1, 2, 1001, 1002, 1006, 1008, 1009] [8, 112, 113, 114, 120, 132, 4008] [(2, .ref 4008 1 0)] [(4008, .box 1 [sI (Pln.Kind (dT aP)), sI (Pln.Table (dT aP)), .tr 112 1, .tr 113 1, .tr 114 1])] ?_); refine seq (AW.regionO [0, 1, 2, 3, 4] (by rfl) ?_)
      refine AWO.runU hC1 false [] [0, 1, 2] [3, 4] [2, 6, 7, 1001, 1002, 1006, 1008, 1009] [8, 112, 113, 114, 120, 132, 4008]
       [(6, .tr 112 1), (7, sI 1)] []
       [] (by rfl) (by kernel_rfl) ?_ ?_
      · exact trivial
      refine AWO.mark (u := (.named 1)) (id := 112) (ep := 1) (xs := ((Pln.Exprs (dT aP)) : List Xpr)) (k := 1) markExprS_ok (by rfl) (by rfl) (by kernel_rfl) (by kernel_rfl) (by kernel_rfl) (by kernel_rfl) ?_ ?_
      · assumption
      refine AWO.keepU [2, 8, 1001, 1002, 1006, 1008, 1009] [8, 112, 113, 114, 120, 132, 4008] [(8, sI ((markExprS (Pln.Exprs (dT aP)) 1).2))] [(112, .tree 1 (.named 1) ((markExprS (Pln.Exprs (dT aP)) 1).1 : List Xpr))] (by kernel_rfl) ?_
      refine AWO.runU hC1 false [] [4] [] [1, 2, 1001, 1002, 1006, 1008, 1009] [8, 112, 113, 114, 120, 132, 4008]
       [(1, sI ((markExprS (Pln.Exprs (dT aP)) 1).2))] []
       [] (by rfl) (by kernel_rfl) ?_ ?_
      · exact trivial
      refine AWO.nil ?_; refine seq (AW.regionO [0, 1, 2, 3, 4] (by rfl) ?_)
      refine AWO.runU hC1 false [] [0, 1, 2] [3, 4] [2, 10, 11, 1001, 1002, 1006, 1008, 1009] [8, 112, 113, 114, 120, 132, 4008]
       [(10, .tr 113 1), (11, sI ((markExprS (Pln.Exprs (dT aP)) 1).2))] []
       [] (by rfl) (by kernel_rfl) ?_ ?_
      · exact trivial
      refine AWO.mark (u := (.int .i64)) (id := 113) (ep := 1) (xs := ((Pln.Cols (dT aP)) : List Int)) (k := (markExprS (Pln.Exprs (dT aP)) 1).2) markIntS_ok (by rfl) (by rfl) (by kernel_rfl) (by kernel_rfl) (by kernel_rfl) (by kernel_rfl) ?_ ?_
      · assumption
      refine AWO.keepU [2, 12, 1001, 1002, 1006, 1008, 1009] [8, 112, 113, 114, 120, 132, 4008] [(12, sI ((markIntS (Pln.Cols (dT aP)) ((markExprS (Pln.Exprs (dT aP)) 1).2)).2))] [(113, .tree 1 (.int .i64) ((markIntS (Pln.Cols (dT aP)) ((markExprS (Pln.Exprs (dT aP)) 1).2)).1 : List Int))] (by kernel_rfl) ?_
      refine AWO.runU hC1 false [] [4] [] [1, 2, 1001, 1002, 1006, 1008, 1009] [8, 112, 113, 114, 120, 132, 4008]
       [(1, sI ((markIntS (Pln.Cols (dT aP)) ((markExprS (Pln.Exprs (dT aP)) 1).2)).2))] []
       [] (by rfl) (by kernel_rfl) ?_ ?_
      · exact trivial
      refine AWO.nil ?_; refine seq (AW.regionO [0, 1, 2, 3, 4] (by rfl) ?_)
      refine AWO.runU hC1 false [] [0, 1, 2] [3, 4] [14, 15, 1001, 1002, 1006, 1008, 1009] [8, 114, 120, 132]
       [(14, .tr 114 1), (15, sI ((markIntS (Pln.Cols (dT aP)) ((markExprS (Pln.Exprs (dT aP)) 1).2)).2))] []
       [] (by rfl) (by kernel_rfl) ?_ ?_
      · exact trivial
      refine AWO.mark (u := (.named 2)) (id := 114) (ep := 1) (xs := ((Pln.Kids (dT aP)) : List Pln)) (k := (markIntS (Pln.Cols (dT aP)) ((markExprS (Pln.Exprs (dT aP)) 1).2)).2) markPlanS_ok (by rfl) (by rfl) (by kernel_rfl) (by kernel_rfl) (by kernel_rfl) (by kernel_rfl) ?_ ?_
      · assumption
      refine AWO.keepU [16, 1001, 1002, 1006, 1008, 1009] [8, 120, 132] [(16, sI ((markPlanS (Pln.Kids (dT aP)) ((markIntS (Pln.Cols (dT aP)) ((markExprS (Pln.Exprs (dT aP)) 1).2)).2)).2))] [] (by kernel_rfl) ?_
      refine AWO.run hC1 false [] [4] [] [1, 1001, 1002, 1006, 1008, 1009] [8, 120, 132]
       ⟨[(1, sI ((markPlanS (Pln.Kids (dT aP)) ((markIntS (Pln.Cols (dT aP)) ((markExprS (Pln.Exprs (dT aP)) 1).2)).2)).2)), (1001, sD7 aWidths), (1002, .ref 8 1 0), (1006, sD7 (wT aP aWidths)), (1008, .arr 120 1), (1009, .arr 132 1)], [(8, .box 1 [sI (Pln.Kind aP), sI (Pln.Table aP), sD9 (Pln.Exprs aP), sD7 (Pln.Cols aP), sD10 (Pln.Kids aP)]), (120, .arr 1 (.int .i64) ((toIntS aWidths) : List Int)), (132, .arr 1 (.int .i64) ((gT aP aWidths) : List Int))]⟩
       [] (by rfl) (by kernel_rfl) ?_ ?_
      · exact trivial
      refine AWO.nil ?_; refine seq (r1U hC1 [4, 1001, 1002, 1006, 1008, 1009] [8, 120, 132] [(4, sI ((markPlanS (Pln.Kids (dT aP)) ((markIntS (Pln.Cols (dT aP)) ((markExprS (Pln.Exprs (dT aP)) 1).2)).2)).2))] [] ?_); refine ret ?_; refine ⟨[sI ((markPlanS (Pln.Kids (dT aP)) ((markIntS (Pln.Cols (dT aP)) ((markExprS (Pln.Exprs (dT aP)) 1).2)).2)).2)], by kernel_rfl, ?_⟩; refine AWO.keep [1, 2, 6, 8, 9, 50] [8, 120, 132] ⟨[(1, sD7 aWidths), (2, .ref 8 1 0), (6, sD7 (wT aP aWidths)), (8, .arr 120 1), (9, .arr 132 1), (50, sI ((markPlanS (Pln.Kids (dT aP)) ((markIntS (Pln.Cols (dT aP)) ((markExprS (Pln.Exprs (dT aP)) 1).2)).2)).2))], [(8, .box 1 [sI (Pln.Kind aP), sI (Pln.Table aP), sD9 (Pln.Exprs aP), sD7 (Pln.Cols aP), sD10 (Pln.Kids aP)]), (120, .arr 1 (.int .i64) ((toIntS aWidths) : List Int)), (132, .arr 1 (.int .i64) ((gT aP aWidths) : List Int))]⟩ (by kernel_rfl) ?_
      refine AWO.runU hC false [] [3] [] [1, 2, 6, 8, 9, 10] [8, 120, 132]
       [(10, sI ((markPlanS (Pln.Kids (dT aP)) ((markIntS (Pln.Cols (dT aP)) ((markExprS (Pln.Exprs (dT aP)) 1).2)).2)).2))] []
       [] (by rfl) (by kernel_rfl) ?_ ?_
      · exact trivial
      refine AWO.nil ?_; refine seq (AW.treed [8] 120 1 (.int .i64) ((toIntS aWidths) : List Int) (by rintro s (_ | ⟨_, ⟨⟩⟩) <;> kernel_rfl) (by kernel_rfl) (by kernel_rfl) ?_); refine kp [1, 2, 6, 8, 9, 10] [8, 120, 132] ⟨[(1, sD7 aWidths), (2, .ref 8 1 0), (6, sD7 (wT aP aWidths)), (8, .tr 120 1), (9, .arr 132 1), (10, sI ((markPlanS (Pln.Kids (dT aP)) ((markIntS (Pln.Cols (dT aP)) ((markExprS (Pln.Exprs (dT aP)) 1).2)).2)).2))], [(8, .box 1 [sI (Pln.Kind aP), sI (Pln.Table aP), sD9 (Pln.Exprs aP), sD7 (Pln.Cols aP), sD10 (Pln.Kids aP)]), (120, .tree 1 (.int .i64) ((toIntS aWidths) : List Int)), (132, .arr 1 (.int .i64) ((gT aP aWidths) : List Int))]⟩ ?_; refine AW.regionO [0, 1, 2, 3] (by rfl) ?_
      refine AWO.runU hC false [] [0, 1] [2, 3] [1, 2, 6, 9, 51, 52] [8, 120, 132]
       [(51, .tr 120 1), (52, sI ((markPlanS (Pln.Kids (dT aP)) ((markIntS (Pln.Cols (dT aP)) ((markExprS (Pln.Exprs (dT aP)) 1).2)).2)).2))] []
       [] (by rfl) (by kernel_rfl) ?_ ?_
      · exact trivial
      refine AWO.mark (u := (.int .i64)) (id := 120) (ep := 1) (xs := ((toIntS aWidths) : List Int)) (k := (markPlanS (Pln.Kids (dT aP)) ((markIntS (Pln.Cols (dT aP)) ((markExprS (Pln.Exprs (dT aP)) 1).2)).2)).2) markIntS_ok (by rfl) (by rfl) (by kernel_rfl) (by kernel_rfl) (by kernel_rfl) (by kernel_rfl) ?_ ?_
      · assumption
      refine AWO.keepU [1, 2, 6, 9, 53] [8, 132] [(53, sI ((markIntS (toIntS aWidths) ((markPlanS (Pln.Kids (dT aP)) ((markIntS (Pln.Cols (dT aP)) ((markExprS (Pln.Exprs (dT aP)) 1).2)).2)).2)).2))] [] (by kernel_rfl) ?_
      refine AWO.runU hC false [] [3] [] [1, 2, 6, 9, 10] [8, 132]
       [(10, sI ((markIntS (toIntS aWidths) ((markPlanS (Pln.Kids (dT aP)) ((markIntS (Pln.Cols (dT aP)) ((markExprS (Pln.Exprs (dT aP)) 1).2)).2)).2)).2))] []
       [] (by rfl) (by kernel_rfl) ?_ ?_
      · exact trivial
      refine AWO.nil ?_; refine seq (seq (r0U hC [1, 2, 6, 9, 61] [8, 132] [(61, sB (bif (decide ((markIntS (toIntS aWidths) ((markPlanS (Pln.Kids (dT aP)) ((markIntS (Pln.Cols (dT aP)) ((markExprS (Pln.Exprs (dT aP)) 1).2)).2)).2)).2 < 0)) then true else (!(eqIntS (gT aP aWidths) (wT aP aWidths)))))] [] [(((decide ((markIntS (toIntS aWidths) ((markPlanS (Pln.Kids (dT aP)) ((markIntS (Pln.Cols (dT aP)) ((markExprS (Pln.Exprs (dT aP)) 1).2)).2)).2)).2 < 0)) = false) → (((decide ((markIntS (toIntS aWidths) ((markPlanS (Pln.Kids (dT aP)) ((markIntS (Pln.Cols (dT aP)) ((markExprS (Pln.Exprs (dT aP)) 1).2)).2)).2)).2 < 0)) = false))), (((decide ((markIntS (toIntS aWidths) ((markPlanS (Pln.Kids (dT aP)) ((markIntS (Pln.Cols (dT aP)) ((markExprS (Pln.Exprs (dT aP)) 1).2)).2)).2)).2 < 0)) = false) → (((decide ((markIntS (toIntS aWidths) ((markPlanS (Pln.Kids (dT aP)) ((markIntS (Pln.Cols (dT aP)) ((markExprS (Pln.Exprs (dT aP)) 1).2)).2)).2)).2 < 0)) = false))), (((decide ((markIntS (toIntS aWidths) ((markPlanS (Pln.Kids (dT aP)) ((markIntS (Pln.Cols (dT aP)) ((markExprS (Pln.Exprs (dT aP)) 1).2)).2)).2)).2 < 0)) = false) → (True)), (((decide ((markIntS (toIntS aWidths) ((markPlanS (Pln.Kids (dT aP)) ((markIntS (Pln.Cols (dT aP)) ((markExprS (Pln.Exprs (dT aP)) 1).2)).2)).2)).2 < 0)) = false) → (((decide ((markIntS (toIntS aWidths) ((markPlanS (Pln.Kids (dT aP)) ((markIntS (Pln.Cols (dT aP)) ((markExprS (Pln.Exprs (dT aP)) 1).2)).2)).2)).2 < 0)) = false))), (((decide ((markIntS (toIntS aWidths) ((markPlanS (Pln.Kids (dT aP)) ((markIntS (Pln.Cols (dT aP)) ((markExprS (Pln.Exprs (dT aP)) 1).2)).2)).2)).2 < 0)) = false) → (((decide ((markIntS (toIntS aWidths) ((markPlanS (Pln.Kids (dT aP)) ((markIntS (Pln.Cols (dT aP)) ((markExprS (Pln.Exprs (dT aP)) 1).2)).2)).2)).2 < 0)) = false)))] ?_ ?_))
      ·
       exact ⟨(by intro g21; assumption), (by intro g22; assumption), (by intro g23; trivial), (by intro g24; assumption), (by intro g25; assumption), trivial⟩
      refine cdE e20 ?_ ?_
      · intro h26q e27; refine seq (r1 hC [4] [] ⟨[(4, sB false)], []⟩ ?_); exact ret (rB _ e27)
      ·
       intro h28q e29; refine kpU [1, 2, 6, 9] [8, 132] [] [] ?_; refine AW.skip (seq (r1U hC [1, 2, 6, 9, 11] [8, 132] [(11, sI 1)] [] ?_)); refine seq (AW.treed [9] 132 1 (.int .i64) ((gT aP aWidths) : List Int) (by rintro s (_ | ⟨_, ⟨⟩⟩) <;> kernel_rfl) (by kernel_rfl) (by kernel_rfl) ?_); refine kp [1, 2, 6, 9, 11] [8, 132] ⟨[(1, sD7 aWidths), (2, .ref 8 1 0), (6, sD7 (wT aP aWidths)), (9, .tr 132 1), (11, sI 1)], [(8, .box 1 [sI (Pln.Kind aP), sI (Pln.Table aP), sD9 (Pln.Exprs aP), sD7 (Pln.Cols aP), sD10 (Pln.Kids aP)]), (132, .tree 1 (.int .i64) ((gT aP aWidths) : List Int))]⟩ ?_; refine AW.regionO [0, 1, 2, 3] (by rfl) ?_
       refine AWO.runU hC false [] [0, 1] [2, 3] [1, 2, 6, 9, 62, 63] [8, 132]
        [(62, .tr 132 1), (63, sI 1)] []
        [] (by rfl) (by kernel_rfl) ?_ ?_
       · exact trivial
       refine AWO.mark (u := (.int .i64)) (id := 132) (ep := 1) (xs := ((gT aP aWidths) : List Int)) (k := 1) markIntS_ok (by rfl) (by rfl) (by kernel_rfl) (by kernel_rfl) (by kernel_rfl) (by kernel_rfl) ?_ ?_
       · assumption
       refine AWO.keepU [1, 2, 6, 9, 64] [8, 132] [(64, sI ((markIntS (gT aP aWidths) 1).2))] [(132, .tree 1 (.int .i64) ((markIntS (gT aP aWidths) 1).1 : List Int))] (by kernel_rfl) ?_
       refine AWO.runU hC false [] [3] [] [1, 2, 6, 9, 11] [8, 132]
        [(11, sI ((markIntS (gT aP aWidths) 1).2))] []
        [] (by rfl) (by kernel_rfl) ?_ ?_
       · exact trivial
       refine AWO.nil ?_; refine seq (r1U hC [1, 2, 6, 9, 11, 12] [8, 132] [(12, sI 1)] [] ?_); refine seq (r0U hC [1, 2, 6, 9, 11, 12] [8, 132] [(12, sI (heldIntS ((markIntS (gT aP aWidths) 1).1) 1))] [] [(True)] ?_ ?_)
       ·
        exact ⟨trivial, trivial⟩
       refine seq (seq (r1U hC [1, 2, 6, 9, 11, 12, 69] [8, 132] [(69, sB (decide ((heldIntS ((markIntS (gT aP aWidths) 1).1) 1) < 0)))] [] ?_)); refine cdE e29 ?_ ?_
       · intro h30q e31; refine seq (r1 hC [4] [] ⟨[(4, sB false)], []⟩ ?_); exact ret (rB _ e31)
       ·
        intro h32q e33; refine kpU [1, 2, 6, 9, 11, 12] [8, 132] [] [] ?_; refine AW.skip (seq (seq (r1U hC [1, 2, 6, 9, 11, 72] [8, 132] [(72, sB ((heldIntS ((markIntS (gT aP aWidths) 1).1) 1) != (markIntS (gT aP aWidths) 1).2))] [] ?_))); refine cdE e33 ?_ ?_
        · intro h34q e35; refine seq (r1 hC [4] [] ⟨[(4, sB false)], []⟩ ?_); exact ret (rB _ e35)
        ·
         intro h36q e37; refine kpU [1, 2, 6, 9, 11] [8, 132] [] [] ?_; refine AW.skip (seq (r0U hC [6, 9, 11, 13] [132, 308] [(13, .arr 308 1)] [(308, .arr 1 (.int .i64) ((gT aP aWidths) : List Int))] [(FitsP (eT aP)), ((length aWidths : Int) ≤ 1048576), (True)] ?_ ?_))
         ·
          exact ⟨(FitsP.of (l := 1048576) ⟨by decide, by decide⟩ (by with_reducible assumption)), (by omega), trivial, trivial⟩
         refine seq (seq (r0 hC [9, 11, 81] [132] ⟨[(9, .tr 132 1), (11, sI ((markIntS (gT aP aWidths) 1).2)), (81, sB (!(eqIntS (gT aP aWidths) (wT aP aWidths))))], [(132, .tree 1 (.int .i64) ((markIntS (gT aP aWidths) 1).1 : List Int))]⟩ [(True)] ?_ ?_))
         ·
          exact ⟨trivial, trivial⟩
         refine cdE e37 ?_ ?_
         · intro h38q e39; refine seq (r1 hC [4] [] ⟨[(4, sB false)], []⟩ ?_); exact ret (rB _ e39)
         ·
          intro h40q e41; refine kpU [9, 11] [132] [] [] ?_; refine AW.skip (seq (r1U hC [9, 11, 12] [132] [(12, sI 1)] [] ?_)); refine seq (r0U hC [11, 12] [] [(12, sI (heldIntS ((markIntS (gT aP aWidths) 1).1) 1))] [] [(True)] ?_ ?_)
          ·
           exact ⟨trivial, trivial⟩
          refine seq (seq (r1U hC [11, 12, 86] [] [(86, sB (decide ((heldIntS ((markIntS (gT aP aWidths) 1).1) 1) < 0)))] [] ?_)); refine cdE e41 ?_ ?_
          · intro h42q e43; refine seq (r1 hC [4] [] ⟨[(4, sB false)], []⟩ ?_); exact ret (rB _ e43)
          ·
           intro h44q e45; refine kpU [11, 12] [] [] [] ?_; refine AW.skip (seq (seq (r1 hC [89] [] ⟨[(89, sB ((heldIntS ((markIntS (gT aP aWidths) 1).1) 1) != (markIntS (gT aP aWidths) 1).2))], []⟩ ?_))); refine cdE e45 ?_ ?_
           · intro h46q e47; refine seq (r1 hC [4] [] ⟨[(4, sB false)], []⟩ ?_); exact ret (rB _ e47)
           · intro h48q e49; refine kp [] [] ⟨[], []⟩ ?_; refine AW.skip (seq (r1 hC [4] [] ⟨[(4, sB true)], []⟩ ?_)); exact ret (rB _ e49)

end
end Go.Proofs.Ytodcdgolcbdkgaa


namespace Go.Proofs.Ytodcdgolcbdkgaa
open Go Go.Am
open List (length getD)
noncomputable section

theorem levT {x : Pln} {h : Pln → Bool} {S : Nat → Nat → Bool → Bool} {C : Nat → Bool → Bool}
  (hS : ∀ k i b, S (k + 1) i b = bif decide ((i : Int) < (length (Pln.Kids x) : Int)) then S k (i + 1) (C i b) else b)
  (hC : ∀ i b, i < x.Kids.length → C i b = (b || h (getD (Pln.Kids x) i Pln.zero))) : ∀ k i b, x.Kids.length - i < k → S k i b = (b || (x.Kids.drop i).any h) := by
 intro k
 induction k with
 | zero => intro i b hk; omega
 | succ k ih =>
  intro i b hk; rw [hS]; by_cases hi : i < x.Kids.length
  · rw [lt_dec hi, cond_true, ih _ _ (by omega), hC i b hi, drop_getD (d := Pln.zero) hi, List.any_cons, Bool.or_assoc]
  · rw [ge_dec hi, cond_false, List.drop_of_length_le (by omega)]; simp

theorem any_none (t : Int) (l : List Pln) : l.any (hit 0 t) = false := by
 induction l with
 | nil => rfl
 | cons x l ih => rw [List.any_cons, ih]; rfl

theorem pt7 (p : Pln) (t : Int) (a0 a1 a2 a3 a4 a5 a6 : Nat) (b : Bool) : scans_l7 p t a0 a1 a2 a3 a4 a5 a6 (length (Pln.Kids (q7 p a0 a1 a2 a3 a4 a5 a6)) - 0 + 1) 0 b = (b || (Pln.Kids (q7 p a0 a1 a2 a3 a4 a5 a6)).any (hit 1 t)) :=
 levT (x := (q7 p a0 a1 a2 a3 a4 a5 a6)) (h := hit 1 t) (S := fun k i b => scans_l7 p t a0 a1 a2 a3 a4 a5 a6 k i b) (C := fun i b => bif b then true else ht t (q8 p a0 a1 a2 a3 a4 a5 a6 i)) (fun _ _ _ => rfl) (fun i b hi => by
  cases b with
  | true => rfl
  | false =>
   show ht t (q8 p a0 a1 a2 a3 a4 a5 a6 i) = (false || (ht' t (q8 p a0 a1 a2 a3 a4 a5 a6 i) || (Pln.Kids (q8 p a0 a1 a2 a3 a4 a5 a6 i)).any (hit 0 t))); rw [any_none, Bool.or_false]
   rfl) _ _ _ (by omega)

theorem pt6 (p : Pln) (t : Int) (a0 a1 a2 a3 a4 a5 : Nat) (b : Bool) : scans_l6 p t a0 a1 a2 a3 a4 a5 (length (Pln.Kids (q6 p a0 a1 a2 a3 a4 a5)) - 0 + 1) 0 b = (b || (Pln.Kids (q6 p a0 a1 a2 a3 a4 a5)).any (hit 2 t)) :=
 levT (x := (q6 p a0 a1 a2 a3 a4 a5)) (h := hit 2 t) (S := fun k i b => scans_l6 p t a0 a1 a2 a3 a4 a5 k i b) (C := fun i b => scans_l7 p t a0 a1 a2 a3 a4 a5 i (length (Pln.Kids (getD (Pln.Kids (q6 p a0 a1 a2 a3 a4 a5)) i Pln.zero)) - 0 + 1) 0 (bif b then true else ht t (getD (Pln.Kids (q6 p a0 a1 a2 a3 a4 a5)) i Pln.zero))) (fun _ _ _ => rfl) (fun i b hi => by
  rw [pt7 p t a0 a1 a2 a3 a4 a5 i]
  cases b <;> rfl) _ _ _ (by omega)

theorem pt5 (p : Pln) (t : Int) (a0 a1 a2 a3 a4 : Nat) (b : Bool) : scans_l5 p t a0 a1 a2 a3 a4 (length (Pln.Kids (q5 p a0 a1 a2 a3 a4)) - 0 + 1) 0 b = (b || (Pln.Kids (q5 p a0 a1 a2 a3 a4)).any (hit 3 t)) :=
 levT (x := (q5 p a0 a1 a2 a3 a4)) (h := hit 3 t) (S := fun k i b => scans_l5 p t a0 a1 a2 a3 a4 k i b) (C := fun i b => scans_l6 p t a0 a1 a2 a3 a4 i (length (Pln.Kids (getD (Pln.Kids (q5 p a0 a1 a2 a3 a4)) i Pln.zero)) - 0 + 1) 0 (bif b then true else ht t (getD (Pln.Kids (q5 p a0 a1 a2 a3 a4)) i Pln.zero))) (fun _ _ _ => rfl) (fun i b hi => by
  rw [pt6 p t a0 a1 a2 a3 a4 i]
  cases b <;> rfl) _ _ _ (by omega)

theorem pt4 (p : Pln) (t : Int) (a0 a1 a2 a3 : Nat) (b : Bool) : scans_l4 p t a0 a1 a2 a3 (length (Pln.Kids (q4 p a0 a1 a2 a3)) - 0 + 1) 0 b = (b || (Pln.Kids (q4 p a0 a1 a2 a3)).any (hit 4 t)) :=
 levT (x := (q4 p a0 a1 a2 a3)) (h := hit 4 t) (S := fun k i b => scans_l4 p t a0 a1 a2 a3 k i b) (C := fun i b => scans_l5 p t a0 a1 a2 a3 i (length (Pln.Kids (getD (Pln.Kids (q4 p a0 a1 a2 a3)) i Pln.zero)) - 0 + 1) 0 (bif b then true else ht t (getD (Pln.Kids (q4 p a0 a1 a2 a3)) i Pln.zero))) (fun _ _ _ => rfl) (fun i b hi => by
  rw [pt5 p t a0 a1 a2 a3 i]
  cases b <;> rfl) _ _ _ (by omega)

theorem pt3 (p : Pln) (t : Int) (a0 a1 a2 : Nat) (b : Bool) : scans_l3 p t a0 a1 a2 (length (Pln.Kids (q3 p a0 a1 a2)) - 0 + 1) 0 b = (b || (Pln.Kids (q3 p a0 a1 a2)).any (hit 5 t)) :=
 levT (x := (q3 p a0 a1 a2)) (h := hit 5 t) (S := fun k i b => scans_l3 p t a0 a1 a2 k i b) (C := fun i b => scans_l4 p t a0 a1 a2 i (length (Pln.Kids (getD (Pln.Kids (q3 p a0 a1 a2)) i Pln.zero)) - 0 + 1) 0 (bif b then true else ht t (getD (Pln.Kids (q3 p a0 a1 a2)) i Pln.zero))) (fun _ _ _ => rfl) (fun i b hi => by
  rw [pt4 p t a0 a1 a2 i]
  cases b <;> rfl) _ _ _ (by omega)

theorem pt2 (p : Pln) (t : Int) (a0 a1 : Nat) (b : Bool) : scans_l2 p t a0 a1 (length (Pln.Kids (q2 p a0 a1)) - 0 + 1) 0 b = (b || (Pln.Kids (q2 p a0 a1)).any (hit 6 t)) :=
 levT (x := (q2 p a0 a1)) (h := hit 6 t) (S := fun k i b => scans_l2 p t a0 a1 k i b) (C := fun i b => scans_l3 p t a0 a1 i (length (Pln.Kids (getD (Pln.Kids (q2 p a0 a1)) i Pln.zero)) - 0 + 1) 0 (bif b then true else ht t (getD (Pln.Kids (q2 p a0 a1)) i Pln.zero))) (fun _ _ _ => rfl) (fun i b hi => by
  rw [pt3 p t a0 a1 i]
  cases b <;> rfl) _ _ _ (by omega)

theorem pt1 (p : Pln) (t : Int) (a0 : Nat) (b : Bool) : scans_l1 p t a0 (length (Pln.Kids (q1 p a0)) - 0 + 1) 0 b = (b || (Pln.Kids (q1 p a0)).any (hit 7 t)) :=
 levT (x := (q1 p a0)) (h := hit 7 t) (S := fun k i b => scans_l1 p t a0 k i b) (C := fun i b => scans_l2 p t a0 i (length (Pln.Kids (getD (Pln.Kids (q1 p a0)) i Pln.zero)) - 0 + 1) 0 (bif b then true else ht t (getD (Pln.Kids (q1 p a0)) i Pln.zero))) (fun _ _ _ => rfl) (fun i b hi => by
  rw [pt2 p t a0 i]
  cases b <;> rfl) _ _ _ (by omega)

theorem pt0 (p : Pln) (t : Int) (b : Bool) : scans_l0 p t  (length (Pln.Kids p) - 0 + 1) 0 b = (b || (Pln.Kids p).any (hit 8 t)) :=
 levT (x := p) (h := hit 8 t) (S := fun k i b => scans_l0 p t  k i b) (C := fun i b => scans_l1 p t  i (length (Pln.Kids (getD (Pln.Kids p) i Pln.zero)) - 0 + 1) 0 (bif b then true else ht t (getD (Pln.Kids p) i Pln.zero))) (fun _ _ _ => rfl) (fun i b hi => by
  rw [pt1 p t  i]
  cases b <;> rfl) _ _ _ (by omega)

theorem scans_hit {ws : List Int} {p : Pln} (h : WL ws 8 p) (t : Int) : scans p t = hit (SizeOf.sizeOf p + 1) t p := by
 rw [hit_lev 8 _ t p h (Nat.lt_succ_self _)]; exact pt0 p t _

end
end Go.Proofs.Ytodcdgolcbdkgaa


namespace Go.Proofs.Ytodcdgolcbdkgaa
open Go Go.Am
open List (length getD)
noncomputable section

def markPX (self : List Pln → Int → List Pln × Int) (x : Pln) (k : Int) : Pln × Int :=
 (Pln.mk k (IntKind.wrap .i64 (k + 1)) (markExprS x.Exprs (IntKind.wrap .i64 (IntKind.wrap .i64 (k + 1) + 1))).1 (markIntS x.Cols (markExprS x.Exprs (IntKind.wrap .i64 (IntKind.wrap .i64 (k + 1) + 1))).2).1 (self x.Kids (markIntS x.Cols (markExprS x.Exprs (IntKind.wrap .i64 (IntKind.wrap .i64 (k + 1) + 1))).2).2).1,
  (self x.Kids (markIntS x.Cols (markExprS x.Exprs (IntKind.wrap .i64 (IntKind.wrap .i64 (k + 1) + 1))).2).2).2)

theorem markP_cnt : ∀ (f : Nat) (a : List Pln) (k : Int), SizeOf.sizeOf a < f → 0 ≤ k → k + (ndP f a : Nat) ≤ BND → (markPlanS_r f a k).2 = k + (ndP f a : Nat) := by
 intro f
 induction f with
 | zero => intro a k h; omega
 | succ f ih =>
  intro a k hs h0 hB
  have h1 := mark_only (m := markPX (markPlanS_r f)) Pln.zero (markPlanS_l0 (markPlanS_r f))
   (fun n k i a hi => by
    show (bif decide ((i : Int) < (length a : Int)) then _ else _) = _; rw [lt_dec hi, cond_true]; simp only [lgetD_set_eq hi]
    rfl)
   (fun n k i a hi => by
    show (bif decide ((i : Int) < (length a : Int)) then _ else _) = _
    rw [ge_dec hi, cond_false]) (a.length - 0 + 1) k 0 a (by omega)
  rw [List.drop_zero] at h1; refine h1.trans (kf_sumM (m := markPX (markPlanS_r f)) (ok := fun _ _ => True) (c := fun x => 2 + ne x.Exprs + x.Cols.length + ndP f x.Kids) (B := BND) a (fun x hx k h0 hB => ⟨?_, trivial⟩) k h0 hB).1
  have hx2 : SizeOf.sizeOf x.Kids < f := by
   obtain ⟨i, hi, rfl⟩ := List.mem_iff_getElem.1 hx; have := pkids_szL hi
   rw [List.getD_eq_getElem?_getD, List.getElem?_eq_getElem hi, Option.getD_some] at this
   omega
  show (markPlanS_r f x.Kids (markIntS x.Cols (markExprS x.Exprs (IntKind.wrap .i64 (IntKind.wrap .i64 (k + 1) + 1))).2).2).2 = _; rw [wrap1 h0 (by omega), wrap1 (by omega) (by omega), (mark_cnt x.Exprs (k + 1 + 1) (by omega) (by show _ + (ne x.Exprs : Int) ≤ _; omega)).1]; show (markPlanS_r f x.Kids (markIntS x.Cols (k + 1 + 1 + (ne x.Exprs : Nat))).2).2 = _; rw [markI_cnt x.Cols _ (by omega) (by omega), ih x.Kids _ hx2 (by omega) (by omega)]; omega

end
end Go.Proofs.Ytodcdgolcbdkgaa


namespace Go.Proofs.Ytodcdgolcbdkgaa
open Go Go.Am
open List (length)
noncomputable section

theorem itab (p : Pln) (ws : List Int) : ∀ (k i : Nat) (l : List Int), ws.length - i < k → i ≤ ws.length → l.Pairwise (· < ·) → (∀ x ∈ l, 0 ≤ x ∧ x < (i : Int)) →
  (iTablesOf_l0 p ws k i l).Pairwise (· < ·) ∧ ∀ x, x ∈ iTablesOf_l0 p ws k i l ↔ x ∈ l ∨ ∃ j : Nat, i ≤ j ∧ j < ws.length ∧ x = (j : Int) ∧ scans p (j : Int) = true := by
 intro k
 induction k with
 | zero => intro i l h; omega
 | succ k ih =>
  intro i l h hi hl hb; unfold iTablesOf_l0; rw [Pln.eta]; by_cases hlt : i < ws.length
  ·
   rw [lt_dec hlt, cond_true]
   cases hs : scans p (i : Int) with
   | true =>
    obtain ⟨a, b⟩ := ih (i + 1) (l ++ [(i : Int)]) (by omega) hlt (by
     rw [List.pairwise_append]
     exact ⟨hl, List.pairwise_singleton _ _, fun x hx y hy => by rw [List.mem_singleton.1 hy]; exact (hb x hx).2⟩) (fun x hx => by
     rcases List.mem_append.1 hx with hx | hx
     · have := hb x hx; omega
     ·
      rw [List.mem_singleton.1 hx]
      omega)
    refine ⟨a, fun x => ?_⟩; rw [cond_true, b, List.mem_append, List.mem_singleton]; constructor
    ·
     rintro ((hx | hx) | ⟨j, h1, h2, h3, h4⟩)
     · exact .inl hx
     · exact .inr ⟨i, Nat.le_refl _, hlt, hx, hs⟩
     · exact .inr ⟨j, by omega, h2, h3, h4⟩
    ·
     rintro (hx | ⟨j, h1, h2, h3, h4⟩)
     · exact .inl (.inl hx)
     ·
      by_cases hj : j = i
      · subst hj; exact .inl (.inr h3)
      · exact .inr ⟨j, by omega, h2, h3, h4⟩
   | false =>
    obtain ⟨a, b⟩ := ih (i + 1) l (by omega) hlt hl (fun x hx => by have := hb x hx; omega); refine ⟨a, fun x => ?_⟩; rw [cond_false, b]; constructor
    ·
     rintro (hx | ⟨j, h1, h2, h3, h4⟩)
     · exact .inl hx
     · exact .inr ⟨j, by omega, h2, h3, h4⟩
    ·
     rintro (hx | ⟨j, h1, h2, h3, h4⟩)
     · exact .inl hx
     ·
      by_cases hj : j = i
      · subst hj; rw [hs] at h4; cases h4
      · exact .inr ⟨j, by omega, h2, h3, h4⟩
  ·
   rw [ge_dec hlt, cond_false]; refine ⟨hl, fun x => ⟨.inl, ?_⟩⟩; rintro (hx | ⟨j, h1, h2, _⟩)
   · exact hx
   · omega

theorem TablesOf_same (p : Pln) (ws : List Int) : iTablesOf p ws = TablesOf p ws ∧ (iTablesOf p ws).length ≤ 1000 := by
 unfold iTablesOf TablesOf andThen; rw [Pln.eta, iPlanWidth_eq]
 cases h : widthOf p ws == 0 with
 | true => exact ⟨rfl, Nat.zero_le _⟩
 | false =>
  have h0 : widthOf p ws ≠ 0 := ne_of_beq_false h; have hP := PVw.mk' h0; have hn := hP.1.n4; have hW : WL ws 8 p := WL.mk' (by rw [Pln.eta, iPlanWidth_eq]; exact h0); obtain ⟨a, b⟩ := itab p ws (ws.length - 0 + 1) 0 [] (by omega) (Nat.zero_le _) List.Pairwise.nil (fun x hx => by cases hx); obtain ⟨c, d⟩ := addT_st (n := ws.length) (SizeOf.sizeOf p + 1) [] p (Nat.lt_succ_self _) hP.pvn ST.nil
  have e : iTablesOf_l0 p ws (ws.length - 0 + 1) 0 [] = addTables_r (SizeOf.sizeOf p + 1) [] p := by
   refine asc_ext _ _ a c.1 fun x => ?_; rw [b]; constructor
   ·
    rintro (hx | ⟨j, -, h2, rfl, h4⟩)
    · cases hx
    · rw [scans_hit hW] at h4; exact (d _).2 (.inr h4)
   ·
    intro hx; have hr := c.2 x hx; rcases (d x).1 hx with hx | hx
    · cases hx
    · refine .inr ⟨x.toNat, Nat.zero_le _, by omega, by omega, ?_⟩; rw [scans_hit hW, show ((x.toNat : Nat) : Int) = x by omega]; exact hx
  rw [cond_false, cond_false, e]; refine ⟨rfl, ?_⟩; have := c.len; show (addTables_r (SizeOf.sizeOf p + 1) [] p).length ≤ 1000; omega

theorem ints_held (a : List Int) (h : a.length ≤ 1000) : heldIntS (markIntS a 1).1 1 = (markIntS a 1).2 ∧ ¬ (markIntS a 1).2 < 0 := by
 have hok : ∀ (l : List Int) (k : Int), OKL (fun (_ : Int) k => (k, IntKind.wrap .i64 (k + 1))) (fun _ _ => True) l k := by
  intro l
  induction l with
  | nil => intro k; trivial
  | cons x l ih => intro k; exact ⟨trivial, ih _⟩
 obtain ⟨h1, h2, _, h4⟩ := mark_held (m := fun (_ : Int) k => (k, IntKind.wrap .i64 (k + 1))) (ok := fun _ _ => True) 0 markIntS_l0 heldIntS_l0
  (fun n k i a hi => by
   show (bif decide ((i : Int) < (length a : Int)) then _ else _) = _
   rw [lt_dec hi, cond_true])
  (fun n k i a hi => by
   show (bif decide ((i : Int) < (length a : Int)) then _ else _) = _
   rw [ge_dec hi, cond_false])
  (fun b n k i x hi hb _ => by
   show (bif decide ((i : Int) < (length b : Int)) then _ else _) = _; rw [lt_dec hi, cond_true, hb]
   simp)
  (fun b n k i hi => by
   show (bif decide ((i : Int) < (length b : Int)) then _ else _) = _
   rw [ge_dec hi, cond_false]) (a.length - 0 + 1) 1 0 a (by omega) (hok _ _)
 rw [List.drop_zero] at h4; have h5 := markI_cnt a 1 (by decide) (by unfold BND; omega); have h6 := ones (g := fun (_ : Int) k => k) (a := a) (k := 1) (by decide) (by unfold BND; omega); have h7 := h4 ((markIntS_l0 (a.length - 0 + 1) 1 0 a).2.length - 0 + 1) (by rw [h2]; omega); refine ⟨?_, by rw [h5]; omega⟩; rw [h5, ← h6]; show Sum.elim _ _ (heldIntS_l0 (markIntS_l0 (a.length - 0 + 1) 1 0 a).2 ((markIntS_l0 (a.length - 0 + 1) 1 0 a).2.length - 0 + 1) 1 0) = _; rw [h7]; rfl

theorem FnExactTablesOf_law (p : Pln) (ws : List Int) : FnExactTablesOf p ws = true := by
 unfold FnExactTablesOf; simp only [eT, dT, fT, gT, wT, Pln.eta, toPlanD_eq, toIntS_eq, (TablesOf_same p ws).1, eqPlan_self, eqIntS_self]; by_cases hw : 1048576 < (length ws : Int)
 · rw [decide_eq_true hw]; rfl
 ·
  rw [decide_eq_false hw, cond_false]; by_cases hp : szPlan p 1048576 < 0
  · rw [decide_eq_true hp]; rfl
  ·
   rw [decide_eq_false hp, cond_false]; have c1 := szP_nd (SizeOf.sizeOf p + 1) p 1048576 (Nat.lt_succ_self _) (by decide) (Int.not_lt.1 hp)
   have c3 := ndP_mono (SizeOf.sizeOf p.Kids + 1) (SizeOf.sizeOf p + 1) p.Kids (by
    cases p with
    | mk k t e c ks => simp only [Pln.mk.sizeOf_spec, Pln.Kids]; omega)
   have c4 : szPlan p 1048576 = szPlan_r (SizeOf.sizeOf p + 1) p 1048576 := rfl; have c5 : 0 ≤ szPlan_r (SizeOf.sizeOf p + 1) p 1048576 := Int.not_lt.1 hp; have hB : BND = 4611686018427387900 := rfl; have m1 : (markExprS p.Exprs 1).2 = 1 + (ne p.Exprs : Nat) := (mark_cnt p.Exprs 1 (by decide) (by show _ + (ne p.Exprs : Int) ≤ _; omega)).1; have m2 := markI_cnt p.Cols (1 + (ne p.Exprs : Nat)) (by omega) (by omega); have m3 : (markPlanS p.Kids (1 + (ne p.Exprs : Nat) + (p.Cols.length : Nat))).2 = 1 + (ne p.Exprs : Nat) + (p.Cols.length : Nat) + (ndP (SizeOf.sizeOf p.Kids + 1) p.Kids : Nat) := markP_cnt _ p.Kids _ (Nat.lt_succ_self _) (by omega) (by omega); have m4 := markI_cnt ws (1 + (ne p.Exprs : Nat) + (p.Cols.length : Nat) + (ndP (SizeOf.sizeOf p.Kids + 1) p.Kids : Nat)) (by omega) (by omega); have hs := TablesOf_same p ws; rw [hs.1] at hs; obtain ⟨h1, h2⟩ := ints_held (TablesOf p ws) hs.2; rw [m1, m2, m3, m4, decide_eq_false (by omega), h1, decide_eq_false h2]; simp

end
end Go.Proofs.Ytodcdgolcbdkgaa
