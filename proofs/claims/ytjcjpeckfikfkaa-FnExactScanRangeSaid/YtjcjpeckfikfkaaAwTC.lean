/-
  A part of the proof of this claim (AwTC): what functions of the program compute, and plain facts of that. No conditions.
-/
import Derived.Test.YtjcjpeckfikfkaaAwTB
import Derived.Test.YtjcjpeckfikfkaaAwT6
import Derived.Test.YtjcjpeckfikfkaaAyG
set_option linter.all false
namespace Go.Proofs.Ytjcjpeckfikfkaa
open Go Go.Am
noncomputable section

def toRange (a : Rng) : Rng := a

def toRange_sp : FnSpec := mkSpec [.val (.named 0)] [.val (.named 0)] (fun (a : Rng) => True) (fun (a : Rng) => [⟨(.named 0), (toRange a)⟩])

theorem toRange_ok : FnOK Try.prog 50 toRange_sp := by
 have hC : CtxOK Try.prog (mkCtx tyL []) := CtxOK.nil tyOK
 refine FnOK.of_body Try.func50 (by kernel_rfl) rfl (C := (mkCtx tyL [])) hC.ty (by kernel_rfl) ?_
 intro (a : Rng) hwf hpre E
 have hpre : True := hpre
 have hw_a : Wf ⟨(.named 0), (a : Rng)⟩ := hwf _ (List.Mem.head _)
 have hr_a_Low : -9223372036854775808 ≤ Rng.Low a ∧ Rng.Low a ≤ 9223372036854775807 := (hw_a.field (tv := ⟨(.int .i64), Rng.Low a⟩) (List.Mem.head _)).int_inv
 have hr_a_High : -9223372036854775808 ≤ Rng.High a ∧ Rng.High a ≤ 9223372036854775807 := (hw_a.field (tv := ⟨(.int .i64), Rng.High a⟩) (List.Mem.tail _ (List.Mem.head _))).int_inv
 have e0 : toRange a = toRange a := rfl
 refine AW.seq (AW.r1 hC [1, 2] [4, 8] ⟨[(1, .ref 4 1 0), (2, .ref 8 1 0)], [(4, .box 1 [.int .i64 (Rng.Low a), .int .i64 (Rng.High a)]), (8, .box 1 [.int .i64 0, .int .i64 0])]⟩ ?_)
 refine AW.seq (AW.r1 hC [1, 2, 3] [4, 8, 12] ⟨[(1, .ref 4 1 0), (2, .ref 8 1 0), (3, .ref 12 1 0)], [(4, .box 1 [.int .i64 (Rng.Low a), .int .i64 (Rng.High a)]), (8, .box 1 [.int .i64 0, .int .i64 0]), (12, .box 1 [.int .i64 0, .int .i64 0])]⟩ ?_)
 refine AW.seq (AW.r1 hC [1, 2, 3] [4, 8, 12] ⟨[(1, .ref 4 1 0), (2, .ref 8 1 0), (3, .ref 12 1 0)], [(4, .box 1 [.int .i64 (Rng.Low a), .int .i64 (Rng.High a)]), (8, .box 1 [.int .i64 0, .int .i64 0]), (12, .box 1 [.int .i64 (Rng.Low a), .int .i64 0])]⟩ ?_)
 refine AW.seq (AW.r1 hC [2, 3] [8, 12] ⟨[(2, .ref 8 1 0), (3, .ref 12 1 0)], [(8, .box 1 [.int .i64 0, .int .i64 0]), (12, .box 1 [.int .i64 (Rng.Low a), .int .i64 (Rng.High a)])]⟩ ?_)
 refine AW.seq (AW.r1 hC [2] [8] ⟨[(2, .ref 8 1 0)], [(8, .box 1 [.int .i64 (Rng.Low a), .int .i64 (Rng.High a)])]⟩ ?_)
 exact AW.ret (AW.retE (β := Rng) (fun v => [⟨(.named 0), v⟩]) (fun v => []) (v := a) e0 (by kernel_rfl) rfl rfl)

def FnExactScanRange (aT : Tab) (aCol : Int) (aR : Rng) : Bool := (bif (decide ((szTable aT 1048576) < 0)) then true else (bif (bif (!(eqTable ((iScanRange (toTable aT) aCol (toRange aR)).1) ((sScanRange (toTable aT) aCol (toRange aR)).1))) then true else (((iScanRange (toTable aT) aCol (toRange aR)).2) != ((sScanRange (toTable aT) aCol (toRange aR)).2))) then false else (bif (!(eqTable (toTable aT) (toTable aT))) then false else (bif (bif (bif (decide ((markValueSS (Tab.Rows (toTable aT)) 1).2 < 0)) then true else (!(eqTable ((iScanRange (toTable aT) aCol (toRange aR)).1) ((sScanRange (toTable aT) aCol (toRange aR)).1)))) then true else (((iScanRange (toTable aT) aCol (toRange aR)).2) != ((sScanRange (toTable aT) aCol (toRange aR)).2))) then false else (bif (decide ((heldTable (Tab.mk (Tab.Width ((iScanRange (toTable aT) aCol (toRange aR)).1)) ((markValueSS (Tab.Rows ((iScanRange (toTable aT) aCol (toRange aR)).1)) 1).1)) 1) < 0)) then false else (bif ((heldTable (Tab.mk (Tab.Width ((iScanRange (toTable aT) aCol (toRange aR)).1)) ((markValueSS (Tab.Rows ((iScanRange (toTable aT) aCol (toRange aR)).1)) 1).1)) 1) != (markValueSS (Tab.Rows ((iScanRange (toTable aT) aCol (toRange aR)).1)) 1).2) then false else (bif (bif (!(eqTable ((iScanRange (toTable aT) aCol (toRange aR)).1) ((sScanRange (toTable aT) aCol (toRange aR)).1))) then true else (((iScanRange (toTable aT) aCol (toRange aR)).2) != ((sScanRange (toTable aT) aCol (toRange aR)).2))) then false else (bif (decide ((heldTable (Tab.mk (Tab.Width ((iScanRange (toTable aT) aCol (toRange aR)).1)) ((markValueSS (Tab.Rows ((iScanRange (toTable aT) aCol (toRange aR)).1)) 1).1)) 1) < 0)) then false else (bif ((heldTable (Tab.mk (Tab.Width ((iScanRange (toTable aT) aCol (toRange aR)).1)) ((markValueSS (Tab.Rows ((iScanRange (toTable aT) aCol (toRange aR)).1)) 1).1)) 1) != (markValueSS (Tab.Rows ((iScanRange (toTable aT) aCol (toRange aR)).1)) 1).2) then false else true)))))))))

def FnExactScanRange_sp : FnSpec := mkSpec [.val (.named 2), .val (.int .i64), .val (.named 0)] [.val .bool] (fun (aT : Tab) (aCol : Int) (aR : Rng) => True) (fun (aT : Tab) (aCol : Int) (aR : Rng) => [⟨.bool, (FnExactScanRange aT aCol aR)⟩])

theorem FnExactScanRange_ok : FnOK Try.prog 13 FnExactScanRange_sp := by
 have hC : CtxOK Try.prog (mkCtx tyL [(22, eqTable_sp), (26, heldTable_sp), (34, szTable_sp), (35, toTable_sp), (48, iScanRangeO_sp), (49, sScanRange_sp), (50, toRange_sp)]) := CtxOK.cons eqTable_ok (CtxOK.cons heldTable_ok (CtxOK.cons szTable_ok (CtxOK.cons toTable_ok (CtxOK.cons iScanRangeO_ok (CtxOK.cons sScanRange_ok (CtxOK.cons toRange_ok (CtxOK.nil tyOK)))))))
 have hM : Try.prog.follows .mixedOrders = true := Try.checked.mixed
 have hC1 := hC.rebase 1000
 refine FnOK.of_body Try.func13 (by kernel_rfl) rfl (C := (mkCtx tyL [(22, eqTable_sp), (26, heldTable_sp), (34, szTable_sp), (35, toTable_sp), (48, iScanRangeO_sp), (49, sScanRange_sp), (50, toRange_sp)])) hC.ty (by kernel_rfl) ?_
 intro (aT : Tab) (aCol : Int) (aR : Rng) hwf hpre E
 have hpre : True := hpre
 have hw_aT : Wf ⟨(.named 2), (aT : Tab)⟩ := hwf _ (List.Mem.head _)
 have hr_aT_Width : -9223372036854775808 ≤ Tab.Width aT ∧ Tab.Width aT ≤ 9223372036854775807 := (hw_aT.field (tv := ⟨(.int .i64), Tab.Width aT⟩) (List.Mem.head _)).int_inv
 have hl_aT_Rows : ((List.length (Tab.Rows aT) : Nat) : Int) ≤ 9223372036854775807 := (hw_aT.field (tv := ⟨(.slice (.slice (.named 1))), Tab.Rows aT⟩) (List.Mem.tail _ (List.Mem.head _))).len
 have hw_aCol : Wf ⟨(.int .i64), (aCol : Int)⟩ := hwf _ (List.Mem.tail _ (List.Mem.head _))
 have hr_aCol : -9223372036854775808 ≤ aCol ∧ aCol ≤ 9223372036854775807 := hw_aCol.int_inv
 have hw_aR : Wf ⟨(.named 0), (aR : Rng)⟩ := hwf _ (List.Mem.tail _ (List.Mem.tail _ (List.Mem.head _)))
 have hr_aR_Low : -9223372036854775808 ≤ Rng.Low aR ∧ Rng.Low aR ≤ 9223372036854775807 := (hw_aR.field (tv := ⟨(.int .i64), Rng.Low aR⟩) (List.Mem.head _)).int_inv
 have hr_aR_High : -9223372036854775808 ≤ Rng.High aR ∧ Rng.High aR ≤ 9223372036854775807 := (hw_aR.field (tv := ⟨(.int .i64), Rng.High aR⟩) (List.Mem.tail _ (List.Mem.head _))).int_inv
 have e0 : FnExactScanRange aT aCol aR = FnExactScanRange aT aCol aR := rfl
 refine AW.seq (AW.r1 hC [1, 3, 5] [12, 20] ⟨[(1, .int .i64 aCol), (3, .ref 12 1 0), (5, .ref 20 1 0)], [(12, .box 1 [.int .i64 (Tab.Width aT), .data (.slice (.slice (.named 1))) ((Tab.Rows aT) : List (List Val))]), (20, .box 1 [.int .i64 (Rng.Low aR), .int .i64 (Rng.High aR)])]⟩ ?_)
 refine AW.seq (AW.r1 hC [1, 3, 5, 7] [12, 20] ⟨[(1, .int .i64 aCol), (3, .ref 12 1 0), (5, .ref 20 1 0), (7, .int .i64 1048576)], [(12, .box 1 [.int .i64 (Tab.Width aT), .data (.slice (.slice (.named 1))) ((Tab.Rows aT) : List (List Val))]), (20, .box 1 [.int .i64 (Rng.Low aR), .int .i64 (Rng.High aR)])]⟩ ?_)
 refine AW.seq (AW.r0 hC [1, 3, 5, 7] [12, 20] ⟨[(1, .int .i64 aCol), (3, .ref 12 1 0), (5, .ref 20 1 0), (7, .int .i64 (szTable aT 1048576))], [(12, .box 1 [.int .i64 (Tab.Width aT), .data (.slice (.slice (.named 1))) ((Tab.Rows aT) : List (List Val))]), (20, .box 1 [.int .i64 (Rng.Low aR), .int .i64 (Rng.High aR)])]⟩ [(0 ≤ (1048576 : Int))] ?_ ?_)
 ·
  refine ⟨?_, trivial⟩
  ·
   omega
 refine AW.seq (AW.seq (AW.r1 hC [1, 3, 5, 22] [12, 20] ⟨[(1, .int .i64 aCol), (3, .ref 12 1 0), (5, .ref 20 1 0), (22, .bool (decide ((szTable aT 1048576) < 0)))], [(12, .box 1 [.int .i64 (Tab.Width aT), .data (.slice (.slice (.named 1))) ((Tab.Rows aT) : List (List Val))]), (20, .box 1 [.int .i64 (Rng.Low aR), .int .i64 (Rng.High aR)])]⟩ ?_))
 refine AW.cd (decide ((szTable aT 1048576) < 0)) ?_ ?_
 ·
  intro h1
  have h1q : (szTable aT 1048576) < 0 := (of_decide_eq_true h1)
  have e2 := e0.trans (Go.Am.bif_t h1)
  refine AW.seq (AW.r1 hC [6] [] ⟨[(6, .bool true)], []⟩ ?_)
  exact AW.ret (AW.retE (β := Bool) (fun v => [⟨.bool, v⟩]) (fun v => []) (v := true) e2 (by kernel_rfl) rfl rfl)
 ·
  intro h3
  have h3q : ¬ ((szTable aT 1048576) < 0) := (of_decide_eq_false h3)
  have e4 := e0.trans (Go.Am.bif_f h3)
  refine AW.kp [1, 3, 5] [12, 20] ⟨[(1, .int .i64 aCol), (3, .ref 12 1 0), (5, .ref 20 1 0)], [(12, .box 1 [.int .i64 (Tab.Width aT), .data (.slice (.slice (.named 1))) ((Tab.Rows aT) : List (List Val))]), (20, .box 1 [.int .i64 (Rng.Low aR), .int .i64 (Rng.High aR)])]⟩ ?_
  refine AW.skip (AW.seq (AW.d0 hC hM [1, 3, 5, 8, 9] [12, 20, 32] ⟨[(1, .int .i64 aCol), (3, .ref 12 1 0), (5, .ref 20 1 0), (8, .ref 32 1 0), (9, .bool ((sScanRange (toTable aT) aCol (toRange aR)).2))], [(12, .box 1 [.int .i64 (Tab.Width aT), .data (.slice (.slice (.named 1))) ((Tab.Rows aT) : List (List Val))]), (20, .box 1 [.int .i64 (Rng.Low aR), .int .i64 (Rng.High aR)]), (32, .box 1 [.int .i64 (Tab.Width ((sScanRange (toTable aT) aCol (toRange aR)).1)), .data (.slice (.slice (.named 1))) ((Tab.Rows ((sScanRange (toTable aT) aCol (toRange aR)).1)) : List (List Val))])]⟩ [((List.length aT.Rows : Int) ≤ 1048576 ∧ ∀ i : Nat, i < List.length aT.Rows → (List.length (List.getD aT.Rows i []) : Int) ≤ 1048576), (True), (True)] ?_ ?_))
  ·
   refine ⟨?_, ?_, ?_, trivial⟩
   ·
    exact szTable_fit (by assumption)
   ·
    trivial
   ·
    trivial
  refine AW.seq (AW.r0 hC [1, 3, 5, 8, 9, 10] [12, 20, 32, 40, 132] ⟨[(1, .int .i64 aCol), (3, .ref 12 1 0), (5, .ref 20 1 0), (8, .ref 32 1 0), (9, .bool ((sScanRange (toTable aT) aCol (toRange aR)).2)), (10, .ref 40 1 0)], [(12, .box 1 [.int .i64 (Tab.Width aT), .data (.slice (.slice (.named 1))) ((Tab.Rows aT) : List (List Val))]), (20, .box 1 [.int .i64 (Rng.Low aR), .int .i64 (Rng.High aR)]), (32, .box 1 [.int .i64 (Tab.Width ((sScanRange (toTable aT) aCol (toRange aR)).1)), .data (.slice (.slice (.named 1))) ((Tab.Rows ((sScanRange (toTable aT) aCol (toRange aR)).1)) : List (List Val))]), (40, .box 1 [.int .i64 (Tab.Width (toTable aT)), .tr 132 1]), (132, .tree 1 (.slice (.named 1)) ((Tab.Rows (toTable aT)) : List (List Val)))]⟩ [((List.length aT.Rows : Int) ≤ 1048576 ∧ ∀ i : Nat, i < List.length aT.Rows → (List.length (List.getD aT.Rows i []) : Int) ≤ 1048576)] ?_ ?_)
  ·
   refine ⟨?_, trivial⟩
   ·
    exact szTable_fit (by assumption)
  refine AW.seq (AW.d0 hC hM [1, 3, 5, 8, 9, 10, 11, 12] [12, 20, 32, 40, 44, 132, 156] ⟨[(1, .int .i64 aCol), (3, .ref 12 1 0), (5, .ref 20 1 0), (8, .ref 32 1 0), (9, .bool ((sScanRange (toTable aT) aCol (toRange aR)).2)), (10, .ref 40 1 0), (11, .ref 44 1 0), (12, .bool ((iScanRange (toTable aT) aCol (toRange aR)).2))], [(12, .box 1 [.int .i64 (Tab.Width aT), .data (.slice (.slice (.named 1))) ((Tab.Rows aT) : List (List Val))]), (20, .box 1 [.int .i64 (Rng.Low aR), .int .i64 (Rng.High aR)]), (32, .box 1 [.int .i64 (Tab.Width ((sScanRange (toTable aT) aCol (toRange aR)).1)), .data (.slice (.slice (.named 1))) ((Tab.Rows ((sScanRange (toTable aT) aCol (toRange aR)).1)) : List (List Val))]), (40, .box 1 [.int .i64 (Tab.Width (toTable aT)), .tr 132 1]), (44, .box 1 [.int .i64 (Tab.Width ((iScanRange (toTable aT) aCol (toRange aR)).1)), .tr 156 1]), (132, .tree 1 (.slice (.named 1)) ((Tab.Rows (toTable aT)) : List (List Val))), (156, .tree 1 (.slice (.named 1)) ((Tab.Rows ((iScanRange (toTable aT) aCol (toRange aR)).1)) : List (List Val)))]⟩ [(True), (True)] ?_ ?_)
  ·
   refine ⟨?_, ?_, trivial⟩
   ·
    trivial
   ·
    trivial
  refine AW.seq (AW.seq (AW.r0 hC [1, 3, 5, 8, 9, 10, 11, 12, 50] [12, 20, 32, 40, 44, 132, 156] ⟨[(1, .int .i64 aCol), (3, .ref 12 1 0), (5, .ref 20 1 0), (8, .ref 32 1 0), (9, .bool ((sScanRange (toTable aT) aCol (toRange aR)).2)), (10, .ref 40 1 0), (11, .ref 44 1 0), (12, .bool ((iScanRange (toTable aT) aCol (toRange aR)).2)), (50, .bool (bif (!(eqTable ((iScanRange (toTable aT) aCol (toRange aR)).1) ((sScanRange (toTable aT) aCol (toRange aR)).1))) then true else (((iScanRange (toTable aT) aCol (toRange aR)).2) != ((sScanRange (toTable aT) aCol (toRange aR)).2))))], [(12, .box 1 [.int .i64 (Tab.Width aT), .data (.slice (.slice (.named 1))) ((Tab.Rows aT) : List (List Val))]), (20, .box 1 [.int .i64 (Rng.Low aR), .int .i64 (Rng.High aR)]), (32, .box 1 [.int .i64 (Tab.Width ((sScanRange (toTable aT) aCol (toRange aR)).1)), .data (.slice (.slice (.named 1))) ((Tab.Rows ((sScanRange (toTable aT) aCol (toRange aR)).1)) : List (List Val))]), (40, .box 1 [.int .i64 (Tab.Width (toTable aT)), .tr 132 1]), (44, .box 1 [.int .i64 (Tab.Width ((iScanRange (toTable aT) aCol (toRange aR)).1)), .tr 156 1]), (132, .tree 1 (.slice (.named 1)) ((Tab.Rows (toTable aT)) : List (List Val))), (156, .tree 1 (.slice (.named 1)) ((Tab.Rows ((iScanRange (toTable aT) aCol (toRange aR)).1)) : List (List Val)))]⟩ [(True), (((!(eqTable ((iScanRange (toTable aT) aCol (toRange aR)).1) ((sScanRange (toTable aT) aCol (toRange aR)).1))) = false) → (((!(eqTable ((iScanRange (toTable aT) aCol (toRange aR)).1) ((sScanRange (toTable aT) aCol (toRange aR)).1))) = false))), (((!(eqTable ((iScanRange (toTable aT) aCol (toRange aR)).1) ((sScanRange (toTable aT) aCol (toRange aR)).1))) = false) → (((!(eqTable ((iScanRange (toTable aT) aCol (toRange aR)).1) ((sScanRange (toTable aT) aCol (toRange aR)).1))) = false))), (((!(eqTable ((iScanRange (toTable aT) aCol (toRange aR)).1) ((sScanRange (toTable aT) aCol (toRange aR)).1))) = false) → (((!(eqTable ((iScanRange (toTable aT) aCol (toRange aR)).1) ((sScanRange (toTable aT) aCol (toRange aR)).1))) = false)))] ?_ ?_))
  ·
   refine ⟨?_, ?_, ?_, ?_, trivial⟩
   ·
    trivial
   ·
    intro g5
    have g5p0 : (eqTable ((iScanRange (toTable aT) aCol (toRange aR)).1) ((sScanRange (toTable aT) aCol (toRange aR)).1)) = true := (Go.Am.not_neg g5)
    assumption
   ·
    intro g6
    have g6p0 : (eqTable ((iScanRange (toTable aT) aCol (toRange aR)).1) ((sScanRange (toTable aT) aCol (toRange aR)).1)) = true := (Go.Am.not_neg g6)
    assumption
   ·
    intro g7
    have g7p0 : (eqTable ((iScanRange (toTable aT) aCol (toRange aR)).1) ((sScanRange (toTable aT) aCol (toRange aR)).1)) = true := (Go.Am.not_neg g7)
    assumption
  refine AW.cd (bif (!(eqTable ((iScanRange (toTable aT) aCol (toRange aR)).1) ((sScanRange (toTable aT) aCol (toRange aR)).1))) then true else (((iScanRange (toTable aT) aCol (toRange aR)).2) != ((sScanRange (toTable aT) aCol (toRange aR)).2))) ?_ ?_
  ·
   intro h8
   have h8q : ((eqTable ((iScanRange (toTable aT) aCol (toRange aR)).1) ((sScanRange (toTable aT) aCol (toRange aR)).1)) = false) ∨ ((((iScanRange (toTable aT) aCol (toRange aR)).2) != ((sScanRange (toTable aT) aCol (toRange aR)).2)) = true) := (Or.imp (fun h => (Go.Am.not_pos h)) (fun h => h) (Go.Am.or_pos h8))
   have e9 := e4.trans (Go.Am.bif_t h8)
   refine AW.seq (AW.r1 hC [6] [] ⟨[(6, .bool false)], []⟩ ?_)
   exact AW.ret (AW.retE (β := Bool) (fun v => [⟨.bool, v⟩]) (fun v => []) (v := false) e9 (by kernel_rfl) rfl rfl)
  ·
   intro h10
   have h10q : ((eqTable ((iScanRange (toTable aT) aCol (toRange aR)).1) ((sScanRange (toTable aT) aCol (toRange aR)).1)) = true) ∧ ((((iScanRange (toTable aT) aCol (toRange aR)).2) != ((sScanRange (toTable aT) aCol (toRange aR)).2)) = false) := (And.imp (fun h => (Go.Am.not_neg h)) (fun h => h) (Go.Am.or_neg h10))
   have e11 := e4.trans (Go.Am.bif_f h10)
   refine AW.kp [1, 3, 5, 8, 9, 10, 11, 12] [12, 20, 32, 40, 44, 132, 156] ⟨[(1, .int .i64 aCol), (3, .ref 12 1 0), (5, .ref 20 1 0), (8, .ref 32 1 0), (9, .bool ((sScanRange (toTable aT) aCol (toRange aR)).2)), (10, .ref 40 1 0), (11, .ref 44 1 0), (12, .bool ((iScanRange (toTable aT) aCol (toRange aR)).2))], [(12, .box 1 [.int .i64 (Tab.Width aT), .data (.slice (.slice (.named 1))) ((Tab.Rows aT) : List (List Val))]), (20, .box 1 [.int .i64 (Rng.Low aR), .int .i64 (Rng.High aR)]), (32, .box 1 [.int .i64 (Tab.Width ((sScanRange (toTable aT) aCol (toRange aR)).1)), .data (.slice (.slice (.named 1))) ((Tab.Rows ((sScanRange (toTable aT) aCol (toRange aR)).1)) : List (List Val))]), (40, .box 1 [.int .i64 (Tab.Width (toTable aT)), .tr 132 1]), (44, .box 1 [.int .i64 (Tab.Width ((iScanRange (toTable aT) aCol (toRange aR)).1)), .tr 156 1]), (132, .tree 1 (.slice (.named 1)) ((Tab.Rows (toTable aT)) : List (List Val))), (156, .tree 1 (.slice (.named 1)) ((Tab.Rows ((iScanRange (toTable aT) aCol (toRange aR)).1)) : List (List Val)))]⟩ ?_
   refine AW.skip (AW.seq (AW.seq (AW.d0 hC hM [1, 3, 5, 8, 9, 10, 11, 12, 55] [12, 20, 32, 40, 44, 132, 156] ⟨[(1, .int .i64 aCol), (3, .ref 12 1 0), (5, .ref 20 1 0), (8, .ref 32 1 0), (9, .bool ((sScanRange (toTable aT) aCol (toRange aR)).2)), (10, .ref 40 1 0), (11, .ref 44 1 0), (12, .bool ((iScanRange (toTable aT) aCol (toRange aR)).2)), (55, .bool (!(eqTable (toTable aT) (toTable aT))))], [(12, .box 1 [.int .i64 (Tab.Width aT), .data (.slice (.slice (.named 1))) ((Tab.Rows aT) : List (List Val))]), (20, .box 1 [.int .i64 (Rng.Low aR), .int .i64 (Rng.High aR)]), (32, .box 1 [.int .i64 (Tab.Width ((sScanRange (toTable aT) aCol (toRange aR)).1)), .data (.slice (.slice (.named 1))) ((Tab.Rows ((sScanRange (toTable aT) aCol (toRange aR)).1)) : List (List Val))]), (40, .box 1 [.int .i64 (Tab.Width (toTable aT)), .tr 132 1]), (44, .box 1 [.int .i64 (Tab.Width ((iScanRange (toTable aT) aCol (toRange aR)).1)), .tr 156 1]), (132, .tree 1 (.slice (.named 1)) ((Tab.Rows (toTable aT)) : List (List Val))), (156, .tree 1 (.slice (.named 1)) ((Tab.Rows ((iScanRange (toTable aT) aCol (toRange aR)).1)) : List (List Val)))]⟩ [((List.length aT.Rows : Int) ≤ 1048576 ∧ ∀ i : Nat, i < List.length aT.Rows → (List.length (List.getD aT.Rows i []) : Int) ≤ 1048576), (True)] ?_ ?_)))
   ·
    refine ⟨?_, ?_, trivial⟩
    ·
     exact szTable_fit (by assumption)
    ·
     trivial
   refine AW.cd (!(eqTable (toTable aT) (toTable aT))) ?_ ?_
   ·
    intro h12
    have h12q : (eqTable (toTable aT) (toTable aT)) = false := (Go.Am.not_pos h12)
    have e13 := e11.trans (Go.Am.bif_t h12)
    refine AW.seq (AW.r1 hC [6] [] ⟨[(6, .bool false)], []⟩ ?_)
    exact AW.ret (AW.retE (β := Bool) (fun v => [⟨.bool, v⟩]) (fun v => []) (v := false) e13 (by kernel_rfl) rfl rfl)
   ·
    intro h14
    have h14q : (eqTable (toTable aT) (toTable aT)) = true := (Go.Am.not_neg h14)
    have e15 := e11.trans (Go.Am.bif_f h14)
    refine AW.kp [1, 3, 5, 8, 9, 10, 11, 12] [12, 20, 32, 40, 44, 132, 156] ⟨[(1, .int .i64 aCol), (3, .ref 12 1 0), (5, .ref 20 1 0), (8, .ref 32 1 0), (9, .bool ((sScanRange (toTable aT) aCol (toRange aR)).2)), (10, .ref 40 1 0), (11, .ref 44 1 0), (12, .bool ((iScanRange (toTable aT) aCol (toRange aR)).2))], [(12, .box 1 [.int .i64 (Tab.Width aT), .data (.slice (.slice (.named 1))) ((Tab.Rows aT) : List (List Val))]), (20, .box 1 [.int .i64 (Rng.Low aR), .int .i64 (Rng.High aR)]), (32, .box 1 [.int .i64 (Tab.Width ((sScanRange (toTable aT) aCol (toRange aR)).1)), .data (.slice (.slice (.named 1))) ((Tab.Rows ((sScanRange (toTable aT) aCol (toRange aR)).1)) : List (List Val))]), (40, .box 1 [.int .i64 (Tab.Width (toTable aT)), .tr 132 1]), (44, .box 1 [.int .i64 (Tab.Width ((iScanRange (toTable aT) aCol (toRange aR)).1)), .tr 156 1]), (132, .tree 1 (.slice (.named 1)) ((Tab.Rows (toTable aT)) : List (List Val))), (156, .tree 1 (.slice (.named 1)) ((Tab.Rows ((iScanRange (toTable aT) aCol (toRange aR)).1)) : List (List Val)))]⟩ ?_
    refine AW.skip (AW.seq (AW.r1 hC [1, 3, 5, 8, 9, 10, 11, 12, 13] [12, 20, 32, 40, 44, 132, 156] ⟨[(1, .int .i64 aCol), (3, .ref 12 1 0), (5, .ref 20 1 0), (8, .ref 32 1 0), (9, .bool ((sScanRange (toTable aT) aCol (toRange aR)).2)), (10, .ref 40 1 0), (11, .ref 44 1 0), (12, .bool ((iScanRange (toTable aT) aCol (toRange aR)).2)), (13, .int .i64 1)], [(12, .box 1 [.int .i64 (Tab.Width aT), .data (.slice (.slice (.named 1))) ((Tab.Rows aT) : List (List Val))]), (20, .box 1 [.int .i64 (Rng.Low aR), .int .i64 (Rng.High aR)]), (32, .box 1 [.int .i64 (Tab.Width ((sScanRange (toTable aT) aCol (toRange aR)).1)), .data (.slice (.slice (.named 1))) ((Tab.Rows ((sScanRange (toTable aT) aCol (toRange aR)).1)) : List (List Val))]), (40, .box 1 [.int .i64 (Tab.Width (toTable aT)), .tr 132 1]), (44, .box 1 [.int .i64 (Tab.Width ((iScanRange (toTable aT) aCol (toRange aR)).1)), .tr 156 1]), (132, .tree 1 (.slice (.named 1)) ((Tab.Rows (toTable aT)) : List (List Val))), (156, .tree 1 (.slice (.named 1)) ((Tab.Rows ((iScanRange (toTable aT) aCol (toRange aR)).1)) : List (List Val)))]⟩ ?_))
    refine AW.seq (AW.regionO [0, 1, 2, 3] (by rfl) ?_)
    refine AWO.run hC false [] [0, 1] [2, 3] [1, 3, 5, 8, 9, 11, 12, 56, 57] [12, 20, 32, 44, 132, 156]
     ⟨[(1, .int .i64 aCol), (3, .ref 12 1 0), (5, .ref 20 1 0), (8, .ref 32 1 0), (9, .bool ((sScanRange (toTable aT) aCol (toRange aR)).2)), (11, .ref 44 1 0), (12, .bool ((iScanRange (toTable aT) aCol (toRange aR)).2)), (56, .agg [.int .i64 (Tab.Width (toTable aT)), .tr 132 1]), (57, .int .i64 1)], [(12, .box 1 [.int .i64 (Tab.Width aT), .data (.slice (.slice (.named 1))) ((Tab.Rows aT) : List (List Val))]), (20, .box 1 [.int .i64 (Rng.Low aR), .int .i64 (Rng.High aR)]), (32, .box 1 [.int .i64 (Tab.Width ((sScanRange (toTable aT) aCol (toRange aR)).1)), .data (.slice (.slice (.named 1))) ((Tab.Rows ((sScanRange (toTable aT) aCol (toRange aR)).1)) : List (List Val))]), (44, .box 1 [.int .i64 (Tab.Width ((iScanRange (toTable aT) aCol (toRange aR)).1)), .tr 156 1]), (132, .tree 1 (.slice (.named 1)) ((Tab.Rows (toTable aT)) : List (List Val))), (156, .tree 1 (.slice (.named 1)) ((Tab.Rows ((iScanRange (toTable aT) aCol (toRange aR)).1)) : List (List Val)))]⟩
     [] (by rfl) (by kernel_rfl) ?_ ?_
    ·
     exact trivial
    refine AWO.call hC.ty (vs := [.agg [.int .i64 (Tab.Width (toTable aT)), .tr 132 1], .int .i64 1]) (caps := []) (by rfl) rfl (.inl rfl) (by decide) (by kernel_rfl) (by kernel_rfl) Try.func25 (by kernel_rfl) rfl (by kernel_rfl) ?_
    intro o1 ho1
    refine AW.kp [0, 1, 1001, 1003, 1005, 1008, 1009, 1011, 1012] [12, 20, 32, 44, 132, 156] ⟨[(0, .agg [.int .i64 (Tab.Width (toTable aT)), .tr 132 1]), (1, .int .i64 1), (1001, .int .i64 aCol), (1003, .ref 12 1 0), (1005, .ref 20 1 0), (1008, .ref 32 1 0), (1009, .bool ((sScanRange (toTable aT) aCol (toRange aR)).2)), (1011, .ref 44 1 0), (1012, .bool ((iScanRange (toTable aT) aCol (toRange aR)).2))], [(12, .box 1 [.int .i64 (Tab.Width aT), .data (.slice (.slice (.named 1))) ((Tab.Rows aT) : List (List Val))]), (20, .box 1 [.int .i64 (Rng.Low aR), .int .i64 (Rng.High aR)]), (32, .box 1 [.int .i64 (Tab.Width ((sScanRange (toTable aT) aCol (toRange aR)).1)), .data (.slice (.slice (.named 1))) ((Tab.Rows ((sScanRange (toTable aT) aCol (toRange aR)).1)) : List (List Val))]), (44, .box 1 [.int .i64 (Tab.Width ((iScanRange (toTable aT) aCol (toRange aR)).1)), .tr 156 1]), (132, .tree 1 (.slice (.named 1)) ((Tab.Rows (toTable aT)) : List (List Val))), (156, .tree 1 (.slice (.named 1)) ((Tab.Rows ((iScanRange (toTable aT) aCol (toRange aR)).1)) : List (List Val)))]⟩ ?_
    refine AW.seq (AW.r1 hC1 [1, 2, 1001, 1003, 1005, 1008, 1009, 1011, 1012] [12, 20, 32, 44, 132, 156, 4008] ⟨[(1, .int .i64 1), (2, .ref 4008 1 0), (1001, .int .i64 aCol), (1003, .ref 12 1 0), (1005, .ref 20 1 0), (1008, .ref 32 1 0), (1009, .bool ((sScanRange (toTable aT) aCol (toRange aR)).2)), (1011, .ref 44 1 0), (1012, .bool ((iScanRange (toTable aT) aCol (toRange aR)).2))], [(12, .box 1 [.int .i64 (Tab.Width aT), .data (.slice (.slice (.named 1))) ((Tab.Rows aT) : List (List Val))]), (20, .box 1 [.int .i64 (Rng.Low aR), .int .i64 (Rng.High aR)]), (32, .box 1 [.int .i64 (Tab.Width ((sScanRange (toTable aT) aCol (toRange aR)).1)), .data (.slice (.slice (.named 1))) ((Tab.Rows ((sScanRange (toTable aT) aCol (toRange aR)).1)) : List (List Val))]), (44, .box 1 [.int .i64 (Tab.Width ((iScanRange (toTable aT) aCol (toRange aR)).1)), .tr 156 1]), (132, .tree 1 (.slice (.named 1)) ((Tab.Rows (toTable aT)) : List (List Val))), (156, .tree 1 (.slice (.named 1)) ((Tab.Rows ((iScanRange (toTable aT) aCol (toRange aR)).1)) : List (List Val))), (4008, .box 1 [.int .i64 (Tab.Width (toTable aT)), .tr 132 1])]⟩ ?_)
    refine AW.seq (AW.regionO [0, 1, 2, 3, 4] (by rfl) ?_)
    refine AWO.run hC1 false [] [0, 1, 2] [3, 4] [6, 7, 1001, 1003, 1005, 1008, 1009, 1011, 1012] [12, 20, 32, 44, 132, 156]
     ⟨[(6, .tr 132 1), (7, .int .i64 1), (1001, .int .i64 aCol), (1003, .ref 12 1 0), (1005, .ref 20 1 0), (1008, .ref 32 1 0), (1009, .bool ((sScanRange (toTable aT) aCol (toRange aR)).2)), (1011, .ref 44 1 0), (1012, .bool ((iScanRange (toTable aT) aCol (toRange aR)).2))], [(12, .box 1 [.int .i64 (Tab.Width aT), .data (.slice (.slice (.named 1))) ((Tab.Rows aT) : List (List Val))]), (20, .box 1 [.int .i64 (Rng.Low aR), .int .i64 (Rng.High aR)]), (32, .box 1 [.int .i64 (Tab.Width ((sScanRange (toTable aT) aCol (toRange aR)).1)), .data (.slice (.slice (.named 1))) ((Tab.Rows ((sScanRange (toTable aT) aCol (toRange aR)).1)) : List (List Val))]), (44, .box 1 [.int .i64 (Tab.Width ((iScanRange (toTable aT) aCol (toRange aR)).1)), .tr 156 1]), (132, .tree 1 (.slice (.named 1)) ((Tab.Rows (toTable aT)) : List (List Val))), (156, .tree 1 (.slice (.named 1)) ((Tab.Rows ((iScanRange (toTable aT) aCol (toRange aR)).1)) : List (List Val)))]⟩
     [] (by rfl) (by kernel_rfl) ?_ ?_
    ·
     exact trivial
    refine AWO.mark (u := (.slice (.named 1))) (id := 132) (ep := 1) (xs := ((Tab.Rows (toTable aT)) : List (List Val))) (k := 1) markValueSS_ok (by rfl) (by rfl) (by kernel_rfl) (by kernel_rfl) (by kernel_rfl) (by kernel_rfl) ?_ ?_
    ·
     show True
     assumption
    refine AWO.keep [8, 1001, 1003, 1005, 1008, 1009, 1011, 1012] [12, 20, 32, 44, 156] ⟨[(8, .int .i64 (markValueSS (Tab.Rows (toTable aT)) 1).2), (1001, .int .i64 aCol), (1003, .ref 12 1 0), (1005, .ref 20 1 0), (1008, .ref 32 1 0), (1009, .bool ((sScanRange (toTable aT) aCol (toRange aR)).2)), (1011, .ref 44 1 0), (1012, .bool ((iScanRange (toTable aT) aCol (toRange aR)).2))], [(12, .box 1 [.int .i64 (Tab.Width aT), .data (.slice (.slice (.named 1))) ((Tab.Rows aT) : List (List Val))]), (20, .box 1 [.int .i64 (Rng.Low aR), .int .i64 (Rng.High aR)]), (32, .box 1 [.int .i64 (Tab.Width ((sScanRange (toTable aT) aCol (toRange aR)).1)), .data (.slice (.slice (.named 1))) ((Tab.Rows ((sScanRange (toTable aT) aCol (toRange aR)).1)) : List (List Val))]), (44, .box 1 [.int .i64 (Tab.Width ((iScanRange (toTable aT) aCol (toRange aR)).1)), .tr 156 1]), (156, .tree 1 (.slice (.named 1)) ((Tab.Rows ((iScanRange (toTable aT) aCol (toRange aR)).1)) : List (List Val)))]⟩ (by kernel_rfl) ?_
    refine AWO.run hC1 false [] [4] [] [1, 1001, 1003, 1005, 1008, 1009, 1011, 1012] [12, 20, 32, 44, 156]
     ⟨[(1, .int .i64 (markValueSS (Tab.Rows (toTable aT)) 1).2), (1001, .int .i64 aCol), (1003, .ref 12 1 0), (1005, .ref 20 1 0), (1008, .ref 32 1 0), (1009, .bool ((sScanRange (toTable aT) aCol (toRange aR)).2)), (1011, .ref 44 1 0), (1012, .bool ((iScanRange (toTable aT) aCol (toRange aR)).2))], [(12, .box 1 [.int .i64 (Tab.Width aT), .data (.slice (.slice (.named 1))) ((Tab.Rows aT) : List (List Val))]), (20, .box 1 [.int .i64 (Rng.Low aR), .int .i64 (Rng.High aR)]), (32, .box 1 [.int .i64 (Tab.Width ((sScanRange (toTable aT) aCol (toRange aR)).1)), .data (.slice (.slice (.named 1))) ((Tab.Rows ((sScanRange (toTable aT) aCol (toRange aR)).1)) : List (List Val))]), (44, .box 1 [.int .i64 (Tab.Width ((iScanRange (toTable aT) aCol (toRange aR)).1)), .tr 156 1]), (156, .tree 1 (.slice (.named 1)) ((Tab.Rows ((iScanRange (toTable aT) aCol (toRange aR)).1)) : List (List Val)))]⟩
     [] (by rfl) (by kernel_rfl) ?_ ?_
    ·
     exact trivial
    refine AWO.nil ?_
    refine AW.seq (AW.r1 hC1 [4, 1001, 1003, 1005, 1008, 1009, 1011, 1012] [12, 20, 32, 44, 156] ⟨[(4, .int .i64 (markValueSS (Tab.Rows (toTable aT)) 1).2), (1001, .int .i64 aCol), (1003, .ref 12 1 0), (1005, .ref 20 1 0), (1008, .ref 32 1 0), (1009, .bool ((sScanRange (toTable aT) aCol (toRange aR)).2)), (1011, .ref 44 1 0), (1012, .bool ((iScanRange (toTable aT) aCol (toRange aR)).2))], [(12, .box 1 [.int .i64 (Tab.Width aT), .data (.slice (.slice (.named 1))) ((Tab.Rows aT) : List (List Val))]), (20, .box 1 [.int .i64 (Rng.Low aR), .int .i64 (Rng.High aR)]), (32, .box 1 [.int .i64 (Tab.Width ((sScanRange (toTable aT) aCol (toRange aR)).1)), .data (.slice (.slice (.named 1))) ((Tab.Rows ((sScanRange (toTable aT) aCol (toRange aR)).1)) : List (List Val))]), (44, .box 1 [.int .i64 (Tab.Width ((iScanRange (toTable aT) aCol (toRange aR)).1)), .tr 156 1]), (156, .tree 1 (.slice (.named 1)) ((Tab.Rows ((iScanRange (toTable aT) aCol (toRange aR)).1)) : List (List Val)))]⟩ ?_)
    refine AW.ret ?_
    refine ⟨[.int .i64 (markValueSS (Tab.Rows (toTable aT)) 1).2], by kernel_rfl, ?_⟩
    refine AWO.keep [1, 3, 5, 8, 9, 11, 12, 58] [12, 20, 32, 44, 156] ⟨[(1, .int .i64 aCol), (3, .ref 12 1 0), (5, .ref 20 1 0), (8, .ref 32 1 0), (9, .bool ((sScanRange (toTable aT) aCol (toRange aR)).2)), (11, .ref 44 1 0), (12, .bool ((iScanRange (toTable aT) aCol (toRange aR)).2)), (58, .int .i64 (markValueSS (Tab.Rows (toTable aT)) 1).2)], [(12, .box 1 [.int .i64 (Tab.Width aT), .data (.slice (.slice (.named 1))) ((Tab.Rows aT) : List (List Val))]), (20, .box 1 [.int .i64 (Rng.Low aR), .int .i64 (Rng.High aR)]), (32, .box 1 [.int .i64 (Tab.Width ((sScanRange (toTable aT) aCol (toRange aR)).1)), .data (.slice (.slice (.named 1))) ((Tab.Rows ((sScanRange (toTable aT) aCol (toRange aR)).1)) : List (List Val))]), (44, .box 1 [.int .i64 (Tab.Width ((iScanRange (toTable aT) aCol (toRange aR)).1)), .tr 156 1]), (156, .tree 1 (.slice (.named 1)) ((Tab.Rows ((iScanRange (toTable aT) aCol (toRange aR)).1)) : List (List Val)))]⟩ (by kernel_rfl) ?_
    refine AWO.run hC false [] [3] [] [1, 3, 5, 8, 9, 11, 12, 13] [12, 20, 32, 44, 156]
     ⟨[(1, .int .i64 aCol), (3, .ref 12 1 0), (5, .ref 20 1 0), (8, .ref 32 1 0), (9, .bool ((sScanRange (toTable aT) aCol (toRange aR)).2)), (11, .ref 44 1 0), (12, .bool ((iScanRange (toTable aT) aCol (toRange aR)).2)), (13, .int .i64 (markValueSS (Tab.Rows (toTable aT)) 1).2)], [(12, .box 1 [.int .i64 (Tab.Width aT), .data (.slice (.slice (.named 1))) ((Tab.Rows aT) : List (List Val))]), (20, .box 1 [.int .i64 (Rng.Low aR), .int .i64 (Rng.High aR)]), (32, .box 1 [.int .i64 (Tab.Width ((sScanRange (toTable aT) aCol (toRange aR)).1)), .data (.slice (.slice (.named 1))) ((Tab.Rows ((sScanRange (toTable aT) aCol (toRange aR)).1)) : List (List Val))]), (44, .box 1 [.int .i64 (Tab.Width ((iScanRange (toTable aT) aCol (toRange aR)).1)), .tr 156 1]), (156, .tree 1 (.slice (.named 1)) ((Tab.Rows ((iScanRange (toTable aT) aCol (toRange aR)).1)) : List (List Val)))]⟩
     [] (by rfl) (by kernel_rfl) ?_ ?_
    ·
     exact trivial
    refine AWO.nil ?_
    refine AW.seq (AW.seq (AW.r0 hC [1, 3, 5, 8, 9, 11, 71] [12, 20, 32, 44, 156] ⟨[(1, .int .i64 aCol), (3, .ref 12 1 0), (5, .ref 20 1 0), (8, .ref 32 1 0), (9, .bool ((sScanRange (toTable aT) aCol (toRange aR)).2)), (11, .ref 44 1 0), (71, .bool (bif (bif (decide ((markValueSS (Tab.Rows (toTable aT)) 1).2 < 0)) then true else (!(eqTable ((iScanRange (toTable aT) aCol (toRange aR)).1) ((sScanRange (toTable aT) aCol (toRange aR)).1)))) then true else (((iScanRange (toTable aT) aCol (toRange aR)).2) != ((sScanRange (toTable aT) aCol (toRange aR)).2))))], [(12, .box 1 [.int .i64 (Tab.Width aT), .data (.slice (.slice (.named 1))) ((Tab.Rows aT) : List (List Val))]), (20, .box 1 [.int .i64 (Rng.Low aR), .int .i64 (Rng.High aR)]), (32, .box 1 [.int .i64 (Tab.Width ((sScanRange (toTable aT) aCol (toRange aR)).1)), .data (.slice (.slice (.named 1))) ((Tab.Rows ((sScanRange (toTable aT) aCol (toRange aR)).1)) : List (List Val))]), (44, .box 1 [.int .i64 (Tab.Width ((iScanRange (toTable aT) aCol (toRange aR)).1)), .tr 156 1]), (156, .tree 1 (.slice (.named 1)) ((Tab.Rows ((iScanRange (toTable aT) aCol (toRange aR)).1)) : List (List Val)))]⟩ [(((decide ((markValueSS (Tab.Rows (toTable aT)) 1).2 < 0)) = false) → (((decide ((markValueSS (Tab.Rows (toTable aT)) 1).2 < 0)) = false))), (((decide ((markValueSS (Tab.Rows (toTable aT)) 1).2 < 0)) = false) → (((decide ((markValueSS (Tab.Rows (toTable aT)) 1).2 < 0)) = false))), (((decide ((markValueSS (Tab.Rows (toTable aT)) 1).2 < 0)) = false) → (True)), (((decide ((markValueSS (Tab.Rows (toTable aT)) 1).2 < 0)) = false) → (((decide ((markValueSS (Tab.Rows (toTable aT)) 1).2 < 0)) = false))), (((decide ((markValueSS (Tab.Rows (toTable aT)) 1).2 < 0)) = false) → (((decide ((markValueSS (Tab.Rows (toTable aT)) 1).2 < 0)) = false))), (((bif (decide ((markValueSS (Tab.Rows (toTable aT)) 1).2 < 0)) then true else (!(eqTable ((iScanRange (toTable aT) aCol (toRange aR)).1) ((sScanRange (toTable aT) aCol (toRange aR)).1)))) = false) → (((bif (decide ((markValueSS (Tab.Rows (toTable aT)) 1).2 < 0)) then true else (!(eqTable ((iScanRange (toTable aT) aCol (toRange aR)).1) ((sScanRange (toTable aT) aCol (toRange aR)).1)))) = false))), (((bif (decide ((markValueSS (Tab.Rows (toTable aT)) 1).2 < 0)) then true else (!(eqTable ((iScanRange (toTable aT) aCol (toRange aR)).1) ((sScanRange (toTable aT) aCol (toRange aR)).1)))) = false) → (((bif (decide ((markValueSS (Tab.Rows (toTable aT)) 1).2 < 0)) then true else (!(eqTable ((iScanRange (toTable aT) aCol (toRange aR)).1) ((sScanRange (toTable aT) aCol (toRange aR)).1)))) = false))), (((bif (decide ((markValueSS (Tab.Rows (toTable aT)) 1).2 < 0)) then true else (!(eqTable ((iScanRange (toTable aT) aCol (toRange aR)).1) ((sScanRange (toTable aT) aCol (toRange aR)).1)))) = false) → (((bif (decide ((markValueSS (Tab.Rows (toTable aT)) 1).2 < 0)) then true else (!(eqTable ((iScanRange (toTable aT) aCol (toRange aR)).1) ((sScanRange (toTable aT) aCol (toRange aR)).1)))) = false)))] ?_ ?_))
    ·
     refine ⟨?_, ?_, ?_, ?_, ?_, ?_, ?_, ?_, trivial⟩
     ·
      intro g16
      have g16p0 : ¬ ((markValueSS (Tab.Rows (toTable aT)) 1).2 < 0) := (of_decide_eq_false g16)
      assumption
     ·
      intro g17
      have g17p0 : ¬ ((markValueSS (Tab.Rows (toTable aT)) 1).2 < 0) := (of_decide_eq_false g17)
      assumption
     ·
      intro g18
      have g18p0 : ¬ ((markValueSS (Tab.Rows (toTable aT)) 1).2 < 0) := (of_decide_eq_false g18)
      trivial
     ·
      intro g19
      have g19p0 : ¬ ((markValueSS (Tab.Rows (toTable aT)) 1).2 < 0) := (of_decide_eq_false g19)
      assumption
     ·
      intro g20
      have g20p0 : ¬ ((markValueSS (Tab.Rows (toTable aT)) 1).2 < 0) := (of_decide_eq_false g20)
      assumption
     ·
      intro g21
      have g21p0 : (¬ ((markValueSS (Tab.Rows (toTable aT)) 1).2 < 0)) ∧ ((eqTable ((iScanRange (toTable aT) aCol (toRange aR)).1) ((sScanRange (toTable aT) aCol (toRange aR)).1)) = true) := (And.imp (fun h => (of_decide_eq_false h)) (fun h => (Go.Am.not_neg h)) (Go.Am.or_neg g21))
      assumption
     ·
      intro g22
      have g22p0 : (¬ ((markValueSS (Tab.Rows (toTable aT)) 1).2 < 0)) ∧ ((eqTable ((iScanRange (toTable aT) aCol (toRange aR)).1) ((sScanRange (toTable aT) aCol (toRange aR)).1)) = true) := (And.imp (fun h => (of_decide_eq_false h)) (fun h => (Go.Am.not_neg h)) (Go.Am.or_neg g22))
      assumption
     ·
      intro g23
      have g23p0 : (¬ ((markValueSS (Tab.Rows (toTable aT)) 1).2 < 0)) ∧ ((eqTable ((iScanRange (toTable aT) aCol (toRange aR)).1) ((sScanRange (toTable aT) aCol (toRange aR)).1)) = true) := (And.imp (fun h => (of_decide_eq_false h)) (fun h => (Go.Am.not_neg h)) (Go.Am.or_neg g23))
      assumption
    refine AW.cd (bif (bif (decide ((markValueSS (Tab.Rows (toTable aT)) 1).2 < 0)) then true else (!(eqTable ((iScanRange (toTable aT) aCol (toRange aR)).1) ((sScanRange (toTable aT) aCol (toRange aR)).1)))) then true else (((iScanRange (toTable aT) aCol (toRange aR)).2) != ((sScanRange (toTable aT) aCol (toRange aR)).2))) ?_ ?_
    ·
     intro h24
     have h24q : (((markValueSS (Tab.Rows (toTable aT)) 1).2 < 0) ∨ ((eqTable ((iScanRange (toTable aT) aCol (toRange aR)).1) ((sScanRange (toTable aT) aCol (toRange aR)).1)) = false)) ∨ ((((iScanRange (toTable aT) aCol (toRange aR)).2) != ((sScanRange (toTable aT) aCol (toRange aR)).2)) = true) := (Or.imp (fun h => (Or.imp (fun h => (of_decide_eq_true h)) (fun h => (Go.Am.not_pos h)) (Go.Am.or_pos h))) (fun h => h) (Go.Am.or_pos h24))
     have e25 := e15.trans (Go.Am.bif_t h24)
     refine AW.seq (AW.r1 hC [6] [] ⟨[(6, .bool false)], []⟩ ?_)
     exact AW.ret (AW.retE (β := Bool) (fun v => [⟨.bool, v⟩]) (fun v => []) (v := false) e25 (by kernel_rfl) rfl rfl)
    ·
     intro h26
     have h26q : ((¬ ((markValueSS (Tab.Rows (toTable aT)) 1).2 < 0)) ∧ ((eqTable ((iScanRange (toTable aT) aCol (toRange aR)).1) ((sScanRange (toTable aT) aCol (toRange aR)).1)) = true)) ∧ ((((iScanRange (toTable aT) aCol (toRange aR)).2) != ((sScanRange (toTable aT) aCol (toRange aR)).2)) = false) := (And.imp (fun h => (And.imp (fun h => (of_decide_eq_false h)) (fun h => (Go.Am.not_neg h)) (Go.Am.or_neg h))) (fun h => h) (Go.Am.or_neg h26))
     have e27 := e15.trans (Go.Am.bif_f h26)
     refine AW.kp [1, 3, 5, 8, 9, 11] [12, 20, 32, 44, 156] ⟨[(1, .int .i64 aCol), (3, .ref 12 1 0), (5, .ref 20 1 0), (8, .ref 32 1 0), (9, .bool ((sScanRange (toTable aT) aCol (toRange aR)).2)), (11, .ref 44 1 0)], [(12, .box 1 [.int .i64 (Tab.Width aT), .data (.slice (.slice (.named 1))) ((Tab.Rows aT) : List (List Val))]), (20, .box 1 [.int .i64 (Rng.Low aR), .int .i64 (Rng.High aR)]), (32, .box 1 [.int .i64 (Tab.Width ((sScanRange (toTable aT) aCol (toRange aR)).1)), .data (.slice (.slice (.named 1))) ((Tab.Rows ((sScanRange (toTable aT) aCol (toRange aR)).1)) : List (List Val))]), (44, .box 1 [.int .i64 (Tab.Width ((iScanRange (toTable aT) aCol (toRange aR)).1)), .tr 156 1]), (156, .tree 1 (.slice (.named 1)) ((Tab.Rows ((iScanRange (toTable aT) aCol (toRange aR)).1)) : List (List Val)))]⟩ ?_
     refine AW.skip (AW.seq (AW.r1 hC [1, 3, 5, 8, 9, 11, 14] [12, 20, 32, 44, 156] ⟨[(1, .int .i64 aCol), (3, .ref 12 1 0), (5, .ref 20 1 0), (8, .ref 32 1 0), (9, .bool ((sScanRange (toTable aT) aCol (toRange aR)).2)), (11, .ref 44 1 0), (14, .int .i64 1)], [(12, .box 1 [.int .i64 (Tab.Width aT), .data (.slice (.slice (.named 1))) ((Tab.Rows aT) : List (List Val))]), (20, .box 1 [.int .i64 (Rng.Low aR), .int .i64 (Rng.High aR)]), (32, .box 1 [.int .i64 (Tab.Width ((sScanRange (toTable aT) aCol (toRange aR)).1)), .data (.slice (.slice (.named 1))) ((Tab.Rows ((sScanRange (toTable aT) aCol (toRange aR)).1)) : List (List Val))]), (44, .box 1 [.int .i64 (Tab.Width ((iScanRange (toTable aT) aCol (toRange aR)).1)), .tr 156 1]), (156, .tree 1 (.slice (.named 1)) ((Tab.Rows ((iScanRange (toTable aT) aCol (toRange aR)).1)) : List (List Val)))]⟩ ?_))
     refine AW.seq (AW.regionO [0, 1, 2, 3] (by rfl) ?_)
     refine AWO.run hC false [] [0, 1] [2, 3] [1, 3, 5, 8, 9, 11, 72, 73] [12, 20, 32, 44, 156]
      ⟨[(1, .int .i64 aCol), (3, .ref 12 1 0), (5, .ref 20 1 0), (8, .ref 32 1 0), (9, .bool ((sScanRange (toTable aT) aCol (toRange aR)).2)), (11, .ref 44 1 0), (72, .agg [.int .i64 (Tab.Width ((iScanRange (toTable aT) aCol (toRange aR)).1)), .tr 156 1]), (73, .int .i64 1)], [(12, .box 1 [.int .i64 (Tab.Width aT), .data (.slice (.slice (.named 1))) ((Tab.Rows aT) : List (List Val))]), (20, .box 1 [.int .i64 (Rng.Low aR), .int .i64 (Rng.High aR)]), (32, .box 1 [.int .i64 (Tab.Width ((sScanRange (toTable aT) aCol (toRange aR)).1)), .data (.slice (.slice (.named 1))) ((Tab.Rows ((sScanRange (toTable aT) aCol (toRange aR)).1)) : List (List Val))]), (44, .box 1 [.int .i64 (Tab.Width ((iScanRange (toTable aT) aCol (toRange aR)).1)), .tr 156 1]), (156, .tree 1 (.slice (.named 1)) ((Tab.Rows ((iScanRange (toTable aT) aCol (toRange aR)).1)) : List (List Val)))]⟩
      [] (by rfl) (by kernel_rfl) ?_ ?_
     ·
      exact trivial
     refine AWO.call hC.ty (vs := [.agg [.int .i64 (Tab.Width ((iScanRange (toTable aT) aCol (toRange aR)).1)), .tr 156 1], .int .i64 1]) (caps := []) (by rfl) rfl (.inl rfl) (by decide) (by kernel_rfl) (by kernel_rfl) Try.func25 (by kernel_rfl) rfl (by kernel_rfl) ?_
     intro o1 ho1
     refine AW.kp [0, 1, 1001, 1003, 1005, 1008, 1009, 1011] [12, 20, 32, 44, 156] ⟨[(0, .agg [.int .i64 (Tab.Width ((iScanRange (toTable aT) aCol (toRange aR)).1)), .tr 156 1]), (1, .int .i64 1), (1001, .int .i64 aCol), (1003, .ref 12 1 0), (1005, .ref 20 1 0), (1008, .ref 32 1 0), (1009, .bool ((sScanRange (toTable aT) aCol (toRange aR)).2)), (1011, .ref 44 1 0)], [(12, .box 1 [.int .i64 (Tab.Width aT), .data (.slice (.slice (.named 1))) ((Tab.Rows aT) : List (List Val))]), (20, .box 1 [.int .i64 (Rng.Low aR), .int .i64 (Rng.High aR)]), (32, .box 1 [.int .i64 (Tab.Width ((sScanRange (toTable aT) aCol (toRange aR)).1)), .data (.slice (.slice (.named 1))) ((Tab.Rows ((sScanRange (toTable aT) aCol (toRange aR)).1)) : List (List Val))]), (44, .box 1 [.int .i64 (Tab.Width ((iScanRange (toTable aT) aCol (toRange aR)).1)), .tr 156 1]), (156, .tree 1 (.slice (.named 1)) ((Tab.Rows ((iScanRange (toTable aT) aCol (toRange aR)).1)) : List (List Val)))]⟩ ?_
     refine AW.seq (AW.r1 hC1 [1, 2, 1001, 1003, 1005, 1008, 1009, 1011] [12, 20, 32, 44, 156, 4008] ⟨[(1, .int .i64 1), (2, .ref 4008 1 0), (1001, .int .i64 aCol), (1003, .ref 12 1 0), (1005, .ref 20 1 0), (1008, .ref 32 1 0), (1009, .bool ((sScanRange (toTable aT) aCol (toRange aR)).2)), (1011, .ref 44 1 0)], [(12, .box 1 [.int .i64 (Tab.Width aT), .data (.slice (.slice (.named 1))) ((Tab.Rows aT) : List (List Val))]), (20, .box 1 [.int .i64 (Rng.Low aR), .int .i64 (Rng.High aR)]), (32, .box 1 [.int .i64 (Tab.Width ((sScanRange (toTable aT) aCol (toRange aR)).1)), .data (.slice (.slice (.named 1))) ((Tab.Rows ((sScanRange (toTable aT) aCol (toRange aR)).1)) : List (List Val))]), (44, .box 1 [.int .i64 (Tab.Width ((iScanRange (toTable aT) aCol (toRange aR)).1)), .tr 156 1]), (156, .tree 1 (.slice (.named 1)) ((Tab.Rows ((iScanRange (toTable aT) aCol (toRange aR)).1)) : List (List Val))), (4008, .box 1 [.int .i64 (Tab.Width ((iScanRange (toTable aT) aCol (toRange aR)).1)), .tr 156 1])]⟩ ?_)
     refine AW.seq (AW.regionO [0, 1, 2, 3, 4] (by rfl) ?_)
     refine AWO.run hC1 false [] [0, 1, 2] [3, 4] [6, 7, 1001, 1003, 1005, 1008, 1009, 1011] [12, 20, 32, 44, 156]
      ⟨[(6, .tr 156 1), (7, .int .i64 1), (1001, .int .i64 aCol), (1003, .ref 12 1 0), (1005, .ref 20 1 0), (1008, .ref 32 1 0), (1009, .bool ((sScanRange (toTable aT) aCol (toRange aR)).2)), (1011, .ref 44 1 0)], [(12, .box 1 [.int .i64 (Tab.Width aT), .data (.slice (.slice (.named 1))) ((Tab.Rows aT) : List (List Val))]), (20, .box 1 [.int .i64 (Rng.Low aR), .int .i64 (Rng.High aR)]), (32, .box 1 [.int .i64 (Tab.Width ((sScanRange (toTable aT) aCol (toRange aR)).1)), .data (.slice (.slice (.named 1))) ((Tab.Rows ((sScanRange (toTable aT) aCol (toRange aR)).1)) : List (List Val))]), (44, .box 1 [.int .i64 (Tab.Width ((iScanRange (toTable aT) aCol (toRange aR)).1)), .tr 156 1]), (156, .tree 1 (.slice (.named 1)) ((Tab.Rows ((iScanRange (toTable aT) aCol (toRange aR)).1)) : List (List Val)))]⟩
      [] (by rfl) (by kernel_rfl) ?_ ?_
     ·
      exact trivial
     refine AWO.mark (u := (.slice (.named 1))) (id := 156) (ep := 1) (xs := ((Tab.Rows ((iScanRange (toTable aT) aCol (toRange aR)).1)) : List (List Val))) (k := 1) markValueSS_ok (by rfl) (by rfl) (by kernel_rfl) (by kernel_rfl) (by kernel_rfl) (by kernel_rfl) ?_ ?_
     ·
      show True
      assumption
     refine AWO.keep [8, 1001, 1003, 1005, 1008, 1009, 1011] [12, 20, 32, 44, 156] ⟨[(8, .int .i64 (markValueSS (Tab.Rows ((iScanRange (toTable aT) aCol (toRange aR)).1)) 1).2), (1001, .int .i64 aCol), (1003, .ref 12 1 0), (1005, .ref 20 1 0), (1008, .ref 32 1 0), (1009, .bool ((sScanRange (toTable aT) aCol (toRange aR)).2)), (1011, .ref 44 1 0)], [(12, .box 1 [.int .i64 (Tab.Width aT), .data (.slice (.slice (.named 1))) ((Tab.Rows aT) : List (List Val))]), (20, .box 1 [.int .i64 (Rng.Low aR), .int .i64 (Rng.High aR)]), (32, .box 1 [.int .i64 (Tab.Width ((sScanRange (toTable aT) aCol (toRange aR)).1)), .data (.slice (.slice (.named 1))) ((Tab.Rows ((sScanRange (toTable aT) aCol (toRange aR)).1)) : List (List Val))]), (44, .box 1 [.int .i64 (Tab.Width ((iScanRange (toTable aT) aCol (toRange aR)).1)), .tr 156 1]), (156, .tree 1 (.slice (.named 1)) ((markValueSS (Tab.Rows ((iScanRange (toTable aT) aCol (toRange aR)).1)) 1).1 : List (List Val)))]⟩ (by kernel_rfl) ?_
     refine AWO.run hC1 false [] [4] [] [1, 1001, 1003, 1005, 1008, 1009, 1011] [12, 20, 32, 44, 156]
      ⟨[(1, .int .i64 (markValueSS (Tab.Rows ((iScanRange (toTable aT) aCol (toRange aR)).1)) 1).2), (1001, .int .i64 aCol), (1003, .ref 12 1 0), (1005, .ref 20 1 0), (1008, .ref 32 1 0), (1009, .bool ((sScanRange (toTable aT) aCol (toRange aR)).2)), (1011, .ref 44 1 0)], [(12, .box 1 [.int .i64 (Tab.Width aT), .data (.slice (.slice (.named 1))) ((Tab.Rows aT) : List (List Val))]), (20, .box 1 [.int .i64 (Rng.Low aR), .int .i64 (Rng.High aR)]), (32, .box 1 [.int .i64 (Tab.Width ((sScanRange (toTable aT) aCol (toRange aR)).1)), .data (.slice (.slice (.named 1))) ((Tab.Rows ((sScanRange (toTable aT) aCol (toRange aR)).1)) : List (List Val))]), (44, .box 1 [.int .i64 (Tab.Width ((iScanRange (toTable aT) aCol (toRange aR)).1)), .tr 156 1]), (156, .tree 1 (.slice (.named 1)) ((markValueSS (Tab.Rows ((iScanRange (toTable aT) aCol (toRange aR)).1)) 1).1 : List (List Val)))]⟩
      [] (by rfl) (by kernel_rfl) ?_ ?_
     ·
      exact trivial
     refine AWO.nil ?_
     refine AW.seq (AW.r1 hC1 [4, 1001, 1003, 1005, 1008, 1009, 1011] [12, 20, 32, 44, 156] ⟨[(4, .int .i64 (markValueSS (Tab.Rows ((iScanRange (toTable aT) aCol (toRange aR)).1)) 1).2), (1001, .int .i64 aCol), (1003, .ref 12 1 0), (1005, .ref 20 1 0), (1008, .ref 32 1 0), (1009, .bool ((sScanRange (toTable aT) aCol (toRange aR)).2)), (1011, .ref 44 1 0)], [(12, .box 1 [.int .i64 (Tab.Width aT), .data (.slice (.slice (.named 1))) ((Tab.Rows aT) : List (List Val))]), (20, .box 1 [.int .i64 (Rng.Low aR), .int .i64 (Rng.High aR)]), (32, .box 1 [.int .i64 (Tab.Width ((sScanRange (toTable aT) aCol (toRange aR)).1)), .data (.slice (.slice (.named 1))) ((Tab.Rows ((sScanRange (toTable aT) aCol (toRange aR)).1)) : List (List Val))]), (44, .box 1 [.int .i64 (Tab.Width ((iScanRange (toTable aT) aCol (toRange aR)).1)), .tr 156 1]), (156, .tree 1 (.slice (.named 1)) ((markValueSS (Tab.Rows ((iScanRange (toTable aT) aCol (toRange aR)).1)) 1).1 : List (List Val)))]⟩ ?_)
     refine AW.ret ?_
     refine ⟨[.int .i64 (markValueSS (Tab.Rows ((iScanRange (toTable aT) aCol (toRange aR)).1)) 1).2], by kernel_rfl, ?_⟩
     refine AWO.keep [1, 3, 5, 8, 9, 11, 74] [12, 20, 32, 44, 156] ⟨[(1, .int .i64 aCol), (3, .ref 12 1 0), (5, .ref 20 1 0), (8, .ref 32 1 0), (9, .bool ((sScanRange (toTable aT) aCol (toRange aR)).2)), (11, .ref 44 1 0), (74, .int .i64 (markValueSS (Tab.Rows ((iScanRange (toTable aT) aCol (toRange aR)).1)) 1).2)], [(12, .box 1 [.int .i64 (Tab.Width aT), .data (.slice (.slice (.named 1))) ((Tab.Rows aT) : List (List Val))]), (20, .box 1 [.int .i64 (Rng.Low aR), .int .i64 (Rng.High aR)]), (32, .box 1 [.int .i64 (Tab.Width ((sScanRange (toTable aT) aCol (toRange aR)).1)), .data (.slice (.slice (.named 1))) ((Tab.Rows ((sScanRange (toTable aT) aCol (toRange aR)).1)) : List (List Val))]), (44, .box 1 [.int .i64 (Tab.Width ((iScanRange (toTable aT) aCol (toRange aR)).1)), .tr 156 1]), (156, .tree 1 (.slice (.named 1)) ((markValueSS (Tab.Rows ((iScanRange (toTable aT) aCol (toRange aR)).1)) 1).1 : List (List Val)))]⟩ (by kernel_rfl) ?_
     refine AWO.run hC false [] [3] [] [1, 3, 5, 8, 9, 11, 14] [12, 20, 32, 44, 156]
      ⟨[(1, .int .i64 aCol), (3, .ref 12 1 0), (5, .ref 20 1 0), (8, .ref 32 1 0), (9, .bool ((sScanRange (toTable aT) aCol (toRange aR)).2)), (11, .ref 44 1 0), (14, .int .i64 (markValueSS (Tab.Rows ((iScanRange (toTable aT) aCol (toRange aR)).1)) 1).2)], [(12, .box 1 [.int .i64 (Tab.Width aT), .data (.slice (.slice (.named 1))) ((Tab.Rows aT) : List (List Val))]), (20, .box 1 [.int .i64 (Rng.Low aR), .int .i64 (Rng.High aR)]), (32, .box 1 [.int .i64 (Tab.Width ((sScanRange (toTable aT) aCol (toRange aR)).1)), .data (.slice (.slice (.named 1))) ((Tab.Rows ((sScanRange (toTable aT) aCol (toRange aR)).1)) : List (List Val))]), (44, .box 1 [.int .i64 (Tab.Width ((iScanRange (toTable aT) aCol (toRange aR)).1)), .tr 156 1]), (156, .tree 1 (.slice (.named 1)) ((markValueSS (Tab.Rows ((iScanRange (toTable aT) aCol (toRange aR)).1)) 1).1 : List (List Val)))]⟩
      [] (by rfl) (by kernel_rfl) ?_ ?_
     ·
      exact trivial
     refine AWO.nil ?_
     refine AW.seq (AW.r1 hC [1, 3, 5, 8, 9, 11, 14, 15] [12, 20, 32, 44, 156] ⟨[(1, .int .i64 aCol), (3, .ref 12 1 0), (5, .ref 20 1 0), (8, .ref 32 1 0), (9, .bool ((sScanRange (toTable aT) aCol (toRange aR)).2)), (11, .ref 44 1 0), (14, .int .i64 (markValueSS (Tab.Rows ((iScanRange (toTable aT) aCol (toRange aR)).1)) 1).2), (15, .int .i64 1)], [(12, .box 1 [.int .i64 (Tab.Width aT), .data (.slice (.slice (.named 1))) ((Tab.Rows aT) : List (List Val))]), (20, .box 1 [.int .i64 (Rng.Low aR), .int .i64 (Rng.High aR)]), (32, .box 1 [.int .i64 (Tab.Width ((sScanRange (toTable aT) aCol (toRange aR)).1)), .data (.slice (.slice (.named 1))) ((Tab.Rows ((sScanRange (toTable aT) aCol (toRange aR)).1)) : List (List Val))]), (44, .box 1 [.int .i64 (Tab.Width ((iScanRange (toTable aT) aCol (toRange aR)).1)), .tr 156 1]), (156, .tree 1 (.slice (.named 1)) ((markValueSS (Tab.Rows ((iScanRange (toTable aT) aCol (toRange aR)).1)) 1).1 : List (List Val)))]⟩ ?_)
     refine AW.seq (AW.r0 hC [1, 3, 5, 8, 9, 11, 14, 15] [12, 20, 32, 44, 156] ⟨[(1, .int .i64 aCol), (3, .ref 12 1 0), (5, .ref 20 1 0), (8, .ref 32 1 0), (9, .bool ((sScanRange (toTable aT) aCol (toRange aR)).2)), (11, .ref 44 1 0), (14, .int .i64 (markValueSS (Tab.Rows ((iScanRange (toTable aT) aCol (toRange aR)).1)) 1).2), (15, .int .i64 (heldTable (Tab.mk (Tab.Width ((iScanRange (toTable aT) aCol (toRange aR)).1)) ((markValueSS (Tab.Rows ((iScanRange (toTable aT) aCol (toRange aR)).1)) 1).1)) 1))], [(12, .box 1 [.int .i64 (Tab.Width aT), .data (.slice (.slice (.named 1))) ((Tab.Rows aT) : List (List Val))]), (20, .box 1 [.int .i64 (Rng.Low aR), .int .i64 (Rng.High aR)]), (32, .box 1 [.int .i64 (Tab.Width ((sScanRange (toTable aT) aCol (toRange aR)).1)), .data (.slice (.slice (.named 1))) ((Tab.Rows ((sScanRange (toTable aT) aCol (toRange aR)).1)) : List (List Val))]), (44, .box 1 [.int .i64 (Tab.Width ((iScanRange (toTable aT) aCol (toRange aR)).1)), .tr 156 1]), (156, .tree 1 (.slice (.named 1)) ((markValueSS (Tab.Rows ((iScanRange (toTable aT) aCol (toRange aR)).1)) 1).1 : List (List Val)))]⟩ [(True)] ?_ ?_)
     ·
      refine ⟨?_, trivial⟩
      ·
       trivial
     refine AW.seq (AW.seq (AW.r1 hC [1, 3, 5, 8, 9, 11, 14, 15, 79] [12, 20, 32, 44, 156] ⟨[(1, .int .i64 aCol), (3, .ref 12 1 0), (5, .ref 20 1 0), (8, .ref 32 1 0), (9, .bool ((sScanRange (toTable aT) aCol (toRange aR)).2)), (11, .ref 44 1 0), (14, .int .i64 (markValueSS (Tab.Rows ((iScanRange (toTable aT) aCol (toRange aR)).1)) 1).2), (15, .int .i64 (heldTable (Tab.mk (Tab.Width ((iScanRange (toTable aT) aCol (toRange aR)).1)) ((markValueSS (Tab.Rows ((iScanRange (toTable aT) aCol (toRange aR)).1)) 1).1)) 1)), (79, .bool (decide ((heldTable (Tab.mk (Tab.Width ((iScanRange (toTable aT) aCol (toRange aR)).1)) ((markValueSS (Tab.Rows ((iScanRange (toTable aT) aCol (toRange aR)).1)) 1).1)) 1) < 0)))], [(12, .box 1 [.int .i64 (Tab.Width aT), .data (.slice (.slice (.named 1))) ((Tab.Rows aT) : List (List Val))]), (20, .box 1 [.int .i64 (Rng.Low aR), .int .i64 (Rng.High aR)]), (32, .box 1 [.int .i64 (Tab.Width ((sScanRange (toTable aT) aCol (toRange aR)).1)), .data (.slice (.slice (.named 1))) ((Tab.Rows ((sScanRange (toTable aT) aCol (toRange aR)).1)) : List (List Val))]), (44, .box 1 [.int .i64 (Tab.Width ((iScanRange (toTable aT) aCol (toRange aR)).1)), .tr 156 1]), (156, .tree 1 (.slice (.named 1)) ((markValueSS (Tab.Rows ((iScanRange (toTable aT) aCol (toRange aR)).1)) 1).1 : List (List Val)))]⟩ ?_))
     refine AW.cd (decide ((heldTable (Tab.mk (Tab.Width ((iScanRange (toTable aT) aCol (toRange aR)).1)) ((markValueSS (Tab.Rows ((iScanRange (toTable aT) aCol (toRange aR)).1)) 1).1)) 1) < 0)) ?_ ?_
     ·
      intro h28
      have h28q : (heldTable (Tab.mk (Tab.Width ((iScanRange (toTable aT) aCol (toRange aR)).1)) ((markValueSS (Tab.Rows ((iScanRange (toTable aT) aCol (toRange aR)).1)) 1).1)) 1) < 0 := (of_decide_eq_true h28)
      have e29 := e27.trans (Go.Am.bif_t h28)
      refine AW.seq (AW.r1 hC [6] [] ⟨[(6, .bool false)], []⟩ ?_)
      exact AW.ret (AW.retE (β := Bool) (fun v => [⟨.bool, v⟩]) (fun v => []) (v := false) e29 (by kernel_rfl) rfl rfl)
     ·
      intro h30
      have h30q : ¬ ((heldTable (Tab.mk (Tab.Width ((iScanRange (toTable aT) aCol (toRange aR)).1)) ((markValueSS (Tab.Rows ((iScanRange (toTable aT) aCol (toRange aR)).1)) 1).1)) 1) < 0) := (of_decide_eq_false h30)
      have e31 := e27.trans (Go.Am.bif_f h30)
      refine AW.kp [1, 3, 5, 8, 9, 11, 14, 15] [12, 20, 32, 44, 156] ⟨[(1, .int .i64 aCol), (3, .ref 12 1 0), (5, .ref 20 1 0), (8, .ref 32 1 0), (9, .bool ((sScanRange (toTable aT) aCol (toRange aR)).2)), (11, .ref 44 1 0), (14, .int .i64 (markValueSS (Tab.Rows ((iScanRange (toTable aT) aCol (toRange aR)).1)) 1).2), (15, .int .i64 (heldTable (Tab.mk (Tab.Width ((iScanRange (toTable aT) aCol (toRange aR)).1)) ((markValueSS (Tab.Rows ((iScanRange (toTable aT) aCol (toRange aR)).1)) 1).1)) 1))], [(12, .box 1 [.int .i64 (Tab.Width aT), .data (.slice (.slice (.named 1))) ((Tab.Rows aT) : List (List Val))]), (20, .box 1 [.int .i64 (Rng.Low aR), .int .i64 (Rng.High aR)]), (32, .box 1 [.int .i64 (Tab.Width ((sScanRange (toTable aT) aCol (toRange aR)).1)), .data (.slice (.slice (.named 1))) ((Tab.Rows ((sScanRange (toTable aT) aCol (toRange aR)).1)) : List (List Val))]), (44, .box 1 [.int .i64 (Tab.Width ((iScanRange (toTable aT) aCol (toRange aR)).1)), .tr 156 1]), (156, .tree 1 (.slice (.named 1)) ((markValueSS (Tab.Rows ((iScanRange (toTable aT) aCol (toRange aR)).1)) 1).1 : List (List Val)))]⟩ ?_
      refine AW.skip (AW.seq (AW.seq (AW.r1 hC [1, 3, 5, 8, 9, 11, 14, 82] [12, 20, 32, 44, 156] ⟨[(1, .int .i64 aCol), (3, .ref 12 1 0), (5, .ref 20 1 0), (8, .ref 32 1 0), (9, .bool ((sScanRange (toTable aT) aCol (toRange aR)).2)), (11, .ref 44 1 0), (14, .int .i64 (markValueSS (Tab.Rows ((iScanRange (toTable aT) aCol (toRange aR)).1)) 1).2), (82, .bool ((heldTable (Tab.mk (Tab.Width ((iScanRange (toTable aT) aCol (toRange aR)).1)) ((markValueSS (Tab.Rows ((iScanRange (toTable aT) aCol (toRange aR)).1)) 1).1)) 1) != (markValueSS (Tab.Rows ((iScanRange (toTable aT) aCol (toRange aR)).1)) 1).2))], [(12, .box 1 [.int .i64 (Tab.Width aT), .data (.slice (.slice (.named 1))) ((Tab.Rows aT) : List (List Val))]), (20, .box 1 [.int .i64 (Rng.Low aR), .int .i64 (Rng.High aR)]), (32, .box 1 [.int .i64 (Tab.Width ((sScanRange (toTable aT) aCol (toRange aR)).1)), .data (.slice (.slice (.named 1))) ((Tab.Rows ((sScanRange (toTable aT) aCol (toRange aR)).1)) : List (List Val))]), (44, .box 1 [.int .i64 (Tab.Width ((iScanRange (toTable aT) aCol (toRange aR)).1)), .tr 156 1]), (156, .tree 1 (.slice (.named 1)) ((markValueSS (Tab.Rows ((iScanRange (toTable aT) aCol (toRange aR)).1)) 1).1 : List (List Val)))]⟩ ?_)))
      refine AW.cd ((heldTable (Tab.mk (Tab.Width ((iScanRange (toTable aT) aCol (toRange aR)).1)) ((markValueSS (Tab.Rows ((iScanRange (toTable aT) aCol (toRange aR)).1)) 1).1)) 1) != (markValueSS (Tab.Rows ((iScanRange (toTable aT) aCol (toRange aR)).1)) 1).2) ?_ ?_
      ·
       intro h32
       have h32q : (heldTable (Tab.mk (Tab.Width ((iScanRange (toTable aT) aCol (toRange aR)).1)) ((markValueSS (Tab.Rows ((iScanRange (toTable aT) aCol (toRange aR)).1)) 1).1)) 1) ≠ (markValueSS (Tab.Rows ((iScanRange (toTable aT) aCol (toRange aR)).1)) 1).2 := (Go.Am.bne_pos h32)
       have e33 := e31.trans (Go.Am.bif_t h32)
       refine AW.seq (AW.r1 hC [6] [] ⟨[(6, .bool false)], []⟩ ?_)
       exact AW.ret (AW.retE (β := Bool) (fun v => [⟨.bool, v⟩]) (fun v => []) (v := false) e33 (by kernel_rfl) rfl rfl)
      ·
       intro h34
       have h34q : (heldTable (Tab.mk (Tab.Width ((iScanRange (toTable aT) aCol (toRange aR)).1)) ((markValueSS (Tab.Rows ((iScanRange (toTable aT) aCol (toRange aR)).1)) 1).1)) 1) = (markValueSS (Tab.Rows ((iScanRange (toTable aT) aCol (toRange aR)).1)) 1).2 := (Go.Am.bne_neg h34)
       have e35 := e31.trans (Go.Am.bif_f h34)
       refine AW.kp [1, 3, 5, 8, 9, 11, 14] [12, 20, 32, 44, 156] ⟨[(1, .int .i64 aCol), (3, .ref 12 1 0), (5, .ref 20 1 0), (8, .ref 32 1 0), (9, .bool ((sScanRange (toTable aT) aCol (toRange aR)).2)), (11, .ref 44 1 0), (14, .int .i64 (markValueSS (Tab.Rows ((iScanRange (toTable aT) aCol (toRange aR)).1)) 1).2)], [(12, .box 1 [.int .i64 (Tab.Width aT), .data (.slice (.slice (.named 1))) ((Tab.Rows aT) : List (List Val))]), (20, .box 1 [.int .i64 (Rng.Low aR), .int .i64 (Rng.High aR)]), (32, .box 1 [.int .i64 (Tab.Width ((sScanRange (toTable aT) aCol (toRange aR)).1)), .data (.slice (.slice (.named 1))) ((Tab.Rows ((sScanRange (toTable aT) aCol (toRange aR)).1)) : List (List Val))]), (44, .box 1 [.int .i64 (Tab.Width ((iScanRange (toTable aT) aCol (toRange aR)).1)), .tr 156 1]), (156, .tree 1 (.slice (.named 1)) ((markValueSS (Tab.Rows ((iScanRange (toTable aT) aCol (toRange aR)).1)) 1).1 : List (List Val)))]⟩ ?_
       refine AW.skip (AW.seq (AW.d0 hC hM [8, 9, 11, 14, 16, 17] [32, 44, 64, 156, 356] ⟨[(8, .ref 32 1 0), (9, .bool ((sScanRange (toTable aT) aCol (toRange aR)).2)), (11, .ref 44 1 0), (14, .int .i64 (markValueSS (Tab.Rows ((iScanRange (toTable aT) aCol (toRange aR)).1)) 1).2), (16, .ref 64 1 0), (17, .bool ((iScanRange (toTable aT) aCol (toRange aR)).2))], [(32, .box 1 [.int .i64 (Tab.Width ((sScanRange (toTable aT) aCol (toRange aR)).1)), .data (.slice (.slice (.named 1))) ((Tab.Rows ((sScanRange (toTable aT) aCol (toRange aR)).1)) : List (List Val))]), (44, .box 1 [.int .i64 (Tab.Width ((iScanRange (toTable aT) aCol (toRange aR)).1)), .tr 156 1]), (64, .box 1 [.int .i64 (Tab.Width ((iScanRange (toTable aT) aCol (toRange aR)).1)), .tr 356 1]), (156, .tree 1 (.slice (.named 1)) ((markValueSS (Tab.Rows ((iScanRange (toTable aT) aCol (toRange aR)).1)) 1).1 : List (List Val))), (356, .tree 1 (.slice (.named 1)) ((Tab.Rows ((iScanRange (toTable aT) aCol (toRange aR)).1)) : List (List Val)))]⟩ [((List.length aT.Rows : Int) ≤ 1048576 ∧ ∀ i : Nat, i < List.length aT.Rows → (List.length (List.getD aT.Rows i []) : Int) ≤ 1048576), (True), (True)] ?_ ?_))
       ·
        refine ⟨?_, ?_, ?_, trivial⟩
        ·
         exact szTable_fit (by assumption)
        ·
         trivial
        ·
         trivial
       refine AW.seq (AW.seq (AW.r0 hC [11, 14, 100] [44, 156] ⟨[(11, .ref 44 1 0), (14, .int .i64 (markValueSS (Tab.Rows ((iScanRange (toTable aT) aCol (toRange aR)).1)) 1).2), (100, .bool (bif (!(eqTable ((iScanRange (toTable aT) aCol (toRange aR)).1) ((sScanRange (toTable aT) aCol (toRange aR)).1))) then true else (((iScanRange (toTable aT) aCol (toRange aR)).2) != ((sScanRange (toTable aT) aCol (toRange aR)).2))))], [(44, .box 1 [.int .i64 (Tab.Width ((iScanRange (toTable aT) aCol (toRange aR)).1)), .tr 156 1]), (156, .tree 1 (.slice (.named 1)) ((markValueSS (Tab.Rows ((iScanRange (toTable aT) aCol (toRange aR)).1)) 1).1 : List (List Val)))]⟩ [(True), (((!(eqTable ((iScanRange (toTable aT) aCol (toRange aR)).1) ((sScanRange (toTable aT) aCol (toRange aR)).1))) = false) → (((!(eqTable ((iScanRange (toTable aT) aCol (toRange aR)).1) ((sScanRange (toTable aT) aCol (toRange aR)).1))) = false))), (((!(eqTable ((iScanRange (toTable aT) aCol (toRange aR)).1) ((sScanRange (toTable aT) aCol (toRange aR)).1))) = false) → (((!(eqTable ((iScanRange (toTable aT) aCol (toRange aR)).1) ((sScanRange (toTable aT) aCol (toRange aR)).1))) = false))), (((!(eqTable ((iScanRange (toTable aT) aCol (toRange aR)).1) ((sScanRange (toTable aT) aCol (toRange aR)).1))) = false) → (((!(eqTable ((iScanRange (toTable aT) aCol (toRange aR)).1) ((sScanRange (toTable aT) aCol (toRange aR)).1))) = false)))] ?_ ?_))
       ·
        refine ⟨?_, ?_, ?_, ?_, trivial⟩
        ·
         trivial
        ·
         intro g36
         have g36p0 : (eqTable ((iScanRange (toTable aT) aCol (toRange aR)).1) ((sScanRange (toTable aT) aCol (toRange aR)).1)) = true := (Go.Am.not_neg g36)
         assumption
        ·
         intro g37
         have g37p0 : (eqTable ((iScanRange (toTable aT) aCol (toRange aR)).1) ((sScanRange (toTable aT) aCol (toRange aR)).1)) = true := (Go.Am.not_neg g37)
         assumption
        ·
         intro g38
         have g38p0 : (eqTable ((iScanRange (toTable aT) aCol (toRange aR)).1) ((sScanRange (toTable aT) aCol (toRange aR)).1)) = true := (Go.Am.not_neg g38)
         assumption
       refine AW.cd (bif (!(eqTable ((iScanRange (toTable aT) aCol (toRange aR)).1) ((sScanRange (toTable aT) aCol (toRange aR)).1))) then true else (((iScanRange (toTable aT) aCol (toRange aR)).2) != ((sScanRange (toTable aT) aCol (toRange aR)).2))) ?_ ?_
       ·
        intro h39
        have h39q : ((eqTable ((iScanRange (toTable aT) aCol (toRange aR)).1) ((sScanRange (toTable aT) aCol (toRange aR)).1)) = false) ∨ ((((iScanRange (toTable aT) aCol (toRange aR)).2) != ((sScanRange (toTable aT) aCol (toRange aR)).2)) = true) := (Or.imp (fun h => (Go.Am.not_pos h)) (fun h => h) (Go.Am.or_pos h39))
        have e40 := e35.trans (Go.Am.bif_t h39)
        refine AW.seq (AW.r1 hC [6] [] ⟨[(6, .bool false)], []⟩ ?_)
        exact AW.ret (AW.retE (β := Bool) (fun v => [⟨.bool, v⟩]) (fun v => []) (v := false) e40 (by kernel_rfl) rfl rfl)
       ·
        intro h41
        have h41q : ((eqTable ((iScanRange (toTable aT) aCol (toRange aR)).1) ((sScanRange (toTable aT) aCol (toRange aR)).1)) = true) ∧ ((((iScanRange (toTable aT) aCol (toRange aR)).2) != ((sScanRange (toTable aT) aCol (toRange aR)).2)) = false) := (And.imp (fun h => (Go.Am.not_neg h)) (fun h => h) (Go.Am.or_neg h41))
        have e42 := e35.trans (Go.Am.bif_f h41)
        refine AW.kp [11, 14] [44, 156] ⟨[(11, .ref 44 1 0), (14, .int .i64 (markValueSS (Tab.Rows ((iScanRange (toTable aT) aCol (toRange aR)).1)) 1).2)], [(44, .box 1 [.int .i64 (Tab.Width ((iScanRange (toTable aT) aCol (toRange aR)).1)), .tr 156 1]), (156, .tree 1 (.slice (.named 1)) ((markValueSS (Tab.Rows ((iScanRange (toTable aT) aCol (toRange aR)).1)) 1).1 : List (List Val)))]⟩ ?_
        refine AW.skip (AW.seq (AW.r1 hC [11, 14, 15] [44, 156] ⟨[(11, .ref 44 1 0), (14, .int .i64 (markValueSS (Tab.Rows ((iScanRange (toTable aT) aCol (toRange aR)).1)) 1).2), (15, .int .i64 1)], [(44, .box 1 [.int .i64 (Tab.Width ((iScanRange (toTable aT) aCol (toRange aR)).1)), .tr 156 1]), (156, .tree 1 (.slice (.named 1)) ((markValueSS (Tab.Rows ((iScanRange (toTable aT) aCol (toRange aR)).1)) 1).1 : List (List Val)))]⟩ ?_))
        refine AW.seq (AW.r0 hC [14, 15] [] ⟨[(14, .int .i64 (markValueSS (Tab.Rows ((iScanRange (toTable aT) aCol (toRange aR)).1)) 1).2), (15, .int .i64 (heldTable (Tab.mk (Tab.Width ((iScanRange (toTable aT) aCol (toRange aR)).1)) ((markValueSS (Tab.Rows ((iScanRange (toTable aT) aCol (toRange aR)).1)) 1).1)) 1))], []⟩ [(True)] ?_ ?_)
        ·
         refine ⟨?_, trivial⟩
         ·
          trivial
        refine AW.seq (AW.seq (AW.r1 hC [14, 15, 105] [] ⟨[(14, .int .i64 (markValueSS (Tab.Rows ((iScanRange (toTable aT) aCol (toRange aR)).1)) 1).2), (15, .int .i64 (heldTable (Tab.mk (Tab.Width ((iScanRange (toTable aT) aCol (toRange aR)).1)) ((markValueSS (Tab.Rows ((iScanRange (toTable aT) aCol (toRange aR)).1)) 1).1)) 1)), (105, .bool (decide ((heldTable (Tab.mk (Tab.Width ((iScanRange (toTable aT) aCol (toRange aR)).1)) ((markValueSS (Tab.Rows ((iScanRange (toTable aT) aCol (toRange aR)).1)) 1).1)) 1) < 0)))], []⟩ ?_))
        refine AW.cd (decide ((heldTable (Tab.mk (Tab.Width ((iScanRange (toTable aT) aCol (toRange aR)).1)) ((markValueSS (Tab.Rows ((iScanRange (toTable aT) aCol (toRange aR)).1)) 1).1)) 1) < 0)) ?_ ?_
        ·
         intro h43
         have h43q : (heldTable (Tab.mk (Tab.Width ((iScanRange (toTable aT) aCol (toRange aR)).1)) ((markValueSS (Tab.Rows ((iScanRange (toTable aT) aCol (toRange aR)).1)) 1).1)) 1) < 0 := (of_decide_eq_true h43)
         have e44 := e42.trans (Go.Am.bif_t h43)
         refine AW.seq (AW.r1 hC [6] [] ⟨[(6, .bool false)], []⟩ ?_)
         exact AW.ret (AW.retE (β := Bool) (fun v => [⟨.bool, v⟩]) (fun v => []) (v := false) e44 (by kernel_rfl) rfl rfl)
        ·
         intro h45
         have h45q : ¬ ((heldTable (Tab.mk (Tab.Width ((iScanRange (toTable aT) aCol (toRange aR)).1)) ((markValueSS (Tab.Rows ((iScanRange (toTable aT) aCol (toRange aR)).1)) 1).1)) 1) < 0) := (of_decide_eq_false h45)
         have e46 := e42.trans (Go.Am.bif_f h45)
         refine AW.kp [14, 15] [] ⟨[(14, .int .i64 (markValueSS (Tab.Rows ((iScanRange (toTable aT) aCol (toRange aR)).1)) 1).2), (15, .int .i64 (heldTable (Tab.mk (Tab.Width ((iScanRange (toTable aT) aCol (toRange aR)).1)) ((markValueSS (Tab.Rows ((iScanRange (toTable aT) aCol (toRange aR)).1)) 1).1)) 1))], []⟩ ?_
         refine AW.skip (AW.seq (AW.seq (AW.r1 hC [108] [] ⟨[(108, .bool ((heldTable (Tab.mk (Tab.Width ((iScanRange (toTable aT) aCol (toRange aR)).1)) ((markValueSS (Tab.Rows ((iScanRange (toTable aT) aCol (toRange aR)).1)) 1).1)) 1) != (markValueSS (Tab.Rows ((iScanRange (toTable aT) aCol (toRange aR)).1)) 1).2))], []⟩ ?_)))
         refine AW.cd ((heldTable (Tab.mk (Tab.Width ((iScanRange (toTable aT) aCol (toRange aR)).1)) ((markValueSS (Tab.Rows ((iScanRange (toTable aT) aCol (toRange aR)).1)) 1).1)) 1) != (markValueSS (Tab.Rows ((iScanRange (toTable aT) aCol (toRange aR)).1)) 1).2) ?_ ?_
         ·
          intro h47
          have h47q : (heldTable (Tab.mk (Tab.Width ((iScanRange (toTable aT) aCol (toRange aR)).1)) ((markValueSS (Tab.Rows ((iScanRange (toTable aT) aCol (toRange aR)).1)) 1).1)) 1) ≠ (markValueSS (Tab.Rows ((iScanRange (toTable aT) aCol (toRange aR)).1)) 1).2 := (Go.Am.bne_pos h47)
          have e48 := e46.trans (Go.Am.bif_t h47)
          refine AW.seq (AW.r1 hC [6] [] ⟨[(6, .bool false)], []⟩ ?_)
          exact AW.ret (AW.retE (β := Bool) (fun v => [⟨.bool, v⟩]) (fun v => []) (v := false) e48 (by kernel_rfl) rfl rfl)
         ·
          intro h49
          have h49q : (heldTable (Tab.mk (Tab.Width ((iScanRange (toTable aT) aCol (toRange aR)).1)) ((markValueSS (Tab.Rows ((iScanRange (toTable aT) aCol (toRange aR)).1)) 1).1)) 1) = (markValueSS (Tab.Rows ((iScanRange (toTable aT) aCol (toRange aR)).1)) 1).2 := (Go.Am.bne_neg h49)
          have e50 := e46.trans (Go.Am.bif_f h49)
          refine AW.kp [] [] ⟨[], []⟩ ?_
          refine AW.skip (AW.seq (AW.r1 hC [6] [] ⟨[(6, .bool true)], []⟩ ?_))
          exact AW.ret (AW.retE (β := Bool) (fun v => [⟨.bool, v⟩]) (fun v => []) (v := true) e50 (by kernel_rfl) rfl rfl)

theorem scan_small (t : Tab) (col : Int) (r : Rng) : (iScanRange t col r).1.Rows.length ≤ 400 ∧ ∀ x ∈ (iScanRange t col r).1.Rows, x.length ≤ 6 := by
 by_cases h : VT t ∧ 0 ≤ col ∧ col < t.Width
 ·
  rw [iScan_yes h]
  refine ⟨Nat.le_trans (kept_sublist _ _ _).length_le h.1.n4, fun x hx => (h.1.rowsOK.len (kept_mem hx)).2⟩
 ·
  rw [iScan_no h]
  exact ⟨Nat.zero_le _, fun x hx => by cases hx⟩

theorem FnExactScanRange_law (t : Tab) (col : Int) (r : Rng) : FnExactScanRange t col r = true := by
 unfold FnExactScanRange
 by_cases hz : szTable t 1048576 < 0
 ·
  rw [decide_eq_true hz]; rfl
 ·
  have hm := (toTable_fit (szTable_fit hz)).1
  obtain ⟨h1, h2⟩ := heldTable_cnt _ (tab_cnt (scan_small (toTable t) col (toRange r)))
  rw [decide_eq_false hz, ← scan_same, eqTable_refl, eqTable_refl, decide_eq_false hm, h1, decide_eq_false (by omega : ¬ (markValueSS (iScanRange (toTable t) col (toRange r)).1.Rows 1).2 < 0)]
  simp

end
end Go.Proofs.Ytjcjpeckfikfkaa
