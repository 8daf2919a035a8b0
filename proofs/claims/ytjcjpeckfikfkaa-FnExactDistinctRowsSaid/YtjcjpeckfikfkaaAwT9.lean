/-
  A part of the proof of this claim (AwT9): what functions of the program compute, and plain facts of that. No conditions.
-/
import Derived.Test.YtjcjpeckfikfkaaAwT8
import Derived.Test.YtjcjpeckfikfkaaAwT6
import Derived.Test.YtjcjpeckfikfkaaAwV
set_option linter.all false
namespace Go.Proofs.Ytjcjpeckfikfkaa
open Go Go.Am
noncomputable section

def FnExactDistinctRows (aT : Tab) : Bool := (bif (decide ((szTable aT 1048576) < 0)) then true else (bif (bif (!(eqTable ((iDistinctRows (toTable aT)).1) ((sDistinctRows (toTable aT)).1))) then true else (((iDistinctRows (toTable aT)).2) != ((sDistinctRows (toTable aT)).2))) then false else (bif (!(eqTable (toTable aT) (toTable aT))) then false else (bif (bif (bif (decide ((markValueSS (Tab.Rows (toTable aT)) 1).2 < 0)) then true else (!(eqTable ((iDistinctRows (toTable aT)).1) ((sDistinctRows (toTable aT)).1)))) then true else (((iDistinctRows (toTable aT)).2) != ((sDistinctRows (toTable aT)).2))) then false else (bif (decide ((heldTable (Tab.mk (Tab.Width ((iDistinctRows (toTable aT)).1)) ((markValueSS (Tab.Rows ((iDistinctRows (toTable aT)).1)) 1).1)) 1) < 0)) then false else (bif ((heldTable (Tab.mk (Tab.Width ((iDistinctRows (toTable aT)).1)) ((markValueSS (Tab.Rows ((iDistinctRows (toTable aT)).1)) 1).1)) 1) != (markValueSS (Tab.Rows ((iDistinctRows (toTable aT)).1)) 1).2) then false else (bif (bif (!(eqTable ((iDistinctRows (toTable aT)).1) ((sDistinctRows (toTable aT)).1))) then true else (((iDistinctRows (toTable aT)).2) != ((sDistinctRows (toTable aT)).2))) then false else (bif (decide ((heldTable (Tab.mk (Tab.Width ((iDistinctRows (toTable aT)).1)) ((markValueSS (Tab.Rows ((iDistinctRows (toTable aT)).1)) 1).1)) 1) < 0)) then false else (bif ((heldTable (Tab.mk (Tab.Width ((iDistinctRows (toTable aT)).1)) ((markValueSS (Tab.Rows ((iDistinctRows (toTable aT)).1)) 1).1)) 1) != (markValueSS (Tab.Rows ((iDistinctRows (toTable aT)).1)) 1).2) then false else true)))))))))

def FnExactDistinctRows_sp : FnSpec := mkSpec [.val (.named 2)] [.val .bool] (fun (aT : Tab) => True) (fun (aT : Tab) => [⟨.bool, (FnExactDistinctRows aT)⟩])

theorem FnExactDistinctRows_ok : FnOK Try.prog 7 FnExactDistinctRows_sp := by
 have hC : CtxOK Try.prog (mkCtx tyL [(22, eqTable_sp), (26, heldTable_sp), (30, iDistinctRowsO_sp), (33, sDistinctRows_sp), (34, szTable_sp), (35, toTable_sp)]) := CtxOK.cons eqTable_ok (CtxOK.cons heldTable_ok (CtxOK.cons iDistinctRowsO_ok (CtxOK.cons sDistinctRows_ok (CtxOK.cons szTable_ok (CtxOK.cons toTable_ok (CtxOK.nil tyOK))))))
 have hM : Try.prog.follows .mixedOrders = true := Try.checked.mixed
 have hC1 := hC.rebase 1000
 refine FnOK.of_body Try.func7 (by kernel_rfl) rfl (C := (mkCtx tyL [(22, eqTable_sp), (26, heldTable_sp), (30, iDistinctRowsO_sp), (33, sDistinctRows_sp), (34, szTable_sp), (35, toTable_sp)])) hC.ty (by kernel_rfl) ?_
 intro (aT : Tab) hwf hpre E
 have hpre : True := hpre
 have hw_aT : Wf ⟨(.named 2), (aT : Tab)⟩ := hwf _ (List.Mem.head _)
 have hr_aT_Width : -9223372036854775808 ≤ Tab.Width aT ∧ Tab.Width aT ≤ 9223372036854775807 := (hw_aT.field (tv := ⟨(.int .i64), Tab.Width aT⟩) (List.Mem.head _)).int_inv
 have hl_aT_Rows : ((List.length (Tab.Rows aT) : Nat) : Int) ≤ 9223372036854775807 := (hw_aT.field (tv := ⟨(.slice (.slice (.named 1))), Tab.Rows aT⟩) (List.Mem.tail _ (List.Mem.head _))).len
 have e0 : FnExactDistinctRows aT = FnExactDistinctRows aT := rfl
 refine AW.seq (AW.r1 hC [1] [4] ⟨[(1, .ref 4 1 0)], [(4, .box 1 [.int .i64 (Tab.Width aT), .data (.slice (.slice (.named 1))) ((Tab.Rows aT) : List (List Val))])]⟩ ?_)
 refine AW.seq (AW.r1 hC [1, 3] [4] ⟨[(1, .ref 4 1 0), (3, .int .i64 1048576)], [(4, .box 1 [.int .i64 (Tab.Width aT), .data (.slice (.slice (.named 1))) ((Tab.Rows aT) : List (List Val))])]⟩ ?_)
 refine AW.seq (AW.r0 hC [1, 3] [4] ⟨[(1, .ref 4 1 0), (3, .int .i64 (szTable aT 1048576))], [(4, .box 1 [.int .i64 (Tab.Width aT), .data (.slice (.slice (.named 1))) ((Tab.Rows aT) : List (List Val))])]⟩ [(0 ≤ (1048576 : Int))] ?_ ?_)
 ·
  refine ⟨?_, trivial⟩
  ·
   omega
 refine AW.seq (AW.seq (AW.r1 hC [1, 18] [4] ⟨[(1, .ref 4 1 0), (18, .bool (decide ((szTable aT 1048576) < 0)))], [(4, .box 1 [.int .i64 (Tab.Width aT), .data (.slice (.slice (.named 1))) ((Tab.Rows aT) : List (List Val))])]⟩ ?_))
 refine AW.cd (decide ((szTable aT 1048576) < 0)) ?_ ?_
 ·
  intro h1
  have h1q : (szTable aT 1048576) < 0 := (of_decide_eq_true h1)
  have e2 := e0.trans (Go.Am.bif_t h1)
  refine AW.seq (AW.r1 hC [2] [] ⟨[(2, .bool true)], []⟩ ?_)
  exact AW.ret (AW.retE (β := Bool) (fun v => [⟨.bool, v⟩]) (fun v => []) (v := true) e2 (by kernel_rfl) rfl rfl)
 ·
  intro h3
  have h3q : ¬ ((szTable aT 1048576) < 0) := (of_decide_eq_false h3)
  have e4 := e0.trans (Go.Am.bif_f h3)
  refine AW.kp [1] [4] ⟨[(1, .ref 4 1 0)], [(4, .box 1 [.int .i64 (Tab.Width aT), .data (.slice (.slice (.named 1))) ((Tab.Rows aT) : List (List Val))])]⟩ ?_
  refine AW.skip (AW.seq (AW.r0 hC [1, 4, 5] [4, 16] ⟨[(1, .ref 4 1 0), (4, .ref 16 1 0), (5, .bool ((sDistinctRows (toTable aT)).2))], [(4, .box 1 [.int .i64 (Tab.Width aT), .data (.slice (.slice (.named 1))) ((Tab.Rows aT) : List (List Val))]), (16, .box 1 [.int .i64 (Tab.Width ((sDistinctRows (toTable aT)).1)), .data (.slice (.slice (.named 1))) ((Tab.Rows ((sDistinctRows (toTable aT)).1)) : List (List Val))])]⟩ [((List.length aT.Rows : Int) ≤ 1048576 ∧ ∀ i : Nat, i < List.length aT.Rows → (List.length (List.getD aT.Rows i []) : Int) ≤ 1048576), (True)] ?_ ?_))
  ·
   refine ⟨?_, ?_, trivial⟩
   ·
    exact szTable_fit (by assumption)
   ·
    trivial
  refine AW.seq (AW.r0 hC [1, 4, 5, 6] [4, 16, 24, 104] ⟨[(1, .ref 4 1 0), (4, .ref 16 1 0), (5, .bool ((sDistinctRows (toTable aT)).2)), (6, .ref 24 1 0)], [(4, .box 1 [.int .i64 (Tab.Width aT), .data (.slice (.slice (.named 1))) ((Tab.Rows aT) : List (List Val))]), (16, .box 1 [.int .i64 (Tab.Width ((sDistinctRows (toTable aT)).1)), .data (.slice (.slice (.named 1))) ((Tab.Rows ((sDistinctRows (toTable aT)).1)) : List (List Val))]), (24, .box 1 [.int .i64 (Tab.Width (toTable aT)), .tr 104 1]), (104, .tree 1 (.slice (.named 1)) ((Tab.Rows (toTable aT)) : List (List Val)))]⟩ [((List.length aT.Rows : Int) ≤ 1048576 ∧ ∀ i : Nat, i < List.length aT.Rows → (List.length (List.getD aT.Rows i []) : Int) ≤ 1048576)] ?_ ?_)
  ·
   refine ⟨?_, trivial⟩
   ·
    exact szTable_fit (by assumption)
  refine AW.seq (AW.r0 hC [1, 4, 5, 6, 7, 8] [4, 16, 24, 28, 104, 116] ⟨[(1, .ref 4 1 0), (4, .ref 16 1 0), (5, .bool ((sDistinctRows (toTable aT)).2)), (6, .ref 24 1 0), (7, .ref 28 1 0), (8, .bool ((iDistinctRows (toTable aT)).2))], [(4, .box 1 [.int .i64 (Tab.Width aT), .data (.slice (.slice (.named 1))) ((Tab.Rows aT) : List (List Val))]), (16, .box 1 [.int .i64 (Tab.Width ((sDistinctRows (toTable aT)).1)), .data (.slice (.slice (.named 1))) ((Tab.Rows ((sDistinctRows (toTable aT)).1)) : List (List Val))]), (24, .box 1 [.int .i64 (Tab.Width (toTable aT)), .tr 104 1]), (28, .box 1 [.int .i64 (Tab.Width ((iDistinctRows (toTable aT)).1)), .tr 116 1]), (104, .tree 1 (.slice (.named 1)) ((Tab.Rows (toTable aT)) : List (List Val))), (116, .tree 1 (.slice (.named 1)) ((Tab.Rows ((iDistinctRows (toTable aT)).1)) : List (List Val)))]⟩ [(True)] ?_ ?_)
  ·
   refine ⟨?_, trivial⟩
   ·
    trivial
  refine AW.seq (AW.seq (AW.r0 hC [1, 4, 5, 6, 7, 8, 40] [4, 16, 24, 28, 104, 116] ⟨[(1, .ref 4 1 0), (4, .ref 16 1 0), (5, .bool ((sDistinctRows (toTable aT)).2)), (6, .ref 24 1 0), (7, .ref 28 1 0), (8, .bool ((iDistinctRows (toTable aT)).2)), (40, .bool (bif (!(eqTable ((iDistinctRows (toTable aT)).1) ((sDistinctRows (toTable aT)).1))) then true else (((iDistinctRows (toTable aT)).2) != ((sDistinctRows (toTable aT)).2))))], [(4, .box 1 [.int .i64 (Tab.Width aT), .data (.slice (.slice (.named 1))) ((Tab.Rows aT) : List (List Val))]), (16, .box 1 [.int .i64 (Tab.Width ((sDistinctRows (toTable aT)).1)), .data (.slice (.slice (.named 1))) ((Tab.Rows ((sDistinctRows (toTable aT)).1)) : List (List Val))]), (24, .box 1 [.int .i64 (Tab.Width (toTable aT)), .tr 104 1]), (28, .box 1 [.int .i64 (Tab.Width ((iDistinctRows (toTable aT)).1)), .tr 116 1]), (104, .tree 1 (.slice (.named 1)) ((Tab.Rows (toTable aT)) : List (List Val))), (116, .tree 1 (.slice (.named 1)) ((Tab.Rows ((iDistinctRows (toTable aT)).1)) : List (List Val)))]⟩ [(True), (((!(eqTable ((iDistinctRows (toTable aT)).1) ((sDistinctRows (toTable aT)).1))) = false) → (((!(eqTable ((iDistinctRows (toTable aT)).1) ((sDistinctRows (toTable aT)).1))) = false))), (((!(eqTable ((iDistinctRows (toTable aT)).1) ((sDistinctRows (toTable aT)).1))) = false) → (((!(eqTable ((iDistinctRows (toTable aT)).1) ((sDistinctRows (toTable aT)).1))) = false))), (((!(eqTable ((iDistinctRows (toTable aT)).1) ((sDistinctRows (toTable aT)).1))) = false) → (((!(eqTable ((iDistinctRows (toTable aT)).1) ((sDistinctRows (toTable aT)).1))) = false)))] ?_ ?_))
  ·
   refine ⟨?_, ?_, ?_, ?_, trivial⟩
   ·
    trivial
   ·
    intro g5
    have g5p0 : (eqTable ((iDistinctRows (toTable aT)).1) ((sDistinctRows (toTable aT)).1)) = true := (Go.Am.not_neg g5)
    assumption
   ·
    intro g6
    have g6p0 : (eqTable ((iDistinctRows (toTable aT)).1) ((sDistinctRows (toTable aT)).1)) = true := (Go.Am.not_neg g6)
    assumption
   ·
    intro g7
    have g7p0 : (eqTable ((iDistinctRows (toTable aT)).1) ((sDistinctRows (toTable aT)).1)) = true := (Go.Am.not_neg g7)
    assumption
  refine AW.cd (bif (!(eqTable ((iDistinctRows (toTable aT)).1) ((sDistinctRows (toTable aT)).1))) then true else (((iDistinctRows (toTable aT)).2) != ((sDistinctRows (toTable aT)).2))) ?_ ?_
  ·
   intro h8
   have h8q : ((eqTable ((iDistinctRows (toTable aT)).1) ((sDistinctRows (toTable aT)).1)) = false) ∨ ((((iDistinctRows (toTable aT)).2) != ((sDistinctRows (toTable aT)).2)) = true) := (Or.imp (fun h => (Go.Am.not_pos h)) (fun h => h) (Go.Am.or_pos h8))
   have e9 := e4.trans (Go.Am.bif_t h8)
   refine AW.seq (AW.r1 hC [2] [] ⟨[(2, .bool false)], []⟩ ?_)
   exact AW.ret (AW.retE (β := Bool) (fun v => [⟨.bool, v⟩]) (fun v => []) (v := false) e9 (by kernel_rfl) rfl rfl)
  ·
   intro h10
   have h10q : ((eqTable ((iDistinctRows (toTable aT)).1) ((sDistinctRows (toTable aT)).1)) = true) ∧ ((((iDistinctRows (toTable aT)).2) != ((sDistinctRows (toTable aT)).2)) = false) := (And.imp (fun h => (Go.Am.not_neg h)) (fun h => h) (Go.Am.or_neg h10))
   have e11 := e4.trans (Go.Am.bif_f h10)
   refine AW.kp [1, 4, 5, 6, 7, 8] [4, 16, 24, 28, 104, 116] ⟨[(1, .ref 4 1 0), (4, .ref 16 1 0), (5, .bool ((sDistinctRows (toTable aT)).2)), (6, .ref 24 1 0), (7, .ref 28 1 0), (8, .bool ((iDistinctRows (toTable aT)).2))], [(4, .box 1 [.int .i64 (Tab.Width aT), .data (.slice (.slice (.named 1))) ((Tab.Rows aT) : List (List Val))]), (16, .box 1 [.int .i64 (Tab.Width ((sDistinctRows (toTable aT)).1)), .data (.slice (.slice (.named 1))) ((Tab.Rows ((sDistinctRows (toTable aT)).1)) : List (List Val))]), (24, .box 1 [.int .i64 (Tab.Width (toTable aT)), .tr 104 1]), (28, .box 1 [.int .i64 (Tab.Width ((iDistinctRows (toTable aT)).1)), .tr 116 1]), (104, .tree 1 (.slice (.named 1)) ((Tab.Rows (toTable aT)) : List (List Val))), (116, .tree 1 (.slice (.named 1)) ((Tab.Rows ((iDistinctRows (toTable aT)).1)) : List (List Val)))]⟩ ?_
   refine AW.skip (AW.seq (AW.seq (AW.d0 hC hM [1, 4, 5, 6, 7, 8, 45] [4, 16, 24, 28, 104, 116] ⟨[(1, .ref 4 1 0), (4, .ref 16 1 0), (5, .bool ((sDistinctRows (toTable aT)).2)), (6, .ref 24 1 0), (7, .ref 28 1 0), (8, .bool ((iDistinctRows (toTable aT)).2)), (45, .bool (!(eqTable (toTable aT) (toTable aT))))], [(4, .box 1 [.int .i64 (Tab.Width aT), .data (.slice (.slice (.named 1))) ((Tab.Rows aT) : List (List Val))]), (16, .box 1 [.int .i64 (Tab.Width ((sDistinctRows (toTable aT)).1)), .data (.slice (.slice (.named 1))) ((Tab.Rows ((sDistinctRows (toTable aT)).1)) : List (List Val))]), (24, .box 1 [.int .i64 (Tab.Width (toTable aT)), .tr 104 1]), (28, .box 1 [.int .i64 (Tab.Width ((iDistinctRows (toTable aT)).1)), .tr 116 1]), (104, .tree 1 (.slice (.named 1)) ((Tab.Rows (toTable aT)) : List (List Val))), (116, .tree 1 (.slice (.named 1)) ((Tab.Rows ((iDistinctRows (toTable aT)).1)) : List (List Val)))]⟩ [((List.length aT.Rows : Int) ≤ 1048576 ∧ ∀ i : Nat, i < List.length aT.Rows → (List.length (List.getD aT.Rows i []) : Int) ≤ 1048576), (True)] ?_ ?_)))
   ·
    refine ⟨?_, ?_, trivial⟩
    ·
     exact szTable_fit (by assumption)
    ·
     trivial
   refine AW.cd (!(eqTable (toTable aT) (toTable aT))) ?_ ?_
   ·
    intro h12
    have h12q : (eqTable (toTable aT) (toTable aT)) = false := (Go.Am.not_pos h12)
    have e13 := e11.trans (Go.Am.bif_t h12)
    refine AW.seq (AW.r1 hC [2] [] ⟨[(2, .bool false)], []⟩ ?_)
    exact AW.ret (AW.retE (β := Bool) (fun v => [⟨.bool, v⟩]) (fun v => []) (v := false) e13 (by kernel_rfl) rfl rfl)
   ·
    intro h14
    have h14q : (eqTable (toTable aT) (toTable aT)) = true := (Go.Am.not_neg h14)
    have e15 := e11.trans (Go.Am.bif_f h14)
    refine AW.kp [1, 4, 5, 6, 7, 8] [4, 16, 24, 28, 104, 116] ⟨[(1, .ref 4 1 0), (4, .ref 16 1 0), (5, .bool ((sDistinctRows (toTable aT)).2)), (6, .ref 24 1 0), (7, .ref 28 1 0), (8, .bool ((iDistinctRows (toTable aT)).2))], [(4, .box 1 [.int .i64 (Tab.Width aT), .data (.slice (.slice (.named 1))) ((Tab.Rows aT) : List (List Val))]), (16, .box 1 [.int .i64 (Tab.Width ((sDistinctRows (toTable aT)).1)), .data (.slice (.slice (.named 1))) ((Tab.Rows ((sDistinctRows (toTable aT)).1)) : List (List Val))]), (24, .box 1 [.int .i64 (Tab.Width (toTable aT)), .tr 104 1]), (28, .box 1 [.int .i64 (Tab.Width ((iDistinctRows (toTable aT)).1)), .tr 116 1]), (104, .tree 1 (.slice (.named 1)) ((Tab.Rows (toTable aT)) : List (List Val))), (116, .tree 1 (.slice (.named 1)) ((Tab.Rows ((iDistinctRows (toTable aT)).1)) : List (List Val)))]⟩ ?_
    refine AW.skip (AW.seq (AW.r1 hC [1, 4, 5, 6, 7, 8, 9] [4, 16, 24, 28, 104, 116] ⟨[(1, .ref 4 1 0), (4, .ref 16 1 0), (5, .bool ((sDistinctRows (toTable aT)).2)), (6, .ref 24 1 0), (7, .ref 28 1 0), (8, .bool ((iDistinctRows (toTable aT)).2)), (9, .int .i64 1)], [(4, .box 1 [.int .i64 (Tab.Width aT), .data (.slice (.slice (.named 1))) ((Tab.Rows aT) : List (List Val))]), (16, .box 1 [.int .i64 (Tab.Width ((sDistinctRows (toTable aT)).1)), .data (.slice (.slice (.named 1))) ((Tab.Rows ((sDistinctRows (toTable aT)).1)) : List (List Val))]), (24, .box 1 [.int .i64 (Tab.Width (toTable aT)), .tr 104 1]), (28, .box 1 [.int .i64 (Tab.Width ((iDistinctRows (toTable aT)).1)), .tr 116 1]), (104, .tree 1 (.slice (.named 1)) ((Tab.Rows (toTable aT)) : List (List Val))), (116, .tree 1 (.slice (.named 1)) ((Tab.Rows ((iDistinctRows (toTable aT)).1)) : List (List Val)))]⟩ ?_))
    refine AW.seq (AW.regionO [0, 1, 2, 3] (by rfl) ?_)
    refine AWO.run hC false [] [0, 1] [2, 3] [1, 4, 5, 7, 8, 46, 47] [4, 16, 28, 104, 116]
     ⟨[(1, .ref 4 1 0), (4, .ref 16 1 0), (5, .bool ((sDistinctRows (toTable aT)).2)), (7, .ref 28 1 0), (8, .bool ((iDistinctRows (toTable aT)).2)), (46, .agg [.int .i64 (Tab.Width (toTable aT)), .tr 104 1]), (47, .int .i64 1)], [(4, .box 1 [.int .i64 (Tab.Width aT), .data (.slice (.slice (.named 1))) ((Tab.Rows aT) : List (List Val))]), (16, .box 1 [.int .i64 (Tab.Width ((sDistinctRows (toTable aT)).1)), .data (.slice (.slice (.named 1))) ((Tab.Rows ((sDistinctRows (toTable aT)).1)) : List (List Val))]), (28, .box 1 [.int .i64 (Tab.Width ((iDistinctRows (toTable aT)).1)), .tr 116 1]), (104, .tree 1 (.slice (.named 1)) ((Tab.Rows (toTable aT)) : List (List Val))), (116, .tree 1 (.slice (.named 1)) ((Tab.Rows ((iDistinctRows (toTable aT)).1)) : List (List Val)))]⟩
     [] (by rfl) (by kernel_rfl) ?_ ?_
    ·
     exact trivial
    refine AWO.call hC.ty (vs := [.agg [.int .i64 (Tab.Width (toTable aT)), .tr 104 1], .int .i64 1]) (caps := []) (by rfl) rfl (.inl rfl) (by decide) (by kernel_rfl) (by kernel_rfl) Try.func25 (by kernel_rfl) rfl (by kernel_rfl) ?_
    intro o1 ho1
    refine AW.kp [0, 1, 1001, 1004, 1005, 1007, 1008] [4, 16, 28, 104, 116] ⟨[(0, .agg [.int .i64 (Tab.Width (toTable aT)), .tr 104 1]), (1, .int .i64 1), (1001, .ref 4 1 0), (1004, .ref 16 1 0), (1005, .bool ((sDistinctRows (toTable aT)).2)), (1007, .ref 28 1 0), (1008, .bool ((iDistinctRows (toTable aT)).2))], [(4, .box 1 [.int .i64 (Tab.Width aT), .data (.slice (.slice (.named 1))) ((Tab.Rows aT) : List (List Val))]), (16, .box 1 [.int .i64 (Tab.Width ((sDistinctRows (toTable aT)).1)), .data (.slice (.slice (.named 1))) ((Tab.Rows ((sDistinctRows (toTable aT)).1)) : List (List Val))]), (28, .box 1 [.int .i64 (Tab.Width ((iDistinctRows (toTable aT)).1)), .tr 116 1]), (104, .tree 1 (.slice (.named 1)) ((Tab.Rows (toTable aT)) : List (List Val))), (116, .tree 1 (.slice (.named 1)) ((Tab.Rows ((iDistinctRows (toTable aT)).1)) : List (List Val)))]⟩ ?_
    refine AW.seq (AW.r1 hC1 [1, 2, 1001, 1004, 1005, 1007, 1008] [4, 16, 28, 104, 116, 4008] ⟨[(1, .int .i64 1), (2, .ref 4008 1 0), (1001, .ref 4 1 0), (1004, .ref 16 1 0), (1005, .bool ((sDistinctRows (toTable aT)).2)), (1007, .ref 28 1 0), (1008, .bool ((iDistinctRows (toTable aT)).2))], [(4, .box 1 [.int .i64 (Tab.Width aT), .data (.slice (.slice (.named 1))) ((Tab.Rows aT) : List (List Val))]), (16, .box 1 [.int .i64 (Tab.Width ((sDistinctRows (toTable aT)).1)), .data (.slice (.slice (.named 1))) ((Tab.Rows ((sDistinctRows (toTable aT)).1)) : List (List Val))]), (28, .box 1 [.int .i64 (Tab.Width ((iDistinctRows (toTable aT)).1)), .tr 116 1]), (104, .tree 1 (.slice (.named 1)) ((Tab.Rows (toTable aT)) : List (List Val))), (116, .tree 1 (.slice (.named 1)) ((Tab.Rows ((iDistinctRows (toTable aT)).1)) : List (List Val))), (4008, .box 1 [.int .i64 (Tab.Width (toTable aT)), .tr 104 1])]⟩ ?_)
    refine AW.seq (AW.regionO [0, 1, 2, 3, 4] (by rfl) ?_)
    refine AWO.run hC1 false [] [0, 1, 2] [3, 4] [6, 7, 1001, 1004, 1005, 1007, 1008] [4, 16, 28, 104, 116]
     ⟨[(6, .tr 104 1), (7, .int .i64 1), (1001, .ref 4 1 0), (1004, .ref 16 1 0), (1005, .bool ((sDistinctRows (toTable aT)).2)), (1007, .ref 28 1 0), (1008, .bool ((iDistinctRows (toTable aT)).2))], [(4, .box 1 [.int .i64 (Tab.Width aT), .data (.slice (.slice (.named 1))) ((Tab.Rows aT) : List (List Val))]), (16, .box 1 [.int .i64 (Tab.Width ((sDistinctRows (toTable aT)).1)), .data (.slice (.slice (.named 1))) ((Tab.Rows ((sDistinctRows (toTable aT)).1)) : List (List Val))]), (28, .box 1 [.int .i64 (Tab.Width ((iDistinctRows (toTable aT)).1)), .tr 116 1]), (104, .tree 1 (.slice (.named 1)) ((Tab.Rows (toTable aT)) : List (List Val))), (116, .tree 1 (.slice (.named 1)) ((Tab.Rows ((iDistinctRows (toTable aT)).1)) : List (List Val)))]⟩
     [] (by rfl) (by kernel_rfl) ?_ ?_
    ·
     exact trivial
    refine AWO.mark (u := (.slice (.named 1))) (id := 104) (ep := 1) (xs := ((Tab.Rows (toTable aT)) : List (List Val))) (k := 1) markValueSS_ok (by rfl) (by rfl) (by kernel_rfl) (by kernel_rfl) (by kernel_rfl) (by kernel_rfl) ?_ ?_
    ·
     show True
     assumption
    refine AWO.keep [8, 1001, 1004, 1005, 1007, 1008] [4, 16, 28, 116] ⟨[(8, .int .i64 (markValueSS (Tab.Rows (toTable aT)) 1).2), (1001, .ref 4 1 0), (1004, .ref 16 1 0), (1005, .bool ((sDistinctRows (toTable aT)).2)), (1007, .ref 28 1 0), (1008, .bool ((iDistinctRows (toTable aT)).2))], [(4, .box 1 [.int .i64 (Tab.Width aT), .data (.slice (.slice (.named 1))) ((Tab.Rows aT) : List (List Val))]), (16, .box 1 [.int .i64 (Tab.Width ((sDistinctRows (toTable aT)).1)), .data (.slice (.slice (.named 1))) ((Tab.Rows ((sDistinctRows (toTable aT)).1)) : List (List Val))]), (28, .box 1 [.int .i64 (Tab.Width ((iDistinctRows (toTable aT)).1)), .tr 116 1]), (116, .tree 1 (.slice (.named 1)) ((Tab.Rows ((iDistinctRows (toTable aT)).1)) : List (List Val)))]⟩ (by kernel_rfl) ?_
    refine AWO.run hC1 false [] [4] [] [1, 1001, 1004, 1005, 1007, 1008] [4, 16, 28, 116]
     ⟨[(1, .int .i64 (markValueSS (Tab.Rows (toTable aT)) 1).2), (1001, .ref 4 1 0), (1004, .ref 16 1 0), (1005, .bool ((sDistinctRows (toTable aT)).2)), (1007, .ref 28 1 0), (1008, .bool ((iDistinctRows (toTable aT)).2))], [(4, .box 1 [.int .i64 (Tab.Width aT), .data (.slice (.slice (.named 1))) ((Tab.Rows aT) : List (List Val))]), (16, .box 1 [.int .i64 (Tab.Width ((sDistinctRows (toTable aT)).1)), .data (.slice (.slice (.named 1))) ((Tab.Rows ((sDistinctRows (toTable aT)).1)) : List (List Val))]), (28, .box 1 [.int .i64 (Tab.Width ((iDistinctRows (toTable aT)).1)), .tr 116 1]), (116, .tree 1 (.slice (.named 1)) ((Tab.Rows ((iDistinctRows (toTable aT)).1)) : List (List Val)))]⟩
     [] (by rfl) (by kernel_rfl) ?_ ?_
    ·
     exact trivial
    refine AWO.nil ?_
    refine AW.seq (AW.r1 hC1 [4, 1001, 1004, 1005, 1007, 1008] [4, 16, 28, 116] ⟨[(4, .int .i64 (markValueSS (Tab.Rows (toTable aT)) 1).2), (1001, .ref 4 1 0), (1004, .ref 16 1 0), (1005, .bool ((sDistinctRows (toTable aT)).2)), (1007, .ref 28 1 0), (1008, .bool ((iDistinctRows (toTable aT)).2))], [(4, .box 1 [.int .i64 (Tab.Width aT), .data (.slice (.slice (.named 1))) ((Tab.Rows aT) : List (List Val))]), (16, .box 1 [.int .i64 (Tab.Width ((sDistinctRows (toTable aT)).1)), .data (.slice (.slice (.named 1))) ((Tab.Rows ((sDistinctRows (toTable aT)).1)) : List (List Val))]), (28, .box 1 [.int .i64 (Tab.Width ((iDistinctRows (toTable aT)).1)), .tr 116 1]), (116, .tree 1 (.slice (.named 1)) ((Tab.Rows ((iDistinctRows (toTable aT)).1)) : List (List Val)))]⟩ ?_)
    refine AW.ret ?_
    refine ⟨[.int .i64 (markValueSS (Tab.Rows (toTable aT)) 1).2], by kernel_rfl, ?_⟩
    refine AWO.keep [1, 4, 5, 7, 8, 48] [4, 16, 28, 116] ⟨[(1, .ref 4 1 0), (4, .ref 16 1 0), (5, .bool ((sDistinctRows (toTable aT)).2)), (7, .ref 28 1 0), (8, .bool ((iDistinctRows (toTable aT)).2)), (48, .int .i64 (markValueSS (Tab.Rows (toTable aT)) 1).2)], [(4, .box 1 [.int .i64 (Tab.Width aT), .data (.slice (.slice (.named 1))) ((Tab.Rows aT) : List (List Val))]), (16, .box 1 [.int .i64 (Tab.Width ((sDistinctRows (toTable aT)).1)), .data (.slice (.slice (.named 1))) ((Tab.Rows ((sDistinctRows (toTable aT)).1)) : List (List Val))]), (28, .box 1 [.int .i64 (Tab.Width ((iDistinctRows (toTable aT)).1)), .tr 116 1]), (116, .tree 1 (.slice (.named 1)) ((Tab.Rows ((iDistinctRows (toTable aT)).1)) : List (List Val)))]⟩ (by kernel_rfl) ?_
    refine AWO.run hC false [] [3] [] [1, 4, 5, 7, 8, 9] [4, 16, 28, 116]
     ⟨[(1, .ref 4 1 0), (4, .ref 16 1 0), (5, .bool ((sDistinctRows (toTable aT)).2)), (7, .ref 28 1 0), (8, .bool ((iDistinctRows (toTable aT)).2)), (9, .int .i64 (markValueSS (Tab.Rows (toTable aT)) 1).2)], [(4, .box 1 [.int .i64 (Tab.Width aT), .data (.slice (.slice (.named 1))) ((Tab.Rows aT) : List (List Val))]), (16, .box 1 [.int .i64 (Tab.Width ((sDistinctRows (toTable aT)).1)), .data (.slice (.slice (.named 1))) ((Tab.Rows ((sDistinctRows (toTable aT)).1)) : List (List Val))]), (28, .box 1 [.int .i64 (Tab.Width ((iDistinctRows (toTable aT)).1)), .tr 116 1]), (116, .tree 1 (.slice (.named 1)) ((Tab.Rows ((iDistinctRows (toTable aT)).1)) : List (List Val)))]⟩
     [] (by rfl) (by kernel_rfl) ?_ ?_
    ·
     exact trivial
    refine AWO.nil ?_
    refine AW.seq (AW.seq (AW.r0 hC [1, 4, 5, 7, 61] [4, 16, 28, 116] ⟨[(1, .ref 4 1 0), (4, .ref 16 1 0), (5, .bool ((sDistinctRows (toTable aT)).2)), (7, .ref 28 1 0), (61, .bool (bif (bif (decide ((markValueSS (Tab.Rows (toTable aT)) 1).2 < 0)) then true else (!(eqTable ((iDistinctRows (toTable aT)).1) ((sDistinctRows (toTable aT)).1)))) then true else (((iDistinctRows (toTable aT)).2) != ((sDistinctRows (toTable aT)).2))))], [(4, .box 1 [.int .i64 (Tab.Width aT), .data (.slice (.slice (.named 1))) ((Tab.Rows aT) : List (List Val))]), (16, .box 1 [.int .i64 (Tab.Width ((sDistinctRows (toTable aT)).1)), .data (.slice (.slice (.named 1))) ((Tab.Rows ((sDistinctRows (toTable aT)).1)) : List (List Val))]), (28, .box 1 [.int .i64 (Tab.Width ((iDistinctRows (toTable aT)).1)), .tr 116 1]), (116, .tree 1 (.slice (.named 1)) ((Tab.Rows ((iDistinctRows (toTable aT)).1)) : List (List Val)))]⟩ [(((decide ((markValueSS (Tab.Rows (toTable aT)) 1).2 < 0)) = false) → (((decide ((markValueSS (Tab.Rows (toTable aT)) 1).2 < 0)) = false))), (((decide ((markValueSS (Tab.Rows (toTable aT)) 1).2 < 0)) = false) → (((decide ((markValueSS (Tab.Rows (toTable aT)) 1).2 < 0)) = false))), (((decide ((markValueSS (Tab.Rows (toTable aT)) 1).2 < 0)) = false) → (True)), (((decide ((markValueSS (Tab.Rows (toTable aT)) 1).2 < 0)) = false) → (((decide ((markValueSS (Tab.Rows (toTable aT)) 1).2 < 0)) = false))), (((decide ((markValueSS (Tab.Rows (toTable aT)) 1).2 < 0)) = false) → (((decide ((markValueSS (Tab.Rows (toTable aT)) 1).2 < 0)) = false))), (((bif (decide ((markValueSS (Tab.Rows (toTable aT)) 1).2 < 0)) then true else (!(eqTable ((iDistinctRows (toTable aT)).1) ((sDistinctRows (toTable aT)).1)))) = false) → (((bif (decide ((markValueSS (Tab.Rows (toTable aT)) 1).2 < 0)) then true else (!(eqTable ((iDistinctRows (toTable aT)).1) ((sDistinctRows (toTable aT)).1)))) = false))), (((bif (decide ((markValueSS (Tab.Rows (toTable aT)) 1).2 < 0)) then true else (!(eqTable ((iDistinctRows (toTable aT)).1) ((sDistinctRows (toTable aT)).1)))) = false) → (((bif (decide ((markValueSS (Tab.Rows (toTable aT)) 1).2 < 0)) then true else (!(eqTable ((iDistinctRows (toTable aT)).1) ((sDistinctRows (toTable aT)).1)))) = false))), (((bif (decide ((markValueSS (Tab.Rows (toTable aT)) 1).2 < 0)) then true else (!(eqTable ((iDistinctRows (toTable aT)).1) ((sDistinctRows (toTable aT)).1)))) = false) → (((bif (decide ((markValueSS (Tab.Rows (toTable aT)) 1).2 < 0)) then true else (!(eqTable ((iDistinctRows (toTable aT)).1) ((sDistinctRows (toTable aT)).1)))) = false)))] ?_ ?_))
    ·
     refine ⟨?_, ?_, ?_, ?_, ?_, ?_, ?_, ?_, trivial⟩
     ·
      intro g16
      have g16p0 : ¬ ((markValueSS (Tab.Rows (toTable aT)) 1).2 < 0) := (of_decide_eq_false g16)
      assumption
     ·
      intro g17
      have g17p0 : ¬ ((markValueSS (Tab.Rows (toTable aT)) 1).2 < 0) := (of_decide_eq_false g17)
      assumption
     ·
      intro g18
      have g18p0 : ¬ ((markValueSS (Tab.Rows (toTable aT)) 1).2 < 0) := (of_decide_eq_false g18)
      trivial
     ·
      intro g19
      have g19p0 : ¬ ((markValueSS (Tab.Rows (toTable aT)) 1).2 < 0) := (of_decide_eq_false g19)
      assumption
     ·
      intro g20
      have g20p0 : ¬ ((markValueSS (Tab.Rows (toTable aT)) 1).2 < 0) := (of_decide_eq_false g20)
      assumption
     ·
      intro g21
      have g21p0 : (¬ ((markValueSS (Tab.Rows (toTable aT)) 1).2 < 0)) ∧ ((eqTable ((iDistinctRows (toTable aT)).1) ((sDistinctRows (toTable aT)).1)) = true) := (And.imp (fun h => (of_decide_eq_false h)) (fun h => (Go.Am.not_neg h)) (Go.Am.or_neg g21))
      assumption
     ·
      intro g22
      have g22p0 : (¬ ((markValueSS (Tab.Rows (toTable aT)) 1).2 < 0)) ∧ ((eqTable ((iDistinctRows (toTable aT)).1) ((sDistinctRows (toTable aT)).1)) = true) := (And.imp (fun h => (of_decide_eq_false h)) (fun h => (Go.Am.not_neg h)) (Go.Am.or_neg g22))
      assumption
     ·
      intro g23
      have g23p0 : (¬ ((markValueSS (Tab.Rows (toTable aT)) 1).2 < 0)) ∧ ((eqTable ((iDistinctRows (toTable aT)).1) ((sDistinctRows (toTable aT)).1)) = true) := (And.imp (fun h => (of_decide_eq_false h)) (fun h => (Go.Am.not_neg h)) (Go.Am.or_neg g23))
      assumption
    refine AW.cd (bif (bif (decide ((markValueSS (Tab.Rows (toTable aT)) 1).2 < 0)) then true else (!(eqTable ((iDistinctRows (toTable aT)).1) ((sDistinctRows (toTable aT)).1)))) then true else (((iDistinctRows (toTable aT)).2) != ((sDistinctRows (toTable aT)).2))) ?_ ?_
    ·
     intro h24
     have h24q : (((markValueSS (Tab.Rows (toTable aT)) 1).2 < 0) ∨ ((eqTable ((iDistinctRows (toTable aT)).1) ((sDistinctRows (toTable aT)).1)) = false)) ∨ ((((iDistinctRows (toTable aT)).2) != ((sDistinctRows (toTable aT)).2)) = true) := (Or.imp (fun h => (Or.imp (fun h => (of_decide_eq_true h)) (fun h => (Go.Am.not_pos h)) (Go.Am.or_pos h))) (fun h => h) (Go.Am.or_pos h24))
     have e25 := e15.trans (Go.Am.bif_t h24)
     refine AW.seq (AW.r1 hC [2] [] ⟨[(2, .bool false)], []⟩ ?_)
     exact AW.ret (AW.retE (β := Bool) (fun v => [⟨.bool, v⟩]) (fun v => []) (v := false) e25 (by kernel_rfl) rfl rfl)
    ·
     intro h26
     have h26q : ((¬ ((markValueSS (Tab.Rows (toTable aT)) 1).2 < 0)) ∧ ((eqTable ((iDistinctRows (toTable aT)).1) ((sDistinctRows (toTable aT)).1)) = true)) ∧ ((((iDistinctRows (toTable aT)).2) != ((sDistinctRows (toTable aT)).2)) = false) := (And.imp (fun h => (And.imp (fun h => (of_decide_eq_false h)) (fun h => (Go.Am.not_neg h)) (Go.Am.or_neg h))) (fun h => h) (Go.Am.or_neg h26))
     have e27 := e15.trans (Go.Am.bif_f h26)
     refine AW.kp [1, 4, 5, 7] [4, 16, 28, 116] ⟨[(1, .ref 4 1 0), (4, .ref 16 1 0), (5, .bool ((sDistinctRows (toTable aT)).2)), (7, .ref 28 1 0)], [(4, .box 1 [.int .i64 (Tab.Width aT), .data (.slice (.slice (.named 1))) ((Tab.Rows aT) : List (List Val))]), (16, .box 1 [.int .i64 (Tab.Width ((sDistinctRows (toTable aT)).1)), .data (.slice (.slice (.named 1))) ((Tab.Rows ((sDistinctRows (toTable aT)).1)) : List (List Val))]), (28, .box 1 [.int .i64 (Tab.Width ((iDistinctRows (toTable aT)).1)), .tr 116 1]), (116, .tree 1 (.slice (.named 1)) ((Tab.Rows ((iDistinctRows (toTable aT)).1)) : List (List Val)))]⟩ ?_
     refine AW.skip (AW.seq (AW.r1 hC [1, 4, 5, 7, 10] [4, 16, 28, 116] ⟨[(1, .ref 4 1 0), (4, .ref 16 1 0), (5, .bool ((sDistinctRows (toTable aT)).2)), (7, .ref 28 1 0), (10, .int .i64 1)], [(4, .box 1 [.int .i64 (Tab.Width aT), .data (.slice (.slice (.named 1))) ((Tab.Rows aT) : List (List Val))]), (16, .box 1 [.int .i64 (Tab.Width ((sDistinctRows (toTable aT)).1)), .data (.slice (.slice (.named 1))) ((Tab.Rows ((sDistinctRows (toTable aT)).1)) : List (List Val))]), (28, .box 1 [.int .i64 (Tab.Width ((iDistinctRows (toTable aT)).1)), .tr 116 1]), (116, .tree 1 (.slice (.named 1)) ((Tab.Rows ((iDistinctRows (toTable aT)).1)) : List (List Val)))]⟩ ?_))
     refine AW.seq (AW.regionO [0, 1, 2, 3] (by rfl) ?_)
     refine AWO.run hC false [] [0, 1] [2, 3] [1, 4, 5, 7, 62, 63] [4, 16, 28, 116]
      ⟨[(1, .ref 4 1 0), (4, .ref 16 1 0), (5, .bool ((sDistinctRows (toTable aT)).2)), (7, .ref 28 1 0), (62, .agg [.int .i64 (Tab.Width ((iDistinctRows (toTable aT)).1)), .tr 116 1]), (63, .int .i64 1)], [(4, .box 1 [.int .i64 (Tab.Width aT), .data (.slice (.slice (.named 1))) ((Tab.Rows aT) : List (List Val))]), (16, .box 1 [.int .i64 (Tab.Width ((sDistinctRows (toTable aT)).1)), .data (.slice (.slice (.named 1))) ((Tab.Rows ((sDistinctRows (toTable aT)).1)) : List (List Val))]), (28, .box 1 [.int .i64 (Tab.Width ((iDistinctRows (toTable aT)).1)), .tr 116 1]), (116, .tree 1 (.slice (.named 1)) ((Tab.Rows ((iDistinctRows (toTable aT)).1)) : List (List Val)))]⟩
      [] (by rfl) (by kernel_rfl) ?_ ?_
     ·
      exact trivial
     refine AWO.call hC.ty (vs := [.agg [.int .i64 (Tab.Width ((iDistinctRows (toTable aT)).1)), .tr 116 1], .int .i64 1]) (caps := []) (by rfl) rfl (.inl rfl) (by decide) (by kernel_rfl) (by kernel_rfl) Try.func25 (by kernel_rfl) rfl (by kernel_rfl) ?_
     intro o1 ho1
     refine AW.kp [0, 1, 1001, 1004, 1005, 1007] [4, 16, 28, 116] ⟨[(0, .agg [.int .i64 (Tab.Width ((iDistinctRows (toTable aT)).1)), .tr 116 1]), (1, .int .i64 1), (1001, .ref 4 1 0), (1004, .ref 16 1 0), (1005, .bool ((sDistinctRows (toTable aT)).2)), (1007, .ref 28 1 0)], [(4, .box 1 [.int .i64 (Tab.Width aT), .data (.slice (.slice (.named 1))) ((Tab.Rows aT) : List (List Val))]), (16, .box 1 [.int .i64 (Tab.Width ((sDistinctRows (toTable aT)).1)), .data (.slice (.slice (.named 1))) ((Tab.Rows ((sDistinctRows (toTable aT)).1)) : List (List Val))]), (28, .box 1 [.int .i64 (Tab.Width ((iDistinctRows (toTable aT)).1)), .tr 116 1]), (116, .tree 1 (.slice (.named 1)) ((Tab.Rows ((iDistinctRows (toTable aT)).1)) : List (List Val)))]⟩ ?_
     refine AW.seq (AW.r1 hC1 [1, 2, 1001, 1004, 1005, 1007] [4, 16, 28, 116, 4008] ⟨[(1, .int .i64 1), (2, .ref 4008 1 0), (1001, .ref 4 1 0), (1004, .ref 16 1 0), (1005, .bool ((sDistinctRows (toTable aT)).2)), (1007, .ref 28 1 0)], [(4, .box 1 [.int .i64 (Tab.Width aT), .data (.slice (.slice (.named 1))) ((Tab.Rows aT) : List (List Val))]), (16, .box 1 [.int .i64 (Tab.Width ((sDistinctRows (toTable aT)).1)), .data (.slice (.slice (.named 1))) ((Tab.Rows ((sDistinctRows (toTable aT)).1)) : List (List Val))]), (28, .box 1 [.int .i64 (Tab.Width ((iDistinctRows (toTable aT)).1)), .tr 116 1]), (116, .tree 1 (.slice (.named 1)) ((Tab.Rows ((iDistinctRows (toTable aT)).1)) : List (List Val))), (4008, .box 1 [.int .i64 (Tab.Width ((iDistinctRows (toTable aT)).1)), .tr 116 1])]⟩ ?_)
     refine AW.seq (AW.regionO [0, 1, 2, 3, 4] (by rfl) ?_)
     refine AWO.run hC1 false [] [0, 1, 2] [3, 4] [6, 7, 1001, 1004, 1005, 1007] [4, 16, 28, 116]
      ⟨[(6, .tr 116 1), (7, .int .i64 1), (1001, .ref 4 1 0), (1004, .ref 16 1 0), (1005, .bool ((sDistinctRows (toTable aT)).2)), (1007, .ref 28 1 0)], [(4, .box 1 [.int .i64 (Tab.Width aT), .data (.slice (.slice (.named 1))) ((Tab.Rows aT) : List (List Val))]), (16, .box 1 [.int .i64 (Tab.Width ((sDistinctRows (toTable aT)).1)), .data (.slice (.slice (.named 1))) ((Tab.Rows ((sDistinctRows (toTable aT)).1)) : List (List Val))]), (28, .box 1 [.int .i64 (Tab.Width ((iDistinctRows (toTable aT)).1)), .tr 116 1]), (116, .tree 1 (.slice (.named 1)) ((Tab.Rows ((iDistinctRows (toTable aT)).1)) : List (List Val)))]⟩
      [] (by rfl) (by kernel_rfl) ?_ ?_
     ·
      exact trivial
     refine AWO.mark (u := (.slice (.named 1))) (id := 116) (ep := 1) (xs := ((Tab.Rows ((iDistinctRows (toTable aT)).1)) : List (List Val))) (k := 1) markValueSS_ok (by rfl) (by rfl) (by kernel_rfl) (by kernel_rfl) (by kernel_rfl) (by kernel_rfl) ?_ ?_
     ·
      show True
      assumption
     refine AWO.keep [8, 1001, 1004, 1005, 1007] [4, 16, 28, 116] ⟨[(8, .int .i64 (markValueSS (Tab.Rows ((iDistinctRows (toTable aT)).1)) 1).2), (1001, .ref 4 1 0), (1004, .ref 16 1 0), (1005, .bool ((sDistinctRows (toTable aT)).2)), (1007, .ref 28 1 0)], [(4, .box 1 [.int .i64 (Tab.Width aT), .data (.slice (.slice (.named 1))) ((Tab.Rows aT) : List (List Val))]), (16, .box 1 [.int .i64 (Tab.Width ((sDistinctRows (toTable aT)).1)), .data (.slice (.slice (.named 1))) ((Tab.Rows ((sDistinctRows (toTable aT)).1)) : List (List Val))]), (28, .box 1 [.int .i64 (Tab.Width ((iDistinctRows (toTable aT)).1)), .tr 116 1]), (116, .tree 1 (.slice (.named 1)) ((markValueSS (Tab.Rows ((iDistinctRows (toTable aT)).1)) 1).1 : List (List Val)))]⟩ (by kernel_rfl) ?_
     refine AWO.run hC1 false [] [4] [] [1, 1001, 1004, 1005, 1007] [4, 16, 28, 116]
      ⟨[(1, .int .i64 (markValueSS (Tab.Rows ((iDistinctRows (toTable aT)).1)) 1).2), (1001, .ref 4 1 0), (1004, .ref 16 1 0), (1005, .bool ((sDistinctRows (toTable aT)).2)), (1007, .ref 28 1 0)], [(4, .box 1 [.int .i64 (Tab.Width aT), .data (.slice (.slice (.named 1))) ((Tab.Rows aT) : List (List Val))]), (16, .box 1 [.int .i64 (Tab.Width ((sDistinctRows (toTable aT)).1)), .data (.slice (.slice (.named 1))) ((Tab.Rows ((sDistinctRows (toTable aT)).1)) : List (List Val))]), (28, .box 1 [.int .i64 (Tab.Width ((iDistinctRows (toTable aT)).1)), .tr 116 1]), (116, .tree 1 (.slice (.named 1)) ((markValueSS (Tab.Rows ((iDistinctRows (toTable aT)).1)) 1).1 : List (List Val)))]⟩
      [] (by rfl) (by kernel_rfl) ?_ ?_
     ·
      exact trivial
     refine AWO.nil ?_
     refine AW.seq (AW.r1 hC1 [4, 1001, 1004, 1005, 1007] [4, 16, 28, 116] ⟨[(4, .int .i64 (markValueSS (Tab.Rows ((iDistinctRows (toTable aT)).1)) 1).2), (1001, .ref 4 1 0), (1004, .ref 16 1 0), (1005, .bool ((sDistinctRows (toTable aT)).2)), (1007, .ref 28 1 0)], [(4, .box 1 [.int .i64 (Tab.Width aT), .data (.slice (.slice (.named 1))) ((Tab.Rows aT) : List (List Val))]), (16, .box 1 [.int .i64 (Tab.Width ((sDistinctRows (toTable aT)).1)), .data (.slice (.slice (.named 1))) ((Tab.Rows ((sDistinctRows (toTable aT)).1)) : List (List Val))]), (28, .box 1 [.int .i64 (Tab.Width ((iDistinctRows (toTable aT)).1)), .tr 116 1]), (116, .tree 1 (.slice (.named 1)) ((markValueSS (Tab.Rows ((iDistinctRows (toTable aT)).1)) 1).1 : List (List Val)))]⟩ ?_)
     refine AW.ret ?_
     refine ⟨[.int .i64 (markValueSS (Tab.Rows ((iDistinctRows (toTable aT)).1)) 1).2], by kernel_rfl, ?_⟩
     refine AWO.keep [1, 4, 5, 7, 64] [4, 16, 28, 116] ⟨[(1, .ref 4 1 0), (4, .ref 16 1 0), (5, .bool ((sDistinctRows (toTable aT)).2)), (7, .ref 28 1 0), (64, .int .i64 (markValueSS (Tab.Rows ((iDistinctRows (toTable aT)).1)) 1).2)], [(4, .box 1 [.int .i64 (Tab.Width aT), .data (.slice (.slice (.named 1))) ((Tab.Rows aT) : List (List Val))]), (16, .box 1 [.int .i64 (Tab.Width ((sDistinctRows (toTable aT)).1)), .data (.slice (.slice (.named 1))) ((Tab.Rows ((sDistinctRows (toTable aT)).1)) : List (List Val))]), (28, .box 1 [.int .i64 (Tab.Width ((iDistinctRows (toTable aT)).1)), .tr 116 1]), (116, .tree 1 (.slice (.named 1)) ((markValueSS (Tab.Rows ((iDistinctRows (toTable aT)).1)) 1).1 : List (List Val)))]⟩ (by kernel_rfl) ?_
     refine AWO.run hC false [] [3] [] [1, 4, 5, 7, 10] [4, 16, 28, 116]
      ⟨[(1, .ref 4 1 0), (4, .ref 16 1 0), (5, .bool ((sDistinctRows (toTable aT)).2)), (7, .ref 28 1 0), (10, .int .i64 (markValueSS (Tab.Rows ((iDistinctRows (toTable aT)).1)) 1).2)], [(4, .box 1 [.int .i64 (Tab.Width aT), .data (.slice (.slice (.named 1))) ((Tab.Rows aT) : List (List Val))]), (16, .box 1 [.int .i64 (Tab.Width ((sDistinctRows (toTable aT)).1)), .data (.slice (.slice (.named 1))) ((Tab.Rows ((sDistinctRows (toTable aT)).1)) : List (List Val))]), (28, .box 1 [.int .i64 (Tab.Width ((iDistinctRows (toTable aT)).1)), .tr 116 1]), (116, .tree 1 (.slice (.named 1)) ((markValueSS (Tab.Rows ((iDistinctRows (toTable aT)).1)) 1).1 : List (List Val)))]⟩
      [] (by rfl) (by kernel_rfl) ?_ ?_
     ·
      exact trivial
     refine AWO.nil ?_
     refine AW.seq (AW.r1 hC [1, 4, 5, 7, 10, 11] [4, 16, 28, 116] ⟨[(1, .ref 4 1 0), (4, .ref 16 1 0), (5, .bool ((sDistinctRows (toTable aT)).2)), (7, .ref 28 1 0), (10, .int .i64 (markValueSS (Tab.Rows ((iDistinctRows (toTable aT)).1)) 1).2), (11, .int .i64 1)], [(4, .box 1 [.int .i64 (Tab.Width aT), .data (.slice (.slice (.named 1))) ((Tab.Rows aT) : List (List Val))]), (16, .box 1 [.int .i64 (Tab.Width ((sDistinctRows (toTable aT)).1)), .data (.slice (.slice (.named 1))) ((Tab.Rows ((sDistinctRows (toTable aT)).1)) : List (List Val))]), (28, .box 1 [.int .i64 (Tab.Width ((iDistinctRows (toTable aT)).1)), .tr 116 1]), (116, .tree 1 (.slice (.named 1)) ((markValueSS (Tab.Rows ((iDistinctRows (toTable aT)).1)) 1).1 : List (List Val)))]⟩ ?_)
     refine AW.seq (AW.r0 hC [1, 4, 5, 7, 10, 11] [4, 16, 28, 116] ⟨[(1, .ref 4 1 0), (4, .ref 16 1 0), (5, .bool ((sDistinctRows (toTable aT)).2)), (7, .ref 28 1 0), (10, .int .i64 (markValueSS (Tab.Rows ((iDistinctRows (toTable aT)).1)) 1).2), (11, .int .i64 (heldTable (Tab.mk (Tab.Width ((iDistinctRows (toTable aT)).1)) ((markValueSS (Tab.Rows ((iDistinctRows (toTable aT)).1)) 1).1)) 1))], [(4, .box 1 [.int .i64 (Tab.Width aT), .data (.slice (.slice (.named 1))) ((Tab.Rows aT) : List (List Val))]), (16, .box 1 [.int .i64 (Tab.Width ((sDistinctRows (toTable aT)).1)), .data (.slice (.slice (.named 1))) ((Tab.Rows ((sDistinctRows (toTable aT)).1)) : List (List Val))]), (28, .box 1 [.int .i64 (Tab.Width ((iDistinctRows (toTable aT)).1)), .tr 116 1]), (116, .tree 1 (.slice (.named 1)) ((markValueSS (Tab.Rows ((iDistinctRows (toTable aT)).1)) 1).1 : List (List Val)))]⟩ [(True)] ?_ ?_)
     ·
      refine ⟨?_, trivial⟩
      ·
       trivial
     refine AW.seq (AW.seq (AW.r1 hC [1, 4, 5, 7, 10, 11, 69] [4, 16, 28, 116] ⟨[(1, .ref 4 1 0), (4, .ref 16 1 0), (5, .bool ((sDistinctRows (toTable aT)).2)), (7, .ref 28 1 0), (10, .int .i64 (markValueSS (Tab.Rows ((iDistinctRows (toTable aT)).1)) 1).2), (11, .int .i64 (heldTable (Tab.mk (Tab.Width ((iDistinctRows (toTable aT)).1)) ((markValueSS (Tab.Rows ((iDistinctRows (toTable aT)).1)) 1).1)) 1)), (69, .bool (decide ((heldTable (Tab.mk (Tab.Width ((iDistinctRows (toTable aT)).1)) ((markValueSS (Tab.Rows ((iDistinctRows (toTable aT)).1)) 1).1)) 1) < 0)))], [(4, .box 1 [.int .i64 (Tab.Width aT), .data (.slice (.slice (.named 1))) ((Tab.Rows aT) : List (List Val))]), (16, .box 1 [.int .i64 (Tab.Width ((sDistinctRows (toTable aT)).1)), .data (.slice (.slice (.named 1))) ((Tab.Rows ((sDistinctRows (toTable aT)).1)) : List (List Val))]), (28, .box 1 [.int .i64 (Tab.Width ((iDistinctRows (toTable aT)).1)), .tr 116 1]), (116, .tree 1 (.slice (.named 1)) ((markValueSS (Tab.Rows ((iDistinctRows (toTable aT)).1)) 1).1 : List (List Val)))]⟩ ?_))
     refine AW.cd (decide ((heldTable (Tab.mk (Tab.Width ((iDistinctRows (toTable aT)).1)) ((markValueSS (Tab.Rows ((iDistinctRows (toTable aT)).1)) 1).1)) 1) < 0)) ?_ ?_
     ·
      intro h28
      have h28q : (heldTable (Tab.mk (Tab.Width ((iDistinctRows (toTable aT)).1)) ((markValueSS (Tab.Rows ((iDistinctRows (toTable aT)).1)) 1).1)) 1) < 0 := (of_decide_eq_true h28)
      have e29 := e27.trans (Go.Am.bif_t h28)
      refine AW.seq (AW.r1 hC [2] [] ⟨[(2, .bool false)], []⟩ ?_)
      exact AW.ret (AW.retE (β := Bool) (fun v => [⟨.bool, v⟩]) (fun v => []) (v := false) e29 (by kernel_rfl) rfl rfl)
     ·
      intro h30
      have h30q : ¬ ((heldTable (Tab.mk (Tab.Width ((iDistinctRows (toTable aT)).1)) ((markValueSS (Tab.Rows ((iDistinctRows (toTable aT)).1)) 1).1)) 1) < 0) := (of_decide_eq_false h30)
      have e31 := e27.trans (Go.Am.bif_f h30)
      refine AW.kp [1, 4, 5, 7, 10, 11] [4, 16, 28, 116] ⟨[(1, .ref 4 1 0), (4, .ref 16 1 0), (5, .bool ((sDistinctRows (toTable aT)).2)), (7, .ref 28 1 0), (10, .int .i64 (markValueSS (Tab.Rows ((iDistinctRows (toTable aT)).1)) 1).2), (11, .int .i64 (heldTable (Tab.mk (Tab.Width ((iDistinctRows (toTable aT)).1)) ((markValueSS (Tab.Rows ((iDistinctRows (toTable aT)).1)) 1).1)) 1))], [(4, .box 1 [.int .i64 (Tab.Width aT), .data (.slice (.slice (.named 1))) ((Tab.Rows aT) : List (List Val))]), (16, .box 1 [.int .i64 (Tab.Width ((sDistinctRows (toTable aT)).1)), .data (.slice (.slice (.named 1))) ((Tab.Rows ((sDistinctRows (toTable aT)).1)) : List (List Val))]), (28, .box 1 [.int .i64 (Tab.Width ((iDistinctRows (toTable aT)).1)), .tr 116 1]), (116, .tree 1 (.slice (.named 1)) ((markValueSS (Tab.Rows ((iDistinctRows (toTable aT)).1)) 1).1 : List (List Val)))]⟩ ?_
      refine AW.skip (AW.seq (AW.seq (AW.r1 hC [1, 4, 5, 7, 10, 72] [4, 16, 28, 116] ⟨[(1, .ref 4 1 0), (4, .ref 16 1 0), (5, .bool ((sDistinctRows (toTable aT)).2)), (7, .ref 28 1 0), (10, .int .i64 (markValueSS (Tab.Rows ((iDistinctRows (toTable aT)).1)) 1).2), (72, .bool ((heldTable (Tab.mk (Tab.Width ((iDistinctRows (toTable aT)).1)) ((markValueSS (Tab.Rows ((iDistinctRows (toTable aT)).1)) 1).1)) 1) != (markValueSS (Tab.Rows ((iDistinctRows (toTable aT)).1)) 1).2))], [(4, .box 1 [.int .i64 (Tab.Width aT), .data (.slice (.slice (.named 1))) ((Tab.Rows aT) : List (List Val))]), (16, .box 1 [.int .i64 (Tab.Width ((sDistinctRows (toTable aT)).1)), .data (.slice (.slice (.named 1))) ((Tab.Rows ((sDistinctRows (toTable aT)).1)) : List (List Val))]), (28, .box 1 [.int .i64 (Tab.Width ((iDistinctRows (toTable aT)).1)), .tr 116 1]), (116, .tree 1 (.slice (.named 1)) ((markValueSS (Tab.Rows ((iDistinctRows (toTable aT)).1)) 1).1 : List (List Val)))]⟩ ?_)))
      refine AW.cd ((heldTable (Tab.mk (Tab.Width ((iDistinctRows (toTable aT)).1)) ((markValueSS (Tab.Rows ((iDistinctRows (toTable aT)).1)) 1).1)) 1) != (markValueSS (Tab.Rows ((iDistinctRows (toTable aT)).1)) 1).2) ?_ ?_
      ·
       intro h32
       have h32q : (heldTable (Tab.mk (Tab.Width ((iDistinctRows (toTable aT)).1)) ((markValueSS (Tab.Rows ((iDistinctRows (toTable aT)).1)) 1).1)) 1) ≠ (markValueSS (Tab.Rows ((iDistinctRows (toTable aT)).1)) 1).2 := (Go.Am.bne_pos h32)
       have e33 := e31.trans (Go.Am.bif_t h32)
       refine AW.seq (AW.r1 hC [2] [] ⟨[(2, .bool false)], []⟩ ?_)
       exact AW.ret (AW.retE (β := Bool) (fun v => [⟨.bool, v⟩]) (fun v => []) (v := false) e33 (by kernel_rfl) rfl rfl)
      ·
       intro h34
       have h34q : (heldTable (Tab.mk (Tab.Width ((iDistinctRows (toTable aT)).1)) ((markValueSS (Tab.Rows ((iDistinctRows (toTable aT)).1)) 1).1)) 1) = (markValueSS (Tab.Rows ((iDistinctRows (toTable aT)).1)) 1).2 := (Go.Am.bne_neg h34)
       have e35 := e31.trans (Go.Am.bif_f h34)
       refine AW.kp [1, 4, 5, 7, 10] [4, 16, 28, 116] ⟨[(1, .ref 4 1 0), (4, .ref 16 1 0), (5, .bool ((sDistinctRows (toTable aT)).2)), (7, .ref 28 1 0), (10, .int .i64 (markValueSS (Tab.Rows ((iDistinctRows (toTable aT)).1)) 1).2)], [(4, .box 1 [.int .i64 (Tab.Width aT), .data (.slice (.slice (.named 1))) ((Tab.Rows aT) : List (List Val))]), (16, .box 1 [.int .i64 (Tab.Width ((sDistinctRows (toTable aT)).1)), .data (.slice (.slice (.named 1))) ((Tab.Rows ((sDistinctRows (toTable aT)).1)) : List (List Val))]), (28, .box 1 [.int .i64 (Tab.Width ((iDistinctRows (toTable aT)).1)), .tr 116 1]), (116, .tree 1 (.slice (.named 1)) ((markValueSS (Tab.Rows ((iDistinctRows (toTable aT)).1)) 1).1 : List (List Val)))]⟩ ?_
       refine AW.skip (AW.seq (AW.r0 hC [4, 5, 7, 10, 12, 13] [16, 28, 48, 116, 304] ⟨[(4, .ref 16 1 0), (5, .bool ((sDistinctRows (toTable aT)).2)), (7, .ref 28 1 0), (10, .int .i64 (markValueSS (Tab.Rows ((iDistinctRows (toTable aT)).1)) 1).2), (12, .ref 48 1 0), (13, .bool ((iDistinctRows (toTable aT)).2))], [(16, .box 1 [.int .i64 (Tab.Width ((sDistinctRows (toTable aT)).1)), .data (.slice (.slice (.named 1))) ((Tab.Rows ((sDistinctRows (toTable aT)).1)) : List (List Val))]), (28, .box 1 [.int .i64 (Tab.Width ((iDistinctRows (toTable aT)).1)), .tr 116 1]), (48, .box 1 [.int .i64 (Tab.Width ((iDistinctRows (toTable aT)).1)), .tr 304 1]), (116, .tree 1 (.slice (.named 1)) ((markValueSS (Tab.Rows ((iDistinctRows (toTable aT)).1)) 1).1 : List (List Val))), (304, .tree 1 (.slice (.named 1)) ((Tab.Rows ((iDistinctRows (toTable aT)).1)) : List (List Val)))]⟩ [((List.length aT.Rows : Int) ≤ 1048576 ∧ ∀ i : Nat, i < List.length aT.Rows → (List.length (List.getD aT.Rows i []) : Int) ≤ 1048576), (True)] ?_ ?_))
       ·
        refine ⟨?_, ?_, trivial⟩
        ·
         exact szTable_fit (by assumption)
        ·
         trivial
       refine AW.seq (AW.seq (AW.r0 hC [7, 10, 87] [28, 116] ⟨[(7, .ref 28 1 0), (10, .int .i64 (markValueSS (Tab.Rows ((iDistinctRows (toTable aT)).1)) 1).2), (87, .bool (bif (!(eqTable ((iDistinctRows (toTable aT)).1) ((sDistinctRows (toTable aT)).1))) then true else (((iDistinctRows (toTable aT)).2) != ((sDistinctRows (toTable aT)).2))))], [(28, .box 1 [.int .i64 (Tab.Width ((iDistinctRows (toTable aT)).1)), .tr 116 1]), (116, .tree 1 (.slice (.named 1)) ((markValueSS (Tab.Rows ((iDistinctRows (toTable aT)).1)) 1).1 : List (List Val)))]⟩ [(True), (((!(eqTable ((iDistinctRows (toTable aT)).1) ((sDistinctRows (toTable aT)).1))) = false) → (((!(eqTable ((iDistinctRows (toTable aT)).1) ((sDistinctRows (toTable aT)).1))) = false))), (((!(eqTable ((iDistinctRows (toTable aT)).1) ((sDistinctRows (toTable aT)).1))) = false) → (((!(eqTable ((iDistinctRows (toTable aT)).1) ((sDistinctRows (toTable aT)).1))) = false))), (((!(eqTable ((iDistinctRows (toTable aT)).1) ((sDistinctRows (toTable aT)).1))) = false) → (((!(eqTable ((iDistinctRows (toTable aT)).1) ((sDistinctRows (toTable aT)).1))) = false)))] ?_ ?_))
       ·
        refine ⟨?_, ?_, ?_, ?_, trivial⟩
        ·
         trivial
        ·
         intro g36
         have g36p0 : (eqTable ((iDistinctRows (toTable aT)).1) ((sDistinctRows (toTable aT)).1)) = true := (Go.Am.not_neg g36)
         assumption
        ·
         intro g37
         have g37p0 : (eqTable ((iDistinctRows (toTable aT)).1) ((sDistinctRows (toTable aT)).1)) = true := (Go.Am.not_neg g37)
         assumption
        ·
         intro g38
         have g38p0 : (eqTable ((iDistinctRows (toTable aT)).1) ((sDistinctRows (toTable aT)).1)) = true := (Go.Am.not_neg g38)
         assumption
       refine AW.cd (bif (!(eqTable ((iDistinctRows (toTable aT)).1) ((sDistinctRows (toTable aT)).1))) then true else (((iDistinctRows (toTable aT)).2) != ((sDistinctRows (toTable aT)).2))) ?_ ?_
       ·
        intro h39
        have h39q : ((eqTable ((iDistinctRows (toTable aT)).1) ((sDistinctRows (toTable aT)).1)) = false) ∨ ((((iDistinctRows (toTable aT)).2) != ((sDistinctRows (toTable aT)).2)) = true) := (Or.imp (fun h => (Go.Am.not_pos h)) (fun h => h) (Go.Am.or_pos h39))
        have e40 := e35.trans (Go.Am.bif_t h39)
        refine AW.seq (AW.r1 hC [2] [] ⟨[(2, .bool false)], []⟩ ?_)
        exact AW.ret (AW.retE (β := Bool) (fun v => [⟨.bool, v⟩]) (fun v => []) (v := false) e40 (by kernel_rfl) rfl rfl)
       ·
        intro h41
        have h41q : ((eqTable ((iDistinctRows (toTable aT)).1) ((sDistinctRows (toTable aT)).1)) = true) ∧ ((((iDistinctRows (toTable aT)).2) != ((sDistinctRows (toTable aT)).2)) = false) := (And.imp (fun h => (Go.Am.not_neg h)) (fun h => h) (Go.Am.or_neg h41))
        have e42 := e35.trans (Go.Am.bif_f h41)
        refine AW.kp [7, 10] [28, 116] ⟨[(7, .ref 28 1 0), (10, .int .i64 (markValueSS (Tab.Rows ((iDistinctRows (toTable aT)).1)) 1).2)], [(28, .box 1 [.int .i64 (Tab.Width ((iDistinctRows (toTable aT)).1)), .tr 116 1]), (116, .tree 1 (.slice (.named 1)) ((markValueSS (Tab.Rows ((iDistinctRows (toTable aT)).1)) 1).1 : List (List Val)))]⟩ ?_
        refine AW.skip (AW.seq (AW.r1 hC [7, 10, 11] [28, 116] ⟨[(7, .ref 28 1 0), (10, .int .i64 (markValueSS (Tab.Rows ((iDistinctRows (toTable aT)).1)) 1).2), (11, .int .i64 1)], [(28, .box 1 [.int .i64 (Tab.Width ((iDistinctRows (toTable aT)).1)), .tr 116 1]), (116, .tree 1 (.slice (.named 1)) ((markValueSS (Tab.Rows ((iDistinctRows (toTable aT)).1)) 1).1 : List (List Val)))]⟩ ?_))
        refine AW.seq (AW.r0 hC [10, 11] [] ⟨[(10, .int .i64 (markValueSS (Tab.Rows ((iDistinctRows (toTable aT)).1)) 1).2), (11, .int .i64 (heldTable (Tab.mk (Tab.Width ((iDistinctRows (toTable aT)).1)) ((markValueSS (Tab.Rows ((iDistinctRows (toTable aT)).1)) 1).1)) 1))], []⟩ [(True)] ?_ ?_)
        ·
         refine ⟨?_, trivial⟩
         ·
          trivial
        refine AW.seq (AW.seq (AW.r1 hC [10, 11, 92] [] ⟨[(10, .int .i64 (markValueSS (Tab.Rows ((iDistinctRows (toTable aT)).1)) 1).2), (11, .int .i64 (heldTable (Tab.mk (Tab.Width ((iDistinctRows (toTable aT)).1)) ((markValueSS (Tab.Rows ((iDistinctRows (toTable aT)).1)) 1).1)) 1)), (92, .bool (decide ((heldTable (Tab.mk (Tab.Width ((iDistinctRows (toTable aT)).1)) ((markValueSS (Tab.Rows ((iDistinctRows (toTable aT)).1)) 1).1)) 1) < 0)))], []⟩ ?_))
        refine AW.cd (decide ((heldTable (Tab.mk (Tab.Width ((iDistinctRows (toTable aT)).1)) ((markValueSS (Tab.Rows ((iDistinctRows (toTable aT)).1)) 1).1)) 1) < 0)) ?_ ?_
        ·
         intro h43
         have h43q : (heldTable (Tab.mk (Tab.Width ((iDistinctRows (toTable aT)).1)) ((markValueSS (Tab.Rows ((iDistinctRows (toTable aT)).1)) 1).1)) 1) < 0 := (of_decide_eq_true h43)
         have e44 := e42.trans (Go.Am.bif_t h43)
         refine AW.seq (AW.r1 hC [2] [] ⟨[(2, .bool false)], []⟩ ?_)
         exact AW.ret (AW.retE (β := Bool) (fun v => [⟨.bool, v⟩]) (fun v => []) (v := false) e44 (by kernel_rfl) rfl rfl)
        ·
         intro h45
         have h45q : ¬ ((heldTable (Tab.mk (Tab.Width ((iDistinctRows (toTable aT)).1)) ((markValueSS (Tab.Rows ((iDistinctRows (toTable aT)).1)) 1).1)) 1) < 0) := (of_decide_eq_false h45)
         have e46 := e42.trans (Go.Am.bif_f h45)
         refine AW.kp [10, 11] [] ⟨[(10, .int .i64 (markValueSS (Tab.Rows ((iDistinctRows (toTable aT)).1)) 1).2), (11, .int .i64 (heldTable (Tab.mk (Tab.Width ((iDistinctRows (toTable aT)).1)) ((markValueSS (Tab.Rows ((iDistinctRows (toTable aT)).1)) 1).1)) 1))], []⟩ ?_
         refine AW.skip (AW.seq (AW.seq (AW.r1 hC [95] [] ⟨[(95, .bool ((heldTable (Tab.mk (Tab.Width ((iDistinctRows (toTable aT)).1)) ((markValueSS (Tab.Rows ((iDistinctRows (toTable aT)).1)) 1).1)) 1) != (markValueSS (Tab.Rows ((iDistinctRows (toTable aT)).1)) 1).2))], []⟩ ?_)))
         refine AW.cd ((heldTable (Tab.mk (Tab.Width ((iDistinctRows (toTable aT)).1)) ((markValueSS (Tab.Rows ((iDistinctRows (toTable aT)).1)) 1).1)) 1) != (markValueSS (Tab.Rows ((iDistinctRows (toTable aT)).1)) 1).2) ?_ ?_
         ·
          intro h47
          have h47q : (heldTable (Tab.mk (Tab.Width ((iDistinctRows (toTable aT)).1)) ((markValueSS (Tab.Rows ((iDistinctRows (toTable aT)).1)) 1).1)) 1) ≠ (markValueSS (Tab.Rows ((iDistinctRows (toTable aT)).1)) 1).2 := (Go.Am.bne_pos h47)
          have e48 := e46.trans (Go.Am.bif_t h47)
          refine AW.seq (AW.r1 hC [2] [] ⟨[(2, .bool false)], []⟩ ?_)
          exact AW.ret (AW.retE (β := Bool) (fun v => [⟨.bool, v⟩]) (fun v => []) (v := false) e48 (by kernel_rfl) rfl rfl)
         ·
          intro h49
          have h49q : (heldTable (Tab.mk (Tab.Width ((iDistinctRows (toTable aT)).1)) ((markValueSS (Tab.Rows ((iDistinctRows (toTable aT)).1)) 1).1)) 1) = (markValueSS (Tab.Rows ((iDistinctRows (toTable aT)).1)) 1).2 := (Go.Am.bne_neg h49)
          have e50 := e46.trans (Go.Am.bif_f h49)
          refine AW.kp [] [] ⟨[], []⟩ ?_
          refine AW.skip (AW.seq (AW.r1 hC [2] [] ⟨[(2, .bool true)], []⟩ ?_))
          exact AW.ret (AW.retE (β := Bool) (fun v => [⟨.bool, v⟩]) (fun v => []) (v := true) e50 (by kernel_rfl) rfl rfl)

theorem dist_small (t : Tab) : (iDistinctRows t).1.Rows.length ≤ 400 ∧ ∀ x ∈ (iDistinctRows t).1.Rows, x.length ≤ 6 := by
 by_cases h : VT t
 ·
  rw [iDistinctRows_yes h]
  refine ⟨?_, fun x hx => ?_⟩
  ·
   have := (diffRows_sublist t.Rows).length_le
   have := h.n4
   show (diffRows t.Rows).length ≤ 400
   omega
  ·
   exact (h.rowsOK.len ((diffRows_sublist t.Rows).subset hx)).2
 ·
  rw [iDistinctRows_no h]
  exact ⟨Nat.zero_le _, fun x hx => by cases hx⟩

theorem FnExactDistinctRows_law (t : Tab) : FnExactDistinctRows t = true := by
 unfold FnExactDistinctRows
 by_cases hz : szTable t 1048576 < 0
 ·
  rw [decide_eq_true hz]; rfl
 ·
  have hm := (toTable_fit (szTable_fit hz)).1
  obtain ⟨h1, h2⟩ := heldTable_cnt _ (tab_cnt (dist_small (toTable t)))
  rw [decide_eq_false hz, ← distinct_same, eqTable_refl, eqTable_refl, decide_eq_false hm, h1, decide_eq_false (by omega : ¬ (markValueSS (iDistinctRows (toTable t)).1.Rows 1).2 < 0)]
  simp

end
end Go.Proofs.Ytjcjpeckfikfkaa
