/-
  A part of the proof of this claim (AwTA): what functions of the program compute, and plain facts of that. No conditions.
-/
import Derived.Test.YtjcjpeckfikfkaaAwT7
import Derived.Test.YtjcjpeckfikfkaaAwT6
import Derived.Test.YtjcjpeckfikfkaaAwV
set_option linter.all false
namespace Go.Proofs.Ytjcjpeckfikfkaa
open Go Go.Am
noncomputable section

def FnExactUnionAll (aA : Tab) (aB : Tab) : Bool := (bif (decide ((szTable aA 1048576) < 0)) then true else (bif (decide ((szTable aB (szTable aA 1048576)) < 0)) then true else (bif (bif (!(eqTable ((iUnionAll (toTable aA) (toTable aB)).1) ((sUnionAll (toTable aA) (toTable aB)).1))) then true else (((iUnionAll (toTable aA) (toTable aB)).2) != ((sUnionAll (toTable aA) (toTable aB)).2))) then false else (bif (!(eqTable (toTable aA) (toTable aA))) then false else (bif (!(eqTable (toTable aB) (toTable aB))) then false else (bif (bif (bif (decide ((markValueSS (Tab.Rows (toTable aB)) ((markValueSS (Tab.Rows (toTable aA)) 1).2)).2 < 0)) then true else (!(eqTable ((iUnionAll (toTable aA) (toTable aB)).1) ((sUnionAll (toTable aA) (toTable aB)).1)))) then true else (((iUnionAll (toTable aA) (toTable aB)).2) != ((sUnionAll (toTable aA) (toTable aB)).2))) then false else (bif (decide ((heldTable (Tab.mk (Tab.Width ((iUnionAll (toTable aA) (toTable aB)).1)) ((markValueSS (Tab.Rows ((iUnionAll (toTable aA) (toTable aB)).1)) 1).1)) 1) < 0)) then false else (bif ((heldTable (Tab.mk (Tab.Width ((iUnionAll (toTable aA) (toTable aB)).1)) ((markValueSS (Tab.Rows ((iUnionAll (toTable aA) (toTable aB)).1)) 1).1)) 1) != (markValueSS (Tab.Rows ((iUnionAll (toTable aA) (toTable aB)).1)) 1).2) then false else (bif (bif (!(eqTable ((iUnionAll (toTable aA) (toTable aB)).1) ((sUnionAll (toTable aA) (toTable aB)).1))) then true else (((iUnionAll (toTable aA) (toTable aB)).2) != ((sUnionAll (toTable aA) (toTable aB)).2))) then false else (bif (decide ((heldTable (Tab.mk (Tab.Width ((iUnionAll (toTable aA) (toTable aB)).1)) ((markValueSS (Tab.Rows ((iUnionAll (toTable aA) (toTable aB)).1)) 1).1)) 1) < 0)) then false else (bif ((heldTable (Tab.mk (Tab.Width ((iUnionAll (toTable aA) (toTable aB)).1)) ((markValueSS (Tab.Rows ((iUnionAll (toTable aA) (toTable aB)).1)) 1).1)) 1) != (markValueSS (Tab.Rows ((iUnionAll (toTable aA) (toTable aB)).1)) 1).2) then false else true)))))))))))

def FnExactUnionAll_sp : FnSpec := mkSpec [.val (.named 2), .val (.named 2)] [.val .bool] (fun (aA : Tab) (aB : Tab) => True) (fun (aA : Tab) (aB : Tab) => [⟨.bool, (FnExactUnionAll aA aB)⟩])

theorem FnExactUnionAll_ok : FnOK Try.prog 9 FnExactUnionAll_sp := by
 have hC : CtxOK Try.prog (mkCtx tyL [(22, eqTable_sp), (26, heldTable_sp), (34, szTable_sp), (35, toTable_sp), (37, iUnionAllO_sp), (38, sUnionAll_sp)]) := CtxOK.cons eqTable_ok (CtxOK.cons heldTable_ok (CtxOK.cons szTable_ok (CtxOK.cons toTable_ok (CtxOK.cons iUnionAllO_ok (CtxOK.cons sUnionAll_ok (CtxOK.nil tyOK))))))
 have hM : Try.prog.follows .mixedOrders = true := Try.checked.mixed
 have hC1 := hC.rebase 1000
 refine FnOK.of_body Try.func9 (by kernel_rfl) rfl (C := (mkCtx tyL [(22, eqTable_sp), (26, heldTable_sp), (34, szTable_sp), (35, toTable_sp), (37, iUnionAllO_sp), (38, sUnionAll_sp)])) hC.ty (by kernel_rfl) ?_
 intro (aA : Tab) (aB : Tab) hwf hpre E
 have hpre : True := hpre
 have hw_aA : Wf ⟨(.named 2), (aA : Tab)⟩ := hwf _ (List.Mem.head _)
 have hr_aA_Width : -9223372036854775808 ≤ Tab.Width aA ∧ Tab.Width aA ≤ 9223372036854775807 := (hw_aA.field (tv := ⟨(.int .i64), Tab.Width aA⟩) (List.Mem.head _)).int_inv
 have hl_aA_Rows : ((List.length (Tab.Rows aA) : Nat) : Int) ≤ 9223372036854775807 := (hw_aA.field (tv := ⟨(.slice (.slice (.named 1))), Tab.Rows aA⟩) (List.Mem.tail _ (List.Mem.head _))).len
 have hw_aB : Wf ⟨(.named 2), (aB : Tab)⟩ := hwf _ (List.Mem.tail _ (List.Mem.head _))
 have hr_aB_Width : -9223372036854775808 ≤ Tab.Width aB ∧ Tab.Width aB ≤ 9223372036854775807 := (hw_aB.field (tv := ⟨(.int .i64), Tab.Width aB⟩) (List.Mem.head _)).int_inv
 have hl_aB_Rows : ((List.length (Tab.Rows aB) : Nat) : Int) ≤ 9223372036854775807 := (hw_aB.field (tv := ⟨(.slice (.slice (.named 1))), Tab.Rows aB⟩) (List.Mem.tail _ (List.Mem.head _))).len
 have e0 : FnExactUnionAll aA aB = FnExactUnionAll aA aB := rfl
 refine AW.seq (AW.r1 hC [2, 3] [8, 12] ⟨[(2, .ref 8 1 0), (3, .ref 12 1 0)], [(8, .box 1 [.int .i64 (Tab.Width aA), .data (.slice (.slice (.named 1))) ((Tab.Rows aA) : List (List Val))]), (12, .box 1 [.int .i64 (Tab.Width aB), .data (.slice (.slice (.named 1))) ((Tab.Rows aB) : List (List Val))])]⟩ ?_)
 refine AW.seq (AW.r1 hC [2, 3, 5] [8, 12] ⟨[(2, .ref 8 1 0), (3, .ref 12 1 0), (5, .int .i64 1048576)], [(8, .box 1 [.int .i64 (Tab.Width aA), .data (.slice (.slice (.named 1))) ((Tab.Rows aA) : List (List Val))]), (12, .box 1 [.int .i64 (Tab.Width aB), .data (.slice (.slice (.named 1))) ((Tab.Rows aB) : List (List Val))])]⟩ ?_)
 refine AW.seq (AW.r0 hC [2, 3, 5] [8, 12] ⟨[(2, .ref 8 1 0), (3, .ref 12 1 0), (5, .int .i64 (szTable aA 1048576))], [(8, .box 1 [.int .i64 (Tab.Width aA), .data (.slice (.slice (.named 1))) ((Tab.Rows aA) : List (List Val))]), (12, .box 1 [.int .i64 (Tab.Width aB), .data (.slice (.slice (.named 1))) ((Tab.Rows aB) : List (List Val))])]⟩ [(0 ≤ (1048576 : Int))] ?_ ?_)
 ·
  refine ⟨?_, trivial⟩
  ·
   omega
 refine AW.seq (AW.seq (AW.r1 hC [2, 3, 5, 21] [8, 12] ⟨[(2, .ref 8 1 0), (3, .ref 12 1 0), (5, .int .i64 (szTable aA 1048576)), (21, .bool (decide ((szTable aA 1048576) < 0)))], [(8, .box 1 [.int .i64 (Tab.Width aA), .data (.slice (.slice (.named 1))) ((Tab.Rows aA) : List (List Val))]), (12, .box 1 [.int .i64 (Tab.Width aB), .data (.slice (.slice (.named 1))) ((Tab.Rows aB) : List (List Val))])]⟩ ?_))
 refine AW.cd (decide ((szTable aA 1048576) < 0)) ?_ ?_
 ·
  intro h1
  have h1q : (szTable aA 1048576) < 0 := (of_decide_eq_true h1)
  have e2 := e0.trans (Go.Am.bif_t h1)
  refine AW.seq (AW.r1 hC [4] [] ⟨[(4, .bool true)], []⟩ ?_)
  exact AW.ret (AW.retE (β := Bool) (fun v => [⟨.bool, v⟩]) (fun v => []) (v := true) e2 (by kernel_rfl) rfl rfl)
 ·
  intro h3
  have h3q : ¬ ((szTable aA 1048576) < 0) := (of_decide_eq_false h3)
  have e4 := e0.trans (Go.Am.bif_f h3)
  refine AW.kp [2, 3, 5] [8, 12] ⟨[(2, .ref 8 1 0), (3, .ref 12 1 0), (5, .int .i64 (szTable aA 1048576))], [(8, .box 1 [.int .i64 (Tab.Width aA), .data (.slice (.slice (.named 1))) ((Tab.Rows aA) : List (List Val))]), (12, .box 1 [.int .i64 (Tab.Width aB), .data (.slice (.slice (.named 1))) ((Tab.Rows aB) : List (List Val))])]⟩ ?_
  refine AW.skip (AW.seq (AW.r0 hC [2, 3, 5] [8, 12] ⟨[(2, .ref 8 1 0), (3, .ref 12 1 0), (5, .int .i64 (szTable aB (szTable aA 1048576)))], [(8, .box 1 [.int .i64 (Tab.Width aA), .data (.slice (.slice (.named 1))) ((Tab.Rows aA) : List (List Val))]), (12, .box 1 [.int .i64 (Tab.Width aB), .data (.slice (.slice (.named 1))) ((Tab.Rows aB) : List (List Val))])]⟩ [(0 ≤ (szTable aA 1048576))] ?_ ?_))
  ·
   refine ⟨?_, trivial⟩
   ·
    omega
  refine AW.seq (AW.seq (AW.r1 hC [2, 3, 26] [8, 12] ⟨[(2, .ref 8 1 0), (3, .ref 12 1 0), (26, .bool (decide ((szTable aB (szTable aA 1048576)) < 0)))], [(8, .box 1 [.int .i64 (Tab.Width aA), .data (.slice (.slice (.named 1))) ((Tab.Rows aA) : List (List Val))]), (12, .box 1 [.int .i64 (Tab.Width aB), .data (.slice (.slice (.named 1))) ((Tab.Rows aB) : List (List Val))])]⟩ ?_))
  refine AW.cd (decide ((szTable aB (szTable aA 1048576)) < 0)) ?_ ?_
  ·
   intro h5
   have h5q : (szTable aB (szTable aA 1048576)) < 0 := (of_decide_eq_true h5)
   have e6 := e4.trans (Go.Am.bif_t h5)
   refine AW.seq (AW.r1 hC [4] [] ⟨[(4, .bool true)], []⟩ ?_)
   exact AW.ret (AW.retE (β := Bool) (fun v => [⟨.bool, v⟩]) (fun v => []) (v := true) e6 (by kernel_rfl) rfl rfl)
  ·
   intro h7
   have h7q : ¬ ((szTable aB (szTable aA 1048576)) < 0) := (of_decide_eq_false h7)
   have e8 := e4.trans (Go.Am.bif_f h7)
   refine AW.kp [2, 3] [8, 12] ⟨[(2, .ref 8 1 0), (3, .ref 12 1 0)], [(8, .box 1 [.int .i64 (Tab.Width aA), .data (.slice (.slice (.named 1))) ((Tab.Rows aA) : List (List Val))]), (12, .box 1 [.int .i64 (Tab.Width aB), .data (.slice (.slice (.named 1))) ((Tab.Rows aB) : List (List Val))])]⟩ ?_
   refine AW.skip (AW.seq (AW.d0 hC hM [2, 3, 6, 7] [8, 12, 24] ⟨[(2, .ref 8 1 0), (3, .ref 12 1 0), (6, .ref 24 1 0), (7, .bool ((sUnionAll (toTable aA) (toTable aB)).2))], [(8, .box 1 [.int .i64 (Tab.Width aA), .data (.slice (.slice (.named 1))) ((Tab.Rows aA) : List (List Val))]), (12, .box 1 [.int .i64 (Tab.Width aB), .data (.slice (.slice (.named 1))) ((Tab.Rows aB) : List (List Val))]), (24, .box 1 [.int .i64 (Tab.Width ((sUnionAll (toTable aA) (toTable aB)).1)), .data (.slice (.slice (.named 1))) ((Tab.Rows ((sUnionAll (toTable aA) (toTable aB)).1)) : List (List Val))])]⟩ [((List.length aA.Rows : Int) ≤ 1048576 ∧ ∀ i : Nat, i < List.length aA.Rows → (List.length (List.getD aA.Rows i []) : Int) ≤ 1048576), ((List.length aB.Rows : Int) ≤ 1048576 ∧ ∀ i : Nat, i < List.length aB.Rows → (List.length (List.getD aB.Rows i []) : Int) ≤ 1048576), (True)] ?_ ?_))
   ·
    refine ⟨?_, ?_, ?_, trivial⟩
    ·
     exact szTable_fit (by assumption)
    ·
     exact szTable_fit2 (a := aA) (by assumption) (by assumption)
    ·
     trivial
   refine AW.seq (AW.r0 hC [2, 3, 6, 7, 8] [8, 12, 24, 32, 144] ⟨[(2, .ref 8 1 0), (3, .ref 12 1 0), (6, .ref 24 1 0), (7, .bool ((sUnionAll (toTable aA) (toTable aB)).2)), (8, .ref 32 1 0)], [(8, .box 1 [.int .i64 (Tab.Width aA), .data (.slice (.slice (.named 1))) ((Tab.Rows aA) : List (List Val))]), (12, .box 1 [.int .i64 (Tab.Width aB), .data (.slice (.slice (.named 1))) ((Tab.Rows aB) : List (List Val))]), (24, .box 1 [.int .i64 (Tab.Width ((sUnionAll (toTable aA) (toTable aB)).1)), .data (.slice (.slice (.named 1))) ((Tab.Rows ((sUnionAll (toTable aA) (toTable aB)).1)) : List (List Val))]), (32, .box 1 [.int .i64 (Tab.Width (toTable aA)), .tr 144 1]), (144, .tree 1 (.slice (.named 1)) ((Tab.Rows (toTable aA)) : List (List Val)))]⟩ [((List.length aA.Rows : Int) ≤ 1048576 ∧ ∀ i : Nat, i < List.length aA.Rows → (List.length (List.getD aA.Rows i []) : Int) ≤ 1048576)] ?_ ?_)
   ·
    refine ⟨?_, trivial⟩
    ·
     exact szTable_fit (by assumption)
   refine AW.seq (AW.r0 hC [2, 3, 6, 7, 8, 9] [8, 12, 24, 32, 36, 144, 152] ⟨[(2, .ref 8 1 0), (3, .ref 12 1 0), (6, .ref 24 1 0), (7, .bool ((sUnionAll (toTable aA) (toTable aB)).2)), (8, .ref 32 1 0), (9, .ref 36 1 0)], [(8, .box 1 [.int .i64 (Tab.Width aA), .data (.slice (.slice (.named 1))) ((Tab.Rows aA) : List (List Val))]), (12, .box 1 [.int .i64 (Tab.Width aB), .data (.slice (.slice (.named 1))) ((Tab.Rows aB) : List (List Val))]), (24, .box 1 [.int .i64 (Tab.Width ((sUnionAll (toTable aA) (toTable aB)).1)), .data (.slice (.slice (.named 1))) ((Tab.Rows ((sUnionAll (toTable aA) (toTable aB)).1)) : List (List Val))]), (32, .box 1 [.int .i64 (Tab.Width (toTable aA)), .tr 144 1]), (36, .box 1 [.int .i64 (Tab.Width (toTable aB)), .tr 152 1]), (144, .tree 1 (.slice (.named 1)) ((Tab.Rows (toTable aA)) : List (List Val))), (152, .tree 1 (.slice (.named 1)) ((Tab.Rows (toTable aB)) : List (List Val)))]⟩ [((List.length aB.Rows : Int) ≤ 1048576 ∧ ∀ i : Nat, i < List.length aB.Rows → (List.length (List.getD aB.Rows i []) : Int) ≤ 1048576)] ?_ ?_)
   ·
    refine ⟨?_, trivial⟩
    ·
     exact szTable_fit2 (a := aA) (by assumption) (by assumption)
   refine AW.seq (AW.r0 hC [2, 3, 6, 7, 8, 9, 10, 11] [8, 12, 24, 32, 36, 40, 144, 152, 168] ⟨[(2, .ref 8 1 0), (3, .ref 12 1 0), (6, .ref 24 1 0), (7, .bool ((sUnionAll (toTable aA) (toTable aB)).2)), (8, .ref 32 1 0), (9, .ref 36 1 0), (10, .ref 40 1 0), (11, .bool ((iUnionAll (toTable aA) (toTable aB)).2))], [(8, .box 1 [.int .i64 (Tab.Width aA), .data (.slice (.slice (.named 1))) ((Tab.Rows aA) : List (List Val))]), (12, .box 1 [.int .i64 (Tab.Width aB), .data (.slice (.slice (.named 1))) ((Tab.Rows aB) : List (List Val))]), (24, .box 1 [.int .i64 (Tab.Width ((sUnionAll (toTable aA) (toTable aB)).1)), .data (.slice (.slice (.named 1))) ((Tab.Rows ((sUnionAll (toTable aA) (toTable aB)).1)) : List (List Val))]), (32, .box 1 [.int .i64 (Tab.Width (toTable aA)), .tr 144 1]), (36, .box 1 [.int .i64 (Tab.Width (toTable aB)), .tr 152 1]), (40, .box 1 [.int .i64 (Tab.Width ((iUnionAll (toTable aA) (toTable aB)).1)), .tr 168 1]), (144, .tree 1 (.slice (.named 1)) ((Tab.Rows (toTable aA)) : List (List Val))), (152, .tree 1 (.slice (.named 1)) ((Tab.Rows (toTable aB)) : List (List Val))), (168, .tree 1 (.slice (.named 1)) ((Tab.Rows ((iUnionAll (toTable aA) (toTable aB)).1)) : List (List Val)))]⟩ [(True)] ?_ ?_)
   ·
    refine ⟨?_, trivial⟩
    ·
     trivial
   refine AW.seq (AW.seq (AW.r0 hC [2, 3, 6, 7, 8, 9, 10, 11, 53] [8, 12, 24, 32, 36, 40, 144, 152, 168] ⟨[(2, .ref 8 1 0), (3, .ref 12 1 0), (6, .ref 24 1 0), (7, .bool ((sUnionAll (toTable aA) (toTable aB)).2)), (8, .ref 32 1 0), (9, .ref 36 1 0), (10, .ref 40 1 0), (11, .bool ((iUnionAll (toTable aA) (toTable aB)).2)), (53, .bool (bif (!(eqTable ((iUnionAll (toTable aA) (toTable aB)).1) ((sUnionAll (toTable aA) (toTable aB)).1))) then true else (((iUnionAll (toTable aA) (toTable aB)).2) != ((sUnionAll (toTable aA) (toTable aB)).2))))], [(8, .box 1 [.int .i64 (Tab.Width aA), .data (.slice (.slice (.named 1))) ((Tab.Rows aA) : List (List Val))]), (12, .box 1 [.int .i64 (Tab.Width aB), .data (.slice (.slice (.named 1))) ((Tab.Rows aB) : List (List Val))]), (24, .box 1 [.int .i64 (Tab.Width ((sUnionAll (toTable aA) (toTable aB)).1)), .data (.slice (.slice (.named 1))) ((Tab.Rows ((sUnionAll (toTable aA) (toTable aB)).1)) : List (List Val))]), (32, .box 1 [.int .i64 (Tab.Width (toTable aA)), .tr 144 1]), (36, .box 1 [.int .i64 (Tab.Width (toTable aB)), .tr 152 1]), (40, .box 1 [.int .i64 (Tab.Width ((iUnionAll (toTable aA) (toTable aB)).1)), .tr 168 1]), (144, .tree 1 (.slice (.named 1)) ((Tab.Rows (toTable aA)) : List (List Val))), (152, .tree 1 (.slice (.named 1)) ((Tab.Rows (toTable aB)) : List (List Val))), (168, .tree 1 (.slice (.named 1)) ((Tab.Rows ((iUnionAll (toTable aA) (toTable aB)).1)) : List (List Val)))]⟩ [(True), (((!(eqTable ((iUnionAll (toTable aA) (toTable aB)).1) ((sUnionAll (toTable aA) (toTable aB)).1))) = false) → (((!(eqTable ((iUnionAll (toTable aA) (toTable aB)).1) ((sUnionAll (toTable aA) (toTable aB)).1))) = false))), (((!(eqTable ((iUnionAll (toTable aA) (toTable aB)).1) ((sUnionAll (toTable aA) (toTable aB)).1))) = false) → (((!(eqTable ((iUnionAll (toTable aA) (toTable aB)).1) ((sUnionAll (toTable aA) (toTable aB)).1))) = false))), (((!(eqTable ((iUnionAll (toTable aA) (toTable aB)).1) ((sUnionAll (toTable aA) (toTable aB)).1))) = false) → (((!(eqTable ((iUnionAll (toTable aA) (toTable aB)).1) ((sUnionAll (toTable aA) (toTable aB)).1))) = false)))] ?_ ?_))
   ·
    refine ⟨?_, ?_, ?_, ?_, trivial⟩
    ·
     trivial
    ·
     intro g9
     have g9p0 : (eqTable ((iUnionAll (toTable aA) (toTable aB)).1) ((sUnionAll (toTable aA) (toTable aB)).1)) = true := (Go.Am.not_neg g9)
     assumption
    ·
     intro g10
     have g10p0 : (eqTable ((iUnionAll (toTable aA) (toTable aB)).1) ((sUnionAll (toTable aA) (toTable aB)).1)) = true := (Go.Am.not_neg g10)
     assumption
    ·
     intro g11
     have g11p0 : (eqTable ((iUnionAll (toTable aA) (toTable aB)).1) ((sUnionAll (toTable aA) (toTable aB)).1)) = true := (Go.Am.not_neg g11)
     assumption
   refine AW.cd (bif (!(eqTable ((iUnionAll (toTable aA) (toTable aB)).1) ((sUnionAll (toTable aA) (toTable aB)).1))) then true else (((iUnionAll (toTable aA) (toTable aB)).2) != ((sUnionAll (toTable aA) (toTable aB)).2))) ?_ ?_
   ·
    intro h12
    have h12q : ((eqTable ((iUnionAll (toTable aA) (toTable aB)).1) ((sUnionAll (toTable aA) (toTable aB)).1)) = false) ∨ ((((iUnionAll (toTable aA) (toTable aB)).2) != ((sUnionAll (toTable aA) (toTable aB)).2)) = true) := (Or.imp (fun h => (Go.Am.not_pos h)) (fun h => h) (Go.Am.or_pos h12))
    have e13 := e8.trans (Go.Am.bif_t h12)
    refine AW.seq (AW.r1 hC [4] [] ⟨[(4, .bool false)], []⟩ ?_)
    exact AW.ret (AW.retE (β := Bool) (fun v => [⟨.bool, v⟩]) (fun v => []) (v := false) e13 (by kernel_rfl) rfl rfl)
   ·
    intro h14
    have h14q : ((eqTable ((iUnionAll (toTable aA) (toTable aB)).1) ((sUnionAll (toTable aA) (toTable aB)).1)) = true) ∧ ((((iUnionAll (toTable aA) (toTable aB)).2) != ((sUnionAll (toTable aA) (toTable aB)).2)) = false) := (And.imp (fun h => (Go.Am.not_neg h)) (fun h => h) (Go.Am.or_neg h14))
    have e15 := e8.trans (Go.Am.bif_f h14)
    refine AW.kp [2, 3, 6, 7, 8, 9, 10, 11] [8, 12, 24, 32, 36, 40, 144, 152, 168] ⟨[(2, .ref 8 1 0), (3, .ref 12 1 0), (6, .ref 24 1 0), (7, .bool ((sUnionAll (toTable aA) (toTable aB)).2)), (8, .ref 32 1 0), (9, .ref 36 1 0), (10, .ref 40 1 0), (11, .bool ((iUnionAll (toTable aA) (toTable aB)).2))], [(8, .box 1 [.int .i64 (Tab.Width aA), .data (.slice (.slice (.named 1))) ((Tab.Rows aA) : List (List Val))]), (12, .box 1 [.int .i64 (Tab.Width aB), .data (.slice (.slice (.named 1))) ((Tab.Rows aB) : List (List Val))]), (24, .box 1 [.int .i64 (Tab.Width ((sUnionAll (toTable aA) (toTable aB)).1)), .data (.slice (.slice (.named 1))) ((Tab.Rows ((sUnionAll (toTable aA) (toTable aB)).1)) : List (List Val))]), (32, .box 1 [.int .i64 (Tab.Width (toTable aA)), .tr 144 1]), (36, .box 1 [.int .i64 (Tab.Width (toTable aB)), .tr 152 1]), (40, .box 1 [.int .i64 (Tab.Width ((iUnionAll (toTable aA) (toTable aB)).1)), .tr 168 1]), (144, .tree 1 (.slice (.named 1)) ((Tab.Rows (toTable aA)) : List (List Val))), (152, .tree 1 (.slice (.named 1)) ((Tab.Rows (toTable aB)) : List (List Val))), (168, .tree 1 (.slice (.named 1)) ((Tab.Rows ((iUnionAll (toTable aA) (toTable aB)).1)) : List (List Val)))]⟩ ?_
    refine AW.skip (AW.seq (AW.seq (AW.d0 hC hM [2, 3, 6, 7, 8, 9, 10, 11, 58] [8, 12, 24, 32, 36, 40, 144, 152, 168] ⟨[(2, .ref 8 1 0), (3, .ref 12 1 0), (6, .ref 24 1 0), (7, .bool ((sUnionAll (toTable aA) (toTable aB)).2)), (8, .ref 32 1 0), (9, .ref 36 1 0), (10, .ref 40 1 0), (11, .bool ((iUnionAll (toTable aA) (toTable aB)).2)), (58, .bool (!(eqTable (toTable aA) (toTable aA))))], [(8, .box 1 [.int .i64 (Tab.Width aA), .data (.slice (.slice (.named 1))) ((Tab.Rows aA) : List (List Val))]), (12, .box 1 [.int .i64 (Tab.Width aB), .data (.slice (.slice (.named 1))) ((Tab.Rows aB) : List (List Val))]), (24, .box 1 [.int .i64 (Tab.Width ((sUnionAll (toTable aA) (toTable aB)).1)), .data (.slice (.slice (.named 1))) ((Tab.Rows ((sUnionAll (toTable aA) (toTable aB)).1)) : List (List Val))]), (32, .box 1 [.int .i64 (Tab.Width (toTable aA)), .tr 144 1]), (36, .box 1 [.int .i64 (Tab.Width (toTable aB)), .tr 152 1]), (40, .box 1 [.int .i64 (Tab.Width ((iUnionAll (toTable aA) (toTable aB)).1)), .tr 168 1]), (144, .tree 1 (.slice (.named 1)) ((Tab.Rows (toTable aA)) : List (List Val))), (152, .tree 1 (.slice (.named 1)) ((Tab.Rows (toTable aB)) : List (List Val))), (168, .tree 1 (.slice (.named 1)) ((Tab.Rows ((iUnionAll (toTable aA) (toTable aB)).1)) : List (List Val)))]⟩ [((List.length aA.Rows : Int) ≤ 1048576 ∧ ∀ i : Nat, i < List.length aA.Rows → (List.length (List.getD aA.Rows i []) : Int) ≤ 1048576), (True)] ?_ ?_)))
    ·
     refine ⟨?_, ?_, trivial⟩
     ·
      exact szTable_fit (by assumption)
     ·
      trivial
    refine AW.cd (!(eqTable (toTable aA) (toTable aA))) ?_ ?_
    ·
     intro h16
     have h16q : (eqTable (toTable aA) (toTable aA)) = false := (Go.Am.not_pos h16)
     have e17 := e15.trans (Go.Am.bif_t h16)
     refine AW.seq (AW.r1 hC [4] [] ⟨[(4, .bool false)], []⟩ ?_)
     exact AW.ret (AW.retE (β := Bool) (fun v => [⟨.bool, v⟩]) (fun v => []) (v := false) e17 (by kernel_rfl) rfl rfl)
    ·
     intro h18
     have h18q : (eqTable (toTable aA) (toTable aA)) = true := (Go.Am.not_neg h18)
     have e19 := e15.trans (Go.Am.bif_f h18)
     refine AW.kp [2, 3, 6, 7, 8, 9, 10, 11] [8, 12, 24, 32, 36, 40, 144, 152, 168] ⟨[(2, .ref 8 1 0), (3, .ref 12 1 0), (6, .ref 24 1 0), (7, .bool ((sUnionAll (toTable aA) (toTable aB)).2)), (8, .ref 32 1 0), (9, .ref 36 1 0), (10, .ref 40 1 0), (11, .bool ((iUnionAll (toTable aA) (toTable aB)).2))], [(8, .box 1 [.int .i64 (Tab.Width aA), .data (.slice (.slice (.named 1))) ((Tab.Rows aA) : List (List Val))]), (12, .box 1 [.int .i64 (Tab.Width aB), .data (.slice (.slice (.named 1))) ((Tab.Rows aB) : List (List Val))]), (24, .box 1 [.int .i64 (Tab.Width ((sUnionAll (toTable aA) (toTable aB)).1)), .data (.slice (.slice (.named 1))) ((Tab.Rows ((sUnionAll (toTable aA) (toTable aB)).1)) : List (List Val))]), (32, .box 1 [.int .i64 (Tab.Width (toTable aA)), .tr 144 1]), (36, .box 1 [.int .i64 (Tab.Width (toTable aB)), .tr 152 1]), (40, .box 1 [.int .i64 (Tab.Width ((iUnionAll (toTable aA) (toTable aB)).1)), .tr 168 1]), (144, .tree 1 (.slice (.named 1)) ((Tab.Rows (toTable aA)) : List (List Val))), (152, .tree 1 (.slice (.named 1)) ((Tab.Rows (toTable aB)) : List (List Val))), (168, .tree 1 (.slice (.named 1)) ((Tab.Rows ((iUnionAll (toTable aA) (toTable aB)).1)) : List (List Val)))]⟩ ?_
     refine AW.skip (AW.seq (AW.seq (AW.d0 hC hM [2, 3, 6, 7, 8, 9, 10, 11, 63] [8, 12, 24, 32, 36, 40, 144, 152, 168] ⟨[(2, .ref 8 1 0), (3, .ref 12 1 0), (6, .ref 24 1 0), (7, .bool ((sUnionAll (toTable aA) (toTable aB)).2)), (8, .ref 32 1 0), (9, .ref 36 1 0), (10, .ref 40 1 0), (11, .bool ((iUnionAll (toTable aA) (toTable aB)).2)), (63, .bool (!(eqTable (toTable aB) (toTable aB))))], [(8, .box 1 [.int .i64 (Tab.Width aA), .data (.slice (.slice (.named 1))) ((Tab.Rows aA) : List (List Val))]), (12, .box 1 [.int .i64 (Tab.Width aB), .data (.slice (.slice (.named 1))) ((Tab.Rows aB) : List (List Val))]), (24, .box 1 [.int .i64 (Tab.Width ((sUnionAll (toTable aA) (toTable aB)).1)), .data (.slice (.slice (.named 1))) ((Tab.Rows ((sUnionAll (toTable aA) (toTable aB)).1)) : List (List Val))]), (32, .box 1 [.int .i64 (Tab.Width (toTable aA)), .tr 144 1]), (36, .box 1 [.int .i64 (Tab.Width (toTable aB)), .tr 152 1]), (40, .box 1 [.int .i64 (Tab.Width ((iUnionAll (toTable aA) (toTable aB)).1)), .tr 168 1]), (144, .tree 1 (.slice (.named 1)) ((Tab.Rows (toTable aA)) : List (List Val))), (152, .tree 1 (.slice (.named 1)) ((Tab.Rows (toTable aB)) : List (List Val))), (168, .tree 1 (.slice (.named 1)) ((Tab.Rows ((iUnionAll (toTable aA) (toTable aB)).1)) : List (List Val)))]⟩ [((List.length aB.Rows : Int) ≤ 1048576 ∧ ∀ i : Nat, i < List.length aB.Rows → (List.length (List.getD aB.Rows i []) : Int) ≤ 1048576), (True)] ?_ ?_)))
     ·
      refine ⟨?_, ?_, trivial⟩
      ·
       exact szTable_fit2 (a := aA) (by assumption) (by assumption)
      ·
       trivial
     refine AW.cd (!(eqTable (toTable aB) (toTable aB))) ?_ ?_
     ·
      intro h20
      have h20q : (eqTable (toTable aB) (toTable aB)) = false := (Go.Am.not_pos h20)
      have e21 := e19.trans (Go.Am.bif_t h20)
      refine AW.seq (AW.r1 hC [4] [] ⟨[(4, .bool false)], []⟩ ?_)
      exact AW.ret (AW.retE (β := Bool) (fun v => [⟨.bool, v⟩]) (fun v => []) (v := false) e21 (by kernel_rfl) rfl rfl)
     ·
      intro h22
      have h22q : (eqTable (toTable aB) (toTable aB)) = true := (Go.Am.not_neg h22)
      have e23 := e19.trans (Go.Am.bif_f h22)
      refine AW.kp [2, 3, 6, 7, 8, 9, 10, 11] [8, 12, 24, 32, 36, 40, 144, 152, 168] ⟨[(2, .ref 8 1 0), (3, .ref 12 1 0), (6, .ref 24 1 0), (7, .bool ((sUnionAll (toTable aA) (toTable aB)).2)), (8, .ref 32 1 0), (9, .ref 36 1 0), (10, .ref 40 1 0), (11, .bool ((iUnionAll (toTable aA) (toTable aB)).2))], [(8, .box 1 [.int .i64 (Tab.Width aA), .data (.slice (.slice (.named 1))) ((Tab.Rows aA) : List (List Val))]), (12, .box 1 [.int .i64 (Tab.Width aB), .data (.slice (.slice (.named 1))) ((Tab.Rows aB) : List (List Val))]), (24, .box 1 [.int .i64 (Tab.Width ((sUnionAll (toTable aA) (toTable aB)).1)), .data (.slice (.slice (.named 1))) ((Tab.Rows ((sUnionAll (toTable aA) (toTable aB)).1)) : List (List Val))]), (32, .box 1 [.int .i64 (Tab.Width (toTable aA)), .tr 144 1]), (36, .box 1 [.int .i64 (Tab.Width (toTable aB)), .tr 152 1]), (40, .box 1 [.int .i64 (Tab.Width ((iUnionAll (toTable aA) (toTable aB)).1)), .tr 168 1]), (144, .tree 1 (.slice (.named 1)) ((Tab.Rows (toTable aA)) : List (List Val))), (152, .tree 1 (.slice (.named 1)) ((Tab.Rows (toTable aB)) : List (List Val))), (168, .tree 1 (.slice (.named 1)) ((Tab.Rows ((iUnionAll (toTable aA) (toTable aB)).1)) : List (List Val)))]⟩ ?_
      refine AW.skip (AW.seq (AW.r1 hC [2, 3, 6, 7, 8, 9, 10, 11, 12] [8, 12, 24, 32, 36, 40, 144, 152, 168] ⟨[(2, .ref 8 1 0), (3, .ref 12 1 0), (6, .ref 24 1 0), (7, .bool ((sUnionAll (toTable aA) (toTable aB)).2)), (8, .ref 32 1 0), (9, .ref 36 1 0), (10, .ref 40 1 0), (11, .bool ((iUnionAll (toTable aA) (toTable aB)).2)), (12, .int .i64 1)], [(8, .box 1 [.int .i64 (Tab.Width aA), .data (.slice (.slice (.named 1))) ((Tab.Rows aA) : List (List Val))]), (12, .box 1 [.int .i64 (Tab.Width aB), .data (.slice (.slice (.named 1))) ((Tab.Rows aB) : List (List Val))]), (24, .box 1 [.int .i64 (Tab.Width ((sUnionAll (toTable aA) (toTable aB)).1)), .data (.slice (.slice (.named 1))) ((Tab.Rows ((sUnionAll (toTable aA) (toTable aB)).1)) : List (List Val))]), (32, .box 1 [.int .i64 (Tab.Width (toTable aA)), .tr 144 1]), (36, .box 1 [.int .i64 (Tab.Width (toTable aB)), .tr 152 1]), (40, .box 1 [.int .i64 (Tab.Width ((iUnionAll (toTable aA) (toTable aB)).1)), .tr 168 1]), (144, .tree 1 (.slice (.named 1)) ((Tab.Rows (toTable aA)) : List (List Val))), (152, .tree 1 (.slice (.named 1)) ((Tab.Rows (toTable aB)) : List (List Val))), (168, .tree 1 (.slice (.named 1)) ((Tab.Rows ((iUnionAll (toTable aA) (toTable aB)).1)) : List (List Val)))]⟩ ?_))
      refine AW.seq (AW.regionO [0, 1, 2, 3] (by rfl) ?_)
      refine AWO.run hC false [] [0, 1] [2, 3] [2, 3, 6, 7, 9, 10, 11, 64, 65] [8, 12, 24, 36, 40, 144, 152, 168]
       ⟨[(2, .ref 8 1 0), (3, .ref 12 1 0), (6, .ref 24 1 0), (7, .bool ((sUnionAll (toTable aA) (toTable aB)).2)), (9, .ref 36 1 0), (10, .ref 40 1 0), (11, .bool ((iUnionAll (toTable aA) (toTable aB)).2)), (64, .agg [.int .i64 (Tab.Width (toTable aA)), .tr 144 1]), (65, .int .i64 1)], [(8, .box 1 [.int .i64 (Tab.Width aA), .data (.slice (.slice (.named 1))) ((Tab.Rows aA) : List (List Val))]), (12, .box 1 [.int .i64 (Tab.Width aB), .data (.slice (.slice (.named 1))) ((Tab.Rows aB) : List (List Val))]), (24, .box 1 [.int .i64 (Tab.Width ((sUnionAll (toTable aA) (toTable aB)).1)), .data (.slice (.slice (.named 1))) ((Tab.Rows ((sUnionAll (toTable aA) (toTable aB)).1)) : List (List Val))]), (36, .box 1 [.int .i64 (Tab.Width (toTable aB)), .tr 152 1]), (40, .box 1 [.int .i64 (Tab.Width ((iUnionAll (toTable aA) (toTable aB)).1)), .tr 168 1]), (144, .tree 1 (.slice (.named 1)) ((Tab.Rows (toTable aA)) : List (List Val))), (152, .tree 1 (.slice (.named 1)) ((Tab.Rows (toTable aB)) : List (List Val))), (168, .tree 1 (.slice (.named 1)) ((Tab.Rows ((iUnionAll (toTable aA) (toTable aB)).1)) : List (List Val)))]⟩
       [] (by rfl) (by kernel_rfl) ?_ ?_
      ·
       exact trivial
      refine AWO.call hC.ty (vs := [.agg [.int .i64 (Tab.Width (toTable aA)), .tr 144 1], .int .i64 1]) (caps := []) (by rfl) rfl (.inl rfl) (by decide) (by kernel_rfl) (by kernel_rfl) Try.func25 (by kernel_rfl) rfl (by kernel_rfl) ?_
      intro o1 ho1
      refine AW.kp [0, 1, 1002, 1003, 1006, 1007, 1009, 1010, 1011] [8, 12, 24, 36, 40, 144, 152, 168] ⟨[(0, .agg [.int .i64 (Tab.Width (toTable aA)), .tr 144 1]), (1, .int .i64 1), (1002, .ref 8 1 0), (1003, .ref 12 1 0), (1006, .ref 24 1 0), (1007, .bool ((sUnionAll (toTable aA) (toTable aB)).2)), (1009, .ref 36 1 0), (1010, .ref 40 1 0), (1011, .bool ((iUnionAll (toTable aA) (toTable aB)).2))], [(8, .box 1 [.int .i64 (Tab.Width aA), .data (.slice (.slice (.named 1))) ((Tab.Rows aA) : List (List Val))]), (12, .box 1 [.int .i64 (Tab.Width aB), .data (.slice (.slice (.named 1))) ((Tab.Rows aB) : List (List Val))]), (24, .box 1 [.int .i64 (Tab.Width ((sUnionAll (toTable aA) (toTable aB)).1)), .data (.slice (.slice (.named 1))) ((Tab.Rows ((sUnionAll (toTable aA) (toTable aB)).1)) : List (List Val))]), (36, .box 1 [.int .i64 (Tab.Width (toTable aB)), .tr 152 1]), (40, .box 1 [.int .i64 (Tab.Width ((iUnionAll (toTable aA) (toTable aB)).1)), .tr 168 1]), (144, .tree 1 (.slice (.named 1)) ((Tab.Rows (toTable aA)) : List (List Val))), (152, .tree 1 (.slice (.named 1)) ((Tab.Rows (toTable aB)) : List (List Val))), (168, .tree 1 (.slice (.named 1)) ((Tab.Rows ((iUnionAll (toTable aA) (toTable aB)).1)) : List (List Val)))]⟩ ?_
      refine AW.seq (AW.r1 hC1 [1, 2, 1002, 1003, 1006, 1007, 1009, 1010, 1011] [8, 12, 24, 36, 40, 144, 152, 168, 4008] ⟨[(1, .int .i64 1), (2, .ref 4008 1 0), (1002, .ref 8 1 0), (1003, .ref 12 1 0), (1006, .ref 24 1 0), (1007, .bool ((sUnionAll (toTable aA) (toTable aB)).2)), (1009, .ref 36 1 0), (1010, .ref 40 1 0), (1011, .bool ((iUnionAll (toTable aA) (toTable aB)).2))], [(8, .box 1 [.int .i64 (Tab.Width aA), .data (.slice (.slice (.named 1))) ((Tab.Rows aA) : List (List Val))]), (12, .box 1 [.int .i64 (Tab.Width aB), .data (.slice (.slice (.named 1))) ((Tab.Rows aB) : List (List Val))]), (24, .box 1 [.int .i64 (Tab.Width ((sUnionAll (toTable aA) (toTable aB)).1)), .data (.slice (.slice (.named 1))) ((Tab.Rows ((sUnionAll (toTable aA) (toTable aB)).1)) : List (List Val))]), (36, .box 1 [.int .i64 (Tab.Width (toTable aB)), .tr 152 1]), (40, .box 1 [.int .i64 (Tab.Width ((iUnionAll (toTable aA) (toTable aB)).1)), .tr 168 1]), (144, .tree 1 (.slice (.named 1)) ((Tab.Rows (toTable aA)) : List (List Val))), (152, .tree 1 (.slice (.named 1)) ((Tab.Rows (toTable aB)) : List (List Val))), (168, .tree 1 (.slice (.named 1)) ((Tab.Rows ((iUnionAll (toTable aA) (toTable aB)).1)) : List (List Val))), (4008, .box 1 [.int .i64 (Tab.Width (toTable aA)), .tr 144 1])]⟩ ?_)
      refine AW.seq (AW.regionO [0, 1, 2, 3, 4] (by rfl) ?_)
      refine AWO.run hC1 false [] [0, 1, 2] [3, 4] [6, 7, 1002, 1003, 1006, 1007, 1009, 1010, 1011] [8, 12, 24, 36, 40, 144, 152, 168]
       ⟨[(6, .tr 144 1), (7, .int .i64 1), (1002, .ref 8 1 0), (1003, .ref 12 1 0), (1006, .ref 24 1 0), (1007, .bool ((sUnionAll (toTable aA) (toTable aB)).2)), (1009, .ref 36 1 0), (1010, .ref 40 1 0), (1011, .bool ((iUnionAll (toTable aA) (toTable aB)).2))], [(8, .box 1 [.int .i64 (Tab.Width aA), .data (.slice (.slice (.named 1))) ((Tab.Rows aA) : List (List Val))]), (12, .box 1 [.int .i64 (Tab.Width aB), .data (.slice (.slice (.named 1))) ((Tab.Rows aB) : List (List Val))]), (24, .box 1 [.int .i64 (Tab.Width ((sUnionAll (toTable aA) (toTable aB)).1)), .data (.slice (.slice (.named 1))) ((Tab.Rows ((sUnionAll (toTable aA) (toTable aB)).1)) : List (List Val))]), (36, .box 1 [.int .i64 (Tab.Width (toTable aB)), .tr 152 1]), (40, .box 1 [.int .i64 (Tab.Width ((iUnionAll (toTable aA) (toTable aB)).1)), .tr 168 1]), (144, .tree 1 (.slice (.named 1)) ((Tab.Rows (toTable aA)) : List (List Val))), (152, .tree 1 (.slice (.named 1)) ((Tab.Rows (toTable aB)) : List (List Val))), (168, .tree 1 (.slice (.named 1)) ((Tab.Rows ((iUnionAll (toTable aA) (toTable aB)).1)) : List (List Val)))]⟩
       [] (by rfl) (by kernel_rfl) ?_ ?_
      ·
       exact trivial
      refine AWO.mark (u := (.slice (.named 1))) (id := 144) (ep := 1) (xs := ((Tab.Rows (toTable aA)) : List (List Val))) (k := 1) markValueSS_ok (by rfl) (by rfl) (by kernel_rfl) (by kernel_rfl) (by kernel_rfl) (by kernel_rfl) ?_ ?_
      ·
       show True
       assumption
      refine AWO.keep [8, 1002, 1003, 1006, 1007, 1009, 1010, 1011] [8, 12, 24, 36, 40, 152, 168] ⟨[(8, .int .i64 (markValueSS (Tab.Rows (toTable aA)) 1).2), (1002, .ref 8 1 0), (1003, .ref 12 1 0), (1006, .ref 24 1 0), (1007, .bool ((sUnionAll (toTable aA) (toTable aB)).2)), (1009, .ref 36 1 0), (1010, .ref 40 1 0), (1011, .bool ((iUnionAll (toTable aA) (toTable aB)).2))], [(8, .box 1 [.int .i64 (Tab.Width aA), .data (.slice (.slice (.named 1))) ((Tab.Rows aA) : List (List Val))]), (12, .box 1 [.int .i64 (Tab.Width aB), .data (.slice (.slice (.named 1))) ((Tab.Rows aB) : List (List Val))]), (24, .box 1 [.int .i64 (Tab.Width ((sUnionAll (toTable aA) (toTable aB)).1)), .data (.slice (.slice (.named 1))) ((Tab.Rows ((sUnionAll (toTable aA) (toTable aB)).1)) : List (List Val))]), (36, .box 1 [.int .i64 (Tab.Width (toTable aB)), .tr 152 1]), (40, .box 1 [.int .i64 (Tab.Width ((iUnionAll (toTable aA) (toTable aB)).1)), .tr 168 1]), (152, .tree 1 (.slice (.named 1)) ((Tab.Rows (toTable aB)) : List (List Val))), (168, .tree 1 (.slice (.named 1)) ((Tab.Rows ((iUnionAll (toTable aA) (toTable aB)).1)) : List (List Val)))]⟩ (by kernel_rfl) ?_
      refine AWO.run hC1 false [] [4] [] [1, 1002, 1003, 1006, 1007, 1009, 1010, 1011] [8, 12, 24, 36, 40, 152, 168]
       ⟨[(1, .int .i64 (markValueSS (Tab.Rows (toTable aA)) 1).2), (1002, .ref 8 1 0), (1003, .ref 12 1 0), (1006, .ref 24 1 0), (1007, .bool ((sUnionAll (toTable aA) (toTable aB)).2)), (1009, .ref 36 1 0), (1010, .ref 40 1 0), (1011, .bool ((iUnionAll (toTable aA) (toTable aB)).2))], [(8, .box 1 [.int .i64 (Tab.Width aA), .data (.slice (.slice (.named 1))) ((Tab.Rows aA) : List (List Val))]), (12, .box 1 [.int .i64 (Tab.Width aB), .data (.slice (.slice (.named 1))) ((Tab.Rows aB) : List (List Val))]), (24, .box 1 [.int .i64 (Tab.Width ((sUnionAll (toTable aA) (toTable aB)).1)), .data (.slice (.slice (.named 1))) ((Tab.Rows ((sUnionAll (toTable aA) (toTable aB)).1)) : List (List Val))]), (36, .box 1 [.int .i64 (Tab.Width (toTable aB)), .tr 152 1]), (40, .box 1 [.int .i64 (Tab.Width ((iUnionAll (toTable aA) (toTable aB)).1)), .tr 168 1]), (152, .tree 1 (.slice (.named 1)) ((Tab.Rows (toTable aB)) : List (List Val))), (168, .tree 1 (.slice (.named 1)) ((Tab.Rows ((iUnionAll (toTable aA) (toTable aB)).1)) : List (List Val)))]⟩
       [] (by rfl) (by kernel_rfl) ?_ ?_
      ·
       exact trivial
      refine AWO.nil ?_
      refine AW.seq (AW.r1 hC1 [4, 1002, 1003, 1006, 1007, 1009, 1010, 1011] [8, 12, 24, 36, 40, 152, 168] ⟨[(4, .int .i64 (markValueSS (Tab.Rows (toTable aA)) 1).2), (1002, .ref 8 1 0), (1003, .ref 12 1 0), (1006, .ref 24 1 0), (1007, .bool ((sUnionAll (toTable aA) (toTable aB)).2)), (1009, .ref 36 1 0), (1010, .ref 40 1 0), (1011, .bool ((iUnionAll (toTable aA) (toTable aB)).2))], [(8, .box 1 [.int .i64 (Tab.Width aA), .data (.slice (.slice (.named 1))) ((Tab.Rows aA) : List (List Val))]), (12, .box 1 [.int .i64 (Tab.Width aB), .data (.slice (.slice (.named 1))) ((Tab.Rows aB) : List (List Val))]), (24, .box 1 [.int .i64 (Tab.Width ((sUnionAll (toTable aA) (toTable aB)).1)), .data (.slice (.slice (.named 1))) ((Tab.Rows ((sUnionAll (toTable aA) (toTable aB)).1)) : List (List Val))]), (36, .box 1 [.int .i64 (Tab.Width (toTable aB)), .tr 152 1]), (40, .box 1 [.int .i64 (Tab.Width ((iUnionAll (toTable aA) (toTable aB)).1)), .tr 168 1]), (152, .tree 1 (.slice (.named 1)) ((Tab.Rows (toTable aB)) : List (List Val))), (168, .tree 1 (.slice (.named 1)) ((Tab.Rows ((iUnionAll (toTable aA) (toTable aB)).1)) : List (List Val)))]⟩ ?_)
      refine AW.ret ?_
      refine ⟨[.int .i64 (markValueSS (Tab.Rows (toTable aA)) 1).2], by kernel_rfl, ?_⟩
      refine AWO.keep [2, 3, 6, 7, 9, 10, 11, 66] [8, 12, 24, 36, 40, 152, 168] ⟨[(2, .ref 8 1 0), (3, .ref 12 1 0), (6, .ref 24 1 0), (7, .bool ((sUnionAll (toTable aA) (toTable aB)).2)), (9, .ref 36 1 0), (10, .ref 40 1 0), (11, .bool ((iUnionAll (toTable aA) (toTable aB)).2)), (66, .int .i64 (markValueSS (Tab.Rows (toTable aA)) 1).2)], [(8, .box 1 [.int .i64 (Tab.Width aA), .data (.slice (.slice (.named 1))) ((Tab.Rows aA) : List (List Val))]), (12, .box 1 [.int .i64 (Tab.Width aB), .data (.slice (.slice (.named 1))) ((Tab.Rows aB) : List (List Val))]), (24, .box 1 [.int .i64 (Tab.Width ((sUnionAll (toTable aA) (toTable aB)).1)), .data (.slice (.slice (.named 1))) ((Tab.Rows ((sUnionAll (toTable aA) (toTable aB)).1)) : List (List Val))]), (36, .box 1 [.int .i64 (Tab.Width (toTable aB)), .tr 152 1]), (40, .box 1 [.int .i64 (Tab.Width ((iUnionAll (toTable aA) (toTable aB)).1)), .tr 168 1]), (152, .tree 1 (.slice (.named 1)) ((Tab.Rows (toTable aB)) : List (List Val))), (168, .tree 1 (.slice (.named 1)) ((Tab.Rows ((iUnionAll (toTable aA) (toTable aB)).1)) : List (List Val)))]⟩ (by kernel_rfl) ?_
      refine AWO.run hC false [] [3] [] [2, 3, 6, 7, 9, 10, 11, 12] [8, 12, 24, 36, 40, 152, 168]
       ⟨[(2, .ref 8 1 0), (3, .ref 12 1 0), (6, .ref 24 1 0), (7, .bool ((sUnionAll (toTable aA) (toTable aB)).2)), (9, .ref 36 1 0), (10, .ref 40 1 0), (11, .bool ((iUnionAll (toTable aA) (toTable aB)).2)), (12, .int .i64 (markValueSS (Tab.Rows (toTable aA)) 1).2)], [(8, .box 1 [.int .i64 (Tab.Width aA), .data (.slice (.slice (.named 1))) ((Tab.Rows aA) : List (List Val))]), (12, .box 1 [.int .i64 (Tab.Width aB), .data (.slice (.slice (.named 1))) ((Tab.Rows aB) : List (List Val))]), (24, .box 1 [.int .i64 (Tab.Width ((sUnionAll (toTable aA) (toTable aB)).1)), .data (.slice (.slice (.named 1))) ((Tab.Rows ((sUnionAll (toTable aA) (toTable aB)).1)) : List (List Val))]), (36, .box 1 [.int .i64 (Tab.Width (toTable aB)), .tr 152 1]), (40, .box 1 [.int .i64 (Tab.Width ((iUnionAll (toTable aA) (toTable aB)).1)), .tr 168 1]), (152, .tree 1 (.slice (.named 1)) ((Tab.Rows (toTable aB)) : List (List Val))), (168, .tree 1 (.slice (.named 1)) ((Tab.Rows ((iUnionAll (toTable aA) (toTable aB)).1)) : List (List Val)))]⟩
       [] (by rfl) (by kernel_rfl) ?_ ?_
      ·
       exact trivial
      refine AWO.nil ?_
      refine AW.seq (AW.regionO [0, 1, 2, 3] (by rfl) ?_)
      refine AWO.run hC false [] [0, 1] [2, 3] [2, 3, 6, 7, 10, 11, 67, 68] [8, 12, 24, 40, 152, 168]
       ⟨[(2, .ref 8 1 0), (3, .ref 12 1 0), (6, .ref 24 1 0), (7, .bool ((sUnionAll (toTable aA) (toTable aB)).2)), (10, .ref 40 1 0), (11, .bool ((iUnionAll (toTable aA) (toTable aB)).2)), (67, .agg [.int .i64 (Tab.Width (toTable aB)), .tr 152 1]), (68, .int .i64 (markValueSS (Tab.Rows (toTable aA)) 1).2)], [(8, .box 1 [.int .i64 (Tab.Width aA), .data (.slice (.slice (.named 1))) ((Tab.Rows aA) : List (List Val))]), (12, .box 1 [.int .i64 (Tab.Width aB), .data (.slice (.slice (.named 1))) ((Tab.Rows aB) : List (List Val))]), (24, .box 1 [.int .i64 (Tab.Width ((sUnionAll (toTable aA) (toTable aB)).1)), .data (.slice (.slice (.named 1))) ((Tab.Rows ((sUnionAll (toTable aA) (toTable aB)).1)) : List (List Val))]), (40, .box 1 [.int .i64 (Tab.Width ((iUnionAll (toTable aA) (toTable aB)).1)), .tr 168 1]), (152, .tree 1 (.slice (.named 1)) ((Tab.Rows (toTable aB)) : List (List Val))), (168, .tree 1 (.slice (.named 1)) ((Tab.Rows ((iUnionAll (toTable aA) (toTable aB)).1)) : List (List Val)))]⟩
       [] (by rfl) (by kernel_rfl) ?_ ?_
      ·
       exact trivial
      refine AWO.call hC.ty (vs := [.agg [.int .i64 (Tab.Width (toTable aB)), .tr 152 1], .int .i64 (markValueSS (Tab.Rows (toTable aA)) 1).2]) (caps := []) (by rfl) rfl (.inl rfl) (by decide) (by kernel_rfl) (by kernel_rfl) Try.func25 (by kernel_rfl) rfl (by kernel_rfl) ?_
      intro o1 ho1
      refine AW.kp [0, 1, 1002, 1003, 1006, 1007, 1010, 1011] [8, 12, 24, 40, 152, 168] ⟨[(0, .agg [.int .i64 (Tab.Width (toTable aB)), .tr 152 1]), (1, .int .i64 (markValueSS (Tab.Rows (toTable aA)) 1).2), (1002, .ref 8 1 0), (1003, .ref 12 1 0), (1006, .ref 24 1 0), (1007, .bool ((sUnionAll (toTable aA) (toTable aB)).2)), (1010, .ref 40 1 0), (1011, .bool ((iUnionAll (toTable aA) (toTable aB)).2))], [(8, .box 1 [.int .i64 (Tab.Width aA), .data (.slice (.slice (.named 1))) ((Tab.Rows aA) : List (List Val))]), (12, .box 1 [.int .i64 (Tab.Width aB), .data (.slice (.slice (.named 1))) ((Tab.Rows aB) : List (List Val))]), (24, .box 1 [.int .i64 (Tab.Width ((sUnionAll (toTable aA) (toTable aB)).1)), .data (.slice (.slice (.named 1))) ((Tab.Rows ((sUnionAll (toTable aA) (toTable aB)).1)) : List (List Val))]), (40, .box 1 [.int .i64 (Tab.Width ((iUnionAll (toTable aA) (toTable aB)).1)), .tr 168 1]), (152, .tree 1 (.slice (.named 1)) ((Tab.Rows (toTable aB)) : List (List Val))), (168, .tree 1 (.slice (.named 1)) ((Tab.Rows ((iUnionAll (toTable aA) (toTable aB)).1)) : List (List Val)))]⟩ ?_
      refine AW.seq (AW.r1 hC1 [1, 2, 1002, 1003, 1006, 1007, 1010, 1011] [8, 12, 24, 40, 152, 168, 4008] ⟨[(1, .int .i64 (markValueSS (Tab.Rows (toTable aA)) 1).2), (2, .ref 4008 1 0), (1002, .ref 8 1 0), (1003, .ref 12 1 0), (1006, .ref 24 1 0), (1007, .bool ((sUnionAll (toTable aA) (toTable aB)).2)), (1010, .ref 40 1 0), (1011, .bool ((iUnionAll (toTable aA) (toTable aB)).2))], [(8, .box 1 [.int .i64 (Tab.Width aA), .data (.slice (.slice (.named 1))) ((Tab.Rows aA) : List (List Val))]), (12, .box 1 [.int .i64 (Tab.Width aB), .data (.slice (.slice (.named 1))) ((Tab.Rows aB) : List (List Val))]), (24, .box 1 [.int .i64 (Tab.Width ((sUnionAll (toTable aA) (toTable aB)).1)), .data (.slice (.slice (.named 1))) ((Tab.Rows ((sUnionAll (toTable aA) (toTable aB)).1)) : List (List Val))]), (40, .box 1 [.int .i64 (Tab.Width ((iUnionAll (toTable aA) (toTable aB)).1)), .tr 168 1]), (152, .tree 1 (.slice (.named 1)) ((Tab.Rows (toTable aB)) : List (List Val))), (168, .tree 1 (.slice (.named 1)) ((Tab.Rows ((iUnionAll (toTable aA) (toTable aB)).1)) : List (List Val))), (4008, .box 1 [.int .i64 (Tab.Width (toTable aB)), .tr 152 1])]⟩ ?_)
      refine AW.seq (AW.regionO [0, 1, 2, 3, 4] (by rfl) ?_)
      refine AWO.run hC1 false [] [0, 1, 2] [3, 4] [6, 7, 1002, 1003, 1006, 1007, 1010, 1011] [8, 12, 24, 40, 152, 168]
       ⟨[(6, .tr 152 1), (7, .int .i64 (markValueSS (Tab.Rows (toTable aA)) 1).2), (1002, .ref 8 1 0), (1003, .ref 12 1 0), (1006, .ref 24 1 0), (1007, .bool ((sUnionAll (toTable aA) (toTable aB)).2)), (1010, .ref 40 1 0), (1011, .bool ((iUnionAll (toTable aA) (toTable aB)).2))], [(8, .box 1 [.int .i64 (Tab.Width aA), .data (.slice (.slice (.named 1))) ((Tab.Rows aA) : List (List Val))]), (12, .box 1 [.int .i64 (Tab.Width aB), .data (.slice (.slice (.named 1))) ((Tab.Rows aB) : List (List Val))]), (24, .box 1 [.int .i64 (Tab.Width ((sUnionAll (toTable aA) (toTable aB)).1)), .data (.slice (.slice (.named 1))) ((Tab.Rows ((sUnionAll (toTable aA) (toTable aB)).1)) : List (List Val))]), (40, .box 1 [.int .i64 (Tab.Width ((iUnionAll (toTable aA) (toTable aB)).1)), .tr 168 1]), (152, .tree 1 (.slice (.named 1)) ((Tab.Rows (toTable aB)) : List (List Val))), (168, .tree 1 (.slice (.named 1)) ((Tab.Rows ((iUnionAll (toTable aA) (toTable aB)).1)) : List (List Val)))]⟩
       [] (by rfl) (by kernel_rfl) ?_ ?_
      ·
       exact trivial
      refine AWO.mark (u := (.slice (.named 1))) (id := 152) (ep := 1) (xs := ((Tab.Rows (toTable aB)) : List (List Val))) (k := (markValueSS (Tab.Rows (toTable aA)) 1).2) markValueSS_ok (by rfl) (by rfl) (by kernel_rfl) (by kernel_rfl) (by kernel_rfl) (by kernel_rfl) ?_ ?_
      ·
       show True
       assumption
      refine AWO.keep [8, 1002, 1003, 1006, 1007, 1010, 1011] [8, 12, 24, 40, 168] ⟨[(8, .int .i64 (markValueSS (Tab.Rows (toTable aB)) ((markValueSS (Tab.Rows (toTable aA)) 1).2)).2), (1002, .ref 8 1 0), (1003, .ref 12 1 0), (1006, .ref 24 1 0), (1007, .bool ((sUnionAll (toTable aA) (toTable aB)).2)), (1010, .ref 40 1 0), (1011, .bool ((iUnionAll (toTable aA) (toTable aB)).2))], [(8, .box 1 [.int .i64 (Tab.Width aA), .data (.slice (.slice (.named 1))) ((Tab.Rows aA) : List (List Val))]), (12, .box 1 [.int .i64 (Tab.Width aB), .data (.slice (.slice (.named 1))) ((Tab.Rows aB) : List (List Val))]), (24, .box 1 [.int .i64 (Tab.Width ((sUnionAll (toTable aA) (toTable aB)).1)), .data (.slice (.slice (.named 1))) ((Tab.Rows ((sUnionAll (toTable aA) (toTable aB)).1)) : List (List Val))]), (40, .box 1 [.int .i64 (Tab.Width ((iUnionAll (toTable aA) (toTable aB)).1)), .tr 168 1]), (168, .tree 1 (.slice (.named 1)) ((Tab.Rows ((iUnionAll (toTable aA) (toTable aB)).1)) : List (List Val)))]⟩ (by kernel_rfl) ?_
      refine AWO.run hC1 false [] [4] [] [1, 1002, 1003, 1006, 1007, 1010, 1011] [8, 12, 24, 40, 168]
       ⟨[(1, .int .i64 (markValueSS (Tab.Rows (toTable aB)) ((markValueSS (Tab.Rows (toTable aA)) 1).2)).2), (1002, .ref 8 1 0), (1003, .ref 12 1 0), (1006, .ref 24 1 0), (1007, .bool ((sUnionAll (toTable aA) (toTable aB)).2)), (1010, .ref 40 1 0), (1011, .bool ((iUnionAll (toTable aA) (toTable aB)).2))], [(8, .box 1 [.int .i64 (Tab.Width aA), .data (.slice (.slice (.named 1))) ((Tab.Rows aA) : List (List Val))]), (12, .box 1 [.int .i64 (Tab.Width aB), .data (.slice (.slice (.named 1))) ((Tab.Rows aB) : List (List Val))]), (24, .box 1 [.int .i64 (Tab.Width ((sUnionAll (toTable aA) (toTable aB)).1)), .data (.slice (.slice (.named 1))) ((Tab.Rows ((sUnionAll (toTable aA) (toTable aB)).1)) : List (List Val))]), (40, .box 1 [.int .i64 (Tab.Width ((iUnionAll (toTable aA) (toTable aB)).1)), .tr 168 1]), (168, .tree 1 (.slice (.named 1)) ((Tab.Rows ((iUnionAll (toTable aA) (toTable aB)).1)) : List (List Val)))]⟩
       [] (by rfl) (by kernel_rfl) ?_ ?_
      ·
       exact trivial
      refine AWO.nil ?_
      refine AW.seq (AW.r1 hC1 [4, 1002, 1003, 1006, 1007, 1010, 1011] [8, 12, 24, 40, 168] ⟨[(4, .int .i64 (markValueSS (Tab.Rows (toTable aB)) ((markValueSS (Tab.Rows (toTable aA)) 1).2)).2), (1002, .ref 8 1 0), (1003, .ref 12 1 0), (1006, .ref 24 1 0), (1007, .bool ((sUnionAll (toTable aA) (toTable aB)).2)), (1010, .ref 40 1 0), (1011, .bool ((iUnionAll (toTable aA) (toTable aB)).2))], [(8, .box 1 [.int .i64 (Tab.Width aA), .data (.slice (.slice (.named 1))) ((Tab.Rows aA) : List (List Val))]), (12, .box 1 [.int .i64 (Tab.Width aB), .data (.slice (.slice (.named 1))) ((Tab.Rows aB) : List (List Val))]), (24, .box 1 [.int .i64 (Tab.Width ((sUnionAll (toTable aA) (toTable aB)).1)), .data (.slice (.slice (.named 1))) ((Tab.Rows ((sUnionAll (toTable aA) (toTable aB)).1)) : List (List Val))]), (40, .box 1 [.int .i64 (Tab.Width ((iUnionAll (toTable aA) (toTable aB)).1)), .tr 168 1]), (168, .tree 1 (.slice (.named 1)) ((Tab.Rows ((iUnionAll (toTable aA) (toTable aB)).1)) : List (List Val)))]⟩ ?_)
      refine AW.ret ?_
      refine ⟨[.int .i64 (markValueSS (Tab.Rows (toTable aB)) ((markValueSS (Tab.Rows (toTable aA)) 1).2)).2], by kernel_rfl, ?_⟩
      refine AWO.keep [2, 3, 6, 7, 10, 11, 69] [8, 12, 24, 40, 168] ⟨[(2, .ref 8 1 0), (3, .ref 12 1 0), (6, .ref 24 1 0), (7, .bool ((sUnionAll (toTable aA) (toTable aB)).2)), (10, .ref 40 1 0), (11, .bool ((iUnionAll (toTable aA) (toTable aB)).2)), (69, .int .i64 (markValueSS (Tab.Rows (toTable aB)) ((markValueSS (Tab.Rows (toTable aA)) 1).2)).2)], [(8, .box 1 [.int .i64 (Tab.Width aA), .data (.slice (.slice (.named 1))) ((Tab.Rows aA) : List (List Val))]), (12, .box 1 [.int .i64 (Tab.Width aB), .data (.slice (.slice (.named 1))) ((Tab.Rows aB) : List (List Val))]), (24, .box 1 [.int .i64 (Tab.Width ((sUnionAll (toTable aA) (toTable aB)).1)), .data (.slice (.slice (.named 1))) ((Tab.Rows ((sUnionAll (toTable aA) (toTable aB)).1)) : List (List Val))]), (40, .box 1 [.int .i64 (Tab.Width ((iUnionAll (toTable aA) (toTable aB)).1)), .tr 168 1]), (168, .tree 1 (.slice (.named 1)) ((Tab.Rows ((iUnionAll (toTable aA) (toTable aB)).1)) : List (List Val)))]⟩ (by kernel_rfl) ?_
      refine AWO.run hC false [] [3] [] [2, 3, 6, 7, 10, 11, 12] [8, 12, 24, 40, 168]
       ⟨[(2, .ref 8 1 0), (3, .ref 12 1 0), (6, .ref 24 1 0), (7, .bool ((sUnionAll (toTable aA) (toTable aB)).2)), (10, .ref 40 1 0), (11, .bool ((iUnionAll (toTable aA) (toTable aB)).2)), (12, .int .i64 (markValueSS (Tab.Rows (toTable aB)) ((markValueSS (Tab.Rows (toTable aA)) 1).2)).2)], [(8, .box 1 [.int .i64 (Tab.Width aA), .data (.slice (.slice (.named 1))) ((Tab.Rows aA) : List (List Val))]), (12, .box 1 [.int .i64 (Tab.Width aB), .data (.slice (.slice (.named 1))) ((Tab.Rows aB) : List (List Val))]), (24, .box 1 [.int .i64 (Tab.Width ((sUnionAll (toTable aA) (toTable aB)).1)), .data (.slice (.slice (.named 1))) ((Tab.Rows ((sUnionAll (toTable aA) (toTable aB)).1)) : List (List Val))]), (40, .box 1 [.int .i64 (Tab.Width ((iUnionAll (toTable aA) (toTable aB)).1)), .tr 168 1]), (168, .tree 1 (.slice (.named 1)) ((Tab.Rows ((iUnionAll (toTable aA) (toTable aB)).1)) : List (List Val)))]⟩
       [] (by rfl) (by kernel_rfl) ?_ ?_
      ·
       exact trivial
      refine AWO.nil ?_
      refine AW.seq (AW.seq (AW.r0 hC [2, 3, 6, 7, 10, 82] [8, 12, 24, 40, 168] ⟨[(2, .ref 8 1 0), (3, .ref 12 1 0), (6, .ref 24 1 0), (7, .bool ((sUnionAll (toTable aA) (toTable aB)).2)), (10, .ref 40 1 0), (82, .bool (bif (bif (decide ((markValueSS (Tab.Rows (toTable aB)) ((markValueSS (Tab.Rows (toTable aA)) 1).2)).2 < 0)) then true else (!(eqTable ((iUnionAll (toTable aA) (toTable aB)).1) ((sUnionAll (toTable aA) (toTable aB)).1)))) then true else (((iUnionAll (toTable aA) (toTable aB)).2) != ((sUnionAll (toTable aA) (toTable aB)).2))))], [(8, .box 1 [.int .i64 (Tab.Width aA), .data (.slice (.slice (.named 1))) ((Tab.Rows aA) : List (List Val))]), (12, .box 1 [.int .i64 (Tab.Width aB), .data (.slice (.slice (.named 1))) ((Tab.Rows aB) : List (List Val))]), (24, .box 1 [.int .i64 (Tab.Width ((sUnionAll (toTable aA) (toTable aB)).1)), .data (.slice (.slice (.named 1))) ((Tab.Rows ((sUnionAll (toTable aA) (toTable aB)).1)) : List (List Val))]), (40, .box 1 [.int .i64 (Tab.Width ((iUnionAll (toTable aA) (toTable aB)).1)), .tr 168 1]), (168, .tree 1 (.slice (.named 1)) ((Tab.Rows ((iUnionAll (toTable aA) (toTable aB)).1)) : List (List Val)))]⟩ [(((decide ((markValueSS (Tab.Rows (toTable aB)) ((markValueSS (Tab.Rows (toTable aA)) 1).2)).2 < 0)) = false) → (((decide ((markValueSS (Tab.Rows (toTable aB)) ((markValueSS (Tab.Rows (toTable aA)) 1).2)).2 < 0)) = false))), (((decide ((markValueSS (Tab.Rows (toTable aB)) ((markValueSS (Tab.Rows (toTable aA)) 1).2)).2 < 0)) = false) → (((decide ((markValueSS (Tab.Rows (toTable aB)) ((markValueSS (Tab.Rows (toTable aA)) 1).2)).2 < 0)) = false))), (((decide ((markValueSS (Tab.Rows (toTable aB)) ((markValueSS (Tab.Rows (toTable aA)) 1).2)).2 < 0)) = false) → (True)), (((decide ((markValueSS (Tab.Rows (toTable aB)) ((markValueSS (Tab.Rows (toTable aA)) 1).2)).2 < 0)) = false) → (((decide ((markValueSS (Tab.Rows (toTable aB)) ((markValueSS (Tab.Rows (toTable aA)) 1).2)).2 < 0)) = false))), (((decide ((markValueSS (Tab.Rows (toTable aB)) ((markValueSS (Tab.Rows (toTable aA)) 1).2)).2 < 0)) = false) → (((decide ((markValueSS (Tab.Rows (toTable aB)) ((markValueSS (Tab.Rows (toTable aA)) 1).2)).2 < 0)) = false))), (((bif (decide ((markValueSS (Tab.Rows (toTable aB)) ((markValueSS (Tab.Rows (toTable aA)) 1).2)).2 < 0)) then true else (!(eqTable ((iUnionAll (toTable aA) (toTable aB)).1) ((sUnionAll (toTable aA) (toTable aB)).1)))) = false) → (((bif (decide ((markValueSS (Tab.Rows (toTable aB)) ((markValueSS (Tab.Rows (toTable aA)) 1).2)).2 < 0)) then true else (!(eqTable ((iUnionAll (toTable aA) (toTable aB)).1) ((sUnionAll (toTable aA) (toTable aB)).1)))) = false))), (((bif (decide ((markValueSS (Tab.Rows (toTable aB)) ((markValueSS (Tab.Rows (toTable aA)) 1).2)).2 < 0)) then true else (!(eqTable ((iUnionAll (toTable aA) (toTable aB)).1) ((sUnionAll (toTable aA) (toTable aB)).1)))) = false) → (((bif (decide ((markValueSS (Tab.Rows (toTable aB)) ((markValueSS (Tab.Rows (toTable aA)) 1).2)).2 < 0)) then true else (!(eqTable ((iUnionAll (toTable aA) (toTable aB)).1) ((sUnionAll (toTable aA) (toTable aB)).1)))) = false))), (((bif (decide ((markValueSS (Tab.Rows (toTable aB)) ((markValueSS (Tab.Rows (toTable aA)) 1).2)).2 < 0)) then true else (!(eqTable ((iUnionAll (toTable aA) (toTable aB)).1) ((sUnionAll (toTable aA) (toTable aB)).1)))) = false) → (((bif (decide ((markValueSS (Tab.Rows (toTable aB)) ((markValueSS (Tab.Rows (toTable aA)) 1).2)).2 < 0)) then true else (!(eqTable ((iUnionAll (toTable aA) (toTable aB)).1) ((sUnionAll (toTable aA) (toTable aB)).1)))) = false)))] ?_ ?_))
      ·
       refine ⟨?_, ?_, ?_, ?_, ?_, ?_, ?_, ?_, trivial⟩
       ·
        intro g24
        have g24p0 : ¬ ((markValueSS (Tab.Rows (toTable aB)) ((markValueSS (Tab.Rows (toTable aA)) 1).2)).2 < 0) := (of_decide_eq_false g24)
        assumption
       ·
        intro g25
        have g25p0 : ¬ ((markValueSS (Tab.Rows (toTable aB)) ((markValueSS (Tab.Rows (toTable aA)) 1).2)).2 < 0) := (of_decide_eq_false g25)
        assumption
       ·
        intro g26
        have g26p0 : ¬ ((markValueSS (Tab.Rows (toTable aB)) ((markValueSS (Tab.Rows (toTable aA)) 1).2)).2 < 0) := (of_decide_eq_false g26)
        trivial
       ·
        intro g27
        have g27p0 : ¬ ((markValueSS (Tab.Rows (toTable aB)) ((markValueSS (Tab.Rows (toTable aA)) 1).2)).2 < 0) := (of_decide_eq_false g27)
        assumption
       ·
        intro g28
        have g28p0 : ¬ ((markValueSS (Tab.Rows (toTable aB)) ((markValueSS (Tab.Rows (toTable aA)) 1).2)).2 < 0) := (of_decide_eq_false g28)
        assumption
       ·
        intro g29
        have g29p0 : (¬ ((markValueSS (Tab.Rows (toTable aB)) ((markValueSS (Tab.Rows (toTable aA)) 1).2)).2 < 0)) ∧ ((eqTable ((iUnionAll (toTable aA) (toTable aB)).1) ((sUnionAll (toTable aA) (toTable aB)).1)) = true) := (And.imp (fun h => (of_decide_eq_false h)) (fun h => (Go.Am.not_neg h)) (Go.Am.or_neg g29))
        assumption
       ·
        intro g30
        have g30p0 : (¬ ((markValueSS (Tab.Rows (toTable aB)) ((markValueSS (Tab.Rows (toTable aA)) 1).2)).2 < 0)) ∧ ((eqTable ((iUnionAll (toTable aA) (toTable aB)).1) ((sUnionAll (toTable aA) (toTable aB)).1)) = true) := (And.imp (fun h => (of_decide_eq_false h)) (fun h => (Go.Am.not_neg h)) (Go.Am.or_neg g30))
        assumption
       ·
        intro g31
        have g31p0 : (¬ ((markValueSS (Tab.Rows (toTable aB)) ((markValueSS (Tab.Rows (toTable aA)) 1).2)).2 < 0)) ∧ ((eqTable ((iUnionAll (toTable aA) (toTable aB)).1) ((sUnionAll (toTable aA) (toTable aB)).1)) = true) := (And.imp (fun h => (of_decide_eq_false h)) (fun h => (Go.Am.not_neg h)) (Go.Am.or_neg g31))
        assumption
      refine AW.cd (bif (bif (decide ((markValueSS (Tab.Rows (toTable aB)) ((markValueSS (Tab.Rows (toTable aA)) 1).2)).2 < 0)) then true else (!(eqTable ((iUnionAll (toTable aA) (toTable aB)).1) ((sUnionAll (toTable aA) (toTable aB)).1)))) then true else (((iUnionAll (toTable aA) (toTable aB)).2) != ((sUnionAll (toTable aA) (toTable aB)).2))) ?_ ?_
      ·
       intro h32
       have h32q : (((markValueSS (Tab.Rows (toTable aB)) ((markValueSS (Tab.Rows (toTable aA)) 1).2)).2 < 0) ∨ ((eqTable ((iUnionAll (toTable aA) (toTable aB)).1) ((sUnionAll (toTable aA) (toTable aB)).1)) = false)) ∨ ((((iUnionAll (toTable aA) (toTable aB)).2) != ((sUnionAll (toTable aA) (toTable aB)).2)) = true) := (Or.imp (fun h => (Or.imp (fun h => (of_decide_eq_true h)) (fun h => (Go.Am.not_pos h)) (Go.Am.or_pos h))) (fun h => h) (Go.Am.or_pos h32))
       have e33 := e23.trans (Go.Am.bif_t h32)
       refine AW.seq (AW.r1 hC [4] [] ⟨[(4, .bool false)], []⟩ ?_)
       exact AW.ret (AW.retE (β := Bool) (fun v => [⟨.bool, v⟩]) (fun v => []) (v := false) e33 (by kernel_rfl) rfl rfl)
      ·
       intro h34
       have h34q : ((¬ ((markValueSS (Tab.Rows (toTable aB)) ((markValueSS (Tab.Rows (toTable aA)) 1).2)).2 < 0)) ∧ ((eqTable ((iUnionAll (toTable aA) (toTable aB)).1) ((sUnionAll (toTable aA) (toTable aB)).1)) = true)) ∧ ((((iUnionAll (toTable aA) (toTable aB)).2) != ((sUnionAll (toTable aA) (toTable aB)).2)) = false) := (And.imp (fun h => (And.imp (fun h => (of_decide_eq_false h)) (fun h => (Go.Am.not_neg h)) (Go.Am.or_neg h))) (fun h => h) (Go.Am.or_neg h34))
       have e35 := e23.trans (Go.Am.bif_f h34)
       refine AW.kp [2, 3, 6, 7, 10] [8, 12, 24, 40, 168] ⟨[(2, .ref 8 1 0), (3, .ref 12 1 0), (6, .ref 24 1 0), (7, .bool ((sUnionAll (toTable aA) (toTable aB)).2)), (10, .ref 40 1 0)], [(8, .box 1 [.int .i64 (Tab.Width aA), .data (.slice (.slice (.named 1))) ((Tab.Rows aA) : List (List Val))]), (12, .box 1 [.int .i64 (Tab.Width aB), .data (.slice (.slice (.named 1))) ((Tab.Rows aB) : List (List Val))]), (24, .box 1 [.int .i64 (Tab.Width ((sUnionAll (toTable aA) (toTable aB)).1)), .data (.slice (.slice (.named 1))) ((Tab.Rows ((sUnionAll (toTable aA) (toTable aB)).1)) : List (List Val))]), (40, .box 1 [.int .i64 (Tab.Width ((iUnionAll (toTable aA) (toTable aB)).1)), .tr 168 1]), (168, .tree 1 (.slice (.named 1)) ((Tab.Rows ((iUnionAll (toTable aA) (toTable aB)).1)) : List (List Val)))]⟩ ?_
       refine AW.skip (AW.seq (AW.r1 hC [2, 3, 6, 7, 10, 13] [8, 12, 24, 40, 168] ⟨[(2, .ref 8 1 0), (3, .ref 12 1 0), (6, .ref 24 1 0), (7, .bool ((sUnionAll (toTable aA) (toTable aB)).2)), (10, .ref 40 1 0), (13, .int .i64 1)], [(8, .box 1 [.int .i64 (Tab.Width aA), .data (.slice (.slice (.named 1))) ((Tab.Rows aA) : List (List Val))]), (12, .box 1 [.int .i64 (Tab.Width aB), .data (.slice (.slice (.named 1))) ((Tab.Rows aB) : List (List Val))]), (24, .box 1 [.int .i64 (Tab.Width ((sUnionAll (toTable aA) (toTable aB)).1)), .data (.slice (.slice (.named 1))) ((Tab.Rows ((sUnionAll (toTable aA) (toTable aB)).1)) : List (List Val))]), (40, .box 1 [.int .i64 (Tab.Width ((iUnionAll (toTable aA) (toTable aB)).1)), .tr 168 1]), (168, .tree 1 (.slice (.named 1)) ((Tab.Rows ((iUnionAll (toTable aA) (toTable aB)).1)) : List (List Val)))]⟩ ?_))
       refine AW.seq (AW.regionO [0, 1, 2, 3] (by rfl) ?_)
       refine AWO.run hC false [] [0, 1] [2, 3] [2, 3, 6, 7, 10, 83, 84] [8, 12, 24, 40, 168]
        ⟨[(2, .ref 8 1 0), (3, .ref 12 1 0), (6, .ref 24 1 0), (7, .bool ((sUnionAll (toTable aA) (toTable aB)).2)), (10, .ref 40 1 0), (83, .agg [.int .i64 (Tab.Width ((iUnionAll (toTable aA) (toTable aB)).1)), .tr 168 1]), (84, .int .i64 1)], [(8, .box 1 [.int .i64 (Tab.Width aA), .data (.slice (.slice (.named 1))) ((Tab.Rows aA) : List (List Val))]), (12, .box 1 [.int .i64 (Tab.Width aB), .data (.slice (.slice (.named 1))) ((Tab.Rows aB) : List (List Val))]), (24, .box 1 [.int .i64 (Tab.Width ((sUnionAll (toTable aA) (toTable aB)).1)), .data (.slice (.slice (.named 1))) ((Tab.Rows ((sUnionAll (toTable aA) (toTable aB)).1)) : List (List Val))]), (40, .box 1 [.int .i64 (Tab.Width ((iUnionAll (toTable aA) (toTable aB)).1)), .tr 168 1]), (168, .tree 1 (.slice (.named 1)) ((Tab.Rows ((iUnionAll (toTable aA) (toTable aB)).1)) : List (List Val)))]⟩
        [] (by rfl) (by kernel_rfl) ?_ ?_
       ·
        exact trivial
       refine AWO.call hC.ty (vs := [.agg [.int .i64 (Tab.Width ((iUnionAll (toTable aA) (toTable aB)).1)), .tr 168 1], .int .i64 1]) (caps := []) (by rfl) rfl (.inl rfl) (by decide) (by kernel_rfl) (by kernel_rfl) Try.func25 (by kernel_rfl) rfl (by kernel_rfl) ?_
       intro o1 ho1
       refine AW.kp [0, 1, 1002, 1003, 1006, 1007, 1010] [8, 12, 24, 40, 168] ⟨[(0, .agg [.int .i64 (Tab.Width ((iUnionAll (toTable aA) (toTable aB)).1)), .tr 168 1]), (1, .int .i64 1), (1002, .ref 8 1 0), (1003, .ref 12 1 0), (1006, .ref 24 1 0), (1007, .bool ((sUnionAll (toTable aA) (toTable aB)).2)), (1010, .ref 40 1 0)], [(8, .box 1 [.int .i64 (Tab.Width aA), .data (.slice (.slice (.named 1))) ((Tab.Rows aA) : List (List Val))]), (12, .box 1 [.int .i64 (Tab.Width aB), .data (.slice (.slice (.named 1))) ((Tab.Rows aB) : List (List Val))]), (24, .box 1 [.int .i64 (Tab.Width ((sUnionAll (toTable aA) (toTable aB)).1)), .data (.slice (.slice (.named 1))) ((Tab.Rows ((sUnionAll (toTable aA) (toTable aB)).1)) : List (List Val))]), (40, .box 1 [.int .i64 (Tab.Width ((iUnionAll (toTable aA) (toTable aB)).1)), .tr 168 1]), (168, .tree 1 (.slice (.named 1)) ((Tab.Rows ((iUnionAll (toTable aA) (toTable aB)).1)) : List (List Val)))]⟩ ?_
       refine AW.seq (AW.r1 hC1 [1, 2, 1002, 1003, 1006, 1007, 1010] [8, 12, 24, 40, 168, 4008] ⟨[(1, .int .i64 1), (2, .ref 4008 1 0), (1002, .ref 8 1 0), (1003, .ref 12 1 0), (1006, .ref 24 1 0), (1007, .bool ((sUnionAll (toTable aA) (toTable aB)).2)), (1010, .ref 40 1 0)], [(8, .box 1 [.int .i64 (Tab.Width aA), .data (.slice (.slice (.named 1))) ((Tab.Rows aA) : List (List Val))]), (12, .box 1 [.int .i64 (Tab.Width aB), .data (.slice (.slice (.named 1))) ((Tab.Rows aB) : List (List Val))]), (24, .box 1 [.int .i64 (Tab.Width ((sUnionAll (toTable aA) (toTable aB)).1)), .data (.slice (.slice (.named 1))) ((Tab.Rows ((sUnionAll (toTable aA) (toTable aB)).1)) : List (List Val))]), (40, .box 1 [.int .i64 (Tab.Width ((iUnionAll (toTable aA) (toTable aB)).1)), .tr 168 1]), (168, .tree 1 (.slice (.named 1)) ((Tab.Rows ((iUnionAll (toTable aA) (toTable aB)).1)) : List (List Val))), (4008, .box 1 [.int .i64 (Tab.Width ((iUnionAll (toTable aA) (toTable aB)).1)), .tr 168 1])]⟩ ?_)
       refine AW.seq (AW.regionO [0, 1, 2, 3, 4] (by rfl) ?_)
       refine AWO.run hC1 false [] [0, 1, 2] [3, 4] [6, 7, 1002, 1003, 1006, 1007, 1010] [8, 12, 24, 40, 168]
        ⟨[(6, .tr 168 1), (7, .int .i64 1), (1002, .ref 8 1 0), (1003, .ref 12 1 0), (1006, .ref 24 1 0), (1007, .bool ((sUnionAll (toTable aA) (toTable aB)).2)), (1010, .ref 40 1 0)], [(8, .box 1 [.int .i64 (Tab.Width aA), .data (.slice (.slice (.named 1))) ((Tab.Rows aA) : List (List Val))]), (12, .box 1 [.int .i64 (Tab.Width aB), .data (.slice (.slice (.named 1))) ((Tab.Rows aB) : List (List Val))]), (24, .box 1 [.int .i64 (Tab.Width ((sUnionAll (toTable aA) (toTable aB)).1)), .data (.slice (.slice (.named 1))) ((Tab.Rows ((sUnionAll (toTable aA) (toTable aB)).1)) : List (List Val))]), (40, .box 1 [.int .i64 (Tab.Width ((iUnionAll (toTable aA) (toTable aB)).1)), .tr 168 1]), (168, .tree 1 (.slice (.named 1)) ((Tab.Rows ((iUnionAll (toTable aA) (toTable aB)).1)) : List (List Val)))]⟩
        [] (by rfl) (by kernel_rfl) ?_ ?_
       ·
        exact trivial
       refine AWO.mark (u := (.slice (.named 1))) (id := 168) (ep := 1) (xs := ((Tab.Rows ((iUnionAll (toTable aA) (toTable aB)).1)) : List (List Val))) (k := 1) markValueSS_ok (by rfl) (by rfl) (by kernel_rfl) (by kernel_rfl) (by kernel_rfl) (by kernel_rfl) ?_ ?_
       ·
        show True
        assumption
       refine AWO.keep [8, 1002, 1003, 1006, 1007, 1010] [8, 12, 24, 40, 168] ⟨[(8, .int .i64 (markValueSS (Tab.Rows ((iUnionAll (toTable aA) (toTable aB)).1)) 1).2), (1002, .ref 8 1 0), (1003, .ref 12 1 0), (1006, .ref 24 1 0), (1007, .bool ((sUnionAll (toTable aA) (toTable aB)).2)), (1010, .ref 40 1 0)], [(8, .box 1 [.int .i64 (Tab.Width aA), .data (.slice (.slice (.named 1))) ((Tab.Rows aA) : List (List Val))]), (12, .box 1 [.int .i64 (Tab.Width aB), .data (.slice (.slice (.named 1))) ((Tab.Rows aB) : List (List Val))]), (24, .box 1 [.int .i64 (Tab.Width ((sUnionAll (toTable aA) (toTable aB)).1)), .data (.slice (.slice (.named 1))) ((Tab.Rows ((sUnionAll (toTable aA) (toTable aB)).1)) : List (List Val))]), (40, .box 1 [.int .i64 (Tab.Width ((iUnionAll (toTable aA) (toTable aB)).1)), .tr 168 1]), (168, .tree 1 (.slice (.named 1)) ((markValueSS (Tab.Rows ((iUnionAll (toTable aA) (toTable aB)).1)) 1).1 : List (List Val)))]⟩ (by kernel_rfl) ?_
       refine AWO.run hC1 false [] [4] [] [1, 1002, 1003, 1006, 1007, 1010] [8, 12, 24, 40, 168]
        ⟨[(1, .int .i64 (markValueSS (Tab.Rows ((iUnionAll (toTable aA) (toTable aB)).1)) 1).2), (1002, .ref 8 1 0), (1003, .ref 12 1 0), (1006, .ref 24 1 0), (1007, .bool ((sUnionAll (toTable aA) (toTable aB)).2)), (1010, .ref 40 1 0)], [(8, .box 1 [.int .i64 (Tab.Width aA), .data (.slice (.slice (.named 1))) ((Tab.Rows aA) : List (List Val))]), (12, .box 1 [.int .i64 (Tab.Width aB), .data (.slice (.slice (.named 1))) ((Tab.Rows aB) : List (List Val))]), (24, .box 1 [.int .i64 (Tab.Width ((sUnionAll (toTable aA) (toTable aB)).1)), .data (.slice (.slice (.named 1))) ((Tab.Rows ((sUnionAll (toTable aA) (toTable aB)).1)) : List (List Val))]), (40, .box 1 [.int .i64 (Tab.Width ((iUnionAll (toTable aA) (toTable aB)).1)), .tr 168 1]), (168, .tree 1 (.slice (.named 1)) ((markValueSS (Tab.Rows ((iUnionAll (toTable aA) (toTable aB)).1)) 1).1 : List (List Val)))]⟩
        [] (by rfl) (by kernel_rfl) ?_ ?_
       ·
        exact trivial
       refine AWO.nil ?_
       refine AW.seq (AW.r1 hC1 [4, 1002, 1003, 1006, 1007, 1010] [8, 12, 24, 40, 168] ⟨[(4, .int .i64 (markValueSS (Tab.Rows ((iUnionAll (toTable aA) (toTable aB)).1)) 1).2), (1002, .ref 8 1 0), (1003, .ref 12 1 0), (1006, .ref 24 1 0), (1007, .bool ((sUnionAll (toTable aA) (toTable aB)).2)), (1010, .ref 40 1 0)], [(8, .box 1 [.int .i64 (Tab.Width aA), .data (.slice (.slice (.named 1))) ((Tab.Rows aA) : List (List Val))]), (12, .box 1 [.int .i64 (Tab.Width aB), .data (.slice (.slice (.named 1))) ((Tab.Rows aB) : List (List Val))]), (24, .box 1 [.int .i64 (Tab.Width ((sUnionAll (toTable aA) (toTable aB)).1)), .data (.slice (.slice (.named 1))) ((Tab.Rows ((sUnionAll (toTable aA) (toTable aB)).1)) : List (List Val))]), (40, .box 1 [.int .i64 (Tab.Width ((iUnionAll (toTable aA) (toTable aB)).1)), .tr 168 1]), (168, .tree 1 (.slice (.named 1)) ((markValueSS (Tab.Rows ((iUnionAll (toTable aA) (toTable aB)).1)) 1).1 : List (List Val)))]⟩ ?_)
       refine AW.ret ?_
       refine ⟨[.int .i64 (markValueSS (Tab.Rows ((iUnionAll (toTable aA) (toTable aB)).1)) 1).2], by kernel_rfl, ?_⟩
       refine AWO.keep [2, 3, 6, 7, 10, 85] [8, 12, 24, 40, 168] ⟨[(2, .ref 8 1 0), (3, .ref 12 1 0), (6, .ref 24 1 0), (7, .bool ((sUnionAll (toTable aA) (toTable aB)).2)), (10, .ref 40 1 0), (85, .int .i64 (markValueSS (Tab.Rows ((iUnionAll (toTable aA) (toTable aB)).1)) 1).2)], [(8, .box 1 [.int .i64 (Tab.Width aA), .data (.slice (.slice (.named 1))) ((Tab.Rows aA) : List (List Val))]), (12, .box 1 [.int .i64 (Tab.Width aB), .data (.slice (.slice (.named 1))) ((Tab.Rows aB) : List (List Val))]), (24, .box 1 [.int .i64 (Tab.Width ((sUnionAll (toTable aA) (toTable aB)).1)), .data (.slice (.slice (.named 1))) ((Tab.Rows ((sUnionAll (toTable aA) (toTable aB)).1)) : List (List Val))]), (40, .box 1 [.int .i64 (Tab.Width ((iUnionAll (toTable aA) (toTable aB)).1)), .tr 168 1]), (168, .tree 1 (.slice (.named 1)) ((markValueSS (Tab.Rows ((iUnionAll (toTable aA) (toTable aB)).1)) 1).1 : List (List Val)))]⟩ (by kernel_rfl) ?_
       refine AWO.run hC false [] [3] [] [2, 3, 6, 7, 10, 13] [8, 12, 24, 40, 168]
        ⟨[(2, .ref 8 1 0), (3, .ref 12 1 0), (6, .ref 24 1 0), (7, .bool ((sUnionAll (toTable aA) (toTable aB)).2)), (10, .ref 40 1 0), (13, .int .i64 (markValueSS (Tab.Rows ((iUnionAll (toTable aA) (toTable aB)).1)) 1).2)], [(8, .box 1 [.int .i64 (Tab.Width aA), .data (.slice (.slice (.named 1))) ((Tab.Rows aA) : List (List Val))]), (12, .box 1 [.int .i64 (Tab.Width aB), .data (.slice (.slice (.named 1))) ((Tab.Rows aB) : List (List Val))]), (24, .box 1 [.int .i64 (Tab.Width ((sUnionAll (toTable aA) (toTable aB)).1)), .data (.slice (.slice (.named 1))) ((Tab.Rows ((sUnionAll (toTable aA) (toTable aB)).1)) : List (List Val))]), (40, .box 1 [.int .i64 (Tab.Width ((iUnionAll (toTable aA) (toTable aB)).1)), .tr 168 1]), (168, .tree 1 (.slice (.named 1)) ((markValueSS (Tab.Rows ((iUnionAll (toTable aA) (toTable aB)).1)) 1).1 : List (List Val)))]⟩
        [] (by rfl) (by kernel_rfl) ?_ ?_
       ·
        exact trivial
       refine AWO.nil ?_
       refine AW.seq (AW.r1 hC [2, 3, 6, 7, 10, 13, 14] [8, 12, 24, 40, 168] ⟨[(2, .ref 8 1 0), (3, .ref 12 1 0), (6, .ref 24 1 0), (7, .bool ((sUnionAll (toTable aA) (toTable aB)).2)), (10, .ref 40 1 0), (13, .int .i64 (markValueSS (Tab.Rows ((iUnionAll (toTable aA) (toTable aB)).1)) 1).2), (14, .int .i64 1)], [(8, .box 1 [.int .i64 (Tab.Width aA), .data (.slice (.slice (.named 1))) ((Tab.Rows aA) : List (List Val))]), (12, .box 1 [.int .i64 (Tab.Width aB), .data (.slice (.slice (.named 1))) ((Tab.Rows aB) : List (List Val))]), (24, .box 1 [.int .i64 (Tab.Width ((sUnionAll (toTable aA) (toTable aB)).1)), .data (.slice (.slice (.named 1))) ((Tab.Rows ((sUnionAll (toTable aA) (toTable aB)).1)) : List (List Val))]), (40, .box 1 [.int .i64 (Tab.Width ((iUnionAll (toTable aA) (toTable aB)).1)), .tr 168 1]), (168, .tree 1 (.slice (.named 1)) ((markValueSS (Tab.Rows ((iUnionAll (toTable aA) (toTable aB)).1)) 1).1 : List (List Val)))]⟩ ?_)
       refine AW.seq (AW.r0 hC [2, 3, 6, 7, 10, 13, 14] [8, 12, 24, 40, 168] ⟨[(2, .ref 8 1 0), (3, .ref 12 1 0), (6, .ref 24 1 0), (7, .bool ((sUnionAll (toTable aA) (toTable aB)).2)), (10, .ref 40 1 0), (13, .int .i64 (markValueSS (Tab.Rows ((iUnionAll (toTable aA) (toTable aB)).1)) 1).2), (14, .int .i64 (heldTable (Tab.mk (Tab.Width ((iUnionAll (toTable aA) (toTable aB)).1)) ((markValueSS (Tab.Rows ((iUnionAll (toTable aA) (toTable aB)).1)) 1).1)) 1))], [(8, .box 1 [.int .i64 (Tab.Width aA), .data (.slice (.slice (.named 1))) ((Tab.Rows aA) : List (List Val))]), (12, .box 1 [.int .i64 (Tab.Width aB), .data (.slice (.slice (.named 1))) ((Tab.Rows aB) : List (List Val))]), (24, .box 1 [.int .i64 (Tab.Width ((sUnionAll (toTable aA) (toTable aB)).1)), .data (.slice (.slice (.named 1))) ((Tab.Rows ((sUnionAll (toTable aA) (toTable aB)).1)) : List (List Val))]), (40, .box 1 [.int .i64 (Tab.Width ((iUnionAll (toTable aA) (toTable aB)).1)), .tr 168 1]), (168, .tree 1 (.slice (.named 1)) ((markValueSS (Tab.Rows ((iUnionAll (toTable aA) (toTable aB)).1)) 1).1 : List (List Val)))]⟩ [(True)] ?_ ?_)
       ·
        refine ⟨?_, trivial⟩
        ·
         trivial
       refine AW.seq (AW.seq (AW.r1 hC [2, 3, 6, 7, 10, 13, 14, 90] [8, 12, 24, 40, 168] ⟨[(2, .ref 8 1 0), (3, .ref 12 1 0), (6, .ref 24 1 0), (7, .bool ((sUnionAll (toTable aA) (toTable aB)).2)), (10, .ref 40 1 0), (13, .int .i64 (markValueSS (Tab.Rows ((iUnionAll (toTable aA) (toTable aB)).1)) 1).2), (14, .int .i64 (heldTable (Tab.mk (Tab.Width ((iUnionAll (toTable aA) (toTable aB)).1)) ((markValueSS (Tab.Rows ((iUnionAll (toTable aA) (toTable aB)).1)) 1).1)) 1)), (90, .bool (decide ((heldTable (Tab.mk (Tab.Width ((iUnionAll (toTable aA) (toTable aB)).1)) ((markValueSS (Tab.Rows ((iUnionAll (toTable aA) (toTable aB)).1)) 1).1)) 1) < 0)))], [(8, .box 1 [.int .i64 (Tab.Width aA), .data (.slice (.slice (.named 1))) ((Tab.Rows aA) : List (List Val))]), (12, .box 1 [.int .i64 (Tab.Width aB), .data (.slice (.slice (.named 1))) ((Tab.Rows aB) : List (List Val))]), (24, .box 1 [.int .i64 (Tab.Width ((sUnionAll (toTable aA) (toTable aB)).1)), .data (.slice (.slice (.named 1))) ((Tab.Rows ((sUnionAll (toTable aA) (toTable aB)).1)) : List (List Val))]), (40, .box 1 [.int .i64 (Tab.Width ((iUnionAll (toTable aA) (toTable aB)).1)), .tr 168 1]), (168, .tree 1 (.slice (.named 1)) ((markValueSS (Tab.Rows ((iUnionAll (toTable aA) (toTable aB)).1)) 1).1 : List (List Val)))]⟩ ?_))
       refine AW.cd (decide ((heldTable (Tab.mk (Tab.Width ((iUnionAll (toTable aA) (toTable aB)).1)) ((markValueSS (Tab.Rows ((iUnionAll (toTable aA) (toTable aB)).1)) 1).1)) 1) < 0)) ?_ ?_
       ·
        intro h36
        have h36q : (heldTable (Tab.mk (Tab.Width ((iUnionAll (toTable aA) (toTable aB)).1)) ((markValueSS (Tab.Rows ((iUnionAll (toTable aA) (toTable aB)).1)) 1).1)) 1) < 0 := (of_decide_eq_true h36)
        have e37 := e35.trans (Go.Am.bif_t h36)
        refine AW.seq (AW.r1 hC [4] [] ⟨[(4, .bool false)], []⟩ ?_)
        exact AW.ret (AW.retE (β := Bool) (fun v => [⟨.bool, v⟩]) (fun v => []) (v := false) e37 (by kernel_rfl) rfl rfl)
       ·
        intro h38
        have h38q : ¬ ((heldTable (Tab.mk (Tab.Width ((iUnionAll (toTable aA) (toTable aB)).1)) ((markValueSS (Tab.Rows ((iUnionAll (toTable aA) (toTable aB)).1)) 1).1)) 1) < 0) := (of_decide_eq_false h38)
        have e39 := e35.trans (Go.Am.bif_f h38)
        refine AW.kp [2, 3, 6, 7, 10, 13, 14] [8, 12, 24, 40, 168] ⟨[(2, .ref 8 1 0), (3, .ref 12 1 0), (6, .ref 24 1 0), (7, .bool ((sUnionAll (toTable aA) (toTable aB)).2)), (10, .ref 40 1 0), (13, .int .i64 (markValueSS (Tab.Rows ((iUnionAll (toTable aA) (toTable aB)).1)) 1).2), (14, .int .i64 (heldTable (Tab.mk (Tab.Width ((iUnionAll (toTable aA) (toTable aB)).1)) ((markValueSS (Tab.Rows ((iUnionAll (toTable aA) (toTable aB)).1)) 1).1)) 1))], [(8, .box 1 [.int .i64 (Tab.Width aA), .data (.slice (.slice (.named 1))) ((Tab.Rows aA) : List (List Val))]), (12, .box 1 [.int .i64 (Tab.Width aB), .data (.slice (.slice (.named 1))) ((Tab.Rows aB) : List (List Val))]), (24, .box 1 [.int .i64 (Tab.Width ((sUnionAll (toTable aA) (toTable aB)).1)), .data (.slice (.slice (.named 1))) ((Tab.Rows ((sUnionAll (toTable aA) (toTable aB)).1)) : List (List Val))]), (40, .box 1 [.int .i64 (Tab.Width ((iUnionAll (toTable aA) (toTable aB)).1)), .tr 168 1]), (168, .tree 1 (.slice (.named 1)) ((markValueSS (Tab.Rows ((iUnionAll (toTable aA) (toTable aB)).1)) 1).1 : List (List Val)))]⟩ ?_
        refine AW.skip (AW.seq (AW.seq (AW.r1 hC [2, 3, 6, 7, 10, 13, 93] [8, 12, 24, 40, 168] ⟨[(2, .ref 8 1 0), (3, .ref 12 1 0), (6, .ref 24 1 0), (7, .bool ((sUnionAll (toTable aA) (toTable aB)).2)), (10, .ref 40 1 0), (13, .int .i64 (markValueSS (Tab.Rows ((iUnionAll (toTable aA) (toTable aB)).1)) 1).2), (93, .bool ((heldTable (Tab.mk (Tab.Width ((iUnionAll (toTable aA) (toTable aB)).1)) ((markValueSS (Tab.Rows ((iUnionAll (toTable aA) (toTable aB)).1)) 1).1)) 1) != (markValueSS (Tab.Rows ((iUnionAll (toTable aA) (toTable aB)).1)) 1).2))], [(8, .box 1 [.int .i64 (Tab.Width aA), .data (.slice (.slice (.named 1))) ((Tab.Rows aA) : List (List Val))]), (12, .box 1 [.int .i64 (Tab.Width aB), .data (.slice (.slice (.named 1))) ((Tab.Rows aB) : List (List Val))]), (24, .box 1 [.int .i64 (Tab.Width ((sUnionAll (toTable aA) (toTable aB)).1)), .data (.slice (.slice (.named 1))) ((Tab.Rows ((sUnionAll (toTable aA) (toTable aB)).1)) : List (List Val))]), (40, .box 1 [.int .i64 (Tab.Width ((iUnionAll (toTable aA) (toTable aB)).1)), .tr 168 1]), (168, .tree 1 (.slice (.named 1)) ((markValueSS (Tab.Rows ((iUnionAll (toTable aA) (toTable aB)).1)) 1).1 : List (List Val)))]⟩ ?_)))
        refine AW.cd ((heldTable (Tab.mk (Tab.Width ((iUnionAll (toTable aA) (toTable aB)).1)) ((markValueSS (Tab.Rows ((iUnionAll (toTable aA) (toTable aB)).1)) 1).1)) 1) != (markValueSS (Tab.Rows ((iUnionAll (toTable aA) (toTable aB)).1)) 1).2) ?_ ?_
        ·
         intro h40
         have h40q : (heldTable (Tab.mk (Tab.Width ((iUnionAll (toTable aA) (toTable aB)).1)) ((markValueSS (Tab.Rows ((iUnionAll (toTable aA) (toTable aB)).1)) 1).1)) 1) ≠ (markValueSS (Tab.Rows ((iUnionAll (toTable aA) (toTable aB)).1)) 1).2 := (Go.Am.bne_pos h40)
         have e41 := e39.trans (Go.Am.bif_t h40)
         refine AW.seq (AW.r1 hC [4] [] ⟨[(4, .bool false)], []⟩ ?_)
         exact AW.ret (AW.retE (β := Bool) (fun v => [⟨.bool, v⟩]) (fun v => []) (v := false) e41 (by kernel_rfl) rfl rfl)
        ·
         intro h42
         have h42q : (heldTable (Tab.mk (Tab.Width ((iUnionAll (toTable aA) (toTable aB)).1)) ((markValueSS (Tab.Rows ((iUnionAll (toTable aA) (toTable aB)).1)) 1).1)) 1) = (markValueSS (Tab.Rows ((iUnionAll (toTable aA) (toTable aB)).1)) 1).2 := (Go.Am.bne_neg h42)
         have e43 := e39.trans (Go.Am.bif_f h42)
         refine AW.kp [2, 3, 6, 7, 10, 13] [8, 12, 24, 40, 168] ⟨[(2, .ref 8 1 0), (3, .ref 12 1 0), (6, .ref 24 1 0), (7, .bool ((sUnionAll (toTable aA) (toTable aB)).2)), (10, .ref 40 1 0), (13, .int .i64 (markValueSS (Tab.Rows ((iUnionAll (toTable aA) (toTable aB)).1)) 1).2)], [(8, .box 1 [.int .i64 (Tab.Width aA), .data (.slice (.slice (.named 1))) ((Tab.Rows aA) : List (List Val))]), (12, .box 1 [.int .i64 (Tab.Width aB), .data (.slice (.slice (.named 1))) ((Tab.Rows aB) : List (List Val))]), (24, .box 1 [.int .i64 (Tab.Width ((sUnionAll (toTable aA) (toTable aB)).1)), .data (.slice (.slice (.named 1))) ((Tab.Rows ((sUnionAll (toTable aA) (toTable aB)).1)) : List (List Val))]), (40, .box 1 [.int .i64 (Tab.Width ((iUnionAll (toTable aA) (toTable aB)).1)), .tr 168 1]), (168, .tree 1 (.slice (.named 1)) ((markValueSS (Tab.Rows ((iUnionAll (toTable aA) (toTable aB)).1)) 1).1 : List (List Val)))]⟩ ?_
         refine AW.skip (AW.seq (AW.d0 hC hM [6, 7, 10, 13, 15, 16] [24, 40, 60, 168, 396] ⟨[(6, .ref 24 1 0), (7, .bool ((sUnionAll (toTable aA) (toTable aB)).2)), (10, .ref 40 1 0), (13, .int .i64 (markValueSS (Tab.Rows ((iUnionAll (toTable aA) (toTable aB)).1)) 1).2), (15, .ref 60 1 0), (16, .bool ((iUnionAll (toTable aA) (toTable aB)).2))], [(24, .box 1 [.int .i64 (Tab.Width ((sUnionAll (toTable aA) (toTable aB)).1)), .data (.slice (.slice (.named 1))) ((Tab.Rows ((sUnionAll (toTable aA) (toTable aB)).1)) : List (List Val))]), (40, .box 1 [.int .i64 (Tab.Width ((iUnionAll (toTable aA) (toTable aB)).1)), .tr 168 1]), (60, .box 1 [.int .i64 (Tab.Width ((iUnionAll (toTable aA) (toTable aB)).1)), .tr 396 1]), (168, .tree 1 (.slice (.named 1)) ((markValueSS (Tab.Rows ((iUnionAll (toTable aA) (toTable aB)).1)) 1).1 : List (List Val))), (396, .tree 1 (.slice (.named 1)) ((Tab.Rows ((iUnionAll (toTable aA) (toTable aB)).1)) : List (List Val)))]⟩ [((List.length aA.Rows : Int) ≤ 1048576 ∧ ∀ i : Nat, i < List.length aA.Rows → (List.length (List.getD aA.Rows i []) : Int) ≤ 1048576), ((List.length aB.Rows : Int) ≤ 1048576 ∧ ∀ i : Nat, i < List.length aB.Rows → (List.length (List.getD aB.Rows i []) : Int) ≤ 1048576), (True)] ?_ ?_))
         ·
          refine ⟨?_, ?_, ?_, trivial⟩
          ·
           exact szTable_fit (by assumption)
          ·
           exact szTable_fit2 (a := aA) (by assumption) (by assumption)
          ·
           trivial
         refine AW.seq (AW.seq (AW.r0 hC [10, 13, 110] [40, 168] ⟨[(10, .ref 40 1 0), (13, .int .i64 (markValueSS (Tab.Rows ((iUnionAll (toTable aA) (toTable aB)).1)) 1).2), (110, .bool (bif (!(eqTable ((iUnionAll (toTable aA) (toTable aB)).1) ((sUnionAll (toTable aA) (toTable aB)).1))) then true else (((iUnionAll (toTable aA) (toTable aB)).2) != ((sUnionAll (toTable aA) (toTable aB)).2))))], [(40, .box 1 [.int .i64 (Tab.Width ((iUnionAll (toTable aA) (toTable aB)).1)), .tr 168 1]), (168, .tree 1 (.slice (.named 1)) ((markValueSS (Tab.Rows ((iUnionAll (toTable aA) (toTable aB)).1)) 1).1 : List (List Val)))]⟩ [(True), (((!(eqTable ((iUnionAll (toTable aA) (toTable aB)).1) ((sUnionAll (toTable aA) (toTable aB)).1))) = false) → (((!(eqTable ((iUnionAll (toTable aA) (toTable aB)).1) ((sUnionAll (toTable aA) (toTable aB)).1))) = false))), (((!(eqTable ((iUnionAll (toTable aA) (toTable aB)).1) ((sUnionAll (toTable aA) (toTable aB)).1))) = false) → (((!(eqTable ((iUnionAll (toTable aA) (toTable aB)).1) ((sUnionAll (toTable aA) (toTable aB)).1))) = false))), (((!(eqTable ((iUnionAll (toTable aA) (toTable aB)).1) ((sUnionAll (toTable aA) (toTable aB)).1))) = false) → (((!(eqTable ((iUnionAll (toTable aA) (toTable aB)).1) ((sUnionAll (toTable aA) (toTable aB)).1))) = false)))] ?_ ?_))
         ·
          refine ⟨?_, ?_, ?_, ?_, trivial⟩
          ·
           trivial
          ·
           intro g44
           have g44p0 : (eqTable ((iUnionAll (toTable aA) (toTable aB)).1) ((sUnionAll (toTable aA) (toTable aB)).1)) = true := (Go.Am.not_neg g44)
           assumption
          ·
           intro g45
           have g45p0 : (eqTable ((iUnionAll (toTable aA) (toTable aB)).1) ((sUnionAll (toTable aA) (toTable aB)).1)) = true := (Go.Am.not_neg g45)
           assumption
          ·
           intro g46
           have g46p0 : (eqTable ((iUnionAll (toTable aA) (toTable aB)).1) ((sUnionAll (toTable aA) (toTable aB)).1)) = true := (Go.Am.not_neg g46)
           assumption
         refine AW.cd (bif (!(eqTable ((iUnionAll (toTable aA) (toTable aB)).1) ((sUnionAll (toTable aA) (toTable aB)).1))) then true else (((iUnionAll (toTable aA) (toTable aB)).2) != ((sUnionAll (toTable aA) (toTable aB)).2))) ?_ ?_
         ·
          intro h47
          have h47q : ((eqTable ((iUnionAll (toTable aA) (toTable aB)).1) ((sUnionAll (toTable aA) (toTable aB)).1)) = false) ∨ ((((iUnionAll (toTable aA) (toTable aB)).2) != ((sUnionAll (toTable aA) (toTable aB)).2)) = true) := (Or.imp (fun h => (Go.Am.not_pos h)) (fun h => h) (Go.Am.or_pos h47))
          have e48 := e43.trans (Go.Am.bif_t h47)
          refine AW.seq (AW.r1 hC [4] [] ⟨[(4, .bool false)], []⟩ ?_)
          exact AW.ret (AW.retE (β := Bool) (fun v => [⟨.bool, v⟩]) (fun v => []) (v := false) e48 (by kernel_rfl) rfl rfl)
         ·
          intro h49
          have h49q : ((eqTable ((iUnionAll (toTable aA) (toTable aB)).1) ((sUnionAll (toTable aA) (toTable aB)).1)) = true) ∧ ((((iUnionAll (toTable aA) (toTable aB)).2) != ((sUnionAll (toTable aA) (toTable aB)).2)) = false) := (And.imp (fun h => (Go.Am.not_neg h)) (fun h => h) (Go.Am.or_neg h49))
          have e50 := e43.trans (Go.Am.bif_f h49)
          refine AW.kp [10, 13] [40, 168] ⟨[(10, .ref 40 1 0), (13, .int .i64 (markValueSS (Tab.Rows ((iUnionAll (toTable aA) (toTable aB)).1)) 1).2)], [(40, .box 1 [.int .i64 (Tab.Width ((iUnionAll (toTable aA) (toTable aB)).1)), .tr 168 1]), (168, .tree 1 (.slice (.named 1)) ((markValueSS (Tab.Rows ((iUnionAll (toTable aA) (toTable aB)).1)) 1).1 : List (List Val)))]⟩ ?_
          refine AW.skip (AW.seq (AW.r1 hC [10, 13, 14] [40, 168] ⟨[(10, .ref 40 1 0), (13, .int .i64 (markValueSS (Tab.Rows ((iUnionAll (toTable aA) (toTable aB)).1)) 1).2), (14, .int .i64 1)], [(40, .box 1 [.int .i64 (Tab.Width ((iUnionAll (toTable aA) (toTable aB)).1)), .tr 168 1]), (168, .tree 1 (.slice (.named 1)) ((markValueSS (Tab.Rows ((iUnionAll (toTable aA) (toTable aB)).1)) 1).1 : List (List Val)))]⟩ ?_))
          refine AW.seq (AW.r0 hC [13, 14] [] ⟨[(13, .int .i64 (markValueSS (Tab.Rows ((iUnionAll (toTable aA) (toTable aB)).1)) 1).2), (14, .int .i64 (heldTable (Tab.mk (Tab.Width ((iUnionAll (toTable aA) (toTable aB)).1)) ((markValueSS (Tab.Rows ((iUnionAll (toTable aA) (toTable aB)).1)) 1).1)) 1))], []⟩ [(True)] ?_ ?_)
          ·
           refine ⟨?_, trivial⟩
           ·
            trivial
          refine AW.seq (AW.seq (AW.r1 hC [13, 14, 115] [] ⟨[(13, .int .i64 (markValueSS (Tab.Rows ((iUnionAll (toTable aA) (toTable aB)).1)) 1).2), (14, .int .i64 (heldTable (Tab.mk (Tab.Width ((iUnionAll (toTable aA) (toTable aB)).1)) ((markValueSS (Tab.Rows ((iUnionAll (toTable aA) (toTable aB)).1)) 1).1)) 1)), (115, .bool (decide ((heldTable (Tab.mk (Tab.Width ((iUnionAll (toTable aA) (toTable aB)).1)) ((markValueSS (Tab.Rows ((iUnionAll (toTable aA) (toTable aB)).1)) 1).1)) 1) < 0)))], []⟩ ?_))
          refine AW.cd (decide ((heldTable (Tab.mk (Tab.Width ((iUnionAll (toTable aA) (toTable aB)).1)) ((markValueSS (Tab.Rows ((iUnionAll (toTable aA) (toTable aB)).1)) 1).1)) 1) < 0)) ?_ ?_
          ·
           intro h51
           have h51q : (heldTable (Tab.mk (Tab.Width ((iUnionAll (toTable aA) (toTable aB)).1)) ((markValueSS (Tab.Rows ((iUnionAll (toTable aA) (toTable aB)).1)) 1).1)) 1) < 0 := (of_decide_eq_true h51)
           have e52 := e50.trans (Go.Am.bif_t h51)
           refine AW.seq (AW.r1 hC [4] [] ⟨[(4, .bool false)], []⟩ ?_)
           exact AW.ret (AW.retE (β := Bool) (fun v => [⟨.bool, v⟩]) (fun v => []) (v := false) e52 (by kernel_rfl) rfl rfl)
          ·
           intro h53
           have h53q : ¬ ((heldTable (Tab.mk (Tab.Width ((iUnionAll (toTable aA) (toTable aB)).1)) ((markValueSS (Tab.Rows ((iUnionAll (toTable aA) (toTable aB)).1)) 1).1)) 1) < 0) := (of_decide_eq_false h53)
           have e54 := e50.trans (Go.Am.bif_f h53)
           refine AW.kp [13, 14] [] ⟨[(13, .int .i64 (markValueSS (Tab.Rows ((iUnionAll (toTable aA) (toTable aB)).1)) 1).2), (14, .int .i64 (heldTable (Tab.mk (Tab.Width ((iUnionAll (toTable aA) (toTable aB)).1)) ((markValueSS (Tab.Rows ((iUnionAll (toTable aA) (toTable aB)).1)) 1).1)) 1))], []⟩ ?_
           refine AW.skip (AW.seq (AW.seq (AW.r1 hC [118] [] ⟨[(118, .bool ((heldTable (Tab.mk (Tab.Width ((iUnionAll (toTable aA) (toTable aB)).1)) ((markValueSS (Tab.Rows ((iUnionAll (toTable aA) (toTable aB)).1)) 1).1)) 1) != (markValueSS (Tab.Rows ((iUnionAll (toTable aA) (toTable aB)).1)) 1).2))], []⟩ ?_)))
           refine AW.cd ((heldTable (Tab.mk (Tab.Width ((iUnionAll (toTable aA) (toTable aB)).1)) ((markValueSS (Tab.Rows ((iUnionAll (toTable aA) (toTable aB)).1)) 1).1)) 1) != (markValueSS (Tab.Rows ((iUnionAll (toTable aA) (toTable aB)).1)) 1).2) ?_ ?_
           ·
            intro h55
            have h55q : (heldTable (Tab.mk (Tab.Width ((iUnionAll (toTable aA) (toTable aB)).1)) ((markValueSS (Tab.Rows ((iUnionAll (toTable aA) (toTable aB)).1)) 1).1)) 1) ≠ (markValueSS (Tab.Rows ((iUnionAll (toTable aA) (toTable aB)).1)) 1).2 := (Go.Am.bne_pos h55)
            have e56 := e54.trans (Go.Am.bif_t h55)
            refine AW.seq (AW.r1 hC [4] [] ⟨[(4, .bool false)], []⟩ ?_)
            exact AW.ret (AW.retE (β := Bool) (fun v => [⟨.bool, v⟩]) (fun v => []) (v := false) e56 (by kernel_rfl) rfl rfl)
           ·
            intro h57
            have h57q : (heldTable (Tab.mk (Tab.Width ((iUnionAll (toTable aA) (toTable aB)).1)) ((markValueSS (Tab.Rows ((iUnionAll (toTable aA) (toTable aB)).1)) 1).1)) 1) = (markValueSS (Tab.Rows ((iUnionAll (toTable aA) (toTable aB)).1)) 1).2 := (Go.Am.bne_neg h57)
            have e58 := e54.trans (Go.Am.bif_f h57)
            refine AW.kp [] [] ⟨[], []⟩ ?_
            refine AW.skip (AW.seq (AW.r1 hC [4] [] ⟨[(4, .bool true)], []⟩ ?_))
            exact AW.ret (AW.retE (β := Bool) (fun v => [⟨.bool, v⟩]) (fun v => []) (v := true) e58 (by kernel_rfl) rfl rfl)

theorem union_small (a b : Tab) : (iUnionAll a b).1.Rows.length ≤ 400 ∧ ∀ x ∈ (iUnionAll a b).1.Rows, x.length ≤ 6 := by
 refine ⟨iUnionAll_len a b, fun x hx => ?_⟩
 by_cases h : VT a ∧ VT b ∧ a.Width = b.Width
 ·
  obtain ⟨ha, hb, hw⟩ := h
  rw [iUnionAll_yes ha hb hw] at hx
  by_cases hl : a.Rows.length + b.Rows.length ≤ 400
  ·
   simp only [hl, if_true] at hx
   rcases List.mem_append.1 (srtRows_mem.1 hx) with hx | hx
   ·
    exact (ha.rowsOK.len hx).2
   ·
    exact (hb.rowsOK.len hx).2
  ·
   simp only [hl, if_false] at hx
   cases hx
 ·
  rw [iUnionAll_no h] at hx
  cases hx

theorem mark2_nn {a b : Tab} (ha : (List.length a.Rows : Int) ≤ 1048576 ∧ ∀ i : Nat, i < List.length a.Rows → (List.length (List.getD a.Rows i []) : Int) ≤ 1048576)
  (hb : (List.length b.Rows : Int) ≤ 1048576 ∧ ∀ i : Nat, i < List.length b.Rows → (List.length (List.getD b.Rows i []) : Int) ≤ 1048576) : ¬ (markValueSS (toTable b).Rows (markValueSS (toTable a).Rows 1).2).2 < 0 := by
 obtain ⟨_, h1, h2⟩ := toTable_fit ha
 have h3 := cnt_fits (toSS_fit hb)
 have h4 := (markSS_cnt (toValueSS b.Rows) (markValueSS (toTable a).Rows 1).2 h1 (by unfold BND; omega)).1
 have h5 : (markValueSS (toTable b).Rows (markValueSS (toTable a).Rows 1).2).2 = (markValueSS (toTable a).Rows 1).2 + (cntSS (toValueSS b.Rows) : Nat) := h4
 omega

theorem FnExactUnionAll_law (a b : Tab) : FnExactUnionAll a b = true := by
 unfold FnExactUnionAll
 by_cases hz : szTable a 1048576 < 0
 ·
  rw [decide_eq_true hz]; rfl
 ·
  by_cases hz2 : szTable b (szTable a 1048576) < 0
  ·
   rw [decide_eq_false hz, decide_eq_true hz2]; rfl
  ·
   have hm := mark2_nn (szTable_fit hz) (szTable_fit2 hz hz2)
   obtain ⟨h1, h2⟩ := heldTable_cnt _ (tab_cnt (union_small (toTable a) (toTable b)))
   rw [decide_eq_false hz, decide_eq_false hz2, ← union_same, eqTable_refl, eqTable_refl, eqTable_refl, decide_eq_false hm, h1, decide_eq_false (by omega : ¬ (markValueSS (iUnionAll (toTable a) (toTable b)).1.Rows 1).2 < 0)]
   simp

end
end Go.Proofs.Ytjcjpeckfikfkaa
