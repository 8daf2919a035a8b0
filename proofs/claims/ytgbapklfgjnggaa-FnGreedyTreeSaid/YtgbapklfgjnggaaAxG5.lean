/-
  A part of the proof of this claim (AxG5): what functions of the program compute, and plain facts of that. No conditions.
-/
import Derived.Test.YtgbapklfgjnggaaAxG3
import Derived.Test.YtgbapklfgjnggaaAxG4
import Derived.Test.YtgbapklfgjnggaaAxD
set_option linter.all false
namespace Go.Proofs.Ytgbapklfgjnggaa
open Go Go.Am
noncomputable section

def DrawGreedyTree (code : List Int) : Graph := ((anyGraph (newReader code)).1)

def DrawGreedyTree_sp : FnSpec := mkSpec [.val (.slice (.int .u8))] [.val (.named 1)] (fun (code : List Int) => True) (fun (code : List Int) => [⟨(.named 1), (DrawGreedyTree code)⟩])

theorem DrawGreedyTree_ok : FnOK Try.prog 48 DrawGreedyTree_sp := by
 have hC : CtxOK Try.prog (mkCtx tyL [(49, newReader_sp), (50, anyGraph_sp)]) := CtxOK.cons newReader_ok (CtxOK.cons anyGraph_ok (CtxOK.nil tyOK))
 refine FnOK.of_body Try.func48 (by kernel_rfl) rfl (C := (mkCtx tyL [(49, newReader_sp), (50, anyGraph_sp)])) hC.ty (by kernel_rfl) ?_
 intro (code : List Int) hwf hpre E
 have hpre : True := hpre
 have hw_code : Wf ⟨(.slice (.int .u8)), (code : List Int)⟩ := hwf _ (List.Mem.head _)
 have hl_code : ((List.length code : Nat) : Int) ≤ 9223372036854775807 := hw_code.len
 have e0 : DrawGreedyTree code = DrawGreedyTree code := rfl
 refine AW.seq (AW.r1U hC [0, 2] [8] [(2, .ref 8 1 0)] [(8, .box 1 [.nilsl, .nilsl])] ?_)
 refine AW.seq (AW.r0U hC [2] [8] [] [(8, .box 1 [.data (.slice (.int .i64)) ((Graph.Rows ((anyGraph (newReader code)).1)) : List Int), .data (.slice (.named 0)) ((Graph.Edges ((anyGraph (newReader code)).1)) : List Edge)])] [(True), (0 ≤ (newReader code).p ∧ (newReader code).p ≤ 1000000000000)] ?_ ?_)
 ·
  refine ⟨?_, ?_, trivial⟩
  ·
   trivial
  ·
   have := newReader_p code
   omega
 exact AW.ret (AW.retE (β := Graph) (fun v => [⟨(.named 1), v⟩]) (fun v => []) (v := ((anyGraph (newReader code)).1)) e0 (by kernel_rfl) rfl rfl)

def FnGreedyTree (code : List Int) : Bool := (bif (decide (1048576 < ((List.length code : Nat) : Int))) then true else (bif (bif (bif (((iGreedyTree (DrawGreedyTree code)).2) != ((GreedyTree (DrawGreedyTree code)).2)) then true else (!(equalTrees (JoinTree.mk (JoinTree.Leaf ((iGreedyTree (DrawGreedyTree code)).1)) (JoinTree.Kids ((iGreedyTree (DrawGreedyTree code)).1))) (JoinTree.mk (JoinTree.Leaf ((GreedyTree (DrawGreedyTree code)).1)) (JoinTree.Kids ((GreedyTree (DrawGreedyTree code)).1)))))) then true else (decide (((iGreedyTree (DrawGreedyTree code)).2) < 0))) then (bif (((iGreedyTree (DrawGreedyTree code)).2) == ((GreedyTree (DrawGreedyTree code)).2)) then (equalTrees (JoinTree.mk (JoinTree.Leaf ((iGreedyTree (DrawGreedyTree code)).1)) (JoinTree.Kids ((iGreedyTree (DrawGreedyTree code)).1))) (JoinTree.mk (JoinTree.Leaf ((GreedyTree (DrawGreedyTree code)).1)) (JoinTree.Kids ((GreedyTree (DrawGreedyTree code)).1)))) else false) else (bif (bif ((iTreeCost (DrawGreedyTree code) (JoinTree.mk (JoinTree.Leaf ((iGreedyTree (DrawGreedyTree code)).1)) (JoinTree.Kids ((iGreedyTree (DrawGreedyTree code)).1)))) == ((iGreedyTree (DrawGreedyTree code)).2)) then (decide (((iBestTree (DrawGreedyTree code)).2) ≤ ((iGreedyTree (DrawGreedyTree code)).2))) else false) then (bif (bif ((iTreeCost (DrawGreedyTree code) (JoinTree.mk (JoinTree.Leaf ((iGreedyTree (DrawGreedyTree code)).1)) (JoinTree.Kids ((iGreedyTree (DrawGreedyTree code)).1)))) == ((iGreedyTree (DrawGreedyTree code)).2)) then (decide (((iBestTree (DrawGreedyTree code)).2) ≤ ((iGreedyTree (DrawGreedyTree code)).2))) else false) then (((List.length (LeavesOf (DrawGreedyTree code) (JoinTree.mk (JoinTree.Leaf ((iGreedyTree (DrawGreedyTree code)).1)) (JoinTree.Kids ((iGreedyTree (DrawGreedyTree code)).1)))) : Nat) : Int) == ((List.length (Graph.Rows (DrawGreedyTree code)) : Nat) : Int)) else false) else false)))

def FnGreedyTree_sp : FnSpec := mkSpec [.val (.slice (.int .u8))] [.val .bool] (fun (code : List Int) => True) (fun (code : List Int) => [⟨.bool, (FnGreedyTree code)⟩])

theorem FnGreedyTree_ok : FnOK Try.prog 13 FnGreedyTree_sp := by
 have hC : CtxOK Try.prog (mkCtx tyL [(25, iBestTree_sp), (32, iTreeCost_sp), (34, LeavesOf_sp), (40, equalTrees_sp), (46, GreedyTree_sp), (47, iGreedyTree_sp), (48, DrawGreedyTree_sp)]) := CtxOK.cons iBestTree_ok (CtxOK.cons iTreeCost_ok (CtxOK.cons LeavesOf_ok (CtxOK.cons equalTrees_ok (CtxOK.cons GreedyTree_ok (CtxOK.cons iGreedyTree_ok (CtxOK.cons DrawGreedyTree_ok (CtxOK.nil tyOK)))))))
 have hM : Try.prog.follows .mixedOrders = true := Try.checked.mixed
 refine FnOK.of_body Try.func13 (by kernel_rfl) rfl (C := (mkCtx tyL [(25, iBestTree_sp), (32, iTreeCost_sp), (34, LeavesOf_sp), (40, equalTrees_sp), (46, GreedyTree_sp), (47, iGreedyTree_sp), (48, DrawGreedyTree_sp)])) hC.ty (by kernel_rfl) ?_
 intro (code : List Int) hwf hpre E
 have hpre : True := hpre
 have hw_code : Wf ⟨(.slice (.int .u8)), (code : List Int)⟩ := hwf _ (List.Mem.head _)
 have hl_code : ((List.length code : Nat) : Int) ≤ 9223372036854775807 := hw_code.len
 have e0 : FnGreedyTree code = FnGreedyTree code := rfl
 refine AW.seq (AW.r1U hC [0] [] [] [] ?_)
 refine AW.seq (AW.seq (AW.r1U hC [0, 12] [] [(12, .bool (decide (1048576 < ((List.length code : Nat) : Int))))] [] ?_))
 refine AW.cd (decide (1048576 < ((List.length code : Nat) : Int))) ?_ ?_
 ·
  intro h1
  have h1q : 1048576 < ((List.length code : Nat) : Int) := (of_decide_eq_true h1)
  have e2 := e0.trans (Go.Am.bif_t h1)
  refine AW.seq (AW.r1 hC [2] [] ⟨[(2, .bool true)], []⟩ ?_)
  exact AW.ret (AW.retE (β := Bool) (fun v => [⟨.bool, v⟩]) (fun v => []) (v := true) e2 (by kernel_rfl) rfl rfl)
 ·
  intro h3
  have h3q : ¬ (1048576 < ((List.length code : Nat) : Int)) := (of_decide_eq_false h3)
  have e4 := e0.trans (Go.Am.bif_f h3)
  refine AW.kpU [0] [] [] [] ?_
  refine AW.skip (AW.seq (AW.r0 hC [3] [12] ⟨[(3, .ref 12 1 0)], [(12, .box 1 [.data (.slice (.int .i64)) ((Graph.Rows (DrawGreedyTree code)) : List Int), .data (.slice (.named 0)) ((Graph.Edges (DrawGreedyTree code)) : List Edge)])]⟩ [(True)] ?_ ?_))
  ·
   refine ⟨?_, trivial⟩
   ·
    trivial
  refine AW.seq (AW.r0U hC [3, 4, 5] [12, 16] [(4, .ref 16 1 0), (5, .int .i64 ((iGreedyTree (DrawGreedyTree code)).2))] [(16, .box 1 [.int .i64 (JoinTree.Leaf ((iGreedyTree (DrawGreedyTree code)).1)), .data (.slice (.named 3)) ((JoinTree.Kids ((iGreedyTree (DrawGreedyTree code)).1)) : List JoinTree)])] [(True)] ?_ ?_)
  ·
   refine ⟨?_, trivial⟩
   ·
    trivial
  refine AW.seq (AW.r0U hC [3, 4, 5, 6, 7] [12, 16, 24] [(6, .ref 24 1 0), (7, .int .i64 ((GreedyTree (DrawGreedyTree code)).2))] [(24, .box 1 [.int .i64 (JoinTree.Leaf ((GreedyTree (DrawGreedyTree code)).1)), .data (.slice (.named 3)) ((JoinTree.Kids ((GreedyTree (DrawGreedyTree code)).1)) : List JoinTree)])] [(True)] ?_ ?_)
  ·
   refine ⟨?_, trivial⟩
   ·
    trivial
  refine AW.seq (AW.seq (AW.r0U hC [3, 4, 5, 6, 7, 37] [12, 16, 24] [(37, .bool (bif (bif (((iGreedyTree (DrawGreedyTree code)).2) != ((GreedyTree (DrawGreedyTree code)).2)) then true else (!(equalTrees (JoinTree.mk (JoinTree.Leaf ((iGreedyTree (DrawGreedyTree code)).1)) (JoinTree.Kids ((iGreedyTree (DrawGreedyTree code)).1))) (JoinTree.mk (JoinTree.Leaf ((GreedyTree (DrawGreedyTree code)).1)) (JoinTree.Kids ((GreedyTree (DrawGreedyTree code)).1)))))) then true else (decide (((iGreedyTree (DrawGreedyTree code)).2) < 0))))] [] [(((((iGreedyTree (DrawGreedyTree code)).2) != ((GreedyTree (DrawGreedyTree code)).2)) = false) → (((((iGreedyTree (DrawGreedyTree code)).2) != ((GreedyTree (DrawGreedyTree code)).2)) = false))), (((((iGreedyTree (DrawGreedyTree code)).2) != ((GreedyTree (DrawGreedyTree code)).2)) = false) → (((((iGreedyTree (DrawGreedyTree code)).2) != ((GreedyTree (DrawGreedyTree code)).2)) = false))), (((((iGreedyTree (DrawGreedyTree code)).2) != ((GreedyTree (DrawGreedyTree code)).2)) = false) → (True)), (((((iGreedyTree (DrawGreedyTree code)).2) != ((GreedyTree (DrawGreedyTree code)).2)) = false) → (((((iGreedyTree (DrawGreedyTree code)).2) != ((GreedyTree (DrawGreedyTree code)).2)) = false))), (((((iGreedyTree (DrawGreedyTree code)).2) != ((GreedyTree (DrawGreedyTree code)).2)) = false) → (((((iGreedyTree (DrawGreedyTree code)).2) != ((GreedyTree (DrawGreedyTree code)).2)) = false))), (((bif (((iGreedyTree (DrawGreedyTree code)).2) != ((GreedyTree (DrawGreedyTree code)).2)) then true else (!(equalTrees (JoinTree.mk (JoinTree.Leaf ((iGreedyTree (DrawGreedyTree code)).1)) (JoinTree.Kids ((iGreedyTree (DrawGreedyTree code)).1))) (JoinTree.mk (JoinTree.Leaf ((GreedyTree (DrawGreedyTree code)).1)) (JoinTree.Kids ((GreedyTree (DrawGreedyTree code)).1)))))) = false) → (((bif (((iGreedyTree (DrawGreedyTree code)).2) != ((GreedyTree (DrawGreedyTree code)).2)) then true else (!(equalTrees (JoinTree.mk (JoinTree.Leaf ((iGreedyTree (DrawGreedyTree code)).1)) (JoinTree.Kids ((iGreedyTree (DrawGreedyTree code)).1))) (JoinTree.mk (JoinTree.Leaf ((GreedyTree (DrawGreedyTree code)).1)) (JoinTree.Kids ((GreedyTree (DrawGreedyTree code)).1)))))) = false))), (((bif (((iGreedyTree (DrawGreedyTree code)).2) != ((GreedyTree (DrawGreedyTree code)).2)) then true else (!(equalTrees (JoinTree.mk (JoinTree.Leaf ((iGreedyTree (DrawGreedyTree code)).1)) (JoinTree.Kids ((iGreedyTree (DrawGreedyTree code)).1))) (JoinTree.mk (JoinTree.Leaf ((GreedyTree (DrawGreedyTree code)).1)) (JoinTree.Kids ((GreedyTree (DrawGreedyTree code)).1)))))) = false) → (((bif (((iGreedyTree (DrawGreedyTree code)).2) != ((GreedyTree (DrawGreedyTree code)).2)) then true else (!(equalTrees (JoinTree.mk (JoinTree.Leaf ((iGreedyTree (DrawGreedyTree code)).1)) (JoinTree.Kids ((iGreedyTree (DrawGreedyTree code)).1))) (JoinTree.mk (JoinTree.Leaf ((GreedyTree (DrawGreedyTree code)).1)) (JoinTree.Kids ((GreedyTree (DrawGreedyTree code)).1)))))) = false)))] ?_ ?_))
  ·
   refine ⟨?_, ?_, ?_, ?_, ?_, ?_, ?_, trivial⟩
   ·
    intro g5
    have g5p0 : ((iGreedyTree (DrawGreedyTree code)).2) = ((GreedyTree (DrawGreedyTree code)).2) := (Go.Am.bne_neg g5)
    assumption
   ·
    intro g6
    have g6p0 : ((iGreedyTree (DrawGreedyTree code)).2) = ((GreedyTree (DrawGreedyTree code)).2) := (Go.Am.bne_neg g6)
    assumption
   ·
    intro g7
    have g7p0 : ((iGreedyTree (DrawGreedyTree code)).2) = ((GreedyTree (DrawGreedyTree code)).2) := (Go.Am.bne_neg g7)
    trivial
   ·
    intro g8
    have g8p0 : ((iGreedyTree (DrawGreedyTree code)).2) = ((GreedyTree (DrawGreedyTree code)).2) := (Go.Am.bne_neg g8)
    assumption
   ·
    intro g9
    have g9p0 : ((iGreedyTree (DrawGreedyTree code)).2) = ((GreedyTree (DrawGreedyTree code)).2) := (Go.Am.bne_neg g9)
    assumption
   ·
    intro g10
    have g10p0 : (((iGreedyTree (DrawGreedyTree code)).2) = ((GreedyTree (DrawGreedyTree code)).2)) ∧ ((equalTrees (JoinTree.mk (JoinTree.Leaf ((iGreedyTree (DrawGreedyTree code)).1)) (JoinTree.Kids ((iGreedyTree (DrawGreedyTree code)).1))) (JoinTree.mk (JoinTree.Leaf ((GreedyTree (DrawGreedyTree code)).1)) (JoinTree.Kids ((GreedyTree (DrawGreedyTree code)).1)))) = true) := (And.imp (fun h => (Go.Am.bne_neg h)) (fun h => (Go.Am.not_neg h)) (Go.Am.or_neg g10))
    assumption
   ·
    intro g11
    have g11p0 : (((iGreedyTree (DrawGreedyTree code)).2) = ((GreedyTree (DrawGreedyTree code)).2)) ∧ ((equalTrees (JoinTree.mk (JoinTree.Leaf ((iGreedyTree (DrawGreedyTree code)).1)) (JoinTree.Kids ((iGreedyTree (DrawGreedyTree code)).1))) (JoinTree.mk (JoinTree.Leaf ((GreedyTree (DrawGreedyTree code)).1)) (JoinTree.Kids ((GreedyTree (DrawGreedyTree code)).1)))) = true) := (And.imp (fun h => (Go.Am.bne_neg h)) (fun h => (Go.Am.not_neg h)) (Go.Am.or_neg g11))
    assumption
  refine AW.cd (bif (bif (((iGreedyTree (DrawGreedyTree code)).2) != ((GreedyTree (DrawGreedyTree code)).2)) then true else (!(equalTrees (JoinTree.mk (JoinTree.Leaf ((iGreedyTree (DrawGreedyTree code)).1)) (JoinTree.Kids ((iGreedyTree (DrawGreedyTree code)).1))) (JoinTree.mk (JoinTree.Leaf ((GreedyTree (DrawGreedyTree code)).1)) (JoinTree.Kids ((GreedyTree (DrawGreedyTree code)).1)))))) then true else (decide (((iGreedyTree (DrawGreedyTree code)).2) < 0))) ?_ ?_
  ·
   intro h12
   have h12q : ((((iGreedyTree (DrawGreedyTree code)).2) ≠ ((GreedyTree (DrawGreedyTree code)).2)) ∨ ((equalTrees (JoinTree.mk (JoinTree.Leaf ((iGreedyTree (DrawGreedyTree code)).1)) (JoinTree.Kids ((iGreedyTree (DrawGreedyTree code)).1))) (JoinTree.mk (JoinTree.Leaf ((GreedyTree (DrawGreedyTree code)).1)) (JoinTree.Kids ((GreedyTree (DrawGreedyTree code)).1)))) = false)) ∨ (((iGreedyTree (DrawGreedyTree code)).2) < 0) := (Or.imp (fun h => (Or.imp (fun h => (Go.Am.bne_pos h)) (fun h => (Go.Am.not_pos h)) (Go.Am.or_pos h))) (fun h => (of_decide_eq_true h)) (Go.Am.or_pos h12))
   have e13 := e4.trans (Go.Am.bif_t h12)
   refine AW.seq (AW.r0 hC [2] [] ⟨[(2, .bool (bif (((iGreedyTree (DrawGreedyTree code)).2) == ((GreedyTree (DrawGreedyTree code)).2)) then (equalTrees (JoinTree.mk (JoinTree.Leaf ((iGreedyTree (DrawGreedyTree code)).1)) (JoinTree.Kids ((iGreedyTree (DrawGreedyTree code)).1))) (JoinTree.mk (JoinTree.Leaf ((GreedyTree (DrawGreedyTree code)).1)) (JoinTree.Kids ((GreedyTree (DrawGreedyTree code)).1)))) else false))], []⟩ [(((((iGreedyTree (DrawGreedyTree code)).2) == ((GreedyTree (DrawGreedyTree code)).2)) = true) → (((((iGreedyTree (DrawGreedyTree code)).2) == ((GreedyTree (DrawGreedyTree code)).2)) = true))), (((((iGreedyTree (DrawGreedyTree code)).2) == ((GreedyTree (DrawGreedyTree code)).2)) = true) → (((((iGreedyTree (DrawGreedyTree code)).2) == ((GreedyTree (DrawGreedyTree code)).2)) = true))), (((((iGreedyTree (DrawGreedyTree code)).2) == ((GreedyTree (DrawGreedyTree code)).2)) = true) → (True)), (((((iGreedyTree (DrawGreedyTree code)).2) == ((GreedyTree (DrawGreedyTree code)).2)) = true) → (((((iGreedyTree (DrawGreedyTree code)).2) == ((GreedyTree (DrawGreedyTree code)).2)) = true)))] ?_ ?_)
   ·
    refine ⟨?_, ?_, ?_, ?_, trivial⟩
    ·
     intro g14
     have g14p0 : ((iGreedyTree (DrawGreedyTree code)).2) = ((GreedyTree (DrawGreedyTree code)).2) := (Go.Am.beq_pos g14)
     assumption
    ·
     intro g15
     have g15p0 : ((iGreedyTree (DrawGreedyTree code)).2) = ((GreedyTree (DrawGreedyTree code)).2) := (Go.Am.beq_pos g15)
     assumption
    ·
     intro g16
     have g16p0 : ((iGreedyTree (DrawGreedyTree code)).2) = ((GreedyTree (DrawGreedyTree code)).2) := (Go.Am.beq_pos g16)
     trivial
    ·
     intro g17
     have g17p0 : ((iGreedyTree (DrawGreedyTree code)).2) = ((GreedyTree (DrawGreedyTree code)).2) := (Go.Am.beq_pos g17)
     assumption
   exact AW.ret (AW.retE (β := Bool) (fun v => [⟨.bool, v⟩]) (fun v => []) (v := (bif (((iGreedyTree (DrawGreedyTree code)).2) == ((GreedyTree (DrawGreedyTree code)).2)) then (equalTrees (JoinTree.mk (JoinTree.Leaf ((iGreedyTree (DrawGreedyTree code)).1)) (JoinTree.Kids ((iGreedyTree (DrawGreedyTree code)).1))) (JoinTree.mk (JoinTree.Leaf ((GreedyTree (DrawGreedyTree code)).1)) (JoinTree.Kids ((GreedyTree (DrawGreedyTree code)).1)))) else false)) e13 (by kernel_rfl) rfl rfl)
  ·
   intro h18
   have h18q : ((((iGreedyTree (DrawGreedyTree code)).2) = ((GreedyTree (DrawGreedyTree code)).2)) ∧ ((equalTrees (JoinTree.mk (JoinTree.Leaf ((iGreedyTree (DrawGreedyTree code)).1)) (JoinTree.Kids ((iGreedyTree (DrawGreedyTree code)).1))) (JoinTree.mk (JoinTree.Leaf ((GreedyTree (DrawGreedyTree code)).1)) (JoinTree.Kids ((GreedyTree (DrawGreedyTree code)).1)))) = true)) ∧ (¬ (((iGreedyTree (DrawGreedyTree code)).2) < 0)) := (And.imp (fun h => (And.imp (fun h => (Go.Am.bne_neg h)) (fun h => (Go.Am.not_neg h)) (Go.Am.or_neg h))) (fun h => (of_decide_eq_false h)) (Go.Am.or_neg h18))
   have e19 := e4.trans (Go.Am.bif_f h18)
   refine AW.kpU [3, 4, 5] [12, 16] [] [] ?_
   refine AW.skip (AW.seq (AW.r0U hC [3, 4, 5, 9] [12, 16] [(9, .int .i64 ((iBestTree (DrawGreedyTree code)).2))] [] [(True)] ?_ ?_))
   ·
    refine ⟨?_, trivial⟩
    ·
     trivial
   refine AW.seq ?_
   refine Go.Am.bsplit (b := (bif ((iTreeCost (DrawGreedyTree code) (JoinTree.mk (JoinTree.Leaf ((iGreedyTree (DrawGreedyTree code)).1)) (JoinTree.Kids ((iGreedyTree (DrawGreedyTree code)).1)))) == ((iGreedyTree (DrawGreedyTree code)).2)) then (decide (((iBestTree (DrawGreedyTree code)).2) ≤ ((iGreedyTree (DrawGreedyTree code)).2))) else false)) ?_ ?_
   ·
    intro h20
    have h20q : ((iTreeCost (DrawGreedyTree code) (JoinTree.mk (JoinTree.Leaf ((iGreedyTree (DrawGreedyTree code)).1)) (JoinTree.Kids ((iGreedyTree (DrawGreedyTree code)).1)))) = ((iGreedyTree (DrawGreedyTree code)).2)) ∧ (((iBestTree (DrawGreedyTree code)).2) ≤ ((iGreedyTree (DrawGreedyTree code)).2)) := (And.imp (fun h => (Go.Am.beq_pos h)) (fun h => (of_decide_eq_true h)) (Go.Am.and_pos h20))
    have e21 := e19.trans (Go.Am.bif_t h20)
    refine AW.regD hC hM  false [(61, true)] [2] []
     ⟨[(2, .bool (bif (bif ((iTreeCost (DrawGreedyTree code) (JoinTree.mk (JoinTree.Leaf ((iGreedyTree (DrawGreedyTree code)).1)) (JoinTree.Kids ((iGreedyTree (DrawGreedyTree code)).1)))) == ((iGreedyTree (DrawGreedyTree code)).2)) then (decide (((iBestTree (DrawGreedyTree code)).2) ≤ ((iGreedyTree (DrawGreedyTree code)).2))) else false) then (((List.length (LeavesOf (DrawGreedyTree code) (JoinTree.mk (JoinTree.Leaf ((iGreedyTree (DrawGreedyTree code)).1)) (JoinTree.Kids ((iGreedyTree (DrawGreedyTree code)).1)))) : Nat) : Int) == ((List.length (Graph.Rows (DrawGreedyTree code)) : Nat) : Int)) else false))], []⟩
     [(True), ((((iTreeCost (DrawGreedyTree code) (JoinTree.mk (JoinTree.Leaf ((iGreedyTree (DrawGreedyTree code)).1)) (JoinTree.Kids ((iGreedyTree (DrawGreedyTree code)).1)))) == ((iGreedyTree (DrawGreedyTree code)).2)) = true) → ((((iTreeCost (DrawGreedyTree code) (JoinTree.mk (JoinTree.Leaf ((iGreedyTree (DrawGreedyTree code)).1)) (JoinTree.Kids ((iGreedyTree (DrawGreedyTree code)).1)))) == ((iGreedyTree (DrawGreedyTree code)).2)) = true))), ((((iTreeCost (DrawGreedyTree code) (JoinTree.mk (JoinTree.Leaf ((iGreedyTree (DrawGreedyTree code)).1)) (JoinTree.Kids ((iGreedyTree (DrawGreedyTree code)).1)))) == ((iGreedyTree (DrawGreedyTree code)).2)) = true) → ((((iTreeCost (DrawGreedyTree code) (JoinTree.mk (JoinTree.Leaf ((iGreedyTree (DrawGreedyTree code)).1)) (JoinTree.Kids ((iGreedyTree (DrawGreedyTree code)).1)))) == ((iGreedyTree (DrawGreedyTree code)).2)) = true))), ((((iTreeCost (DrawGreedyTree code) (JoinTree.mk (JoinTree.Leaf ((iGreedyTree (DrawGreedyTree code)).1)) (JoinTree.Kids ((iGreedyTree (DrawGreedyTree code)).1)))) == ((iGreedyTree (DrawGreedyTree code)).2)) = true) → ((((iTreeCost (DrawGreedyTree code) (JoinTree.mk (JoinTree.Leaf ((iGreedyTree (DrawGreedyTree code)).1)) (JoinTree.Kids ((iGreedyTree (DrawGreedyTree code)).1)))) == ((iGreedyTree (DrawGreedyTree code)).2)) = true))), ((bif ((iTreeCost (DrawGreedyTree code) (JoinTree.mk (JoinTree.Leaf ((iGreedyTree (DrawGreedyTree code)).1)) (JoinTree.Kids ((iGreedyTree (DrawGreedyTree code)).1)))) == ((iGreedyTree (DrawGreedyTree code)).2)) then (decide (((iBestTree (DrawGreedyTree code)).2) ≤ ((iGreedyTree (DrawGreedyTree code)).2))) else false) = true), ((bif ((iTreeCost (DrawGreedyTree code) (JoinTree.mk (JoinTree.Leaf ((iGreedyTree (DrawGreedyTree code)).1)) (JoinTree.Kids ((iGreedyTree (DrawGreedyTree code)).1)))) == ((iGreedyTree (DrawGreedyTree code)).2)) then (decide (((iBestTree (DrawGreedyTree code)).2) ≤ ((iGreedyTree (DrawGreedyTree code)).2))) else false) = true), ((bif ((iTreeCost (DrawGreedyTree code) (JoinTree.mk (JoinTree.Leaf ((iGreedyTree (DrawGreedyTree code)).1)) (JoinTree.Kids ((iGreedyTree (DrawGreedyTree code)).1)))) == ((iGreedyTree (DrawGreedyTree code)).2)) then (decide (((iBestTree (DrawGreedyTree code)).2) ≤ ((iGreedyTree (DrawGreedyTree code)).2))) else false) = true), (True), ((bif ((iTreeCost (DrawGreedyTree code) (JoinTree.mk (JoinTree.Leaf ((iGreedyTree (DrawGreedyTree code)).1)) (JoinTree.Kids ((iGreedyTree (DrawGreedyTree code)).1)))) == ((iGreedyTree (DrawGreedyTree code)).2)) then (decide (((iBestTree (DrawGreedyTree code)).2) ≤ ((iGreedyTree (DrawGreedyTree code)).2))) else false) = true), ((bif ((iTreeCost (DrawGreedyTree code) (JoinTree.mk (JoinTree.Leaf ((iGreedyTree (DrawGreedyTree code)).1)) (JoinTree.Kids ((iGreedyTree (DrawGreedyTree code)).1)))) == ((iGreedyTree (DrawGreedyTree code)).2)) then (decide (((iBestTree (DrawGreedyTree code)).2) ≤ ((iGreedyTree (DrawGreedyTree code)).2))) else false) = true), ((bif ((iTreeCost (DrawGreedyTree code) (JoinTree.mk (JoinTree.Leaf ((iGreedyTree (DrawGreedyTree code)).1)) (JoinTree.Kids ((iGreedyTree (DrawGreedyTree code)).1)))) == ((iGreedyTree (DrawGreedyTree code)).2)) then (decide (((iBestTree (DrawGreedyTree code)).2) ≤ ((iGreedyTree (DrawGreedyTree code)).2))) else false) = true), ((bif ((iTreeCost (DrawGreedyTree code) (JoinTree.mk (JoinTree.Leaf ((iGreedyTree (DrawGreedyTree code)).1)) (JoinTree.Kids ((iGreedyTree (DrawGreedyTree code)).1)))) == ((iGreedyTree (DrawGreedyTree code)).2)) then (decide (((iBestTree (DrawGreedyTree code)).2) ≤ ((iGreedyTree (DrawGreedyTree code)).2))) else false) = true), ((bif ((iTreeCost (DrawGreedyTree code) (JoinTree.mk (JoinTree.Leaf ((iGreedyTree (DrawGreedyTree code)).1)) (JoinTree.Kids ((iGreedyTree (DrawGreedyTree code)).1)))) == ((iGreedyTree (DrawGreedyTree code)).2)) then (decide (((iBestTree (DrawGreedyTree code)).2) ≤ ((iGreedyTree (DrawGreedyTree code)).2))) else false) = true)] (by kernel_rfl) ?_ ?_
    ·
     refine ⟨?_, ?_, ?_, ?_, ?_, ?_, ?_, ?_, ?_, ?_, ?_, ?_, ?_, trivial⟩
     ·
      trivial
     ·
      intro g22
      have g22p0 : (iTreeCost (DrawGreedyTree code) (JoinTree.mk (JoinTree.Leaf ((iGreedyTree (DrawGreedyTree code)).1)) (JoinTree.Kids ((iGreedyTree (DrawGreedyTree code)).1)))) = ((iGreedyTree (DrawGreedyTree code)).2) := (Go.Am.beq_pos g22)
      assumption
     ·
      intro g23
      have g23p0 : (iTreeCost (DrawGreedyTree code) (JoinTree.mk (JoinTree.Leaf ((iGreedyTree (DrawGreedyTree code)).1)) (JoinTree.Kids ((iGreedyTree (DrawGreedyTree code)).1)))) = ((iGreedyTree (DrawGreedyTree code)).2) := (Go.Am.beq_pos g23)
      assumption
     ·
      intro g24
      have g24p0 : (iTreeCost (DrawGreedyTree code) (JoinTree.mk (JoinTree.Leaf ((iGreedyTree (DrawGreedyTree code)).1)) (JoinTree.Kids ((iGreedyTree (DrawGreedyTree code)).1)))) = ((iGreedyTree (DrawGreedyTree code)).2) := (Go.Am.beq_pos g24)
      assumption
     ·
      assumption
     ·
      assumption
     ·
      assumption
     ·
      trivial
     ·
      assumption
     ·
      assumption
     ·
      assumption
     ·
      assumption
     ·
      assumption
    exact AW.ret (AW.retE (β := Bool) (fun v => [⟨.bool, v⟩]) (fun v => []) (v := (bif (bif ((iTreeCost (DrawGreedyTree code) (JoinTree.mk (JoinTree.Leaf ((iGreedyTree (DrawGreedyTree code)).1)) (JoinTree.Kids ((iGreedyTree (DrawGreedyTree code)).1)))) == ((iGreedyTree (DrawGreedyTree code)).2)) then (decide (((iBestTree (DrawGreedyTree code)).2) ≤ ((iGreedyTree (DrawGreedyTree code)).2))) else false) then (((List.length (LeavesOf (DrawGreedyTree code) (JoinTree.mk (JoinTree.Leaf ((iGreedyTree (DrawGreedyTree code)).1)) (JoinTree.Kids ((iGreedyTree (DrawGreedyTree code)).1)))) : Nat) : Int) == ((List.length (Graph.Rows (DrawGreedyTree code)) : Nat) : Int)) else false)) e21 (by kernel_rfl) rfl rfl)
   ·
    intro h25
    have h25q : ((iTreeCost (DrawGreedyTree code) (JoinTree.mk (JoinTree.Leaf ((iGreedyTree (DrawGreedyTree code)).1)) (JoinTree.Kids ((iGreedyTree (DrawGreedyTree code)).1)))) ≠ ((iGreedyTree (DrawGreedyTree code)).2)) ∨ (¬ (((iBestTree (DrawGreedyTree code)).2) ≤ ((iGreedyTree (DrawGreedyTree code)).2))) := (Or.imp (fun h => (Go.Am.beq_neg h)) (fun h => (of_decide_eq_false h)) (Go.Am.and_neg h25))
    have e26 := e19.trans (Go.Am.bif_f h25)
    refine AW.regD hC hM  false [(61, false)] [2] []
     ⟨[(2, .bool false)], []⟩
     [(True), ((((iTreeCost (DrawGreedyTree code) (JoinTree.mk (JoinTree.Leaf ((iGreedyTree (DrawGreedyTree code)).1)) (JoinTree.Kids ((iGreedyTree (DrawGreedyTree code)).1)))) == ((iGreedyTree (DrawGreedyTree code)).2)) = true) → ((((iTreeCost (DrawGreedyTree code) (JoinTree.mk (JoinTree.Leaf ((iGreedyTree (DrawGreedyTree code)).1)) (JoinTree.Kids ((iGreedyTree (DrawGreedyTree code)).1)))) == ((iGreedyTree (DrawGreedyTree code)).2)) = true))), ((((iTreeCost (DrawGreedyTree code) (JoinTree.mk (JoinTree.Leaf ((iGreedyTree (DrawGreedyTree code)).1)) (JoinTree.Kids ((iGreedyTree (DrawGreedyTree code)).1)))) == ((iGreedyTree (DrawGreedyTree code)).2)) = true) → ((((iTreeCost (DrawGreedyTree code) (JoinTree.mk (JoinTree.Leaf ((iGreedyTree (DrawGreedyTree code)).1)) (JoinTree.Kids ((iGreedyTree (DrawGreedyTree code)).1)))) == ((iGreedyTree (DrawGreedyTree code)).2)) = true))), ((((iTreeCost (DrawGreedyTree code) (JoinTree.mk (JoinTree.Leaf ((iGreedyTree (DrawGreedyTree code)).1)) (JoinTree.Kids ((iGreedyTree (DrawGreedyTree code)).1)))) == ((iGreedyTree (DrawGreedyTree code)).2)) = true) → ((((iTreeCost (DrawGreedyTree code) (JoinTree.mk (JoinTree.Leaf ((iGreedyTree (DrawGreedyTree code)).1)) (JoinTree.Kids ((iGreedyTree (DrawGreedyTree code)).1)))) == ((iGreedyTree (DrawGreedyTree code)).2)) = true))), ((bif ((iTreeCost (DrawGreedyTree code) (JoinTree.mk (JoinTree.Leaf ((iGreedyTree (DrawGreedyTree code)).1)) (JoinTree.Kids ((iGreedyTree (DrawGreedyTree code)).1)))) == ((iGreedyTree (DrawGreedyTree code)).2)) then (decide (((iBestTree (DrawGreedyTree code)).2) ≤ ((iGreedyTree (DrawGreedyTree code)).2))) else false) = false), ((bif ((iTreeCost (DrawGreedyTree code) (JoinTree.mk (JoinTree.Leaf ((iGreedyTree (DrawGreedyTree code)).1)) (JoinTree.Kids ((iGreedyTree (DrawGreedyTree code)).1)))) == ((iGreedyTree (DrawGreedyTree code)).2)) then (decide (((iBestTree (DrawGreedyTree code)).2) ≤ ((iGreedyTree (DrawGreedyTree code)).2))) else false) = false), ((bif ((iTreeCost (DrawGreedyTree code) (JoinTree.mk (JoinTree.Leaf ((iGreedyTree (DrawGreedyTree code)).1)) (JoinTree.Kids ((iGreedyTree (DrawGreedyTree code)).1)))) == ((iGreedyTree (DrawGreedyTree code)).2)) then (decide (((iBestTree (DrawGreedyTree code)).2) ≤ ((iGreedyTree (DrawGreedyTree code)).2))) else false) = false), ((bif ((iTreeCost (DrawGreedyTree code) (JoinTree.mk (JoinTree.Leaf ((iGreedyTree (DrawGreedyTree code)).1)) (JoinTree.Kids ((iGreedyTree (DrawGreedyTree code)).1)))) == ((iGreedyTree (DrawGreedyTree code)).2)) then (decide (((iBestTree (DrawGreedyTree code)).2) ≤ ((iGreedyTree (DrawGreedyTree code)).2))) else false) = false), ((bif ((iTreeCost (DrawGreedyTree code) (JoinTree.mk (JoinTree.Leaf ((iGreedyTree (DrawGreedyTree code)).1)) (JoinTree.Kids ((iGreedyTree (DrawGreedyTree code)).1)))) == ((iGreedyTree (DrawGreedyTree code)).2)) then (decide (((iBestTree (DrawGreedyTree code)).2) ≤ ((iGreedyTree (DrawGreedyTree code)).2))) else false) = false), ((bif ((iTreeCost (DrawGreedyTree code) (JoinTree.mk (JoinTree.Leaf ((iGreedyTree (DrawGreedyTree code)).1)) (JoinTree.Kids ((iGreedyTree (DrawGreedyTree code)).1)))) == ((iGreedyTree (DrawGreedyTree code)).2)) then (decide (((iBestTree (DrawGreedyTree code)).2) ≤ ((iGreedyTree (DrawGreedyTree code)).2))) else false) = false), ((bif ((iTreeCost (DrawGreedyTree code) (JoinTree.mk (JoinTree.Leaf ((iGreedyTree (DrawGreedyTree code)).1)) (JoinTree.Kids ((iGreedyTree (DrawGreedyTree code)).1)))) == ((iGreedyTree (DrawGreedyTree code)).2)) then (decide (((iBestTree (DrawGreedyTree code)).2) ≤ ((iGreedyTree (DrawGreedyTree code)).2))) else false) = false), ((bif ((iTreeCost (DrawGreedyTree code) (JoinTree.mk (JoinTree.Leaf ((iGreedyTree (DrawGreedyTree code)).1)) (JoinTree.Kids ((iGreedyTree (DrawGreedyTree code)).1)))) == ((iGreedyTree (DrawGreedyTree code)).2)) then (decide (((iBestTree (DrawGreedyTree code)).2) ≤ ((iGreedyTree (DrawGreedyTree code)).2))) else false) = false), ((bif ((iTreeCost (DrawGreedyTree code) (JoinTree.mk (JoinTree.Leaf ((iGreedyTree (DrawGreedyTree code)).1)) (JoinTree.Kids ((iGreedyTree (DrawGreedyTree code)).1)))) == ((iGreedyTree (DrawGreedyTree code)).2)) then (decide (((iBestTree (DrawGreedyTree code)).2) ≤ ((iGreedyTree (DrawGreedyTree code)).2))) else false) = false)] (by kernel_rfl) ?_ ?_
    ·
     refine ⟨?_, ?_, ?_, ?_, ?_, ?_, ?_, ?_, ?_, ?_, ?_, ?_, ?_, trivial⟩
     ·
      trivial
     ·
      intro g27
      have g27p0 : (iTreeCost (DrawGreedyTree code) (JoinTree.mk (JoinTree.Leaf ((iGreedyTree (DrawGreedyTree code)).1)) (JoinTree.Kids ((iGreedyTree (DrawGreedyTree code)).1)))) = ((iGreedyTree (DrawGreedyTree code)).2) := (Go.Am.beq_pos g27)
      assumption
     ·
      intro g28
      have g28p0 : (iTreeCost (DrawGreedyTree code) (JoinTree.mk (JoinTree.Leaf ((iGreedyTree (DrawGreedyTree code)).1)) (JoinTree.Kids ((iGreedyTree (DrawGreedyTree code)).1)))) = ((iGreedyTree (DrawGreedyTree code)).2) := (Go.Am.beq_pos g28)
      assumption
     ·
      intro g29
      have g29p0 : (iTreeCost (DrawGreedyTree code) (JoinTree.mk (JoinTree.Leaf ((iGreedyTree (DrawGreedyTree code)).1)) (JoinTree.Kids ((iGreedyTree (DrawGreedyTree code)).1)))) = ((iGreedyTree (DrawGreedyTree code)).2) := (Go.Am.beq_pos g29)
      assumption
     ·
      assumption
     ·
      assumption
     ·
      assumption
     ·
      assumption
     ·
      assumption
     ·
      assumption
     ·
      assumption
     ·
      assumption
     ·
      assumption
    exact AW.ret (AW.retE (β := Bool) (fun v => [⟨.bool, v⟩]) (fun v => []) (v := false) e26 (by kernel_rfl) rfl rfl)

end
end Go.Proofs.Ytgbapklfgjnggaa
