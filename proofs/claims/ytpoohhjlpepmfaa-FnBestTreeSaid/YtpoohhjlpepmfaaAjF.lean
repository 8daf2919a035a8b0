/-
  A part of the proof of this claim (AjF): what functions of the program compute, and plain facts of that. No conditions.
-/
import Derived.Test.YtpoohhjlpepmfaaAjE
import Derived.Test.YtpoohhjlpepmfaaAnG
set_option linter.all false
namespace Go.Proofs.Ytpoohhjlpepmfaa
open Go Go.Am
noncomputable section

theorem spec_costs {g : Graph} (hV : VG g) : Sm (sbestCosts g) 31000000000000000 ∧ ((List.length (sbestCosts g) : Nat) : Int) = gAll g + 1 := by
 have hA := gAll_b hV
 have h := spec_best hV
 refine ⟨⟨by omega, fun j => ?_⟩, by omega⟩
 have := CB_of (h.2.cb hV (by omega)) (by omega) j
 omega

def BestTree (g : Graph) : JoinTree × Int := (bif (!(validGraph g)) then ((JoinTree.mk 0 ([] : List JoinTree)), (-1)) else ((JoinTree.mk (JoinTree.Leaf (bestTree g (sbestCosts g) (((List.length (sbestCosts g) : Nat) : Int) - 1))) (JoinTree.Kids (bestTree g (sbestCosts g) (((List.length (sbestCosts g) : Nat) : Int) - 1)))), (List.getD (sbestCosts g) (Int.toNat (((List.length (sbestCosts g) : Nat) : Int) - 1)) 0)))

def BestTree_sp : FnSpec := mkSpec [.val (.named 1)] [.val (.named 3), .val (.int .i64)] (fun (g : Graph) => True) (fun (g : Graph) => [⟨(.named 3), ((BestTree g).1)⟩, ⟨(.int .i64), ((BestTree g).2)⟩])

theorem BestTree_ok : FnOK Try.prog 39 BestTree_sp := by
 have hC : CtxOK Try.prog (mkCtx tyL [(54, validGraph_sp), (62, sbestCosts_sp), (71, bestTree_sp)]) := CtxOK.cons validGraph_ok (CtxOK.cons sbestCosts_ok (CtxOK.cons bestTree_ok (CtxOK.nil tyOK)))
 have hM : Try.prog.follows .mixedOrders = true := Try.checked.mixed
 refine FnOK.of_body Try.func39 (by kernel_rfl) rfl (C := (mkCtx tyL [(54, validGraph_sp), (62, sbestCosts_sp), (71, bestTree_sp)])) hC.ty (by kernel_rfl) ?_
 intro (g : Graph) hwf hpre E
 have hpre : True := hpre
 have hw_g : Wf ⟨(.named 1), (g : Graph)⟩ := hwf _ (List.Mem.head _)
 have hl_g_Rows : ((List.length (Graph.Rows g) : Nat) : Int) ≤ 9223372036854775807 := (hw_g.field (tv := ⟨(.slice (.int .i64)), Graph.Rows g⟩) (List.Mem.head _)).len
 have hl_g_Edges : ((List.length (Graph.Edges g) : Nat) : Int) ≤ 9223372036854775807 := (hw_g.field (tv := ⟨(.slice (.named 0)), Graph.Edges g⟩) (List.Mem.tail _ (List.Mem.head _))).len
 have e0 : BestTree g = BestTree g := rfl
 refine AW.seq (AW.r1 hC [1, 2] [4, 8] ⟨[(1, .ref 4 1 0), (2, .ref 8 1 0)], [(4, .box 1 [.data (.slice (.int .i64)) ((Graph.Rows g) : List Int), .data (.slice (.named 0)) ((Graph.Edges g) : List Edge)]), (8, .box 1 [.int .i64 0, .nilsl])]⟩ ?_)
 refine AW.seq (AW.seq (AW.r0 hC [1, 2, 7] [4, 8] ⟨[(1, .ref 4 1 0), (2, .ref 8 1 0), (7, .bool (!(validGraph g)))], [(4, .box 1 [.data (.slice (.int .i64)) ((Graph.Rows g) : List Int), .data (.slice (.named 0)) ((Graph.Edges g) : List Edge)]), (8, .box 1 [.int .i64 0, .nilsl])]⟩ [(True)] ?_ ?_))
 ·
  refine ⟨?_, trivial⟩
  ·
   trivial
 refine AW.cd (!(validGraph g)) ?_ ?_
 ·
  intro h1
  have h1q : (validGraph g) = false := (Go.Am.not_pos h1)
  have e2 := e0.trans (Go.Am.bif_t h1)
  refine AW.seq (AW.r1 hC [2, 3] [8] ⟨[(2, .ref 8 1 0), (3, .int .i64 (-1))], [(8, .box 1 [.int .i64 0, .nilsl])]⟩ ?_)
  exact AW.ret (AW.retE (β := JoinTree × Int) (fun v => [⟨(.named 3), v.1⟩, ⟨(.int .i64), v.2⟩]) (fun v => []) (v := ((JoinTree.mk 0 ([] : List JoinTree)), (-1))) e2 (by kernel_rfl) rfl rfl)
 ·
  intro h3
  have h3q : (validGraph g) = true := (Go.Am.not_neg h3)
  have e4 := e0.trans (Go.Am.bif_f h3)
  refine AW.kp [1, 2] [4, 8] ⟨[(1, .ref 4 1 0), (2, .ref 8 1 0)], [(4, .box 1 [.data (.slice (.int .i64)) ((Graph.Rows g) : List Int), .data (.slice (.named 0)) ((Graph.Edges g) : List Edge)]), (8, .box 1 [.int .i64 0, .nilsl])]⟩ ?_
  refine AW.skip (AW.seq (AW.r0 hC [1, 2, 4] [4, 8, 40] ⟨[(1, .ref 4 1 0), (2, .ref 8 1 0), (4, .arr 40 1)], [(4, .box 1 [.data (.slice (.int .i64)) ((Graph.Rows g) : List Int), .data (.slice (.named 0)) ((Graph.Edges g) : List Edge)]), (8, .box 1 [.int .i64 0, .nilsl]), (40, .arr 1 (.int .i64) ((sbestCosts g) : List Int))]⟩ [(VG g)] ?_ ?_))
  ·
   refine ⟨?_, trivial⟩
   ·
    exact validGraph_iff.1 (by first | exact h3q | exact trivial)
  refine AW.seq (AW.frz 40 ⟨[(1, .ref 4 1 0), (2, .ref 8 1 0), (4, .data (.slice (.int .i64)) ((sbestCosts g) : List Int))], [(4, .box 1 [.data (.slice (.int .i64)) ((Graph.Rows g) : List Int), .data (.slice (.named 0)) ((Graph.Edges g) : List Edge)]), (8, .box 1 [.int .i64 0, .nilsl])]⟩ (by kernel_rfl) ?_)
  refine AW.d0 hC hM [2, 3] [8] ⟨[(2, .ref 8 1 0), (3, .int .i64 (List.getD (sbestCosts g) (Int.toNat (((List.length (sbestCosts g) : Nat) : Int) - 1)) 0))], [(8, .box 1 [.int .i64 (JoinTree.Leaf (bestTree g (sbestCosts g) (((List.length (sbestCosts g) : Nat) : Int) - 1))), .data (.slice (.named 3)) ((JoinTree.Kids (bestTree g (sbestCosts g) (((List.length (sbestCosts g) : Nat) : Int) - 1))) : List JoinTree)])]⟩ [(-9223372036854775808 ≤ (((List.length (sbestCosts g) : Nat) : Int) - 1) ∧ (((List.length (sbestCosts g) : Nat) : Int) - 1) ≤ 9223372036854775807), (VG g ∧ (Sm (sbestCosts g) 31000000000000000 ∧ 1 ≤ (((List.length (sbestCosts g) : Nat) : Int) - 1) ∧ (((List.length (sbestCosts g) : Nat) : Int) - 1) < ((List.length (sbestCosts g) : Nat) : Int))), (-9223372036854775808 ≤ (((List.length (sbestCosts g) : Nat) : Int) - 1) ∧ (((List.length (sbestCosts g) : Nat) : Int) - 1) ≤ 9223372036854775807), (0 ≤ (((List.length (sbestCosts g) : Nat) : Int) - 1) ∧ (((List.length (sbestCosts g) : Nat) : Int) - 1) < ((List.length (sbestCosts g) : Nat) : Int))] ?_ ?_
  ·
   refine ⟨?_, ?_, ?_, ?_, trivial⟩
   ·
    have hV := validGraph_iff.1 (by first | exact h3q | exact trivial)
    have h := spec_costs hV
    have hA := gAll_b hV
    omega
   ·
    have hV := validGraph_iff.1 (by first | exact h3q | exact trivial)
    have h := spec_costs hV
    have hA := gAll_b hV
    exact ⟨hV, h.1, by omega, by omega⟩
   ·
    have hV := validGraph_iff.1 (by first | exact h3q | exact trivial)
    have h := spec_costs hV
    have hA := gAll_b hV
    omega
   ·
    have hV := validGraph_iff.1 (by first | exact h3q | exact trivial)
    have h := spec_costs hV
    have hA := gAll_b hV
    omega
  exact AW.ret (AW.retE (β := JoinTree × Int) (fun v => [⟨(.named 3), v.1⟩, ⟨(.int .i64), v.2⟩]) (fun v => []) (v := ((JoinTree.mk (JoinTree.Leaf (bestTree g (sbestCosts g) (((List.length (sbestCosts g) : Nat) : Int) - 1))) (JoinTree.Kids (bestTree g (sbestCosts g) (((List.length (sbestCosts g) : Nat) : Int) - 1)))), (List.getD (sbestCosts g) (Int.toNat (((List.length (sbestCosts g) : Nat) : Int) - 1)) 0))) e4 (by kernel_rfl) rfl rfl)

def DrawBestTree (code : List Int) : Graph := ((anyGraph (newReader code)).1)

def DrawBestTree_sp : FnSpec := mkSpec [.val (.slice (.int .u8))] [.val (.named 1)] (fun (code : List Int) => True) (fun (code : List Int) => [⟨(.named 1), (DrawBestTree code)⟩])

theorem DrawBestTree_ok : FnOK Try.prog 38 DrawBestTree_sp := by
 have hC : CtxOK Try.prog (mkCtx tyL [(49, newReader_sp), (50, anyGraph_sp)]) := CtxOK.cons newReader_ok (CtxOK.cons anyGraph_ok (CtxOK.nil tyOK))
 refine FnOK.of_body Try.func38 (by kernel_rfl) rfl (C := (mkCtx tyL [(49, newReader_sp), (50, anyGraph_sp)])) hC.ty (by kernel_rfl) ?_
 intro (code : List Int) hwf hpre E
 have hpre : True := hpre
 have hw_code : Wf ⟨(.slice (.int .u8)), (code : List Int)⟩ := hwf _ (List.Mem.head _)
 have hl_code : ((List.length code : Nat) : Int) ≤ 9223372036854775807 := hw_code.len
 have e0 : DrawBestTree code = DrawBestTree code := rfl
 refine AW.seq (AW.r1 hC [0, 2] [8] ⟨[(0, .data (.slice (.int .u8)) (code : List Int)), (2, .ref 8 1 0)], [(8, .box 1 [.nilsl, .nilsl])]⟩ ?_)
 refine AW.seq (AW.r0 hC [2] [8] ⟨[(2, .ref 8 1 0)], [(8, .box 1 [.data (.slice (.int .i64)) ((Graph.Rows ((anyGraph (newReader code)).1)) : List Int), .data (.slice (.named 0)) ((Graph.Edges ((anyGraph (newReader code)).1)) : List Edge)])]⟩ [(True), (0 ≤ (newReader code).p ∧ (newReader code).p ≤ 1000000000000)] ?_ ?_)
 ·
  refine ⟨?_, ?_, trivial⟩
  ·
   trivial
  ·
   have := newReader_p code
   omega
 exact AW.ret (AW.retE (β := Graph) (fun v => [⟨(.named 1), v⟩]) (fun v => []) (v := ((anyGraph (newReader code)).1)) e0 (by kernel_rfl) rfl rfl)

def FnBestTree (code : List Int) : Bool := (bif (decide (1048576 < ((List.length code : Nat) : Int))) then true else (bif (bif (bif (((iBestTree (DrawBestTree code)).2) != ((BestTree (DrawBestTree code)).2)) then true else (!(equalTrees (JoinTree.mk (JoinTree.Leaf ((iBestTree (DrawBestTree code)).1)) (JoinTree.Kids ((iBestTree (DrawBestTree code)).1))) (JoinTree.mk (JoinTree.Leaf ((BestTree (DrawBestTree code)).1)) (JoinTree.Kids ((BestTree (DrawBestTree code)).1)))))) then true else (decide (((iBestTree (DrawBestTree code)).2) < 0))) then (bif (((iBestTree (DrawBestTree code)).2) == ((BestTree (DrawBestTree code)).2)) then (equalTrees (JoinTree.mk (JoinTree.Leaf ((iBestTree (DrawBestTree code)).1)) (JoinTree.Kids ((iBestTree (DrawBestTree code)).1))) (JoinTree.mk (JoinTree.Leaf ((BestTree (DrawBestTree code)).1)) (JoinTree.Kids ((BestTree (DrawBestTree code)).1)))) else false) else (bif ((iTreeCost (DrawBestTree code) (JoinTree.mk (JoinTree.Leaf ((iBestTree (DrawBestTree code)).1)) (JoinTree.Kids ((iBestTree (DrawBestTree code)).1)))) == ((iBestTree (DrawBestTree code)).2)) then (bif ((iTreeCost (DrawBestTree code) (JoinTree.mk (JoinTree.Leaf ((iBestTree (DrawBestTree code)).1)) (JoinTree.Kids ((iBestTree (DrawBestTree code)).1)))) == ((iBestTree (DrawBestTree code)).2)) then (((List.length (LeavesOf (DrawBestTree code) (JoinTree.mk (JoinTree.Leaf ((iBestTree (DrawBestTree code)).1)) (JoinTree.Kids ((iBestTree (DrawBestTree code)).1)))) : Nat) : Int) == ((List.length (Graph.Rows (DrawBestTree code)) : Nat) : Int)) else false) else false)))

def FnBestTree_sp : FnSpec := mkSpec [.val (.slice (.int .u8))] [.val .bool] (fun (code : List Int) => True) (fun (code : List Int) => [⟨.bool, (FnBestTree code)⟩])

theorem FnBestTree_ok : FnOK Try.prog 9 FnBestTree_sp := by
 have hC : CtxOK Try.prog (mkCtx tyL [(25, iBestTree_sp), (32, iTreeCost_sp), (34, LeavesOf_sp), (38, DrawBestTree_sp), (39, BestTree_sp), (40, equalTrees_sp)]) := CtxOK.cons iBestTree_ok (CtxOK.cons iTreeCost_ok (CtxOK.cons LeavesOf_ok (CtxOK.cons DrawBestTree_ok (CtxOK.cons BestTree_ok (CtxOK.cons equalTrees_ok (CtxOK.nil tyOK))))))
 have hM : Try.prog.follows .mixedOrders = true := Try.checked.mixed
 refine FnOK.of_body Try.func9 (by kernel_rfl) rfl (C := (mkCtx tyL [(25, iBestTree_sp), (32, iTreeCost_sp), (34, LeavesOf_sp), (38, DrawBestTree_sp), (39, BestTree_sp), (40, equalTrees_sp)])) hC.ty (by kernel_rfl) ?_
 intro (code : List Int) hwf hpre E
 have hpre : True := hpre
 have hw_code : Wf ⟨(.slice (.int .u8)), (code : List Int)⟩ := hwf _ (List.Mem.head _)
 have hl_code : ((List.length code : Nat) : Int) ≤ 9223372036854775807 := hw_code.len
 have e0 : FnBestTree code = FnBestTree code := rfl
 refine AW.seq (AW.r1 hC [0] [] ⟨[(0, .data (.slice (.int .u8)) (code : List Int))], []⟩ ?_)
 refine AW.seq (AW.seq (AW.r1 hC [0, 10] [] ⟨[(0, .data (.slice (.int .u8)) (code : List Int)), (10, .bool (decide (1048576 < ((List.length code : Nat) : Int))))], []⟩ ?_))
 refine AW.cd (decide (1048576 < ((List.length code : Nat) : Int))) ?_ ?_
 ·
  intro h1
  have h1q : 1048576 < ((List.length code : Nat) : Int) := (of_decide_eq_true h1)
  have e2 := e0.trans (Go.Am.bif_t h1)
  refine AW.seq (AW.r1 hC [2] [] ⟨[(2, .bool true)], []⟩ ?_)
  exact AW.ret (AW.retE (β := Bool) (fun v => [⟨.bool, v⟩]) (fun v => []) (v := true) e2 (by kernel_rfl) rfl rfl)
 ·
  intro h3
  have h3q : ¬ (1048576 < ((List.length code : Nat) : Int)) := (of_decide_eq_false h3)
  have e4 := e0.trans (Go.Am.bif_f h3)
  refine AW.kp [0] [] ⟨[(0, .data (.slice (.int .u8)) (code : List Int))], []⟩ ?_
  refine AW.skip (AW.seq (AW.r0 hC [3] [12] ⟨[(3, .ref 12 1 0)], [(12, .box 1 [.data (.slice (.int .i64)) ((Graph.Rows (DrawBestTree code)) : List Int), .data (.slice (.named 0)) ((Graph.Edges (DrawBestTree code)) : List Edge)])]⟩ [(True)] ?_ ?_))
  ·
   refine ⟨?_, trivial⟩
   ·
    trivial
  refine AW.seq (AW.r0 hC [3, 4, 5] [12, 16] ⟨[(3, .ref 12 1 0), (4, .ref 16 1 0), (5, .int .i64 ((iBestTree (DrawBestTree code)).2))], [(12, .box 1 [.data (.slice (.int .i64)) ((Graph.Rows (DrawBestTree code)) : List Int), .data (.slice (.named 0)) ((Graph.Edges (DrawBestTree code)) : List Edge)]), (16, .box 1 [.int .i64 (JoinTree.Leaf ((iBestTree (DrawBestTree code)).1)), .data (.slice (.named 3)) ((JoinTree.Kids ((iBestTree (DrawBestTree code)).1)) : List JoinTree)])]⟩ [(True)] ?_ ?_)
  ·
   refine ⟨?_, trivial⟩
   ·
    trivial
  refine AW.seq (AW.r0 hC [3, 4, 5, 6, 7] [12, 16, 24] ⟨[(3, .ref 12 1 0), (4, .ref 16 1 0), (5, .int .i64 ((iBestTree (DrawBestTree code)).2)), (6, .ref 24 1 0), (7, .int .i64 ((BestTree (DrawBestTree code)).2))], [(12, .box 1 [.data (.slice (.int .i64)) ((Graph.Rows (DrawBestTree code)) : List Int), .data (.slice (.named 0)) ((Graph.Edges (DrawBestTree code)) : List Edge)]), (16, .box 1 [.int .i64 (JoinTree.Leaf ((iBestTree (DrawBestTree code)).1)), .data (.slice (.named 3)) ((JoinTree.Kids ((iBestTree (DrawBestTree code)).1)) : List JoinTree)]), (24, .box 1 [.int .i64 (JoinTree.Leaf ((BestTree (DrawBestTree code)).1)), .data (.slice (.named 3)) ((JoinTree.Kids ((BestTree (DrawBestTree code)).1)) : List JoinTree)])]⟩ [(True)] ?_ ?_)
  ·
   refine ⟨?_, trivial⟩
   ·
    trivial
  refine AW.seq (AW.seq (AW.r0 hC [3, 4, 5, 6, 7, 35] [12, 16, 24] ⟨[(3, .ref 12 1 0), (4, .ref 16 1 0), (5, .int .i64 ((iBestTree (DrawBestTree code)).2)), (6, .ref 24 1 0), (7, .int .i64 ((BestTree (DrawBestTree code)).2)), (35, .bool (bif (bif (((iBestTree (DrawBestTree code)).2) != ((BestTree (DrawBestTree code)).2)) then true else (!(equalTrees (JoinTree.mk (JoinTree.Leaf ((iBestTree (DrawBestTree code)).1)) (JoinTree.Kids ((iBestTree (DrawBestTree code)).1))) (JoinTree.mk (JoinTree.Leaf ((BestTree (DrawBestTree code)).1)) (JoinTree.Kids ((BestTree (DrawBestTree code)).1)))))) then true else (decide (((iBestTree (DrawBestTree code)).2) < 0))))], [(12, .box 1 [.data (.slice (.int .i64)) ((Graph.Rows (DrawBestTree code)) : List Int), .data (.slice (.named 0)) ((Graph.Edges (DrawBestTree code)) : List Edge)]), (16, .box 1 [.int .i64 (JoinTree.Leaf ((iBestTree (DrawBestTree code)).1)), .data (.slice (.named 3)) ((JoinTree.Kids ((iBestTree (DrawBestTree code)).1)) : List JoinTree)]), (24, .box 1 [.int .i64 (JoinTree.Leaf ((BestTree (DrawBestTree code)).1)), .data (.slice (.named 3)) ((JoinTree.Kids ((BestTree (DrawBestTree code)).1)) : List JoinTree)])]⟩ [(((((iBestTree (DrawBestTree code)).2) != ((BestTree (DrawBestTree code)).2)) = false) → (((((iBestTree (DrawBestTree code)).2) != ((BestTree (DrawBestTree code)).2)) = false))), (((((iBestTree (DrawBestTree code)).2) != ((BestTree (DrawBestTree code)).2)) = false) → (((((iBestTree (DrawBestTree code)).2) != ((BestTree (DrawBestTree code)).2)) = false))), (((((iBestTree (DrawBestTree code)).2) != ((BestTree (DrawBestTree code)).2)) = false) → (True)), (((((iBestTree (DrawBestTree code)).2) != ((BestTree (DrawBestTree code)).2)) = false) → (((((iBestTree (DrawBestTree code)).2) != ((BestTree (DrawBestTree code)).2)) = false))), (((((iBestTree (DrawBestTree code)).2) != ((BestTree (DrawBestTree code)).2)) = false) → (((((iBestTree (DrawBestTree code)).2) != ((BestTree (DrawBestTree code)).2)) = false))), (((bif (((iBestTree (DrawBestTree code)).2) != ((BestTree (DrawBestTree code)).2)) then true else (!(equalTrees (JoinTree.mk (JoinTree.Leaf ((iBestTree (DrawBestTree code)).1)) (JoinTree.Kids ((iBestTree (DrawBestTree code)).1))) (JoinTree.mk (JoinTree.Leaf ((BestTree (DrawBestTree code)).1)) (JoinTree.Kids ((BestTree (DrawBestTree code)).1)))))) = false) → (((bif (((iBestTree (DrawBestTree code)).2) != ((BestTree (DrawBestTree code)).2)) then true else (!(equalTrees (JoinTree.mk (JoinTree.Leaf ((iBestTree (DrawBestTree code)).1)) (JoinTree.Kids ((iBestTree (DrawBestTree code)).1))) (JoinTree.mk (JoinTree.Leaf ((BestTree (DrawBestTree code)).1)) (JoinTree.Kids ((BestTree (DrawBestTree code)).1)))))) = false))), (((bif (((iBestTree (DrawBestTree code)).2) != ((BestTree (DrawBestTree code)).2)) then true else (!(equalTrees (JoinTree.mk (JoinTree.Leaf ((iBestTree (DrawBestTree code)).1)) (JoinTree.Kids ((iBestTree (DrawBestTree code)).1))) (JoinTree.mk (JoinTree.Leaf ((BestTree (DrawBestTree code)).1)) (JoinTree.Kids ((BestTree (DrawBestTree code)).1)))))) = false) → (((bif (((iBestTree (DrawBestTree code)).2) != ((BestTree (DrawBestTree code)).2)) then true else (!(equalTrees (JoinTree.mk (JoinTree.Leaf ((iBestTree (DrawBestTree code)).1)) (JoinTree.Kids ((iBestTree (DrawBestTree code)).1))) (JoinTree.mk (JoinTree.Leaf ((BestTree (DrawBestTree code)).1)) (JoinTree.Kids ((BestTree (DrawBestTree code)).1)))))) = false)))] ?_ ?_))
  ·
   refine ⟨?_, ?_, ?_, ?_, ?_, ?_, ?_, trivial⟩
   ·
    intro g5
    have g5p0 : ((iBestTree (DrawBestTree code)).2) = ((BestTree (DrawBestTree code)).2) := (Go.Am.bne_neg g5)
    assumption
   ·
    intro g6
    have g6p0 : ((iBestTree (DrawBestTree code)).2) = ((BestTree (DrawBestTree code)).2) := (Go.Am.bne_neg g6)
    assumption
   ·
    intro g7
    have g7p0 : ((iBestTree (DrawBestTree code)).2) = ((BestTree (DrawBestTree code)).2) := (Go.Am.bne_neg g7)
    trivial
   ·
    intro g8
    have g8p0 : ((iBestTree (DrawBestTree code)).2) = ((BestTree (DrawBestTree code)).2) := (Go.Am.bne_neg g8)
    assumption
   ·
    intro g9
    have g9p0 : ((iBestTree (DrawBestTree code)).2) = ((BestTree (DrawBestTree code)).2) := (Go.Am.bne_neg g9)
    assumption
   ·
    intro g10
    have g10p0 : (((iBestTree (DrawBestTree code)).2) = ((BestTree (DrawBestTree code)).2)) ∧ ((equalTrees (JoinTree.mk (JoinTree.Leaf ((iBestTree (DrawBestTree code)).1)) (JoinTree.Kids ((iBestTree (DrawBestTree code)).1))) (JoinTree.mk (JoinTree.Leaf ((BestTree (DrawBestTree code)).1)) (JoinTree.Kids ((BestTree (DrawBestTree code)).1)))) = true) := (And.imp (fun h => (Go.Am.bne_neg h)) (fun h => (Go.Am.not_neg h)) (Go.Am.or_neg g10))
    assumption
   ·
    intro g11
    have g11p0 : (((iBestTree (DrawBestTree code)).2) = ((BestTree (DrawBestTree code)).2)) ∧ ((equalTrees (JoinTree.mk (JoinTree.Leaf ((iBestTree (DrawBestTree code)).1)) (JoinTree.Kids ((iBestTree (DrawBestTree code)).1))) (JoinTree.mk (JoinTree.Leaf ((BestTree (DrawBestTree code)).1)) (JoinTree.Kids ((BestTree (DrawBestTree code)).1)))) = true) := (And.imp (fun h => (Go.Am.bne_neg h)) (fun h => (Go.Am.not_neg h)) (Go.Am.or_neg g11))
    assumption
  refine AW.cd (bif (bif (((iBestTree (DrawBestTree code)).2) != ((BestTree (DrawBestTree code)).2)) then true else (!(equalTrees (JoinTree.mk (JoinTree.Leaf ((iBestTree (DrawBestTree code)).1)) (JoinTree.Kids ((iBestTree (DrawBestTree code)).1))) (JoinTree.mk (JoinTree.Leaf ((BestTree (DrawBestTree code)).1)) (JoinTree.Kids ((BestTree (DrawBestTree code)).1)))))) then true else (decide (((iBestTree (DrawBestTree code)).2) < 0))) ?_ ?_
  ·
   intro h12
   have h12q : ((((iBestTree (DrawBestTree code)).2) ≠ ((BestTree (DrawBestTree code)).2)) ∨ ((equalTrees (JoinTree.mk (JoinTree.Leaf ((iBestTree (DrawBestTree code)).1)) (JoinTree.Kids ((iBestTree (DrawBestTree code)).1))) (JoinTree.mk (JoinTree.Leaf ((BestTree (DrawBestTree code)).1)) (JoinTree.Kids ((BestTree (DrawBestTree code)).1)))) = false)) ∨ (((iBestTree (DrawBestTree code)).2) < 0) := (Or.imp (fun h => (Or.imp (fun h => (Go.Am.bne_pos h)) (fun h => (Go.Am.not_pos h)) (Go.Am.or_pos h))) (fun h => (of_decide_eq_true h)) (Go.Am.or_pos h12))
   have e13 := e4.trans (Go.Am.bif_t h12)
   refine AW.seq (AW.r0 hC [2] [] ⟨[(2, .bool (bif (((iBestTree (DrawBestTree code)).2) == ((BestTree (DrawBestTree code)).2)) then (equalTrees (JoinTree.mk (JoinTree.Leaf ((iBestTree (DrawBestTree code)).1)) (JoinTree.Kids ((iBestTree (DrawBestTree code)).1))) (JoinTree.mk (JoinTree.Leaf ((BestTree (DrawBestTree code)).1)) (JoinTree.Kids ((BestTree (DrawBestTree code)).1)))) else false))], []⟩ [(((((iBestTree (DrawBestTree code)).2) == ((BestTree (DrawBestTree code)).2)) = true) → (((((iBestTree (DrawBestTree code)).2) == ((BestTree (DrawBestTree code)).2)) = true))), (((((iBestTree (DrawBestTree code)).2) == ((BestTree (DrawBestTree code)).2)) = true) → (((((iBestTree (DrawBestTree code)).2) == ((BestTree (DrawBestTree code)).2)) = true))), (((((iBestTree (DrawBestTree code)).2) == ((BestTree (DrawBestTree code)).2)) = true) → (True)), (((((iBestTree (DrawBestTree code)).2) == ((BestTree (DrawBestTree code)).2)) = true) → (((((iBestTree (DrawBestTree code)).2) == ((BestTree (DrawBestTree code)).2)) = true)))] ?_ ?_)
   ·
    refine ⟨?_, ?_, ?_, ?_, trivial⟩
    ·
     intro g14
     have g14p0 : ((iBestTree (DrawBestTree code)).2) = ((BestTree (DrawBestTree code)).2) := (Go.Am.beq_pos g14)
     assumption
    ·
     intro g15
     have g15p0 : ((iBestTree (DrawBestTree code)).2) = ((BestTree (DrawBestTree code)).2) := (Go.Am.beq_pos g15)
     assumption
    ·
     intro g16
     have g16p0 : ((iBestTree (DrawBestTree code)).2) = ((BestTree (DrawBestTree code)).2) := (Go.Am.beq_pos g16)
     trivial
    ·
     intro g17
     have g17p0 : ((iBestTree (DrawBestTree code)).2) = ((BestTree (DrawBestTree code)).2) := (Go.Am.beq_pos g17)
     assumption
   exact AW.ret (AW.retE (β := Bool) (fun v => [⟨.bool, v⟩]) (fun v => []) (v := (bif (((iBestTree (DrawBestTree code)).2) == ((BestTree (DrawBestTree code)).2)) then (equalTrees (JoinTree.mk (JoinTree.Leaf ((iBestTree (DrawBestTree code)).1)) (JoinTree.Kids ((iBestTree (DrawBestTree code)).1))) (JoinTree.mk (JoinTree.Leaf ((BestTree (DrawBestTree code)).1)) (JoinTree.Kids ((BestTree (DrawBestTree code)).1)))) else false)) e13 (by kernel_rfl) rfl rfl)
  ·
   intro h18
   have h18q : ((((iBestTree (DrawBestTree code)).2) = ((BestTree (DrawBestTree code)).2)) ∧ ((equalTrees (JoinTree.mk (JoinTree.Leaf ((iBestTree (DrawBestTree code)).1)) (JoinTree.Kids ((iBestTree (DrawBestTree code)).1))) (JoinTree.mk (JoinTree.Leaf ((BestTree (DrawBestTree code)).1)) (JoinTree.Kids ((BestTree (DrawBestTree code)).1)))) = true)) ∧ (¬ (((iBestTree (DrawBestTree code)).2) < 0)) := (And.imp (fun h => (And.imp (fun h => (Go.Am.bne_neg h)) (fun h => (Go.Am.not_neg h)) (Go.Am.or_neg h))) (fun h => (of_decide_eq_false h)) (Go.Am.or_neg h18))
   have e19 := e4.trans (Go.Am.bif_f h18)
   refine AW.kp [3, 4, 5] [12, 16] ⟨[(3, .ref 12 1 0), (4, .ref 16 1 0), (5, .int .i64 ((iBestTree (DrawBestTree code)).2))], [(12, .box 1 [.data (.slice (.int .i64)) ((Graph.Rows (DrawBestTree code)) : List Int), .data (.slice (.named 0)) ((Graph.Edges (DrawBestTree code)) : List Edge)]), (16, .box 1 [.int .i64 (JoinTree.Leaf ((iBestTree (DrawBestTree code)).1)), .data (.slice (.named 3)) ((JoinTree.Kids ((iBestTree (DrawBestTree code)).1)) : List JoinTree)])]⟩ ?_
   refine AW.skip (AW.seq ?_)
   refine Go.Am.bsplit (b := ((iTreeCost (DrawBestTree code) (JoinTree.mk (JoinTree.Leaf ((iBestTree (DrawBestTree code)).1)) (JoinTree.Kids ((iBestTree (DrawBestTree code)).1)))) == ((iBestTree (DrawBestTree code)).2))) ?_ ?_
   ·
    intro h20
    have h20q : (iTreeCost (DrawBestTree code) (JoinTree.mk (JoinTree.Leaf ((iBestTree (DrawBestTree code)).1)) (JoinTree.Kids ((iBestTree (DrawBestTree code)).1)))) = ((iBestTree (DrawBestTree code)).2) := (Go.Am.beq_pos h20)
    have e21 := e19.trans (Go.Am.bif_t h20)
    refine AW.regD hC hM  false [(49, true)] [2] []
     ⟨[(2, .bool (bif ((iTreeCost (DrawBestTree code) (JoinTree.mk (JoinTree.Leaf ((iBestTree (DrawBestTree code)).1)) (JoinTree.Kids ((iBestTree (DrawBestTree code)).1)))) == ((iBestTree (DrawBestTree code)).2)) then (((List.length (LeavesOf (DrawBestTree code) (JoinTree.mk (JoinTree.Leaf ((iBestTree (DrawBestTree code)).1)) (JoinTree.Kids ((iBestTree (DrawBestTree code)).1)))) : Nat) : Int) == ((List.length (Graph.Rows (DrawBestTree code)) : Nat) : Int)) else false))], []⟩
     [(True), (((iTreeCost (DrawBestTree code) (JoinTree.mk (JoinTree.Leaf ((iBestTree (DrawBestTree code)).1)) (JoinTree.Kids ((iBestTree (DrawBestTree code)).1)))) == ((iBestTree (DrawBestTree code)).2)) = true), (((iTreeCost (DrawBestTree code) (JoinTree.mk (JoinTree.Leaf ((iBestTree (DrawBestTree code)).1)) (JoinTree.Kids ((iBestTree (DrawBestTree code)).1)))) == ((iBestTree (DrawBestTree code)).2)) = true), (((iTreeCost (DrawBestTree code) (JoinTree.mk (JoinTree.Leaf ((iBestTree (DrawBestTree code)).1)) (JoinTree.Kids ((iBestTree (DrawBestTree code)).1)))) == ((iBestTree (DrawBestTree code)).2)) = true), (True), (((iTreeCost (DrawBestTree code) (JoinTree.mk (JoinTree.Leaf ((iBestTree (DrawBestTree code)).1)) (JoinTree.Kids ((iBestTree (DrawBestTree code)).1)))) == ((iBestTree (DrawBestTree code)).2)) = true), (((iTreeCost (DrawBestTree code) (JoinTree.mk (JoinTree.Leaf ((iBestTree (DrawBestTree code)).1)) (JoinTree.Kids ((iBestTree (DrawBestTree code)).1)))) == ((iBestTree (DrawBestTree code)).2)) = true), (((iTreeCost (DrawBestTree code) (JoinTree.mk (JoinTree.Leaf ((iBestTree (DrawBestTree code)).1)) (JoinTree.Kids ((iBestTree (DrawBestTree code)).1)))) == ((iBestTree (DrawBestTree code)).2)) = true), (((iTreeCost (DrawBestTree code) (JoinTree.mk (JoinTree.Leaf ((iBestTree (DrawBestTree code)).1)) (JoinTree.Kids ((iBestTree (DrawBestTree code)).1)))) == ((iBestTree (DrawBestTree code)).2)) = true), (((iTreeCost (DrawBestTree code) (JoinTree.mk (JoinTree.Leaf ((iBestTree (DrawBestTree code)).1)) (JoinTree.Kids ((iBestTree (DrawBestTree code)).1)))) == ((iBestTree (DrawBestTree code)).2)) = true)] (by kernel_rfl) ?_ ?_
    ·
     refine ⟨?_, ?_, ?_, ?_, ?_, ?_, ?_, ?_, ?_, ?_, trivial⟩
     ·
      trivial
     ·
      assumption
     ·
      assumption
     ·
      assumption
     ·
      trivial
     ·
      assumption
     ·
      assumption
     ·
      assumption
     ·
      assumption
     ·
      assumption
    exact AW.ret (AW.retE (β := Bool) (fun v => [⟨.bool, v⟩]) (fun v => []) (v := (bif ((iTreeCost (DrawBestTree code) (JoinTree.mk (JoinTree.Leaf ((iBestTree (DrawBestTree code)).1)) (JoinTree.Kids ((iBestTree (DrawBestTree code)).1)))) == ((iBestTree (DrawBestTree code)).2)) then (((List.length (LeavesOf (DrawBestTree code) (JoinTree.mk (JoinTree.Leaf ((iBestTree (DrawBestTree code)).1)) (JoinTree.Kids ((iBestTree (DrawBestTree code)).1)))) : Nat) : Int) == ((List.length (Graph.Rows (DrawBestTree code)) : Nat) : Int)) else false)) e21 (by kernel_rfl) rfl rfl)
   ·
    intro h22
    have h22q : (iTreeCost (DrawBestTree code) (JoinTree.mk (JoinTree.Leaf ((iBestTree (DrawBestTree code)).1)) (JoinTree.Kids ((iBestTree (DrawBestTree code)).1)))) ≠ ((iBestTree (DrawBestTree code)).2) := (Go.Am.beq_neg h22)
    have e23 := e19.trans (Go.Am.bif_f h22)
    refine AW.regD hC hM  false [(49, false)] [2] []
     ⟨[(2, .bool false)], []⟩
     [(True), (((iTreeCost (DrawBestTree code) (JoinTree.mk (JoinTree.Leaf ((iBestTree (DrawBestTree code)).1)) (JoinTree.Kids ((iBestTree (DrawBestTree code)).1)))) == ((iBestTree (DrawBestTree code)).2)) = false), (((iTreeCost (DrawBestTree code) (JoinTree.mk (JoinTree.Leaf ((iBestTree (DrawBestTree code)).1)) (JoinTree.Kids ((iBestTree (DrawBestTree code)).1)))) == ((iBestTree (DrawBestTree code)).2)) = false), (((iTreeCost (DrawBestTree code) (JoinTree.mk (JoinTree.Leaf ((iBestTree (DrawBestTree code)).1)) (JoinTree.Kids ((iBestTree (DrawBestTree code)).1)))) == ((iBestTree (DrawBestTree code)).2)) = false), (((iTreeCost (DrawBestTree code) (JoinTree.mk (JoinTree.Leaf ((iBestTree (DrawBestTree code)).1)) (JoinTree.Kids ((iBestTree (DrawBestTree code)).1)))) == ((iBestTree (DrawBestTree code)).2)) = false), (((iTreeCost (DrawBestTree code) (JoinTree.mk (JoinTree.Leaf ((iBestTree (DrawBestTree code)).1)) (JoinTree.Kids ((iBestTree (DrawBestTree code)).1)))) == ((iBestTree (DrawBestTree code)).2)) = false), (((iTreeCost (DrawBestTree code) (JoinTree.mk (JoinTree.Leaf ((iBestTree (DrawBestTree code)).1)) (JoinTree.Kids ((iBestTree (DrawBestTree code)).1)))) == ((iBestTree (DrawBestTree code)).2)) = false), (((iTreeCost (DrawBestTree code) (JoinTree.mk (JoinTree.Leaf ((iBestTree (DrawBestTree code)).1)) (JoinTree.Kids ((iBestTree (DrawBestTree code)).1)))) == ((iBestTree (DrawBestTree code)).2)) = false), (((iTreeCost (DrawBestTree code) (JoinTree.mk (JoinTree.Leaf ((iBestTree (DrawBestTree code)).1)) (JoinTree.Kids ((iBestTree (DrawBestTree code)).1)))) == ((iBestTree (DrawBestTree code)).2)) = false), (((iTreeCost (DrawBestTree code) (JoinTree.mk (JoinTree.Leaf ((iBestTree (DrawBestTree code)).1)) (JoinTree.Kids ((iBestTree (DrawBestTree code)).1)))) == ((iBestTree (DrawBestTree code)).2)) = false)] (by kernel_rfl) ?_ ?_
    ·
     refine ⟨?_, ?_, ?_, ?_, ?_, ?_, ?_, ?_, ?_, ?_, trivial⟩
     ·
      trivial
     ·
      assumption
     ·
      assumption
     ·
      assumption
     ·
      assumption
     ·
      assumption
     ·
      assumption
     ·
      assumption
     ·
      assumption
     ·
      assumption
    exact AW.ret (AW.retE (β := Bool) (fun v => [⟨.bool, v⟩]) (fun v => []) (v := false) e23 (by kernel_rfl) rfl rfl)

end
end Go.Proofs.Ytpoohhjlpepmfaa
