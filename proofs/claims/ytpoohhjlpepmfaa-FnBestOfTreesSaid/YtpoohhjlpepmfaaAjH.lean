/-
  A part of the proof of this claim (AjH): what functions of the program compute, and plain facts of that. No conditions.
-/
import Derived.Test.YtpoohhjlpepmfaaAjG
import Derived.Test.YtpoohhjlpepmfaaAjX
import Derived.Test.YtpoohhjlpepmfaaAjD
set_option linter.all false
namespace Go.Proofs.Ytpoohhjlpepmfaa
open Go Go.Am
noncomputable section

theorem anyGraph_l0_len (r : Rdr) : ∀ (k i : Nat) (p : Int) (a : List Int), Int.toNat ((1 + (pick (Rdr.b r) (Rdr.p r) 5)) - (i : Int)) < k → (anyGraph_l0 r k i p a).2.length = a.length + Int.toNat ((1 + (pick (Rdr.b r) (Rdr.p r) 5)) - (i : Int)) := by
 intro k
 induction k with
 | zero => intro i p a h; omega
 | succ k ih =>
  intro i p a hk
  unfold anyGraph_l0
  by_cases h : ((i : Nat) : Int) < 1 + pick (Rdr.b r) (Rdr.p r) 5
  ·
   rw [decide_eq_true h, cond_true, ih (i + 1) _ _ (by omega)]
   simp only [List.length_append, List.length_cons, List.length_nil]
   omega
  ·
   rw [decide_eq_false h, cond_false]
   simp only
   omega

theorem anyGraph_rows (r : Rdr) : 1 ≤ (anyGraph r).1.Rows.length ∧ (anyGraph r).1.Rows.length ≤ 10 := by
 have h5 := pick_ok (n := 5) r.b r.p (by decide)
 have a := anyGraph_l0_len r (Int.toNat ((1 + (pick (Rdr.b r) (Rdr.p r) 5)) - ((0 : Nat) : Int)) + 1) 0 ((Rdr.p r) + 1) [] (Nat.lt_succ_self _)
 dsimp only [anyGraph, Go.Am.andThen]
 generalize anyGraph_l0 r (Int.toNat ((1 + (pick (Rdr.b r) (Rdr.p r) 5)) - ((0 : Nat) : Int)) + 1) 0 ((Rdr.p r) + 1) [] = x at *
 obtain ⟨p, l⟩ := x
 simp only [List.length_nil] at a ⊢
 generalize anyGraph_l1 r (Int.toNat (pick (Rdr.b r) p 6) + 1) (pick (Rdr.b r) p 6) (p + 1) [] = y
 obtain ⟨q, m⟩ := y
 simp only
 cases (pick (Rdr.b r) q 18 == 0) with
 | true => simp only [cond_true, List.length_set]; omega
 | false =>
  cases (pick (Rdr.b r) q 18 == 1) with
  | true => simp only [cond_true, cond_false]; omega
  | false =>
   cases (pick (Rdr.b r) q 18 == 2) with
   | true => simp only [cond_true, cond_false, List.length_append, List.length_cons, List.length_nil]; omega
   | false => simp only [cond_false]; omega

def DrawTreeCost (code : List Int) : Graph × JoinTree := (((anyGraph (newReader code)).1), (JoinTree.mk (JoinTree.Leaf ((anyTree ((anyGraph (newReader code)).2) ((List.length (Graph.Rows ((anyGraph (newReader code)).1)) : Nat) : Int)).1)) (JoinTree.Kids ((anyTree ((anyGraph (newReader code)).2) ((List.length (Graph.Rows ((anyGraph (newReader code)).1)) : Nat) : Int)).1))))

def DrawTreeCost_sp : FnSpec := mkSpec [.val (.slice (.int .u8))] [.val (.named 1), .val (.named 3)] (fun (code : List Int) => True) (fun (code : List Int) => [⟨(.named 1), ((DrawTreeCost code).1)⟩, ⟨(.named 3), ((DrawTreeCost code).2)⟩])

theorem DrawTreeCost_ok : FnOK Try.prog 31 DrawTreeCost_sp := by
 have hC : CtxOK Try.prog (mkCtx tyL [(49, newReader_sp), (50, anyGraph_sp), (65, anyTree_sp)]) := CtxOK.cons newReader_ok (CtxOK.cons anyGraph_ok (CtxOK.cons anyTree_ok (CtxOK.nil tyOK)))
 have hM : Try.prog.follows .mixedOrders = true := Try.checked.mixed
 refine FnOK.of_body Try.func31 (by kernel_rfl) rfl (C := (mkCtx tyL [(49, newReader_sp), (50, anyGraph_sp), (65, anyTree_sp)])) hC.ty (by kernel_rfl) ?_
 intro (code : List Int) hwf hpre E
 have hpre : True := hpre
 have hw_code : Wf ⟨(.slice (.int .u8)), (code : List Int)⟩ := hwf _ (List.Mem.head _)
 have hl_code : ((List.length code : Nat) : Int) ≤ 9223372036854775807 := hw_code.len
 have h0 := newReader_p code
 have hg := anyGraph_p (newReader code)
 have hr := anyGraph_rows (newReader code)
 have e0 : DrawTreeCost code = DrawTreeCost code := rfl
 refine AW.seq (AW.r1 hC [0, 2, 3] [8, 12] ⟨[(0, .data (.slice (.int .u8)) (code : List Int)), (2, .ref 8 1 0), (3, .ref 12 1 0)], [(8, .box 1 [.nilsl, .nilsl]), (12, .box 1 [.int .i64 0, .nilsl])]⟩ ?_)
 refine AW.seq (AW.r0 hC [2, 3, 4] [8, 12, 28] ⟨[(2, .ref 8 1 0), (3, .ref 12 1 0), (4, .ref 28 1 0)], [(8, .box 1 [.nilsl, .nilsl]), (12, .box 1 [.int .i64 0, .nilsl]), (28, .box 1 [.data (.slice (.int .u8)) ((Rdr.b (newReader code)) : List Int), .int .i64 (Rdr.p (newReader code))])]⟩ [(True)] ?_ ?_)
 ·
  refine ⟨?_, trivial⟩
  ·
   trivial
 refine AW.seq (AW.r0 hC [2, 3, 4, 5] [8, 12, 20, 28] ⟨[(2, .ref 8 1 0), (3, .ref 12 1 0), (4, .ref 28 1 0), (5, .ref 20 1 0)], [(8, .box 1 [.nilsl, .nilsl]), (12, .box 1 [.int .i64 0, .nilsl]), (20, .box 1 [.data (.slice (.int .i64)) ((Graph.Rows ((anyGraph (newReader code)).1)) : List Int), .data (.slice (.named 0)) ((Graph.Edges ((anyGraph (newReader code)).1)) : List Edge)]), (28, .box 1 [.data (.slice (.int .u8)) ((Rdr.b ((anyGraph (newReader code)).2)) : List Int), .int .i64 (Rdr.p ((anyGraph (newReader code)).2))])]⟩ [(0 ≤ (newReader code).p ∧ (newReader code).p ≤ 1000000000000)] ?_ ?_)
 ·
  refine ⟨?_, trivial⟩
  ·
   omega
 refine AW.seq (AW.d0 hC hM [2, 3] [8, 12] ⟨[(2, .ref 8 1 0), (3, .ref 12 1 0)], [(8, .box 1 [.data (.slice (.int .i64)) ((Graph.Rows ((anyGraph (newReader code)).1)) : List Int), .data (.slice (.named 0)) ((Graph.Edges ((anyGraph (newReader code)).1)) : List Edge)]), (12, .box 1 [.int .i64 (JoinTree.Leaf ((anyTree ((anyGraph (newReader code)).2) ((List.length (Graph.Rows ((anyGraph (newReader code)).1)) : Nat) : Int)).1)), .data (.slice (.named 3)) ((JoinTree.Kids ((anyTree ((anyGraph (newReader code)).2) ((List.length (Graph.Rows ((anyGraph (newReader code)).1)) : Nat) : Int)).1)) : List JoinTree)])]⟩ [((0 ≤ ((anyGraph (newReader code)).2).p ∧ ((anyGraph (newReader code)).2).p ≤ 100000000000) ∧ (1 ≤ ((List.length (Graph.Rows ((anyGraph (newReader code)).1)) : Nat) : Int) ∧ ((List.length (Graph.Rows ((anyGraph (newReader code)).1)) : Nat) : Int) ≤ 10))] ?_ ?_)
 ·
  refine ⟨?_, trivial⟩
  ·
   omega
 exact AW.ret (AW.retE (β := Graph × JoinTree) (fun v => [⟨(.named 1), v.1⟩, ⟨(.named 3), v.2⟩]) (fun v => []) (v := (((anyGraph (newReader code)).1), (JoinTree.mk (JoinTree.Leaf ((anyTree ((anyGraph (newReader code)).2) ((List.length (Graph.Rows ((anyGraph (newReader code)).1)) : Nat) : Int)).1)) (JoinTree.Kids ((anyTree ((anyGraph (newReader code)).2) ((List.length (Graph.Rows ((anyGraph (newReader code)).1)) : Nat) : Int)).1))))) e0 (by kernel_rfl) rfl rfl)

def FnBestOfTrees (code : List Int) : Bool := (bif (decide (1048576 < ((List.length code : Nat) : Int))) then true else (bif (bif ((iTreeCost ((DrawTreeCost code).1) (JoinTree.mk (JoinTree.Leaf ((DrawTreeCost code).2)) (JoinTree.Kids ((DrawTreeCost code).2)))) != (TreeCost ((DrawTreeCost code).1) (JoinTree.mk (JoinTree.Leaf ((DrawTreeCost code).2)) (JoinTree.Kids ((DrawTreeCost code).2))))) then true else (decide ((iTreeCost ((DrawTreeCost code).1) (JoinTree.mk (JoinTree.Leaf ((DrawTreeCost code).2)) (JoinTree.Kids ((DrawTreeCost code).2)))) < 0))) then ((iTreeCost ((DrawTreeCost code).1) (JoinTree.mk (JoinTree.Leaf ((DrawTreeCost code).2)) (JoinTree.Kids ((DrawTreeCost code).2)))) == (TreeCost ((DrawTreeCost code).1) (JoinTree.mk (JoinTree.Leaf ((DrawTreeCost code).2)) (JoinTree.Kids ((DrawTreeCost code).2))))) else (bif (bif (bif ((iTreeCost ((DrawTreeCost code).1) (JoinTree.mk (JoinTree.Leaf ((DrawTreeCost code).2)) (JoinTree.Kids ((DrawTreeCost code).2)))) != (TreeCost ((DrawTreeCost code).1) (JoinTree.mk (JoinTree.Leaf ((DrawTreeCost code).2)) (JoinTree.Kids ((DrawTreeCost code).2))))) then true else (decide ((iTreeCost ((DrawTreeCost code).1) (JoinTree.mk (JoinTree.Leaf ((DrawTreeCost code).2)) (JoinTree.Kids ((DrawTreeCost code).2)))) < 0))) then true else (((List.length (LeavesOf ((DrawTreeCost code).1) (JoinTree.mk (JoinTree.Leaf ((DrawTreeCost code).2)) (JoinTree.Kids ((DrawTreeCost code).2)))) : Nat) : Int) != ((List.length (Graph.Rows ((DrawTreeCost code).1)) : Nat) : Int))) then ((iTreeCost ((DrawTreeCost code).1) (JoinTree.mk (JoinTree.Leaf ((DrawTreeCost code).2)) (JoinTree.Kids ((DrawTreeCost code).2)))) == (TreeCost ((DrawTreeCost code).1) (JoinTree.mk (JoinTree.Leaf ((DrawTreeCost code).2)) (JoinTree.Kids ((DrawTreeCost code).2))))) else (decide (((iBestTree ((DrawTreeCost code).1)).2) ≤ (iTreeCost ((DrawTreeCost code).1) (JoinTree.mk (JoinTree.Leaf ((DrawTreeCost code).2)) (JoinTree.Kids ((DrawTreeCost code).2)))))))))

def FnBestOfTrees_sp : FnSpec := mkSpec [.val (.slice (.int .u8))] [.val .bool] (fun (code : List Int) => True) (fun (code : List Int) => [⟨.bool, (FnBestOfTrees code)⟩])

theorem FnBestOfTrees_ok : FnOK Try.prog 12 FnBestOfTrees_sp := by
 have hC : CtxOK Try.prog (mkCtx tyL [(25, iBestTree_sp), (31, DrawTreeCost_sp), (32, iTreeCost_sp), (33, TreeCost_sp), (34, LeavesOf_sp)]) := CtxOK.cons iBestTree_ok (CtxOK.cons DrawTreeCost_ok (CtxOK.cons iTreeCost_ok (CtxOK.cons TreeCost_ok (CtxOK.cons LeavesOf_ok (CtxOK.nil tyOK)))))
 have hM : Try.prog.follows .mixedOrders = true := Try.checked.mixed
 refine FnOK.of_body Try.func12 (by kernel_rfl) rfl (C := (mkCtx tyL [(25, iBestTree_sp), (31, DrawTreeCost_sp), (32, iTreeCost_sp), (33, TreeCost_sp), (34, LeavesOf_sp)])) hC.ty (by kernel_rfl) ?_
 intro (code : List Int) hwf hpre E
 have hpre : True := hpre
 have hw_code : Wf ⟨(.slice (.int .u8)), (code : List Int)⟩ := hwf _ (List.Mem.head _)
 have hl_code : ((List.length code : Nat) : Int) ≤ 9223372036854775807 := hw_code.len
 have e0 : FnBestOfTrees code = FnBestOfTrees code := rfl
 refine AW.seq (AW.r1 hC [0] [] ⟨[(0, .data (.slice (.int .u8)) (code : List Int))], []⟩ ?_)
 refine AW.seq (AW.seq (AW.r1 hC [0, 10] [] ⟨[(0, .data (.slice (.int .u8)) (code : List Int)), (10, .bool (decide (1048576 < ((List.length code : Nat) : Int))))], []⟩ ?_))
 refine AW.cd (decide (1048576 < ((List.length code : Nat) : Int))) ?_ ?_
 ·
  intro h1
  have h1q : 1048576 < ((List.length code : Nat) : Int) := (of_decide_eq_true h1)
  have e2 := e0.trans (Go.Am.bif_t h1)
  refine AW.seq (AW.r1 hC [2] [] ⟨[(2, .bool true)], []⟩ ?_)
  exact AW.ret (AW.retE (β := Bool) (fun v => [⟨.bool, v⟩]) (fun v => []) (v := true) e2 (by kernel_rfl) rfl rfl)
 ·
  intro h3
  have h3q : ¬ (1048576 < ((List.length code : Nat) : Int)) := (of_decide_eq_false h3)
  have e4 := e0.trans (Go.Am.bif_f h3)
  refine AW.kp [0] [] ⟨[(0, .data (.slice (.int .u8)) (code : List Int))], []⟩ ?_
  refine AW.skip (AW.seq (AW.r0 hC [3, 4] [12, 16] ⟨[(3, .ref 12 1 0), (4, .ref 16 1 0)], [(12, .box 1 [.data (.slice (.int .i64)) ((Graph.Rows ((DrawTreeCost code).1)) : List Int), .data (.slice (.named 0)) ((Graph.Edges ((DrawTreeCost code).1)) : List Edge)]), (16, .box 1 [.int .i64 (JoinTree.Leaf ((DrawTreeCost code).2)), .data (.slice (.named 3)) ((JoinTree.Kids ((DrawTreeCost code).2)) : List JoinTree)])]⟩ [(True)] ?_ ?_))
  ·
   refine ⟨?_, trivial⟩
   ·
    trivial
  refine AW.seq (AW.r0 hC [3, 4, 5] [12, 16] ⟨[(3, .ref 12 1 0), (4, .ref 16 1 0), (5, .int .i64 (iTreeCost ((DrawTreeCost code).1) (JoinTree.mk (JoinTree.Leaf ((DrawTreeCost code).2)) (JoinTree.Kids ((DrawTreeCost code).2)))))], [(12, .box 1 [.data (.slice (.int .i64)) ((Graph.Rows ((DrawTreeCost code).1)) : List Int), .data (.slice (.named 0)) ((Graph.Edges ((DrawTreeCost code).1)) : List Edge)]), (16, .box 1 [.int .i64 (JoinTree.Leaf ((DrawTreeCost code).2)), .data (.slice (.named 3)) ((JoinTree.Kids ((DrawTreeCost code).2)) : List JoinTree)])]⟩ [(True)] ?_ ?_)
  ·
   refine ⟨?_, trivial⟩
   ·
    trivial
  refine AW.seq (AW.seq ?_)
  refine Go.Am.bsplit (b := (bif ((iTreeCost ((DrawTreeCost code).1) (JoinTree.mk (JoinTree.Leaf ((DrawTreeCost code).2)) (JoinTree.Kids ((DrawTreeCost code).2)))) != (TreeCost ((DrawTreeCost code).1) (JoinTree.mk (JoinTree.Leaf ((DrawTreeCost code).2)) (JoinTree.Kids ((DrawTreeCost code).2))))) then true else (decide ((iTreeCost ((DrawTreeCost code).1) (JoinTree.mk (JoinTree.Leaf ((DrawTreeCost code).2)) (JoinTree.Kids ((DrawTreeCost code).2)))) < 0)))) ?_ ?_
  ·
   intro h5
   have h5q : ((iTreeCost ((DrawTreeCost code).1) (JoinTree.mk (JoinTree.Leaf ((DrawTreeCost code).2)) (JoinTree.Kids ((DrawTreeCost code).2)))) ≠ (TreeCost ((DrawTreeCost code).1) (JoinTree.mk (JoinTree.Leaf ((DrawTreeCost code).2)) (JoinTree.Kids ((DrawTreeCost code).2))))) ∨ ((iTreeCost ((DrawTreeCost code).1) (JoinTree.mk (JoinTree.Leaf ((DrawTreeCost code).2)) (JoinTree.Kids ((DrawTreeCost code).2)))) < 0) := (Or.imp (fun h => (Go.Am.bne_pos h)) (fun h => (of_decide_eq_true h)) (Go.Am.or_pos h5))
   have e6 := e4.trans (Go.Am.bif_t h5)
   refine AW.regD hC hM  false [(28, true)] [3, 4, 5, 37] [12, 16]
    ⟨[(3, .ref 12 1 0), (4, .ref 16 1 0), (5, .int .i64 (iTreeCost ((DrawTreeCost code).1) (JoinTree.mk (JoinTree.Leaf ((DrawTreeCost code).2)) (JoinTree.Kids ((DrawTreeCost code).2))))), (37, .bool true)], [(12, .box 1 [.data (.slice (.int .i64)) ((Graph.Rows ((DrawTreeCost code).1)) : List Int), .data (.slice (.named 0)) ((Graph.Edges ((DrawTreeCost code).1)) : List Edge)]), (16, .box 1 [.int .i64 (JoinTree.Leaf ((DrawTreeCost code).2)), .data (.slice (.named 3)) ((JoinTree.Kids ((DrawTreeCost code).2)) : List JoinTree)])]⟩
    [(True), ((((iTreeCost ((DrawTreeCost code).1) (JoinTree.mk (JoinTree.Leaf ((DrawTreeCost code).2)) (JoinTree.Kids ((DrawTreeCost code).2)))) != (TreeCost ((DrawTreeCost code).1) (JoinTree.mk (JoinTree.Leaf ((DrawTreeCost code).2)) (JoinTree.Kids ((DrawTreeCost code).2))))) = false) → ((((iTreeCost ((DrawTreeCost code).1) (JoinTree.mk (JoinTree.Leaf ((DrawTreeCost code).2)) (JoinTree.Kids ((DrawTreeCost code).2)))) != (TreeCost ((DrawTreeCost code).1) (JoinTree.mk (JoinTree.Leaf ((DrawTreeCost code).2)) (JoinTree.Kids ((DrawTreeCost code).2))))) = false))), ((((iTreeCost ((DrawTreeCost code).1) (JoinTree.mk (JoinTree.Leaf ((DrawTreeCost code).2)) (JoinTree.Kids ((DrawTreeCost code).2)))) != (TreeCost ((DrawTreeCost code).1) (JoinTree.mk (JoinTree.Leaf ((DrawTreeCost code).2)) (JoinTree.Kids ((DrawTreeCost code).2))))) = false) → ((((iTreeCost ((DrawTreeCost code).1) (JoinTree.mk (JoinTree.Leaf ((DrawTreeCost code).2)) (JoinTree.Kids ((DrawTreeCost code).2)))) != (TreeCost ((DrawTreeCost code).1) (JoinTree.mk (JoinTree.Leaf ((DrawTreeCost code).2)) (JoinTree.Kids ((DrawTreeCost code).2))))) = false))), ((bif ((iTreeCost ((DrawTreeCost code).1) (JoinTree.mk (JoinTree.Leaf ((DrawTreeCost code).2)) (JoinTree.Kids ((DrawTreeCost code).2)))) != (TreeCost ((DrawTreeCost code).1) (JoinTree.mk (JoinTree.Leaf ((DrawTreeCost code).2)) (JoinTree.Kids ((DrawTreeCost code).2))))) then true else (decide ((iTreeCost ((DrawTreeCost code).1) (JoinTree.mk (JoinTree.Leaf ((DrawTreeCost code).2)) (JoinTree.Kids ((DrawTreeCost code).2)))) < 0))) = true), ((bif ((iTreeCost ((DrawTreeCost code).1) (JoinTree.mk (JoinTree.Leaf ((DrawTreeCost code).2)) (JoinTree.Kids ((DrawTreeCost code).2)))) != (TreeCost ((DrawTreeCost code).1) (JoinTree.mk (JoinTree.Leaf ((DrawTreeCost code).2)) (JoinTree.Kids ((DrawTreeCost code).2))))) then true else (decide ((iTreeCost ((DrawTreeCost code).1) (JoinTree.mk (JoinTree.Leaf ((DrawTreeCost code).2)) (JoinTree.Kids ((DrawTreeCost code).2)))) < 0))) = true), ((bif ((iTreeCost ((DrawTreeCost code).1) (JoinTree.mk (JoinTree.Leaf ((DrawTreeCost code).2)) (JoinTree.Kids ((DrawTreeCost code).2)))) != (TreeCost ((DrawTreeCost code).1) (JoinTree.mk (JoinTree.Leaf ((DrawTreeCost code).2)) (JoinTree.Kids ((DrawTreeCost code).2))))) then true else (decide ((iTreeCost ((DrawTreeCost code).1) (JoinTree.mk (JoinTree.Leaf ((DrawTreeCost code).2)) (JoinTree.Kids ((DrawTreeCost code).2)))) < 0))) = true), ((bif ((iTreeCost ((DrawTreeCost code).1) (JoinTree.mk (JoinTree.Leaf ((DrawTreeCost code).2)) (JoinTree.Kids ((DrawTreeCost code).2)))) != (TreeCost ((DrawTreeCost code).1) (JoinTree.mk (JoinTree.Leaf ((DrawTreeCost code).2)) (JoinTree.Kids ((DrawTreeCost code).2))))) then true else (decide ((iTreeCost ((DrawTreeCost code).1) (JoinTree.mk (JoinTree.Leaf ((DrawTreeCost code).2)) (JoinTree.Kids ((DrawTreeCost code).2)))) < 0))) = true), ((bif ((iTreeCost ((DrawTreeCost code).1) (JoinTree.mk (JoinTree.Leaf ((DrawTreeCost code).2)) (JoinTree.Kids ((DrawTreeCost code).2)))) != (TreeCost ((DrawTreeCost code).1) (JoinTree.mk (JoinTree.Leaf ((DrawTreeCost code).2)) (JoinTree.Kids ((DrawTreeCost code).2))))) then true else (decide ((iTreeCost ((DrawTreeCost code).1) (JoinTree.mk (JoinTree.Leaf ((DrawTreeCost code).2)) (JoinTree.Kids ((DrawTreeCost code).2)))) < 0))) = true), ((bif ((iTreeCost ((DrawTreeCost code).1) (JoinTree.mk (JoinTree.Leaf ((DrawTreeCost code).2)) (JoinTree.Kids ((DrawTreeCost code).2)))) != (TreeCost ((DrawTreeCost code).1) (JoinTree.mk (JoinTree.Leaf ((DrawTreeCost code).2)) (JoinTree.Kids ((DrawTreeCost code).2))))) then true else (decide ((iTreeCost ((DrawTreeCost code).1) (JoinTree.mk (JoinTree.Leaf ((DrawTreeCost code).2)) (JoinTree.Kids ((DrawTreeCost code).2)))) < 0))) = true), ((bif ((iTreeCost ((DrawTreeCost code).1) (JoinTree.mk (JoinTree.Leaf ((DrawTreeCost code).2)) (JoinTree.Kids ((DrawTreeCost code).2)))) != (TreeCost ((DrawTreeCost code).1) (JoinTree.mk (JoinTree.Leaf ((DrawTreeCost code).2)) (JoinTree.Kids ((DrawTreeCost code).2))))) then true else (decide ((iTreeCost ((DrawTreeCost code).1) (JoinTree.mk (JoinTree.Leaf ((DrawTreeCost code).2)) (JoinTree.Kids ((DrawTreeCost code).2)))) < 0))) = true), ((bif ((iTreeCost ((DrawTreeCost code).1) (JoinTree.mk (JoinTree.Leaf ((DrawTreeCost code).2)) (JoinTree.Kids ((DrawTreeCost code).2)))) != (TreeCost ((DrawTreeCost code).1) (JoinTree.mk (JoinTree.Leaf ((DrawTreeCost code).2)) (JoinTree.Kids ((DrawTreeCost code).2))))) then true else (decide ((iTreeCost ((DrawTreeCost code).1) (JoinTree.mk (JoinTree.Leaf ((DrawTreeCost code).2)) (JoinTree.Kids ((DrawTreeCost code).2)))) < 0))) = true), ((bif ((iTreeCost ((DrawTreeCost code).1) (JoinTree.mk (JoinTree.Leaf ((DrawTreeCost code).2)) (JoinTree.Kids ((DrawTreeCost code).2)))) != (TreeCost ((DrawTreeCost code).1) (JoinTree.mk (JoinTree.Leaf ((DrawTreeCost code).2)) (JoinTree.Kids ((DrawTreeCost code).2))))) then true else (decide ((iTreeCost ((DrawTreeCost code).1) (JoinTree.mk (JoinTree.Leaf ((DrawTreeCost code).2)) (JoinTree.Kids ((DrawTreeCost code).2)))) < 0))) = true)] (by kernel_rfl) ?_ ?_
   ·
    refine ⟨?_, ?_, ?_, ?_, ?_, ?_, ?_, ?_, ?_, ?_, ?_, ?_, trivial⟩
    ·
     trivial
    ·
     intro g7
     have g7p0 : (iTreeCost ((DrawTreeCost code).1) (JoinTree.mk (JoinTree.Leaf ((DrawTreeCost code).2)) (JoinTree.Kids ((DrawTreeCost code).2)))) = (TreeCost ((DrawTreeCost code).1) (JoinTree.mk (JoinTree.Leaf ((DrawTreeCost code).2)) (JoinTree.Kids ((DrawTreeCost code).2)))) := (Go.Am.bne_neg g7)
     assumption
    ·
     intro g8
     have g8p0 : (iTreeCost ((DrawTreeCost code).1) (JoinTree.mk (JoinTree.Leaf ((DrawTreeCost code).2)) (JoinTree.Kids ((DrawTreeCost code).2)))) = (TreeCost ((DrawTreeCost code).1) (JoinTree.mk (JoinTree.Leaf ((DrawTreeCost code).2)) (JoinTree.Kids ((DrawTreeCost code).2)))) := (Go.Am.bne_neg g8)
     assumption
    ·
     assumption
    ·
     assumption
    ·
     assumption
    ·
     assumption
    ·
     assumption
    ·
     assumption
    ·
     assumption
    ·
     assumption
    ·
     assumption
   refine AW.cond (b := true) (by kernel_rfl) (fun _ => ?_) (fun h => by cases h)
   refine AW.seq (AW.r0 hC [2] [] ⟨[(2, .bool ((iTreeCost ((DrawTreeCost code).1) (JoinTree.mk (JoinTree.Leaf ((DrawTreeCost code).2)) (JoinTree.Kids ((DrawTreeCost code).2)))) == (TreeCost ((DrawTreeCost code).1) (JoinTree.mk (JoinTree.Leaf ((DrawTreeCost code).2)) (JoinTree.Kids ((DrawTreeCost code).2))))))], []⟩ [(True)] ?_ ?_)
   ·
    refine ⟨?_, trivial⟩
    ·
     trivial
   exact AW.ret (AW.retE (β := Bool) (fun v => [⟨.bool, v⟩]) (fun v => []) (v := ((iTreeCost ((DrawTreeCost code).1) (JoinTree.mk (JoinTree.Leaf ((DrawTreeCost code).2)) (JoinTree.Kids ((DrawTreeCost code).2)))) == (TreeCost ((DrawTreeCost code).1) (JoinTree.mk (JoinTree.Leaf ((DrawTreeCost code).2)) (JoinTree.Kids ((DrawTreeCost code).2)))))) e6 (by kernel_rfl) rfl rfl)
  ·
   intro h9
   have h9q : ((iTreeCost ((DrawTreeCost code).1) (JoinTree.mk (JoinTree.Leaf ((DrawTreeCost code).2)) (JoinTree.Kids ((DrawTreeCost code).2)))) = (TreeCost ((DrawTreeCost code).1) (JoinTree.mk (JoinTree.Leaf ((DrawTreeCost code).2)) (JoinTree.Kids ((DrawTreeCost code).2))))) ∧ (¬ ((iTreeCost ((DrawTreeCost code).1) (JoinTree.mk (JoinTree.Leaf ((DrawTreeCost code).2)) (JoinTree.Kids ((DrawTreeCost code).2)))) < 0)) := (And.imp (fun h => (Go.Am.bne_neg h)) (fun h => (of_decide_eq_false h)) (Go.Am.or_neg h9))
   have e10 := e4.trans (Go.Am.bif_f h9)
   refine AW.regD hC hM  false [(28, false)] [3, 4, 5, 37] [12, 16]
    ⟨[(3, .ref 12 1 0), (4, .ref 16 1 0), (5, .int .i64 (iTreeCost ((DrawTreeCost code).1) (JoinTree.mk (JoinTree.Leaf ((DrawTreeCost code).2)) (JoinTree.Kids ((DrawTreeCost code).2))))), (37, .bool (bif (bif ((iTreeCost ((DrawTreeCost code).1) (JoinTree.mk (JoinTree.Leaf ((DrawTreeCost code).2)) (JoinTree.Kids ((DrawTreeCost code).2)))) != (TreeCost ((DrawTreeCost code).1) (JoinTree.mk (JoinTree.Leaf ((DrawTreeCost code).2)) (JoinTree.Kids ((DrawTreeCost code).2))))) then true else (decide ((iTreeCost ((DrawTreeCost code).1) (JoinTree.mk (JoinTree.Leaf ((DrawTreeCost code).2)) (JoinTree.Kids ((DrawTreeCost code).2)))) < 0))) then true else (((List.length (LeavesOf ((DrawTreeCost code).1) (JoinTree.mk (JoinTree.Leaf ((DrawTreeCost code).2)) (JoinTree.Kids ((DrawTreeCost code).2)))) : Nat) : Int) != ((List.length (Graph.Rows ((DrawTreeCost code).1)) : Nat) : Int))))], [(12, .box 1 [.data (.slice (.int .i64)) ((Graph.Rows ((DrawTreeCost code).1)) : List Int), .data (.slice (.named 0)) ((Graph.Edges ((DrawTreeCost code).1)) : List Edge)]), (16, .box 1 [.int .i64 (JoinTree.Leaf ((DrawTreeCost code).2)), .data (.slice (.named 3)) ((JoinTree.Kids ((DrawTreeCost code).2)) : List JoinTree)])]⟩
    [(True), ((((iTreeCost ((DrawTreeCost code).1) (JoinTree.mk (JoinTree.Leaf ((DrawTreeCost code).2)) (JoinTree.Kids ((DrawTreeCost code).2)))) != (TreeCost ((DrawTreeCost code).1) (JoinTree.mk (JoinTree.Leaf ((DrawTreeCost code).2)) (JoinTree.Kids ((DrawTreeCost code).2))))) = false) → ((((iTreeCost ((DrawTreeCost code).1) (JoinTree.mk (JoinTree.Leaf ((DrawTreeCost code).2)) (JoinTree.Kids ((DrawTreeCost code).2)))) != (TreeCost ((DrawTreeCost code).1) (JoinTree.mk (JoinTree.Leaf ((DrawTreeCost code).2)) (JoinTree.Kids ((DrawTreeCost code).2))))) = false))), ((((iTreeCost ((DrawTreeCost code).1) (JoinTree.mk (JoinTree.Leaf ((DrawTreeCost code).2)) (JoinTree.Kids ((DrawTreeCost code).2)))) != (TreeCost ((DrawTreeCost code).1) (JoinTree.mk (JoinTree.Leaf ((DrawTreeCost code).2)) (JoinTree.Kids ((DrawTreeCost code).2))))) = false) → ((((iTreeCost ((DrawTreeCost code).1) (JoinTree.mk (JoinTree.Leaf ((DrawTreeCost code).2)) (JoinTree.Kids ((DrawTreeCost code).2)))) != (TreeCost ((DrawTreeCost code).1) (JoinTree.mk (JoinTree.Leaf ((DrawTreeCost code).2)) (JoinTree.Kids ((DrawTreeCost code).2))))) = false))), ((bif ((iTreeCost ((DrawTreeCost code).1) (JoinTree.mk (JoinTree.Leaf ((DrawTreeCost code).2)) (JoinTree.Kids ((DrawTreeCost code).2)))) != (TreeCost ((DrawTreeCost code).1) (JoinTree.mk (JoinTree.Leaf ((DrawTreeCost code).2)) (JoinTree.Kids ((DrawTreeCost code).2))))) then true else (decide ((iTreeCost ((DrawTreeCost code).1) (JoinTree.mk (JoinTree.Leaf ((DrawTreeCost code).2)) (JoinTree.Kids ((DrawTreeCost code).2)))) < 0))) = false), ((bif ((iTreeCost ((DrawTreeCost code).1) (JoinTree.mk (JoinTree.Leaf ((DrawTreeCost code).2)) (JoinTree.Kids ((DrawTreeCost code).2)))) != (TreeCost ((DrawTreeCost code).1) (JoinTree.mk (JoinTree.Leaf ((DrawTreeCost code).2)) (JoinTree.Kids ((DrawTreeCost code).2))))) then true else (decide ((iTreeCost ((DrawTreeCost code).1) (JoinTree.mk (JoinTree.Leaf ((DrawTreeCost code).2)) (JoinTree.Kids ((DrawTreeCost code).2)))) < 0))) = false), ((bif ((iTreeCost ((DrawTreeCost code).1) (JoinTree.mk (JoinTree.Leaf ((DrawTreeCost code).2)) (JoinTree.Kids ((DrawTreeCost code).2)))) != (TreeCost ((DrawTreeCost code).1) (JoinTree.mk (JoinTree.Leaf ((DrawTreeCost code).2)) (JoinTree.Kids ((DrawTreeCost code).2))))) then true else (decide ((iTreeCost ((DrawTreeCost code).1) (JoinTree.mk (JoinTree.Leaf ((DrawTreeCost code).2)) (JoinTree.Kids ((DrawTreeCost code).2)))) < 0))) = false), (True), ((bif ((iTreeCost ((DrawTreeCost code).1) (JoinTree.mk (JoinTree.Leaf ((DrawTreeCost code).2)) (JoinTree.Kids ((DrawTreeCost code).2)))) != (TreeCost ((DrawTreeCost code).1) (JoinTree.mk (JoinTree.Leaf ((DrawTreeCost code).2)) (JoinTree.Kids ((DrawTreeCost code).2))))) then true else (decide ((iTreeCost ((DrawTreeCost code).1) (JoinTree.mk (JoinTree.Leaf ((DrawTreeCost code).2)) (JoinTree.Kids ((DrawTreeCost code).2)))) < 0))) = false), ((bif ((iTreeCost ((DrawTreeCost code).1) (JoinTree.mk (JoinTree.Leaf ((DrawTreeCost code).2)) (JoinTree.Kids ((DrawTreeCost code).2)))) != (TreeCost ((DrawTreeCost code).1) (JoinTree.mk (JoinTree.Leaf ((DrawTreeCost code).2)) (JoinTree.Kids ((DrawTreeCost code).2))))) then true else (decide ((iTreeCost ((DrawTreeCost code).1) (JoinTree.mk (JoinTree.Leaf ((DrawTreeCost code).2)) (JoinTree.Kids ((DrawTreeCost code).2)))) < 0))) = false), ((bif ((iTreeCost ((DrawTreeCost code).1) (JoinTree.mk (JoinTree.Leaf ((DrawTreeCost code).2)) (JoinTree.Kids ((DrawTreeCost code).2)))) != (TreeCost ((DrawTreeCost code).1) (JoinTree.mk (JoinTree.Leaf ((DrawTreeCost code).2)) (JoinTree.Kids ((DrawTreeCost code).2))))) then true else (decide ((iTreeCost ((DrawTreeCost code).1) (JoinTree.mk (JoinTree.Leaf ((DrawTreeCost code).2)) (JoinTree.Kids ((DrawTreeCost code).2)))) < 0))) = false), ((bif ((iTreeCost ((DrawTreeCost code).1) (JoinTree.mk (JoinTree.Leaf ((DrawTreeCost code).2)) (JoinTree.Kids ((DrawTreeCost code).2)))) != (TreeCost ((DrawTreeCost code).1) (JoinTree.mk (JoinTree.Leaf ((DrawTreeCost code).2)) (JoinTree.Kids ((DrawTreeCost code).2))))) then true else (decide ((iTreeCost ((DrawTreeCost code).1) (JoinTree.mk (JoinTree.Leaf ((DrawTreeCost code).2)) (JoinTree.Kids ((DrawTreeCost code).2)))) < 0))) = false), ((bif ((iTreeCost ((DrawTreeCost code).1) (JoinTree.mk (JoinTree.Leaf ((DrawTreeCost code).2)) (JoinTree.Kids ((DrawTreeCost code).2)))) != (TreeCost ((DrawTreeCost code).1) (JoinTree.mk (JoinTree.Leaf ((DrawTreeCost code).2)) (JoinTree.Kids ((DrawTreeCost code).2))))) then true else (decide ((iTreeCost ((DrawTreeCost code).1) (JoinTree.mk (JoinTree.Leaf ((DrawTreeCost code).2)) (JoinTree.Kids ((DrawTreeCost code).2)))) < 0))) = false)] (by kernel_rfl) ?_ ?_
   ·
    refine ⟨?_, ?_, ?_, ?_, ?_, ?_, ?_, ?_, ?_, ?_, ?_, ?_, trivial⟩
    ·
     trivial
    ·
     intro g11
     have g11p0 : (iTreeCost ((DrawTreeCost code).1) (JoinTree.mk (JoinTree.Leaf ((DrawTreeCost code).2)) (JoinTree.Kids ((DrawTreeCost code).2)))) = (TreeCost ((DrawTreeCost code).1) (JoinTree.mk (JoinTree.Leaf ((DrawTreeCost code).2)) (JoinTree.Kids ((DrawTreeCost code).2)))) := (Go.Am.bne_neg g11)
     assumption
    ·
     intro g12
     have g12p0 : (iTreeCost ((DrawTreeCost code).1) (JoinTree.mk (JoinTree.Leaf ((DrawTreeCost code).2)) (JoinTree.Kids ((DrawTreeCost code).2)))) = (TreeCost ((DrawTreeCost code).1) (JoinTree.mk (JoinTree.Leaf ((DrawTreeCost code).2)) (JoinTree.Kids ((DrawTreeCost code).2)))) := (Go.Am.bne_neg g12)
     assumption
    ·
     assumption
    ·
     assumption
    ·
     assumption
    ·
     trivial
    ·
     assumption
    ·
     assumption
    ·
     assumption
    ·
     assumption
    ·
     assumption
   refine AW.cd (bif (bif ((iTreeCost ((DrawTreeCost code).1) (JoinTree.mk (JoinTree.Leaf ((DrawTreeCost code).2)) (JoinTree.Kids ((DrawTreeCost code).2)))) != (TreeCost ((DrawTreeCost code).1) (JoinTree.mk (JoinTree.Leaf ((DrawTreeCost code).2)) (JoinTree.Kids ((DrawTreeCost code).2))))) then true else (decide ((iTreeCost ((DrawTreeCost code).1) (JoinTree.mk (JoinTree.Leaf ((DrawTreeCost code).2)) (JoinTree.Kids ((DrawTreeCost code).2)))) < 0))) then true else (((List.length (LeavesOf ((DrawTreeCost code).1) (JoinTree.mk (JoinTree.Leaf ((DrawTreeCost code).2)) (JoinTree.Kids ((DrawTreeCost code).2)))) : Nat) : Int) != ((List.length (Graph.Rows ((DrawTreeCost code).1)) : Nat) : Int))) ?_ ?_
   ·
    intro h13
    have h13q : (((iTreeCost ((DrawTreeCost code).1) (JoinTree.mk (JoinTree.Leaf ((DrawTreeCost code).2)) (JoinTree.Kids ((DrawTreeCost code).2)))) ≠ (TreeCost ((DrawTreeCost code).1) (JoinTree.mk (JoinTree.Leaf ((DrawTreeCost code).2)) (JoinTree.Kids ((DrawTreeCost code).2))))) ∨ ((iTreeCost ((DrawTreeCost code).1) (JoinTree.mk (JoinTree.Leaf ((DrawTreeCost code).2)) (JoinTree.Kids ((DrawTreeCost code).2)))) < 0)) ∨ (((List.length (LeavesOf ((DrawTreeCost code).1) (JoinTree.mk (JoinTree.Leaf ((DrawTreeCost code).2)) (JoinTree.Kids ((DrawTreeCost code).2)))) : Nat) : Int) ≠ ((List.length (Graph.Rows ((DrawTreeCost code).1)) : Nat) : Int)) := (Or.imp (fun h => (Or.imp (fun h => (Go.Am.bne_pos h)) (fun h => (of_decide_eq_true h)) (Go.Am.or_pos h))) (fun h => (Go.Am.bne_pos h)) (Go.Am.or_pos h13))
    have e14 := e10.trans (Go.Am.bif_t h13)
    refine AW.seq (AW.r0 hC [2] [] ⟨[(2, .bool ((iTreeCost ((DrawTreeCost code).1) (JoinTree.mk (JoinTree.Leaf ((DrawTreeCost code).2)) (JoinTree.Kids ((DrawTreeCost code).2)))) == (TreeCost ((DrawTreeCost code).1) (JoinTree.mk (JoinTree.Leaf ((DrawTreeCost code).2)) (JoinTree.Kids ((DrawTreeCost code).2))))))], []⟩ [(True)] ?_ ?_)
    ·
     refine ⟨?_, trivial⟩
     ·
      trivial
    exact AW.ret (AW.retE (β := Bool) (fun v => [⟨.bool, v⟩]) (fun v => []) (v := ((iTreeCost ((DrawTreeCost code).1) (JoinTree.mk (JoinTree.Leaf ((DrawTreeCost code).2)) (JoinTree.Kids ((DrawTreeCost code).2)))) == (TreeCost ((DrawTreeCost code).1) (JoinTree.mk (JoinTree.Leaf ((DrawTreeCost code).2)) (JoinTree.Kids ((DrawTreeCost code).2)))))) e14 (by kernel_rfl) rfl rfl)
   ·
    intro h15
    have h15q : (((iTreeCost ((DrawTreeCost code).1) (JoinTree.mk (JoinTree.Leaf ((DrawTreeCost code).2)) (JoinTree.Kids ((DrawTreeCost code).2)))) = (TreeCost ((DrawTreeCost code).1) (JoinTree.mk (JoinTree.Leaf ((DrawTreeCost code).2)) (JoinTree.Kids ((DrawTreeCost code).2))))) ∧ (¬ ((iTreeCost ((DrawTreeCost code).1) (JoinTree.mk (JoinTree.Leaf ((DrawTreeCost code).2)) (JoinTree.Kids ((DrawTreeCost code).2)))) < 0))) ∧ (((List.length (LeavesOf ((DrawTreeCost code).1) (JoinTree.mk (JoinTree.Leaf ((DrawTreeCost code).2)) (JoinTree.Kids ((DrawTreeCost code).2)))) : Nat) : Int) = ((List.length (Graph.Rows ((DrawTreeCost code).1)) : Nat) : Int)) := (And.imp (fun h => (And.imp (fun h => (Go.Am.bne_neg h)) (fun h => (of_decide_eq_false h)) (Go.Am.or_neg h))) (fun h => (Go.Am.bne_neg h)) (Go.Am.or_neg h15))
    have e16 := e10.trans (Go.Am.bif_f h15)
    refine AW.kp [3, 5] [12] ⟨[(3, .ref 12 1 0), (5, .int .i64 (iTreeCost ((DrawTreeCost code).1) (JoinTree.mk (JoinTree.Leaf ((DrawTreeCost code).2)) (JoinTree.Kids ((DrawTreeCost code).2)))))], [(12, .box 1 [.data (.slice (.int .i64)) ((Graph.Rows ((DrawTreeCost code).1)) : List Int), .data (.slice (.named 0)) ((Graph.Edges ((DrawTreeCost code).1)) : List Edge)])]⟩ ?_
    refine AW.skip (AW.seq (AW.r0 hC [5, 7] [] ⟨[(5, .int .i64 (iTreeCost ((DrawTreeCost code).1) (JoinTree.mk (JoinTree.Leaf ((DrawTreeCost code).2)) (JoinTree.Kids ((DrawTreeCost code).2))))), (7, .int .i64 ((iBestTree ((DrawTreeCost code).1)).2))], []⟩ [(True)] ?_ ?_))
    ·
     refine ⟨?_, trivial⟩
     ·
      trivial
    refine AW.seq (AW.r1 hC [2] [] ⟨[(2, .bool (decide (((iBestTree ((DrawTreeCost code).1)).2) ≤ (iTreeCost ((DrawTreeCost code).1) (JoinTree.mk (JoinTree.Leaf ((DrawTreeCost code).2)) (JoinTree.Kids ((DrawTreeCost code).2)))))))], []⟩ ?_)
    exact AW.ret (AW.retE (β := Bool) (fun v => [⟨.bool, v⟩]) (fun v => []) (v := (decide (((iBestTree ((DrawTreeCost code).1)).2) ≤ (iTreeCost ((DrawTreeCost code).1) (JoinTree.mk (JoinTree.Leaf ((DrawTreeCost code).2)) (JoinTree.Kids ((DrawTreeCost code).2))))))) e16 (by kernel_rfl) rfl rfl)

end
end Go.Proofs.Ytpoohhjlpepmfaa
