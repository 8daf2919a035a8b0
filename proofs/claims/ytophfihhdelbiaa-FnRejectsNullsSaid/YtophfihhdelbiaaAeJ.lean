/-
  A part of the proof of this claim (AeJ): what functions of the program compute, and plain facts of that. No conditions.
-/
import Derived.Test.YtophfihhdelbiaaAeI
set_option linter.all false
namespace Go.Proofs.Ytophfihhdelbiaa
open Go Go.Am
noncomputable section

def FnRejectsNulls_l0 (code : List Int) (more : List Int) : Nat → Nat → (List Val) → (List Val)
 | 0, i, row => row
 | k + 1, i, row => (bif (decide (((i : Nat) : Int) < ((DrawRejectsNulls code).2.1))) then (bif (!(isIn ((DrawRejectsNulls code).2.2) ((i : Nat) : Int))) then (FnRejectsNulls_l0 code more k (i + 1) (List.set (row ++ ([(Val.mk (isIn ((DrawRejectsNulls code).2.2) ((i : Nat) : Int)) 0)] : List Val)) i (Val.mk (Val.Null (List.getD (row ++ ([(Val.mk (isIn ((DrawRejectsNulls code).2.2) ((i : Nat) : Int)) 0)] : List Val)) i Val.zero)) (((((List.length more) + i : Nat) : Int) % 5) - 1)))) else (FnRejectsNulls_l0 code more k (i + 1) (row ++ ([(Val.mk (isIn ((DrawRejectsNulls code).2.2) ((i : Nat) : Int)) 0)] : List Val)))) else row)

def FnRejectsNulls (code : List Int) (more : List Int) : Bool := (bif (bif (decide (1048576 < ((List.length code : Nat) : Int))) then true else (decide (1048576 < ((List.length more : Nat) : Int)))) then true else (bif (bif ((iRejectsNulls (Xpr.mk (Xpr.Kind ((DrawRejectsNulls code).1)) (Xpr.Col ((DrawRejectsNulls code).1)) (Xpr.V ((DrawRejectsNulls code).1)) (Xpr.Kids ((DrawRejectsNulls code).1))) ((DrawRejectsNulls code).2.1) ((DrawRejectsNulls code).2.2)) != (RejectsNulls (Xpr.mk (Xpr.Kind ((DrawRejectsNulls code).1)) (Xpr.Col ((DrawRejectsNulls code).1)) (Xpr.V ((DrawRejectsNulls code).1)) (Xpr.Kids ((DrawRejectsNulls code).1))) ((DrawRejectsNulls code).2.1) ((DrawRejectsNulls code).2.2))) then true else (!(iRejectsNulls (Xpr.mk (Xpr.Kind ((DrawRejectsNulls code).1)) (Xpr.Col ((DrawRejectsNulls code).1)) (Xpr.V ((DrawRejectsNulls code).1)) (Xpr.Kids ((DrawRejectsNulls code).1))) ((DrawRejectsNulls code).2.1) ((DrawRejectsNulls code).2.2)))) then ((iRejectsNulls (Xpr.mk (Xpr.Kind ((DrawRejectsNulls code).1)) (Xpr.Col ((DrawRejectsNulls code).1)) (Xpr.V ((DrawRejectsNulls code).1)) (Xpr.Kids ((DrawRejectsNulls code).1))) ((DrawRejectsNulls code).2.1) ((DrawRejectsNulls code).2.2)) == (RejectsNulls (Xpr.mk (Xpr.Kind ((DrawRejectsNulls code).1)) (Xpr.Col ((DrawRejectsNulls code).1)) (Xpr.V ((DrawRejectsNulls code).1)) (Xpr.Kids ((DrawRejectsNulls code).1))) ((DrawRejectsNulls code).2.1) ((DrawRejectsNulls code).2.2))) else (Go.Am.andThen (FnRejectsNulls_l0 code more (Int.toNat (((DrawRejectsNulls code).2.1) - ((0 : Nat) : Int)) + 1) 0 ([] : List Val)) (fun z => (fun (row : List Val) => (!(isTrue (Xpr.mk (Xpr.Kind ((DrawRejectsNulls code).1)) (Xpr.Col ((DrawRejectsNulls code).1)) (Xpr.V ((DrawRejectsNulls code).1)) (Xpr.Kids ((DrawRejectsNulls code).1))) row))) z))))

def FnRejectsNulls_sp : FnSpec := mkSpec [.val (.slice (.int .u8)), .val (.slice (.int .u8))] [.val .bool] (fun (code : List Int) (more : List Int) => True) (fun (code : List Int) (more : List Int) => [⟨.bool, (FnRejectsNulls code more)⟩])

theorem FnRejectsNulls_ok : FnOK Try.prog 6 FnRejectsNulls_sp := by
 have hC : CtxOK Try.prog (mkCtx tyL [(11, DrawRejectsNulls_sp), (12, iRejectsNulls_sp), (13, RejectsNulls_sp), (14, isIn_sp), (15, isTrue_sp)]) := CtxOK.cons DrawRejectsNulls_ok (CtxOK.cons iRejectsNulls_ok (CtxOK.cons RejectsNulls_ok (CtxOK.cons isIn_ok (CtxOK.cons isTrue_ok (CtxOK.nil tyOK)))))
 refine FnOK.of_body Try.func6 (by kernel_rfl) rfl (C := (mkCtx tyL [(11, DrawRejectsNulls_sp), (12, iRejectsNulls_sp), (13, RejectsNulls_sp), (14, isIn_sp), (15, isTrue_sp)])) hC.ty (by kernel_rfl) ?_
 intro (code : List Int) (more : List Int) hwf hpre E
 have hpre : True := hpre
 have hw_code : Wf ⟨(.slice (.int .u8)), (code : List Int)⟩ := hwf _ (List.Mem.head _)
 have hl_code : ((List.length code : Nat) : Int) ≤ 9223372036854775807 := hw_code.len
 have hw_more : Wf ⟨(.slice (.int .u8)), (more : List Int)⟩ := hwf _ (List.Mem.tail _ (List.Mem.head _))
 have hl_more : ((List.length more : Nat) : Int) ≤ 9223372036854775807 := hw_more.len
 have e0 : FnRejectsNulls code more = FnRejectsNulls code more := rfl
 refine AW.seq (AW.r1 hC [0, 1] [] ⟨[(0, sD7 code), (1, sD7 more)], []⟩ ?_)
 refine AW.seq (AW.seq (AW.r0 hC [0, 1, 18] [] ⟨[(0, sD7 code), (1, sD7 more), (18, sB (bif (decide (1048576 < ((List.length code : Nat) : Int))) then true else (decide (1048576 < ((List.length more : Nat) : Int)))))], []⟩ [(((decide (1048576 < ((List.length code : Nat) : Int))) = false) → (((decide (1048576 < ((List.length code : Nat) : Int))) = false))), (((decide (1048576 < ((List.length code : Nat) : Int))) = false) → (((decide (1048576 < ((List.length code : Nat) : Int))) = false))), (((decide (1048576 < ((List.length code : Nat) : Int))) = false) → (((decide (1048576 < ((List.length code : Nat) : Int))) = false)))] ?_ ?_))
 ·
  refine ⟨?_, ?_, ?_, trivial⟩
  ·
   intro g1
   have g1p0 : ¬ (1048576 < ((List.length code : Nat) : Int)) := (of_decide_eq_false g1)
   first | assumption | exact ⟨by assumption, by assumption⟩
  ·
   intro g2
   have g2p0 : ¬ (1048576 < ((List.length code : Nat) : Int)) := (of_decide_eq_false g2)
   first | assumption | exact ⟨by assumption, by assumption⟩
  ·
   intro g3
   have g3p0 : ¬ (1048576 < ((List.length code : Nat) : Int)) := (of_decide_eq_false g3)
   first | assumption | exact ⟨by assumption, by assumption⟩
 refine AW.cd (bif (decide (1048576 < ((List.length code : Nat) : Int))) then true else (decide (1048576 < ((List.length more : Nat) : Int)))) ?_ ?_
 ·
  intro h4
  have h4q : (1048576 < ((List.length code : Nat) : Int)) ∨ (1048576 < ((List.length more : Nat) : Int)) := (Or.imp (fun h => (of_decide_eq_true h)) (fun h => (of_decide_eq_true h)) (Go.Am.or_pos h4))
  have e5 := e0.trans (Go.Am.bif_t h4)
  refine AW.seq (AW.r1 hC [4] [] ⟨[(4, sB true)], []⟩ ?_)
  exact AW.ret (AW.rB true e5)
 ·
  intro h6
  have h6q : (¬ (1048576 < ((List.length code : Nat) : Int))) ∧ (¬ (1048576 < ((List.length more : Nat) : Int))) := (And.imp (fun h => (of_decide_eq_false h)) (fun h => (of_decide_eq_false h)) (Go.Am.or_neg h6))
  have e7 := e0.trans (Go.Am.bif_f h6)
  refine AW.kp [0, 1] [] ⟨[(0, sD7 code), (1, sD7 more)], []⟩ ?_
  refine AW.skip (AW.seq (AW.r0 hC [1, 5, 6, 7] [20, 86] ⟨[(1, sD7 more), (5, .ref 20 1 0), (6, sI ((DrawRejectsNulls code).2.1)), (7, .arr 86 1)], [(20, .box 1 [sI (Xpr.Kind ((DrawRejectsNulls code).1)), sI (Xpr.Col ((DrawRejectsNulls code).1)), sB (Val.Null (Xpr.V ((DrawRejectsNulls code).1))), sI (Val.N (Xpr.V ((DrawRejectsNulls code).1))), sD9 (Xpr.Kids ((DrawRejectsNulls code).1))]), (86, .arr 1 (.int .i64) (((DrawRejectsNulls code).2.2) : List Int))]⟩ [(True)] ?_ ?_))
  ·
   refine ⟨?_, trivial⟩
   ·
    trivial
  refine AW.seq (AW.r0 hC [1, 5, 6, 7, 8] [20, 86] ⟨[(1, sD7 more), (5, .ref 20 1 0), (6, sI ((DrawRejectsNulls code).2.1)), (7, .arr 86 1), (8, sB (iRejectsNulls (Xpr.mk (Xpr.Kind ((DrawRejectsNulls code).1)) (Xpr.Col ((DrawRejectsNulls code).1)) (Xpr.V ((DrawRejectsNulls code).1)) (Xpr.Kids ((DrawRejectsNulls code).1))) ((DrawRejectsNulls code).2.1) ((DrawRejectsNulls code).2.2)))], [(20, .box 1 [sI (Xpr.Kind ((DrawRejectsNulls code).1)), sI (Xpr.Col ((DrawRejectsNulls code).1)), sB (Val.Null (Xpr.V ((DrawRejectsNulls code).1))), sI (Val.N (Xpr.V ((DrawRejectsNulls code).1))), sD9 (Xpr.Kids ((DrawRejectsNulls code).1))]), (86, .arr 1 (.int .i64) (((DrawRejectsNulls code).2.2) : List Int))]⟩ [(True)] ?_ ?_)
  ·
   refine ⟨?_, trivial⟩
   ·
    trivial
  refine AW.seq (AW.seq (AW.r0 hC [1, 5, 6, 7, 8, 38] [20, 86] ⟨[(1, sD7 more), (5, .ref 20 1 0), (6, sI ((DrawRejectsNulls code).2.1)), (7, .arr 86 1), (8, sB (iRejectsNulls (Xpr.mk (Xpr.Kind ((DrawRejectsNulls code).1)) (Xpr.Col ((DrawRejectsNulls code).1)) (Xpr.V ((DrawRejectsNulls code).1)) (Xpr.Kids ((DrawRejectsNulls code).1))) ((DrawRejectsNulls code).2.1) ((DrawRejectsNulls code).2.2))), (38, sB (bif ((iRejectsNulls (Xpr.mk (Xpr.Kind ((DrawRejectsNulls code).1)) (Xpr.Col ((DrawRejectsNulls code).1)) (Xpr.V ((DrawRejectsNulls code).1)) (Xpr.Kids ((DrawRejectsNulls code).1))) ((DrawRejectsNulls code).2.1) ((DrawRejectsNulls code).2.2)) != (RejectsNulls (Xpr.mk (Xpr.Kind ((DrawRejectsNulls code).1)) (Xpr.Col ((DrawRejectsNulls code).1)) (Xpr.V ((DrawRejectsNulls code).1)) (Xpr.Kids ((DrawRejectsNulls code).1))) ((DrawRejectsNulls code).2.1) ((DrawRejectsNulls code).2.2))) then true else (!(iRejectsNulls (Xpr.mk (Xpr.Kind ((DrawRejectsNulls code).1)) (Xpr.Col ((DrawRejectsNulls code).1)) (Xpr.V ((DrawRejectsNulls code).1)) (Xpr.Kids ((DrawRejectsNulls code).1))) ((DrawRejectsNulls code).2.1) ((DrawRejectsNulls code).2.2)))))], [(20, .box 1 [sI (Xpr.Kind ((DrawRejectsNulls code).1)), sI (Xpr.Col ((DrawRejectsNulls code).1)), sB (Val.Null (Xpr.V ((DrawRejectsNulls code).1))), sI (Val.N (Xpr.V ((DrawRejectsNulls code).1))), sD9 (Xpr.Kids ((DrawRejectsNulls code).1))]), (86, .arr 1 (.int .i64) (((DrawRejectsNulls code).2.2) : List Int))]⟩ [(True), ((((iRejectsNulls (Xpr.mk (Xpr.Kind ((DrawRejectsNulls code).1)) (Xpr.Col ((DrawRejectsNulls code).1)) (Xpr.V ((DrawRejectsNulls code).1)) (Xpr.Kids ((DrawRejectsNulls code).1))) ((DrawRejectsNulls code).2.1) ((DrawRejectsNulls code).2.2)) != (RejectsNulls (Xpr.mk (Xpr.Kind ((DrawRejectsNulls code).1)) (Xpr.Col ((DrawRejectsNulls code).1)) (Xpr.V ((DrawRejectsNulls code).1)) (Xpr.Kids ((DrawRejectsNulls code).1))) ((DrawRejectsNulls code).2.1) ((DrawRejectsNulls code).2.2))) = false) → ((((iRejectsNulls (Xpr.mk (Xpr.Kind ((DrawRejectsNulls code).1)) (Xpr.Col ((DrawRejectsNulls code).1)) (Xpr.V ((DrawRejectsNulls code).1)) (Xpr.Kids ((DrawRejectsNulls code).1))) ((DrawRejectsNulls code).2.1) ((DrawRejectsNulls code).2.2)) != (RejectsNulls (Xpr.mk (Xpr.Kind ((DrawRejectsNulls code).1)) (Xpr.Col ((DrawRejectsNulls code).1)) (Xpr.V ((DrawRejectsNulls code).1)) (Xpr.Kids ((DrawRejectsNulls code).1))) ((DrawRejectsNulls code).2.1) ((DrawRejectsNulls code).2.2))) = false))), ((((iRejectsNulls (Xpr.mk (Xpr.Kind ((DrawRejectsNulls code).1)) (Xpr.Col ((DrawRejectsNulls code).1)) (Xpr.V ((DrawRejectsNulls code).1)) (Xpr.Kids ((DrawRejectsNulls code).1))) ((DrawRejectsNulls code).2.1) ((DrawRejectsNulls code).2.2)) != (RejectsNulls (Xpr.mk (Xpr.Kind ((DrawRejectsNulls code).1)) (Xpr.Col ((DrawRejectsNulls code).1)) (Xpr.V ((DrawRejectsNulls code).1)) (Xpr.Kids ((DrawRejectsNulls code).1))) ((DrawRejectsNulls code).2.1) ((DrawRejectsNulls code).2.2))) = false) → ((((iRejectsNulls (Xpr.mk (Xpr.Kind ((DrawRejectsNulls code).1)) (Xpr.Col ((DrawRejectsNulls code).1)) (Xpr.V ((DrawRejectsNulls code).1)) (Xpr.Kids ((DrawRejectsNulls code).1))) ((DrawRejectsNulls code).2.1) ((DrawRejectsNulls code).2.2)) != (RejectsNulls (Xpr.mk (Xpr.Kind ((DrawRejectsNulls code).1)) (Xpr.Col ((DrawRejectsNulls code).1)) (Xpr.V ((DrawRejectsNulls code).1)) (Xpr.Kids ((DrawRejectsNulls code).1))) ((DrawRejectsNulls code).2.1) ((DrawRejectsNulls code).2.2))) = false)))] ?_ ?_))
  ·
   refine ⟨?_, ?_, ?_, trivial⟩
   ·
    trivial
   ·
    intro g8
    have g8p0 : ((iRejectsNulls (Xpr.mk (Xpr.Kind ((DrawRejectsNulls code).1)) (Xpr.Col ((DrawRejectsNulls code).1)) (Xpr.V ((DrawRejectsNulls code).1)) (Xpr.Kids ((DrawRejectsNulls code).1))) ((DrawRejectsNulls code).2.1) ((DrawRejectsNulls code).2.2)) != (RejectsNulls (Xpr.mk (Xpr.Kind ((DrawRejectsNulls code).1)) (Xpr.Col ((DrawRejectsNulls code).1)) (Xpr.V ((DrawRejectsNulls code).1)) (Xpr.Kids ((DrawRejectsNulls code).1))) ((DrawRejectsNulls code).2.1) ((DrawRejectsNulls code).2.2))) = false := g8
    first | assumption | exact ⟨by assumption, by assumption⟩
   ·
    intro g9
    have g9p0 : ((iRejectsNulls (Xpr.mk (Xpr.Kind ((DrawRejectsNulls code).1)) (Xpr.Col ((DrawRejectsNulls code).1)) (Xpr.V ((DrawRejectsNulls code).1)) (Xpr.Kids ((DrawRejectsNulls code).1))) ((DrawRejectsNulls code).2.1) ((DrawRejectsNulls code).2.2)) != (RejectsNulls (Xpr.mk (Xpr.Kind ((DrawRejectsNulls code).1)) (Xpr.Col ((DrawRejectsNulls code).1)) (Xpr.V ((DrawRejectsNulls code).1)) (Xpr.Kids ((DrawRejectsNulls code).1))) ((DrawRejectsNulls code).2.1) ((DrawRejectsNulls code).2.2))) = false := g9
    first | assumption | exact ⟨by assumption, by assumption⟩
  refine AW.cd (bif ((iRejectsNulls (Xpr.mk (Xpr.Kind ((DrawRejectsNulls code).1)) (Xpr.Col ((DrawRejectsNulls code).1)) (Xpr.V ((DrawRejectsNulls code).1)) (Xpr.Kids ((DrawRejectsNulls code).1))) ((DrawRejectsNulls code).2.1) ((DrawRejectsNulls code).2.2)) != (RejectsNulls (Xpr.mk (Xpr.Kind ((DrawRejectsNulls code).1)) (Xpr.Col ((DrawRejectsNulls code).1)) (Xpr.V ((DrawRejectsNulls code).1)) (Xpr.Kids ((DrawRejectsNulls code).1))) ((DrawRejectsNulls code).2.1) ((DrawRejectsNulls code).2.2))) then true else (!(iRejectsNulls (Xpr.mk (Xpr.Kind ((DrawRejectsNulls code).1)) (Xpr.Col ((DrawRejectsNulls code).1)) (Xpr.V ((DrawRejectsNulls code).1)) (Xpr.Kids ((DrawRejectsNulls code).1))) ((DrawRejectsNulls code).2.1) ((DrawRejectsNulls code).2.2)))) ?_ ?_
  ·
   intro h10
   have h10q : (((iRejectsNulls (Xpr.mk (Xpr.Kind ((DrawRejectsNulls code).1)) (Xpr.Col ((DrawRejectsNulls code).1)) (Xpr.V ((DrawRejectsNulls code).1)) (Xpr.Kids ((DrawRejectsNulls code).1))) ((DrawRejectsNulls code).2.1) ((DrawRejectsNulls code).2.2)) != (RejectsNulls (Xpr.mk (Xpr.Kind ((DrawRejectsNulls code).1)) (Xpr.Col ((DrawRejectsNulls code).1)) (Xpr.V ((DrawRejectsNulls code).1)) (Xpr.Kids ((DrawRejectsNulls code).1))) ((DrawRejectsNulls code).2.1) ((DrawRejectsNulls code).2.2))) = true) ∨ ((iRejectsNulls (Xpr.mk (Xpr.Kind ((DrawRejectsNulls code).1)) (Xpr.Col ((DrawRejectsNulls code).1)) (Xpr.V ((DrawRejectsNulls code).1)) (Xpr.Kids ((DrawRejectsNulls code).1))) ((DrawRejectsNulls code).2.1) ((DrawRejectsNulls code).2.2)) = false) := (Or.imp (fun h => h) (fun h => (Go.Am.not_pos h)) (Go.Am.or_pos h10))
   have e11 := e7.trans (Go.Am.bif_t h10)
   refine AW.seq (AW.r0 hC [4] [] ⟨[(4, sB ((iRejectsNulls (Xpr.mk (Xpr.Kind ((DrawRejectsNulls code).1)) (Xpr.Col ((DrawRejectsNulls code).1)) (Xpr.V ((DrawRejectsNulls code).1)) (Xpr.Kids ((DrawRejectsNulls code).1))) ((DrawRejectsNulls code).2.1) ((DrawRejectsNulls code).2.2)) == (RejectsNulls (Xpr.mk (Xpr.Kind ((DrawRejectsNulls code).1)) (Xpr.Col ((DrawRejectsNulls code).1)) (Xpr.V ((DrawRejectsNulls code).1)) (Xpr.Kids ((DrawRejectsNulls code).1))) ((DrawRejectsNulls code).2.1) ((DrawRejectsNulls code).2.2))))], []⟩ [(True)] ?_ ?_)
   ·
    refine ⟨?_, trivial⟩
    ·
     trivial
   exact AW.ret (AW.rB ((iRejectsNulls (Xpr.mk (Xpr.Kind ((DrawRejectsNulls code).1)) (Xpr.Col ((DrawRejectsNulls code).1)) (Xpr.V ((DrawRejectsNulls code).1)) (Xpr.Kids ((DrawRejectsNulls code).1))) ((DrawRejectsNulls code).2.1) ((DrawRejectsNulls code).2.2)) == (RejectsNulls (Xpr.mk (Xpr.Kind ((DrawRejectsNulls code).1)) (Xpr.Col ((DrawRejectsNulls code).1)) (Xpr.V ((DrawRejectsNulls code).1)) (Xpr.Kids ((DrawRejectsNulls code).1))) ((DrawRejectsNulls code).2.1) ((DrawRejectsNulls code).2.2))) e11)
  ·
   intro h12
   have h12q : (((iRejectsNulls (Xpr.mk (Xpr.Kind ((DrawRejectsNulls code).1)) (Xpr.Col ((DrawRejectsNulls code).1)) (Xpr.V ((DrawRejectsNulls code).1)) (Xpr.Kids ((DrawRejectsNulls code).1))) ((DrawRejectsNulls code).2.1) ((DrawRejectsNulls code).2.2)) != (RejectsNulls (Xpr.mk (Xpr.Kind ((DrawRejectsNulls code).1)) (Xpr.Col ((DrawRejectsNulls code).1)) (Xpr.V ((DrawRejectsNulls code).1)) (Xpr.Kids ((DrawRejectsNulls code).1))) ((DrawRejectsNulls code).2.1) ((DrawRejectsNulls code).2.2))) = false) ∧ ((iRejectsNulls (Xpr.mk (Xpr.Kind ((DrawRejectsNulls code).1)) (Xpr.Col ((DrawRejectsNulls code).1)) (Xpr.V ((DrawRejectsNulls code).1)) (Xpr.Kids ((DrawRejectsNulls code).1))) ((DrawRejectsNulls code).2.1) ((DrawRejectsNulls code).2.2)) = true) := (And.imp (fun h => h) (fun h => (Go.Am.not_neg h)) (Go.Am.or_neg h12))
   have e13 := e7.trans (Go.Am.bif_f h12)
   refine AW.kp [1, 5, 6, 7] [20, 86] ⟨[(1, sD7 more), (5, .ref 20 1 0), (6, sI ((DrawRejectsNulls code).2.1)), (7, .arr 86 1)], [(20, .box 1 [sI (Xpr.Kind ((DrawRejectsNulls code).1)), sI (Xpr.Col ((DrawRejectsNulls code).1)), sB (Val.Null (Xpr.V ((DrawRejectsNulls code).1))), sI (Val.N (Xpr.V ((DrawRejectsNulls code).1))), sD9 (Xpr.Kids ((DrawRejectsNulls code).1))]), (86, .arr 1 (.int .i64) (((DrawRejectsNulls code).2.2) : List Int))]⟩ ?_
   refine AW.skip (AW.seq (AW.r1 hC [1, 5, 6, 7, 9] [20, 86, 180] ⟨[(1, sD7 more), (5, .ref 20 1 0), (6, sI ((DrawRejectsNulls code).2.1)), (7, .arr 86 1), (9, .arr 180 1)], [(20, .box 1 [sI (Xpr.Kind ((DrawRejectsNulls code).1)), sI (Xpr.Col ((DrawRejectsNulls code).1)), sB (Val.Null (Xpr.V ((DrawRejectsNulls code).1))), sI (Val.N (Xpr.V ((DrawRejectsNulls code).1))), sD9 (Xpr.Kids ((DrawRejectsNulls code).1))]), (86, .arr 1 (.int .i64) (((DrawRejectsNulls code).2.2) : List Int)), (180, .arr 1 (.named 0) (([] : List Val) : List Val))]⟩ ?_))
   refine AW.seq (AW.seq ?_)
   have hQ := iRejectsNulls_iff.1 (by have h := h12q.2; rw [Xpr.eta] at h; exact h)
   have hQ1 := hQ.1
   have hD := Draw_len code
   refine AW.r1 hC [1, 5, 6, 7, 9, 10] [20, 86, 180] ⟨[(1, sD7 more), (5, .ref 20 1 0), (6, sI ((DrawRejectsNulls code).2.1)), (7, .arr 86 1), (9, .arr 180 1), (10, sI 0)], [(20, .box 1 [sI (Xpr.Kind ((DrawRejectsNulls code).1)), sI (Xpr.Col ((DrawRejectsNulls code).1)), sB (Val.Null (Xpr.V ((DrawRejectsNulls code).1))), sI (Val.N (Xpr.V ((DrawRejectsNulls code).1))), sD9 (Xpr.Kids ((DrawRejectsNulls code).1))]), (86, .arr 1 (.int .i64) (((DrawRejectsNulls code).2.2) : List Int)), (180, .arr 1 (.named 0) (([] : List Val) : List Val))]⟩ ?_
   refine AW.cutQ (α := (List Val)) (fun x => ⟨[(5, .ref 20 1 0), (9, .arr 180 1)], [(20, .box 1 [sI (Xpr.Kind ((DrawRejectsNulls code).1)), sI (Xpr.Col ((DrawRejectsNulls code).1)), sB (Val.Null (Xpr.V ((DrawRejectsNulls code).1))), sI (Val.N (Xpr.V ((DrawRejectsNulls code).1))), sD9 (Xpr.Kids ((DrawRejectsNulls code).1))]), (180, .arr 1 (.named 0) (x : List Val))]⟩) (fun x => (True) ∧ (FnRejectsNulls_l0 code more (Int.toNat (((DrawRejectsNulls code).2.1) - ((0 : Nat) : Int)) + 1) 0 ([] : List Val)) = x) ?_ ?_
   ·
    skip
    refine AW.block (AW.loop (α := Nat × (List Val)) (fun x => ⟨[(1, sD7 more), (5, .ref 20 1 0), (6, sI ((DrawRejectsNulls code).2.1)), (7, .arr 86 1), (9, .arr 180 1), (10, sI ((x.1 : Nat) : Int))], [(20, .box 1 [sI (Xpr.Kind ((DrawRejectsNulls code).1)), sI (Xpr.Col ((DrawRejectsNulls code).1)), sB (Val.Null (Xpr.V ((DrawRejectsNulls code).1))), sI (Val.N (Xpr.V ((DrawRejectsNulls code).1))), sD9 (Xpr.Kids ((DrawRejectsNulls code).1))]), (86, .arr 1 (.int .i64) (((DrawRejectsNulls code).2.2) : List Int)), (180, .arr 1 (.named 0) (x.2 : List Val))]⟩) (fun x => (List.length x.2 = x.1 ∧ x.1 ≤ 6) ∧ ∃ k, Int.toNat (((DrawRejectsNulls code).2.1) - ((x.1 : Nat) : Int)) < k ∧ (FnRejectsNulls_l0 code more (Int.toNat (((DrawRejectsNulls code).2.1) - ((0 : Nat) : Int)) + 1) 0 ([] : List Val)) = FnRejectsNulls_l0 code more k x.1 x.2) (fun x => Int.toNat (((DrawRejectsNulls code).2.1) - ((x.1 : Nat) : Int))) (0, ([] : List Val)) (by kernel_rfl) ⟨?_, _, Nat.lt_succ_self _, rfl⟩ ?_)
    ·
     show List.length ([] : List Val) = 0 ∧ 0 ≤ 6
     exact ⟨rfl, by decide⟩
    ·
     intro x hR
     obtain ⟨i, row⟩ := x
     obtain ⟨hI0, k40, hk38, e39⟩ := hR
     replace hI0 : List.length row = i ∧ i ≤ 6 := hI0
     replace hk38 : Int.toNat (((DrawRejectsNulls code).2.1) - ((i : Nat) : Int)) < k40 := hk38
     obtain ⟨k40q, rfl⟩ : ∃ k, k40 = k + 1 := ⟨k40 - 1, by omega⟩
     refine AW.seq (AW.seq (AW.r1 hC [1, 5, 6, 7, 9, 10, 48] [20, 86, 180] ⟨[(1, sD7 more), (5, .ref 20 1 0), (6, sI ((DrawRejectsNulls code).2.1)), (7, .arr 86 1), (9, .arr 180 1), (10, sI ((i : Nat) : Int)), (48, sB (decide (((i : Nat) : Int) < ((DrawRejectsNulls code).2.1))))], [(20, .box 1 [sI (Xpr.Kind ((DrawRejectsNulls code).1)), sI (Xpr.Col ((DrawRejectsNulls code).1)), sB (Val.Null (Xpr.V ((DrawRejectsNulls code).1))), sI (Val.N (Xpr.V ((DrawRejectsNulls code).1))), sD9 (Xpr.Kids ((DrawRejectsNulls code).1))]), (86, .arr 1 (.int .i64) (((DrawRejectsNulls code).2.2) : List Int)), (180, .arr 1 (.named 0) (row : List Val))]⟩ ?_))
     refine AW.cd (decide (((i : Nat) : Int) < ((DrawRejectsNulls code).2.1))) ?_ ?_
     ·
      intro h41
      have h41q := (of_decide_eq_true h41)
      have e42 := e39.trans (Go.Am.bif_t h41)
      refine AW.kp [1, 5, 6, 7, 9, 10] [20, 86, 180] ⟨[(1, sD7 more), (5, .ref 20 1 0), (6, sI ((DrawRejectsNulls code).2.1)), (7, .arr 86 1), (9, .arr 180 1), (10, sI ((i : Nat) : Int))], [(20, .box 1 [sI (Xpr.Kind ((DrawRejectsNulls code).1)), sI (Xpr.Col ((DrawRejectsNulls code).1)), sB (Val.Null (Xpr.V ((DrawRejectsNulls code).1))), sI (Val.N (Xpr.V ((DrawRejectsNulls code).1))), sD9 (Xpr.Kids ((DrawRejectsNulls code).1))]), (86, .arr 1 (.int .i64) (((DrawRejectsNulls code).2.2) : List Int)), (180, .arr 1 (.named 0) (row : List Val))]⟩ ?_
      refine AW.skip (AW.seq (AW.block (AW.seq (AW.r0 hC [1, 5, 6, 7, 9, 10] [20, 86, 180] ⟨[(1, sD7 more), (5, .ref 20 1 0), (6, sI ((DrawRejectsNulls code).2.1)), (7, .arr 86 1), (9, .arr 180 1), (10, sI ((i : Nat) : Int))], [(20, .box 1 [sI (Xpr.Kind ((DrawRejectsNulls code).1)), sI (Xpr.Col ((DrawRejectsNulls code).1)), sB (Val.Null (Xpr.V ((DrawRejectsNulls code).1))), sI (Val.N (Xpr.V ((DrawRejectsNulls code).1))), sD9 (Xpr.Kids ((DrawRejectsNulls code).1))]), (86, .arr 1 (.int .i64) (((DrawRejectsNulls code).2.2) : List Int)), (180, .arr 1 (.named 0) ((row ++ ([(Val.mk (isIn ((DrawRejectsNulls code).2.2) ((i : Nat) : Int)) 0)] : List Val)) : List Val))]⟩ [(True), (((List.length row : Nat) : Int) + ((List.length ([(Val.mk (isIn ((DrawRejectsNulls code).2.2) ((i : Nat) : Int)) 0)] : List Val) : Nat) : Int) ≤ 4294967296)] ?_ ?_))))
      ·
       refine ⟨?_, ?_, trivial⟩
       ·
        trivial
       ·
        first | omega | (simp only [List.nil_append, List.length_append, List.length_cons, List.length_nil]; omega)
      refine AW.seq (AW.r0 hC [1, 5, 6, 7, 9, 10, 61] [20, 86, 180] ⟨[(1, sD7 more), (5, .ref 20 1 0), (6, sI ((DrawRejectsNulls code).2.1)), (7, .arr 86 1), (9, .arr 180 1), (10, sI ((i : Nat) : Int)), (61, sB (!(isIn ((DrawRejectsNulls code).2.2) ((i : Nat) : Int))))], [(20, .box 1 [sI (Xpr.Kind ((DrawRejectsNulls code).1)), sI (Xpr.Col ((DrawRejectsNulls code).1)), sB (Val.Null (Xpr.V ((DrawRejectsNulls code).1))), sI (Val.N (Xpr.V ((DrawRejectsNulls code).1))), sD9 (Xpr.Kids ((DrawRejectsNulls code).1))]), (86, .arr 1 (.int .i64) (((DrawRejectsNulls code).2.2) : List Int)), (180, .arr 1 (.named 0) ((row ++ ([(Val.mk (isIn ((DrawRejectsNulls code).2.2) ((i : Nat) : Int)) 0)] : List Val)) : List Val))]⟩ [(True)] ?_ ?_)
      ·
       refine ⟨?_, trivial⟩
       ·
        trivial
      refine AW.cd (!(isIn ((DrawRejectsNulls code).2.2) ((i : Nat) : Int))) ?_ ?_
      ·
       intro h43
       have h43q := (Go.Am.not_pos h43)
       have e44 := e42.trans (Go.Am.bif_t h43)
       refine AW.r0 hC [1, 5, 6, 7, 9, 10] [20, 86, 180] ⟨[(1, sD7 more), (5, .ref 20 1 0), (6, sI ((DrawRejectsNulls code).2.1)), (7, .arr 86 1), (9, .arr 180 1), (10, sI ((i : Nat) : Int))], [(20, .box 1 [sI (Xpr.Kind ((DrawRejectsNulls code).1)), sI (Xpr.Col ((DrawRejectsNulls code).1)), sB (Val.Null (Xpr.V ((DrawRejectsNulls code).1))), sI (Val.N (Xpr.V ((DrawRejectsNulls code).1))), sD9 (Xpr.Kids ((DrawRejectsNulls code).1))]), (86, .arr 1 (.int .i64) (((DrawRejectsNulls code).2.2) : List Int)), (180, .arr 1 (.named 0) ((List.set (row ++ ([(Val.mk (isIn ((DrawRejectsNulls code).2.2) ((i : Nat) : Int)) 0)] : List Val)) i (Val.mk (Val.Null (List.getD (row ++ ([(Val.mk (isIn ((DrawRejectsNulls code).2.2) ((i : Nat) : Int)) 0)] : List Val)) i Val.zero)) (((((List.length more) + i : Nat) : Int) % 5) - 1))) : List Val))]⟩ [R64 (((List.length more) + i : Nat) : Int), (0 ≤ (((List.length more) + i : Nat) : Int) ∧ 0 < (5 : Int)), R64 (((((List.length more) + i : Nat) : Int) % 5) - 1), IX ((i : Nat) : Int) ((List.length (row ++ ([(Val.mk (isIn ((DrawRejectsNulls code).2.2) ((i : Nat) : Int)) 0)] : List Val)) : Nat) : Int)] ?_ ?_
       ·
        refine ⟨?_, ?_, ?_, ?_, trivial⟩
        ·
         refine R64.of ?_
         first | omega | (simp only [List.nil_append, List.length_append, List.length_cons, List.length_nil]; omega)
        ·
         first | omega | (simp only [List.nil_append, List.length_append, List.length_cons, List.length_nil]; omega)
        ·
         refine R64.of ?_
         first | omega | (simp only [List.nil_append, List.length_append, List.length_cons, List.length_nil]; omega)
        ·
         refine IX.of ?_
         first | omega | (simp only [List.nil_append, List.length_append, List.length_cons, List.length_nil]; omega)
       refine AW.r0 hC [1, 5, 6, 7, 9, 10] [20, 86, 180] ⟨[(1, sD7 more), (5, .ref 20 1 0), (6, sI ((DrawRejectsNulls code).2.1)), (7, .arr 86 1), (9, .arr 180 1), (10, sI ((i + 1 : Nat) : Int))], [(20, .box 1 [sI (Xpr.Kind ((DrawRejectsNulls code).1)), sI (Xpr.Col ((DrawRejectsNulls code).1)), sB (Val.Null (Xpr.V ((DrawRejectsNulls code).1))), sI (Val.N (Xpr.V ((DrawRejectsNulls code).1))), sD9 (Xpr.Kids ((DrawRejectsNulls code).1))]), (86, .arr 1 (.int .i64) (((DrawRejectsNulls code).2.2) : List Int)), (180, .arr 1 (.named 0) ((List.set (row ++ ([(Val.mk (isIn ((DrawRejectsNulls code).2.2) ((i : Nat) : Int)) 0)] : List Val)) i (Val.mk (Val.Null (List.getD (row ++ ([(Val.mk (isIn ((DrawRejectsNulls code).2.2) ((i : Nat) : Int)) 0)] : List Val)) i Val.zero)) (((((List.length more) + i : Nat) : Int) % 5) - 1))) : List Val))]⟩ [R64 ((i + 1 : Nat) : Int)] ?_ ?_
       ·
        refine ⟨?_, trivial⟩
        ·
         refine R64.of ?_
         first | omega | (simp only [List.nil_append, List.length_append, List.length_cons, List.length_nil]; omega)
       refine AW.back (x := (i, row)) (i + 1, (List.set (row ++ ([(Val.mk (isIn ((DrawRejectsNulls code).2.2) ((i : Nat) : Int)) 0)] : List Val)) i (Val.mk (Val.Null (List.getD (row ++ ([(Val.mk (isIn ((DrawRejectsNulls code).2.2) ((i : Nat) : Int)) 0)] : List Val)) i Val.zero)) (((((List.length more) + i : Nat) : Int) % 5) - 1)))) (by kernel_rfl) ⟨?_, k40q, ?_, e44⟩ ?_
       ·
        show List.length (List.set (row ++ ([(Val.mk (isIn ((DrawRejectsNulls code).2.2) ((i : Nat) : Int)) 0)] : List Val)) i (Val.mk (Val.Null (List.getD (row ++ ([(Val.mk (isIn ((DrawRejectsNulls code).2.2) ((i : Nat) : Int)) 0)] : List Val)) i Val.zero)) (((((List.length more) + i : Nat) : Int) % 5) - 1))) = (i + 1) ∧ (i + 1) ≤ 6
        (try simp only [List.length_set, List.length_append, List.length_cons, List.length_nil])
        omega
       ·
        show Int.toNat (((DrawRejectsNulls code).2.1) - (((i + 1) : Nat) : Int)) < k40q
        first | omega | (simp only [lens]; omega)
       ·
        show Int.toNat (((DrawRejectsNulls code).2.1) - (((i + 1) : Nat) : Int)) < Int.toNat (((DrawRejectsNulls code).2.1) - ((i : Nat) : Int))
        first | omega | (simp only [lens]; omega)
      ·
       intro h45
       have h45q := (Go.Am.not_neg h45)
       have e46 := e42.trans (Go.Am.bif_f h45)
       refine AW.kp [1, 5, 6, 7, 9, 10] [20, 86, 180] ⟨[(1, sD7 more), (5, .ref 20 1 0), (6, sI ((DrawRejectsNulls code).2.1)), (7, .arr 86 1), (9, .arr 180 1), (10, sI ((i : Nat) : Int))], [(20, .box 1 [sI (Xpr.Kind ((DrawRejectsNulls code).1)), sI (Xpr.Col ((DrawRejectsNulls code).1)), sB (Val.Null (Xpr.V ((DrawRejectsNulls code).1))), sI (Val.N (Xpr.V ((DrawRejectsNulls code).1))), sD9 (Xpr.Kids ((DrawRejectsNulls code).1))]), (86, .arr 1 (.int .i64) (((DrawRejectsNulls code).2.2) : List Int)), (180, .arr 1 (.named 0) ((row ++ ([(Val.mk (isIn ((DrawRejectsNulls code).2.2) ((i : Nat) : Int)) 0)] : List Val)) : List Val))]⟩ ?_
       refine AW.skip (AW.r0 hC [1, 5, 6, 7, 9, 10] [20, 86, 180] ⟨[(1, sD7 more), (5, .ref 20 1 0), (6, sI ((DrawRejectsNulls code).2.1)), (7, .arr 86 1), (9, .arr 180 1), (10, sI ((i + 1 : Nat) : Int))], [(20, .box 1 [sI (Xpr.Kind ((DrawRejectsNulls code).1)), sI (Xpr.Col ((DrawRejectsNulls code).1)), sB (Val.Null (Xpr.V ((DrawRejectsNulls code).1))), sI (Val.N (Xpr.V ((DrawRejectsNulls code).1))), sD9 (Xpr.Kids ((DrawRejectsNulls code).1))]), (86, .arr 1 (.int .i64) (((DrawRejectsNulls code).2.2) : List Int)), (180, .arr 1 (.named 0) ((row ++ ([(Val.mk (isIn ((DrawRejectsNulls code).2.2) ((i : Nat) : Int)) 0)] : List Val)) : List Val))]⟩ [R64 ((i + 1 : Nat) : Int)] ?_ ?_)
       ·
        refine ⟨?_, trivial⟩
        ·
         refine R64.of ?_
         first | omega | (simp only [List.nil_append, List.length_append, List.length_cons, List.length_nil]; omega)
       refine AW.back (x := (i, row)) (i + 1, (row ++ ([(Val.mk (isIn ((DrawRejectsNulls code).2.2) ((i : Nat) : Int)) 0)] : List Val))) (by kernel_rfl) ⟨?_, k40q, ?_, e46⟩ ?_
       ·
        show List.length (row ++ ([(Val.mk (isIn ((DrawRejectsNulls code).2.2) ((i : Nat) : Int)) 0)] : List Val)) = (i + 1) ∧ (i + 1) ≤ 6
        (try simp only [List.length_set, List.length_append, List.length_cons, List.length_nil])
        omega
       ·
        show Int.toNat (((DrawRejectsNulls code).2.1) - (((i + 1) : Nat) : Int)) < k40q
        first | omega | (simp only [lens]; omega)
       ·
        show Int.toNat (((DrawRejectsNulls code).2.1) - (((i + 1) : Nat) : Int)) < Int.toNat (((DrawRejectsNulls code).2.1) - ((i : Nat) : Int))
        first | omega | (simp only [lens]; omega)
     ·
      intro h47
      have h47q := (of_decide_eq_false h47)
      have e48 := e39.trans (Go.Am.bif_f h47)
      refine AW.kp [5, 9] [20, 180] ⟨[(5, .ref 20 1 0), (9, .arr 180 1)], [(20, .box 1 [sI (Xpr.Kind ((DrawRejectsNulls code).1)), sI (Xpr.Col ((DrawRejectsNulls code).1)), sB (Val.Null (Xpr.V ((DrawRejectsNulls code).1))), sI (Val.N (Xpr.V ((DrawRejectsNulls code).1))), sD9 (Xpr.Kids ((DrawRejectsNulls code).1))]), (180, .arr 1 (.named 0) (row : List Val))]⟩ ?_
      refine AW.exit ?_
      refine AW.meet row (by kernel_rfl) ⟨?_, e48⟩
      show True
      first | assumption | exact trivial | omega
   ·
    intro row hR
    obtain ⟨hJ0, e49⟩ := hR
    replace hJ0 : True := hJ0
    have e50 := e13.trans (Go.Am.then_eq e49)
    refine AW.seq (AW.r0 hC [4] [] ⟨[(4, sB (!(isTrue (Xpr.mk (Xpr.Kind ((DrawRejectsNulls code).1)) (Xpr.Col ((DrawRejectsNulls code).1)) (Xpr.V ((DrawRejectsNulls code).1)) (Xpr.Kids ((DrawRejectsNulls code).1))) row)))], []⟩ [(True)] ?_ ?_)
    ·
     refine ⟨?_, trivial⟩
     ·
      trivial
    exact AW.ret (AW.rB (!(isTrue (Xpr.mk (Xpr.Kind ((DrawRejectsNulls code).1)) (Xpr.Col ((DrawRejectsNulls code).1)) (Xpr.V ((DrawRejectsNulls code).1)) (Xpr.Kids ((DrawRejectsNulls code).1))) row)) e50)

theorem isIn_of {list : List Int} {n : Int} : (isIn list n = true ∧ n ∈ list) ∨ (isIn list n = false ∧ n ∉ list) := by
 unfold isIn
 rcases all_loopG true (isIn_l0 list n) list.length (fun i => List.getD list i 0 == n) (fun k i => rfl) (list.length - 0 + 1) 0 (by omega) with ⟨h1, h2⟩ | ⟨h1, j, h2, h3, h4⟩
 ·
  rw [h1]
  refine .inr ⟨rfl, fun hm => ?_⟩
  obtain ⟨i, hi, e⟩ := List.mem_iff_getElem.1 hm
  have := h2 i (by omega) hi
  rw [List.getD_eq_getElem?_getD, List.getElem?_eq_getElem hi, Option.getD_some, e] at this
  simp at this
 ·
  rw [h1]
  refine .inl ⟨rfl, ?_⟩
  have := beq_iff_eq.1 h4
  rw [← this]
  exact getD_mem list j 0 h3

theorem row_loop2 (code more : List Int) : ∀ (k i : Nat) (row : List Val), Int.toNat ((DrawRejectsNulls code).2.1 - ((i : Nat) : Int)) < k → i ≤ Int.toNat (DrawRejectsNulls code).2.1 → RowOf (nst (Int.toNat (DrawRejectsNulls code).2.1) (DrawRejectsNulls code).2.2) i row →
  RowOf (nst (Int.toNat (DrawRejectsNulls code).2.1) (DrawRejectsNulls code).2.2) (Int.toNat (DrawRejectsNulls code).2.1) (FnRejectsNulls_l0 code more k i row) := by
 intro k
 induction k with
 | zero => intro i row h; omega
 | succ k ih =>
  intro i row h hi hr
  unfold FnRejectsNulls_l0
  by_cases hk : ((i : Nat) : Int) < (DrawRejectsNulls code).2.1
  ·
   rw [show decide (((i : Nat) : Int) < (DrawRejectsNulls code).2.1) = true from decide_eq_true hk, cond_true]
   have hi' : i < Int.toNat (DrawRejectsNulls code).2.1 := by omega
   rcases isIn_of (list := (DrawRejectsNulls code).2.2) (n := ((i : Nat) : Int)) with ⟨e, hm⟩ | ⟨e, hm⟩
   ·
    rw [e, Bool.not_true, cond_false]
    refine ih _ _ (by omega) (by omega) (hr.add (by unfold VV; simp) ?_)
    rw [nst_getD _ hi', if_pos hm]
    exact sub_refl (by decide)
   ·
    rw [e, Bool.not_false, cond_true]
    have hl : row.length = i := hr.1
    have h1 : List.getD (row ++ [Val.mk false 0]) i Val.zero = Val.mk false 0 := by
     rw [List.getD_eq_getElem?_getD, List.getElem?_append_right (by omega), show i - row.length = 0 by omega]
     rfl
    rw [h1]
    have h2 : List.set (row ++ [Val.mk false 0]) i (Val.mk (Val.Null (Val.mk false 0)) (((((List.length more) + i : Nat) : Int) % 5) - 1)) = row ++ [Val.mk false (((((List.length more) + i : Nat) : Int) % 5) - 1)] := by
     rw [List.set_append_right _ _ (by omega), show i - row.length = 0 by omega]
     rfl
    rw [h2]
    refine ih _ _ (by omega) (by omega) (hr.add ?_ ?_)
    ·
     unfold VV
     simp only [Bool.false_eq_true, if_false]
     omega
    ·
     rw [nst_getD _ hi', if_neg hm]
     exact sub_of7 (by decide) (by decide) _
  ·
   rw [show decide (((i : Nat) : Int) < (DrawRejectsNulls code).2.1) = false from decide_eq_false hk, cond_false]
   have : i = Int.toNat (DrawRejectsNulls code).2.1 := by omega
   exact ⟨hr.1.trans this, fun j hj => hr.2 j (by omega)⟩

theorem no2 : ∀ y : Fin 8, (!(bits .and .i64 (y.val : Int) 2 == 0)) = true ∨ (bits .and .i64 (y.val : Int) 2 != 2) = true := by decide +kernel

theorem FnRejectsNulls_law (code more : List Int) : FnRejectsNulls code more = true := by
 unfold FnRejectsNulls
 simp only [Xpr.eta]
 rw [RejectsNulls_same, bne_self_eq_false, cond_false]
 cases (bif (decide (1048576 < ((List.length code : Nat) : Int))) then true else (decide (1048576 < ((List.length more : Nat) : Int)))) with
 | true => rfl
 | false =>
  rw [cond_false]
  cases hz : RejectsNulls (DrawRejectsNulls code).1 (DrawRejectsNulls code).2.1 (DrawRejectsNulls code).2.2 with
  | false => rfl
  | true =>
   rw [Bool.not_true, cond_false]
   rw [← RejectsNulls_same] at hz
   simp only [Go.Am.andThen]
   obtain ⟨hw, hE, hb⟩ := iRejectsNulls_iff.1 hz
   have hR := row_loop2 code more (Int.toNat ((DrawRejectsNulls code).2.1 - ((0 : Nat) : Int)) + 1) 0 [] (Nat.lt_succ_self _) (Nat.zero_le _) ⟨rfl, fun j hj => absurd hj (Nat.not_lt_zero _)⟩
   generalize FnRejectsNulls_l0 code more (Int.toNat ((DrawRejectsNulls code).2.1 - ((0 : Nat) : Int)) + 1) 0 [] = row at hR ⊢
   obtain ⟨hr, hR⟩ := hR
   have hX := nst_VX (nulls := (DrawRejectsNulls code).2.2) hw hE
   have hs := ioutcomes_sound (st := nst (Int.toNat (DrawRejectsNulls code).2.1) (DrawRejectsNulls code).2.2) (row := row) (by rw [nst_length, hr]) (fun j hj => (hR j (by rw [nst_length] at hj; exact hj)).2) (SizeOf.sizeOf (DrawRejectsNulls code).1 + 1) (DrawRejectsNulls code).1 (Nat.lt_succ_self _) hX
   have hw' : ((row.length : Nat) : Int) = (DrawRejectsNulls code).2.1 := by omega
   have hV := EvalExpr_eq (e := (DrawRejectsNulls code).1) (row := row) (by rw [hw']; exact hw) (fun j hj => (hR j (by omega)).1) (by rw [hw']; exact hE)
   unfold isTrue
   rw [Xpr.eta, hV]
   obtain ⟨y, hy⟩ := un8 (ioutcomes_b (SizeOf.sizeOf (DrawRejectsNulls code).1 + 1) (DrawRejectsNulls code).1 _ hX)
   unfold ioutcomes at hb
   rw [hy] at hb hs
   have h2 := imp2 (no2 y) hb
   change Sub (istateOf (value (DrawRejectsNulls code).1 row)) _ at hs
   generalize value (DrawRejectsNulls code).1 row = v at hs
   simp only [cond_true]
   unfold Sub istateOf at hs
   cases hn : v.Null with
   | true => rfl
   | false =>
    cases h0 : v.N == 0 with
    | true => simp [bne, h0]
    | false =>
     rw [hn, h0] at hs
     have hs : bits .and .i64 (y.val : Int) 2 = 2 := hs
     rw [hs] at h2
     cases h2

end
end Go.Proofs.Ytophfihhdelbiaa
