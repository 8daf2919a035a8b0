/-
  A part of the proof of this claim (AtX): what functions of the program compute, and plain facts of that. No conditions.
-/
import Derived.Test.YtdkopkplfdobnaaAtW
set_option linter.all false
namespace Go.Proofs.Ytdkopkplfdobnaa
open Go Go.Am
noncomputable section

def iSelectivity (e : Xpr) (s : Sta) : Int := (bif (bif (!(iValidStats s ((List.length (Sta.Distinct s) : Nat) : Int))) then true else (!(iValidExpr (Xpr.mk (Xpr.Kind e) (Xpr.Col e) (Xpr.V e) (Xpr.Kids e)) ((List.length (Sta.Distinct s) : Nat) : Int)))) then (-1) else (selectivity (Xpr.mk (Xpr.Kind e) (Xpr.Col e) (Xpr.V e) (Xpr.Kids e)) s))

def iSelectivity_sp : FnSpec := mkSpec [.val (.named 1), .val (.named 3)] [.val (.int .i64)] (fun (e : Xpr) (s : Sta) => True) (fun (e : Xpr) (s : Sta) => [⟨(.int .i64), (iSelectivity e s)⟩])

theorem iSelectivity_ok : FnOK Try.prog 5 iSelectivity_sp := by
 have hC : CtxOK Try.prog (mkCtx tyL [(14, iValidStats_sp), (15, iValidExpr_sp), (16, selectivity_sp)]) := CtxOK.cons iValidStats_ok (CtxOK.cons iValidExpr_ok (CtxOK.cons selectivity_ok (CtxOK.nil tyOK)))
 refine FnOK.of_body Try.func5 (by kernel_rfl) rfl (C := (mkCtx tyL [(14, iValidStats_sp), (15, iValidExpr_sp), (16, selectivity_sp)])) hC.ty (by kernel_rfl) ?_
 intro (e : Xpr) (s : Sta) hwf hpre E
 have hpre : True := hpre
 have hw_e : Wf ⟨(.named 1), (e : Xpr)⟩ := hwf _ (List.Mem.head _)
 obtain ⟨hr_e_Kind, hr_e_Col, hl_e_Kids⟩ := Xpr.wfl hw_e
 have hw_s : Wf ⟨(.named 3), (s : Sta)⟩ := hwf _ (List.Mem.tail _ (List.Mem.head _))
 obtain ⟨hr_s_Rows, hl_s_Distinct, hl_s_Nulls⟩ := Sta.wfl hw_s
 have e0 : iSelectivity e s = iSelectivity e s := rfl
 refine AW.seq (AW.r1 hC [2, 3] [8, 12] ⟨[(2, .ref 8 1 0), (3, .ref 12 1 0)], [(8, .box 1 [sI (Xpr.Kind e), sI (Xpr.Col e), sB (Val.Null (Xpr.V e)), sI (Val.N (Xpr.V e)), sD11 (Xpr.Kids e)]), (12, .box 1 [sI (Sta.Rows s), sD8 (Sta.Distinct s), sD8 (Sta.Nulls s)])]⟩ ?_)
 refine AW.seq (AW.r1 hC [2, 3, 5] [8, 12] ⟨[(2, .ref 8 1 0), (3, .ref 12 1 0), (5, sI ((List.length (Sta.Distinct s) : Nat) : Int))], [(8, .box 1 [sI (Xpr.Kind e), sI (Xpr.Col e), sB (Val.Null (Xpr.V e)), sI (Val.N (Xpr.V e)), sD11 (Xpr.Kids e)]), (12, .box 1 [sI (Sta.Rows s), sD8 (Sta.Distinct s), sD8 (Sta.Nulls s)])]⟩ ?_)
 refine AW.seq (AW.seq (AW.r0 hC [2, 3, 18] [8, 12] ⟨[(2, .ref 8 1 0), (3, .ref 12 1 0), (18, sB (bif (!(iValidStats s ((List.length (Sta.Distinct s) : Nat) : Int))) then true else (!(iValidExpr (Xpr.mk (Xpr.Kind e) (Xpr.Col e) (Xpr.V e) (Xpr.Kids e)) ((List.length (Sta.Distinct s) : Nat) : Int)))))], [(8, .box 1 [sI (Xpr.Kind e), sI (Xpr.Col e), sB (Val.Null (Xpr.V e)), sI (Val.N (Xpr.V e)), sD11 (Xpr.Kids e)]), (12, .box 1 [sI (Sta.Rows s), sD8 (Sta.Distinct s), sD8 (Sta.Nulls s)])]⟩ [(True), (((!(iValidStats s ((List.length (Sta.Distinct s) : Nat) : Int))) = false) → (((!(iValidStats s ((List.length (Sta.Distinct s) : Nat) : Int))) = false))), (((!(iValidStats s ((List.length (Sta.Distinct s) : Nat) : Int))) = false) → (((!(iValidStats s ((List.length (Sta.Distinct s) : Nat) : Int))) = false))), (((!(iValidStats s ((List.length (Sta.Distinct s) : Nat) : Int))) = false) → (True)), (((!(iValidStats s ((List.length (Sta.Distinct s) : Nat) : Int))) = false) → (((!(iValidStats s ((List.length (Sta.Distinct s) : Nat) : Int))) = false))), (((!(iValidStats s ((List.length (Sta.Distinct s) : Nat) : Int))) = false) → (((!(iValidStats s ((List.length (Sta.Distinct s) : Nat) : Int))) = false)))] ?_ ?_))
 ·
  refine ⟨?_, ?_, ?_, ?_, ?_, ?_, trivial⟩
  ·
   trivial
  ·
   intro g1
   have g1p0 : (iValidStats s ((List.length (Sta.Distinct s) : Nat) : Int)) = true := (Go.Am.not_neg g1)
   assumption
  ·
   intro g2
   have g2p0 : (iValidStats s ((List.length (Sta.Distinct s) : Nat) : Int)) = true := (Go.Am.not_neg g2)
   assumption
  ·
   intro g3
   have g3p0 : (iValidStats s ((List.length (Sta.Distinct s) : Nat) : Int)) = true := (Go.Am.not_neg g3)
   trivial
  ·
   intro g4
   have g4p0 : (iValidStats s ((List.length (Sta.Distinct s) : Nat) : Int)) = true := (Go.Am.not_neg g4)
   assumption
  ·
   intro g5
   have g5p0 : (iValidStats s ((List.length (Sta.Distinct s) : Nat) : Int)) = true := (Go.Am.not_neg g5)
   assumption
 refine AW.cd (bif (!(iValidStats s ((List.length (Sta.Distinct s) : Nat) : Int))) then true else (!(iValidExpr (Xpr.mk (Xpr.Kind e) (Xpr.Col e) (Xpr.V e) (Xpr.Kids e)) ((List.length (Sta.Distinct s) : Nat) : Int)))) ?_ ?_
 ·
  intro h6
  have h6q : ((iValidStats s ((List.length (Sta.Distinct s) : Nat) : Int)) = false) ∨ ((iValidExpr (Xpr.mk (Xpr.Kind e) (Xpr.Col e) (Xpr.V e) (Xpr.Kids e)) ((List.length (Sta.Distinct s) : Nat) : Int)) = false) := (Or.imp (fun h => (Go.Am.not_pos h)) (fun h => (Go.Am.not_pos h)) (Go.Am.or_pos h6))
  have e7 := e0.trans (Go.Am.bif_t h6)
  refine AW.seq (AW.r1 hC [4] [] ⟨[(4, sI (-1))], []⟩ ?_)
  exact AW.ret (AW.rI (-1) e7)
 ·
  intro h8
  have h8q : ((iValidStats s ((List.length (Sta.Distinct s) : Nat) : Int)) = true) ∧ ((iValidExpr (Xpr.mk (Xpr.Kind e) (Xpr.Col e) (Xpr.V e) (Xpr.Kids e)) ((List.length (Sta.Distinct s) : Nat) : Int)) = true) := (And.imp (fun h => (Go.Am.not_neg h)) (fun h => (Go.Am.not_neg h)) (Go.Am.or_neg h8))
  have e9 := e0.trans (Go.Am.bif_f h8)
  refine AW.kp [2, 3] [8, 12] ⟨[(2, .ref 8 1 0), (3, .ref 12 1 0)], [(8, .box 1 [sI (Xpr.Kind e), sI (Xpr.Col e), sB (Val.Null (Xpr.V e)), sI (Val.N (Xpr.V e)), sD11 (Xpr.Kids e)]), (12, .box 1 [sI (Sta.Rows s), sD8 (Sta.Distinct s), sD8 (Sta.Nulls s)])]⟩ ?_
  refine AW.skip (AW.seq (AW.r0 hC [4] [] ⟨[(4, sI (selectivity (Xpr.mk (Xpr.Kind e) (Xpr.Col e) (Xpr.V e) (Xpr.Kids e)) s))], []⟩ [(VSt s ∧ VXn ((List.length (Sta.Distinct s) : Nat) : Int) (Xpr.mk (Xpr.Kind e) (Xpr.Col e) (Xpr.V e) (Xpr.Kids e)))] ?_ ?_))
  ·
   refine ⟨?_, trivial⟩
   ·
    exact ⟨iValidStats_iff.1 h8q.1, 8, (iValidExpr_iff.1 h8q.2).2⟩
  exact AW.ret (AW.rI (selectivity (Xpr.mk (Xpr.Kind e) (Xpr.Col e) (Xpr.V e) (Xpr.Kids e)) s) e9)

def Selectivity (e : Xpr) (s : Sta) : Int := (bif (bif (!(ValidStats s ((List.length (Sta.Distinct s) : Nat) : Int))) then true else (!(ValidExpr (Xpr.mk (Xpr.Kind e) (Xpr.Col e) (Xpr.V e) (Xpr.Kids e)) ((List.length (Sta.Distinct s) : Nat) : Int)))) then (-1) else (permille (Xpr.mk (Xpr.Kind e) (Xpr.Col e) (Xpr.V e) (Xpr.Kids e)) s))

def Selectivity_sp : FnSpec := mkSpec [.val (.named 1), .val (.named 3)] [.val (.int .i64)] (fun (e : Xpr) (s : Sta) => True) (fun (e : Xpr) (s : Sta) => [⟨(.int .i64), (Selectivity e s)⟩])

theorem Selectivity_ok : FnOK Try.prog 6 Selectivity_sp := by
 have hC : CtxOK Try.prog (mkCtx tyL [(17, ValidStats_sp), (18, ValidExpr_sp), (19, permille_sp)]) := CtxOK.cons ValidStats_ok (CtxOK.cons ValidExpr_ok (CtxOK.cons permille_ok (CtxOK.nil tyOK)))
 refine FnOK.of_body Try.func6 (by kernel_rfl) rfl (C := (mkCtx tyL [(17, ValidStats_sp), (18, ValidExpr_sp), (19, permille_sp)])) hC.ty (by kernel_rfl) ?_
 intro (e : Xpr) (s : Sta) hwf hpre E
 have hpre : True := hpre
 have hw_e : Wf ⟨(.named 1), (e : Xpr)⟩ := hwf _ (List.Mem.head _)
 obtain ⟨hr_e_Kind, hr_e_Col, hl_e_Kids⟩ := Xpr.wfl hw_e
 have hw_s : Wf ⟨(.named 3), (s : Sta)⟩ := hwf _ (List.Mem.tail _ (List.Mem.head _))
 obtain ⟨hr_s_Rows, hl_s_Distinct, hl_s_Nulls⟩ := Sta.wfl hw_s
 have e0 : Selectivity e s = Selectivity e s := rfl
 refine AW.seq (AW.r1 hC [2, 3] [8, 12] ⟨[(2, .ref 8 1 0), (3, .ref 12 1 0)], [(8, .box 1 [sI (Xpr.Kind e), sI (Xpr.Col e), sB (Val.Null (Xpr.V e)), sI (Val.N (Xpr.V e)), sD11 (Xpr.Kids e)]), (12, .box 1 [sI (Sta.Rows s), sD8 (Sta.Distinct s), sD8 (Sta.Nulls s)])]⟩ ?_)
 refine AW.seq (AW.seq (AW.r0 hC [2, 3, 18] [8, 12] ⟨[(2, .ref 8 1 0), (3, .ref 12 1 0), (18, sB (bif (!(ValidStats s ((List.length (Sta.Distinct s) : Nat) : Int))) then true else (!(ValidExpr (Xpr.mk (Xpr.Kind e) (Xpr.Col e) (Xpr.V e) (Xpr.Kids e)) ((List.length (Sta.Distinct s) : Nat) : Int)))))], [(8, .box 1 [sI (Xpr.Kind e), sI (Xpr.Col e), sB (Val.Null (Xpr.V e)), sI (Val.N (Xpr.V e)), sD11 (Xpr.Kids e)]), (12, .box 1 [sI (Sta.Rows s), sD8 (Sta.Distinct s), sD8 (Sta.Nulls s)])]⟩ [(True), (((!(ValidStats s ((List.length (Sta.Distinct s) : Nat) : Int))) = false) → (((!(ValidStats s ((List.length (Sta.Distinct s) : Nat) : Int))) = false))), (((!(ValidStats s ((List.length (Sta.Distinct s) : Nat) : Int))) = false) → (((!(ValidStats s ((List.length (Sta.Distinct s) : Nat) : Int))) = false))), (((!(ValidStats s ((List.length (Sta.Distinct s) : Nat) : Int))) = false) → (((!(ValidStats s ((List.length (Sta.Distinct s) : Nat) : Int))) = false))), (((!(ValidStats s ((List.length (Sta.Distinct s) : Nat) : Int))) = false) → (((!(ValidStats s ((List.length (Sta.Distinct s) : Nat) : Int))) = false))), (((!(ValidStats s ((List.length (Sta.Distinct s) : Nat) : Int))) = false) → (True)), (((!(ValidStats s ((List.length (Sta.Distinct s) : Nat) : Int))) = false) → (((!(ValidStats s ((List.length (Sta.Distinct s) : Nat) : Int))) = false))), (((!(ValidStats s ((List.length (Sta.Distinct s) : Nat) : Int))) = false) → (((!(ValidStats s ((List.length (Sta.Distinct s) : Nat) : Int))) = false)))] ?_ ?_))
 ·
  refine ⟨?_, ?_, ?_, ?_, ?_, ?_, ?_, ?_, trivial⟩
  ·
   trivial
  ·
   intro g1
   have g1p0 : (ValidStats s ((List.length (Sta.Distinct s) : Nat) : Int)) = true := (Go.Am.not_neg g1)
   assumption
  ·
   intro g2
   have g2p0 : (ValidStats s ((List.length (Sta.Distinct s) : Nat) : Int)) = true := (Go.Am.not_neg g2)
   assumption
  ·
   intro g3
   have g3p0 : (ValidStats s ((List.length (Sta.Distinct s) : Nat) : Int)) = true := (Go.Am.not_neg g3)
   assumption
  ·
   intro g4
   have g4p0 : (ValidStats s ((List.length (Sta.Distinct s) : Nat) : Int)) = true := (Go.Am.not_neg g4)
   assumption
  ·
   intro g5
   have g5p0 : (ValidStats s ((List.length (Sta.Distinct s) : Nat) : Int)) = true := (Go.Am.not_neg g5)
   trivial
  ·
   intro g6
   have g6p0 : (ValidStats s ((List.length (Sta.Distinct s) : Nat) : Int)) = true := (Go.Am.not_neg g6)
   assumption
  ·
   intro g7
   have g7p0 : (ValidStats s ((List.length (Sta.Distinct s) : Nat) : Int)) = true := (Go.Am.not_neg g7)
   assumption
 refine AW.cd (bif (!(ValidStats s ((List.length (Sta.Distinct s) : Nat) : Int))) then true else (!(ValidExpr (Xpr.mk (Xpr.Kind e) (Xpr.Col e) (Xpr.V e) (Xpr.Kids e)) ((List.length (Sta.Distinct s) : Nat) : Int)))) ?_ ?_
 ·
  intro h8
  have h8q : ((ValidStats s ((List.length (Sta.Distinct s) : Nat) : Int)) = false) ∨ ((ValidExpr (Xpr.mk (Xpr.Kind e) (Xpr.Col e) (Xpr.V e) (Xpr.Kids e)) ((List.length (Sta.Distinct s) : Nat) : Int)) = false) := (Or.imp (fun h => (Go.Am.not_pos h)) (fun h => (Go.Am.not_pos h)) (Go.Am.or_pos h8))
  have e9 := e0.trans (Go.Am.bif_t h8)
  refine AW.seq (AW.r1 hC [4] [] ⟨[(4, sI (-1))], []⟩ ?_)
  exact AW.ret (AW.rI (-1) e9)
 ·
  intro h10
  have h10q : ((ValidStats s ((List.length (Sta.Distinct s) : Nat) : Int)) = true) ∧ ((ValidExpr (Xpr.mk (Xpr.Kind e) (Xpr.Col e) (Xpr.V e) (Xpr.Kids e)) ((List.length (Sta.Distinct s) : Nat) : Int)) = true) := (And.imp (fun h => (Go.Am.not_neg h)) (fun h => (Go.Am.not_neg h)) (Go.Am.or_neg h10))
  have e11 := e0.trans (Go.Am.bif_f h10)
  refine AW.kp [2, 3] [8, 12] ⟨[(2, .ref 8 1 0), (3, .ref 12 1 0)], [(8, .box 1 [sI (Xpr.Kind e), sI (Xpr.Col e), sB (Val.Null (Xpr.V e)), sI (Val.N (Xpr.V e)), sD11 (Xpr.Kids e)]), (12, .box 1 [sI (Sta.Rows s), sD8 (Sta.Distinct s), sD8 (Sta.Nulls s)])]⟩ ?_
  refine AW.skip (AW.seq (AW.r0 hC [4] [] ⟨[(4, sI (permille (Xpr.mk (Xpr.Kind e) (Xpr.Col e) (Xpr.V e) (Xpr.Kids e)) s))], []⟩ [(VSt s ∧ VXn ((List.length (Sta.Distinct s) : Nat) : Int) (Xpr.mk (Xpr.Kind e) (Xpr.Col e) (Xpr.V e) (Xpr.Kids e)))] ?_ ?_))
  ·
   refine ⟨?_, trivial⟩
   ·
    exact ⟨ValidStats_iff.1 h10q.1, 8, (ValidExpr_iff.1 h10q.2).2⟩
  exact AW.ret (AW.rI (permille (Xpr.mk (Xpr.Kind e) (Xpr.Col e) (Xpr.V e) (Xpr.Kids e)) s) e11)

def lnot (e : Xpr) : Xpr := (Xpr.mk 10 0 (Val.mk false 0) ([(Xpr.mk (Xpr.Kind e) (Xpr.Col e) (Xpr.V e) (Xpr.Kids e))] : List Xpr))

def lnot_sp : FnSpec := mkSpec [.val (.named 1)] [.val (.named 1)] (fun (e : Xpr) => True) (fun (e : Xpr) => [⟨(.named 1), (lnot e)⟩])

theorem lnot_ok : FnOK Try.prog 7 lnot_sp := by
 have hC : CtxOK Try.prog (mkCtx tyL []) := CtxOK.nil tyOK
 refine FnOK.of_body Try.func7 (by kernel_rfl) rfl (C := (mkCtx tyL [])) hC.ty (by kernel_rfl) ?_
 intro (e : Xpr) hwf hpre E
 have hpre : True := hpre
 have hw_e : Wf ⟨(.named 1), (e : Xpr)⟩ := hwf _ (List.Mem.head _)
 obtain ⟨hr_e_Kind, hr_e_Col, hl_e_Kids⟩ := Xpr.wfl hw_e
 have e0 : lnot e = lnot e := rfl
 refine AW.seq (AW.r1 hC [1, 2] [4, 8] ⟨[(1, .ref 4 1 0), (2, .ref 8 1 0)], [(4, .box 1 [sI (Xpr.Kind e), sI (Xpr.Col e), sB (Val.Null (Xpr.V e)), sI (Val.N (Xpr.V e)), sD11 (Xpr.Kids e)]), (8, .box 1 [sI 0, sI 0, sB false, sI 0, .nilsl])]⟩ ?_)
 refine AW.seq (AW.r1 hC [2] [8, 16] ⟨[(2, .ref 8 1 0)], [(8, .box 1 [sI 10, sI 0, sB false, sI 0, .arr 16 1]), (16, .arr 1 (.named 1) (([(Xpr.mk (Xpr.Kind e) (Xpr.Col e) (Xpr.V e) (Xpr.Kids e))] : List Xpr) : List Xpr))]⟩ ?_)
 exact AW.ret (AW.retE (β := Xpr) (fun v => [⟨(.named 1), v⟩]) (fun v => []) (v := (Xpr.mk 10 0 (Val.mk false 0) ([(Xpr.mk (Xpr.Kind e) (Xpr.Col e) (Xpr.V e) (Xpr.Kids e))] : List Xpr))) e0 (by kernel_rfl) rfl rfl)

def ltwo (kind : Int) (a : Xpr) (b : Xpr) : Xpr := (Xpr.mk kind 0 (Val.mk false 0) ([(Xpr.mk (Xpr.Kind a) (Xpr.Col a) (Xpr.V a) (Xpr.Kids a)), (Xpr.mk (Xpr.Kind b) (Xpr.Col b) (Xpr.V b) (Xpr.Kids b))] : List Xpr))

def ltwo_sp : FnSpec := mkSpec [.val (.int .i64), .val (.named 1), .val (.named 1)] [.val (.named 1)] (fun (kind : Int) (a : Xpr) (b : Xpr) => True) (fun (kind : Int) (a : Xpr) (b : Xpr) => [⟨(.named 1), (ltwo kind a b)⟩])

theorem ltwo_ok : FnOK Try.prog 8 ltwo_sp := by
 have hC : CtxOK Try.prog (mkCtx tyL []) := CtxOK.nil tyOK
 refine FnOK.of_body Try.func8 (by kernel_rfl) rfl (C := (mkCtx tyL [])) hC.ty (by kernel_rfl) ?_
 intro (kind : Int) (a : Xpr) (b : Xpr) hwf hpre E
 have hpre : True := hpre
 have hw_kind : Wf ⟨(.int .i64), (kind : Int)⟩ := hwf _ (List.Mem.head _)
 have hr_kind : -9223372036854775808 ≤ kind ∧ kind ≤ 9223372036854775807 := hw_kind.int_inv
 have hw_a : Wf ⟨(.named 1), (a : Xpr)⟩ := hwf _ (List.Mem.tail _ (List.Mem.head _))
 obtain ⟨hr_a_Kind, hr_a_Col, hl_a_Kids⟩ := Xpr.wfl hw_a
 have hw_b : Wf ⟨(.named 1), (b : Xpr)⟩ := hwf _ (List.Mem.tail _ (List.Mem.tail _ (List.Mem.head _)))
 obtain ⟨hr_b_Kind, hr_b_Col, hl_b_Kids⟩ := Xpr.wfl hw_b
 have e0 : ltwo kind a b = ltwo kind a b := rfl
 refine AW.seq (AW.r1 hC [0, 4, 5, 6] [16, 20, 24] ⟨[(0, sI kind), (4, .ref 16 1 0), (5, .ref 20 1 0), (6, .ref 24 1 0)], [(16, .box 1 [sI (Xpr.Kind a), sI (Xpr.Col a), sB (Val.Null (Xpr.V a)), sI (Val.N (Xpr.V a)), sD11 (Xpr.Kids a)]), (20, .box 1 [sI (Xpr.Kind b), sI (Xpr.Col b), sB (Val.Null (Xpr.V b)), sI (Val.N (Xpr.V b)), sD11 (Xpr.Kids b)]), (24, .box 1 [sI 0, sI 0, sB false, sI 0, .nilsl])]⟩ ?_)
 refine AW.seq (AW.r1 hC [6] [24, 40] ⟨[(6, .ref 24 1 0)], [(24, .box 1 [sI kind, sI 0, sB false, sI 0, .arr 40 1]), (40, .arr 1 (.named 1) (([(Xpr.mk (Xpr.Kind a) (Xpr.Col a) (Xpr.V a) (Xpr.Kids a)), (Xpr.mk (Xpr.Kind b) (Xpr.Col b) (Xpr.V b) (Xpr.Kids b))] : List Xpr) : List Xpr))]⟩ ?_)
 exact AW.ret (AW.retE (β := Xpr) (fun v => [⟨(.named 1), v⟩]) (fun v => []) (v := (Xpr.mk kind 0 (Val.mk false 0) ([(Xpr.mk (Xpr.Kind a) (Xpr.Col a) (Xpr.V a) (Xpr.Kids a)), (Xpr.mk (Xpr.Kind b) (Xpr.Col b) (Xpr.V b) (Xpr.Kids b))] : List Xpr))) e0 (by kernel_rfl) rfl rfl)

end
end Go.Proofs.Ytdkopkplfdobnaa
