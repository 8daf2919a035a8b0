/-
  A part of the proof of this claim (ApT9): what functions of the program compute, and plain facts of that. No conditions.
-/
import Derived.Test.YtodcdgolcbdkgaaApT8
set_option linter.all false
namespace Go.Proofs.Ytodcdgolcbdkgaa
open Go Go.Am
noncomputable section

def iFoldExpr (e : Xpr) : Xpr := (bif (!(iValidExpr e 6)) then (Xpr.mk 0 0 (Val.mk false 0) ([] : List Xpr)) else (Xpr.mk (Xpr.Kind (folded e)) (Xpr.Col (folded e)) (Xpr.V (folded e)) (Xpr.Kids (folded e))))

def iFoldExpr_sp : FnSpec := mkSpec [.val (.named 1)] [.deep (.named 1)] (fun (e : Xpr) => True) (fun (e : Xpr) => [⟨(.named 1), (iFoldExpr e)⟩])

theorem iFoldExpr_ok : FnOK Try.prog 58 iFoldExpr_sp := by
 have hC : CtxOK Try.prog { (mkCtx tyL [(99, iValidExpr_sp), (100, folded_sp)]) with deep := true } := CtxOK.deepen (CtxOK.cons iValidExpr_ok (CtxOK.cons folded_ok (CtxOK.nil tyOK)))
 refine FnOK.of_body Try.func58 (by kernel_rfl) rfl (C := { (mkCtx tyL [(99, iValidExpr_sp), (100, folded_sp)]) with deep := true }) hC.ty (by kernel_rfl) ?_
 intro (e : Xpr) hwf hpre E
 have hpre : True := hpre
 have hw_e : Wf ⟨(.named 1), (e : Xpr)⟩ := hwf _ (List.Mem.head _)
 obtain ⟨hr_e_Kind, hr_e_Col, hl_e_Kids⟩ := Xpr.wfl hw_e
 have e0 : iFoldExpr e = iFoldExpr e := rfl
 refine AW.seq (AW.regionO [0, 1] (by rfl) ?_)
 refine AWO.boxD (t := (.named 1)) (sv := sD3 e) (y := (e : Xpr)) (by rfl) (by rfl) (by kernel_rfl) (by kernel_rfl) (by kernel_rfl) ?_
 refine AWO.keep [1] [] ⟨[(1, sR3 e)], []⟩ (by kernel_rfl) ?_
 refine AWO.run hC false [] [1] [] [1, 2] [8]
  ⟨[(1, sR3 e), (2, .ref 8 1 0)], [(8, .box 1 [sI 0, sI 0, sB false, sI 0, .nilsl])]⟩
  [] (by rfl) (by kernel_rfl) ?_ ?_
 ·
  exact trivial
 refine AWO.nil ?_
 refine AW.seq (AW.seq (AW.r0 hC [1, 2, 5] [8] ⟨[(1, sR3 e), (2, .ref 8 1 0), (5, sB (!(iValidExpr e 6)))], [(8, .box 1 [sI 0, sI 0, sB false, sI 0, .nilsl])]⟩ [(True)] ?_ ?_))
 ·
  refine ⟨?_, trivial⟩
  ·
   trivial
 refine AW.cd (!(iValidExpr e 6)) ?_ ?_
 ·
  intro h1
  have h1q := (Go.Am.not_pos h1)
  have e2 := e0.trans (Go.Am.bif_t h1)
  refine AW.seq (AW.r1 hC [2] [8] ⟨[(2, .ref 8 1 0)], [(8, .box 1 [sI 0, sI 0, sB false, sI 0, .nilsl])]⟩ ?_)
  exact AW.ret (AW.retE (β := Xpr) (fun v => [⟨(.named 1), v⟩]) (fun v => []) (v := (Xpr.mk 0 0 (Val.mk false 0) ([] : List Xpr))) e2 (by kernel_rfl) rfl rfl)
 ·
  intro h3
  have h3q := (Go.Am.not_neg h3)
  have e4 := e0.trans (Go.Am.bif_f h3)
  refine AW.kp [1, 2] [8] ⟨[(1, sR3 e), (2, .ref 8 1 0)], [(8, .box 1 [sI 0, sI 0, sB false, sI 0, .nilsl])]⟩ ?_
  refine AW.skip (AW.seq (AW.r0 hC [2] [8, 28] ⟨[(2, .ref 8 1 0)], [(8, .box 1 [sI (Xpr.Kind (folded e)), sI (Xpr.Col (folded e)), sB (Val.Null (Xpr.V (folded e))), sI (Val.N (Xpr.V (folded e))), .tr 28 1]), (28, .tree 1 (.named 1) ((Xpr.Kids (folded e)) : List Xpr))]⟩ [(∃ w, VL w e)] ?_ ?_))
  ·
   refine ⟨?_, trivial⟩
   ·
    exact ⟨6, 8, Nat.le_refl _, (iValidExpr_iff.1 h3q).2⟩
  exact AW.ret (AW.retE (β := Xpr) (fun v => [⟨(.named 1), v⟩]) (fun v => []) (v := (Xpr.mk (Xpr.Kind (folded e)) (Xpr.Col (folded e)) (Xpr.V (folded e)) (Xpr.Kids (folded e)))) e4 (by kernel_rfl) rfl rfl)

def FoldExpr (e : Xpr) : Xpr := (bif (!(ValidExpr (Xpr.mk (Xpr.Kind e) (Xpr.Col e) (Xpr.V e) (Xpr.Kids e)) 6)) then (Xpr.mk 0 0 (Val.mk false 0) ([] : List Xpr)) else (Xpr.mk (Xpr.Kind (fold (Xpr.mk (Xpr.Kind e) (Xpr.Col e) (Xpr.V e) (Xpr.Kids e)))) (Xpr.Col (fold (Xpr.mk (Xpr.Kind e) (Xpr.Col e) (Xpr.V e) (Xpr.Kids e)))) (Xpr.V (fold (Xpr.mk (Xpr.Kind e) (Xpr.Col e) (Xpr.V e) (Xpr.Kids e)))) (Xpr.Kids (fold (Xpr.mk (Xpr.Kind e) (Xpr.Col e) (Xpr.V e) (Xpr.Kids e))))))

def FoldExpr_sp : FnSpec := mkSpec [.val (.named 1)] [.val (.named 1)] (fun (e : Xpr) => True) (fun (e : Xpr) => [⟨(.named 1), (FoldExpr e)⟩])

theorem FoldExpr_ok : FnOK Try.prog 56 FoldExpr_sp := by
 have hC : CtxOK Try.prog (mkCtx tyL [(96, ValidExpr_sp), (97, fold_sp)]) := CtxOK.cons ValidExpr_ok (CtxOK.cons fold_ok (CtxOK.nil tyOK))
 refine FnOK.of_body Try.func56 (by kernel_rfl) rfl (C := (mkCtx tyL [(96, ValidExpr_sp), (97, fold_sp)])) hC.ty (by kernel_rfl) ?_
 intro (e : Xpr) hwf hpre E
 have hpre : True := hpre
 have hw_e : Wf ⟨(.named 1), (e : Xpr)⟩ := hwf _ (List.Mem.head _)
 obtain ⟨hr_e_Kind, hr_e_Col, hl_e_Kids⟩ := Xpr.wfl hw_e
 have e0 : FoldExpr e = FoldExpr e := rfl
 refine AW.seq (AW.r1 hC [1, 2] [4, 8] ⟨[(1, .ref 4 1 0), (2, .ref 8 1 0)], [(4, .box 1 [sI (Xpr.Kind e), sI (Xpr.Col e), sB (Val.Null (Xpr.V e)), sI (Val.N (Xpr.V e)), sD9 (Xpr.Kids e)]), (8, .box 1 [sI 0, sI 0, sB false, sI 0, .nilsl])]⟩ ?_)
 refine AW.seq (AW.seq (AW.r0 hC [1, 2, 5] [4, 8] ⟨[(1, .ref 4 1 0), (2, .ref 8 1 0), (5, sB (!(ValidExpr (Xpr.mk (Xpr.Kind e) (Xpr.Col e) (Xpr.V e) (Xpr.Kids e)) 6)))], [(4, .box 1 [sI (Xpr.Kind e), sI (Xpr.Col e), sB (Val.Null (Xpr.V e)), sI (Val.N (Xpr.V e)), sD9 (Xpr.Kids e)]), (8, .box 1 [sI 0, sI 0, sB false, sI 0, .nilsl])]⟩ [(True)] ?_ ?_))
 ·
  refine ⟨?_, trivial⟩
  ·
   trivial
 refine AW.cd (!(ValidExpr (Xpr.mk (Xpr.Kind e) (Xpr.Col e) (Xpr.V e) (Xpr.Kids e)) 6)) ?_ ?_
 ·
  intro h1
  have h1q := (Go.Am.not_pos h1)
  have e2 := e0.trans (Go.Am.bif_t h1)
  refine AW.seq (AW.r1 hC [2] [8] ⟨[(2, .ref 8 1 0)], [(8, .box 1 [sI 0, sI 0, sB false, sI 0, .nilsl])]⟩ ?_)
  exact AW.ret (AW.retE (β := Xpr) (fun v => [⟨(.named 1), v⟩]) (fun v => []) (v := (Xpr.mk 0 0 (Val.mk false 0) ([] : List Xpr))) e2 (by kernel_rfl) rfl rfl)
 ·
  intro h3
  have h3q := (Go.Am.not_neg h3)
  have e4 := e0.trans (Go.Am.bif_f h3)
  refine AW.kp [1, 2] [4, 8] ⟨[(1, .ref 4 1 0), (2, .ref 8 1 0)], [(4, .box 1 [sI (Xpr.Kind e), sI (Xpr.Col e), sB (Val.Null (Xpr.V e)), sI (Val.N (Xpr.V e)), sD9 (Xpr.Kids e)]), (8, .box 1 [sI 0, sI 0, sB false, sI 0, .nilsl])]⟩ ?_
  refine AW.skip (AW.seq (AW.r0 hC [2] [8] ⟨[(2, .ref 8 1 0)], [(8, .box 1 [sI (Xpr.Kind (fold (Xpr.mk (Xpr.Kind e) (Xpr.Col e) (Xpr.V e) (Xpr.Kids e)))), sI (Xpr.Col (fold (Xpr.mk (Xpr.Kind e) (Xpr.Col e) (Xpr.V e) (Xpr.Kids e)))), sB (Val.Null (Xpr.V (fold (Xpr.mk (Xpr.Kind e) (Xpr.Col e) (Xpr.V e) (Xpr.Kids e))))), sI (Val.N (Xpr.V (fold (Xpr.mk (Xpr.Kind e) (Xpr.Col e) (Xpr.V e) (Xpr.Kids e))))), sD9 (Xpr.Kids (fold (Xpr.mk (Xpr.Kind e) (Xpr.Col e) (Xpr.V e) (Xpr.Kids e))))])]⟩ [(∃ w, VL w (Xpr.mk (Xpr.Kind e) (Xpr.Col e) (Xpr.V e) (Xpr.Kids e)))] ?_ ?_))
  ·
   refine ⟨?_, trivial⟩
   ·
    rw [Xpr.eta]
    exact ⟨6, 8, Nat.le_refl _, (ValidExpr_iff.1 (Xpr.eta e ▸ h3q)).2⟩
  exact AW.ret (AW.retE (β := Xpr) (fun v => [⟨(.named 1), v⟩]) (fun v => []) (v := (Xpr.mk (Xpr.Kind (fold (Xpr.mk (Xpr.Kind e) (Xpr.Col e) (Xpr.V e) (Xpr.Kids e)))) (Xpr.Col (fold (Xpr.mk (Xpr.Kind e) (Xpr.Col e) (Xpr.V e) (Xpr.Kids e)))) (Xpr.V (fold (Xpr.mk (Xpr.Kind e) (Xpr.Col e) (Xpr.V e) (Xpr.Kids e)))) (Xpr.Kids (fold (Xpr.mk (Xpr.Kind e) (Xpr.Col e) (Xpr.V e) (Xpr.Kids e)))))) e4 (by kernel_rfl) rfl rfl)

end
end Go.Proofs.Ytodcdgolcbdkgaa
