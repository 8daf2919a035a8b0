/-
  A part of the proof of this claim (AtV): what functions of the program compute, and plain facts of that. No conditions.
-/
import Derived.Test.YtdkopkplfdobnaaAt3
set_option linter.all false
namespace Go.Proofs.Ytdkopkplfdobnaa
open Go Go.Am
noncomputable section

def truthOf (v : Val) : Int := (bif (Val.Null v) then 1 else (bif ((Val.N v) == 0) then 0 else 2))

def truthOf_sp : FnSpec := mkSpec [.val (.named 0)] [.val (.int .i64)] (fun (v : Val) => True) (fun (v : Val) => [⟨(.int .i64), (truthOf v)⟩])

theorem truthOf_ok : FnOK Try.prog 44 truthOf_sp := by
 have hC : CtxOK Try.prog (mkCtx tyL []) := CtxOK.nil tyOK
 refine FnOK.of_body Try.func44 (by kernel_rfl) rfl (C := (mkCtx tyL [])) hC.ty (by kernel_rfl) ?_
 intro (v : Val) hwf hpre E
 have hpre : True := hpre
 have hw_v : Wf ⟨(.named 0), (v : Val)⟩ := hwf _ (List.Mem.head _)
 have hr_v_N := Val.wfl hw_v
 have e0 : truthOf v = truthOf v := rfl
 refine AW.seq (AW.r1 hC [1] [4] ⟨[(1, .ref 4 1 0)], [(4, .box 1 [sB (Val.Null v), sI (Val.N v)])]⟩ ?_)
 refine AW.seq (AW.block (AW.seq (AW.r1 hC [1, 3] [4] ⟨[(1, .ref 4 1 0), (3, sB (Val.Null v))], [(4, .box 1 [sB (Val.Null v), sI (Val.N v)])]⟩ ?_)))
 refine AW.cd (Val.Null v) ?_ ?_
 ·
  intro h1
  have h1q : (Val.Null v) = true := h1
  have e2 := e0.trans (Go.Am.bif_t h1)
  refine AW.seq (AW.r1 hC [2] [] ⟨[(2, sI 1)], []⟩ ?_)
  exact AW.ret (AW.rI 1 e2)
 ·
  intro h3
  have h3q : (Val.Null v) = false := h3
  have e4 := e0.trans (Go.Am.bif_f h3)
  refine AW.seq (AW.r1 hC [6] [] ⟨[(6, sB ((Val.N v) == 0))], []⟩ ?_)
  refine AW.cd ((Val.N v) == 0) ?_ ?_
  ·
   intro h5
   have h5q := (Go.Am.beq_pos h5)
   have e6 := e4.trans (Go.Am.bif_t h5)
   refine AW.seq (AW.r1 hC [2] [] ⟨[(2, sI 0)], []⟩ ?_)
   exact AW.ret (AW.rI 0 e6)
  ·
   intro h7
   have h7q := (Go.Am.beq_neg h7)
   have e8 := e4.trans (Go.Am.bif_f h7)
   refine AW.kp [] [] ⟨[], []⟩ ?_
   refine AW.skip (AW.seq (AW.r1 hC [2] [] ⟨[(2, sI 2)], []⟩ ?_))
   exact AW.ret (AW.rI 2 e8)

def truth (v : Val) : Int := (bif (Val.Null v) then 2 else (bif ((Val.N v) == 0) then 0 else 1))

def truth_sp : FnSpec := mkSpec [.val (.named 0)] [.val (.int .i64)] (fun (v : Val) => True) (fun (v : Val) => [⟨(.int .i64), (truth v)⟩])

theorem truth_ok : FnOK Try.prog 34 truth_sp := by
 have hC : CtxOK Try.prog (mkCtx tyL []) := CtxOK.nil tyOK
 refine FnOK.of_body Try.func34 (by kernel_rfl) rfl (C := (mkCtx tyL [])) hC.ty (by kernel_rfl) ?_
 intro (v : Val) hwf hpre E
 have hpre : True := hpre
 have hw_v : Wf ⟨(.named 0), (v : Val)⟩ := hwf _ (List.Mem.head _)
 have hr_v_N := Val.wfl hw_v
 have e0 : truth v = truth v := rfl
 refine AW.seq (AW.r1 hC [1] [4] ⟨[(1, .ref 4 1 0)], [(4, .box 1 [sB (Val.Null v), sI (Val.N v)])]⟩ ?_)
 refine AW.seq (AW.block (AW.seq (AW.r1 hC [1, 3] [4] ⟨[(1, .ref 4 1 0), (3, sB (Val.Null v))], [(4, .box 1 [sB (Val.Null v), sI (Val.N v)])]⟩ ?_)))
 refine AW.cd (Val.Null v) ?_ ?_
 ·
  intro h1
  have h1q : (Val.Null v) = true := h1
  have e2 := e0.trans (Go.Am.bif_t h1)
  refine AW.seq (AW.r1 hC [2] [] ⟨[(2, sI 2)], []⟩ ?_)
  exact AW.ret (AW.rI 2 e2)
 ·
  intro h3
  have h3q : (Val.Null v) = false := h3
  have e4 := e0.trans (Go.Am.bif_f h3)
  refine AW.seq (AW.r1 hC [6] [] ⟨[(6, sB ((Val.N v) == 0))], []⟩ ?_)
  refine AW.cd ((Val.N v) == 0) ?_ ?_
  ·
   intro h5
   have h5q := (Go.Am.beq_pos h5)
   have e6 := e4.trans (Go.Am.bif_t h5)
   refine AW.seq (AW.r1 hC [2] [] ⟨[(2, sI 0)], []⟩ ?_)
   exact AW.ret (AW.rI 0 e6)
  ·
   intro h7
   have h7q := (Go.Am.beq_neg h7)
   have e8 := e4.trans (Go.Am.bif_f h7)
   refine AW.kp [] [] ⟨[], []⟩ ?_
   refine AW.skip (AW.seq (AW.r1 hC [2] [] ⟨[(2, sI 1)], []⟩ ?_))
   exact AW.ret (AW.rI 1 e8)

def toInt (b : Bool) : Int := (bif b then 1 else 0)

def toInt_sp : FnSpec := mkSpec [.val .bool] [.val (.int .i64)] (fun (b : Bool) => True) (fun (b : Bool) => [⟨(.int .i64), (toInt b)⟩])

theorem toInt_ok : FnOK Try.prog 33 toInt_sp := by
 have hC : CtxOK Try.prog (mkCtx tyL []) := CtxOK.nil tyOK
 refine FnOK.of_body Try.func33 (by kernel_rfl) rfl (C := (mkCtx tyL [])) hC.ty (by kernel_rfl) ?_
 intro (b : Bool) hwf hpre E
 have hpre : True := hpre
 have hw_b : Wf ⟨.bool, (b : Bool)⟩ := hwf _ (List.Mem.head _)
 have e0 : toInt b = toInt b := rfl
 refine AW.seq (AW.r1 hC [0] [] ⟨[(0, sB b)], []⟩ ?_)
 refine AW.seq (AW.seq (AW.r1 hC [3] [] ⟨[(3, sB b)], []⟩ ?_))
 refine AW.cd b ?_ ?_
 ·
  intro h1
  have h1q : b = true := h1
  have e2 := e0.trans (Go.Am.bif_t h1)
  refine AW.seq (AW.r1 hC [2] [] ⟨[(2, sI 1)], []⟩ ?_)
  exact AW.ret (AW.rI 1 e2)
 ·
  intro h3
  have h3q : b = false := h3
  have e4 := e0.trans (Go.Am.bif_f h3)
  refine AW.kp [] [] ⟨[], []⟩ ?_
  refine AW.skip (AW.seq (AW.r1 hC [2] [] ⟨[(2, sI 0)], []⟩ ?_))
  exact AW.ret (AW.rI 0 e4)

end
end Go.Proofs.Ytdkopkplfdobnaa
