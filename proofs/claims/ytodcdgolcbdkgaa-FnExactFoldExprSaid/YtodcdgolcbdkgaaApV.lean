/-
  A part of the proof of this claim (ApV): what functions of the program compute, and plain facts of that. No conditions.
-/
import Derived.Test.YtodcdgolcbdkgaaAp3
set_option linter.all false
namespace Go.Proofs.Ytodcdgolcbdkgaa
open Go Go.Am
noncomputable section

def inumber (n : Int) : Val := (Val.mk false n)

def inumber_sp : FnSpec := mkSpec [.val (.int .i64)] [.val (.named 0)] (fun (n : Int) => True) (fun (n : Int) => [⟨(.named 0), (inumber n)⟩])

theorem inumber_ok : FnOK Try.prog 169 inumber_sp := by
 have hC : CtxOK Try.prog (mkCtx tyL []) := CtxOK.nil tyOK
 refine FnOK.of_body Try.func169 (by kernel_rfl) rfl (C := (mkCtx tyL [])) hC.ty (by kernel_rfl) ?_
 intro (n : Int) hwf hpre E
 have hpre : True := hpre
 have hw_n : Wf ⟨(.int .i64), (n : Int)⟩ := hwf _ (List.Mem.head _)
 have hr_n : -9223372036854775808 ≤ n ∧ n ≤ 9223372036854775807 := hw_n.int_inv
 have e0 : inumber n = inumber n := rfl
 refine AW.seq (AW.r1 hC [0, 2] [8] ⟨[(0, sI n), (2, .ref 8 1 0)], [(8, .box 1 [sB false, sI 0])]⟩ ?_)
 refine AW.seq (AW.r1 hC [2] [8] ⟨[(2, .ref 8 1 0)], [(8, .box 1 [sB false, sI n])]⟩ ?_)
 exact AW.ret (AW.retE (β := Val) (fun v => [⟨(.named 0), v⟩]) (fun v => []) (v := (Val.mk false n)) e0 (by kernel_rfl) rfl rfl)

def inull : Val := (Val.mk true 0)

def inull_sp : FnSpec := mkSpec [] [.val (.named 0)] (True) ([⟨(.named 0), inull⟩])

theorem inull_ok : FnOK Try.prog 162 inull_sp := by
 have hC : CtxOK Try.prog (mkCtx tyL []) := CtxOK.nil tyOK
 refine FnOK.of_body Try.func162 (by kernel_rfl) rfl (C := (mkCtx tyL [])) hC.ty (by kernel_rfl) ?_
 intro  hwf hpre E
 have hpre : True := hpre
 have e0 : inull = inull := rfl
 refine AW.seq (AW.r1 hC [0] [0] ⟨[(0, .ref 0 1 0)], [(0, .box 1 [sB false, sI 0])]⟩ ?_)
 refine AW.seq (AW.r1 hC [0] [0] ⟨[(0, .ref 0 1 0)], [(0, .box 1 [sB true, sI 0])]⟩ ?_)
 exact AW.ret (AW.retE (β := Val) (fun v => [⟨(.named 0), v⟩]) (fun v => []) (v := (Val.mk true 0)) e0 (by kernel_rfl) rfl rfl)

def numberOrNull (n : Int) : Val := (bif (valValid (inumber n)) then (inumber n) else inull)

def numberOrNull_sp : FnSpec := mkSpec [.val (.int .i64)] [.val (.named 0)] (fun (n : Int) => True) (fun (n : Int) => [⟨(.named 0), (numberOrNull n)⟩])

theorem numberOrNull_ok : FnOK Try.prog 170 numberOrNull_sp := by
 have hC : CtxOK Try.prog (mkCtx tyL [(158, valValid_sp), (162, inull_sp), (169, inumber_sp)]) := CtxOK.cons valValid_ok (CtxOK.cons inull_ok (CtxOK.cons inumber_ok (CtxOK.nil tyOK)))
 refine FnOK.of_body Try.func170 (by kernel_rfl) rfl (C := (mkCtx tyL [(158, valValid_sp), (162, inull_sp), (169, inumber_sp)])) hC.ty (by kernel_rfl) ?_
 intro (n : Int) hwf hpre E
 have hpre : True := hpre
 have hw_n : Wf ⟨(.int .i64), (n : Int)⟩ := hwf _ (List.Mem.head _)
 have hr_n : -9223372036854775808 ≤ n ∧ n ≤ 9223372036854775807 := hw_n.int_inv
 have e0 : numberOrNull n = numberOrNull n := rfl
 refine AW.seq (AW.r1 hC [0, 2] [8] ⟨[(0, sI n), (2, .ref 8 1 0)], [(8, .box 1 [sB false, sI 0])]⟩ ?_)
 refine AW.seq (AW.seq (AW.r0 hC [2, 3] [8, 12] ⟨[(2, .ref 8 1 0), (3, .ref 12 1 0)], [(8, .box 1 [sB false, sI 0]), (12, .box 1 [sB (Val.Null (inumber n)), sI (Val.N (inumber n))])]⟩ [(True)] ?_ ?_))
 ·
  refine ⟨?_, trivial⟩
  ·
   trivial
 refine AW.seq (AW.r0 hC [2, 3, 7] [8, 12] ⟨[(2, .ref 8 1 0), (3, .ref 12 1 0), (7, sB (valValid (inumber n)))], [(8, .box 1 [sB false, sI 0]), (12, .box 1 [sB (Val.Null (inumber n)), sI (Val.N (inumber n))])]⟩ [(True)] ?_ ?_)
 ·
  refine ⟨?_, trivial⟩
  ·
   trivial
 refine AW.cd (valValid (inumber n)) ?_ ?_
 ·
  intro h1
  have h1q : (valValid (inumber n)) = true := h1
  have e2 := e0.trans (Go.Am.bif_t h1)
  refine AW.seq (AW.r1 hC [2] [8] ⟨[(2, .ref 8 1 0)], [(8, .box 1 [sB (Val.Null (inumber n)), sI (Val.N (inumber n))])]⟩ ?_)
  exact AW.ret (AW.retE (β := Val) (fun v => [⟨(.named 0), v⟩]) (fun v => []) (v := (inumber n)) e2 (by kernel_rfl) rfl rfl)
 ·
  intro h3
  have h3q : (valValid (inumber n)) = false := h3
  have e4 := e0.trans (Go.Am.bif_f h3)
  refine AW.kp [2] [8] ⟨[(2, .ref 8 1 0)], [(8, .box 1 [sB false, sI 0])]⟩ ?_
  refine AW.skip (AW.seq (AW.r0 hC [2] [8] ⟨[(2, .ref 8 1 0)], [(8, .box 1 [sB (Val.Null inull), sI (Val.N inull)])]⟩ [(True)] ?_ ?_))
  ·
   refine ⟨?_, trivial⟩
   ·
    trivial
  exact AW.ret (AW.retE (β := Val) (fun v => [⟨(.named 0), v⟩]) (fun v => []) (v := inull) e4 (by kernel_rfl) rfl rfl)

def flag (holds : Bool) : Val := (bif holds then (inumber 1) else (inumber 0))

def flag_sp : FnSpec := mkSpec [.val .bool] [.val (.named 0)] (fun (holds : Bool) => True) (fun (holds : Bool) => [⟨(.named 0), (flag holds)⟩])

theorem flag_ok : FnOK Try.prog 160 flag_sp := by
 have hC : CtxOK Try.prog (mkCtx tyL [(169, inumber_sp)]) := CtxOK.cons inumber_ok (CtxOK.nil tyOK)
 refine FnOK.of_body Try.func160 (by kernel_rfl) rfl (C := (mkCtx tyL [(169, inumber_sp)])) hC.ty (by kernel_rfl) ?_
 intro (holds : Bool) hwf hpre E
 have hpre : True := hpre
 have hw_holds : Wf ⟨.bool, (holds : Bool)⟩ := hwf _ (List.Mem.head _)
 have e0 : flag holds = flag holds := rfl
 refine AW.seq (AW.r1 hC [0, 2] [8] ⟨[(0, sB holds), (2, .ref 8 1 0)], [(8, .box 1 [sB false, sI 0])]⟩ ?_)
 refine AW.seq (AW.seq (AW.r1 hC [2, 3] [8] ⟨[(2, .ref 8 1 0), (3, sB holds)], [(8, .box 1 [sB false, sI 0])]⟩ ?_))
 refine AW.cd holds ?_ ?_
 ·
  intro h1
  have h1q : holds = true := h1
  have e2 := e0.trans (Go.Am.bif_t h1)
  refine AW.seq (AW.r0 hC [2] [8] ⟨[(2, .ref 8 1 0)], [(8, .box 1 [sB (Val.Null (inumber 1)), sI (Val.N (inumber 1))])]⟩ [(True)] ?_ ?_)
  ·
   refine ⟨?_, trivial⟩
   ·
    trivial
  exact AW.ret (AW.retE (β := Val) (fun v => [⟨(.named 0), v⟩]) (fun v => []) (v := (inumber 1)) e2 (by kernel_rfl) rfl rfl)
 ·
  intro h3
  have h3q : holds = false := h3
  have e4 := e0.trans (Go.Am.bif_f h3)
  refine AW.kp [2] [8] ⟨[(2, .ref 8 1 0)], [(8, .box 1 [sB false, sI 0])]⟩ ?_
  refine AW.skip (AW.seq (AW.r0 hC [2] [8] ⟨[(2, .ref 8 1 0)], [(8, .box 1 [sB (Val.Null (inumber 0)), sI (Val.N (inumber 0))])]⟩ [(True)] ?_ ?_))
  ·
   refine ⟨?_, trivial⟩
   ·
    trivial
  exact AW.ret (AW.retE (β := Val) (fun v => [⟨(.named 0), v⟩]) (fun v => []) (v := (inumber 0)) e4 (by kernel_rfl) rfl rfl)

def truthOf (v : Val) : Int := (bif (Val.Null v) then 1 else (bif ((Val.N v) == 0) then 0 else 2))

def truthOf_sp : FnSpec := mkSpec [.val (.named 0)] [.val (.int .i64)] (fun (v : Val) => True) (fun (v : Val) => [⟨(.int .i64), (truthOf v)⟩])

theorem truthOf_ok : FnOK Try.prog 135 truthOf_sp := by
 have hC : CtxOK Try.prog (mkCtx tyL []) := CtxOK.nil tyOK
 refine FnOK.of_body Try.func135 (by kernel_rfl) rfl (C := (mkCtx tyL [])) hC.ty (by kernel_rfl) ?_
 intro (v : Val) hwf hpre E
 have hpre : True := hpre
 have hw_v : Wf ⟨(.named 0), (v : Val)⟩ := hwf _ (List.Mem.head _)
 have hr_v_N := Val.wfl hw_v
 have e0 : truthOf v = truthOf v := rfl
 refine AW.seq (AW.r1 hC [1] [4] ⟨[(1, .ref 4 1 0)], [(4, .box 1 [sB (Val.Null v), sI (Val.N v)])]⟩ ?_)
 refine AW.seq (AW.block (AW.seq (AW.r1 hC [1, 3] [4] ⟨[(1, .ref 4 1 0), (3, sB (Val.Null v))], [(4, .box 1 [sB (Val.Null v), sI (Val.N v)])]⟩ ?_)))
 refine AW.cd (Val.Null v) ?_ ?_
 ·
  intro h1
  have h1q : (Val.Null v) = true := h1
  have e2 := e0.trans (Go.Am.bif_t h1)
  refine AW.seq (AW.r1 hC [2] [] ⟨[(2, sI 1)], []⟩ ?_)
  exact AW.ret (AW.rI 1 e2)
 ·
  intro h3
  have h3q : (Val.Null v) = false := h3
  have e4 := e0.trans (Go.Am.bif_f h3)
  refine AW.seq (AW.r1 hC [6] [] ⟨[(6, sB ((Val.N v) == 0))], []⟩ ?_)
  refine AW.cd ((Val.N v) == 0) ?_ ?_
  ·
   intro h5
   have h5q := (Go.Am.beq_pos h5)
   have e6 := e4.trans (Go.Am.bif_t h5)
   refine AW.seq (AW.r1 hC [2] [] ⟨[(2, sI 0)], []⟩ ?_)
   exact AW.ret (AW.rI 0 e6)
  ·
   intro h7
   have h7q := (Go.Am.beq_neg h7)
   have e8 := e4.trans (Go.Am.bif_f h7)
   refine AW.kp [] [] ⟨[], []⟩ ?_
   refine AW.skip (AW.seq (AW.r1 hC [2] [] ⟨[(2, sI 2)], []⟩ ?_))
   exact AW.ret (AW.rI 2 e8)

def truthValue (t : Int) : Val := (bif (t == 1) then inull else (flag (t == 2)))

def truthValue_sp : FnSpec := mkSpec [.val (.int .i64)] [.val (.named 0)] (fun (t : Int) => True) (fun (t : Int) => [⟨(.named 0), (truthValue t)⟩])

theorem truthValue_ok : FnOK Try.prog 136 truthValue_sp := by
 have hC : CtxOK Try.prog (mkCtx tyL [(160, flag_sp), (162, inull_sp)]) := CtxOK.cons flag_ok (CtxOK.cons inull_ok (CtxOK.nil tyOK))
 refine FnOK.of_body Try.func136 (by kernel_rfl) rfl (C := (mkCtx tyL [(160, flag_sp), (162, inull_sp)])) hC.ty (by kernel_rfl) ?_
 intro (t : Int) hwf hpre E
 have hpre : True := hpre
 have hw_t : Wf ⟨(.int .i64), (t : Int)⟩ := hwf _ (List.Mem.head _)
 have hr_t : -9223372036854775808 ≤ t ∧ t ≤ 9223372036854775807 := hw_t.int_inv
 have e0 : truthValue t = truthValue t := rfl
 refine AW.seq (AW.r1 hC [0, 2] [8] ⟨[(0, sI t), (2, .ref 8 1 0)], [(8, .box 1 [sB false, sI 0])]⟩ ?_)
 refine AW.seq (AW.seq (AW.r1 hC [0, 2, 4] [8] ⟨[(0, sI t), (2, .ref 8 1 0), (4, sB (t == 1))], [(8, .box 1 [sB false, sI 0])]⟩ ?_))
 refine AW.cd (t == 1) ?_ ?_
 ·
  intro h1
  have h1q := (Go.Am.beq_pos h1)
  have e2 := e0.trans (Go.Am.bif_t h1)
  refine AW.seq (AW.r0 hC [2] [8] ⟨[(2, .ref 8 1 0)], [(8, .box 1 [sB (Val.Null inull), sI (Val.N inull)])]⟩ [(True)] ?_ ?_)
  ·
   refine ⟨?_, trivial⟩
   ·
    trivial
  exact AW.ret (AW.retE (β := Val) (fun v => [⟨(.named 0), v⟩]) (fun v => []) (v := inull) e2 (by kernel_rfl) rfl rfl)
 ·
  intro h3
  have h3q := (Go.Am.beq_neg h3)
  have e4 := e0.trans (Go.Am.bif_f h3)
  refine AW.kp [0, 2] [8] ⟨[(0, sI t), (2, .ref 8 1 0)], [(8, .box 1 [sB false, sI 0])]⟩ ?_
  refine AW.skip (AW.seq (AW.r0 hC [2] [8] ⟨[(2, .ref 8 1 0)], [(8, .box 1 [sB (Val.Null (flag (t == 2))), sI (Val.N (flag (t == 2)))])]⟩ [(True)] ?_ ?_))
  ·
   refine ⟨?_, trivial⟩
   ·
    trivial
  exact AW.ret (AW.retE (β := Val) (fun v => [⟨(.named 0), v⟩]) (fun v => []) (v := (flag (t == 2))) e4 (by kernel_rfl) rfl rfl)

def truth (v : Val) : Int := (bif (Val.Null v) then 2 else (bif ((Val.N v) == 0) then 0 else 1))

def truth_sp : FnSpec := mkSpec [.val (.named 0)] [.val (.int .i64)] (fun (v : Val) => True) (fun (v : Val) => [⟨(.int .i64), (truth v)⟩])

theorem truth_ok : FnOK Try.prog 149 truth_sp := by
 have hC : CtxOK Try.prog (mkCtx tyL []) := CtxOK.nil tyOK
 refine FnOK.of_body Try.func149 (by kernel_rfl) rfl (C := (mkCtx tyL [])) hC.ty (by kernel_rfl) ?_
 intro (v : Val) hwf hpre E
 have hpre : True := hpre
 have hw_v : Wf ⟨(.named 0), (v : Val)⟩ := hwf _ (List.Mem.head _)
 have hr_v_N := Val.wfl hw_v
 have e0 : truth v = truth v := rfl
 refine AW.seq (AW.r1 hC [1] [4] ⟨[(1, .ref 4 1 0)], [(4, .box 1 [sB (Val.Null v), sI (Val.N v)])]⟩ ?_)
 refine AW.seq (AW.block (AW.seq (AW.r1 hC [1, 3] [4] ⟨[(1, .ref 4 1 0), (3, sB (Val.Null v))], [(4, .box 1 [sB (Val.Null v), sI (Val.N v)])]⟩ ?_)))
 refine AW.cd (Val.Null v) ?_ ?_
 ·
  intro h1
  have h1q : (Val.Null v) = true := h1
  have e2 := e0.trans (Go.Am.bif_t h1)
  refine AW.seq (AW.r1 hC [2] [] ⟨[(2, sI 2)], []⟩ ?_)
  exact AW.ret (AW.rI 2 e2)
 ·
  intro h3
  have h3q : (Val.Null v) = false := h3
  have e4 := e0.trans (Go.Am.bif_f h3)
  refine AW.seq (AW.r1 hC [6] [] ⟨[(6, sB ((Val.N v) == 0))], []⟩ ?_)
  refine AW.cd ((Val.N v) == 0) ?_ ?_
  ·
   intro h5
   have h5q := (Go.Am.beq_pos h5)
   have e6 := e4.trans (Go.Am.bif_t h5)
   refine AW.seq (AW.r1 hC [2] [] ⟨[(2, sI 0)], []⟩ ?_)
   exact AW.ret (AW.rI 0 e6)
  ·
   intro h7
   have h7q := (Go.Am.beq_neg h7)
   have e8 := e4.trans (Go.Am.bif_f h7)
   refine AW.kp [] [] ⟨[], []⟩ ?_
   refine AW.skip (AW.seq (AW.r1 hC [2] [] ⟨[(2, sI 1)], []⟩ ?_))
   exact AW.ret (AW.rI 1 e8)

def ofTruth (n : Int) : Val := (bif (n == 2) then (Val.mk true 0) else (Val.mk false n))

def ofTruth_sp : FnSpec := mkSpec [.val (.int .i64)] [.val (.named 0)] (fun (n : Int) => True) (fun (n : Int) => [⟨(.named 0), (ofTruth n)⟩])

theorem ofTruth_ok : FnOK Try.prog 154 ofTruth_sp := by
 have hC : CtxOK Try.prog (mkCtx tyL []) := CtxOK.nil tyOK
 refine FnOK.of_body Try.func154 (by kernel_rfl) rfl (C := (mkCtx tyL [])) hC.ty (by kernel_rfl) ?_
 intro (n : Int) hwf hpre E
 have hpre : True := hpre
 have hw_n : Wf ⟨(.int .i64), (n : Int)⟩ := hwf _ (List.Mem.head _)
 have hr_n : -9223372036854775808 ≤ n ∧ n ≤ 9223372036854775807 := hw_n.int_inv
 have e0 : ofTruth n = ofTruth n := rfl
 refine AW.seq (AW.r1 hC [0, 2] [8] ⟨[(0, sI n), (2, .ref 8 1 0)], [(8, .box 1 [sB false, sI 0])]⟩ ?_)
 refine AW.seq (AW.seq (AW.r1 hC [0, 2, 4] [8] ⟨[(0, sI n), (2, .ref 8 1 0), (4, sB (n == 2))], [(8, .box 1 [sB false, sI 0])]⟩ ?_))
 refine AW.cd (n == 2) ?_ ?_
 ·
  intro h1
  have h1q := (Go.Am.beq_pos h1)
  have e2 := e0.trans (Go.Am.bif_t h1)
  refine AW.seq (AW.r1 hC [2] [8] ⟨[(2, .ref 8 1 0)], [(8, .box 1 [sB true, sI 0])]⟩ ?_)
  exact AW.ret (AW.retE (β := Val) (fun v => [⟨(.named 0), v⟩]) (fun v => []) (v := (Val.mk true 0)) e2 (by kernel_rfl) rfl rfl)
 ·
  intro h3
  have h3q := (Go.Am.beq_neg h3)
  have e4 := e0.trans (Go.Am.bif_f h3)
  refine AW.kp [0, 2] [8] ⟨[(0, sI n), (2, .ref 8 1 0)], [(8, .box 1 [sB false, sI 0])]⟩ ?_
  refine AW.skip (AW.seq (AW.r1 hC [2] [8] ⟨[(2, .ref 8 1 0)], [(8, .box 1 [sB false, sI n])]⟩ ?_))
  exact AW.ret (AW.retE (β := Val) (fun v => [⟨(.named 0), v⟩]) (fun v => []) (v := (Val.mk false n)) e4 (by kernel_rfl) rfl rfl)

def andTruth (a : Int) (b : Int) : Int := (bif (bif (a == 0) then true else (b == 0)) then 0 else (bif (bif (a == 1) then (b == 1) else false) then 1 else 2))

def andTruth_sp : FnSpec := mkSpec [.val (.int .i64), .val (.int .i64)] [.val (.int .i64)] (fun (a : Int) (b : Int) => True) (fun (a : Int) (b : Int) => [⟨(.int .i64), (andTruth a b)⟩])

theorem andTruth_ok : FnOK Try.prog 167 andTruth_sp := by
 have hC : CtxOK Try.prog (mkCtx tyL []) := CtxOK.nil tyOK
 refine FnOK.of_body Try.func167 (by kernel_rfl) rfl (C := (mkCtx tyL [])) hC.ty (by kernel_rfl) ?_
 intro (a : Int) (b : Int) hwf hpre E
 have hpre : True := hpre
 have hw_a : Wf ⟨(.int .i64), (a : Int)⟩ := hwf _ (List.Mem.head _)
 have hr_a : -9223372036854775808 ≤ a ∧ a ≤ 9223372036854775807 := hw_a.int_inv
 have hw_b : Wf ⟨(.int .i64), (b : Int)⟩ := hwf _ (List.Mem.tail _ (List.Mem.head _))
 have hr_b : -9223372036854775808 ≤ b ∧ b ≤ 9223372036854775807 := hw_b.int_inv
 have e0 : andTruth a b = andTruth a b := rfl
 refine AW.seq (AW.r1 hC [0, 1] [] ⟨[(0, sI a), (1, sI b)], []⟩ ?_)
 refine AW.seq (AW.block (AW.seq (AW.r0 hC [0, 1, 5] [] ⟨[(0, sI a), (1, sI b), (5, sB (bif (a == 0) then true else (b == 0)))], []⟩ [(((a == 0) = false) → (((a == 0) = false))), (((a == 0) = false) → (((a == 0) = false)))] ?_ ?_)))
 ·
  refine ⟨?_, ?_, trivial⟩
  ·
   intro g1
   have g1p0 : a ≠ 0 := (Go.Am.beq_neg g1)
   assumption
  ·
   intro g2
   have g2p0 : a ≠ 0 := (Go.Am.beq_neg g2)
   assumption
 refine AW.cd (bif (a == 0) then true else (b == 0)) ?_ ?_
 ·
  intro h3
  have h3q : (a = 0) ∨ (b = 0) := (Or.imp (fun h => (Go.Am.beq_pos h)) (fun h => (Go.Am.beq_pos h)) (Go.Am.or_pos h3))
  have e4 := e0.trans (Go.Am.bif_t h3)
  refine AW.seq (AW.r1 hC [4] [] ⟨[(4, sI 0)], []⟩ ?_)
  exact AW.ret (AW.rI 0 e4)
 ·
  intro h5
  have h5q : (a ≠ 0) ∧ (b ≠ 0) := (And.imp (fun h => (Go.Am.beq_neg h)) (fun h => (Go.Am.beq_neg h)) (Go.Am.or_neg h5))
  have e6 := e0.trans (Go.Am.bif_f h5)
  refine AW.seq (AW.r0 hC [12] [] ⟨[(12, sB (bif (a == 1) then (b == 1) else false))], []⟩ [(((a == 1) = true) → (((a == 1) = true))), (((a == 1) = true) → (((a == 1) = true)))] ?_ ?_)
  ·
   refine ⟨?_, ?_, trivial⟩
   ·
    intro g7
    have g7p0 : a = 1 := (Go.Am.beq_pos g7)
    assumption
   ·
    intro g8
    have g8p0 : a = 1 := (Go.Am.beq_pos g8)
    assumption
  refine AW.cd (bif (a == 1) then (b == 1) else false) ?_ ?_
  ·
   intro h9
   have h9q : (a = 1) ∧ (b = 1) := (And.imp (fun h => (Go.Am.beq_pos h)) (fun h => (Go.Am.beq_pos h)) (Go.Am.and_pos h9))
   have e10 := e6.trans (Go.Am.bif_t h9)
   refine AW.seq (AW.r1 hC [4] [] ⟨[(4, sI 1)], []⟩ ?_)
   exact AW.ret (AW.rI 1 e10)
  ·
   intro h11
   have h11q : (a ≠ 1) ∨ (b ≠ 1) := (Or.imp (fun h => (Go.Am.beq_neg h)) (fun h => (Go.Am.beq_neg h)) (Go.Am.and_neg h11))
   have e12 := e6.trans (Go.Am.bif_f h11)
   refine AW.kp [] [] ⟨[], []⟩ ?_
   refine AW.skip (AW.seq (AW.r1 hC [4] [] ⟨[(4, sI 2)], []⟩ ?_))
   exact AW.ret (AW.rI 2 e12)

def notTruth (a : Int) : Int := (bif (a == 2) then 2 else (1 - a))

def notTruth_sp : FnSpec := mkSpec [.val (.int .i64)] [.val (.int .i64)] (fun (a : Int) => 0 ≤ a ∧ a ≤ 2) (fun (a : Int) => [⟨(.int .i64), (notTruth a)⟩])

theorem notTruth_ok : FnOK Try.prog 155 notTruth_sp := by
 have hC : CtxOK Try.prog (mkCtx tyL []) := CtxOK.nil tyOK
 refine FnOK.of_body Try.func155 (by kernel_rfl) rfl (C := (mkCtx tyL [])) hC.ty (by kernel_rfl) ?_
 intro (a : Int) hwf hpre E
 have hpre : 0 ≤ a ∧ a ≤ 2 := hpre
 have hw_a : Wf ⟨(.int .i64), (a : Int)⟩ := hwf _ (List.Mem.head _)
 have hr_a : -9223372036854775808 ≤ a ∧ a ≤ 9223372036854775807 := hw_a.int_inv
 have e0 : notTruth a = notTruth a := rfl
 refine AW.seq (AW.r1 hC [0] [] ⟨[(0, sI a)], []⟩ ?_)
 refine AW.seq (AW.seq (AW.r1 hC [0, 4] [] ⟨[(0, sI a), (4, sB (a == 2))], []⟩ ?_))
 refine AW.cd (a == 2) ?_ ?_
 ·
  intro h1
  have h1q := (Go.Am.beq_pos h1)
  have e2 := e0.trans (Go.Am.bif_t h1)
  refine AW.seq (AW.r1 hC [2] [] ⟨[(2, sI 2)], []⟩ ?_)
  exact AW.ret (AW.rI 2 e2)
 ·
  intro h3
  have h3q := (Go.Am.beq_neg h3)
  have e4 := e0.trans (Go.Am.bif_f h3)
  refine AW.kp [0] [] ⟨[(0, sI a)], []⟩ ?_
  refine AW.skip (AW.seq (AW.r0 hC [2] [] ⟨[(2, sI (1 - a))], []⟩ [R64 (1 - a)] ?_ ?_))
  ·
   refine ⟨?_, trivial⟩
   ·
    refine R64.of ?_
    omega
  exact AW.ret (AW.rI (1 - a) e4)

def toInt (b : Bool) : Int := (bif b then 1 else 0)

def toInt_sp : FnSpec := mkSpec [.val .bool] [.val (.int .i64)] (fun (b : Bool) => True) (fun (b : Bool) => [⟨(.int .i64), (toInt b)⟩])

theorem toInt_ok : FnOK Try.prog 148 toInt_sp := by
 have hC : CtxOK Try.prog (mkCtx tyL []) := CtxOK.nil tyOK
 refine FnOK.of_body Try.func148 (by kernel_rfl) rfl (C := (mkCtx tyL [])) hC.ty (by kernel_rfl) ?_
 intro (b : Bool) hwf hpre E
 have hpre : True := hpre
 have hw_b : Wf ⟨.bool, (b : Bool)⟩ := hwf _ (List.Mem.head _)
 have e0 : toInt b = toInt b := rfl
 refine AW.seq (AW.r1 hC [0] [] ⟨[(0, sB b)], []⟩ ?_)
 refine AW.seq (AW.seq (AW.r1 hC [3] [] ⟨[(3, sB b)], []⟩ ?_))
 refine AW.cd b ?_ ?_
 ·
  intro h1
  have h1q : b = true := h1
  have e2 := e0.trans (Go.Am.bif_t h1)
  refine AW.seq (AW.r1 hC [2] [] ⟨[(2, sI 1)], []⟩ ?_)
  exact AW.ret (AW.rI 1 e2)
 ·
  intro h3
  have h3q : b = false := h3
  have e4 := e0.trans (Go.Am.bif_f h3)
  refine AW.kp [] [] ⟨[], []⟩ ?_
  refine AW.skip (AW.seq (AW.r1 hC [2] [] ⟨[(2, sI 0)], []⟩ ?_))
  exact AW.ret (AW.rI 0 e4)

def number (n : Int) : Val := (bif (!(inRange n (-9999) 9999)) then (Val.mk true 0) else (Val.mk false n))

def number_sp : FnSpec := mkSpec [.val (.int .i64)] [.val (.named 0)] (fun (n : Int) => True) (fun (n : Int) => [⟨(.named 0), (number n)⟩])

theorem number_ok : FnOK Try.prog 168 number_sp := by
 have hC : CtxOK Try.prog (mkCtx tyL [(88, inRange_sp)]) := CtxOK.cons inRange_ok (CtxOK.nil tyOK)
 refine FnOK.of_body Try.func168 (by kernel_rfl) rfl (C := (mkCtx tyL [(88, inRange_sp)])) hC.ty (by kernel_rfl) ?_
 intro (n : Int) hwf hpre E
 have hpre : True := hpre
 have hw_n : Wf ⟨(.int .i64), (n : Int)⟩ := hwf _ (List.Mem.head _)
 have hr_n : -9223372036854775808 ≤ n ∧ n ≤ 9223372036854775807 := hw_n.int_inv
 have e0 : number n = number n := rfl
 refine AW.seq (AW.r1 hC [0, 2] [8] ⟨[(0, sI n), (2, .ref 8 1 0)], [(8, .box 1 [sB false, sI 0])]⟩ ?_)
 refine AW.seq (AW.seq (AW.r0 hC [0, 2, 5] [8] ⟨[(0, sI n), (2, .ref 8 1 0), (5, sB (!(inRange n (-9999) 9999)))], [(8, .box 1 [sB false, sI 0])]⟩ [(True)] ?_ ?_))
 ·
  refine ⟨?_, trivial⟩
  ·
   trivial
 refine AW.cd (!(inRange n (-9999) 9999)) ?_ ?_
 ·
  intro h1
  have h1q := (Go.Am.not_pos h1)
  have e2 := e0.trans (Go.Am.bif_t h1)
  refine AW.seq (AW.r1 hC [2] [8] ⟨[(2, .ref 8 1 0)], [(8, .box 1 [sB true, sI 0])]⟩ ?_)
  exact AW.ret (AW.retE (β := Val) (fun v => [⟨(.named 0), v⟩]) (fun v => []) (v := (Val.mk true 0)) e2 (by kernel_rfl) rfl rfl)
 ·
  intro h3
  have h3q := (Go.Am.not_neg h3)
  have e4 := e0.trans (Go.Am.bif_f h3)
  refine AW.kp [0, 2] [8] ⟨[(0, sI n), (2, .ref 8 1 0)], [(8, .box 1 [sB false, sI 0])]⟩ ?_
  refine AW.skip (AW.seq (AW.r1 hC [2] [8] ⟨[(2, .ref 8 1 0)], [(8, .box 1 [sB false, sI n])]⟩ ?_))
  exact AW.ret (AW.retE (β := Val) (fun v => [⟨(.named 0), v⟩]) (fun v => []) (v := (Val.mk false n)) e4 (by kernel_rfl) rfl rfl)

theorem truth_b (v : Val) : 0 ≤ truth v ∧ truth v ≤ 2 := by
 unfold truth
 cases v.Null with
 | true => simp only [cond_true]; omega
 | false =>
  rw [cond_false]
  cases (v.N == 0) <;> simp only [cond_true, cond_false] <;> omega

theorem andTruth_b (a b : Int) : 0 ≤ andTruth a b ∧ andTruth a b ≤ 2 := by
 unfold andTruth
 cases (bif (a == 0) then true else (b == 0)) <;> cases (bif (a == 1) then (b == 1) else false) <;> simp

end
end Go.Proofs.Ytodcdgolcbdkgaa
