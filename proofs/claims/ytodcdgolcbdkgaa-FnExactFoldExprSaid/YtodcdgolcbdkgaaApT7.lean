/-
  A part of the proof of this claim (ApT7): what functions of the program compute, and plain facts of that. No conditions.
-/
import Derived.Test.YtodcdgolcbdkgaaApT6
set_option linter.all false
namespace Go.Proofs.Ytodcdgolcbdkgaa
open Go Go.Am
noncomputable section

def icopiedE (list : List Xpr) : (List Xpr) := ([] : List Xpr)

def icopiedE_sp : FnSpec := mkSpec [.val (.slice (.named 1))] [.deep (.slice (.named 1))] (fun (list : List Xpr) => List.length list = 0) (fun (list : List Xpr) => [⟨(.slice (.named 1)), (icopiedE list)⟩])

theorem icopiedE_ok : FnOK Try.prog 159 icopiedE_sp := by
 have hC : CtxOK Try.prog { (mkCtx tyL []) with deep := true } := CtxOK.deepen (CtxOK.nil tyOK)
 refine FnOK.of_body Try.func159 (by kernel_rfl) rfl (C := { (mkCtx tyL []) with deep := true }) hC.ty (by kernel_rfl) ?_
 intro (list : List Xpr) hwf hpre E
 have hpre : List.length list = 0 := hpre
 have hw_list : Wf ⟨(.slice (.named 1)), (list : List Xpr)⟩ := hwf _ (List.Mem.head _)
 have hl_list : ((List.length list : Nat) : Int) ≤ 9223372036854775807 := hw_list.len
 have e0 : icopiedE list = icopiedE list := rfl
 refine AW.seq (AW.r1 hC [0] [] ⟨[(0, sD9 list)], []⟩ ?_)
 refine AW.seq (AW.seq (AW.r1 hC [0, 6] [] ⟨[(0, sD9 list), (6, sB (((List.length list : Nat) : Int) == 0))], []⟩ ?_))
 refine AW.cd (((List.length list : Nat) : Int) == 0) ?_ ?_
 ·
  intro h1
  have h1q : ((List.length list : Nat) : Int) = 0 := (Go.Am.beq_pos h1)
  refine AW.seq (AW.r1 hC [2] [] ⟨[(2, .nilsl)], []⟩ ?_)
  exact AW.ret (AW.retE (β := (List Xpr)) (fun v => [⟨(.slice (.named 1)), v⟩]) (fun v => []) (v := ([] : List Xpr)) e0 (by kernel_rfl) rfl rfl)
 ·
  intro h2
  have h2q : ((List.length list : Nat) : Int) ≠ 0 := (Go.Am.beq_neg h2)
  exfalso
  omega

theorem icopiedE_len (l : List Xpr) : (icopiedE l).length = 0 := by
 unfold icopiedE
 rfl

def icopied (e : Xpr) : Xpr := (Xpr.mk (Xpr.Kind e) (Xpr.Col e) (Xpr.V e) (icopiedE (Xpr.Kids e)))

def icopied_sp : FnSpec := mkSpec [.rd (.named 1)] [.deep (.named 1)] (fun (e : Xpr) => List.length (Xpr.Kids e) = 0) (fun (e : Xpr) => [⟨(.named 1), (icopied e)⟩])

theorem icopied_ok : FnOK Try.prog 132 icopied_sp := by
 have hC : CtxOK Try.prog { (mkCtx tyL [(159, icopiedE_sp)]) with deep := true } := CtxOK.deepen (CtxOK.cons icopiedE_ok (CtxOK.nil tyOK))
 refine FnOK.of_body Try.func132 (by kernel_rfl) rfl (C := { (mkCtx tyL [(159, icopiedE_sp)]) with deep := true }) hC.ty (by kernel_rfl) ?_
 intro (e : Xpr) hwf hpre E
 have hpre : List.length (Xpr.Kids e) = 0 := hpre
 have hw_e : Wf ⟨(.named 1), (e : Xpr)⟩ := hwf _ (List.Mem.head _)
 obtain ⟨hr_e_Kind, hr_e_Col, hl_e_Kids⟩ := Xpr.wfl hw_e
 have e0 : icopied e = icopied e := rfl
 refine AW.seq (AW.r1 hC [0, 2] [8] ⟨[(0, sR3 e), (2, .ref 8 1 0)], [(8, .box 1 [sI 0, sI 0, sB false, sI 0, .nilsl])]⟩ ?_)
 refine AW.seq (AW.r1 hC [2, 3] [8, 12] ⟨[(2, .ref 8 1 0), (3, .ref 12 1 0)], [(8, .box 1 [sI 0, sI 0, sB false, sI 0, .nilsl]), (12, .box 1 [sI (Xpr.Kind e), sI (Xpr.Col e), sB (Val.Null (Xpr.V e)), sI (Val.N (Xpr.V e)), sD9 (Xpr.Kids e)])]⟩ ?_)
 refine AW.seq (AW.regionO [0, 1] (by rfl) ?_)
 refine AWO.bslMake psl154 (id := 40) (sv := .ref 12 1 0) (by rfl) (by rfl) (by kernel_rfl) (by kernel_rfl) rfl (by kernel_rfl) ?_
 refine AWO.keep [2, 3, 10] [8, 12, 40] ⟨[(2, .ref 8 1 0), (3, .ref 12 1 0), (10, .bsl 40 1 0 1)], [(8, .box 1 [sI 0, sI 0, sB false, sI 0, .nilsl]), (12, .box 1 [sI (Xpr.Kind e), sI (Xpr.Col e), sB (Val.Null (Xpr.V e)), sI (Val.N (Xpr.V e)), sD9 (Xpr.Kids e)]), (40, .box 1 [.ref 12 1 0])]⟩ (by kernel_rfl) ?_
 refine AWO.run hC false [] [1] [] [2, 3, 4] [8, 12, 40]
  ⟨[(2, .ref 8 1 0), (3, .ref 12 1 0), (4, .bsl 40 1 0 1)], [(8, .box 1 [sI 0, sI 0, sB false, sI 0, .nilsl]), (12, .box 1 [sI (Xpr.Kind e), sI (Xpr.Col e), sB (Val.Null (Xpr.V e)), sI (Val.N (Xpr.V e)), sD9 (Xpr.Kids e)]), (40, .box 1 [.ref 12 1 0])]⟩
  [] (by rfl) (by kernel_rfl) ?_ ?_
 ·
  exact trivial
 refine AWO.nil ?_
 refine AW.seq (AW.block (AW.unroll 2 ?_))
 refine AWR.step (m := 1) ?_
 refine AW.seq (AW.seq (AW.regionO [0, 1, 2] (by rfl) ?_))
 refine AWO.run hC false [] [0] [1, 2] [2, 3, 4, 11] [8, 12, 40]
  ⟨[(2, .ref 8 1 0), (3, .ref 12 1 0), (4, .bsl 40 1 0 1), (11, .bsl 40 1 0 1)], [(8, .box 1 [sI 0, sI 0, sB false, sI 0, .nilsl]), (12, .box 1 [sI (Xpr.Kind e), sI (Xpr.Col e), sB (Val.Null (Xpr.V e)), sI (Val.N (Xpr.V e)), sD9 (Xpr.Kids e)]), (40, .box 1 [.ref 12 1 0])]⟩
  [] (by rfl) (by kernel_rfl) ?_ ?_
 ·
  exact trivial
 refine AWO.bslLen psl154 (id := 40) (ep := 1) (off := 0) (len := 1) (by rfl) (by rfl) (by kernel_rfl) (by kernel_rfl) (by kernel_rfl) ?_
 refine AWO.keep [2, 3, 4, 12] [8, 12, 40] ⟨[(2, .ref 8 1 0), (3, .ref 12 1 0), (4, .bsl 40 1 0 1), (12, sI 1)], [(8, .box 1 [sI 0, sI 0, sB false, sI 0, .nilsl]), (12, .box 1 [sI (Xpr.Kind e), sI (Xpr.Col e), sB (Val.Null (Xpr.V e)), sI (Val.N (Xpr.V e)), sD9 (Xpr.Kids e)]), (40, .box 1 [.ref 12 1 0])]⟩ (by kernel_rfl) ?_
 refine AWO.run hC false [] [2] [] [2, 3, 4, 13] [8, 12, 40]
  ⟨[(2, .ref 8 1 0), (3, .ref 12 1 0), (4, .bsl 40 1 0 1), (13, sB (decide (0 < 1)))], [(8, .box 1 [sI 0, sI 0, sB false, sI 0, .nilsl]), (12, .box 1 [sI (Xpr.Kind e), sI (Xpr.Col e), sB (Val.Null (Xpr.V e)), sI (Val.N (Xpr.V e)), sD9 (Xpr.Kids e)]), (40, .box 1 [.ref 12 1 0])]⟩
  [] (by rfl) (by kernel_rfl) ?_ ?_
 ·
  exact trivial
 refine AWO.nil ?_
 refine AW.cd (decide (0 < 1)) ?_ ?_
 ·
  intro h1
  have h1q : 0 < 1 := (of_decide_eq_true h1)
  refine AW.kp [2, 3, 4] [8, 12, 40] ⟨[(2, .ref 8 1 0), (3, .ref 12 1 0), (4, .bsl 40 1 0 1)], [(8, .box 1 [sI 0, sI 0, sB false, sI 0, .nilsl]), (12, .box 1 [sI (Xpr.Kind e), sI (Xpr.Col e), sB (Val.Null (Xpr.V e)), sI (Val.N (Xpr.V e)), sD9 (Xpr.Kids e)]), (40, .box 1 [.ref 12 1 0])]⟩ ?_
  refine AW.skip (AW.block (AW.seq (AW.regionO [0, 1, 2, 3, 4, 5, 6] (by rfl) ?_)))
  refine AWO.run hC false [] [0, 1] [2, 3, 4, 5, 6] [2, 3, 4, 14, 15] [8, 12, 40]
   ⟨[(2, .ref 8 1 0), (3, .ref 12 1 0), (4, .bsl 40 1 0 1), (14, .bsl 40 1 0 1), (15, .bsl 40 1 0 1)], [(8, .box 1 [sI 0, sI 0, sB false, sI 0, .nilsl]), (12, .box 1 [sI (Xpr.Kind e), sI (Xpr.Col e), sB (Val.Null (Xpr.V e)), sI (Val.N (Xpr.V e)), sD9 (Xpr.Kids e)]), (40, .box 1 [.ref 12 1 0])]⟩
   [] (by rfl) (by kernel_rfl) ?_ ?_
  ·
   exact trivial
  refine AWO.bslLen psl154 (id := 40) (ep := 1) (off := 0) (len := 1) (by rfl) (by rfl) (by kernel_rfl) (by kernel_rfl) (by kernel_rfl) ?_
  refine AWO.keep [2, 3, 4, 14, 16] [8, 12, 40] ⟨[(2, .ref 8 1 0), (3, .ref 12 1 0), (4, .bsl 40 1 0 1), (14, .bsl 40 1 0 1), (16, sI 1)], [(8, .box 1 [sI 0, sI 0, sB false, sI 0, .nilsl]), (12, .box 1 [sI (Xpr.Kind e), sI (Xpr.Col e), sB (Val.Null (Xpr.V e)), sI (Val.N (Xpr.V e)), sD9 (Xpr.Kids e)]), (40, .box 1 [.ref 12 1 0])]⟩ (by kernel_rfl) ?_
  refine AWO.run hC false [] [3] [4, 5, 6] [2, 3, 4, 14, 17] [8, 12, 40]
   ⟨[(2, .ref 8 1 0), (3, .ref 12 1 0), (4, .bsl 40 1 0 1), (14, .bsl 40 1 0 1), (17, sI (1 - 1))], [(8, .box 1 [sI 0, sI 0, sB false, sI 0, .nilsl]), (12, .box 1 [sI (Xpr.Kind e), sI (Xpr.Col e), sB (Val.Null (Xpr.V e)), sI (Val.N (Xpr.V e)), sD9 (Xpr.Kids e)]), (40, .box 1 [.ref 12 1 0])]⟩
   [R64 (1 - 1)] (by rfl) (by kernel_rfl) ?_ ?_
  ·
   refine ⟨?_, trivial⟩
   ·
    refine R64.of ?_
    omega
  refine AWO.bslAt psl154 (id := 40) (ep := 1) (off := 0) (len := 1) (k := 0) (by rfl) (by rfl) (by kernel_rfl) (by kernel_rfl) (by kernel_rfl) (by kernel_rfl) ?_
  refine AWO.keep [2, 3, 4, 18] [8, 12, 40] ⟨[(2, .ref 8 1 0), (3, .ref 12 1 0), (4, .bsl 40 1 0 1), (18, .ref 40 1 0)], [(8, .box 1 [sI 0, sI 0, sB false, sI 0, .nilsl]), (12, .box 1 [sI (Xpr.Kind e), sI (Xpr.Col e), sB (Val.Null (Xpr.V e)), sI (Val.N (Xpr.V e)), sD9 (Xpr.Kids e)]), (40, .box 1 [.ref 12 1 0])]⟩ (by kernel_rfl) ?_
  refine AWO.run hC false [] [5, 6] [] [2, 3, 4, 5] [8, 12, 40]
   ⟨[(2, .ref 8 1 0), (3, .ref 12 1 0), (4, .bsl 40 1 0 1), (5, .ref 12 1 0)], [(8, .box 1 [sI 0, sI 0, sB false, sI 0, .nilsl]), (12, .box 1 [sI (Xpr.Kind e), sI (Xpr.Col e), sB (Val.Null (Xpr.V e)), sI (Val.N (Xpr.V e)), sD9 (Xpr.Kids e)]), (40, .box 1 [.ref 12 1 0])]⟩
   [] (by rfl) (by kernel_rfl) ?_ ?_
  ·
   exact trivial
  refine AWO.nil ?_
  refine AW.seq (AW.regionO [0, 1, 2, 3, 4, 5] (by rfl) ?_)
  refine AWO.run hC false [] [0, 1] [2, 3, 4, 5] [2, 3, 5, 20, 21] [8, 12, 40]
   ⟨[(2, .ref 8 1 0), (3, .ref 12 1 0), (5, .ref 12 1 0), (20, .bsl 40 1 0 1), (21, .bsl 40 1 0 1)], [(8, .box 1 [sI 0, sI 0, sB false, sI 0, .nilsl]), (12, .box 1 [sI (Xpr.Kind e), sI (Xpr.Col e), sB (Val.Null (Xpr.V e)), sI (Val.N (Xpr.V e)), sD9 (Xpr.Kids e)]), (40, .box 1 [.ref 12 1 0])]⟩
   [] (by rfl) (by kernel_rfl) ?_ ?_
  ·
   exact trivial
  refine AWO.bslLen psl154 (id := 40) (ep := 1) (off := 0) (len := 1) (by rfl) (by rfl) (by kernel_rfl) (by kernel_rfl) (by kernel_rfl) ?_
  refine AWO.keep [2, 3, 5, 20, 22] [8, 12, 40] ⟨[(2, .ref 8 1 0), (3, .ref 12 1 0), (5, .ref 12 1 0), (20, .bsl 40 1 0 1), (22, sI 1)], [(8, .box 1 [sI 0, sI 0, sB false, sI 0, .nilsl]), (12, .box 1 [sI (Xpr.Kind e), sI (Xpr.Col e), sB (Val.Null (Xpr.V e)), sI (Val.N (Xpr.V e)), sD9 (Xpr.Kids e)]), (40, .box 1 [.ref 12 1 0])]⟩ (by kernel_rfl) ?_
  refine AWO.run hC false [] [3] [4, 5] [2, 3, 5, 20, 23] [8, 12, 40]
   ⟨[(2, .ref 8 1 0), (3, .ref 12 1 0), (5, .ref 12 1 0), (20, .bsl 40 1 0 1), (23, sI (1 - 1))], [(8, .box 1 [sI 0, sI 0, sB false, sI 0, .nilsl]), (12, .box 1 [sI (Xpr.Kind e), sI (Xpr.Col e), sB (Val.Null (Xpr.V e)), sI (Val.N (Xpr.V e)), sD9 (Xpr.Kids e)]), (40, .box 1 [.ref 12 1 0])]⟩
   [R64 (1 - 1)] (by rfl) (by kernel_rfl) ?_ ?_
  ·
   refine ⟨?_, trivial⟩
   ·
    refine R64.of ?_
    omega
  refine AWO.bslCut psl154 (id := 40) (ep := 1) (off := 0) (len := 1) (k := 0) (by rfl) (by rfl) (by kernel_rfl) (by kernel_rfl) (by kernel_rfl) (by kernel_rfl) ?_
  refine AWO.keep [2, 3, 5, 24] [8, 12, 40] ⟨[(2, .ref 8 1 0), (3, .ref 12 1 0), (5, .ref 12 1 0), (24, .bsl 40 1 0 0)], [(8, .box 1 [sI 0, sI 0, sB false, sI 0, .nilsl]), (12, .box 1 [sI (Xpr.Kind e), sI (Xpr.Col e), sB (Val.Null (Xpr.V e)), sI (Val.N (Xpr.V e)), sD9 (Xpr.Kids e)]), (40, .box 1 [.ref 12 1 0])]⟩ (by kernel_rfl) ?_
  refine AWO.run hC false [] [5] [] [2, 3, 4, 5] [8, 12, 40]
   ⟨[(2, .ref 8 1 0), (3, .ref 12 1 0), (4, .bsl 40 1 0 0), (5, .ref 12 1 0)], [(8, .box 1 [sI 0, sI 0, sB false, sI 0, .nilsl]), (12, .box 1 [sI (Xpr.Kind e), sI (Xpr.Col e), sB (Val.Null (Xpr.V e)), sI (Val.N (Xpr.V e)), sD9 (Xpr.Kids e)]), (40, .box 1 [.ref 12 1 0])]⟩
   [] (by rfl) (by kernel_rfl) ?_ ?_
  ·
   exact trivial
  refine AWO.nil ?_
  refine AW.seq (AW.r0 hC [2, 3, 4, 5] [8, 12, 40, 120] ⟨[(2, .ref 8 1 0), (3, .ref 12 1 0), (4, .bsl 40 1 0 0), (5, .ref 12 1 0)], [(8, .box 1 [sI 0, sI 0, sB false, sI 0, .nilsl]), (12, .box 1 [sI (Xpr.Kind e), sI (Xpr.Col e), sB (Val.Null (Xpr.V e)), sI (Val.N (Xpr.V e)), .tr 120 1]), (40, .box 1 [.ref 12 1 0]), (120, .tree 1 (.named 1) ((icopiedE (Xpr.Kids e)) : List Xpr))]⟩ [(List.length (Xpr.Kids e) = 0)] ?_ ?_)
  ·
   refine ⟨?_, trivial⟩
   ·
    omega
  refine AW.seq (AW.r1 hC [2, 3, 4, 5, 37, 38] [8, 12, 40, 120] ⟨[(2, .ref 8 1 0), (3, .ref 12 1 0), (4, .bsl 40 1 0 0), (5, .ref 12 1 0), (37, sI ((List.length (icopiedE (Xpr.Kids e)) : Nat) : Int)), (38, sI 0)], [(8, .box 1 [sI 0, sI 0, sB false, sI 0, .nilsl]), (12, .box 1 [sI (Xpr.Kind e), sI (Xpr.Col e), sB (Val.Null (Xpr.V e)), sI (Val.N (Xpr.V e)), .tr 120 1]), (40, .box 1 [.ref 12 1 0]), (120, .tree 1 (.named 1) ((icopiedE (Xpr.Kids e)) : List Xpr))]⟩ ?_)
  refine AW.block (AW.unroll 1 ?_)
  refine AWR.step (m := 0) ?_
  refine AW.seq (AW.r1 hC [2, 3, 4, 5, 37, 38, 39] [8, 12, 40, 120] ⟨[(2, .ref 8 1 0), (3, .ref 12 1 0), (4, .bsl 40 1 0 0), (5, .ref 12 1 0), (37, sI ((List.length (icopiedE (Xpr.Kids e)) : Nat) : Int)), (38, sI 0), (39, sB (decide (0 < ((List.length (icopiedE (Xpr.Kids e)) : Nat) : Int))))], [(8, .box 1 [sI 0, sI 0, sB false, sI 0, .nilsl]), (12, .box 1 [sI (Xpr.Kind e), sI (Xpr.Col e), sB (Val.Null (Xpr.V e)), sI (Val.N (Xpr.V e)), .tr 120 1]), (40, .box 1 [.ref 12 1 0]), (120, .tree 1 (.named 1) ((icopiedE (Xpr.Kids e)) : List Xpr))]⟩ ?_)
  refine AW.seq (AW.cd (decide (0 < ((List.length (icopiedE (Xpr.Kids e)) : Nat) : Int))) ?_ ?_)
  ·
   intro h2
   have h2q : 0 < ((List.length (icopiedE (Xpr.Kids e)) : Nat) : Int) := (of_decide_eq_true h2)
   exfalso
   have := icopiedE_len (Xpr.Kids e)
   omega
  ·
   intro h3
   have h3q : ¬ (0 < ((List.length (icopiedE (Xpr.Kids e)) : Nat) : Int)) := (of_decide_eq_false h3)
   refine AW.kp [2, 3, 4] [8, 12, 40, 120] ⟨[(2, .ref 8 1 0), (3, .ref 12 1 0), (4, .bsl 40 1 0 0)], [(8, .box 1 [sI 0, sI 0, sB false, sI 0, .nilsl]), (12, .box 1 [sI (Xpr.Kind e), sI (Xpr.Col e), sB (Val.Null (Xpr.V e)), sI (Val.N (Xpr.V e)), .tr 120 1]), (40, .box 1 [.ref 12 1 0]), (120, .tree 1 (.named 1) ((icopiedE (Xpr.Kids e)) : List Xpr))]⟩ ?_
   refine AW.exit ?_
   refine AWR.step (m := 0) ?_
   refine AW.seq (AW.seq (AW.regionO [0, 1, 2] (by rfl) ?_))
   refine AWO.run hC false [] [0] [1, 2] [2, 3, 4, 11] [8, 12, 40, 120]
    ⟨[(2, .ref 8 1 0), (3, .ref 12 1 0), (4, .bsl 40 1 0 0), (11, .bsl 40 1 0 0)], [(8, .box 1 [sI 0, sI 0, sB false, sI 0, .nilsl]), (12, .box 1 [sI (Xpr.Kind e), sI (Xpr.Col e), sB (Val.Null (Xpr.V e)), sI (Val.N (Xpr.V e)), .tr 120 1]), (40, .box 1 [.ref 12 1 0]), (120, .tree 1 (.named 1) ((icopiedE (Xpr.Kids e)) : List Xpr))]⟩
    [] (by rfl) (by kernel_rfl) ?_ ?_
   ·
    exact trivial
   refine AWO.bslLen psl154 (id := 40) (ep := 1) (off := 0) (len := 0) (by rfl) (by rfl) (by kernel_rfl) (by kernel_rfl) (by kernel_rfl) ?_
   refine AWO.keep [2, 3, 4, 12] [8, 12, 40, 120] ⟨[(2, .ref 8 1 0), (3, .ref 12 1 0), (4, .bsl 40 1 0 0), (12, sI 0)], [(8, .box 1 [sI 0, sI 0, sB false, sI 0, .nilsl]), (12, .box 1 [sI (Xpr.Kind e), sI (Xpr.Col e), sB (Val.Null (Xpr.V e)), sI (Val.N (Xpr.V e)), .tr 120 1]), (40, .box 1 [.ref 12 1 0]), (120, .tree 1 (.named 1) ((icopiedE (Xpr.Kids e)) : List Xpr))]⟩ (by kernel_rfl) ?_
   refine AWO.run hC false [] [2] [] [2, 3, 4, 13] [8, 12, 40, 120]
    ⟨[(2, .ref 8 1 0), (3, .ref 12 1 0), (4, .bsl 40 1 0 0), (13, sB (decide (0 < 0)))], [(8, .box 1 [sI 0, sI 0, sB false, sI 0, .nilsl]), (12, .box 1 [sI (Xpr.Kind e), sI (Xpr.Col e), sB (Val.Null (Xpr.V e)), sI (Val.N (Xpr.V e)), .tr 120 1]), (40, .box 1 [.ref 12 1 0]), (120, .tree 1 (.named 1) ((icopiedE (Xpr.Kids e)) : List Xpr))]⟩
    [] (by rfl) (by kernel_rfl) ?_ ?_
   ·
    exact trivial
   refine AWO.nil ?_
   refine AW.cd (decide (0 < 0)) ?_ ?_
   ·
    intro h4
    have h4q : 0 < 0 := (of_decide_eq_true h4)
    exfalso
    omega
   ·
    intro h5
    have h5q : ¬ (0 < 0) := (of_decide_eq_false h5)
    refine AW.kp [2, 3] [8, 12, 120] ⟨[(2, .ref 8 1 0), (3, .ref 12 1 0)], [(8, .box 1 [sI 0, sI 0, sB false, sI 0, .nilsl]), (12, .box 1 [sI (Xpr.Kind e), sI (Xpr.Col e), sB (Val.Null (Xpr.V e)), sI (Val.N (Xpr.V e)), .tr 120 1]), (120, .tree 1 (.named 1) ((icopiedE (Xpr.Kids e)) : List Xpr))]⟩ ?_
    refine AW.exit ?_
    refine AW.seq (AW.r1 hC [2] [8, 120] ⟨[(2, .ref 8 1 0)], [(8, .box 1 [sI (Xpr.Kind e), sI (Xpr.Col e), sB (Val.Null (Xpr.V e)), sI (Val.N (Xpr.V e)), .tr 120 1]), (120, .tree 1 (.named 1) ((icopiedE (Xpr.Kids e)) : List Xpr))]⟩ ?_)
    exact AW.ret (AW.retE (β := Xpr) (fun v => [⟨(.named 1), v⟩]) (fun v => []) (v := (Xpr.mk (Xpr.Kind e) (Xpr.Col e) (Xpr.V e) (icopiedE (Xpr.Kids e)))) e0 (by kernel_rfl) rfl rfl)
 ·
  intro h6
  have h6q : ¬ (0 < 1) := (of_decide_eq_false h6)
  exfalso
  omega

def iconstantO_sp : FnSpec := mkSpec [.val (.named 0)] [.deep (.named 1)] (fun (v : Val) => True) (fun (v : Val) => [⟨(.named 1), (iconstant v)⟩])

theorem iconstantO_ok : FnOK Try.prog 133 iconstantO_sp := by
 have hC : CtxOK Try.prog { (mkCtx tyL []) with deep := true } := CtxOK.deepen (CtxOK.nil tyOK)
 refine FnOK.of_body Try.func133 (by kernel_rfl) rfl (C := { (mkCtx tyL []) with deep := true }) hC.ty (by kernel_rfl) ?_
 intro (v : Val) hwf hpre E
 have hpre : True := hpre
 have hw_v : Wf ⟨(.named 0), (v : Val)⟩ := hwf _ (List.Mem.head _)
 have hr_v_N := Val.wfl hw_v
 have e0 : iconstant v = iconstant v := rfl
 refine AW.seq (AW.r1 hC [1, 2] [4, 8] ⟨[(1, .ref 4 1 0), (2, .ref 8 1 0)], [(4, .box 1 [sB (Val.Null v), sI (Val.N v)]), (8, .box 1 [sI 0, sI 0, sB false, sI 0, .nilsl])]⟩ ?_)
 refine AW.seq (AW.r1 hC [2] [8] ⟨[(2, .ref 8 1 0)], [(8, .box 1 [sI 2, sI 0, sB (Val.Null v), sI (Val.N v), .nilsl])]⟩ ?_)
 exact AW.ret (AW.retE (β := Xpr) (fun v => [⟨(.named 1), v⟩]) (fun v => []) (v := (Xpr.mk 2 0 v ([] : List Xpr))) e0 (by kernel_rfl) rfl rfl)

end
end Go.Proofs.Ytodcdgolcbdkgaa
