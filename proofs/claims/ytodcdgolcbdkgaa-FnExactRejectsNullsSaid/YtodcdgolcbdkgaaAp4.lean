/-
  A part of the proof of this claim (Ap4): what functions of the program compute, and plain facts of that. No conditions.
-/
import Derived.Test.YtodcdgolcbdkgaaAp3
set_option linter.all false
namespace Go.Proofs.Ytodcdgolcbdkgaa
open Go Go.Am
noncomputable section

def inumber (n : Int) : Val := (Val.mk false n)

def inumber_sp : FnSpec := mkSpec [.val (.int .i64)] [.val (.named 0)] (fun (n : Int) => True) (fun (n : Int) => [⟨(.named 0), (inumber n)⟩])

theorem inumber_ok : FnOK Try.prog 169 inumber_sp := by
  have hC : CtxOK Try.prog (mkCtx tyL []) := CtxOK.nil tyOK
  refine FnOK.of_body Try.func169 (by kernel_rfl) rfl (C := (mkCtx tyL [])) hC.ty (by kernel_rfl) ?_
  intro (n : Int) hwf hpre E
  have hpre : True := hpre
  have hw_n : Wf ⟨(.int .i64), (n : Int)⟩ := hwf _ (List.Mem.head _)
  have hr_n : -9223372036854775808 ≤ n ∧ n ≤ 9223372036854775807 := hw_n.int_inv
  have e0 : inumber n = inumber n := rfl
  refine AW.seq ?_
  refine AW.reg hC  false [] [0, 2] [8]
    ⟨[(0, .int .i64 n), (2, .ref 8 1 0)], [(8, .box 1 [.bool false, .int .i64 0])]⟩
    [] (by kernel_rfl) ?_ ?_
  · exact trivial
  refine AW.seq ?_
  refine AW.reg hC  false [] [2] [8]
    ⟨[(2, .ref 8 1 0)], [(8, .box 1 [.bool false, .int .i64 n])]⟩
    [] (by kernel_rfl) ?_ ?_
  · exact trivial
  refine AW.ret ?_
  exact AW.retE (β := Val) (fun v => [⟨(.named 0), v⟩]) (fun v => []) (v := (Val.mk false n)) e0 (by kernel_rfl) rfl rfl

def inull : Val := (Val.mk true 0)

def inull_sp : FnSpec := mkSpec [] [.val (.named 0)] (True) ([⟨(.named 0), inull⟩])

theorem inull_ok : FnOK Try.prog 162 inull_sp := by
  have hC : CtxOK Try.prog (mkCtx tyL []) := CtxOK.nil tyOK
  refine FnOK.of_body Try.func162 (by kernel_rfl) rfl (C := (mkCtx tyL [])) hC.ty (by kernel_rfl) ?_
  intro  hwf hpre E
  have hpre : True := hpre
  have e0 : inull = inull := rfl
  refine AW.seq ?_
  refine AW.reg hC  false [] [0] [0]
    ⟨[(0, .ref 0 1 0)], [(0, .box 1 [.bool false, .int .i64 0])]⟩
    [] (by kernel_rfl) ?_ ?_
  · exact trivial
  refine AW.seq ?_
  refine AW.reg hC  false [] [0] [0]
    ⟨[(0, .ref 0 1 0)], [(0, .box 1 [.bool true, .int .i64 0])]⟩
    [] (by kernel_rfl) ?_ ?_
  · exact trivial
  refine AW.ret ?_
  exact AW.retE (β := Val) (fun v => [⟨(.named 0), v⟩]) (fun v => []) (v := (Val.mk true 0)) e0 (by kernel_rfl) rfl rfl

def numberOrNull (n : Int) : Val := (bif (valValid (inumber n)) then (inumber n) else inull)

def numberOrNull_sp : FnSpec := mkSpec [.val (.int .i64)] [.val (.named 0)] (fun (n : Int) => True) (fun (n : Int) => [⟨(.named 0), (numberOrNull n)⟩])

theorem numberOrNull_ok : FnOK Try.prog 170 numberOrNull_sp := by
  have hC : CtxOK Try.prog (mkCtx tyL [(158, valValid_sp), (162, inull_sp), (169, inumber_sp)]) := CtxOK.cons valValid_ok (CtxOK.cons inull_ok (CtxOK.cons inumber_ok (CtxOK.nil tyOK)))
  refine FnOK.of_body Try.func170 (by kernel_rfl) rfl (C := (mkCtx tyL [(158, valValid_sp), (162, inull_sp), (169, inumber_sp)])) hC.ty (by kernel_rfl) ?_
  intro (n : Int) hwf hpre E
  have hpre : True := hpre
  have hw_n : Wf ⟨(.int .i64), (n : Int)⟩ := hwf _ (List.Mem.head _)
  have hr_n : -9223372036854775808 ≤ n ∧ n ≤ 9223372036854775807 := hw_n.int_inv
  have e0 : numberOrNull n = numberOrNull n := rfl
  refine AW.seq ?_
  refine AW.reg hC  false [] [0, 2] [8]
    ⟨[(0, .int .i64 n), (2, .ref 8 1 0)], [(8, .box 1 [.bool false, .int .i64 0])]⟩
    [] (by kernel_rfl) ?_ ?_
  · exact trivial
  refine AW.seq ?_
  refine AW.seq ?_
  refine AW.reg hC  false [] [2, 3] [8, 12]
    ⟨[(2, .ref 8 1 0), (3, .ref 12 1 0)], [(8, .box 1 [.bool false, .int .i64 0]), (12, .box 1 [.bool (Val.Null (inumber n)), .int .i64 (Val.N (inumber n))])]⟩
    [(True)] (by kernel_rfl) ?_ ?_
  · refine ⟨?_, trivial⟩
    · trivial
  refine AW.seq ?_
  refine AW.reg hC  false [] [2, 3, 7] [8, 12]
    ⟨[(2, .ref 8 1 0), (3, .ref 12 1 0), (7, .bool (valValid (inumber n)))], [(8, .box 1 [.bool false, .int .i64 0]), (12, .box 1 [.bool (Val.Null (inumber n)), .int .i64 (Val.N (inumber n))])]⟩
    [(True)] (by kernel_rfl) ?_ ?_
  · refine ⟨?_, trivial⟩
    · trivial
  refine AW.cond (b := (valValid (inumber n))) (by kernel_rfl) ?_ ?_
  · intro h1
    have h1q : (valValid (inumber n)) = true := h1
    have e2 := e0.trans (Go.Am.bif_t h1)
    refine AW.seq ?_
    refine AW.reg hC  false [] [2] [8]
      ⟨[(2, .ref 8 1 0)], [(8, .box 1 [.bool (Val.Null (inumber n)), .int .i64 (Val.N (inumber n))])]⟩
      [] (by kernel_rfl) ?_ ?_
    · exact trivial
    refine AW.ret ?_
    exact AW.retE (β := Val) (fun v => [⟨(.named 0), v⟩]) (fun v => []) (v := (inumber n)) e2 (by kernel_rfl) rfl rfl
  · intro h3
    have h3q : (valValid (inumber n)) = false := h3
    have e4 := e0.trans (Go.Am.bif_f h3)
    refine AW.keep [2] [8] ⟨[(2, .ref 8 1 0)], [(8, .box 1 [.bool false, .int .i64 0])]⟩ (by kernel_rfl) ?_
    refine AW.skip ?_
    refine AW.seq ?_
    refine AW.reg hC  false [] [2] [8]
      ⟨[(2, .ref 8 1 0)], [(8, .box 1 [.bool (Val.Null inull), .int .i64 (Val.N inull)])]⟩
      [(True)] (by kernel_rfl) ?_ ?_
    · refine ⟨?_, trivial⟩
      · trivial
    refine AW.ret ?_
    exact AW.retE (β := Val) (fun v => [⟨(.named 0), v⟩]) (fun v => []) (v := inull) e4 (by kernel_rfl) rfl rfl

def flag (holds : Bool) : Val := (bif holds then (inumber 1) else (inumber 0))

def flag_sp : FnSpec := mkSpec [.val .bool] [.val (.named 0)] (fun (holds : Bool) => True) (fun (holds : Bool) => [⟨(.named 0), (flag holds)⟩])

theorem flag_ok : FnOK Try.prog 160 flag_sp := by
  have hC : CtxOK Try.prog (mkCtx tyL [(169, inumber_sp)]) := CtxOK.cons inumber_ok (CtxOK.nil tyOK)
  refine FnOK.of_body Try.func160 (by kernel_rfl) rfl (C := (mkCtx tyL [(169, inumber_sp)])) hC.ty (by kernel_rfl) ?_
  intro (holds : Bool) hwf hpre E
  have hpre : True := hpre
  have hw_holds : Wf ⟨.bool, (holds : Bool)⟩ := hwf _ (List.Mem.head _)
  have e0 : flag holds = flag holds := rfl
  refine AW.seq ?_
  refine AW.reg hC  false [] [0, 2] [8]
    ⟨[(0, .bool holds), (2, .ref 8 1 0)], [(8, .box 1 [.bool false, .int .i64 0])]⟩
    [] (by kernel_rfl) ?_ ?_
  · exact trivial
  refine AW.seq ?_
  refine AW.seq ?_
  refine AW.reg hC  false [] [2, 3] [8]
    ⟨[(2, .ref 8 1 0), (3, .bool holds)], [(8, .box 1 [.bool false, .int .i64 0])]⟩
    [] (by kernel_rfl) ?_ ?_
  · exact trivial
  refine AW.cond (b := holds) (by kernel_rfl) ?_ ?_
  · intro h1
    have h1q : holds = true := h1
    have e2 := e0.trans (Go.Am.bif_t h1)
    refine AW.seq ?_
    refine AW.reg hC  false [] [2] [8]
      ⟨[(2, .ref 8 1 0)], [(8, .box 1 [.bool (Val.Null (inumber 1)), .int .i64 (Val.N (inumber 1))])]⟩
      [(True)] (by kernel_rfl) ?_ ?_
    · refine ⟨?_, trivial⟩
      · trivial
    refine AW.ret ?_
    exact AW.retE (β := Val) (fun v => [⟨(.named 0), v⟩]) (fun v => []) (v := (inumber 1)) e2 (by kernel_rfl) rfl rfl
  · intro h3
    have h3q : holds = false := h3
    have e4 := e0.trans (Go.Am.bif_f h3)
    refine AW.keep [2] [8] ⟨[(2, .ref 8 1 0)], [(8, .box 1 [.bool false, .int .i64 0])]⟩ (by kernel_rfl) ?_
    refine AW.skip ?_
    refine AW.seq ?_
    refine AW.reg hC  false [] [2] [8]
      ⟨[(2, .ref 8 1 0)], [(8, .box 1 [.bool (Val.Null (inumber 0)), .int .i64 (Val.N (inumber 0))])]⟩
      [(True)] (by kernel_rfl) ?_ ?_
    · refine ⟨?_, trivial⟩
      · trivial
    refine AW.ret ?_
    exact AW.retE (β := Val) (fun v => [⟨(.named 0), v⟩]) (fun v => []) (v := (inumber 0)) e4 (by kernel_rfl) rfl rfl

def truthOf (v : Val) : Int := (bif (Val.Null v) then 1 else (bif ((Val.N v) == 0) then 0 else 2))

def truthOf_sp : FnSpec := mkSpec [.val (.named 0)] [.val (.int .i64)] (fun (v : Val) => True) (fun (v : Val) => [⟨(.int .i64), (truthOf v)⟩])

theorem truthOf_ok : FnOK Try.prog 135 truthOf_sp := by
  have hC : CtxOK Try.prog (mkCtx tyL []) := CtxOK.nil tyOK
  refine FnOK.of_body Try.func135 (by kernel_rfl) rfl (C := (mkCtx tyL [])) hC.ty (by kernel_rfl) ?_
  intro (v : Val) hwf hpre E
  have hpre : True := hpre
  have hw_v : Wf ⟨(.named 0), (v : Val)⟩ := hwf _ (List.Mem.head _)
  have hr_v_N : -9223372036854775808 ≤ Val.N v ∧ Val.N v ≤ 9223372036854775807 := (hw_v.field (tv := ⟨(.int .i64), Val.N v⟩) (List.Mem.tail _ (List.Mem.head _))).int_inv
  have e0 : truthOf v = truthOf v := rfl
  refine AW.seq ?_
  refine AW.reg hC  false [] [1] [4]
    ⟨[(1, .ref 4 1 0)], [(4, .box 1 [.bool (Val.Null v), .int .i64 (Val.N v)])]⟩
    [] (by kernel_rfl) ?_ ?_
  · exact trivial
  refine AW.seq ?_
  refine AW.block ?_
  refine AW.seq ?_
  refine AW.reg hC  false [] [1, 3] [4]
    ⟨[(1, .ref 4 1 0), (3, .bool (Val.Null v))], [(4, .box 1 [.bool (Val.Null v), .int .i64 (Val.N v)])]⟩
    [] (by kernel_rfl) ?_ ?_
  · exact trivial
  refine AW.cond (b := (Val.Null v)) (by kernel_rfl) ?_ ?_
  · intro h1
    have h1q : (Val.Null v) = true := h1
    have e2 := e0.trans (Go.Am.bif_t h1)
    refine AW.seq ?_
    refine AW.reg hC  false [] [2] []
      ⟨[(2, .int .i64 1)], []⟩
      [] (by kernel_rfl) ?_ ?_
    · exact trivial
    refine AW.ret ?_
    exact AW.retE (β := Int) (fun v => [⟨(.int .i64), v⟩]) (fun v => []) (v := 1) e2 (by kernel_rfl) rfl rfl
  · intro h3
    have h3q : (Val.Null v) = false := h3
    have e4 := e0.trans (Go.Am.bif_f h3)
    refine AW.seq ?_
    refine AW.reg hC  false [] [6] []
      ⟨[(6, .bool ((Val.N v) == 0))], []⟩
      [] (by kernel_rfl) ?_ ?_
    · exact trivial
    refine AW.cond (b := ((Val.N v) == 0)) (by kernel_rfl) ?_ ?_
    · intro h5
      have h5q : (Val.N v) = 0 := (Go.Am.beq_pos h5)
      have e6 := e4.trans (Go.Am.bif_t h5)
      refine AW.seq ?_
      refine AW.reg hC  false [] [2] []
        ⟨[(2, .int .i64 0)], []⟩
        [] (by kernel_rfl) ?_ ?_
      · exact trivial
      refine AW.ret ?_
      exact AW.retE (β := Int) (fun v => [⟨(.int .i64), v⟩]) (fun v => []) (v := 0) e6 (by kernel_rfl) rfl rfl
    · intro h7
      have h7q : (Val.N v) ≠ 0 := (Go.Am.beq_neg h7)
      have e8 := e4.trans (Go.Am.bif_f h7)
      refine AW.keep [] [] ⟨[], []⟩ (by kernel_rfl) ?_
      refine AW.skip ?_
      refine AW.seq ?_
      refine AW.reg hC  false [] [2] []
        ⟨[(2, .int .i64 2)], []⟩
        [] (by kernel_rfl) ?_ ?_
      · exact trivial
      refine AW.ret ?_
      exact AW.retE (β := Int) (fun v => [⟨(.int .i64), v⟩]) (fun v => []) (v := 2) e8 (by kernel_rfl) rfl rfl

def truthValue (t : Int) : Val := (bif (t == 1) then inull else (flag (t == 2)))

def truthValue_sp : FnSpec := mkSpec [.val (.int .i64)] [.val (.named 0)] (fun (t : Int) => True) (fun (t : Int) => [⟨(.named 0), (truthValue t)⟩])

theorem truthValue_ok : FnOK Try.prog 136 truthValue_sp := by
  have hC : CtxOK Try.prog (mkCtx tyL [(160, flag_sp), (162, inull_sp)]) := CtxOK.cons flag_ok (CtxOK.cons inull_ok (CtxOK.nil tyOK))
  refine FnOK.of_body Try.func136 (by kernel_rfl) rfl (C := (mkCtx tyL [(160, flag_sp), (162, inull_sp)])) hC.ty (by kernel_rfl) ?_
  intro (t : Int) hwf hpre E
  have hpre : True := hpre
  have hw_t : Wf ⟨(.int .i64), (t : Int)⟩ := hwf _ (List.Mem.head _)
  have hr_t : -9223372036854775808 ≤ t ∧ t ≤ 9223372036854775807 := hw_t.int_inv
  have e0 : truthValue t = truthValue t := rfl
  refine AW.seq ?_
  refine AW.reg hC  false [] [0, 2] [8]
    ⟨[(0, .int .i64 t), (2, .ref 8 1 0)], [(8, .box 1 [.bool false, .int .i64 0])]⟩
    [] (by kernel_rfl) ?_ ?_
  · exact trivial
  refine AW.seq ?_
  refine AW.seq ?_
  refine AW.reg hC  false [] [0, 2, 4] [8]
    ⟨[(0, .int .i64 t), (2, .ref 8 1 0), (4, .bool (t == 1))], [(8, .box 1 [.bool false, .int .i64 0])]⟩
    [] (by kernel_rfl) ?_ ?_
  · exact trivial
  refine AW.cond (b := (t == 1)) (by kernel_rfl) ?_ ?_
  · intro h1
    have h1q : t = 1 := (Go.Am.beq_pos h1)
    have e2 := e0.trans (Go.Am.bif_t h1)
    refine AW.seq ?_
    refine AW.reg hC  false [] [2] [8]
      ⟨[(2, .ref 8 1 0)], [(8, .box 1 [.bool (Val.Null inull), .int .i64 (Val.N inull)])]⟩
      [(True)] (by kernel_rfl) ?_ ?_
    · refine ⟨?_, trivial⟩
      · trivial
    refine AW.ret ?_
    exact AW.retE (β := Val) (fun v => [⟨(.named 0), v⟩]) (fun v => []) (v := inull) e2 (by kernel_rfl) rfl rfl
  · intro h3
    have h3q : t ≠ 1 := (Go.Am.beq_neg h3)
    have e4 := e0.trans (Go.Am.bif_f h3)
    refine AW.keep [0, 2] [8] ⟨[(0, .int .i64 t), (2, .ref 8 1 0)], [(8, .box 1 [.bool false, .int .i64 0])]⟩ (by kernel_rfl) ?_
    refine AW.skip ?_
    refine AW.seq ?_
    refine AW.reg hC  false [] [2] [8]
      ⟨[(2, .ref 8 1 0)], [(8, .box 1 [.bool (Val.Null (flag (t == 2))), .int .i64 (Val.N (flag (t == 2)))])]⟩
      [(True)] (by kernel_rfl) ?_ ?_
    · refine ⟨?_, trivial⟩
      · trivial
    refine AW.ret ?_
    exact AW.retE (β := Val) (fun v => [⟨(.named 0), v⟩]) (fun v => []) (v := (flag (t == 2))) e4 (by kernel_rfl) rfl rfl

def istateOf (v : Val) : Int := (bif (Val.Null v) then 4 else (bif ((Val.N v) == 0) then 1 else 2))

def istateOf_sp : FnSpec := mkSpec [.val (.named 0)] [.val (.int .i64)] (fun (v : Val) => True) (fun (v : Val) => [⟨(.int .i64), (istateOf v)⟩])

theorem istateOf_ok : FnOK Try.prog 139 istateOf_sp := by
  have hC : CtxOK Try.prog (mkCtx tyL []) := CtxOK.nil tyOK
  refine FnOK.of_body Try.func139 (by kernel_rfl) rfl (C := (mkCtx tyL [])) hC.ty (by kernel_rfl) ?_
  intro (v : Val) hwf hpre E
  have hpre : True := hpre
  have hw_v : Wf ⟨(.named 0), (v : Val)⟩ := hwf _ (List.Mem.head _)
  have hr_v_N : -9223372036854775808 ≤ Val.N v ∧ Val.N v ≤ 9223372036854775807 := (hw_v.field (tv := ⟨(.int .i64), Val.N v⟩) (List.Mem.tail _ (List.Mem.head _))).int_inv
  have e0 : istateOf v = istateOf v := rfl
  refine AW.seq ?_
  refine AW.reg hC  false [] [1] [4]
    ⟨[(1, .ref 4 1 0)], [(4, .box 1 [.bool (Val.Null v), .int .i64 (Val.N v)])]⟩
    [] (by kernel_rfl) ?_ ?_
  · exact trivial
  refine AW.seq ?_
  refine AW.block ?_
  refine AW.seq ?_
  refine AW.reg hC  false [] [1, 3] [4]
    ⟨[(1, .ref 4 1 0), (3, .bool (Val.Null v))], [(4, .box 1 [.bool (Val.Null v), .int .i64 (Val.N v)])]⟩
    [] (by kernel_rfl) ?_ ?_
  · exact trivial
  refine AW.cond (b := (Val.Null v)) (by kernel_rfl) ?_ ?_
  · intro h1
    have h1q : (Val.Null v) = true := h1
    have e2 := e0.trans (Go.Am.bif_t h1)
    refine AW.seq ?_
    refine AW.reg hC  false [] [2] []
      ⟨[(2, .int .i64 4)], []⟩
      [] (by kernel_rfl) ?_ ?_
    · exact trivial
    refine AW.ret ?_
    exact AW.retE (β := Int) (fun v => [⟨(.int .i64), v⟩]) (fun v => []) (v := 4) e2 (by kernel_rfl) rfl rfl
  · intro h3
    have h3q : (Val.Null v) = false := h3
    have e4 := e0.trans (Go.Am.bif_f h3)
    refine AW.seq ?_
    refine AW.reg hC  false [] [6] []
      ⟨[(6, .bool ((Val.N v) == 0))], []⟩
      [] (by kernel_rfl) ?_ ?_
    · exact trivial
    refine AW.cond (b := ((Val.N v) == 0)) (by kernel_rfl) ?_ ?_
    · intro h5
      have h5q : (Val.N v) = 0 := (Go.Am.beq_pos h5)
      have e6 := e4.trans (Go.Am.bif_t h5)
      refine AW.seq ?_
      refine AW.reg hC  false [] [2] []
        ⟨[(2, .int .i64 1)], []⟩
        [] (by kernel_rfl) ?_ ?_
      · exact trivial
      refine AW.ret ?_
      exact AW.retE (β := Int) (fun v => [⟨(.int .i64), v⟩]) (fun v => []) (v := 1) e6 (by kernel_rfl) rfl rfl
    · intro h7
      have h7q : (Val.N v) ≠ 0 := (Go.Am.beq_neg h7)
      have e8 := e4.trans (Go.Am.bif_f h7)
      refine AW.keep [] [] ⟨[], []⟩ (by kernel_rfl) ?_
      refine AW.skip ?_
      refine AW.seq ?_
      refine AW.reg hC  false [] [2] []
        ⟨[(2, .int .i64 2)], []⟩
        [] (by kernel_rfl) ?_ ?_
      · exact trivial
      refine AW.ret ?_
      exact AW.retE (β := Int) (fun v => [⟨(.int .i64), v⟩]) (fun v => []) (v := 2) e8 (by kernel_rfl) rfl rfl

def stateOf (v : Val) : Int := (bif (Val.Null v) then 4 else (bif ((Val.N v) == 0) then 1 else 2))

def stateOf_sp : FnSpec := mkSpec [.val (.named 0)] [.val (.int .i64)] (fun (v : Val) => True) (fun (v : Val) => [⟨(.int .i64), (stateOf v)⟩])

theorem stateOf_ok : FnOK Try.prog 137 stateOf_sp := by
  have hC : CtxOK Try.prog (mkCtx tyL []) := CtxOK.nil tyOK
  refine FnOK.of_body Try.func137 (by kernel_rfl) rfl (C := (mkCtx tyL [])) hC.ty (by kernel_rfl) ?_
  intro (v : Val) hwf hpre E
  have hpre : True := hpre
  have hw_v : Wf ⟨(.named 0), (v : Val)⟩ := hwf _ (List.Mem.head _)
  have hr_v_N : -9223372036854775808 ≤ Val.N v ∧ Val.N v ≤ 9223372036854775807 := (hw_v.field (tv := ⟨(.int .i64), Val.N v⟩) (List.Mem.tail _ (List.Mem.head _))).int_inv
  have e0 : stateOf v = stateOf v := rfl
  refine AW.seq ?_
  refine AW.reg hC  false [] [1] [4]
    ⟨[(1, .ref 4 1 0)], [(4, .box 1 [.bool (Val.Null v), .int .i64 (Val.N v)])]⟩
    [] (by kernel_rfl) ?_ ?_
  · exact trivial
  refine AW.seq ?_
  refine AW.block ?_
  refine AW.seq ?_
  refine AW.reg hC  false [] [1, 3] [4]
    ⟨[(1, .ref 4 1 0), (3, .bool (Val.Null v))], [(4, .box 1 [.bool (Val.Null v), .int .i64 (Val.N v)])]⟩
    [] (by kernel_rfl) ?_ ?_
  · exact trivial
  refine AW.cond (b := (Val.Null v)) (by kernel_rfl) ?_ ?_
  · intro h1
    have h1q : (Val.Null v) = true := h1
    have e2 := e0.trans (Go.Am.bif_t h1)
    refine AW.seq ?_
    refine AW.reg hC  false [] [2] []
      ⟨[(2, .int .i64 4)], []⟩
      [] (by kernel_rfl) ?_ ?_
    · exact trivial
    refine AW.ret ?_
    exact AW.retE (β := Int) (fun v => [⟨(.int .i64), v⟩]) (fun v => []) (v := 4) e2 (by kernel_rfl) rfl rfl
  · intro h3
    have h3q : (Val.Null v) = false := h3
    have e4 := e0.trans (Go.Am.bif_f h3)
    refine AW.seq ?_
    refine AW.reg hC  false [] [6] []
      ⟨[(6, .bool ((Val.N v) == 0))], []⟩
      [] (by kernel_rfl) ?_ ?_
    · exact trivial
    refine AW.cond (b := ((Val.N v) == 0)) (by kernel_rfl) ?_ ?_
    · intro h5
      have h5q : (Val.N v) = 0 := (Go.Am.beq_pos h5)
      have e6 := e4.trans (Go.Am.bif_t h5)
      refine AW.seq ?_
      refine AW.reg hC  false [] [2] []
        ⟨[(2, .int .i64 1)], []⟩
        [] (by kernel_rfl) ?_ ?_
      · exact trivial
      refine AW.ret ?_
      exact AW.retE (β := Int) (fun v => [⟨(.int .i64), v⟩]) (fun v => []) (v := 1) e6 (by kernel_rfl) rfl rfl
    · intro h7
      have h7q : (Val.N v) ≠ 0 := (Go.Am.beq_neg h7)
      have e8 := e4.trans (Go.Am.bif_f h7)
      refine AW.keep [] [] ⟨[], []⟩ (by kernel_rfl) ?_
      refine AW.skip ?_
      refine AW.seq ?_
      refine AW.reg hC  false [] [2] []
        ⟨[(2, .int .i64 2)], []⟩
        [] (by kernel_rfl) ?_ ?_
      · exact trivial
      refine AW.ret ?_
      exact AW.retE (β := Int) (fun v => [⟨(.int .i64), v⟩]) (fun v => []) (v := 2) e8 (by kernel_rfl) rfl rfl

def truth (v : Val) : Int := (bif (Val.Null v) then 2 else (bif ((Val.N v) == 0) then 0 else 1))

def truth_sp : FnSpec := mkSpec [.val (.named 0)] [.val (.int .i64)] (fun (v : Val) => True) (fun (v : Val) => [⟨(.int .i64), (truth v)⟩])

theorem truth_ok : FnOK Try.prog 149 truth_sp := by
  have hC : CtxOK Try.prog (mkCtx tyL []) := CtxOK.nil tyOK
  refine FnOK.of_body Try.func149 (by kernel_rfl) rfl (C := (mkCtx tyL [])) hC.ty (by kernel_rfl) ?_
  intro (v : Val) hwf hpre E
  have hpre : True := hpre
  have hw_v : Wf ⟨(.named 0), (v : Val)⟩ := hwf _ (List.Mem.head _)
  have hr_v_N : -9223372036854775808 ≤ Val.N v ∧ Val.N v ≤ 9223372036854775807 := (hw_v.field (tv := ⟨(.int .i64), Val.N v⟩) (List.Mem.tail _ (List.Mem.head _))).int_inv
  have e0 : truth v = truth v := rfl
  refine AW.seq ?_
  refine AW.reg hC  false [] [1] [4]
    ⟨[(1, .ref 4 1 0)], [(4, .box 1 [.bool (Val.Null v), .int .i64 (Val.N v)])]⟩
    [] (by kernel_rfl) ?_ ?_
  · exact trivial
  refine AW.seq ?_
  refine AW.block ?_
  refine AW.seq ?_
  refine AW.reg hC  false [] [1, 3] [4]
    ⟨[(1, .ref 4 1 0), (3, .bool (Val.Null v))], [(4, .box 1 [.bool (Val.Null v), .int .i64 (Val.N v)])]⟩
    [] (by kernel_rfl) ?_ ?_
  · exact trivial
  refine AW.cond (b := (Val.Null v)) (by kernel_rfl) ?_ ?_
  · intro h1
    have h1q : (Val.Null v) = true := h1
    have e2 := e0.trans (Go.Am.bif_t h1)
    refine AW.seq ?_
    refine AW.reg hC  false [] [2] []
      ⟨[(2, .int .i64 2)], []⟩
      [] (by kernel_rfl) ?_ ?_
    · exact trivial
    refine AW.ret ?_
    exact AW.retE (β := Int) (fun v => [⟨(.int .i64), v⟩]) (fun v => []) (v := 2) e2 (by kernel_rfl) rfl rfl
  · intro h3
    have h3q : (Val.Null v) = false := h3
    have e4 := e0.trans (Go.Am.bif_f h3)
    refine AW.seq ?_
    refine AW.reg hC  false [] [6] []
      ⟨[(6, .bool ((Val.N v) == 0))], []⟩
      [] (by kernel_rfl) ?_ ?_
    · exact trivial
    refine AW.cond (b := ((Val.N v) == 0)) (by kernel_rfl) ?_ ?_
    · intro h5
      have h5q : (Val.N v) = 0 := (Go.Am.beq_pos h5)
      have e6 := e4.trans (Go.Am.bif_t h5)
      refine AW.seq ?_
      refine AW.reg hC  false [] [2] []
        ⟨[(2, .int .i64 0)], []⟩
        [] (by kernel_rfl) ?_ ?_
      · exact trivial
      refine AW.ret ?_
      exact AW.retE (β := Int) (fun v => [⟨(.int .i64), v⟩]) (fun v => []) (v := 0) e6 (by kernel_rfl) rfl rfl
    · intro h7
      have h7q : (Val.N v) ≠ 0 := (Go.Am.beq_neg h7)
      have e8 := e4.trans (Go.Am.bif_f h7)
      refine AW.keep [] [] ⟨[], []⟩ (by kernel_rfl) ?_
      refine AW.skip ?_
      refine AW.seq ?_
      refine AW.reg hC  false [] [2] []
        ⟨[(2, .int .i64 1)], []⟩
        [] (by kernel_rfl) ?_ ?_
      · exact trivial
      refine AW.ret ?_
      exact AW.retE (β := Int) (fun v => [⟨(.int .i64), v⟩]) (fun v => []) (v := 1) e8 (by kernel_rfl) rfl rfl

def ofTruth (n : Int) : Val := (bif (n == 2) then (Val.mk true 0) else (Val.mk false n))

def ofTruth_sp : FnSpec := mkSpec [.val (.int .i64)] [.val (.named 0)] (fun (n : Int) => True) (fun (n : Int) => [⟨(.named 0), (ofTruth n)⟩])

theorem ofTruth_ok : FnOK Try.prog 154 ofTruth_sp := by
  have hC : CtxOK Try.prog (mkCtx tyL []) := CtxOK.nil tyOK
  refine FnOK.of_body Try.func154 (by kernel_rfl) rfl (C := (mkCtx tyL [])) hC.ty (by kernel_rfl) ?_
  intro (n : Int) hwf hpre E
  have hpre : True := hpre
  have hw_n : Wf ⟨(.int .i64), (n : Int)⟩ := hwf _ (List.Mem.head _)
  have hr_n : -9223372036854775808 ≤ n ∧ n ≤ 9223372036854775807 := hw_n.int_inv
  have e0 : ofTruth n = ofTruth n := rfl
  refine AW.seq ?_
  refine AW.reg hC  false [] [0, 2] [8]
    ⟨[(0, .int .i64 n), (2, .ref 8 1 0)], [(8, .box 1 [.bool false, .int .i64 0])]⟩
    [] (by kernel_rfl) ?_ ?_
  · exact trivial
  refine AW.seq ?_
  refine AW.seq ?_
  refine AW.reg hC  false [] [0, 2, 4] [8]
    ⟨[(0, .int .i64 n), (2, .ref 8 1 0), (4, .bool (n == 2))], [(8, .box 1 [.bool false, .int .i64 0])]⟩
    [] (by kernel_rfl) ?_ ?_
  · exact trivial
  refine AW.cond (b := (n == 2)) (by kernel_rfl) ?_ ?_
  · intro h1
    have h1q : n = 2 := (Go.Am.beq_pos h1)
    have e2 := e0.trans (Go.Am.bif_t h1)
    refine AW.seq ?_
    refine AW.reg hC  false [] [2] [8]
      ⟨[(2, .ref 8 1 0)], [(8, .box 1 [.bool true, .int .i64 0])]⟩
      [] (by kernel_rfl) ?_ ?_
    · exact trivial
    refine AW.ret ?_
    exact AW.retE (β := Val) (fun v => [⟨(.named 0), v⟩]) (fun v => []) (v := (Val.mk true 0)) e2 (by kernel_rfl) rfl rfl
  · intro h3
    have h3q : n ≠ 2 := (Go.Am.beq_neg h3)
    have e4 := e0.trans (Go.Am.bif_f h3)
    refine AW.keep [0, 2] [8] ⟨[(0, .int .i64 n), (2, .ref 8 1 0)], [(8, .box 1 [.bool false, .int .i64 0])]⟩ (by kernel_rfl) ?_
    refine AW.skip ?_
    refine AW.seq ?_
    refine AW.reg hC  false [] [2] [8]
      ⟨[(2, .ref 8 1 0)], [(8, .box 1 [.bool false, .int .i64 n])]⟩
      [] (by kernel_rfl) ?_ ?_
    · exact trivial
    refine AW.ret ?_
    exact AW.retE (β := Val) (fun v => [⟨(.named 0), v⟩]) (fun v => []) (v := (Val.mk false n)) e4 (by kernel_rfl) rfl rfl

def andTruth (a : Int) (b : Int) : Int := (bif (bif (a == 0) then true else (b == 0)) then 0 else (bif (bif (a == 1) then (b == 1) else false) then 1 else 2))

def andTruth_sp : FnSpec := mkSpec [.val (.int .i64), .val (.int .i64)] [.val (.int .i64)] (fun (a : Int) (b : Int) => True) (fun (a : Int) (b : Int) => [⟨(.int .i64), (andTruth a b)⟩])

theorem andTruth_ok : FnOK Try.prog 167 andTruth_sp := by
  have hC : CtxOK Try.prog (mkCtx tyL []) := CtxOK.nil tyOK
  refine FnOK.of_body Try.func167 (by kernel_rfl) rfl (C := (mkCtx tyL [])) hC.ty (by kernel_rfl) ?_
  intro (a : Int) (b : Int) hwf hpre E
  have hpre : True := hpre
  have hw_a : Wf ⟨(.int .i64), (a : Int)⟩ := hwf _ (List.Mem.head _)
  have hr_a : -9223372036854775808 ≤ a ∧ a ≤ 9223372036854775807 := hw_a.int_inv
  have hw_b : Wf ⟨(.int .i64), (b : Int)⟩ := hwf _ (List.Mem.tail _ (List.Mem.head _))
  have hr_b : -9223372036854775808 ≤ b ∧ b ≤ 9223372036854775807 := hw_b.int_inv
  have e0 : andTruth a b = andTruth a b := rfl
  refine AW.seq ?_
  refine AW.reg hC  false [] [0, 1] []
    ⟨[(0, .int .i64 a), (1, .int .i64 b)], []⟩
    [] (by kernel_rfl) ?_ ?_
  · exact trivial
  refine AW.seq ?_
  refine AW.block ?_
  refine AW.seq ?_
  refine AW.reg hC  false [] [0, 1, 5] []
    ⟨[(0, .int .i64 a), (1, .int .i64 b), (5, .bool (bif (a == 0) then true else (b == 0)))], []⟩
    [(((a == 0) = false) → (((a == 0) = false))), (((a == 0) = false) → (((a == 0) = false)))] (by kernel_rfl) ?_ ?_
  · refine ⟨?_, ?_, trivial⟩
    · intro g1
      have g1p0 : a ≠ 0 := (Go.Am.beq_neg g1)
      first | assumption | exact ⟨by assumption, by assumption⟩
    · intro g2
      have g2p0 : a ≠ 0 := (Go.Am.beq_neg g2)
      first | assumption | exact ⟨by assumption, by assumption⟩
  refine AW.cond (b := (bif (a == 0) then true else (b == 0))) (by kernel_rfl) ?_ ?_
  · intro h3
    have h3q : (a = 0) ∨ (b = 0) := (Or.imp (fun h => (Go.Am.beq_pos h)) (fun h => (Go.Am.beq_pos h)) (Go.Am.or_pos h3))
    have e4 := e0.trans (Go.Am.bif_t h3)
    refine AW.seq ?_
    refine AW.reg hC  false [] [4] []
      ⟨[(4, .int .i64 0)], []⟩
      [] (by kernel_rfl) ?_ ?_
    · exact trivial
    refine AW.ret ?_
    exact AW.retE (β := Int) (fun v => [⟨(.int .i64), v⟩]) (fun v => []) (v := 0) e4 (by kernel_rfl) rfl rfl
  · intro h5
    have h5q : (a ≠ 0) ∧ (b ≠ 0) := (And.imp (fun h => (Go.Am.beq_neg h)) (fun h => (Go.Am.beq_neg h)) (Go.Am.or_neg h5))
    have e6 := e0.trans (Go.Am.bif_f h5)
    refine AW.seq ?_
    refine AW.reg hC  false [] [12] []
      ⟨[(12, .bool (bif (a == 1) then (b == 1) else false))], []⟩
      [(((a == 1) = true) → (((a == 1) = true))), (((a == 1) = true) → (((a == 1) = true)))] (by kernel_rfl) ?_ ?_
    · refine ⟨?_, ?_, trivial⟩
      · intro g7
        have g7p0 : a = 1 := (Go.Am.beq_pos g7)
        first | assumption | exact ⟨by assumption, by assumption⟩
      · intro g8
        have g8p0 : a = 1 := (Go.Am.beq_pos g8)
        first | assumption | exact ⟨by assumption, by assumption⟩
    refine AW.cond (b := (bif (a == 1) then (b == 1) else false)) (by kernel_rfl) ?_ ?_
    · intro h9
      have h9q : (a = 1) ∧ (b = 1) := (And.imp (fun h => (Go.Am.beq_pos h)) (fun h => (Go.Am.beq_pos h)) (Go.Am.and_pos h9))
      have e10 := e6.trans (Go.Am.bif_t h9)
      refine AW.seq ?_
      refine AW.reg hC  false [] [4] []
        ⟨[(4, .int .i64 1)], []⟩
        [] (by kernel_rfl) ?_ ?_
      · exact trivial
      refine AW.ret ?_
      exact AW.retE (β := Int) (fun v => [⟨(.int .i64), v⟩]) (fun v => []) (v := 1) e10 (by kernel_rfl) rfl rfl
    · intro h11
      have h11q : (a ≠ 1) ∨ (b ≠ 1) := (Or.imp (fun h => (Go.Am.beq_neg h)) (fun h => (Go.Am.beq_neg h)) (Go.Am.and_neg h11))
      have e12 := e6.trans (Go.Am.bif_f h11)
      refine AW.keep [] [] ⟨[], []⟩ (by kernel_rfl) ?_
      refine AW.skip ?_
      refine AW.seq ?_
      refine AW.reg hC  false [] [4] []
        ⟨[(4, .int .i64 2)], []⟩
        [] (by kernel_rfl) ?_ ?_
      · exact trivial
      refine AW.ret ?_
      exact AW.retE (β := Int) (fun v => [⟨(.int .i64), v⟩]) (fun v => []) (v := 2) e12 (by kernel_rfl) rfl rfl

def notTruth (a : Int) : Int := (bif (a == 2) then 2 else (1 - a))

def notTruth_sp : FnSpec := mkSpec [.val (.int .i64)] [.val (.int .i64)] (fun (a : Int) => 0 ≤ a ∧ a ≤ 2) (fun (a : Int) => [⟨(.int .i64), (notTruth a)⟩])

theorem notTruth_ok : FnOK Try.prog 155 notTruth_sp := by
  have hC : CtxOK Try.prog (mkCtx tyL []) := CtxOK.nil tyOK
  refine FnOK.of_body Try.func155 (by kernel_rfl) rfl (C := (mkCtx tyL [])) hC.ty (by kernel_rfl) ?_
  intro (a : Int) hwf hpre E
  have hpre : 0 ≤ a ∧ a ≤ 2 := hpre
  have hw_a : Wf ⟨(.int .i64), (a : Int)⟩ := hwf _ (List.Mem.head _)
  have hr_a : -9223372036854775808 ≤ a ∧ a ≤ 9223372036854775807 := hw_a.int_inv
  have e0 : notTruth a = notTruth a := rfl
  refine AW.seq ?_
  refine AW.reg hC  false [] [0] []
    ⟨[(0, .int .i64 a)], []⟩
    [] (by kernel_rfl) ?_ ?_
  · exact trivial
  refine AW.seq ?_
  refine AW.seq ?_
  refine AW.reg hC  false [] [0, 4] []
    ⟨[(0, .int .i64 a), (4, .bool (a == 2))], []⟩
    [] (by kernel_rfl) ?_ ?_
  · exact trivial
  refine AW.cond (b := (a == 2)) (by kernel_rfl) ?_ ?_
  · intro h1
    have h1q : a = 2 := (Go.Am.beq_pos h1)
    have e2 := e0.trans (Go.Am.bif_t h1)
    refine AW.seq ?_
    refine AW.reg hC  false [] [2] []
      ⟨[(2, .int .i64 2)], []⟩
      [] (by kernel_rfl) ?_ ?_
    · exact trivial
    refine AW.ret ?_
    exact AW.retE (β := Int) (fun v => [⟨(.int .i64), v⟩]) (fun v => []) (v := 2) e2 (by kernel_rfl) rfl rfl
  · intro h3
    have h3q : a ≠ 2 := (Go.Am.beq_neg h3)
    have e4 := e0.trans (Go.Am.bif_f h3)
    refine AW.keep [0] [] ⟨[(0, .int .i64 a)], []⟩ (by kernel_rfl) ?_
    refine AW.skip ?_
    refine AW.seq ?_
    refine AW.reg hC  false [] [2] []
      ⟨[(2, .int .i64 (1 - a))], []⟩
      [(-9223372036854775808 ≤ (1 - a) ∧ (1 - a) ≤ 9223372036854775807)] (by kernel_rfl) ?_ ?_
    · refine ⟨?_, trivial⟩
      ·
        first | omega | (dsimp only; omega) | (simp only [lens] at *; omega)
    refine AW.ret ?_
    exact AW.retE (β := Int) (fun v => [⟨(.int .i64), v⟩]) (fun v => []) (v := (1 - a)) e4 (by kernel_rfl) rfl rfl

def toInt (b : Bool) : Int := (bif b then 1 else 0)

def toInt_sp : FnSpec := mkSpec [.val .bool] [.val (.int .i64)] (fun (b : Bool) => True) (fun (b : Bool) => [⟨(.int .i64), (toInt b)⟩])

theorem toInt_ok : FnOK Try.prog 148 toInt_sp := by
  have hC : CtxOK Try.prog (mkCtx tyL []) := CtxOK.nil tyOK
  refine FnOK.of_body Try.func148 (by kernel_rfl) rfl (C := (mkCtx tyL [])) hC.ty (by kernel_rfl) ?_
  intro (b : Bool) hwf hpre E
  have hpre : True := hpre
  have hw_b : Wf ⟨.bool, (b : Bool)⟩ := hwf _ (List.Mem.head _)
  have e0 : toInt b = toInt b := rfl
  refine AW.seq ?_
  refine AW.reg hC  false [] [0] []
    ⟨[(0, .bool b)], []⟩
    [] (by kernel_rfl) ?_ ?_
  · exact trivial
  refine AW.seq ?_
  refine AW.seq ?_
  refine AW.reg hC  false [] [3] []
    ⟨[(3, .bool b)], []⟩
    [] (by kernel_rfl) ?_ ?_
  · exact trivial
  refine AW.cond (b := b) (by kernel_rfl) ?_ ?_
  · intro h1
    have h1q : b = true := h1
    have e2 := e0.trans (Go.Am.bif_t h1)
    refine AW.seq ?_
    refine AW.reg hC  false [] [2] []
      ⟨[(2, .int .i64 1)], []⟩
      [] (by kernel_rfl) ?_ ?_
    · exact trivial
    refine AW.ret ?_
    exact AW.retE (β := Int) (fun v => [⟨(.int .i64), v⟩]) (fun v => []) (v := 1) e2 (by kernel_rfl) rfl rfl
  · intro h3
    have h3q : b = false := h3
    have e4 := e0.trans (Go.Am.bif_f h3)
    refine AW.keep [] [] ⟨[], []⟩ (by kernel_rfl) ?_
    refine AW.skip ?_
    refine AW.seq ?_
    refine AW.reg hC  false [] [2] []
      ⟨[(2, .int .i64 0)], []⟩
      [] (by kernel_rfl) ?_ ?_
    · exact trivial
    refine AW.ret ?_
    exact AW.retE (β := Int) (fun v => [⟨(.int .i64), v⟩]) (fun v => []) (v := 0) e4 (by kernel_rfl) rfl rfl

def number (n : Int) : Val := (bif (!(inRange n (-9999) 9999)) then (Val.mk true 0) else (Val.mk false n))

def number_sp : FnSpec := mkSpec [.val (.int .i64)] [.val (.named 0)] (fun (n : Int) => True) (fun (n : Int) => [⟨(.named 0), (number n)⟩])

theorem number_ok : FnOK Try.prog 168 number_sp := by
  have hC : CtxOK Try.prog (mkCtx tyL [(88, inRange_sp)]) := CtxOK.cons inRange_ok (CtxOK.nil tyOK)
  refine FnOK.of_body Try.func168 (by kernel_rfl) rfl (C := (mkCtx tyL [(88, inRange_sp)])) hC.ty (by kernel_rfl) ?_
  intro (n : Int) hwf hpre E
  have hpre : True := hpre
  have hw_n : Wf ⟨(.int .i64), (n : Int)⟩ := hwf _ (List.Mem.head _)
  have hr_n : -9223372036854775808 ≤ n ∧ n ≤ 9223372036854775807 := hw_n.int_inv
  have e0 : number n = number n := rfl
  refine AW.seq ?_
  refine AW.reg hC  false [] [0, 2] [8]
    ⟨[(0, .int .i64 n), (2, .ref 8 1 0)], [(8, .box 1 [.bool false, .int .i64 0])]⟩
    [] (by kernel_rfl) ?_ ?_
  · exact trivial
  refine AW.seq ?_
  refine AW.seq ?_
  refine AW.reg hC  false [] [0, 2, 5] [8]
    ⟨[(0, .int .i64 n), (2, .ref 8 1 0), (5, .bool (!(inRange n (-9999) 9999)))], [(8, .box 1 [.bool false, .int .i64 0])]⟩
    [(True)] (by kernel_rfl) ?_ ?_
  · refine ⟨?_, trivial⟩
    · trivial
  refine AW.cond (b := (!(inRange n (-9999) 9999))) (by kernel_rfl) ?_ ?_
  · intro h1
    have h1q : (inRange n (-9999) 9999) = false := (Go.Am.not_pos h1)
    have e2 := e0.trans (Go.Am.bif_t h1)
    refine AW.seq ?_
    refine AW.reg hC  false [] [2] [8]
      ⟨[(2, .ref 8 1 0)], [(8, .box 1 [.bool true, .int .i64 0])]⟩
      [] (by kernel_rfl) ?_ ?_
    · exact trivial
    refine AW.ret ?_
    exact AW.retE (β := Val) (fun v => [⟨(.named 0), v⟩]) (fun v => []) (v := (Val.mk true 0)) e2 (by kernel_rfl) rfl rfl
  · intro h3
    have h3q : (inRange n (-9999) 9999) = true := (Go.Am.not_neg h3)
    have e4 := e0.trans (Go.Am.bif_f h3)
    refine AW.keep [0, 2] [8] ⟨[(0, .int .i64 n), (2, .ref 8 1 0)], [(8, .box 1 [.bool false, .int .i64 0])]⟩ (by kernel_rfl) ?_
    refine AW.skip ?_
    refine AW.seq ?_
    refine AW.reg hC  false [] [2] [8]
      ⟨[(2, .ref 8 1 0)], [(8, .box 1 [.bool false, .int .i64 n])]⟩
      [] (by kernel_rfl) ?_ ?_
    · exact trivial
    refine AW.ret ?_
    exact AW.retE (β := Val) (fun v => [⟨(.named 0), v⟩]) (fun v => []) (v := (Val.mk false n)) e4 (by kernel_rfl) rfl rfl

def valueOf (state : Int) : Val := (bif (state == 4) then (Val.mk true 0) else (bif (state == 2) then (Val.mk false 1) else (Val.mk false 0)))

def valueOf_sp : FnSpec := mkSpec [.val (.int .i64)] [.val (.named 0)] (fun (state : Int) => True) (fun (state : Int) => [⟨(.named 0), (valueOf state)⟩])

theorem valueOf_ok : FnOK Try.prog 163 valueOf_sp := by
  have hC : CtxOK Try.prog (mkCtx tyL []) := CtxOK.nil tyOK
  refine FnOK.of_body Try.func163 (by kernel_rfl) rfl (C := (mkCtx tyL [])) hC.ty (by kernel_rfl) ?_
  intro (state : Int) hwf hpre E
  have hpre : True := hpre
  have hw_state : Wf ⟨(.int .i64), (state : Int)⟩ := hwf _ (List.Mem.head _)
  have hr_state : -9223372036854775808 ≤ state ∧ state ≤ 9223372036854775807 := hw_state.int_inv
  have e0 : valueOf state = valueOf state := rfl
  refine AW.seq ?_
  refine AW.reg hC  false [] [0, 2] [8]
    ⟨[(0, .int .i64 state), (2, .ref 8 1 0)], [(8, .box 1 [.bool false, .int .i64 0])]⟩
    [] (by kernel_rfl) ?_ ?_
  · exact trivial
  refine AW.seq ?_
  refine AW.seq ?_
  refine AW.reg hC  false [] [2, 3] [8]
    ⟨[(2, .ref 8 1 0), (3, .int .i64 state)], [(8, .box 1 [.bool false, .int .i64 0])]⟩
    [] (by kernel_rfl) ?_ ?_
  · exact trivial
  refine AW.block ?_
  refine AW.seq ?_
  refine AW.reg hC  false [] [2, 3, 4] [8]
    ⟨[(2, .ref 8 1 0), (3, .int .i64 state), (4, .bool (state == 4))], [(8, .box 1 [.bool false, .int .i64 0])]⟩
    [] (by kernel_rfl) ?_ ?_
  · exact trivial
  refine AW.cond (b := (state == 4)) (by kernel_rfl) ?_ ?_
  · intro h1
    have h1q : state = 4 := (Go.Am.beq_pos h1)
    have e2 := e0.trans (Go.Am.bif_t h1)
    refine AW.seq ?_
    refine AW.reg hC  false [] [2] [8]
      ⟨[(2, .ref 8 1 0)], [(8, .box 1 [.bool true, .int .i64 0])]⟩
      [] (by kernel_rfl) ?_ ?_
    · exact trivial
    refine AW.ret ?_
    exact AW.retE (β := Val) (fun v => [⟨(.named 0), v⟩]) (fun v => []) (v := (Val.mk true 0)) e2 (by kernel_rfl) rfl rfl
  · intro h3
    have h3q : state ≠ 4 := (Go.Am.beq_neg h3)
    have e4 := e0.trans (Go.Am.bif_f h3)
    refine AW.seq ?_
    refine AW.reg hC  false [] [2, 7] [8]
      ⟨[(2, .ref 8 1 0), (7, .bool (state == 2))], [(8, .box 1 [.bool false, .int .i64 0])]⟩
      [] (by kernel_rfl) ?_ ?_
    · exact trivial
    refine AW.cond (b := (state == 2)) (by kernel_rfl) ?_ ?_
    · intro h5
      have h5q : state = 2 := (Go.Am.beq_pos h5)
      have e6 := e4.trans (Go.Am.bif_t h5)
      refine AW.seq ?_
      refine AW.reg hC  false [] [2] [8]
        ⟨[(2, .ref 8 1 0)], [(8, .box 1 [.bool false, .int .i64 1])]⟩
        [] (by kernel_rfl) ?_ ?_
      · exact trivial
      refine AW.ret ?_
      exact AW.retE (β := Val) (fun v => [⟨(.named 0), v⟩]) (fun v => []) (v := (Val.mk false 1)) e6 (by kernel_rfl) rfl rfl
    · intro h7
      have h7q : state ≠ 2 := (Go.Am.beq_neg h7)
      have e8 := e4.trans (Go.Am.bif_f h7)
      refine AW.keep [2] [8] ⟨[(2, .ref 8 1 0)], [(8, .box 1 [.bool false, .int .i64 0])]⟩ (by kernel_rfl) ?_
      refine AW.skip ?_
      refine AW.seq ?_
      refine AW.reg hC  false [] [2] [8]
        ⟨[(2, .ref 8 1 0)], [(8, .box 1 [.bool false, .int .i64 0])]⟩
        [] (by kernel_rfl) ?_ ?_
      · exact trivial
      refine AW.ret ?_
      exact AW.retE (β := Val) (fun v => [⟨(.named 0), v⟩]) (fun v => []) (v := (Val.mk false 0)) e8 (by kernel_rfl) rfl rfl

theorem truth_b (v : Val) : 0 ≤ truth v ∧ truth v ≤ 2 := by
  unfold truth
  cases v.Null with
  | true => simp only [cond_true]; omega
  | false =>
    rw [cond_false]
    cases (v.N == 0) <;> simp only [cond_true, cond_false] <;> omega

theorem andTruth_b (a b : Int) : 0 ≤ andTruth a b ∧ andTruth a b ≤ 2 := by
  unfold andTruth
  cases (bif (a == 0) then true else (b == 0)) <;> cases (bif (a == 1) then (b == 1) else false) <;> simp

theorem mul_b {a b : Int} (h1 : -9999 ≤ a ∧ a ≤ 9999) (h2 : -9999 ≤ b ∧ b ≤ 9999) : -99980001 ≤ a * b ∧ a * b ≤ 99980001 := by
  have e : (a * b).natAbs = a.natAbs * b.natAbs := Int.natAbs_mul a b
  have : a.natAbs * b.natAbs ≤ 9999 * 9999 := Nat.mul_le_mul (by omega) (by omega)
  omega

def combined (kind : Int) (a : Val) (b : Val) : Val := (bif (kind == 8) then (truthValue (if (truthOf b) < (truthOf a) then (truthOf b) else (truthOf a))) else (bif (kind == 9) then (truthValue (if (truthOf b) > (truthOf a) then (truthOf b) else (truthOf a))) else (bif (bif (Val.Null a) then true else (Val.Null b)) then inull else (bif (kind == 3) then (numberOrNull ((Val.N a) + (Val.N b))) else (bif (kind == 4) then (numberOrNull ((Val.N a) - (Val.N b))) else (bif (kind == 5) then (numberOrNull ((Val.N a) * (Val.N b))) else (bif (kind == 6) then (flag ((Val.N a) == (Val.N b))) else (flag (decide ((Val.N a) < (Val.N b)))))))))))

def combined_sp : FnSpec := mkSpec [.val (.int .i64), .val (.named 0), .val (.named 0)] [.val (.named 0)] (fun (kind : Int) (a : Val) (b : Val) => ((-9999 ≤ Val.N a ∧ Val.N a ≤ 9999) ∧ (-9999 ≤ Val.N b ∧ Val.N b ≤ 9999))) (fun (kind : Int) (a : Val) (b : Val) => [⟨(.named 0), (combined kind a b)⟩])

theorem combined_ok : FnOK Try.prog 161 combined_sp := by
  have hC : CtxOK Try.prog (mkCtx tyL [(135, truthOf_sp), (136, truthValue_sp), (160, flag_sp), (162, inull_sp), (170, numberOrNull_sp)]) := CtxOK.cons truthOf_ok (CtxOK.cons truthValue_ok (CtxOK.cons flag_ok (CtxOK.cons inull_ok (CtxOK.cons numberOrNull_ok (CtxOK.nil tyOK)))))
  have hM : Try.prog.follows .mixedOrders = true := Try.checked.mixed
  refine FnOK.of_body Try.func161 (by kernel_rfl) rfl (C := (mkCtx tyL [(135, truthOf_sp), (136, truthValue_sp), (160, flag_sp), (162, inull_sp), (170, numberOrNull_sp)])) hC.ty (by kernel_rfl) ?_
  intro (kind : Int) (a : Val) (b : Val) hwf hpre E
  have hpre : ((-9999 ≤ Val.N a ∧ Val.N a ≤ 9999) ∧ (-9999 ≤ Val.N b ∧ Val.N b ≤ 9999)) := hpre
  have hw_kind : Wf ⟨(.int .i64), (kind : Int)⟩ := hwf _ (List.Mem.head _)
  have hr_kind : -9223372036854775808 ≤ kind ∧ kind ≤ 9223372036854775807 := hw_kind.int_inv
  have hw_a : Wf ⟨(.named 0), (a : Val)⟩ := hwf _ (List.Mem.tail _ (List.Mem.head _))
  have hr_a_N : -9223372036854775808 ≤ Val.N a ∧ Val.N a ≤ 9223372036854775807 := (hw_a.field (tv := ⟨(.int .i64), Val.N a⟩) (List.Mem.tail _ (List.Mem.head _))).int_inv
  have hw_b : Wf ⟨(.named 0), (b : Val)⟩ := hwf _ (List.Mem.tail _ (List.Mem.tail _ (List.Mem.head _)))
  have hr_b_N : -9223372036854775808 ≤ Val.N b ∧ Val.N b ≤ 9223372036854775807 := (hw_b.field (tv := ⟨(.int .i64), Val.N b⟩) (List.Mem.tail _ (List.Mem.head _))).int_inv
  have e0 : combined kind a b = combined kind a b := rfl
  refine AW.seq ?_
  refine AW.reg hC  false [] [0, 4, 5, 6] [16, 20, 24]
    ⟨[(0, .int .i64 kind), (4, .ref 16 1 0), (5, .ref 20 1 0), (6, .ref 24 1 0)], [(16, .box 1 [.bool (Val.Null a), .int .i64 (Val.N a)]), (20, .box 1 [.bool (Val.Null b), .int .i64 (Val.N b)]), (24, .box 1 [.bool false, .int .i64 0])]⟩
    [] (by kernel_rfl) ?_ ?_
  · exact trivial
  refine AW.seq ?_
  refine AW.block ?_
  refine AW.seq ?_
  refine AW.reg hC  false [] [0, 4, 5, 6, 7] [16, 20, 24]
    ⟨[(0, .int .i64 kind), (4, .ref 16 1 0), (5, .ref 20 1 0), (6, .ref 24 1 0), (7, .bool (kind == 8))], [(16, .box 1 [.bool (Val.Null a), .int .i64 (Val.N a)]), (20, .box 1 [.bool (Val.Null b), .int .i64 (Val.N b)]), (24, .box 1 [.bool false, .int .i64 0])]⟩
    [] (by kernel_rfl) ?_ ?_
  · exact trivial
  refine AW.cond (b := (kind == 8)) (by kernel_rfl) ?_ ?_
  · intro h1
    have h1q : kind = 8 := (Go.Am.beq_pos h1)
    have e2 := e0.trans (Go.Am.bif_t h1)
    refine AW.seq ?_
    refine AW.regD hC hM  false [] [6] [24]
      ⟨[(6, .ref 24 1 0)], [(24, .box 1 [.bool (Val.Null (truthValue (if (truthOf b) < (truthOf a) then (truthOf b) else (truthOf a)))), .int .i64 (Val.N (truthValue (if (truthOf b) < (truthOf a) then (truthOf b) else (truthOf a))))])]⟩
      [(True), (True), (True)] (by kernel_rfl) ?_ ?_
    · refine ⟨?_, ?_, ?_, trivial⟩
      · trivial
      · trivial
      · trivial
    refine AW.ret ?_
    exact AW.retE (β := Val) (fun v => [⟨(.named 0), v⟩]) (fun v => []) (v := (truthValue (if (truthOf b) < (truthOf a) then (truthOf b) else (truthOf a)))) e2 (by kernel_rfl) rfl rfl
  · intro h3
    have h3q : kind ≠ 8 := (Go.Am.beq_neg h3)
    have e4 := e0.trans (Go.Am.bif_f h3)
    refine AW.seq ?_
    refine AW.reg hC  false [] [0, 4, 5, 6, 16] [16, 20, 24]
      ⟨[(0, .int .i64 kind), (4, .ref 16 1 0), (5, .ref 20 1 0), (6, .ref 24 1 0), (16, .bool (kind == 9))], [(16, .box 1 [.bool (Val.Null a), .int .i64 (Val.N a)]), (20, .box 1 [.bool (Val.Null b), .int .i64 (Val.N b)]), (24, .box 1 [.bool false, .int .i64 0])]⟩
      [] (by kernel_rfl) ?_ ?_
    · exact trivial
    refine AW.cond (b := (kind == 9)) (by kernel_rfl) ?_ ?_
    · intro h5
      have h5q : kind = 9 := (Go.Am.beq_pos h5)
      have e6 := e4.trans (Go.Am.bif_t h5)
      refine AW.seq ?_
      refine AW.regD hC hM  false [] [6] [24]
        ⟨[(6, .ref 24 1 0)], [(24, .box 1 [.bool (Val.Null (truthValue (if (truthOf b) > (truthOf a) then (truthOf b) else (truthOf a)))), .int .i64 (Val.N (truthValue (if (truthOf b) > (truthOf a) then (truthOf b) else (truthOf a))))])]⟩
        [(True), (True), (True)] (by kernel_rfl) ?_ ?_
      · refine ⟨?_, ?_, ?_, trivial⟩
        · trivial
        · trivial
        · trivial
      refine AW.ret ?_
      exact AW.retE (β := Val) (fun v => [⟨(.named 0), v⟩]) (fun v => []) (v := (truthValue (if (truthOf b) > (truthOf a) then (truthOf b) else (truthOf a)))) e6 (by kernel_rfl) rfl rfl
    · intro h7
      have h7q : kind ≠ 9 := (Go.Am.beq_neg h7)
      have e8 := e4.trans (Go.Am.bif_f h7)
      refine AW.seq ?_
      refine AW.reg hC  false [] [0, 4, 5, 6, 25] [16, 20, 24]
        ⟨[(0, .int .i64 kind), (4, .ref 16 1 0), (5, .ref 20 1 0), (6, .ref 24 1 0), (25, .bool (bif (Val.Null a) then true else (Val.Null b)))], [(16, .box 1 [.bool (Val.Null a), .int .i64 (Val.N a)]), (20, .box 1 [.bool (Val.Null b), .int .i64 (Val.N b)]), (24, .box 1 [.bool false, .int .i64 0])]⟩
        [(((Val.Null a) = false) → (((Val.Null a) = false))), (((Val.Null a) = false) → (((Val.Null a) = false)))] (by kernel_rfl) ?_ ?_
      · refine ⟨?_, ?_, trivial⟩
        · intro g9
          have g9p0 : (Val.Null a) = false := g9
          first | assumption | exact ⟨by assumption, by assumption⟩
        · intro g10
          have g10p0 : (Val.Null a) = false := g10
          first | assumption | exact ⟨by assumption, by assumption⟩
      refine AW.cond (b := (bif (Val.Null a) then true else (Val.Null b))) (by kernel_rfl) ?_ ?_
      · intro h11
        have h11q : ((Val.Null a) = true) ∨ ((Val.Null b) = true) := (Or.imp (fun h => h) (fun h => h) (Go.Am.or_pos h11))
        have e12 := e8.trans (Go.Am.bif_t h11)
        refine AW.seq ?_
        refine AW.reg hC  false [] [6] [24]
          ⟨[(6, .ref 24 1 0)], [(24, .box 1 [.bool (Val.Null inull), .int .i64 (Val.N inull)])]⟩
          [(True)] (by kernel_rfl) ?_ ?_
        · refine ⟨?_, trivial⟩
          · trivial
        refine AW.ret ?_
        exact AW.retE (β := Val) (fun v => [⟨(.named 0), v⟩]) (fun v => []) (v := inull) e12 (by kernel_rfl) rfl rfl
      · intro h13
        have h13q : ((Val.Null a) = false) ∧ ((Val.Null b) = false) := (And.imp (fun h => h) (fun h => h) (Go.Am.or_neg h13))
        have e14 := e8.trans (Go.Am.bif_f h13)
        refine AW.keep [0, 4, 5, 6] [16, 20, 24] ⟨[(0, .int .i64 kind), (4, .ref 16 1 0), (5, .ref 20 1 0), (6, .ref 24 1 0)], [(16, .box 1 [.bool (Val.Null a), .int .i64 (Val.N a)]), (20, .box 1 [.bool (Val.Null b), .int .i64 (Val.N b)]), (24, .box 1 [.bool false, .int .i64 0])]⟩ (by kernel_rfl) ?_
        refine AW.skip ?_
        refine AW.seq ?_
        refine AW.seq ?_
        refine AW.reg hC  false [] [4, 5, 6, 33] [16, 20, 24]
          ⟨[(4, .ref 16 1 0), (5, .ref 20 1 0), (6, .ref 24 1 0), (33, .int .i64 kind)], [(16, .box 1 [.bool (Val.Null a), .int .i64 (Val.N a)]), (20, .box 1 [.bool (Val.Null b), .int .i64 (Val.N b)]), (24, .box 1 [.bool false, .int .i64 0])]⟩
          [] (by kernel_rfl) ?_ ?_
        · exact trivial
        refine AW.block ?_
        refine AW.seq ?_
        refine AW.reg hC  false [] [4, 5, 6, 33, 34] [16, 20, 24]
          ⟨[(4, .ref 16 1 0), (5, .ref 20 1 0), (6, .ref 24 1 0), (33, .int .i64 kind), (34, .bool (kind == 3))], [(16, .box 1 [.bool (Val.Null a), .int .i64 (Val.N a)]), (20, .box 1 [.bool (Val.Null b), .int .i64 (Val.N b)]), (24, .box 1 [.bool false, .int .i64 0])]⟩
          [] (by kernel_rfl) ?_ ?_
        · exact trivial
        refine AW.cond (b := (kind == 3)) (by kernel_rfl) ?_ ?_
        · intro h15
          have h15q : kind = 3 := (Go.Am.beq_pos h15)
          have e16 := e14.trans (Go.Am.bif_t h15)
          refine AW.seq ?_
          refine AW.reg hC  false [] [6] [24]
            ⟨[(6, .ref 24 1 0)], [(24, .box 1 [.bool (Val.Null (numberOrNull ((Val.N a) + (Val.N b)))), .int .i64 (Val.N (numberOrNull ((Val.N a) + (Val.N b))))])]⟩
            [(-9223372036854775808 ≤ ((Val.N a) + (Val.N b)) ∧ ((Val.N a) + (Val.N b)) ≤ 9223372036854775807), (True)] (by kernel_rfl) ?_ ?_
          · refine ⟨?_, ?_, trivial⟩
            ·
              first | omega | (dsimp only; omega) | (simp only [lens] at *; omega)
            · trivial
          refine AW.ret ?_
          exact AW.retE (β := Val) (fun v => [⟨(.named 0), v⟩]) (fun v => []) (v := (numberOrNull ((Val.N a) + (Val.N b)))) e16 (by kernel_rfl) rfl rfl
        · intro h17
          have h17q : kind ≠ 3 := (Go.Am.beq_neg h17)
          have e18 := e14.trans (Go.Am.bif_f h17)
          refine AW.seq ?_
          refine AW.reg hC  false [] [4, 5, 6, 33, 42] [16, 20, 24]
            ⟨[(4, .ref 16 1 0), (5, .ref 20 1 0), (6, .ref 24 1 0), (33, .int .i64 kind), (42, .bool (kind == 4))], [(16, .box 1 [.bool (Val.Null a), .int .i64 (Val.N a)]), (20, .box 1 [.bool (Val.Null b), .int .i64 (Val.N b)]), (24, .box 1 [.bool false, .int .i64 0])]⟩
            [] (by kernel_rfl) ?_ ?_
          · exact trivial
          refine AW.cond (b := (kind == 4)) (by kernel_rfl) ?_ ?_
          · intro h19
            have h19q : kind = 4 := (Go.Am.beq_pos h19)
            have e20 := e18.trans (Go.Am.bif_t h19)
            refine AW.seq ?_
            refine AW.reg hC  false [] [6] [24]
              ⟨[(6, .ref 24 1 0)], [(24, .box 1 [.bool (Val.Null (numberOrNull ((Val.N a) - (Val.N b)))), .int .i64 (Val.N (numberOrNull ((Val.N a) - (Val.N b))))])]⟩
              [(-9223372036854775808 ≤ ((Val.N a) - (Val.N b)) ∧ ((Val.N a) - (Val.N b)) ≤ 9223372036854775807), (True)] (by kernel_rfl) ?_ ?_
            · refine ⟨?_, ?_, trivial⟩
              ·
                first | omega | (dsimp only; omega) | (simp only [lens] at *; omega)
              · trivial
            refine AW.ret ?_
            exact AW.retE (β := Val) (fun v => [⟨(.named 0), v⟩]) (fun v => []) (v := (numberOrNull ((Val.N a) - (Val.N b)))) e20 (by kernel_rfl) rfl rfl
          · intro h21
            have h21q : kind ≠ 4 := (Go.Am.beq_neg h21)
            have e22 := e18.trans (Go.Am.bif_f h21)
            refine AW.seq ?_
            refine AW.reg hC  false [] [4, 5, 6, 33, 50] [16, 20, 24]
              ⟨[(4, .ref 16 1 0), (5, .ref 20 1 0), (6, .ref 24 1 0), (33, .int .i64 kind), (50, .bool (kind == 5))], [(16, .box 1 [.bool (Val.Null a), .int .i64 (Val.N a)]), (20, .box 1 [.bool (Val.Null b), .int .i64 (Val.N b)]), (24, .box 1 [.bool false, .int .i64 0])]⟩
              [] (by kernel_rfl) ?_ ?_
            · exact trivial
            refine AW.cond (b := (kind == 5)) (by kernel_rfl) ?_ ?_
            · intro h23
              have h23q : kind = 5 := (Go.Am.beq_pos h23)
              have e24 := e22.trans (Go.Am.bif_t h23)
              refine AW.seq ?_
              refine AW.reg hC  false [] [6] [24]
                ⟨[(6, .ref 24 1 0)], [(24, .box 1 [.bool (Val.Null (numberOrNull ((Val.N a) * (Val.N b)))), .int .i64 (Val.N (numberOrNull ((Val.N a) * (Val.N b))))])]⟩
                [(-9223372036854775808 ≤ ((Val.N a) * (Val.N b)) ∧ ((Val.N a) * (Val.N b)) ≤ 9223372036854775807), (True)] (by kernel_rfl) ?_ ?_
              · refine ⟨?_, ?_, trivial⟩
                ·
                  have := mul_b hpre.1 hpre.2
                  omega
                · trivial
              refine AW.ret ?_
              exact AW.retE (β := Val) (fun v => [⟨(.named 0), v⟩]) (fun v => []) (v := (numberOrNull ((Val.N a) * (Val.N b)))) e24 (by kernel_rfl) rfl rfl
            · intro h25
              have h25q : kind ≠ 5 := (Go.Am.beq_neg h25)
              have e26 := e22.trans (Go.Am.bif_f h25)
              refine AW.seq ?_
              refine AW.reg hC  false [] [4, 5, 6, 58] [16, 20, 24]
                ⟨[(4, .ref 16 1 0), (5, .ref 20 1 0), (6, .ref 24 1 0), (58, .bool (kind == 6))], [(16, .box 1 [.bool (Val.Null a), .int .i64 (Val.N a)]), (20, .box 1 [.bool (Val.Null b), .int .i64 (Val.N b)]), (24, .box 1 [.bool false, .int .i64 0])]⟩
                [] (by kernel_rfl) ?_ ?_
              · exact trivial
              refine AW.cond (b := (kind == 6)) (by kernel_rfl) ?_ ?_
              · intro h27
                have h27q : kind = 6 := (Go.Am.beq_pos h27)
                have e28 := e26.trans (Go.Am.bif_t h27)
                refine AW.seq ?_
                refine AW.reg hC  false [] [6] [24]
                  ⟨[(6, .ref 24 1 0)], [(24, .box 1 [.bool (Val.Null (flag ((Val.N a) == (Val.N b)))), .int .i64 (Val.N (flag ((Val.N a) == (Val.N b))))])]⟩
                  [(True)] (by kernel_rfl) ?_ ?_
                · refine ⟨?_, trivial⟩
                  · trivial
                refine AW.ret ?_
                exact AW.retE (β := Val) (fun v => [⟨(.named 0), v⟩]) (fun v => []) (v := (flag ((Val.N a) == (Val.N b)))) e28 (by kernel_rfl) rfl rfl
              · intro h29
                have h29q : kind ≠ 6 := (Go.Am.beq_neg h29)
                have e30 := e26.trans (Go.Am.bif_f h29)
                refine AW.keep [4, 5, 6] [16, 20, 24] ⟨[(4, .ref 16 1 0), (5, .ref 20 1 0), (6, .ref 24 1 0)], [(16, .box 1 [.bool (Val.Null a), .int .i64 (Val.N a)]), (20, .box 1 [.bool (Val.Null b), .int .i64 (Val.N b)]), (24, .box 1 [.bool false, .int .i64 0])]⟩ (by kernel_rfl) ?_
                refine AW.skip ?_
                refine AW.seq ?_
                refine AW.reg hC  false [] [6] [24]
                  ⟨[(6, .ref 24 1 0)], [(24, .box 1 [.bool (Val.Null (flag (decide ((Val.N a) < (Val.N b))))), .int .i64 (Val.N (flag (decide ((Val.N a) < (Val.N b)))))])]⟩
                  [(True)] (by kernel_rfl) ?_ ?_
                · refine ⟨?_, trivial⟩
                  · trivial
                refine AW.ret ?_
                exact AW.retE (β := Val) (fun v => [⟨(.named 0), v⟩]) (fun v => []) (v := (flag (decide ((Val.N a) < (Val.N b))))) e30 (by kernel_rfl) rfl rfl

def combine (kind : Int) (a : Val) (b : Val) : Val := (bif (kind == 8) then (ofTruth (andTruth (truth a) (truth b))) else (bif (kind == 9) then (ofTruth (notTruth (andTruth (notTruth (truth a)) (notTruth (truth b))))) else (bif (bif (Val.Null a) then true else (Val.Null b)) then (Val.mk true 0) else (bif (kind == 3) then (number ((Val.N a) + (Val.N b))) else (bif (kind == 4) then (number ((Val.N a) - (Val.N b))) else (bif (kind == 5) then (number ((Val.N a) * (Val.N b))) else (bif (kind == 6) then (Val.mk false (toInt ((Val.N a) == (Val.N b)))) else (Val.mk false (toInt (decide ((Val.N a) < (Val.N b))))))))))))

def combine_sp : FnSpec := mkSpec [.val (.int .i64), .val (.named 0), .val (.named 0)] [.val (.named 0)] (fun (kind : Int) (a : Val) (b : Val) => ((-9999 ≤ Val.N a ∧ Val.N a ≤ 9999) ∧ (-9999 ≤ Val.N b ∧ Val.N b ≤ 9999))) (fun (kind : Int) (a : Val) (b : Val) => [⟨(.named 0), (combine kind a b)⟩])

theorem combine_ok : FnOK Try.prog 156 combine_sp := by
  have hC : CtxOK Try.prog (mkCtx tyL [(148, toInt_sp), (149, truth_sp), (154, ofTruth_sp), (155, notTruth_sp), (167, andTruth_sp), (168, number_sp)]) := CtxOK.cons toInt_ok (CtxOK.cons truth_ok (CtxOK.cons ofTruth_ok (CtxOK.cons notTruth_ok (CtxOK.cons andTruth_ok (CtxOK.cons number_ok (CtxOK.nil tyOK))))))
  have hM : Try.prog.follows .mixedOrders = true := Try.checked.mixed
  refine FnOK.of_body Try.func156 (by kernel_rfl) rfl (C := (mkCtx tyL [(148, toInt_sp), (149, truth_sp), (154, ofTruth_sp), (155, notTruth_sp), (167, andTruth_sp), (168, number_sp)])) hC.ty (by kernel_rfl) ?_
  intro (kind : Int) (a : Val) (b : Val) hwf hpre E
  have hpre : ((-9999 ≤ Val.N a ∧ Val.N a ≤ 9999) ∧ (-9999 ≤ Val.N b ∧ Val.N b ≤ 9999)) := hpre
  have hw_kind : Wf ⟨(.int .i64), (kind : Int)⟩ := hwf _ (List.Mem.head _)
  have hr_kind : -9223372036854775808 ≤ kind ∧ kind ≤ 9223372036854775807 := hw_kind.int_inv
  have hw_a : Wf ⟨(.named 0), (a : Val)⟩ := hwf _ (List.Mem.tail _ (List.Mem.head _))
  have hr_a_N : -9223372036854775808 ≤ Val.N a ∧ Val.N a ≤ 9223372036854775807 := (hw_a.field (tv := ⟨(.int .i64), Val.N a⟩) (List.Mem.tail _ (List.Mem.head _))).int_inv
  have hw_b : Wf ⟨(.named 0), (b : Val)⟩ := hwf _ (List.Mem.tail _ (List.Mem.tail _ (List.Mem.head _)))
  have hr_b_N : -9223372036854775808 ≤ Val.N b ∧ Val.N b ≤ 9223372036854775807 := (hw_b.field (tv := ⟨(.int .i64), Val.N b⟩) (List.Mem.tail _ (List.Mem.head _))).int_inv
  have e0 : combine kind a b = combine kind a b := rfl
  refine AW.seq ?_
  refine AW.reg hC  false [] [0, 4, 5, 6] [16, 20, 24]
    ⟨[(0, .int .i64 kind), (4, .ref 16 1 0), (5, .ref 20 1 0), (6, .ref 24 1 0)], [(16, .box 1 [.bool (Val.Null a), .int .i64 (Val.N a)]), (20, .box 1 [.bool (Val.Null b), .int .i64 (Val.N b)]), (24, .box 1 [.bool false, .int .i64 0])]⟩
    [] (by kernel_rfl) ?_ ?_
  · exact trivial
  refine AW.seq ?_
  refine AW.seq ?_
  refine AW.reg hC  false [] [0, 4, 5, 6, 7] [16, 20, 24]
    ⟨[(0, .int .i64 kind), (4, .ref 16 1 0), (5, .ref 20 1 0), (6, .ref 24 1 0), (7, .int .i64 kind)], [(16, .box 1 [.bool (Val.Null a), .int .i64 (Val.N a)]), (20, .box 1 [.bool (Val.Null b), .int .i64 (Val.N b)]), (24, .box 1 [.bool false, .int .i64 0])]⟩
    [] (by kernel_rfl) ?_ ?_
  · exact trivial
  refine AW.block ?_
  refine AW.seq ?_
  refine AW.reg hC  false [] [0, 4, 5, 6, 7, 8] [16, 20, 24]
    ⟨[(0, .int .i64 kind), (4, .ref 16 1 0), (5, .ref 20 1 0), (6, .ref 24 1 0), (7, .int .i64 kind), (8, .bool (kind == 8))], [(16, .box 1 [.bool (Val.Null a), .int .i64 (Val.N a)]), (20, .box 1 [.bool (Val.Null b), .int .i64 (Val.N b)]), (24, .box 1 [.bool false, .int .i64 0])]⟩
    [] (by kernel_rfl) ?_ ?_
  · exact trivial
  refine AW.cond (b := (kind == 8)) (by kernel_rfl) ?_ ?_
  · intro h1
    have h1q : kind = 8 := (Go.Am.beq_pos h1)
    have e2 := e0.trans (Go.Am.bif_t h1)
    refine AW.seq ?_
    refine AW.regD hC hM  false [] [6] [24]
      ⟨[(6, .ref 24 1 0)], [(24, .box 1 [.bool (Val.Null (ofTruth (andTruth (truth a) (truth b)))), .int .i64 (Val.N (ofTruth (andTruth (truth a) (truth b))))])]⟩
      [(True), (True), (True), (True)] (by kernel_rfl) ?_ ?_
    · refine ⟨?_, ?_, ?_, ?_, trivial⟩
      · trivial
      · trivial
      · trivial
      · trivial
    refine AW.ret ?_
    exact AW.retE (β := Val) (fun v => [⟨(.named 0), v⟩]) (fun v => []) (v := (ofTruth (andTruth (truth a) (truth b)))) e2 (by kernel_rfl) rfl rfl
  · intro h3
    have h3q : kind ≠ 8 := (Go.Am.beq_neg h3)
    have e4 := e0.trans (Go.Am.bif_f h3)
    refine AW.seq ?_
    refine AW.reg hC  false [] [0, 4, 5, 6, 16] [16, 20, 24]
      ⟨[(0, .int .i64 kind), (4, .ref 16 1 0), (5, .ref 20 1 0), (6, .ref 24 1 0), (16, .bool (kind == 9))], [(16, .box 1 [.bool (Val.Null a), .int .i64 (Val.N a)]), (20, .box 1 [.bool (Val.Null b), .int .i64 (Val.N b)]), (24, .box 1 [.bool false, .int .i64 0])]⟩
      [] (by kernel_rfl) ?_ ?_
    · exact trivial
    refine AW.cond (b := (kind == 9)) (by kernel_rfl) ?_ ?_
    · intro h5
      have h5q : kind = 9 := (Go.Am.beq_pos h5)
      have e6 := e4.trans (Go.Am.bif_t h5)
      refine AW.seq ?_
      refine AW.regD hC hM  false [] [6] [24]
        ⟨[(6, .ref 24 1 0)], [(24, .box 1 [.bool (Val.Null (ofTruth (notTruth (andTruth (notTruth (truth a)) (notTruth (truth b)))))), .int .i64 (Val.N (ofTruth (notTruth (andTruth (notTruth (truth a)) (notTruth (truth b))))))])]⟩
        [(True), (0 ≤ (truth a) ∧ (truth a) ≤ 2), (True), (0 ≤ (truth b) ∧ (truth b) ≤ 2), (True), (0 ≤ (andTruth (notTruth (truth a)) (notTruth (truth b))) ∧ (andTruth (notTruth (truth a)) (notTruth (truth b))) ≤ 2), (True)] (by kernel_rfl) ?_ ?_
      · refine ⟨?_, ?_, ?_, ?_, ?_, ?_, ?_, trivial⟩
        · trivial
        ·
          have := truth_b a; have := truth_b b; have := andTruth_b (notTruth (truth a)) (notTruth (truth b)); omega
        · trivial
        ·
          have := truth_b a; have := truth_b b; have := andTruth_b (notTruth (truth a)) (notTruth (truth b)); omega
        · trivial
        ·
          have := truth_b a; have := truth_b b; have := andTruth_b (notTruth (truth a)) (notTruth (truth b)); omega
        · trivial
      refine AW.ret ?_
      exact AW.retE (β := Val) (fun v => [⟨(.named 0), v⟩]) (fun v => []) (v := (ofTruth (notTruth (andTruth (notTruth (truth a)) (notTruth (truth b)))))) e6 (by kernel_rfl) rfl rfl
    · intro h7
      have h7q : kind ≠ 9 := (Go.Am.beq_neg h7)
      have e8 := e4.trans (Go.Am.bif_f h7)
      refine AW.keep [0, 4, 5, 6] [16, 20, 24] ⟨[(0, .int .i64 kind), (4, .ref 16 1 0), (5, .ref 20 1 0), (6, .ref 24 1 0)], [(16, .box 1 [.bool (Val.Null a), .int .i64 (Val.N a)]), (20, .box 1 [.bool (Val.Null b), .int .i64 (Val.N b)]), (24, .box 1 [.bool false, .int .i64 0])]⟩ (by kernel_rfl) ?_
      refine AW.skip ?_
      refine AW.seq ?_
      refine AW.seq ?_
      refine AW.reg hC  false [] [0, 4, 5, 6, 32] [16, 20, 24]
        ⟨[(0, .int .i64 kind), (4, .ref 16 1 0), (5, .ref 20 1 0), (6, .ref 24 1 0), (32, .bool (bif (Val.Null a) then true else (Val.Null b)))], [(16, .box 1 [.bool (Val.Null a), .int .i64 (Val.N a)]), (20, .box 1 [.bool (Val.Null b), .int .i64 (Val.N b)]), (24, .box 1 [.bool false, .int .i64 0])]⟩
        [(((Val.Null a) = false) → (((Val.Null a) = false))), (((Val.Null a) = false) → (((Val.Null a) = false)))] (by kernel_rfl) ?_ ?_
      · refine ⟨?_, ?_, trivial⟩
        · intro g9
          have g9p0 : (Val.Null a) = false := g9
          first | assumption | exact ⟨by assumption, by assumption⟩
        · intro g10
          have g10p0 : (Val.Null a) = false := g10
          first | assumption | exact ⟨by assumption, by assumption⟩
      refine AW.cond (b := (bif (Val.Null a) then true else (Val.Null b))) (by kernel_rfl) ?_ ?_
      · intro h11
        have h11q : ((Val.Null a) = true) ∨ ((Val.Null b) = true) := (Or.imp (fun h => h) (fun h => h) (Go.Am.or_pos h11))
        have e12 := e8.trans (Go.Am.bif_t h11)
        refine AW.seq ?_
        refine AW.reg hC  false [] [6] [24]
          ⟨[(6, .ref 24 1 0)], [(24, .box 1 [.bool true, .int .i64 0])]⟩
          [] (by kernel_rfl) ?_ ?_
        · exact trivial
        refine AW.ret ?_
        exact AW.retE (β := Val) (fun v => [⟨(.named 0), v⟩]) (fun v => []) (v := (Val.mk true 0)) e12 (by kernel_rfl) rfl rfl
      · intro h13
        have h13q : ((Val.Null a) = false) ∧ ((Val.Null b) = false) := (And.imp (fun h => h) (fun h => h) (Go.Am.or_neg h13))
        have e14 := e8.trans (Go.Am.bif_f h13)
        refine AW.keep [0, 4, 5, 6] [16, 20, 24] ⟨[(0, .int .i64 kind), (4, .ref 16 1 0), (5, .ref 20 1 0), (6, .ref 24 1 0)], [(16, .box 1 [.bool (Val.Null a), .int .i64 (Val.N a)]), (20, .box 1 [.bool (Val.Null b), .int .i64 (Val.N b)]), (24, .box 1 [.bool false, .int .i64 0])]⟩ (by kernel_rfl) ?_
        refine AW.skip ?_
        refine AW.seq ?_
        refine AW.seq ?_
        refine AW.reg hC  false [] [4, 5, 6, 34] [16, 20, 24]
          ⟨[(4, .ref 16 1 0), (5, .ref 20 1 0), (6, .ref 24 1 0), (34, .int .i64 kind)], [(16, .box 1 [.bool (Val.Null a), .int .i64 (Val.N a)]), (20, .box 1 [.bool (Val.Null b), .int .i64 (Val.N b)]), (24, .box 1 [.bool false, .int .i64 0])]⟩
          [] (by kernel_rfl) ?_ ?_
        · exact trivial
        refine AW.block ?_
        refine AW.seq ?_
        refine AW.reg hC  false [] [4, 5, 6, 34, 35] [16, 20, 24]
          ⟨[(4, .ref 16 1 0), (5, .ref 20 1 0), (6, .ref 24 1 0), (34, .int .i64 kind), (35, .bool (kind == 3))], [(16, .box 1 [.bool (Val.Null a), .int .i64 (Val.N a)]), (20, .box 1 [.bool (Val.Null b), .int .i64 (Val.N b)]), (24, .box 1 [.bool false, .int .i64 0])]⟩
          [] (by kernel_rfl) ?_ ?_
        · exact trivial
        refine AW.cond (b := (kind == 3)) (by kernel_rfl) ?_ ?_
        · intro h15
          have h15q : kind = 3 := (Go.Am.beq_pos h15)
          have e16 := e14.trans (Go.Am.bif_t h15)
          refine AW.seq ?_
          refine AW.reg hC  false [] [6] [24]
            ⟨[(6, .ref 24 1 0)], [(24, .box 1 [.bool (Val.Null (number ((Val.N a) + (Val.N b)))), .int .i64 (Val.N (number ((Val.N a) + (Val.N b))))])]⟩
            [(-9223372036854775808 ≤ ((Val.N a) + (Val.N b)) ∧ ((Val.N a) + (Val.N b)) ≤ 9223372036854775807), (True)] (by kernel_rfl) ?_ ?_
          · refine ⟨?_, ?_, trivial⟩
            ·
              have := truth_b a; have := truth_b b; have := andTruth_b (notTruth (truth a)) (notTruth (truth b)); omega
            · trivial
          refine AW.ret ?_
          exact AW.retE (β := Val) (fun v => [⟨(.named 0), v⟩]) (fun v => []) (v := (number ((Val.N a) + (Val.N b)))) e16 (by kernel_rfl) rfl rfl
        · intro h17
          have h17q : kind ≠ 3 := (Go.Am.beq_neg h17)
          have e18 := e14.trans (Go.Am.bif_f h17)
          refine AW.seq ?_
          refine AW.reg hC  false [] [4, 5, 6, 34, 43] [16, 20, 24]
            ⟨[(4, .ref 16 1 0), (5, .ref 20 1 0), (6, .ref 24 1 0), (34, .int .i64 kind), (43, .bool (kind == 4))], [(16, .box 1 [.bool (Val.Null a), .int .i64 (Val.N a)]), (20, .box 1 [.bool (Val.Null b), .int .i64 (Val.N b)]), (24, .box 1 [.bool false, .int .i64 0])]⟩
            [] (by kernel_rfl) ?_ ?_
          · exact trivial
          refine AW.cond (b := (kind == 4)) (by kernel_rfl) ?_ ?_
          · intro h19
            have h19q : kind = 4 := (Go.Am.beq_pos h19)
            have e20 := e18.trans (Go.Am.bif_t h19)
            refine AW.seq ?_
            refine AW.reg hC  false [] [6] [24]
              ⟨[(6, .ref 24 1 0)], [(24, .box 1 [.bool (Val.Null (number ((Val.N a) - (Val.N b)))), .int .i64 (Val.N (number ((Val.N a) - (Val.N b))))])]⟩
              [(-9223372036854775808 ≤ ((Val.N a) - (Val.N b)) ∧ ((Val.N a) - (Val.N b)) ≤ 9223372036854775807), (True)] (by kernel_rfl) ?_ ?_
            · refine ⟨?_, ?_, trivial⟩
              ·
                have := truth_b a; have := truth_b b; have := andTruth_b (notTruth (truth a)) (notTruth (truth b)); omega
              · trivial
            refine AW.ret ?_
            exact AW.retE (β := Val) (fun v => [⟨(.named 0), v⟩]) (fun v => []) (v := (number ((Val.N a) - (Val.N b)))) e20 (by kernel_rfl) rfl rfl
          · intro h21
            have h21q : kind ≠ 4 := (Go.Am.beq_neg h21)
            have e22 := e18.trans (Go.Am.bif_f h21)
            refine AW.seq ?_
            refine AW.reg hC  false [] [4, 5, 6, 34, 51] [16, 20, 24]
              ⟨[(4, .ref 16 1 0), (5, .ref 20 1 0), (6, .ref 24 1 0), (34, .int .i64 kind), (51, .bool (kind == 5))], [(16, .box 1 [.bool (Val.Null a), .int .i64 (Val.N a)]), (20, .box 1 [.bool (Val.Null b), .int .i64 (Val.N b)]), (24, .box 1 [.bool false, .int .i64 0])]⟩
              [] (by kernel_rfl) ?_ ?_
            · exact trivial
            refine AW.cond (b := (kind == 5)) (by kernel_rfl) ?_ ?_
            · intro h23
              have h23q : kind = 5 := (Go.Am.beq_pos h23)
              have e24 := e22.trans (Go.Am.bif_t h23)
              refine AW.seq ?_
              refine AW.reg hC  false [] [6] [24]
                ⟨[(6, .ref 24 1 0)], [(24, .box 1 [.bool (Val.Null (number ((Val.N a) * (Val.N b)))), .int .i64 (Val.N (number ((Val.N a) * (Val.N b))))])]⟩
                [(-9223372036854775808 ≤ ((Val.N a) * (Val.N b)) ∧ ((Val.N a) * (Val.N b)) ≤ 9223372036854775807), (True)] (by kernel_rfl) ?_ ?_
              · refine ⟨?_, ?_, trivial⟩
                ·
                  have := mul_b hpre.1 hpre.2
                  omega
                · trivial
              refine AW.ret ?_
              exact AW.retE (β := Val) (fun v => [⟨(.named 0), v⟩]) (fun v => []) (v := (number ((Val.N a) * (Val.N b)))) e24 (by kernel_rfl) rfl rfl
            · intro h25
              have h25q : kind ≠ 5 := (Go.Am.beq_neg h25)
              have e26 := e22.trans (Go.Am.bif_f h25)
              refine AW.seq ?_
              refine AW.reg hC  false [] [4, 5, 6, 59] [16, 20, 24]
                ⟨[(4, .ref 16 1 0), (5, .ref 20 1 0), (6, .ref 24 1 0), (59, .bool (kind == 6))], [(16, .box 1 [.bool (Val.Null a), .int .i64 (Val.N a)]), (20, .box 1 [.bool (Val.Null b), .int .i64 (Val.N b)]), (24, .box 1 [.bool false, .int .i64 0])]⟩
                [] (by kernel_rfl) ?_ ?_
              · exact trivial
              refine AW.cond (b := (kind == 6)) (by kernel_rfl) ?_ ?_
              · intro h27
                have h27q : kind = 6 := (Go.Am.beq_pos h27)
                have e28 := e26.trans (Go.Am.bif_t h27)
                refine AW.seq ?_
                refine AW.reg hC  false [] [6] [24]
                  ⟨[(6, .ref 24 1 0)], [(24, .box 1 [.bool false, .int .i64 (toInt ((Val.N a) == (Val.N b)))])]⟩
                  [(True)] (by kernel_rfl) ?_ ?_
                · refine ⟨?_, trivial⟩
                  · trivial
                refine AW.ret ?_
                exact AW.retE (β := Val) (fun v => [⟨(.named 0), v⟩]) (fun v => []) (v := (Val.mk false (toInt ((Val.N a) == (Val.N b))))) e28 (by kernel_rfl) rfl rfl
              · intro h29
                have h29q : kind ≠ 6 := (Go.Am.beq_neg h29)
                have e30 := e26.trans (Go.Am.bif_f h29)
                refine AW.keep [4, 5, 6] [16, 20, 24] ⟨[(4, .ref 16 1 0), (5, .ref 20 1 0), (6, .ref 24 1 0)], [(16, .box 1 [.bool (Val.Null a), .int .i64 (Val.N a)]), (20, .box 1 [.bool (Val.Null b), .int .i64 (Val.N b)]), (24, .box 1 [.bool false, .int .i64 0])]⟩ (by kernel_rfl) ?_
                refine AW.skip ?_
                refine AW.seq ?_
                refine AW.reg hC  false [] [6] [24]
                  ⟨[(6, .ref 24 1 0)], [(24, .box 1 [.bool false, .int .i64 (toInt (decide ((Val.N a) < (Val.N b))))])]⟩
                  [(True)] (by kernel_rfl) ?_ ?_
                · refine ⟨?_, trivial⟩
                  · trivial
                refine AW.ret ?_
                exact AW.retE (β := Val) (fun v => [⟨(.named 0), v⟩]) (fun v => []) (v := (Val.mk false (toInt (decide ((Val.N a) < (Val.N b)))))) e30 (by kernel_rfl) rfl rfl

def examples_l0 (set : Int) : Nat → Nat → (List Val) → (List Val)
  | 0, v11, list => list
  | k + 1, v11, list => (bif (decide (((v11 : Nat) : Int) < ((List.length ([(inumber 0), (inumber 1), inull] : List Val) : Nat) : Int))) then (bif ((bits .and .i64 set (istateOf (List.getD ([(inumber 0), (inumber 1), inull] : List Val) v11 Val.zero))) != 0) then (examples_l0 set k (v11 + 1) (list ++ ([(List.getD ([(inumber 0), (inumber 1), inull] : List Val) v11 Val.zero)] : List Val))) else (examples_l0 set k (v11 + 1) list)) else list)

def examples (set : Int) : (List Val) := (Go.Am.andThen (examples_l0 set ((List.length ([(inumber 0), (inumber 1), inull] : List Val)) - 0 + 1) 0 ([] : List Val)) (fun z => (fun (list : List Val) => list) z))

def examples_sp : FnSpec := mkSpec [.val (.int .i64)] [.own (.named 0)] (fun (set : Int) => True) (fun (set : Int) => [⟨(.slice (.named 0)), (examples set)⟩])

theorem examples_ok : FnOK Try.prog 164 examples_sp := by
  have hC : CtxOK Try.prog (mkCtx tyL [(139, istateOf_sp), (162, inull_sp), (169, inumber_sp)]) := CtxOK.cons istateOf_ok (CtxOK.cons inull_ok (CtxOK.cons inumber_ok (CtxOK.nil tyOK)))
  refine FnOK.of_body Try.func164 (by kernel_rfl) rfl (C := (mkCtx tyL [(139, istateOf_sp), (162, inull_sp), (169, inumber_sp)])) hC.ty (by kernel_rfl) ?_
  intro (set : Int) hwf hpre E
  have hpre : True := hpre
  have hw_set : Wf ⟨(.int .i64), (set : Int)⟩ := hwf _ (List.Mem.head _)
  have hr_set : -9223372036854775808 ≤ set ∧ set ≤ 9223372036854775807 := hw_set.int_inv
  have e0 : examples set = examples set := rfl
  refine AW.seq ?_
  refine AW.reg hC  false [] [0] []
    ⟨[(0, .int .i64 set)], []⟩
    [] (by kernel_rfl) ?_ ?_
  · exact trivial
  refine AW.seq ?_
  refine AW.reg hC  false [] [0, 3] []
    ⟨[(0, .int .i64 set), (3, .nilsl)], []⟩
    [] (by kernel_rfl) ?_ ?_
  · exact trivial
  refine AW.seq ?_
  refine AW.seq ?_
  refine AW.reg hC  false [] [0, 3, 9, 10, 11] [36]
    ⟨[(0, .int .i64 set), (3, .nilsl), (9, .arr 36 1), (10, .int .i64 ((List.length ([(inumber 0), (inumber 1), inull] : List Val) : Nat) : Int)), (11, .int .i64 0)], [(36, .arr 1 (.named 0) (([(inumber 0), (inumber 1), inull] : List Val) : List Val))]⟩
    [(True), (True), (True)] (by kernel_rfl) ?_ ?_
  · refine ⟨?_, ?_, ?_, trivial⟩
    · trivial
    · trivial
    · trivial
  refine AW.adopt 3 92 (.named 0) (by kernel_rfl) (by kernel_rfl) ?_
  refine AW.keep [0, 3, 9, 10, 11] [36, 92] ⟨[(0, .int .i64 set), (3, .arr 92 1), (9, .arr 36 1), (10, .int .i64 ((List.length ([(inumber 0), (inumber 1), inull] : List Val) : Nat) : Int)), (11, .int .i64 0)], [(36, .arr 1 (.named 0) (([(inumber 0), (inumber 1), inull] : List Val) : List Val)), (92, .arr 1 (.named 0) (([] : List Val) : List Val))]⟩ (by kernel_rfl) ?_
  refine AW.cutQ (α := (List Val)) (fun x => ⟨[(3, .arr 92 1)], [(92, .arr 1 (.named 0) (x : List Val))]⟩) (fun x => (True) ∧ (examples_l0 set ((List.length ([(inumber 0), (inumber 1), inull] : List Val)) - 0 + 1) 0 ([] : List Val)) = x) ?_ ?_
  · skip
    refine AW.block ?_
    refine AW.loop (α := Nat × (List Val)) (fun x => ⟨[(0, .int .i64 set), (3, .arr 92 1), (9, .arr 36 1), (10, .int .i64 ((List.length ([(inumber 0), (inumber 1), inull] : List Val) : Nat) : Int)), (11, .int .i64 ((x.1 : Nat) : Int))], [(36, .arr 1 (.named 0) (([(inumber 0), (inumber 1), inull] : List Val) : List Val)), (92, .arr 1 (.named 0) (x.2 : List Val))]⟩) (fun x => ((List.length x.2 : Int) ≤ x.1) ∧ ∃ k, (List.length ([(inumber 0), (inumber 1), inull] : List Val)) - x.1 < k ∧ (examples_l0 set ((List.length ([(inumber 0), (inumber 1), inull] : List Val)) - 0 + 1) 0 ([] : List Val)) = examples_l0 set k x.1 x.2) (fun x => (List.length ([(inumber 0), (inumber 1), inull] : List Val)) - x.1) (0, ([] : List Val)) (by kernel_rfl) ⟨?_, _, Nat.lt_succ_self _, rfl⟩ ?_
    · show (List.length ([] : List Val) : Int) ≤ 0
      first | exact trivial | (refine ⟨?_, ?_⟩ <;> first | omega | simp) | omega | simp
    · intro x hR
      obtain ⟨v11, list⟩ := x
      obtain ⟨hI0, k35, hk33, e34⟩ := hR
      replace hI0 : (List.length list : Int) ≤ v11 := hI0
      replace hk33 : (List.length ([(inumber 0), (inumber 1), inull] : List Val)) - v11 < k35 := hk33
      obtain ⟨k35q, rfl⟩ : ∃ k, k35 = k + 1 := ⟨k35 - 1, by omega⟩
      refine AW.seq ?_
      refine AW.reg hC  false [] [0, 3, 9, 10, 11, 12] [36, 92]
        ⟨[(0, .int .i64 set), (3, .arr 92 1), (9, .arr 36 1), (10, .int .i64 ((List.length ([(inumber 0), (inumber 1), inull] : List Val) : Nat) : Int)), (11, .int .i64 ((v11 : Nat) : Int)), (12, .bool (decide (((v11 : Nat) : Int) < ((List.length ([(inumber 0), (inumber 1), inull] : List Val) : Nat) : Int))))], [(36, .arr 1 (.named 0) (([(inumber 0), (inumber 1), inull] : List Val) : List Val)), (92, .arr 1 (.named 0) (list : List Val))]⟩
        [] (by kernel_rfl) ?_ ?_
      · exact trivial
      refine AW.seq ?_
      refine AW.cond (b := (decide (((v11 : Nat) : Int) < ((List.length ([(inumber 0), (inumber 1), inull] : List Val) : Nat) : Int)))) (by kernel_rfl) ?_ ?_
      · intro h36
        have h36q : ((v11 : Nat) : Int) < ((List.length ([(inumber 0), (inumber 1), inull] : List Val) : Nat) : Int) := (of_decide_eq_true h36)
        have e37 := e34.trans (Go.Am.bif_t h36)
        refine AW.keep [0, 3, 9, 10, 11] [36, 92] ⟨[(0, .int .i64 set), (3, .arr 92 1), (9, .arr 36 1), (10, .int .i64 ((List.length ([(inumber 0), (inumber 1), inull] : List Val) : Nat) : Int)), (11, .int .i64 ((v11 : Nat) : Int))], [(36, .arr 1 (.named 0) (([(inumber 0), (inumber 1), inull] : List Val) : List Val)), (92, .arr 1 (.named 0) (list : List Val))]⟩ (by kernel_rfl) ?_
        refine AW.skip ?_
        refine AW.seq ?_
        refine AW.block ?_
        refine AW.seq ?_
        refine AW.reg hC  false [] [0, 3, 5, 9, 10, 11] [20, 36, 92]
          ⟨[(0, .int .i64 set), (3, .arr 92 1), (5, .ref 20 1 0), (9, .arr 36 1), (10, .int .i64 ((List.length ([(inumber 0), (inumber 1), inull] : List Val) : Nat) : Int)), (11, .int .i64 ((v11 : Nat) : Int))], [(20, .box 1 [.bool (Val.Null (List.getD ([(inumber 0), (inumber 1), inull] : List Val) v11 Val.zero)), .int .i64 (Val.N (List.getD ([(inumber 0), (inumber 1), inull] : List Val) v11 Val.zero))]), (36, .arr 1 (.named 0) (([(inumber 0), (inumber 1), inull] : List Val) : List Val)), (92, .arr 1 (.named 0) (list : List Val))]⟩
          [(0 ≤ ((v11 : Nat) : Int) ∧ ((v11 : Nat) : Int) < ((List.length ([(inumber 0), (inumber 1), inull] : List Val) : Nat) : Int))] (by kernel_rfl) ?_ ?_
        · refine ⟨?_, trivial⟩
          ·
            first | omega | (simp only [List.length_append, List.length_cons, List.length_nil]; omega) | (simp only [List.length_append, List.length_cons, List.length_nil] at *; omega)
        refine AW.seq ?_
        refine AW.reg hC  false [] [0, 3, 5, 9, 10, 11, 19] [20, 36, 92]
          ⟨[(0, .int .i64 set), (3, .arr 92 1), (5, .ref 20 1 0), (9, .arr 36 1), (10, .int .i64 ((List.length ([(inumber 0), (inumber 1), inull] : List Val) : Nat) : Int)), (11, .int .i64 ((v11 : Nat) : Int)), (19, .bool ((bits .and .i64 set (istateOf (List.getD ([(inumber 0), (inumber 1), inull] : List Val) v11 Val.zero))) != 0))], [(20, .box 1 [.bool (Val.Null (List.getD ([(inumber 0), (inumber 1), inull] : List Val) v11 Val.zero)), .int .i64 (Val.N (List.getD ([(inumber 0), (inumber 1), inull] : List Val) v11 Val.zero))]), (36, .arr 1 (.named 0) (([(inumber 0), (inumber 1), inull] : List Val) : List Val)), (92, .arr 1 (.named 0) (list : List Val))]⟩
          [(True)] (by kernel_rfl) ?_ ?_
        · refine ⟨?_, trivial⟩
          · trivial
        refine AW.cond (b := ((bits .and .i64 set (istateOf (List.getD ([(inumber 0), (inumber 1), inull] : List Val) v11 Val.zero))) != 0)) (by kernel_rfl) ?_ ?_
        · intro h38
          have h38q : (bits .and .i64 set (istateOf (List.getD ([(inumber 0), (inumber 1), inull] : List Val) v11 Val.zero))) ≠ 0 := (Go.Am.bne_pos h38)
          have e39 := e37.trans (Go.Am.bif_t h38)
          refine AW.reg hC  false [] [0, 3, 9, 10, 11] [36, 92]
            ⟨[(0, .int .i64 set), (3, .arr 92 1), (9, .arr 36 1), (10, .int .i64 ((List.length ([(inumber 0), (inumber 1), inull] : List Val) : Nat) : Int)), (11, .int .i64 ((v11 : Nat) : Int))], [(36, .arr 1 (.named 0) (([(inumber 0), (inumber 1), inull] : List Val) : List Val)), (92, .arr 1 (.named 0) ((list ++ ([(List.getD ([(inumber 0), (inumber 1), inull] : List Val) v11 Val.zero)] : List Val)) : List Val))]⟩
            [(((List.length list : Nat) : Int) + ((List.length ([(List.getD ([(inumber 0), (inumber 1), inull] : List Val) v11 Val.zero)] : List Val) : Nat) : Int) ≤ 4294967296)] (by kernel_rfl) ?_ ?_
          · refine ⟨?_, trivial⟩
            ·
              first | omega | (simp only [List.length_append, List.length_cons, List.length_nil]; omega) | (simp only [List.length_append, List.length_cons, List.length_nil] at *; omega)
          refine AW.reg hC  false [] [0, 3, 9, 10, 11] [36, 92]
            ⟨[(0, .int .i64 set), (3, .arr 92 1), (9, .arr 36 1), (10, .int .i64 ((List.length ([(inumber 0), (inumber 1), inull] : List Val) : Nat) : Int)), (11, .int .i64 ((v11 + 1 : Nat) : Int))], [(36, .arr 1 (.named 0) (([(inumber 0), (inumber 1), inull] : List Val) : List Val)), (92, .arr 1 (.named 0) ((list ++ ([(List.getD ([(inumber 0), (inumber 1), inull] : List Val) v11 Val.zero)] : List Val)) : List Val))]⟩
            [(-9223372036854775808 ≤ ((v11 + 1 : Nat) : Int) ∧ ((v11 + 1 : Nat) : Int) ≤ 9223372036854775807)] (by kernel_rfl) ?_ ?_
          · refine ⟨?_, trivial⟩
            ·
              first | omega | (simp only [List.length_append, List.length_cons, List.length_nil]; omega) | (simp only [List.length_append, List.length_cons, List.length_nil] at *; omega)
          refine AW.back (x := (v11, list)) (v11 + 1, (list ++ ([(List.getD ([(inumber 0), (inumber 1), inull] : List Val) v11 Val.zero)] : List Val))) (by kernel_rfl) ⟨?_, k35q, ?_, e39⟩ ?_
          · show (List.length (list ++ ([(List.getD ([(inumber 0), (inumber 1), inull] : List Val) v11 Val.zero)] : List Val)) : Int) ≤ (v11 + 1)
            first | assumption | exact trivial | (refine ⟨?_, ?_⟩ <;> first | omega | (simp only [lens] at *; omega)) | omega | (simp only [lens] at *; omega)
          · show (List.length ([(inumber 0), (inumber 1), inull] : List Val)) - (v11 + 1) < k35q
            first | omega | (simp only [lens]; omega)
          · show (List.length ([(inumber 0), (inumber 1), inull] : List Val)) - (v11 + 1) < (List.length ([(inumber 0), (inumber 1), inull] : List Val)) - v11
            first | omega | (simp only [lens]; omega)
        · intro h40
          have h40q : (bits .and .i64 set (istateOf (List.getD ([(inumber 0), (inumber 1), inull] : List Val) v11 Val.zero))) = 0 := (Go.Am.bne_neg h40)
          have e41 := e37.trans (Go.Am.bif_f h40)
          refine AW.keep [0, 3, 9, 10, 11] [36, 92] ⟨[(0, .int .i64 set), (3, .arr 92 1), (9, .arr 36 1), (10, .int .i64 ((List.length ([(inumber 0), (inumber 1), inull] : List Val) : Nat) : Int)), (11, .int .i64 ((v11 : Nat) : Int))], [(36, .arr 1 (.named 0) (([(inumber 0), (inumber 1), inull] : List Val) : List Val)), (92, .arr 1 (.named 0) (list : List Val))]⟩ (by kernel_rfl) ?_
          refine AW.skip ?_
          refine AW.reg hC  false [] [0, 3, 9, 10, 11] [36, 92]
            ⟨[(0, .int .i64 set), (3, .arr 92 1), (9, .arr 36 1), (10, .int .i64 ((List.length ([(inumber 0), (inumber 1), inull] : List Val) : Nat) : Int)), (11, .int .i64 ((v11 + 1 : Nat) : Int))], [(36, .arr 1 (.named 0) (([(inumber 0), (inumber 1), inull] : List Val) : List Val)), (92, .arr 1 (.named 0) (list : List Val))]⟩
            [(-9223372036854775808 ≤ ((v11 + 1 : Nat) : Int) ∧ ((v11 + 1 : Nat) : Int) ≤ 9223372036854775807)] (by kernel_rfl) ?_ ?_
          · refine ⟨?_, trivial⟩
            ·
              first | omega | (simp only [List.length_append, List.length_cons, List.length_nil]; omega) | (simp only [List.length_append, List.length_cons, List.length_nil] at *; omega)
          refine AW.back (x := (v11, list)) (v11 + 1, list) (by kernel_rfl) ⟨?_, k35q, ?_, e41⟩ ?_
          · show (List.length list : Int) ≤ (v11 + 1)
            first | assumption | exact trivial | (refine ⟨?_, ?_⟩ <;> first | omega | (simp only [lens] at *; omega)) | omega | (simp only [lens] at *; omega)
          · show (List.length ([(inumber 0), (inumber 1), inull] : List Val)) - (v11 + 1) < k35q
            first | omega | (simp only [lens]; omega)
          · show (List.length ([(inumber 0), (inumber 1), inull] : List Val)) - (v11 + 1) < (List.length ([(inumber 0), (inumber 1), inull] : List Val)) - v11
            first | omega | (simp only [lens]; omega)
      · intro h42
        have h42q : ¬ (((v11 : Nat) : Int) < ((List.length ([(inumber 0), (inumber 1), inull] : List Val) : Nat) : Int)) := (of_decide_eq_false h42)
        have e43 := e34.trans (Go.Am.bif_f h42)
        refine AW.keep [3] [92] ⟨[(3, .arr 92 1)], [(92, .arr 1 (.named 0) (list : List Val))]⟩ (by kernel_rfl) ?_
        refine AW.exit ?_
        refine AW.meet list (by kernel_rfl) ⟨?_, e43⟩
        show True
        first | assumption | exact trivial | omega
  · intro list hR
    obtain ⟨hJ0, e44⟩ := hR
    replace hJ0 : True := hJ0
    have e45 := e0.trans (Go.Am.then_eq e44)
    refine AW.seq ?_
    refine AW.reg hC  false [] [2] [92]
      ⟨[(2, .arr 92 1)], [(92, .arr 1 (.named 0) (list : List Val))]⟩
      [] (by kernel_rfl) ?_ ?_
    · exact trivial
    refine AW.ret ?_
    exact AW.retE (β := (List Val)) (fun v => [⟨(.slice (.named 0)), v⟩]) (fun v => []) (v := list) e45 (by kernel_rfl) rfl rfl

end
end Go.Proofs.Ytodcdgolcbdkgaa
