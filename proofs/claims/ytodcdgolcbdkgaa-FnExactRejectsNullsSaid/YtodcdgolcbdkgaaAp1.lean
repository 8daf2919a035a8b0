/-
  A part of the proof of this claim (Ap1): what functions of the program compute, and plain facts of that. No conditions.
-/
import Derived.Test.YtodcdgolcbdkgaaApT
set_option linter.all false
namespace Go.Proofs.Ytodcdgolcbdkgaa
open Go Go.Am
noncomputable section

def inRange (n : Int) (low : Int) (high : Int) : Bool := (bif (decide (low ≤ n)) then (decide (n ≤ high)) else false)

def inRange_sp : FnSpec := mkSpec [.val (.int .i64), .val (.int .i64), .val (.int .i64)] [.val .bool] (fun (n : Int) (low : Int) (high : Int) => True) (fun (n : Int) (low : Int) (high : Int) => [⟨.bool, (inRange n low high)⟩])

theorem inRange_ok : FnOK Try.prog 88 inRange_sp := by
  have hC : CtxOK Try.prog (mkCtx tyL []) := CtxOK.nil tyOK
  refine FnOK.of_body Try.func88 (by kernel_rfl) rfl (C := (mkCtx tyL [])) hC.ty (by kernel_rfl) ?_
  intro (n : Int) (low : Int) (high : Int) hwf hpre E
  have hpre : True := hpre
  have hw_n : Wf ⟨(.int .i64), (n : Int)⟩ := hwf _ (List.Mem.head _)
  have hr_n : -9223372036854775808 ≤ n ∧ n ≤ 9223372036854775807 := hw_n.int_inv
  have hw_low : Wf ⟨(.int .i64), (low : Int)⟩ := hwf _ (List.Mem.tail _ (List.Mem.head _))
  have hr_low : -9223372036854775808 ≤ low ∧ low ≤ 9223372036854775807 := hw_low.int_inv
  have hw_high : Wf ⟨(.int .i64), (high : Int)⟩ := hwf _ (List.Mem.tail _ (List.Mem.tail _ (List.Mem.head _)))
  have hr_high : -9223372036854775808 ≤ high ∧ high ≤ 9223372036854775807 := hw_high.int_inv
  have e0 : inRange n low high = inRange n low high := rfl
  refine AW.seq ?_
  refine AW.reg hC  false [] [0, 1, 2] []
    ⟨[(0, .int .i64 n), (1, .int .i64 low), (2, .int .i64 high)], []⟩
    [] (by kernel_rfl) ?_ ?_
  · exact trivial
  refine AW.seq ?_
  refine AW.reg hC  false [] [6] []
    ⟨[(6, .bool (bif (decide (low ≤ n)) then (decide (n ≤ high)) else false))], []⟩
    [(((decide (low ≤ n)) = true) → (((decide (low ≤ n)) = true))), (((decide (low ≤ n)) = true) → (((decide (low ≤ n)) = true))), (((decide (low ≤ n)) = true) → (((decide (low ≤ n)) = true)))] (by kernel_rfl) ?_ ?_
  · refine ⟨?_, ?_, ?_, trivial⟩
    · intro g1
      have g1p0 : low ≤ n := (of_decide_eq_true g1)
      first | assumption | exact ⟨by assumption, by assumption⟩
    · intro g2
      have g2p0 : low ≤ n := (of_decide_eq_true g2)
      first | assumption | exact ⟨by assumption, by assumption⟩
    · intro g3
      have g3p0 : low ≤ n := (of_decide_eq_true g3)
      first | assumption | exact ⟨by assumption, by assumption⟩
  refine AW.ret ?_
  exact AW.retE (β := Bool) (fun v => [⟨.bool, v⟩]) (fun v => []) (v := (bif (decide (low ≤ n)) then (decide (n ≤ high)) else false)) e0 (by kernel_rfl) rfl rfl

def validWidth (width : Int) : Bool := (bif (decide (1 ≤ width)) then (decide (width ≤ 6)) else false)

def validWidth_sp : FnSpec := mkSpec [.val (.int .i64)] [.val .bool] (fun (width : Int) => True) (fun (width : Int) => [⟨.bool, (validWidth width)⟩])

theorem validWidth_ok : FnOK Try.prog 123 validWidth_sp := by
  have hC : CtxOK Try.prog (mkCtx tyL []) := CtxOK.nil tyOK
  refine FnOK.of_body Try.func123 (by kernel_rfl) rfl (C := (mkCtx tyL [])) hC.ty (by kernel_rfl) ?_
  intro (width : Int) hwf hpre E
  have hpre : True := hpre
  have hw_width : Wf ⟨(.int .i64), (width : Int)⟩ := hwf _ (List.Mem.head _)
  have hr_width : -9223372036854775808 ≤ width ∧ width ≤ 9223372036854775807 := hw_width.int_inv
  have e0 : validWidth width = validWidth width := rfl
  refine AW.seq ?_
  refine AW.reg hC  false [] [0] []
    ⟨[(0, .int .i64 width)], []⟩
    [] (by kernel_rfl) ?_ ?_
  · exact trivial
  refine AW.seq ?_
  refine AW.reg hC  false [] [2] []
    ⟨[(2, .bool (bif (decide (1 ≤ width)) then (decide (width ≤ 6)) else false))], []⟩
    [(((decide (1 ≤ width)) = true) → (((decide (1 ≤ width)) = true))), (((decide (1 ≤ width)) = true) → (((decide (1 ≤ width)) = true)))] (by kernel_rfl) ?_ ?_
  · refine ⟨?_, ?_, trivial⟩
    · intro g1
      have g1p0 : 1 ≤ width := (of_decide_eq_true g1)
      first | assumption | exact ⟨by assumption, by assumption⟩
    · intro g2
      have g2p0 : 1 ≤ width := (of_decide_eq_true g2)
      first | assumption | exact ⟨by assumption, by assumption⟩
  refine AW.ret ?_
  exact AW.retE (β := Bool) (fun v => [⟨.bool, v⟩]) (fun v => []) (v := (bif (decide (1 ≤ width)) then (decide (width ≤ 6)) else false)) e0 (by kernel_rfl) rfl rfl

def valValid (v : Val) : Bool := (bif (Val.Null v) then ((Val.N v) == 0) else (bif (decide ((-9999) ≤ (Val.N v))) then (decide ((Val.N v) ≤ 9999)) else false))

def valValid_sp : FnSpec := mkSpec [.val (.named 0)] [.val .bool] (fun (v : Val) => True) (fun (v : Val) => [⟨.bool, (valValid v)⟩])

theorem valValid_ok : FnOK Try.prog 158 valValid_sp := by
  have hC : CtxOK Try.prog (mkCtx tyL []) := CtxOK.nil tyOK
  refine FnOK.of_body Try.func158 (by kernel_rfl) rfl (C := (mkCtx tyL [])) hC.ty (by kernel_rfl) ?_
  intro (v : Val) hwf hpre E
  have hpre : True := hpre
  have hw_v : Wf ⟨(.named 0), (v : Val)⟩ := hwf _ (List.Mem.head _)
  have hr_v_N : -9223372036854775808 ≤ Val.N v ∧ Val.N v ≤ 9223372036854775807 := (hw_v.field (tv := ⟨(.int .i64), Val.N v⟩) (List.Mem.tail _ (List.Mem.head _))).int_inv
  have e0 : valValid v = valValid v := rfl
  refine AW.seq ?_
  refine AW.reg hC  false [] [1] [4]
    ⟨[(1, .ref 4 1 0)], [(4, .box 1 [.bool (Val.Null v), .int .i64 (Val.N v)])]⟩
    [] (by kernel_rfl) ?_ ?_
  · exact trivial
  refine AW.seq ?_
  refine AW.seq ?_
  refine AW.reg hC  false [] [1, 4] [4]
    ⟨[(1, .ref 4 1 0), (4, .bool (Val.Null v))], [(4, .box 1 [.bool (Val.Null v), .int .i64 (Val.N v)])]⟩
    [] (by kernel_rfl) ?_ ?_
  · exact trivial
  refine AW.cond (b := (Val.Null v)) (by kernel_rfl) ?_ ?_
  · intro h1
    have h1q : (Val.Null v) = true := h1
    have e2 := e0.trans (Go.Am.bif_t h1)
    refine AW.seq ?_
    refine AW.reg hC  false [] [2] []
      ⟨[(2, .bool ((Val.N v) == 0))], []⟩
      [] (by kernel_rfl) ?_ ?_
    · exact trivial
    refine AW.ret ?_
    exact AW.retE (β := Bool) (fun v => [⟨.bool, v⟩]) (fun v => []) (v := ((Val.N v) == 0)) e2 (by kernel_rfl) rfl rfl
  · intro h3
    have h3q : (Val.Null v) = false := h3
    have e4 := e0.trans (Go.Am.bif_f h3)
    refine AW.keep [1] [4] ⟨[(1, .ref 4 1 0)], [(4, .box 1 [.bool (Val.Null v), .int .i64 (Val.N v)])]⟩ (by kernel_rfl) ?_
    refine AW.skip ?_
    refine AW.seq ?_
    refine AW.reg hC  false [] [2] []
      ⟨[(2, .bool (bif (decide ((-9999) ≤ (Val.N v))) then (decide ((Val.N v) ≤ 9999)) else false))], []⟩
      [(((decide ((-9999) ≤ (Val.N v))) = true) → (((decide ((-9999) ≤ (Val.N v))) = true))), (((decide ((-9999) ≤ (Val.N v))) = true) → (((decide ((-9999) ≤ (Val.N v))) = true))), (((decide ((-9999) ≤ (Val.N v))) = true) → (((decide ((-9999) ≤ (Val.N v))) = true)))] (by kernel_rfl) ?_ ?_
    · refine ⟨?_, ?_, ?_, trivial⟩
      · intro g5
        have g5p0 : (-9999) ≤ (Val.N v) := (of_decide_eq_true g5)
        first | assumption | exact ⟨by assumption, by assumption⟩
      · intro g6
        have g6p0 : (-9999) ≤ (Val.N v) := (of_decide_eq_true g6)
        first | assumption | exact ⟨by assumption, by assumption⟩
      · intro g7
        have g7p0 : (-9999) ≤ (Val.N v) := (of_decide_eq_true g7)
        first | assumption | exact ⟨by assumption, by assumption⟩
    refine AW.ret ?_
    exact AW.retE (β := Bool) (fun v => [⟨.bool, v⟩]) (fun v => []) (v := (bif (decide ((-9999) ≤ (Val.N v))) then (decide ((Val.N v) ≤ 9999)) else false)) e4 (by kernel_rfl) rfl rfl

def validValue (v : Val) : Bool := (bif (inRange (Val.N v) (-9999) 9999) then (bif (!(Val.Null v)) then true else ((Val.N v) == 0)) else false)

def validValue_sp : FnSpec := mkSpec [.val (.named 0)] [.val .bool] (fun (v : Val) => True) (fun (v : Val) => [⟨.bool, (validValue v)⟩])

theorem validValue_ok : FnOK Try.prog 153 validValue_sp := by
  have hC : CtxOK Try.prog (mkCtx tyL [(88, inRange_sp)]) := CtxOK.cons inRange_ok (CtxOK.nil tyOK)
  refine FnOK.of_body Try.func153 (by kernel_rfl) rfl (C := (mkCtx tyL [(88, inRange_sp)])) hC.ty (by kernel_rfl) ?_
  intro (v : Val) hwf hpre E
  have hpre : True := hpre
  have hw_v : Wf ⟨(.named 0), (v : Val)⟩ := hwf _ (List.Mem.head _)
  have hr_v_N : -9223372036854775808 ≤ Val.N v ∧ Val.N v ≤ 9223372036854775807 := (hw_v.field (tv := ⟨(.int .i64), Val.N v⟩) (List.Mem.tail _ (List.Mem.head _))).int_inv
  have e0 : validValue v = validValue v := rfl
  refine AW.seq ?_
  refine AW.reg hC  false [] [1] [4]
    ⟨[(1, .ref 4 1 0)], [(4, .box 1 [.bool (Val.Null v), .int .i64 (Val.N v)])]⟩
    [] (by kernel_rfl) ?_ ?_
  · exact trivial
  refine AW.seq ?_
  refine AW.reg hC  false [] [2] []
    ⟨[(2, .bool (bif (inRange (Val.N v) (-9999) 9999) then (bif (!(Val.Null v)) then true else ((Val.N v) == 0)) else false))], []⟩
    [(True), (((inRange (Val.N v) (-9999) 9999) = true) → (((inRange (Val.N v) (-9999) 9999) = true))), (((inRange (Val.N v) (-9999) 9999) = true) → (((inRange (Val.N v) (-9999) 9999) = true))), (((inRange (Val.N v) (-9999) 9999) = true) → (((inRange (Val.N v) (-9999) 9999) = true))), ((((inRange (Val.N v) (-9999) 9999) = true) ∧ ((!(Val.Null v)) = false)) → ((((inRange (Val.N v) (-9999) 9999) = true) ∧ ((!(Val.Null v)) = false)))), ((((inRange (Val.N v) (-9999) 9999) = true) ∧ ((!(Val.Null v)) = false)) → ((((inRange (Val.N v) (-9999) 9999) = true) ∧ ((!(Val.Null v)) = false)))), (((inRange (Val.N v) (-9999) 9999) = true) → (((inRange (Val.N v) (-9999) 9999) = true))), (((inRange (Val.N v) (-9999) 9999) = true) → (((!(Val.Null v)) = false) → ((((inRange (Val.N v) (-9999) 9999) = true) ∧ ((!(Val.Null v)) = false))))), (((inRange (Val.N v) (-9999) 9999) = true) → (((inRange (Val.N v) (-9999) 9999) = true)))] (by kernel_rfl) ?_ ?_
  · refine ⟨?_, ?_, ?_, ?_, ?_, ?_, ?_, ?_, ?_, trivial⟩
    · trivial
    · intro g1
      have g1p0 : (inRange (Val.N v) (-9999) 9999) = true := g1
      first | assumption | exact ⟨by assumption, by assumption⟩
    · intro g2
      have g2p0 : (inRange (Val.N v) (-9999) 9999) = true := g2
      first | assumption | exact ⟨by assumption, by assumption⟩
    · intro g3
      have g3p0 : (inRange (Val.N v) (-9999) 9999) = true := g3
      first | assumption | exact ⟨by assumption, by assumption⟩
    · intro g4
      have g4p0 : (inRange (Val.N v) (-9999) 9999) = true := (g4).1
      have g4p1 : (Val.Null v) = true := (Go.Am.not_neg (g4).2)
      first | assumption | exact ⟨by assumption, by assumption⟩
    · intro g5
      have g5p0 : (inRange (Val.N v) (-9999) 9999) = true := (g5).1
      have g5p1 : (Val.Null v) = true := (Go.Am.not_neg (g5).2)
      first | assumption | exact ⟨by assumption, by assumption⟩
    · intro g6
      have g6p0 : (inRange (Val.N v) (-9999) 9999) = true := g6
      first | assumption | exact ⟨by assumption, by assumption⟩
    · intro g7
      have g7p0 : (inRange (Val.N v) (-9999) 9999) = true := g7
      intro g8
      have g8p0 : (Val.Null v) = true := (Go.Am.not_neg g8)
      first | assumption | exact ⟨by assumption, by assumption⟩
    · intro g9
      have g9p0 : (inRange (Val.N v) (-9999) 9999) = true := g9
      first | assumption | exact ⟨by assumption, by assumption⟩
  refine AW.ret ?_
  exact AW.retE (β := Bool) (fun v => [⟨.bool, v⟩]) (fun v => []) (v := (bif (inRange (Val.N v) (-9999) 9999) then (bif (!(Val.Null v)) then true else ((Val.N v) == 0)) else false)) e0 (by kernel_rfl) rfl rfl

def kidsOfKind (kind : Int) : Int := (bif (kind == 1) then (bif (kind == 1) then 0 else (bif (kind == 10) then (bif (kind == 10) then 1 else (bif (kind == 3) then (bif (kind == 3) then 2 else (-1)) else (bif (kind == 4) then (bif (kind == 4) then 2 else (-1)) else (bif (kind == 5) then (bif (kind == 5) then 2 else (-1)) else (bif (kind == 6) then (bif (kind == 6) then 2 else (-1)) else (bif (kind == 7) then (bif (kind == 7) then 2 else (-1)) else (bif (kind == 8) then (bif (kind == 8) then 2 else (-1)) else (bif (kind == 9) then 2 else (-1))))))))) else (bif (kind == 11) then 1 else (bif (kind == 3) then (bif (kind == 3) then 2 else (-1)) else (bif (kind == 4) then (bif (kind == 4) then 2 else (-1)) else (bif (kind == 5) then (bif (kind == 5) then 2 else (-1)) else (bif (kind == 6) then (bif (kind == 6) then 2 else (-1)) else (bif (kind == 7) then (bif (kind == 7) then 2 else (-1)) else (bif (kind == 8) then (bif (kind == 8) then 2 else (-1)) else (bif (kind == 9) then 2 else (-1))))))))))) else (bif (kind == 2) then 0 else (bif (kind == 10) then (bif (kind == 10) then 1 else (bif (kind == 3) then (bif (kind == 3) then 2 else (-1)) else (bif (kind == 4) then (bif (kind == 4) then 2 else (-1)) else (bif (kind == 5) then (bif (kind == 5) then 2 else (-1)) else (bif (kind == 6) then (bif (kind == 6) then 2 else (-1)) else (bif (kind == 7) then (bif (kind == 7) then 2 else (-1)) else (bif (kind == 8) then (bif (kind == 8) then 2 else (-1)) else (bif (kind == 9) then 2 else (-1))))))))) else (bif (kind == 11) then 1 else (bif (kind == 3) then (bif (kind == 3) then 2 else (-1)) else (bif (kind == 4) then (bif (kind == 4) then 2 else (-1)) else (bif (kind == 5) then (bif (kind == 5) then 2 else (-1)) else (bif (kind == 6) then (bif (kind == 6) then 2 else (-1)) else (bif (kind == 7) then (bif (kind == 7) then 2 else (-1)) else (bif (kind == 8) then (bif (kind == 8) then 2 else (-1)) else (bif (kind == 9) then 2 else (-1))))))))))))

def kidsOfKind_sp : FnSpec := mkSpec [.val (.int .i64)] [.val (.int .i64)] (fun (kind : Int) => True) (fun (kind : Int) => [⟨(.int .i64), (kidsOfKind kind)⟩])

theorem kidsOfKind_ok : FnOK Try.prog 157 kidsOfKind_sp := by
  have hC : CtxOK Try.prog (mkCtx tyL []) := CtxOK.nil tyOK
  refine FnOK.of_body Try.func157 (by kernel_rfl) rfl (C := (mkCtx tyL [])) hC.ty (by kernel_rfl) ?_
  intro (kind : Int) hwf hpre E
  have hpre : True := hpre
  have hw_kind : Wf ⟨(.int .i64), (kind : Int)⟩ := hwf _ (List.Mem.head _)
  have hr_kind : -9223372036854775808 ≤ kind ∧ kind ≤ 9223372036854775807 := hw_kind.int_inv
  have e0 : kidsOfKind kind = kidsOfKind kind := rfl
  refine AW.seq ?_
  refine AW.reg hC  false [] [0] []
    ⟨[(0, .int .i64 kind)], []⟩
    [] (by kernel_rfl) ?_ ?_
  · exact trivial
  refine AW.seq ?_
  refine AW.seq ?_
  refine AW.reg hC  false [] [3] []
    ⟨[(3, .int .i64 kind)], []⟩
    [] (by kernel_rfl) ?_ ?_
  · exact trivial
  refine AW.block ?_
  refine AW.seq ?_
  refine AW.seq ?_
  refine AW.reg hC  false [] [3, 4] []
    ⟨[(3, .int .i64 kind), (4, .bool (kind == 1))], []⟩
    [] (by kernel_rfl) ?_ ?_
  · exact trivial
  refine AW.cond (b := (kind == 1)) (by kernel_rfl) ?_ ?_
  · intro h1
    have h1q : kind = 1 := (Go.Am.beq_pos h1)
    have e2 := e0.trans (Go.Am.bif_t h1)
    refine AW.skip ?_
    refine AW.cond (b := (kind == 1)) (by kernel_rfl) ?_ ?_
    · intro h3
      have h3q : kind = 1 := (Go.Am.beq_pos h3)
      have e4 := e2.trans (Go.Am.bif_t h3)
      refine AW.seq ?_
      refine AW.reg hC  false [] [2] []
        ⟨[(2, .int .i64 0)], []⟩
        [] (by kernel_rfl) ?_ ?_
      · exact trivial
      refine AW.ret ?_
      exact AW.retE (β := Int) (fun v => [⟨(.int .i64), v⟩]) (fun v => []) (v := 0) e4 (by kernel_rfl) rfl rfl
    · intro h5
      have h5q : kind ≠ 1 := (Go.Am.beq_neg h5)
      have e6 := e2.trans (Go.Am.bif_f h5)
      refine AW.seq ?_
      refine AW.seq ?_
      refine AW.reg hC  false [] [3, 7] []
        ⟨[(3, .int .i64 kind), (7, .bool (kind == 10))], []⟩
        [] (by kernel_rfl) ?_ ?_
      · exact trivial
      refine AW.cond (b := (kind == 10)) (by kernel_rfl) ?_ ?_
      · intro h7
        have h7q : kind = 10 := (Go.Am.beq_pos h7)
        have e8 := e6.trans (Go.Am.bif_t h7)
        refine AW.skip ?_
        refine AW.cond (b := (kind == 10)) (by kernel_rfl) ?_ ?_
        · intro h9
          have h9q : kind = 10 := (Go.Am.beq_pos h9)
          have e10 := e8.trans (Go.Am.bif_t h9)
          refine AW.seq ?_
          refine AW.reg hC  false [] [2] []
            ⟨[(2, .int .i64 1)], []⟩
            [] (by kernel_rfl) ?_ ?_
          · exact trivial
          refine AW.ret ?_
          exact AW.retE (β := Int) (fun v => [⟨(.int .i64), v⟩]) (fun v => []) (v := 1) e10 (by kernel_rfl) rfl rfl
        · intro h11
          have h11q : kind ≠ 10 := (Go.Am.beq_neg h11)
          have e12 := e8.trans (Go.Am.bif_f h11)
          refine AW.seq ?_
          refine AW.seq ?_
          refine AW.reg hC  false [] [3, 10] []
            ⟨[(3, .int .i64 kind), (10, .bool (kind == 3))], []⟩
            [] (by kernel_rfl) ?_ ?_
          · exact trivial
          refine AW.cond (b := (kind == 3)) (by kernel_rfl) ?_ ?_
          · intro h13
            have h13q : kind = 3 := (Go.Am.beq_pos h13)
            have e14 := e12.trans (Go.Am.bif_t h13)
            refine AW.keep [10] [] ⟨[(10, .bool (kind == 3))], []⟩ (by kernel_rfl) ?_
            refine AW.skip ?_
            refine AW.cond (b := (kind == 3)) (by kernel_rfl) ?_ ?_
            · intro h15
              have h15q : kind = 3 := (Go.Am.beq_pos h15)
              have e16 := e14.trans (Go.Am.bif_t h15)
              refine AW.seq ?_
              refine AW.reg hC  false [] [2] []
                ⟨[(2, .int .i64 2)], []⟩
                [] (by kernel_rfl) ?_ ?_
              · exact trivial
              refine AW.ret ?_
              exact AW.retE (β := Int) (fun v => [⟨(.int .i64), v⟩]) (fun v => []) (v := 2) e16 (by kernel_rfl) rfl rfl
            · intro h17
              have h17q : kind ≠ 3 := (Go.Am.beq_neg h17)
              have e18 := e14.trans (Go.Am.bif_f h17)
              refine AW.keep [] [] ⟨[], []⟩ (by kernel_rfl) ?_
              refine AW.skip ?_
              refine AW.seq ?_
              refine AW.reg hC  false [] [2] []
                ⟨[(2, .int .i64 (-1))], []⟩
                [] (by kernel_rfl) ?_ ?_
              · exact trivial
              refine AW.ret ?_
              exact AW.retE (β := Int) (fun v => [⟨(.int .i64), v⟩]) (fun v => []) (v := (-1)) e18 (by kernel_rfl) rfl rfl
          · intro h19
            have h19q : kind ≠ 3 := (Go.Am.beq_neg h19)
            have e20 := e12.trans (Go.Am.bif_f h19)
            refine AW.seq ?_
            refine AW.reg hC  false [] [3, 10] []
              ⟨[(3, .int .i64 kind), (10, .bool (kind == 4))], []⟩
              [] (by kernel_rfl) ?_ ?_
            · exact trivial
            refine AW.cond (b := (kind == 4)) (by kernel_rfl) ?_ ?_
            · intro h21
              have h21q : kind = 4 := (Go.Am.beq_pos h21)
              have e22 := e20.trans (Go.Am.bif_t h21)
              refine AW.keep [10] [] ⟨[(10, .bool (kind == 4))], []⟩ (by kernel_rfl) ?_
              refine AW.skip ?_
              refine AW.cond (b := (kind == 4)) (by kernel_rfl) ?_ ?_
              · intro h23
                have h23q : kind = 4 := (Go.Am.beq_pos h23)
                have e24 := e22.trans (Go.Am.bif_t h23)
                refine AW.seq ?_
                refine AW.reg hC  false [] [2] []
                  ⟨[(2, .int .i64 2)], []⟩
                  [] (by kernel_rfl) ?_ ?_
                · exact trivial
                refine AW.ret ?_
                exact AW.retE (β := Int) (fun v => [⟨(.int .i64), v⟩]) (fun v => []) (v := 2) e24 (by kernel_rfl) rfl rfl
              · intro h25
                have h25q : kind ≠ 4 := (Go.Am.beq_neg h25)
                have e26 := e22.trans (Go.Am.bif_f h25)
                refine AW.keep [] [] ⟨[], []⟩ (by kernel_rfl) ?_
                refine AW.skip ?_
                refine AW.seq ?_
                refine AW.reg hC  false [] [2] []
                  ⟨[(2, .int .i64 (-1))], []⟩
                  [] (by kernel_rfl) ?_ ?_
                · exact trivial
                refine AW.ret ?_
                exact AW.retE (β := Int) (fun v => [⟨(.int .i64), v⟩]) (fun v => []) (v := (-1)) e26 (by kernel_rfl) rfl rfl
            · intro h27
              have h27q : kind ≠ 4 := (Go.Am.beq_neg h27)
              have e28 := e20.trans (Go.Am.bif_f h27)
              refine AW.seq ?_
              refine AW.reg hC  false [] [3, 10] []
                ⟨[(3, .int .i64 kind), (10, .bool (kind == 5))], []⟩
                [] (by kernel_rfl) ?_ ?_
              · exact trivial
              refine AW.cond (b := (kind == 5)) (by kernel_rfl) ?_ ?_
              · intro h29
                have h29q : kind = 5 := (Go.Am.beq_pos h29)
                have e30 := e28.trans (Go.Am.bif_t h29)
                refine AW.keep [10] [] ⟨[(10, .bool (kind == 5))], []⟩ (by kernel_rfl) ?_
                refine AW.skip ?_
                refine AW.cond (b := (kind == 5)) (by kernel_rfl) ?_ ?_
                · intro h31
                  have h31q : kind = 5 := (Go.Am.beq_pos h31)
                  have e32 := e30.trans (Go.Am.bif_t h31)
                  refine AW.seq ?_
                  refine AW.reg hC  false [] [2] []
                    ⟨[(2, .int .i64 2)], []⟩
                    [] (by kernel_rfl) ?_ ?_
                  · exact trivial
                  refine AW.ret ?_
                  exact AW.retE (β := Int) (fun v => [⟨(.int .i64), v⟩]) (fun v => []) (v := 2) e32 (by kernel_rfl) rfl rfl
                · intro h33
                  have h33q : kind ≠ 5 := (Go.Am.beq_neg h33)
                  have e34 := e30.trans (Go.Am.bif_f h33)
                  refine AW.keep [] [] ⟨[], []⟩ (by kernel_rfl) ?_
                  refine AW.skip ?_
                  refine AW.seq ?_
                  refine AW.reg hC  false [] [2] []
                    ⟨[(2, .int .i64 (-1))], []⟩
                    [] (by kernel_rfl) ?_ ?_
                  · exact trivial
                  refine AW.ret ?_
                  exact AW.retE (β := Int) (fun v => [⟨(.int .i64), v⟩]) (fun v => []) (v := (-1)) e34 (by kernel_rfl) rfl rfl
              · intro h35
                have h35q : kind ≠ 5 := (Go.Am.beq_neg h35)
                have e36 := e28.trans (Go.Am.bif_f h35)
                refine AW.seq ?_
                refine AW.reg hC  false [] [3, 10] []
                  ⟨[(3, .int .i64 kind), (10, .bool (kind == 6))], []⟩
                  [] (by kernel_rfl) ?_ ?_
                · exact trivial
                refine AW.cond (b := (kind == 6)) (by kernel_rfl) ?_ ?_
                · intro h37
                  have h37q : kind = 6 := (Go.Am.beq_pos h37)
                  have e38 := e36.trans (Go.Am.bif_t h37)
                  refine AW.keep [10] [] ⟨[(10, .bool (kind == 6))], []⟩ (by kernel_rfl) ?_
                  refine AW.skip ?_
                  refine AW.cond (b := (kind == 6)) (by kernel_rfl) ?_ ?_
                  · intro h39
                    have h39q : kind = 6 := (Go.Am.beq_pos h39)
                    have e40 := e38.trans (Go.Am.bif_t h39)
                    refine AW.seq ?_
                    refine AW.reg hC  false [] [2] []
                      ⟨[(2, .int .i64 2)], []⟩
                      [] (by kernel_rfl) ?_ ?_
                    · exact trivial
                    refine AW.ret ?_
                    exact AW.retE (β := Int) (fun v => [⟨(.int .i64), v⟩]) (fun v => []) (v := 2) e40 (by kernel_rfl) rfl rfl
                  · intro h41
                    have h41q : kind ≠ 6 := (Go.Am.beq_neg h41)
                    have e42 := e38.trans (Go.Am.bif_f h41)
                    refine AW.keep [] [] ⟨[], []⟩ (by kernel_rfl) ?_
                    refine AW.skip ?_
                    refine AW.seq ?_
                    refine AW.reg hC  false [] [2] []
                      ⟨[(2, .int .i64 (-1))], []⟩
                      [] (by kernel_rfl) ?_ ?_
                    · exact trivial
                    refine AW.ret ?_
                    exact AW.retE (β := Int) (fun v => [⟨(.int .i64), v⟩]) (fun v => []) (v := (-1)) e42 (by kernel_rfl) rfl rfl
                · intro h43
                  have h43q : kind ≠ 6 := (Go.Am.beq_neg h43)
                  have e44 := e36.trans (Go.Am.bif_f h43)
                  refine AW.seq ?_
                  refine AW.reg hC  false [] [3, 10] []
                    ⟨[(3, .int .i64 kind), (10, .bool (kind == 7))], []⟩
                    [] (by kernel_rfl) ?_ ?_
                  · exact trivial
                  refine AW.cond (b := (kind == 7)) (by kernel_rfl) ?_ ?_
                  · intro h45
                    have h45q : kind = 7 := (Go.Am.beq_pos h45)
                    have e46 := e44.trans (Go.Am.bif_t h45)
                    refine AW.keep [10] [] ⟨[(10, .bool (kind == 7))], []⟩ (by kernel_rfl) ?_
                    refine AW.skip ?_
                    refine AW.cond (b := (kind == 7)) (by kernel_rfl) ?_ ?_
                    · intro h47
                      have h47q : kind = 7 := (Go.Am.beq_pos h47)
                      have e48 := e46.trans (Go.Am.bif_t h47)
                      refine AW.seq ?_
                      refine AW.reg hC  false [] [2] []
                        ⟨[(2, .int .i64 2)], []⟩
                        [] (by kernel_rfl) ?_ ?_
                      · exact trivial
                      refine AW.ret ?_
                      exact AW.retE (β := Int) (fun v => [⟨(.int .i64), v⟩]) (fun v => []) (v := 2) e48 (by kernel_rfl) rfl rfl
                    · intro h49
                      have h49q : kind ≠ 7 := (Go.Am.beq_neg h49)
                      have e50 := e46.trans (Go.Am.bif_f h49)
                      refine AW.keep [] [] ⟨[], []⟩ (by kernel_rfl) ?_
                      refine AW.skip ?_
                      refine AW.seq ?_
                      refine AW.reg hC  false [] [2] []
                        ⟨[(2, .int .i64 (-1))], []⟩
                        [] (by kernel_rfl) ?_ ?_
                      · exact trivial
                      refine AW.ret ?_
                      exact AW.retE (β := Int) (fun v => [⟨(.int .i64), v⟩]) (fun v => []) (v := (-1)) e50 (by kernel_rfl) rfl rfl
                  · intro h51
                    have h51q : kind ≠ 7 := (Go.Am.beq_neg h51)
                    have e52 := e44.trans (Go.Am.bif_f h51)
                    refine AW.seq ?_
                    refine AW.reg hC  false [] [3, 10] []
                      ⟨[(3, .int .i64 kind), (10, .bool (kind == 8))], []⟩
                      [] (by kernel_rfl) ?_ ?_
                    · exact trivial
                    refine AW.cond (b := (kind == 8)) (by kernel_rfl) ?_ ?_
                    · intro h53
                      have h53q : kind = 8 := (Go.Am.beq_pos h53)
                      have e54 := e52.trans (Go.Am.bif_t h53)
                      refine AW.keep [10] [] ⟨[(10, .bool (kind == 8))], []⟩ (by kernel_rfl) ?_
                      refine AW.skip ?_
                      refine AW.cond (b := (kind == 8)) (by kernel_rfl) ?_ ?_
                      · intro h55
                        have h55q : kind = 8 := (Go.Am.beq_pos h55)
                        have e56 := e54.trans (Go.Am.bif_t h55)
                        refine AW.seq ?_
                        refine AW.reg hC  false [] [2] []
                          ⟨[(2, .int .i64 2)], []⟩
                          [] (by kernel_rfl) ?_ ?_
                        · exact trivial
                        refine AW.ret ?_
                        exact AW.retE (β := Int) (fun v => [⟨(.int .i64), v⟩]) (fun v => []) (v := 2) e56 (by kernel_rfl) rfl rfl
                      · intro h57
                        have h57q : kind ≠ 8 := (Go.Am.beq_neg h57)
                        have e58 := e54.trans (Go.Am.bif_f h57)
                        refine AW.keep [] [] ⟨[], []⟩ (by kernel_rfl) ?_
                        refine AW.skip ?_
                        refine AW.seq ?_
                        refine AW.reg hC  false [] [2] []
                          ⟨[(2, .int .i64 (-1))], []⟩
                          [] (by kernel_rfl) ?_ ?_
                        · exact trivial
                        refine AW.ret ?_
                        exact AW.retE (β := Int) (fun v => [⟨(.int .i64), v⟩]) (fun v => []) (v := (-1)) e58 (by kernel_rfl) rfl rfl
                    · intro h59
                      have h59q : kind ≠ 8 := (Go.Am.beq_neg h59)
                      have e60 := e52.trans (Go.Am.bif_f h59)
                      refine AW.reg hC  false [] [10] []
                        ⟨[(10, .bool (kind == 9))], []⟩
                        [] (by kernel_rfl) ?_ ?_
                      · exact trivial
                      refine AW.cond (b := (kind == 9)) (by kernel_rfl) ?_ ?_
                      · intro h61
                        have h61q : kind = 9 := (Go.Am.beq_pos h61)
                        have e62 := e60.trans (Go.Am.bif_t h61)
                        refine AW.seq ?_
                        refine AW.reg hC  false [] [2] []
                          ⟨[(2, .int .i64 2)], []⟩
                          [] (by kernel_rfl) ?_ ?_
                        · exact trivial
                        refine AW.ret ?_
                        exact AW.retE (β := Int) (fun v => [⟨(.int .i64), v⟩]) (fun v => []) (v := 2) e62 (by kernel_rfl) rfl rfl
                      · intro h63
                        have h63q : kind ≠ 9 := (Go.Am.beq_neg h63)
                        have e64 := e60.trans (Go.Am.bif_f h63)
                        refine AW.keep [] [] ⟨[], []⟩ (by kernel_rfl) ?_
                        refine AW.skip ?_
                        refine AW.seq ?_
                        refine AW.reg hC  false [] [2] []
                          ⟨[(2, .int .i64 (-1))], []⟩
                          [] (by kernel_rfl) ?_ ?_
                        · exact trivial
                        refine AW.ret ?_
                        exact AW.retE (β := Int) (fun v => [⟨(.int .i64), v⟩]) (fun v => []) (v := (-1)) e64 (by kernel_rfl) rfl rfl
      · intro h65
        have h65q : kind ≠ 10 := (Go.Am.beq_neg h65)
        have e66 := e6.trans (Go.Am.bif_f h65)
        refine AW.reg hC  false [] [3, 7] []
          ⟨[(3, .int .i64 kind), (7, .bool (kind == 11))], []⟩
          [] (by kernel_rfl) ?_ ?_
        · exact trivial
        refine AW.cond (b := (kind == 11)) (by kernel_rfl) ?_ ?_
        · intro h67
          have h67q : kind = 11 := (Go.Am.beq_pos h67)
          have e68 := e66.trans (Go.Am.bif_t h67)
          refine AW.seq ?_
          refine AW.reg hC  false [] [2] []
            ⟨[(2, .int .i64 1)], []⟩
            [] (by kernel_rfl) ?_ ?_
          · exact trivial
          refine AW.ret ?_
          exact AW.retE (β := Int) (fun v => [⟨(.int .i64), v⟩]) (fun v => []) (v := 1) e68 (by kernel_rfl) rfl rfl
        · intro h69
          have h69q : kind ≠ 11 := (Go.Am.beq_neg h69)
          have e70 := e66.trans (Go.Am.bif_f h69)
          refine AW.seq ?_
          refine AW.seq ?_
          refine AW.reg hC  false [] [3, 10] []
            ⟨[(3, .int .i64 kind), (10, .bool (kind == 3))], []⟩
            [] (by kernel_rfl) ?_ ?_
          · exact trivial
          refine AW.cond (b := (kind == 3)) (by kernel_rfl) ?_ ?_
          · intro h71
            have h71q : kind = 3 := (Go.Am.beq_pos h71)
            have e72 := e70.trans (Go.Am.bif_t h71)
            refine AW.keep [10] [] ⟨[(10, .bool (kind == 3))], []⟩ (by kernel_rfl) ?_
            refine AW.skip ?_
            refine AW.cond (b := (kind == 3)) (by kernel_rfl) ?_ ?_
            · intro h73
              have h73q : kind = 3 := (Go.Am.beq_pos h73)
              have e74 := e72.trans (Go.Am.bif_t h73)
              refine AW.seq ?_
              refine AW.reg hC  false [] [2] []
                ⟨[(2, .int .i64 2)], []⟩
                [] (by kernel_rfl) ?_ ?_
              · exact trivial
              refine AW.ret ?_
              exact AW.retE (β := Int) (fun v => [⟨(.int .i64), v⟩]) (fun v => []) (v := 2) e74 (by kernel_rfl) rfl rfl
            · intro h75
              have h75q : kind ≠ 3 := (Go.Am.beq_neg h75)
              have e76 := e72.trans (Go.Am.bif_f h75)
              refine AW.keep [] [] ⟨[], []⟩ (by kernel_rfl) ?_
              refine AW.skip ?_
              refine AW.seq ?_
              refine AW.reg hC  false [] [2] []
                ⟨[(2, .int .i64 (-1))], []⟩
                [] (by kernel_rfl) ?_ ?_
              · exact trivial
              refine AW.ret ?_
              exact AW.retE (β := Int) (fun v => [⟨(.int .i64), v⟩]) (fun v => []) (v := (-1)) e76 (by kernel_rfl) rfl rfl
          · intro h77
            have h77q : kind ≠ 3 := (Go.Am.beq_neg h77)
            have e78 := e70.trans (Go.Am.bif_f h77)
            refine AW.seq ?_
            refine AW.reg hC  false [] [3, 10] []
              ⟨[(3, .int .i64 kind), (10, .bool (kind == 4))], []⟩
              [] (by kernel_rfl) ?_ ?_
            · exact trivial
            refine AW.cond (b := (kind == 4)) (by kernel_rfl) ?_ ?_
            · intro h79
              have h79q : kind = 4 := (Go.Am.beq_pos h79)
              have e80 := e78.trans (Go.Am.bif_t h79)
              refine AW.keep [10] [] ⟨[(10, .bool (kind == 4))], []⟩ (by kernel_rfl) ?_
              refine AW.skip ?_
              refine AW.cond (b := (kind == 4)) (by kernel_rfl) ?_ ?_
              · intro h81
                have h81q : kind = 4 := (Go.Am.beq_pos h81)
                have e82 := e80.trans (Go.Am.bif_t h81)
                refine AW.seq ?_
                refine AW.reg hC  false [] [2] []
                  ⟨[(2, .int .i64 2)], []⟩
                  [] (by kernel_rfl) ?_ ?_
                · exact trivial
                refine AW.ret ?_
                exact AW.retE (β := Int) (fun v => [⟨(.int .i64), v⟩]) (fun v => []) (v := 2) e82 (by kernel_rfl) rfl rfl
              · intro h83
                have h83q : kind ≠ 4 := (Go.Am.beq_neg h83)
                have e84 := e80.trans (Go.Am.bif_f h83)
                refine AW.keep [] [] ⟨[], []⟩ (by kernel_rfl) ?_
                refine AW.skip ?_
                refine AW.seq ?_
                refine AW.reg hC  false [] [2] []
                  ⟨[(2, .int .i64 (-1))], []⟩
                  [] (by kernel_rfl) ?_ ?_
                · exact trivial
                refine AW.ret ?_
                exact AW.retE (β := Int) (fun v => [⟨(.int .i64), v⟩]) (fun v => []) (v := (-1)) e84 (by kernel_rfl) rfl rfl
            · intro h85
              have h85q : kind ≠ 4 := (Go.Am.beq_neg h85)
              have e86 := e78.trans (Go.Am.bif_f h85)
              refine AW.seq ?_
              refine AW.reg hC  false [] [3, 10] []
                ⟨[(3, .int .i64 kind), (10, .bool (kind == 5))], []⟩
                [] (by kernel_rfl) ?_ ?_
              · exact trivial
              refine AW.cond (b := (kind == 5)) (by kernel_rfl) ?_ ?_
              · intro h87
                have h87q : kind = 5 := (Go.Am.beq_pos h87)
                have e88 := e86.trans (Go.Am.bif_t h87)
                refine AW.keep [10] [] ⟨[(10, .bool (kind == 5))], []⟩ (by kernel_rfl) ?_
                refine AW.skip ?_
                refine AW.cond (b := (kind == 5)) (by kernel_rfl) ?_ ?_
                · intro h89
                  have h89q : kind = 5 := (Go.Am.beq_pos h89)
                  have e90 := e88.trans (Go.Am.bif_t h89)
                  refine AW.seq ?_
                  refine AW.reg hC  false [] [2] []
                    ⟨[(2, .int .i64 2)], []⟩
                    [] (by kernel_rfl) ?_ ?_
                  · exact trivial
                  refine AW.ret ?_
                  exact AW.retE (β := Int) (fun v => [⟨(.int .i64), v⟩]) (fun v => []) (v := 2) e90 (by kernel_rfl) rfl rfl
                · intro h91
                  have h91q : kind ≠ 5 := (Go.Am.beq_neg h91)
                  have e92 := e88.trans (Go.Am.bif_f h91)
                  refine AW.keep [] [] ⟨[], []⟩ (by kernel_rfl) ?_
                  refine AW.skip ?_
                  refine AW.seq ?_
                  refine AW.reg hC  false [] [2] []
                    ⟨[(2, .int .i64 (-1))], []⟩
                    [] (by kernel_rfl) ?_ ?_
                  · exact trivial
                  refine AW.ret ?_
                  exact AW.retE (β := Int) (fun v => [⟨(.int .i64), v⟩]) (fun v => []) (v := (-1)) e92 (by kernel_rfl) rfl rfl
              · intro h93
                have h93q : kind ≠ 5 := (Go.Am.beq_neg h93)
                have e94 := e86.trans (Go.Am.bif_f h93)
                refine AW.seq ?_
                refine AW.reg hC  false [] [3, 10] []
                  ⟨[(3, .int .i64 kind), (10, .bool (kind == 6))], []⟩
                  [] (by kernel_rfl) ?_ ?_
                · exact trivial
                refine AW.cond (b := (kind == 6)) (by kernel_rfl) ?_ ?_
                · intro h95
                  have h95q : kind = 6 := (Go.Am.beq_pos h95)
                  have e96 := e94.trans (Go.Am.bif_t h95)
                  refine AW.keep [10] [] ⟨[(10, .bool (kind == 6))], []⟩ (by kernel_rfl) ?_
                  refine AW.skip ?_
                  refine AW.cond (b := (kind == 6)) (by kernel_rfl) ?_ ?_
                  · intro h97
                    have h97q : kind = 6 := (Go.Am.beq_pos h97)
                    have e98 := e96.trans (Go.Am.bif_t h97)
                    refine AW.seq ?_
                    refine AW.reg hC  false [] [2] []
                      ⟨[(2, .int .i64 2)], []⟩
                      [] (by kernel_rfl) ?_ ?_
                    · exact trivial
                    refine AW.ret ?_
                    exact AW.retE (β := Int) (fun v => [⟨(.int .i64), v⟩]) (fun v => []) (v := 2) e98 (by kernel_rfl) rfl rfl
                  · intro h99
                    have h99q : kind ≠ 6 := (Go.Am.beq_neg h99)
                    have e100 := e96.trans (Go.Am.bif_f h99)
                    refine AW.keep [] [] ⟨[], []⟩ (by kernel_rfl) ?_
                    refine AW.skip ?_
                    refine AW.seq ?_
                    refine AW.reg hC  false [] [2] []
                      ⟨[(2, .int .i64 (-1))], []⟩
                      [] (by kernel_rfl) ?_ ?_
                    · exact trivial
                    refine AW.ret ?_
                    exact AW.retE (β := Int) (fun v => [⟨(.int .i64), v⟩]) (fun v => []) (v := (-1)) e100 (by kernel_rfl) rfl rfl
                · intro h101
                  have h101q : kind ≠ 6 := (Go.Am.beq_neg h101)
                  have e102 := e94.trans (Go.Am.bif_f h101)
                  refine AW.seq ?_
                  refine AW.reg hC  false [] [3, 10] []
                    ⟨[(3, .int .i64 kind), (10, .bool (kind == 7))], []⟩
                    [] (by kernel_rfl) ?_ ?_
                  · exact trivial
                  refine AW.cond (b := (kind == 7)) (by kernel_rfl) ?_ ?_
                  · intro h103
                    have h103q : kind = 7 := (Go.Am.beq_pos h103)
                    have e104 := e102.trans (Go.Am.bif_t h103)
                    refine AW.keep [10] [] ⟨[(10, .bool (kind == 7))], []⟩ (by kernel_rfl) ?_
                    refine AW.skip ?_
                    refine AW.cond (b := (kind == 7)) (by kernel_rfl) ?_ ?_
                    · intro h105
                      have h105q : kind = 7 := (Go.Am.beq_pos h105)
                      have e106 := e104.trans (Go.Am.bif_t h105)
                      refine AW.seq ?_
                      refine AW.reg hC  false [] [2] []
                        ⟨[(2, .int .i64 2)], []⟩
                        [] (by kernel_rfl) ?_ ?_
                      · exact trivial
                      refine AW.ret ?_
                      exact AW.retE (β := Int) (fun v => [⟨(.int .i64), v⟩]) (fun v => []) (v := 2) e106 (by kernel_rfl) rfl rfl
                    · intro h107
                      have h107q : kind ≠ 7 := (Go.Am.beq_neg h107)
                      have e108 := e104.trans (Go.Am.bif_f h107)
                      refine AW.keep [] [] ⟨[], []⟩ (by kernel_rfl) ?_
                      refine AW.skip ?_
                      refine AW.seq ?_
                      refine AW.reg hC  false [] [2] []
                        ⟨[(2, .int .i64 (-1))], []⟩
                        [] (by kernel_rfl) ?_ ?_
                      · exact trivial
                      refine AW.ret ?_
                      exact AW.retE (β := Int) (fun v => [⟨(.int .i64), v⟩]) (fun v => []) (v := (-1)) e108 (by kernel_rfl) rfl rfl
                  · intro h109
                    have h109q : kind ≠ 7 := (Go.Am.beq_neg h109)
                    have e110 := e102.trans (Go.Am.bif_f h109)
                    refine AW.seq ?_
                    refine AW.reg hC  false [] [3, 10] []
                      ⟨[(3, .int .i64 kind), (10, .bool (kind == 8))], []⟩
                      [] (by kernel_rfl) ?_ ?_
                    · exact trivial
                    refine AW.cond (b := (kind == 8)) (by kernel_rfl) ?_ ?_
                    · intro h111
                      have h111q : kind = 8 := (Go.Am.beq_pos h111)
                      have e112 := e110.trans (Go.Am.bif_t h111)
                      refine AW.keep [10] [] ⟨[(10, .bool (kind == 8))], []⟩ (by kernel_rfl) ?_
                      refine AW.skip ?_
                      refine AW.cond (b := (kind == 8)) (by kernel_rfl) ?_ ?_
                      · intro h113
                        have h113q : kind = 8 := (Go.Am.beq_pos h113)
                        have e114 := e112.trans (Go.Am.bif_t h113)
                        refine AW.seq ?_
                        refine AW.reg hC  false [] [2] []
                          ⟨[(2, .int .i64 2)], []⟩
                          [] (by kernel_rfl) ?_ ?_
                        · exact trivial
                        refine AW.ret ?_
                        exact AW.retE (β := Int) (fun v => [⟨(.int .i64), v⟩]) (fun v => []) (v := 2) e114 (by kernel_rfl) rfl rfl
                      · intro h115
                        have h115q : kind ≠ 8 := (Go.Am.beq_neg h115)
                        have e116 := e112.trans (Go.Am.bif_f h115)
                        refine AW.keep [] [] ⟨[], []⟩ (by kernel_rfl) ?_
                        refine AW.skip ?_
                        refine AW.seq ?_
                        refine AW.reg hC  false [] [2] []
                          ⟨[(2, .int .i64 (-1))], []⟩
                          [] (by kernel_rfl) ?_ ?_
                        · exact trivial
                        refine AW.ret ?_
                        exact AW.retE (β := Int) (fun v => [⟨(.int .i64), v⟩]) (fun v => []) (v := (-1)) e116 (by kernel_rfl) rfl rfl
                    · intro h117
                      have h117q : kind ≠ 8 := (Go.Am.beq_neg h117)
                      have e118 := e110.trans (Go.Am.bif_f h117)
                      refine AW.reg hC  false [] [10] []
                        ⟨[(10, .bool (kind == 9))], []⟩
                        [] (by kernel_rfl) ?_ ?_
                      · exact trivial
                      refine AW.cond (b := (kind == 9)) (by kernel_rfl) ?_ ?_
                      · intro h119
                        have h119q : kind = 9 := (Go.Am.beq_pos h119)
                        have e120 := e118.trans (Go.Am.bif_t h119)
                        refine AW.seq ?_
                        refine AW.reg hC  false [] [2] []
                          ⟨[(2, .int .i64 2)], []⟩
                          [] (by kernel_rfl) ?_ ?_
                        · exact trivial
                        refine AW.ret ?_
                        exact AW.retE (β := Int) (fun v => [⟨(.int .i64), v⟩]) (fun v => []) (v := 2) e120 (by kernel_rfl) rfl rfl
                      · intro h121
                        have h121q : kind ≠ 9 := (Go.Am.beq_neg h121)
                        have e122 := e118.trans (Go.Am.bif_f h121)
                        refine AW.keep [] [] ⟨[], []⟩ (by kernel_rfl) ?_
                        refine AW.skip ?_
                        refine AW.seq ?_
                        refine AW.reg hC  false [] [2] []
                          ⟨[(2, .int .i64 (-1))], []⟩
                          [] (by kernel_rfl) ?_ ?_
                        · exact trivial
                        refine AW.ret ?_
                        exact AW.retE (β := Int) (fun v => [⟨(.int .i64), v⟩]) (fun v => []) (v := (-1)) e122 (by kernel_rfl) rfl rfl
  · intro h123
    have h123q : kind ≠ 1 := (Go.Am.beq_neg h123)
    have e124 := e0.trans (Go.Am.bif_f h123)
    refine AW.reg hC  false [] [3, 4] []
      ⟨[(3, .int .i64 kind), (4, .bool (kind == 2))], []⟩
      [] (by kernel_rfl) ?_ ?_
    · exact trivial
    refine AW.cond (b := (kind == 2)) (by kernel_rfl) ?_ ?_
    · intro h125
      have h125q : kind = 2 := (Go.Am.beq_pos h125)
      have e126 := e124.trans (Go.Am.bif_t h125)
      refine AW.seq ?_
      refine AW.reg hC  false [] [2] []
        ⟨[(2, .int .i64 0)], []⟩
        [] (by kernel_rfl) ?_ ?_
      · exact trivial
      refine AW.ret ?_
      exact AW.retE (β := Int) (fun v => [⟨(.int .i64), v⟩]) (fun v => []) (v := 0) e126 (by kernel_rfl) rfl rfl
    · intro h127
      have h127q : kind ≠ 2 := (Go.Am.beq_neg h127)
      have e128 := e124.trans (Go.Am.bif_f h127)
      refine AW.seq ?_
      refine AW.seq ?_
      refine AW.reg hC  false [] [3, 7] []
        ⟨[(3, .int .i64 kind), (7, .bool (kind == 10))], []⟩
        [] (by kernel_rfl) ?_ ?_
      · exact trivial
      refine AW.cond (b := (kind == 10)) (by kernel_rfl) ?_ ?_
      · intro h129
        have h129q : kind = 10 := (Go.Am.beq_pos h129)
        have e130 := e128.trans (Go.Am.bif_t h129)
        refine AW.skip ?_
        refine AW.cond (b := (kind == 10)) (by kernel_rfl) ?_ ?_
        · intro h131
          have h131q : kind = 10 := (Go.Am.beq_pos h131)
          have e132 := e130.trans (Go.Am.bif_t h131)
          refine AW.seq ?_
          refine AW.reg hC  false [] [2] []
            ⟨[(2, .int .i64 1)], []⟩
            [] (by kernel_rfl) ?_ ?_
          · exact trivial
          refine AW.ret ?_
          exact AW.retE (β := Int) (fun v => [⟨(.int .i64), v⟩]) (fun v => []) (v := 1) e132 (by kernel_rfl) rfl rfl
        · intro h133
          have h133q : kind ≠ 10 := (Go.Am.beq_neg h133)
          have e134 := e130.trans (Go.Am.bif_f h133)
          refine AW.seq ?_
          refine AW.seq ?_
          refine AW.reg hC  false [] [3, 10] []
            ⟨[(3, .int .i64 kind), (10, .bool (kind == 3))], []⟩
            [] (by kernel_rfl) ?_ ?_
          · exact trivial
          refine AW.cond (b := (kind == 3)) (by kernel_rfl) ?_ ?_
          · intro h135
            have h135q : kind = 3 := (Go.Am.beq_pos h135)
            have e136 := e134.trans (Go.Am.bif_t h135)
            refine AW.keep [10] [] ⟨[(10, .bool (kind == 3))], []⟩ (by kernel_rfl) ?_
            refine AW.skip ?_
            refine AW.cond (b := (kind == 3)) (by kernel_rfl) ?_ ?_
            · intro h137
              have h137q : kind = 3 := (Go.Am.beq_pos h137)
              have e138 := e136.trans (Go.Am.bif_t h137)
              refine AW.seq ?_
              refine AW.reg hC  false [] [2] []
                ⟨[(2, .int .i64 2)], []⟩
                [] (by kernel_rfl) ?_ ?_
              · exact trivial
              refine AW.ret ?_
              exact AW.retE (β := Int) (fun v => [⟨(.int .i64), v⟩]) (fun v => []) (v := 2) e138 (by kernel_rfl) rfl rfl
            · intro h139
              have h139q : kind ≠ 3 := (Go.Am.beq_neg h139)
              have e140 := e136.trans (Go.Am.bif_f h139)
              refine AW.keep [] [] ⟨[], []⟩ (by kernel_rfl) ?_
              refine AW.skip ?_
              refine AW.seq ?_
              refine AW.reg hC  false [] [2] []
                ⟨[(2, .int .i64 (-1))], []⟩
                [] (by kernel_rfl) ?_ ?_
              · exact trivial
              refine AW.ret ?_
              exact AW.retE (β := Int) (fun v => [⟨(.int .i64), v⟩]) (fun v => []) (v := (-1)) e140 (by kernel_rfl) rfl rfl
          · intro h141
            have h141q : kind ≠ 3 := (Go.Am.beq_neg h141)
            have e142 := e134.trans (Go.Am.bif_f h141)
            refine AW.seq ?_
            refine AW.reg hC  false [] [3, 10] []
              ⟨[(3, .int .i64 kind), (10, .bool (kind == 4))], []⟩
              [] (by kernel_rfl) ?_ ?_
            · exact trivial
            refine AW.cond (b := (kind == 4)) (by kernel_rfl) ?_ ?_
            · intro h143
              have h143q : kind = 4 := (Go.Am.beq_pos h143)
              have e144 := e142.trans (Go.Am.bif_t h143)
              refine AW.keep [10] [] ⟨[(10, .bool (kind == 4))], []⟩ (by kernel_rfl) ?_
              refine AW.skip ?_
              refine AW.cond (b := (kind == 4)) (by kernel_rfl) ?_ ?_
              · intro h145
                have h145q : kind = 4 := (Go.Am.beq_pos h145)
                have e146 := e144.trans (Go.Am.bif_t h145)
                refine AW.seq ?_
                refine AW.reg hC  false [] [2] []
                  ⟨[(2, .int .i64 2)], []⟩
                  [] (by kernel_rfl) ?_ ?_
                · exact trivial
                refine AW.ret ?_
                exact AW.retE (β := Int) (fun v => [⟨(.int .i64), v⟩]) (fun v => []) (v := 2) e146 (by kernel_rfl) rfl rfl
              · intro h147
                have h147q : kind ≠ 4 := (Go.Am.beq_neg h147)
                have e148 := e144.trans (Go.Am.bif_f h147)
                refine AW.keep [] [] ⟨[], []⟩ (by kernel_rfl) ?_
                refine AW.skip ?_
                refine AW.seq ?_
                refine AW.reg hC  false [] [2] []
                  ⟨[(2, .int .i64 (-1))], []⟩
                  [] (by kernel_rfl) ?_ ?_
                · exact trivial
                refine AW.ret ?_
                exact AW.retE (β := Int) (fun v => [⟨(.int .i64), v⟩]) (fun v => []) (v := (-1)) e148 (by kernel_rfl) rfl rfl
            · intro h149
              have h149q : kind ≠ 4 := (Go.Am.beq_neg h149)
              have e150 := e142.trans (Go.Am.bif_f h149)
              refine AW.seq ?_
              refine AW.reg hC  false [] [3, 10] []
                ⟨[(3, .int .i64 kind), (10, .bool (kind == 5))], []⟩
                [] (by kernel_rfl) ?_ ?_
              · exact trivial
              refine AW.cond (b := (kind == 5)) (by kernel_rfl) ?_ ?_
              · intro h151
                have h151q : kind = 5 := (Go.Am.beq_pos h151)
                have e152 := e150.trans (Go.Am.bif_t h151)
                refine AW.keep [10] [] ⟨[(10, .bool (kind == 5))], []⟩ (by kernel_rfl) ?_
                refine AW.skip ?_
                refine AW.cond (b := (kind == 5)) (by kernel_rfl) ?_ ?_
                · intro h153
                  have h153q : kind = 5 := (Go.Am.beq_pos h153)
                  have e154 := e152.trans (Go.Am.bif_t h153)
                  refine AW.seq ?_
                  refine AW.reg hC  false [] [2] []
                    ⟨[(2, .int .i64 2)], []⟩
                    [] (by kernel_rfl) ?_ ?_
                  · exact trivial
                  refine AW.ret ?_
                  exact AW.retE (β := Int) (fun v => [⟨(.int .i64), v⟩]) (fun v => []) (v := 2) e154 (by kernel_rfl) rfl rfl
                · intro h155
                  have h155q : kind ≠ 5 := (Go.Am.beq_neg h155)
                  have e156 := e152.trans (Go.Am.bif_f h155)
                  refine AW.keep [] [] ⟨[], []⟩ (by kernel_rfl) ?_
                  refine AW.skip ?_
                  refine AW.seq ?_
                  refine AW.reg hC  false [] [2] []
                    ⟨[(2, .int .i64 (-1))], []⟩
                    [] (by kernel_rfl) ?_ ?_
                  · exact trivial
                  refine AW.ret ?_
                  exact AW.retE (β := Int) (fun v => [⟨(.int .i64), v⟩]) (fun v => []) (v := (-1)) e156 (by kernel_rfl) rfl rfl
              · intro h157
                have h157q : kind ≠ 5 := (Go.Am.beq_neg h157)
                have e158 := e150.trans (Go.Am.bif_f h157)
                refine AW.seq ?_
                refine AW.reg hC  false [] [3, 10] []
                  ⟨[(3, .int .i64 kind), (10, .bool (kind == 6))], []⟩
                  [] (by kernel_rfl) ?_ ?_
                · exact trivial
                refine AW.cond (b := (kind == 6)) (by kernel_rfl) ?_ ?_
                · intro h159
                  have h159q : kind = 6 := (Go.Am.beq_pos h159)
                  have e160 := e158.trans (Go.Am.bif_t h159)
                  refine AW.keep [10] [] ⟨[(10, .bool (kind == 6))], []⟩ (by kernel_rfl) ?_
                  refine AW.skip ?_
                  refine AW.cond (b := (kind == 6)) (by kernel_rfl) ?_ ?_
                  · intro h161
                    have h161q : kind = 6 := (Go.Am.beq_pos h161)
                    have e162 := e160.trans (Go.Am.bif_t h161)
                    refine AW.seq ?_
                    refine AW.reg hC  false [] [2] []
                      ⟨[(2, .int .i64 2)], []⟩
                      [] (by kernel_rfl) ?_ ?_
                    · exact trivial
                    refine AW.ret ?_
                    exact AW.retE (β := Int) (fun v => [⟨(.int .i64), v⟩]) (fun v => []) (v := 2) e162 (by kernel_rfl) rfl rfl
                  · intro h163
                    have h163q : kind ≠ 6 := (Go.Am.beq_neg h163)
                    have e164 := e160.trans (Go.Am.bif_f h163)
                    refine AW.keep [] [] ⟨[], []⟩ (by kernel_rfl) ?_
                    refine AW.skip ?_
                    refine AW.seq ?_
                    refine AW.reg hC  false [] [2] []
                      ⟨[(2, .int .i64 (-1))], []⟩
                      [] (by kernel_rfl) ?_ ?_
                    · exact trivial
                    refine AW.ret ?_
                    exact AW.retE (β := Int) (fun v => [⟨(.int .i64), v⟩]) (fun v => []) (v := (-1)) e164 (by kernel_rfl) rfl rfl
                · intro h165
                  have h165q : kind ≠ 6 := (Go.Am.beq_neg h165)
                  have e166 := e158.trans (Go.Am.bif_f h165)
                  refine AW.seq ?_
                  refine AW.reg hC  false [] [3, 10] []
                    ⟨[(3, .int .i64 kind), (10, .bool (kind == 7))], []⟩
                    [] (by kernel_rfl) ?_ ?_
                  · exact trivial
                  refine AW.cond (b := (kind == 7)) (by kernel_rfl) ?_ ?_
                  · intro h167
                    have h167q : kind = 7 := (Go.Am.beq_pos h167)
                    have e168 := e166.trans (Go.Am.bif_t h167)
                    refine AW.keep [10] [] ⟨[(10, .bool (kind == 7))], []⟩ (by kernel_rfl) ?_
                    refine AW.skip ?_
                    refine AW.cond (b := (kind == 7)) (by kernel_rfl) ?_ ?_
                    · intro h169
                      have h169q : kind = 7 := (Go.Am.beq_pos h169)
                      have e170 := e168.trans (Go.Am.bif_t h169)
                      refine AW.seq ?_
                      refine AW.reg hC  false [] [2] []
                        ⟨[(2, .int .i64 2)], []⟩
                        [] (by kernel_rfl) ?_ ?_
                      · exact trivial
                      refine AW.ret ?_
                      exact AW.retE (β := Int) (fun v => [⟨(.int .i64), v⟩]) (fun v => []) (v := 2) e170 (by kernel_rfl) rfl rfl
                    · intro h171
                      have h171q : kind ≠ 7 := (Go.Am.beq_neg h171)
                      have e172 := e168.trans (Go.Am.bif_f h171)
                      refine AW.keep [] [] ⟨[], []⟩ (by kernel_rfl) ?_
                      refine AW.skip ?_
                      refine AW.seq ?_
                      refine AW.reg hC  false [] [2] []
                        ⟨[(2, .int .i64 (-1))], []⟩
                        [] (by kernel_rfl) ?_ ?_
                      · exact trivial
                      refine AW.ret ?_
                      exact AW.retE (β := Int) (fun v => [⟨(.int .i64), v⟩]) (fun v => []) (v := (-1)) e172 (by kernel_rfl) rfl rfl
                  · intro h173
                    have h173q : kind ≠ 7 := (Go.Am.beq_neg h173)
                    have e174 := e166.trans (Go.Am.bif_f h173)
                    refine AW.seq ?_
                    refine AW.reg hC  false [] [3, 10] []
                      ⟨[(3, .int .i64 kind), (10, .bool (kind == 8))], []⟩
                      [] (by kernel_rfl) ?_ ?_
                    · exact trivial
                    refine AW.cond (b := (kind == 8)) (by kernel_rfl) ?_ ?_
                    · intro h175
                      have h175q : kind = 8 := (Go.Am.beq_pos h175)
                      have e176 := e174.trans (Go.Am.bif_t h175)
                      refine AW.keep [10] [] ⟨[(10, .bool (kind == 8))], []⟩ (by kernel_rfl) ?_
                      refine AW.skip ?_
                      refine AW.cond (b := (kind == 8)) (by kernel_rfl) ?_ ?_
                      · intro h177
                        have h177q : kind = 8 := (Go.Am.beq_pos h177)
                        have e178 := e176.trans (Go.Am.bif_t h177)
                        refine AW.seq ?_
                        refine AW.reg hC  false [] [2] []
                          ⟨[(2, .int .i64 2)], []⟩
                          [] (by kernel_rfl) ?_ ?_
                        · exact trivial
                        refine AW.ret ?_
                        exact AW.retE (β := Int) (fun v => [⟨(.int .i64), v⟩]) (fun v => []) (v := 2) e178 (by kernel_rfl) rfl rfl
                      · intro h179
                        have h179q : kind ≠ 8 := (Go.Am.beq_neg h179)
                        have e180 := e176.trans (Go.Am.bif_f h179)
                        refine AW.keep [] [] ⟨[], []⟩ (by kernel_rfl) ?_
                        refine AW.skip ?_
                        refine AW.seq ?_
                        refine AW.reg hC  false [] [2] []
                          ⟨[(2, .int .i64 (-1))], []⟩
                          [] (by kernel_rfl) ?_ ?_
                        · exact trivial
                        refine AW.ret ?_
                        exact AW.retE (β := Int) (fun v => [⟨(.int .i64), v⟩]) (fun v => []) (v := (-1)) e180 (by kernel_rfl) rfl rfl
                    · intro h181
                      have h181q : kind ≠ 8 := (Go.Am.beq_neg h181)
                      have e182 := e174.trans (Go.Am.bif_f h181)
                      refine AW.reg hC  false [] [10] []
                        ⟨[(10, .bool (kind == 9))], []⟩
                        [] (by kernel_rfl) ?_ ?_
                      · exact trivial
                      refine AW.cond (b := (kind == 9)) (by kernel_rfl) ?_ ?_
                      · intro h183
                        have h183q : kind = 9 := (Go.Am.beq_pos h183)
                        have e184 := e182.trans (Go.Am.bif_t h183)
                        refine AW.seq ?_
                        refine AW.reg hC  false [] [2] []
                          ⟨[(2, .int .i64 2)], []⟩
                          [] (by kernel_rfl) ?_ ?_
                        · exact trivial
                        refine AW.ret ?_
                        exact AW.retE (β := Int) (fun v => [⟨(.int .i64), v⟩]) (fun v => []) (v := 2) e184 (by kernel_rfl) rfl rfl
                      · intro h185
                        have h185q : kind ≠ 9 := (Go.Am.beq_neg h185)
                        have e186 := e182.trans (Go.Am.bif_f h185)
                        refine AW.keep [] [] ⟨[], []⟩ (by kernel_rfl) ?_
                        refine AW.skip ?_
                        refine AW.seq ?_
                        refine AW.reg hC  false [] [2] []
                          ⟨[(2, .int .i64 (-1))], []⟩
                          [] (by kernel_rfl) ?_ ?_
                        · exact trivial
                        refine AW.ret ?_
                        exact AW.retE (β := Int) (fun v => [⟨(.int .i64), v⟩]) (fun v => []) (v := (-1)) e186 (by kernel_rfl) rfl rfl
      · intro h187
        have h187q : kind ≠ 10 := (Go.Am.beq_neg h187)
        have e188 := e128.trans (Go.Am.bif_f h187)
        refine AW.reg hC  false [] [3, 7] []
          ⟨[(3, .int .i64 kind), (7, .bool (kind == 11))], []⟩
          [] (by kernel_rfl) ?_ ?_
        · exact trivial
        refine AW.cond (b := (kind == 11)) (by kernel_rfl) ?_ ?_
        · intro h189
          have h189q : kind = 11 := (Go.Am.beq_pos h189)
          have e190 := e188.trans (Go.Am.bif_t h189)
          refine AW.seq ?_
          refine AW.reg hC  false [] [2] []
            ⟨[(2, .int .i64 1)], []⟩
            [] (by kernel_rfl) ?_ ?_
          · exact trivial
          refine AW.ret ?_
          exact AW.retE (β := Int) (fun v => [⟨(.int .i64), v⟩]) (fun v => []) (v := 1) e190 (by kernel_rfl) rfl rfl
        · intro h191
          have h191q : kind ≠ 11 := (Go.Am.beq_neg h191)
          have e192 := e188.trans (Go.Am.bif_f h191)
          refine AW.seq ?_
          refine AW.seq ?_
          refine AW.reg hC  false [] [3, 10] []
            ⟨[(3, .int .i64 kind), (10, .bool (kind == 3))], []⟩
            [] (by kernel_rfl) ?_ ?_
          · exact trivial
          refine AW.cond (b := (kind == 3)) (by kernel_rfl) ?_ ?_
          · intro h193
            have h193q : kind = 3 := (Go.Am.beq_pos h193)
            have e194 := e192.trans (Go.Am.bif_t h193)
            refine AW.keep [10] [] ⟨[(10, .bool (kind == 3))], []⟩ (by kernel_rfl) ?_
            refine AW.skip ?_
            refine AW.cond (b := (kind == 3)) (by kernel_rfl) ?_ ?_
            · intro h195
              have h195q : kind = 3 := (Go.Am.beq_pos h195)
              have e196 := e194.trans (Go.Am.bif_t h195)
              refine AW.seq ?_
              refine AW.reg hC  false [] [2] []
                ⟨[(2, .int .i64 2)], []⟩
                [] (by kernel_rfl) ?_ ?_
              · exact trivial
              refine AW.ret ?_
              exact AW.retE (β := Int) (fun v => [⟨(.int .i64), v⟩]) (fun v => []) (v := 2) e196 (by kernel_rfl) rfl rfl
            · intro h197
              have h197q : kind ≠ 3 := (Go.Am.beq_neg h197)
              have e198 := e194.trans (Go.Am.bif_f h197)
              refine AW.keep [] [] ⟨[], []⟩ (by kernel_rfl) ?_
              refine AW.skip ?_
              refine AW.seq ?_
              refine AW.reg hC  false [] [2] []
                ⟨[(2, .int .i64 (-1))], []⟩
                [] (by kernel_rfl) ?_ ?_
              · exact trivial
              refine AW.ret ?_
              exact AW.retE (β := Int) (fun v => [⟨(.int .i64), v⟩]) (fun v => []) (v := (-1)) e198 (by kernel_rfl) rfl rfl
          · intro h199
            have h199q : kind ≠ 3 := (Go.Am.beq_neg h199)
            have e200 := e192.trans (Go.Am.bif_f h199)
            refine AW.seq ?_
            refine AW.reg hC  false [] [3, 10] []
              ⟨[(3, .int .i64 kind), (10, .bool (kind == 4))], []⟩
              [] (by kernel_rfl) ?_ ?_
            · exact trivial
            refine AW.cond (b := (kind == 4)) (by kernel_rfl) ?_ ?_
            · intro h201
              have h201q : kind = 4 := (Go.Am.beq_pos h201)
              have e202 := e200.trans (Go.Am.bif_t h201)
              refine AW.keep [10] [] ⟨[(10, .bool (kind == 4))], []⟩ (by kernel_rfl) ?_
              refine AW.skip ?_
              refine AW.cond (b := (kind == 4)) (by kernel_rfl) ?_ ?_
              · intro h203
                have h203q : kind = 4 := (Go.Am.beq_pos h203)
                have e204 := e202.trans (Go.Am.bif_t h203)
                refine AW.seq ?_
                refine AW.reg hC  false [] [2] []
                  ⟨[(2, .int .i64 2)], []⟩
                  [] (by kernel_rfl) ?_ ?_
                · exact trivial
                refine AW.ret ?_
                exact AW.retE (β := Int) (fun v => [⟨(.int .i64), v⟩]) (fun v => []) (v := 2) e204 (by kernel_rfl) rfl rfl
              · intro h205
                have h205q : kind ≠ 4 := (Go.Am.beq_neg h205)
                have e206 := e202.trans (Go.Am.bif_f h205)
                refine AW.keep [] [] ⟨[], []⟩ (by kernel_rfl) ?_
                refine AW.skip ?_
                refine AW.seq ?_
                refine AW.reg hC  false [] [2] []
                  ⟨[(2, .int .i64 (-1))], []⟩
                  [] (by kernel_rfl) ?_ ?_
                · exact trivial
                refine AW.ret ?_
                exact AW.retE (β := Int) (fun v => [⟨(.int .i64), v⟩]) (fun v => []) (v := (-1)) e206 (by kernel_rfl) rfl rfl
            · intro h207
              have h207q : kind ≠ 4 := (Go.Am.beq_neg h207)
              have e208 := e200.trans (Go.Am.bif_f h207)
              refine AW.seq ?_
              refine AW.reg hC  false [] [3, 10] []
                ⟨[(3, .int .i64 kind), (10, .bool (kind == 5))], []⟩
                [] (by kernel_rfl) ?_ ?_
              · exact trivial
              refine AW.cond (b := (kind == 5)) (by kernel_rfl) ?_ ?_
              · intro h209
                have h209q : kind = 5 := (Go.Am.beq_pos h209)
                have e210 := e208.trans (Go.Am.bif_t h209)
                refine AW.keep [10] [] ⟨[(10, .bool (kind == 5))], []⟩ (by kernel_rfl) ?_
                refine AW.skip ?_
                refine AW.cond (b := (kind == 5)) (by kernel_rfl) ?_ ?_
                · intro h211
                  have h211q : kind = 5 := (Go.Am.beq_pos h211)
                  have e212 := e210.trans (Go.Am.bif_t h211)
                  refine AW.seq ?_
                  refine AW.reg hC  false [] [2] []
                    ⟨[(2, .int .i64 2)], []⟩
                    [] (by kernel_rfl) ?_ ?_
                  · exact trivial
                  refine AW.ret ?_
                  exact AW.retE (β := Int) (fun v => [⟨(.int .i64), v⟩]) (fun v => []) (v := 2) e212 (by kernel_rfl) rfl rfl
                · intro h213
                  have h213q : kind ≠ 5 := (Go.Am.beq_neg h213)
                  have e214 := e210.trans (Go.Am.bif_f h213)
                  refine AW.keep [] [] ⟨[], []⟩ (by kernel_rfl) ?_
                  refine AW.skip ?_
                  refine AW.seq ?_
                  refine AW.reg hC  false [] [2] []
                    ⟨[(2, .int .i64 (-1))], []⟩
                    [] (by kernel_rfl) ?_ ?_
                  · exact trivial
                  refine AW.ret ?_
                  exact AW.retE (β := Int) (fun v => [⟨(.int .i64), v⟩]) (fun v => []) (v := (-1)) e214 (by kernel_rfl) rfl rfl
              · intro h215
                have h215q : kind ≠ 5 := (Go.Am.beq_neg h215)
                have e216 := e208.trans (Go.Am.bif_f h215)
                refine AW.seq ?_
                refine AW.reg hC  false [] [3, 10] []
                  ⟨[(3, .int .i64 kind), (10, .bool (kind == 6))], []⟩
                  [] (by kernel_rfl) ?_ ?_
                · exact trivial
                refine AW.cond (b := (kind == 6)) (by kernel_rfl) ?_ ?_
                · intro h217
                  have h217q : kind = 6 := (Go.Am.beq_pos h217)
                  have e218 := e216.trans (Go.Am.bif_t h217)
                  refine AW.keep [10] [] ⟨[(10, .bool (kind == 6))], []⟩ (by kernel_rfl) ?_
                  refine AW.skip ?_
                  refine AW.cond (b := (kind == 6)) (by kernel_rfl) ?_ ?_
                  · intro h219
                    have h219q : kind = 6 := (Go.Am.beq_pos h219)
                    have e220 := e218.trans (Go.Am.bif_t h219)
                    refine AW.seq ?_
                    refine AW.reg hC  false [] [2] []
                      ⟨[(2, .int .i64 2)], []⟩
                      [] (by kernel_rfl) ?_ ?_
                    · exact trivial
                    refine AW.ret ?_
                    exact AW.retE (β := Int) (fun v => [⟨(.int .i64), v⟩]) (fun v => []) (v := 2) e220 (by kernel_rfl) rfl rfl
                  · intro h221
                    have h221q : kind ≠ 6 := (Go.Am.beq_neg h221)
                    have e222 := e218.trans (Go.Am.bif_f h221)
                    refine AW.keep [] [] ⟨[], []⟩ (by kernel_rfl) ?_
                    refine AW.skip ?_
                    refine AW.seq ?_
                    refine AW.reg hC  false [] [2] []
                      ⟨[(2, .int .i64 (-1))], []⟩
                      [] (by kernel_rfl) ?_ ?_
                    · exact trivial
                    refine AW.ret ?_
                    exact AW.retE (β := Int) (fun v => [⟨(.int .i64), v⟩]) (fun v => []) (v := (-1)) e222 (by kernel_rfl) rfl rfl
                · intro h223
                  have h223q : kind ≠ 6 := (Go.Am.beq_neg h223)
                  have e224 := e216.trans (Go.Am.bif_f h223)
                  refine AW.seq ?_
                  refine AW.reg hC  false [] [3, 10] []
                    ⟨[(3, .int .i64 kind), (10, .bool (kind == 7))], []⟩
                    [] (by kernel_rfl) ?_ ?_
                  · exact trivial
                  refine AW.cond (b := (kind == 7)) (by kernel_rfl) ?_ ?_
                  · intro h225
                    have h225q : kind = 7 := (Go.Am.beq_pos h225)
                    have e226 := e224.trans (Go.Am.bif_t h225)
                    refine AW.keep [10] [] ⟨[(10, .bool (kind == 7))], []⟩ (by kernel_rfl) ?_
                    refine AW.skip ?_
                    refine AW.cond (b := (kind == 7)) (by kernel_rfl) ?_ ?_
                    · intro h227
                      have h227q : kind = 7 := (Go.Am.beq_pos h227)
                      have e228 := e226.trans (Go.Am.bif_t h227)
                      refine AW.seq ?_
                      refine AW.reg hC  false [] [2] []
                        ⟨[(2, .int .i64 2)], []⟩
                        [] (by kernel_rfl) ?_ ?_
                      · exact trivial
                      refine AW.ret ?_
                      exact AW.retE (β := Int) (fun v => [⟨(.int .i64), v⟩]) (fun v => []) (v := 2) e228 (by kernel_rfl) rfl rfl
                    · intro h229
                      have h229q : kind ≠ 7 := (Go.Am.beq_neg h229)
                      have e230 := e226.trans (Go.Am.bif_f h229)
                      refine AW.keep [] [] ⟨[], []⟩ (by kernel_rfl) ?_
                      refine AW.skip ?_
                      refine AW.seq ?_
                      refine AW.reg hC  false [] [2] []
                        ⟨[(2, .int .i64 (-1))], []⟩
                        [] (by kernel_rfl) ?_ ?_
                      · exact trivial
                      refine AW.ret ?_
                      exact AW.retE (β := Int) (fun v => [⟨(.int .i64), v⟩]) (fun v => []) (v := (-1)) e230 (by kernel_rfl) rfl rfl
                  · intro h231
                    have h231q : kind ≠ 7 := (Go.Am.beq_neg h231)
                    have e232 := e224.trans (Go.Am.bif_f h231)
                    refine AW.seq ?_
                    refine AW.reg hC  false [] [3, 10] []
                      ⟨[(3, .int .i64 kind), (10, .bool (kind == 8))], []⟩
                      [] (by kernel_rfl) ?_ ?_
                    · exact trivial
                    refine AW.cond (b := (kind == 8)) (by kernel_rfl) ?_ ?_
                    · intro h233
                      have h233q : kind = 8 := (Go.Am.beq_pos h233)
                      have e234 := e232.trans (Go.Am.bif_t h233)
                      refine AW.keep [10] [] ⟨[(10, .bool (kind == 8))], []⟩ (by kernel_rfl) ?_
                      refine AW.skip ?_
                      refine AW.cond (b := (kind == 8)) (by kernel_rfl) ?_ ?_
                      · intro h235
                        have h235q : kind = 8 := (Go.Am.beq_pos h235)
                        have e236 := e234.trans (Go.Am.bif_t h235)
                        refine AW.seq ?_
                        refine AW.reg hC  false [] [2] []
                          ⟨[(2, .int .i64 2)], []⟩
                          [] (by kernel_rfl) ?_ ?_
                        · exact trivial
                        refine AW.ret ?_
                        exact AW.retE (β := Int) (fun v => [⟨(.int .i64), v⟩]) (fun v => []) (v := 2) e236 (by kernel_rfl) rfl rfl
                      · intro h237
                        have h237q : kind ≠ 8 := (Go.Am.beq_neg h237)
                        have e238 := e234.trans (Go.Am.bif_f h237)
                        refine AW.keep [] [] ⟨[], []⟩ (by kernel_rfl) ?_
                        refine AW.skip ?_
                        refine AW.seq ?_
                        refine AW.reg hC  false [] [2] []
                          ⟨[(2, .int .i64 (-1))], []⟩
                          [] (by kernel_rfl) ?_ ?_
                        · exact trivial
                        refine AW.ret ?_
                        exact AW.retE (β := Int) (fun v => [⟨(.int .i64), v⟩]) (fun v => []) (v := (-1)) e238 (by kernel_rfl) rfl rfl
                    · intro h239
                      have h239q : kind ≠ 8 := (Go.Am.beq_neg h239)
                      have e240 := e232.trans (Go.Am.bif_f h239)
                      refine AW.reg hC  false [] [10] []
                        ⟨[(10, .bool (kind == 9))], []⟩
                        [] (by kernel_rfl) ?_ ?_
                      · exact trivial
                      refine AW.cond (b := (kind == 9)) (by kernel_rfl) ?_ ?_
                      · intro h241
                        have h241q : kind = 9 := (Go.Am.beq_pos h241)
                        have e242 := e240.trans (Go.Am.bif_t h241)
                        refine AW.seq ?_
                        refine AW.reg hC  false [] [2] []
                          ⟨[(2, .int .i64 2)], []⟩
                          [] (by kernel_rfl) ?_ ?_
                        · exact trivial
                        refine AW.ret ?_
                        exact AW.retE (β := Int) (fun v => [⟨(.int .i64), v⟩]) (fun v => []) (v := 2) e242 (by kernel_rfl) rfl rfl
                      · intro h243
                        have h243q : kind ≠ 9 := (Go.Am.beq_neg h243)
                        have e244 := e240.trans (Go.Am.bif_f h243)
                        refine AW.keep [] [] ⟨[], []⟩ (by kernel_rfl) ?_
                        refine AW.skip ?_
                        refine AW.seq ?_
                        refine AW.reg hC  false [] [2] []
                          ⟨[(2, .int .i64 (-1))], []⟩
                          [] (by kernel_rfl) ?_ ?_
                        · exact trivial
                        refine AW.ret ?_
                        exact AW.retE (β := Int) (fun v => [⟨(.int .i64), v⟩]) (fun v => []) (v := (-1)) e244 (by kernel_rfl) rfl rfl

def kidsOf (kind : Int) : Int := (bif (kind == 1) then (bif (kind == 1) then 0 else (bif (kind == 10) then (bif (kind == 10) then 1 else (bif (kind == 3) then (bif (kind == 3) then 2 else (-1)) else (bif (kind == 4) then (bif (kind == 4) then 2 else (-1)) else (bif (kind == 5) then (bif (kind == 5) then 2 else (-1)) else (bif (kind == 6) then (bif (kind == 6) then 2 else (-1)) else (bif (kind == 7) then (bif (kind == 7) then 2 else (-1)) else (bif (kind == 8) then (bif (kind == 8) then 2 else (-1)) else (bif (kind == 9) then 2 else (-1))))))))) else (bif (kind == 11) then 1 else (bif (kind == 3) then (bif (kind == 3) then 2 else (-1)) else (bif (kind == 4) then (bif (kind == 4) then 2 else (-1)) else (bif (kind == 5) then (bif (kind == 5) then 2 else (-1)) else (bif (kind == 6) then (bif (kind == 6) then 2 else (-1)) else (bif (kind == 7) then (bif (kind == 7) then 2 else (-1)) else (bif (kind == 8) then (bif (kind == 8) then 2 else (-1)) else (bif (kind == 9) then 2 else (-1))))))))))) else (bif (kind == 2) then 0 else (bif (kind == 10) then (bif (kind == 10) then 1 else (bif (kind == 3) then (bif (kind == 3) then 2 else (-1)) else (bif (kind == 4) then (bif (kind == 4) then 2 else (-1)) else (bif (kind == 5) then (bif (kind == 5) then 2 else (-1)) else (bif (kind == 6) then (bif (kind == 6) then 2 else (-1)) else (bif (kind == 7) then (bif (kind == 7) then 2 else (-1)) else (bif (kind == 8) then (bif (kind == 8) then 2 else (-1)) else (bif (kind == 9) then 2 else (-1))))))))) else (bif (kind == 11) then 1 else (bif (kind == 3) then (bif (kind == 3) then 2 else (-1)) else (bif (kind == 4) then (bif (kind == 4) then 2 else (-1)) else (bif (kind == 5) then (bif (kind == 5) then 2 else (-1)) else (bif (kind == 6) then (bif (kind == 6) then 2 else (-1)) else (bif (kind == 7) then (bif (kind == 7) then 2 else (-1)) else (bif (kind == 8) then (bif (kind == 8) then 2 else (-1)) else (bif (kind == 9) then 2 else (-1))))))))))))

def kidsOf_sp : FnSpec := mkSpec [.val (.int .i64)] [.val (.int .i64)] (fun (kind : Int) => True) (fun (kind : Int) => [⟨(.int .i64), (kidsOf kind)⟩])

theorem kidsOf_ok : FnOK Try.prog 152 kidsOf_sp := by
  have hC : CtxOK Try.prog (mkCtx tyL []) := CtxOK.nil tyOK
  refine FnOK.of_body Try.func152 (by kernel_rfl) rfl (C := (mkCtx tyL [])) hC.ty (by kernel_rfl) ?_
  intro (kind : Int) hwf hpre E
  have hpre : True := hpre
  have hw_kind : Wf ⟨(.int .i64), (kind : Int)⟩ := hwf _ (List.Mem.head _)
  have hr_kind : -9223372036854775808 ≤ kind ∧ kind ≤ 9223372036854775807 := hw_kind.int_inv
  have e0 : kidsOf kind = kidsOf kind := rfl
  refine AW.seq ?_
  refine AW.reg hC  false [] [0] []
    ⟨[(0, .int .i64 kind)], []⟩
    [] (by kernel_rfl) ?_ ?_
  · exact trivial
  refine AW.seq ?_
  refine AW.seq ?_
  refine AW.reg hC  false [] [3] []
    ⟨[(3, .int .i64 kind)], []⟩
    [] (by kernel_rfl) ?_ ?_
  · exact trivial
  refine AW.block ?_
  refine AW.seq ?_
  refine AW.seq ?_
  refine AW.reg hC  false [] [3, 4] []
    ⟨[(3, .int .i64 kind), (4, .bool (kind == 1))], []⟩
    [] (by kernel_rfl) ?_ ?_
  · exact trivial
  refine AW.cond (b := (kind == 1)) (by kernel_rfl) ?_ ?_
  · intro h1
    have h1q : kind = 1 := (Go.Am.beq_pos h1)
    have e2 := e0.trans (Go.Am.bif_t h1)
    refine AW.skip ?_
    refine AW.cond (b := (kind == 1)) (by kernel_rfl) ?_ ?_
    · intro h3
      have h3q : kind = 1 := (Go.Am.beq_pos h3)
      have e4 := e2.trans (Go.Am.bif_t h3)
      refine AW.seq ?_
      refine AW.reg hC  false [] [2] []
        ⟨[(2, .int .i64 0)], []⟩
        [] (by kernel_rfl) ?_ ?_
      · exact trivial
      refine AW.ret ?_
      exact AW.retE (β := Int) (fun v => [⟨(.int .i64), v⟩]) (fun v => []) (v := 0) e4 (by kernel_rfl) rfl rfl
    · intro h5
      have h5q : kind ≠ 1 := (Go.Am.beq_neg h5)
      have e6 := e2.trans (Go.Am.bif_f h5)
      refine AW.seq ?_
      refine AW.seq ?_
      refine AW.reg hC  false [] [3, 7] []
        ⟨[(3, .int .i64 kind), (7, .bool (kind == 10))], []⟩
        [] (by kernel_rfl) ?_ ?_
      · exact trivial
      refine AW.cond (b := (kind == 10)) (by kernel_rfl) ?_ ?_
      · intro h7
        have h7q : kind = 10 := (Go.Am.beq_pos h7)
        have e8 := e6.trans (Go.Am.bif_t h7)
        refine AW.skip ?_
        refine AW.cond (b := (kind == 10)) (by kernel_rfl) ?_ ?_
        · intro h9
          have h9q : kind = 10 := (Go.Am.beq_pos h9)
          have e10 := e8.trans (Go.Am.bif_t h9)
          refine AW.seq ?_
          refine AW.reg hC  false [] [2] []
            ⟨[(2, .int .i64 1)], []⟩
            [] (by kernel_rfl) ?_ ?_
          · exact trivial
          refine AW.ret ?_
          exact AW.retE (β := Int) (fun v => [⟨(.int .i64), v⟩]) (fun v => []) (v := 1) e10 (by kernel_rfl) rfl rfl
        · intro h11
          have h11q : kind ≠ 10 := (Go.Am.beq_neg h11)
          have e12 := e8.trans (Go.Am.bif_f h11)
          refine AW.seq ?_
          refine AW.seq ?_
          refine AW.reg hC  false [] [3, 10] []
            ⟨[(3, .int .i64 kind), (10, .bool (kind == 3))], []⟩
            [] (by kernel_rfl) ?_ ?_
          · exact trivial
          refine AW.cond (b := (kind == 3)) (by kernel_rfl) ?_ ?_
          · intro h13
            have h13q : kind = 3 := (Go.Am.beq_pos h13)
            have e14 := e12.trans (Go.Am.bif_t h13)
            refine AW.keep [10] [] ⟨[(10, .bool (kind == 3))], []⟩ (by kernel_rfl) ?_
            refine AW.skip ?_
            refine AW.cond (b := (kind == 3)) (by kernel_rfl) ?_ ?_
            · intro h15
              have h15q : kind = 3 := (Go.Am.beq_pos h15)
              have e16 := e14.trans (Go.Am.bif_t h15)
              refine AW.seq ?_
              refine AW.reg hC  false [] [2] []
                ⟨[(2, .int .i64 2)], []⟩
                [] (by kernel_rfl) ?_ ?_
              · exact trivial
              refine AW.ret ?_
              exact AW.retE (β := Int) (fun v => [⟨(.int .i64), v⟩]) (fun v => []) (v := 2) e16 (by kernel_rfl) rfl rfl
            · intro h17
              have h17q : kind ≠ 3 := (Go.Am.beq_neg h17)
              have e18 := e14.trans (Go.Am.bif_f h17)
              refine AW.keep [] [] ⟨[], []⟩ (by kernel_rfl) ?_
              refine AW.skip ?_
              refine AW.seq ?_
              refine AW.reg hC  false [] [2] []
                ⟨[(2, .int .i64 (-1))], []⟩
                [] (by kernel_rfl) ?_ ?_
              · exact trivial
              refine AW.ret ?_
              exact AW.retE (β := Int) (fun v => [⟨(.int .i64), v⟩]) (fun v => []) (v := (-1)) e18 (by kernel_rfl) rfl rfl
          · intro h19
            have h19q : kind ≠ 3 := (Go.Am.beq_neg h19)
            have e20 := e12.trans (Go.Am.bif_f h19)
            refine AW.seq ?_
            refine AW.reg hC  false [] [3, 10] []
              ⟨[(3, .int .i64 kind), (10, .bool (kind == 4))], []⟩
              [] (by kernel_rfl) ?_ ?_
            · exact trivial
            refine AW.cond (b := (kind == 4)) (by kernel_rfl) ?_ ?_
            · intro h21
              have h21q : kind = 4 := (Go.Am.beq_pos h21)
              have e22 := e20.trans (Go.Am.bif_t h21)
              refine AW.keep [10] [] ⟨[(10, .bool (kind == 4))], []⟩ (by kernel_rfl) ?_
              refine AW.skip ?_
              refine AW.cond (b := (kind == 4)) (by kernel_rfl) ?_ ?_
              · intro h23
                have h23q : kind = 4 := (Go.Am.beq_pos h23)
                have e24 := e22.trans (Go.Am.bif_t h23)
                refine AW.seq ?_
                refine AW.reg hC  false [] [2] []
                  ⟨[(2, .int .i64 2)], []⟩
                  [] (by kernel_rfl) ?_ ?_
                · exact trivial
                refine AW.ret ?_
                exact AW.retE (β := Int) (fun v => [⟨(.int .i64), v⟩]) (fun v => []) (v := 2) e24 (by kernel_rfl) rfl rfl
              · intro h25
                have h25q : kind ≠ 4 := (Go.Am.beq_neg h25)
                have e26 := e22.trans (Go.Am.bif_f h25)
                refine AW.keep [] [] ⟨[], []⟩ (by kernel_rfl) ?_
                refine AW.skip ?_
                refine AW.seq ?_
                refine AW.reg hC  false [] [2] []
                  ⟨[(2, .int .i64 (-1))], []⟩
                  [] (by kernel_rfl) ?_ ?_
                · exact trivial
                refine AW.ret ?_
                exact AW.retE (β := Int) (fun v => [⟨(.int .i64), v⟩]) (fun v => []) (v := (-1)) e26 (by kernel_rfl) rfl rfl
            · intro h27
              have h27q : kind ≠ 4 := (Go.Am.beq_neg h27)
              have e28 := e20.trans (Go.Am.bif_f h27)
              refine AW.seq ?_
              refine AW.reg hC  false [] [3, 10] []
                ⟨[(3, .int .i64 kind), (10, .bool (kind == 5))], []⟩
                [] (by kernel_rfl) ?_ ?_
              · exact trivial
              refine AW.cond (b := (kind == 5)) (by kernel_rfl) ?_ ?_
              · intro h29
                have h29q : kind = 5 := (Go.Am.beq_pos h29)
                have e30 := e28.trans (Go.Am.bif_t h29)
                refine AW.keep [10] [] ⟨[(10, .bool (kind == 5))], []⟩ (by kernel_rfl) ?_
                refine AW.skip ?_
                refine AW.cond (b := (kind == 5)) (by kernel_rfl) ?_ ?_
                · intro h31
                  have h31q : kind = 5 := (Go.Am.beq_pos h31)
                  have e32 := e30.trans (Go.Am.bif_t h31)
                  refine AW.seq ?_
                  refine AW.reg hC  false [] [2] []
                    ⟨[(2, .int .i64 2)], []⟩
                    [] (by kernel_rfl) ?_ ?_
                  · exact trivial
                  refine AW.ret ?_
                  exact AW.retE (β := Int) (fun v => [⟨(.int .i64), v⟩]) (fun v => []) (v := 2) e32 (by kernel_rfl) rfl rfl
                · intro h33
                  have h33q : kind ≠ 5 := (Go.Am.beq_neg h33)
                  have e34 := e30.trans (Go.Am.bif_f h33)
                  refine AW.keep [] [] ⟨[], []⟩ (by kernel_rfl) ?_
                  refine AW.skip ?_
                  refine AW.seq ?_
                  refine AW.reg hC  false [] [2] []
                    ⟨[(2, .int .i64 (-1))], []⟩
                    [] (by kernel_rfl) ?_ ?_
                  · exact trivial
                  refine AW.ret ?_
                  exact AW.retE (β := Int) (fun v => [⟨(.int .i64), v⟩]) (fun v => []) (v := (-1)) e34 (by kernel_rfl) rfl rfl
              · intro h35
                have h35q : kind ≠ 5 := (Go.Am.beq_neg h35)
                have e36 := e28.trans (Go.Am.bif_f h35)
                refine AW.seq ?_
                refine AW.reg hC  false [] [3, 10] []
                  ⟨[(3, .int .i64 kind), (10, .bool (kind == 6))], []⟩
                  [] (by kernel_rfl) ?_ ?_
                · exact trivial
                refine AW.cond (b := (kind == 6)) (by kernel_rfl) ?_ ?_
                · intro h37
                  have h37q : kind = 6 := (Go.Am.beq_pos h37)
                  have e38 := e36.trans (Go.Am.bif_t h37)
                  refine AW.keep [10] [] ⟨[(10, .bool (kind == 6))], []⟩ (by kernel_rfl) ?_
                  refine AW.skip ?_
                  refine AW.cond (b := (kind == 6)) (by kernel_rfl) ?_ ?_
                  · intro h39
                    have h39q : kind = 6 := (Go.Am.beq_pos h39)
                    have e40 := e38.trans (Go.Am.bif_t h39)
                    refine AW.seq ?_
                    refine AW.reg hC  false [] [2] []
                      ⟨[(2, .int .i64 2)], []⟩
                      [] (by kernel_rfl) ?_ ?_
                    · exact trivial
                    refine AW.ret ?_
                    exact AW.retE (β := Int) (fun v => [⟨(.int .i64), v⟩]) (fun v => []) (v := 2) e40 (by kernel_rfl) rfl rfl
                  · intro h41
                    have h41q : kind ≠ 6 := (Go.Am.beq_neg h41)
                    have e42 := e38.trans (Go.Am.bif_f h41)
                    refine AW.keep [] [] ⟨[], []⟩ (by kernel_rfl) ?_
                    refine AW.skip ?_
                    refine AW.seq ?_
                    refine AW.reg hC  false [] [2] []
                      ⟨[(2, .int .i64 (-1))], []⟩
                      [] (by kernel_rfl) ?_ ?_
                    · exact trivial
                    refine AW.ret ?_
                    exact AW.retE (β := Int) (fun v => [⟨(.int .i64), v⟩]) (fun v => []) (v := (-1)) e42 (by kernel_rfl) rfl rfl
                · intro h43
                  have h43q : kind ≠ 6 := (Go.Am.beq_neg h43)
                  have e44 := e36.trans (Go.Am.bif_f h43)
                  refine AW.seq ?_
                  refine AW.reg hC  false [] [3, 10] []
                    ⟨[(3, .int .i64 kind), (10, .bool (kind == 7))], []⟩
                    [] (by kernel_rfl) ?_ ?_
                  · exact trivial
                  refine AW.cond (b := (kind == 7)) (by kernel_rfl) ?_ ?_
                  · intro h45
                    have h45q : kind = 7 := (Go.Am.beq_pos h45)
                    have e46 := e44.trans (Go.Am.bif_t h45)
                    refine AW.keep [10] [] ⟨[(10, .bool (kind == 7))], []⟩ (by kernel_rfl) ?_
                    refine AW.skip ?_
                    refine AW.cond (b := (kind == 7)) (by kernel_rfl) ?_ ?_
                    · intro h47
                      have h47q : kind = 7 := (Go.Am.beq_pos h47)
                      have e48 := e46.trans (Go.Am.bif_t h47)
                      refine AW.seq ?_
                      refine AW.reg hC  false [] [2] []
                        ⟨[(2, .int .i64 2)], []⟩
                        [] (by kernel_rfl) ?_ ?_
                      · exact trivial
                      refine AW.ret ?_
                      exact AW.retE (β := Int) (fun v => [⟨(.int .i64), v⟩]) (fun v => []) (v := 2) e48 (by kernel_rfl) rfl rfl
                    · intro h49
                      have h49q : kind ≠ 7 := (Go.Am.beq_neg h49)
                      have e50 := e46.trans (Go.Am.bif_f h49)
                      refine AW.keep [] [] ⟨[], []⟩ (by kernel_rfl) ?_
                      refine AW.skip ?_
                      refine AW.seq ?_
                      refine AW.reg hC  false [] [2] []
                        ⟨[(2, .int .i64 (-1))], []⟩
                        [] (by kernel_rfl) ?_ ?_
                      · exact trivial
                      refine AW.ret ?_
                      exact AW.retE (β := Int) (fun v => [⟨(.int .i64), v⟩]) (fun v => []) (v := (-1)) e50 (by kernel_rfl) rfl rfl
                  · intro h51
                    have h51q : kind ≠ 7 := (Go.Am.beq_neg h51)
                    have e52 := e44.trans (Go.Am.bif_f h51)
                    refine AW.seq ?_
                    refine AW.reg hC  false [] [3, 10] []
                      ⟨[(3, .int .i64 kind), (10, .bool (kind == 8))], []⟩
                      [] (by kernel_rfl) ?_ ?_
                    · exact trivial
                    refine AW.cond (b := (kind == 8)) (by kernel_rfl) ?_ ?_
                    · intro h53
                      have h53q : kind = 8 := (Go.Am.beq_pos h53)
                      have e54 := e52.trans (Go.Am.bif_t h53)
                      refine AW.keep [10] [] ⟨[(10, .bool (kind == 8))], []⟩ (by kernel_rfl) ?_
                      refine AW.skip ?_
                      refine AW.cond (b := (kind == 8)) (by kernel_rfl) ?_ ?_
                      · intro h55
                        have h55q : kind = 8 := (Go.Am.beq_pos h55)
                        have e56 := e54.trans (Go.Am.bif_t h55)
                        refine AW.seq ?_
                        refine AW.reg hC  false [] [2] []
                          ⟨[(2, .int .i64 2)], []⟩
                          [] (by kernel_rfl) ?_ ?_
                        · exact trivial
                        refine AW.ret ?_
                        exact AW.retE (β := Int) (fun v => [⟨(.int .i64), v⟩]) (fun v => []) (v := 2) e56 (by kernel_rfl) rfl rfl
                      · intro h57
                        have h57q : kind ≠ 8 := (Go.Am.beq_neg h57)
                        have e58 := e54.trans (Go.Am.bif_f h57)
                        refine AW.keep [] [] ⟨[], []⟩ (by kernel_rfl) ?_
                        refine AW.skip ?_
                        refine AW.seq ?_
                        refine AW.reg hC  false [] [2] []
                          ⟨[(2, .int .i64 (-1))], []⟩
                          [] (by kernel_rfl) ?_ ?_
                        · exact trivial
                        refine AW.ret ?_
                        exact AW.retE (β := Int) (fun v => [⟨(.int .i64), v⟩]) (fun v => []) (v := (-1)) e58 (by kernel_rfl) rfl rfl
                    · intro h59
                      have h59q : kind ≠ 8 := (Go.Am.beq_neg h59)
                      have e60 := e52.trans (Go.Am.bif_f h59)
                      refine AW.reg hC  false [] [10] []
                        ⟨[(10, .bool (kind == 9))], []⟩
                        [] (by kernel_rfl) ?_ ?_
                      · exact trivial
                      refine AW.cond (b := (kind == 9)) (by kernel_rfl) ?_ ?_
                      · intro h61
                        have h61q : kind = 9 := (Go.Am.beq_pos h61)
                        have e62 := e60.trans (Go.Am.bif_t h61)
                        refine AW.seq ?_
                        refine AW.reg hC  false [] [2] []
                          ⟨[(2, .int .i64 2)], []⟩
                          [] (by kernel_rfl) ?_ ?_
                        · exact trivial
                        refine AW.ret ?_
                        exact AW.retE (β := Int) (fun v => [⟨(.int .i64), v⟩]) (fun v => []) (v := 2) e62 (by kernel_rfl) rfl rfl
                      · intro h63
                        have h63q : kind ≠ 9 := (Go.Am.beq_neg h63)
                        have e64 := e60.trans (Go.Am.bif_f h63)
                        refine AW.keep [] [] ⟨[], []⟩ (by kernel_rfl) ?_
                        refine AW.skip ?_
                        refine AW.seq ?_
                        refine AW.reg hC  false [] [2] []
                          ⟨[(2, .int .i64 (-1))], []⟩
                          [] (by kernel_rfl) ?_ ?_
                        · exact trivial
                        refine AW.ret ?_
                        exact AW.retE (β := Int) (fun v => [⟨(.int .i64), v⟩]) (fun v => []) (v := (-1)) e64 (by kernel_rfl) rfl rfl
      · intro h65
        have h65q : kind ≠ 10 := (Go.Am.beq_neg h65)
        have e66 := e6.trans (Go.Am.bif_f h65)
        refine AW.reg hC  false [] [3, 7] []
          ⟨[(3, .int .i64 kind), (7, .bool (kind == 11))], []⟩
          [] (by kernel_rfl) ?_ ?_
        · exact trivial
        refine AW.cond (b := (kind == 11)) (by kernel_rfl) ?_ ?_
        · intro h67
          have h67q : kind = 11 := (Go.Am.beq_pos h67)
          have e68 := e66.trans (Go.Am.bif_t h67)
          refine AW.seq ?_
          refine AW.reg hC  false [] [2] []
            ⟨[(2, .int .i64 1)], []⟩
            [] (by kernel_rfl) ?_ ?_
          · exact trivial
          refine AW.ret ?_
          exact AW.retE (β := Int) (fun v => [⟨(.int .i64), v⟩]) (fun v => []) (v := 1) e68 (by kernel_rfl) rfl rfl
        · intro h69
          have h69q : kind ≠ 11 := (Go.Am.beq_neg h69)
          have e70 := e66.trans (Go.Am.bif_f h69)
          refine AW.seq ?_
          refine AW.seq ?_
          refine AW.reg hC  false [] [3, 10] []
            ⟨[(3, .int .i64 kind), (10, .bool (kind == 3))], []⟩
            [] (by kernel_rfl) ?_ ?_
          · exact trivial
          refine AW.cond (b := (kind == 3)) (by kernel_rfl) ?_ ?_
          · intro h71
            have h71q : kind = 3 := (Go.Am.beq_pos h71)
            have e72 := e70.trans (Go.Am.bif_t h71)
            refine AW.keep [10] [] ⟨[(10, .bool (kind == 3))], []⟩ (by kernel_rfl) ?_
            refine AW.skip ?_
            refine AW.cond (b := (kind == 3)) (by kernel_rfl) ?_ ?_
            · intro h73
              have h73q : kind = 3 := (Go.Am.beq_pos h73)
              have e74 := e72.trans (Go.Am.bif_t h73)
              refine AW.seq ?_
              refine AW.reg hC  false [] [2] []
                ⟨[(2, .int .i64 2)], []⟩
                [] (by kernel_rfl) ?_ ?_
              · exact trivial
              refine AW.ret ?_
              exact AW.retE (β := Int) (fun v => [⟨(.int .i64), v⟩]) (fun v => []) (v := 2) e74 (by kernel_rfl) rfl rfl
            · intro h75
              have h75q : kind ≠ 3 := (Go.Am.beq_neg h75)
              have e76 := e72.trans (Go.Am.bif_f h75)
              refine AW.keep [] [] ⟨[], []⟩ (by kernel_rfl) ?_
              refine AW.skip ?_
              refine AW.seq ?_
              refine AW.reg hC  false [] [2] []
                ⟨[(2, .int .i64 (-1))], []⟩
                [] (by kernel_rfl) ?_ ?_
              · exact trivial
              refine AW.ret ?_
              exact AW.retE (β := Int) (fun v => [⟨(.int .i64), v⟩]) (fun v => []) (v := (-1)) e76 (by kernel_rfl) rfl rfl
          · intro h77
            have h77q : kind ≠ 3 := (Go.Am.beq_neg h77)
            have e78 := e70.trans (Go.Am.bif_f h77)
            refine AW.seq ?_
            refine AW.reg hC  false [] [3, 10] []
              ⟨[(3, .int .i64 kind), (10, .bool (kind == 4))], []⟩
              [] (by kernel_rfl) ?_ ?_
            · exact trivial
            refine AW.cond (b := (kind == 4)) (by kernel_rfl) ?_ ?_
            · intro h79
              have h79q : kind = 4 := (Go.Am.beq_pos h79)
              have e80 := e78.trans (Go.Am.bif_t h79)
              refine AW.keep [10] [] ⟨[(10, .bool (kind == 4))], []⟩ (by kernel_rfl) ?_
              refine AW.skip ?_
              refine AW.cond (b := (kind == 4)) (by kernel_rfl) ?_ ?_
              · intro h81
                have h81q : kind = 4 := (Go.Am.beq_pos h81)
                have e82 := e80.trans (Go.Am.bif_t h81)
                refine AW.seq ?_
                refine AW.reg hC  false [] [2] []
                  ⟨[(2, .int .i64 2)], []⟩
                  [] (by kernel_rfl) ?_ ?_
                · exact trivial
                refine AW.ret ?_
                exact AW.retE (β := Int) (fun v => [⟨(.int .i64), v⟩]) (fun v => []) (v := 2) e82 (by kernel_rfl) rfl rfl
              · intro h83
                have h83q : kind ≠ 4 := (Go.Am.beq_neg h83)
                have e84 := e80.trans (Go.Am.bif_f h83)
                refine AW.keep [] [] ⟨[], []⟩ (by kernel_rfl) ?_
                refine AW.skip ?_
                refine AW.seq ?_
                refine AW.reg hC  false [] [2] []
                  ⟨[(2, .int .i64 (-1))], []⟩
                  [] (by kernel_rfl) ?_ ?_
                · exact trivial
                refine AW.ret ?_
                exact AW.retE (β := Int) (fun v => [⟨(.int .i64), v⟩]) (fun v => []) (v := (-1)) e84 (by kernel_rfl) rfl rfl
            · intro h85
              have h85q : kind ≠ 4 := (Go.Am.beq_neg h85)
              have e86 := e78.trans (Go.Am.bif_f h85)
              refine AW.seq ?_
              refine AW.reg hC  false [] [3, 10] []
                ⟨[(3, .int .i64 kind), (10, .bool (kind == 5))], []⟩
                [] (by kernel_rfl) ?_ ?_
              · exact trivial
              refine AW.cond (b := (kind == 5)) (by kernel_rfl) ?_ ?_
              · intro h87
                have h87q : kind = 5 := (Go.Am.beq_pos h87)
                have e88 := e86.trans (Go.Am.bif_t h87)
                refine AW.keep [10] [] ⟨[(10, .bool (kind == 5))], []⟩ (by kernel_rfl) ?_
                refine AW.skip ?_
                refine AW.cond (b := (kind == 5)) (by kernel_rfl) ?_ ?_
                · intro h89
                  have h89q : kind = 5 := (Go.Am.beq_pos h89)
                  have e90 := e88.trans (Go.Am.bif_t h89)
                  refine AW.seq ?_
                  refine AW.reg hC  false [] [2] []
                    ⟨[(2, .int .i64 2)], []⟩
                    [] (by kernel_rfl) ?_ ?_
                  · exact trivial
                  refine AW.ret ?_
                  exact AW.retE (β := Int) (fun v => [⟨(.int .i64), v⟩]) (fun v => []) (v := 2) e90 (by kernel_rfl) rfl rfl
                · intro h91
                  have h91q : kind ≠ 5 := (Go.Am.beq_neg h91)
                  have e92 := e88.trans (Go.Am.bif_f h91)
                  refine AW.keep [] [] ⟨[], []⟩ (by kernel_rfl) ?_
                  refine AW.skip ?_
                  refine AW.seq ?_
                  refine AW.reg hC  false [] [2] []
                    ⟨[(2, .int .i64 (-1))], []⟩
                    [] (by kernel_rfl) ?_ ?_
                  · exact trivial
                  refine AW.ret ?_
                  exact AW.retE (β := Int) (fun v => [⟨(.int .i64), v⟩]) (fun v => []) (v := (-1)) e92 (by kernel_rfl) rfl rfl
              · intro h93
                have h93q : kind ≠ 5 := (Go.Am.beq_neg h93)
                have e94 := e86.trans (Go.Am.bif_f h93)
                refine AW.seq ?_
                refine AW.reg hC  false [] [3, 10] []
                  ⟨[(3, .int .i64 kind), (10, .bool (kind == 6))], []⟩
                  [] (by kernel_rfl) ?_ ?_
                · exact trivial
                refine AW.cond (b := (kind == 6)) (by kernel_rfl) ?_ ?_
                · intro h95
                  have h95q : kind = 6 := (Go.Am.beq_pos h95)
                  have e96 := e94.trans (Go.Am.bif_t h95)
                  refine AW.keep [10] [] ⟨[(10, .bool (kind == 6))], []⟩ (by kernel_rfl) ?_
                  refine AW.skip ?_
                  refine AW.cond (b := (kind == 6)) (by kernel_rfl) ?_ ?_
                  · intro h97
                    have h97q : kind = 6 := (Go.Am.beq_pos h97)
                    have e98 := e96.trans (Go.Am.bif_t h97)
                    refine AW.seq ?_
                    refine AW.reg hC  false [] [2] []
                      ⟨[(2, .int .i64 2)], []⟩
                      [] (by kernel_rfl) ?_ ?_
                    · exact trivial
                    refine AW.ret ?_
                    exact AW.retE (β := Int) (fun v => [⟨(.int .i64), v⟩]) (fun v => []) (v := 2) e98 (by kernel_rfl) rfl rfl
                  · intro h99
                    have h99q : kind ≠ 6 := (Go.Am.beq_neg h99)
                    have e100 := e96.trans (Go.Am.bif_f h99)
                    refine AW.keep [] [] ⟨[], []⟩ (by kernel_rfl) ?_
                    refine AW.skip ?_
                    refine AW.seq ?_
                    refine AW.reg hC  false [] [2] []
                      ⟨[(2, .int .i64 (-1))], []⟩
                      [] (by kernel_rfl) ?_ ?_
                    · exact trivial
                    refine AW.ret ?_
                    exact AW.retE (β := Int) (fun v => [⟨(.int .i64), v⟩]) (fun v => []) (v := (-1)) e100 (by kernel_rfl) rfl rfl
                · intro h101
                  have h101q : kind ≠ 6 := (Go.Am.beq_neg h101)
                  have e102 := e94.trans (Go.Am.bif_f h101)
                  refine AW.seq ?_
                  refine AW.reg hC  false [] [3, 10] []
                    ⟨[(3, .int .i64 kind), (10, .bool (kind == 7))], []⟩
                    [] (by kernel_rfl) ?_ ?_
                  · exact trivial
                  refine AW.cond (b := (kind == 7)) (by kernel_rfl) ?_ ?_
                  · intro h103
                    have h103q : kind = 7 := (Go.Am.beq_pos h103)
                    have e104 := e102.trans (Go.Am.bif_t h103)
                    refine AW.keep [10] [] ⟨[(10, .bool (kind == 7))], []⟩ (by kernel_rfl) ?_
                    refine AW.skip ?_
                    refine AW.cond (b := (kind == 7)) (by kernel_rfl) ?_ ?_
                    · intro h105
                      have h105q : kind = 7 := (Go.Am.beq_pos h105)
                      have e106 := e104.trans (Go.Am.bif_t h105)
                      refine AW.seq ?_
                      refine AW.reg hC  false [] [2] []
                        ⟨[(2, .int .i64 2)], []⟩
                        [] (by kernel_rfl) ?_ ?_
                      · exact trivial
                      refine AW.ret ?_
                      exact AW.retE (β := Int) (fun v => [⟨(.int .i64), v⟩]) (fun v => []) (v := 2) e106 (by kernel_rfl) rfl rfl
                    · intro h107
                      have h107q : kind ≠ 7 := (Go.Am.beq_neg h107)
                      have e108 := e104.trans (Go.Am.bif_f h107)
                      refine AW.keep [] [] ⟨[], []⟩ (by kernel_rfl) ?_
                      refine AW.skip ?_
                      refine AW.seq ?_
                      refine AW.reg hC  false [] [2] []
                        ⟨[(2, .int .i64 (-1))], []⟩
                        [] (by kernel_rfl) ?_ ?_
                      · exact trivial
                      refine AW.ret ?_
                      exact AW.retE (β := Int) (fun v => [⟨(.int .i64), v⟩]) (fun v => []) (v := (-1)) e108 (by kernel_rfl) rfl rfl
                  · intro h109
                    have h109q : kind ≠ 7 := (Go.Am.beq_neg h109)
                    have e110 := e102.trans (Go.Am.bif_f h109)
                    refine AW.seq ?_
                    refine AW.reg hC  false [] [3, 10] []
                      ⟨[(3, .int .i64 kind), (10, .bool (kind == 8))], []⟩
                      [] (by kernel_rfl) ?_ ?_
                    · exact trivial
                    refine AW.cond (b := (kind == 8)) (by kernel_rfl) ?_ ?_
                    · intro h111
                      have h111q : kind = 8 := (Go.Am.beq_pos h111)
                      have e112 := e110.trans (Go.Am.bif_t h111)
                      refine AW.keep [10] [] ⟨[(10, .bool (kind == 8))], []⟩ (by kernel_rfl) ?_
                      refine AW.skip ?_
                      refine AW.cond (b := (kind == 8)) (by kernel_rfl) ?_ ?_
                      · intro h113
                        have h113q : kind = 8 := (Go.Am.beq_pos h113)
                        have e114 := e112.trans (Go.Am.bif_t h113)
                        refine AW.seq ?_
                        refine AW.reg hC  false [] [2] []
                          ⟨[(2, .int .i64 2)], []⟩
                          [] (by kernel_rfl) ?_ ?_
                        · exact trivial
                        refine AW.ret ?_
                        exact AW.retE (β := Int) (fun v => [⟨(.int .i64), v⟩]) (fun v => []) (v := 2) e114 (by kernel_rfl) rfl rfl
                      · intro h115
                        have h115q : kind ≠ 8 := (Go.Am.beq_neg h115)
                        have e116 := e112.trans (Go.Am.bif_f h115)
                        refine AW.keep [] [] ⟨[], []⟩ (by kernel_rfl) ?_
                        refine AW.skip ?_
                        refine AW.seq ?_
                        refine AW.reg hC  false [] [2] []
                          ⟨[(2, .int .i64 (-1))], []⟩
                          [] (by kernel_rfl) ?_ ?_
                        · exact trivial
                        refine AW.ret ?_
                        exact AW.retE (β := Int) (fun v => [⟨(.int .i64), v⟩]) (fun v => []) (v := (-1)) e116 (by kernel_rfl) rfl rfl
                    · intro h117
                      have h117q : kind ≠ 8 := (Go.Am.beq_neg h117)
                      have e118 := e110.trans (Go.Am.bif_f h117)
                      refine AW.reg hC  false [] [10] []
                        ⟨[(10, .bool (kind == 9))], []⟩
                        [] (by kernel_rfl) ?_ ?_
                      · exact trivial
                      refine AW.cond (b := (kind == 9)) (by kernel_rfl) ?_ ?_
                      · intro h119
                        have h119q : kind = 9 := (Go.Am.beq_pos h119)
                        have e120 := e118.trans (Go.Am.bif_t h119)
                        refine AW.seq ?_
                        refine AW.reg hC  false [] [2] []
                          ⟨[(2, .int .i64 2)], []⟩
                          [] (by kernel_rfl) ?_ ?_
                        · exact trivial
                        refine AW.ret ?_
                        exact AW.retE (β := Int) (fun v => [⟨(.int .i64), v⟩]) (fun v => []) (v := 2) e120 (by kernel_rfl) rfl rfl
                      · intro h121
                        have h121q : kind ≠ 9 := (Go.Am.beq_neg h121)
                        have e122 := e118.trans (Go.Am.bif_f h121)
                        refine AW.keep [] [] ⟨[], []⟩ (by kernel_rfl) ?_
                        refine AW.skip ?_
                        refine AW.seq ?_
                        refine AW.reg hC  false [] [2] []
                          ⟨[(2, .int .i64 (-1))], []⟩
                          [] (by kernel_rfl) ?_ ?_
                        · exact trivial
                        refine AW.ret ?_
                        exact AW.retE (β := Int) (fun v => [⟨(.int .i64), v⟩]) (fun v => []) (v := (-1)) e122 (by kernel_rfl) rfl rfl
  · intro h123
    have h123q : kind ≠ 1 := (Go.Am.beq_neg h123)
    have e124 := e0.trans (Go.Am.bif_f h123)
    refine AW.reg hC  false [] [3, 4] []
      ⟨[(3, .int .i64 kind), (4, .bool (kind == 2))], []⟩
      [] (by kernel_rfl) ?_ ?_
    · exact trivial
    refine AW.cond (b := (kind == 2)) (by kernel_rfl) ?_ ?_
    · intro h125
      have h125q : kind = 2 := (Go.Am.beq_pos h125)
      have e126 := e124.trans (Go.Am.bif_t h125)
      refine AW.seq ?_
      refine AW.reg hC  false [] [2] []
        ⟨[(2, .int .i64 0)], []⟩
        [] (by kernel_rfl) ?_ ?_
      · exact trivial
      refine AW.ret ?_
      exact AW.retE (β := Int) (fun v => [⟨(.int .i64), v⟩]) (fun v => []) (v := 0) e126 (by kernel_rfl) rfl rfl
    · intro h127
      have h127q : kind ≠ 2 := (Go.Am.beq_neg h127)
      have e128 := e124.trans (Go.Am.bif_f h127)
      refine AW.seq ?_
      refine AW.seq ?_
      refine AW.reg hC  false [] [3, 7] []
        ⟨[(3, .int .i64 kind), (7, .bool (kind == 10))], []⟩
        [] (by kernel_rfl) ?_ ?_
      · exact trivial
      refine AW.cond (b := (kind == 10)) (by kernel_rfl) ?_ ?_
      · intro h129
        have h129q : kind = 10 := (Go.Am.beq_pos h129)
        have e130 := e128.trans (Go.Am.bif_t h129)
        refine AW.skip ?_
        refine AW.cond (b := (kind == 10)) (by kernel_rfl) ?_ ?_
        · intro h131
          have h131q : kind = 10 := (Go.Am.beq_pos h131)
          have e132 := e130.trans (Go.Am.bif_t h131)
          refine AW.seq ?_
          refine AW.reg hC  false [] [2] []
            ⟨[(2, .int .i64 1)], []⟩
            [] (by kernel_rfl) ?_ ?_
          · exact trivial
          refine AW.ret ?_
          exact AW.retE (β := Int) (fun v => [⟨(.int .i64), v⟩]) (fun v => []) (v := 1) e132 (by kernel_rfl) rfl rfl
        · intro h133
          have h133q : kind ≠ 10 := (Go.Am.beq_neg h133)
          have e134 := e130.trans (Go.Am.bif_f h133)
          refine AW.seq ?_
          refine AW.seq ?_
          refine AW.reg hC  false [] [3, 10] []
            ⟨[(3, .int .i64 kind), (10, .bool (kind == 3))], []⟩
            [] (by kernel_rfl) ?_ ?_
          · exact trivial
          refine AW.cond (b := (kind == 3)) (by kernel_rfl) ?_ ?_
          · intro h135
            have h135q : kind = 3 := (Go.Am.beq_pos h135)
            have e136 := e134.trans (Go.Am.bif_t h135)
            refine AW.keep [10] [] ⟨[(10, .bool (kind == 3))], []⟩ (by kernel_rfl) ?_
            refine AW.skip ?_
            refine AW.cond (b := (kind == 3)) (by kernel_rfl) ?_ ?_
            · intro h137
              have h137q : kind = 3 := (Go.Am.beq_pos h137)
              have e138 := e136.trans (Go.Am.bif_t h137)
              refine AW.seq ?_
              refine AW.reg hC  false [] [2] []
                ⟨[(2, .int .i64 2)], []⟩
                [] (by kernel_rfl) ?_ ?_
              · exact trivial
              refine AW.ret ?_
              exact AW.retE (β := Int) (fun v => [⟨(.int .i64), v⟩]) (fun v => []) (v := 2) e138 (by kernel_rfl) rfl rfl
            · intro h139
              have h139q : kind ≠ 3 := (Go.Am.beq_neg h139)
              have e140 := e136.trans (Go.Am.bif_f h139)
              refine AW.keep [] [] ⟨[], []⟩ (by kernel_rfl) ?_
              refine AW.skip ?_
              refine AW.seq ?_
              refine AW.reg hC  false [] [2] []
                ⟨[(2, .int .i64 (-1))], []⟩
                [] (by kernel_rfl) ?_ ?_
              · exact trivial
              refine AW.ret ?_
              exact AW.retE (β := Int) (fun v => [⟨(.int .i64), v⟩]) (fun v => []) (v := (-1)) e140 (by kernel_rfl) rfl rfl
          · intro h141
            have h141q : kind ≠ 3 := (Go.Am.beq_neg h141)
            have e142 := e134.trans (Go.Am.bif_f h141)
            refine AW.seq ?_
            refine AW.reg hC  false [] [3, 10] []
              ⟨[(3, .int .i64 kind), (10, .bool (kind == 4))], []⟩
              [] (by kernel_rfl) ?_ ?_
            · exact trivial
            refine AW.cond (b := (kind == 4)) (by kernel_rfl) ?_ ?_
            · intro h143
              have h143q : kind = 4 := (Go.Am.beq_pos h143)
              have e144 := e142.trans (Go.Am.bif_t h143)
              refine AW.keep [10] [] ⟨[(10, .bool (kind == 4))], []⟩ (by kernel_rfl) ?_
              refine AW.skip ?_
              refine AW.cond (b := (kind == 4)) (by kernel_rfl) ?_ ?_
              · intro h145
                have h145q : kind = 4 := (Go.Am.beq_pos h145)
                have e146 := e144.trans (Go.Am.bif_t h145)
                refine AW.seq ?_
                refine AW.reg hC  false [] [2] []
                  ⟨[(2, .int .i64 2)], []⟩
                  [] (by kernel_rfl) ?_ ?_
                · exact trivial
                refine AW.ret ?_
                exact AW.retE (β := Int) (fun v => [⟨(.int .i64), v⟩]) (fun v => []) (v := 2) e146 (by kernel_rfl) rfl rfl
              · intro h147
                have h147q : kind ≠ 4 := (Go.Am.beq_neg h147)
                have e148 := e144.trans (Go.Am.bif_f h147)
                refine AW.keep [] [] ⟨[], []⟩ (by kernel_rfl) ?_
                refine AW.skip ?_
                refine AW.seq ?_
                refine AW.reg hC  false [] [2] []
                  ⟨[(2, .int .i64 (-1))], []⟩
                  [] (by kernel_rfl) ?_ ?_
                · exact trivial
                refine AW.ret ?_
                exact AW.retE (β := Int) (fun v => [⟨(.int .i64), v⟩]) (fun v => []) (v := (-1)) e148 (by kernel_rfl) rfl rfl
            · intro h149
              have h149q : kind ≠ 4 := (Go.Am.beq_neg h149)
              have e150 := e142.trans (Go.Am.bif_f h149)
              refine AW.seq ?_
              refine AW.reg hC  false [] [3, 10] []
                ⟨[(3, .int .i64 kind), (10, .bool (kind == 5))], []⟩
                [] (by kernel_rfl) ?_ ?_
              · exact trivial
              refine AW.cond (b := (kind == 5)) (by kernel_rfl) ?_ ?_
              · intro h151
                have h151q : kind = 5 := (Go.Am.beq_pos h151)
                have e152 := e150.trans (Go.Am.bif_t h151)
                refine AW.keep [10] [] ⟨[(10, .bool (kind == 5))], []⟩ (by kernel_rfl) ?_
                refine AW.skip ?_
                refine AW.cond (b := (kind == 5)) (by kernel_rfl) ?_ ?_
                · intro h153
                  have h153q : kind = 5 := (Go.Am.beq_pos h153)
                  have e154 := e152.trans (Go.Am.bif_t h153)
                  refine AW.seq ?_
                  refine AW.reg hC  false [] [2] []
                    ⟨[(2, .int .i64 2)], []⟩
                    [] (by kernel_rfl) ?_ ?_
                  · exact trivial
                  refine AW.ret ?_
                  exact AW.retE (β := Int) (fun v => [⟨(.int .i64), v⟩]) (fun v => []) (v := 2) e154 (by kernel_rfl) rfl rfl
                · intro h155
                  have h155q : kind ≠ 5 := (Go.Am.beq_neg h155)
                  have e156 := e152.trans (Go.Am.bif_f h155)
                  refine AW.keep [] [] ⟨[], []⟩ (by kernel_rfl) ?_
                  refine AW.skip ?_
                  refine AW.seq ?_
                  refine AW.reg hC  false [] [2] []
                    ⟨[(2, .int .i64 (-1))], []⟩
                    [] (by kernel_rfl) ?_ ?_
                  · exact trivial
                  refine AW.ret ?_
                  exact AW.retE (β := Int) (fun v => [⟨(.int .i64), v⟩]) (fun v => []) (v := (-1)) e156 (by kernel_rfl) rfl rfl
              · intro h157
                have h157q : kind ≠ 5 := (Go.Am.beq_neg h157)
                have e158 := e150.trans (Go.Am.bif_f h157)
                refine AW.seq ?_
                refine AW.reg hC  false [] [3, 10] []
                  ⟨[(3, .int .i64 kind), (10, .bool (kind == 6))], []⟩
                  [] (by kernel_rfl) ?_ ?_
                · exact trivial
                refine AW.cond (b := (kind == 6)) (by kernel_rfl) ?_ ?_
                · intro h159
                  have h159q : kind = 6 := (Go.Am.beq_pos h159)
                  have e160 := e158.trans (Go.Am.bif_t h159)
                  refine AW.keep [10] [] ⟨[(10, .bool (kind == 6))], []⟩ (by kernel_rfl) ?_
                  refine AW.skip ?_
                  refine AW.cond (b := (kind == 6)) (by kernel_rfl) ?_ ?_
                  · intro h161
                    have h161q : kind = 6 := (Go.Am.beq_pos h161)
                    have e162 := e160.trans (Go.Am.bif_t h161)
                    refine AW.seq ?_
                    refine AW.reg hC  false [] [2] []
                      ⟨[(2, .int .i64 2)], []⟩
                      [] (by kernel_rfl) ?_ ?_
                    · exact trivial
                    refine AW.ret ?_
                    exact AW.retE (β := Int) (fun v => [⟨(.int .i64), v⟩]) (fun v => []) (v := 2) e162 (by kernel_rfl) rfl rfl
                  · intro h163
                    have h163q : kind ≠ 6 := (Go.Am.beq_neg h163)
                    have e164 := e160.trans (Go.Am.bif_f h163)
                    refine AW.keep [] [] ⟨[], []⟩ (by kernel_rfl) ?_
                    refine AW.skip ?_
                    refine AW.seq ?_
                    refine AW.reg hC  false [] [2] []
                      ⟨[(2, .int .i64 (-1))], []⟩
                      [] (by kernel_rfl) ?_ ?_
                    · exact trivial
                    refine AW.ret ?_
                    exact AW.retE (β := Int) (fun v => [⟨(.int .i64), v⟩]) (fun v => []) (v := (-1)) e164 (by kernel_rfl) rfl rfl
                · intro h165
                  have h165q : kind ≠ 6 := (Go.Am.beq_neg h165)
                  have e166 := e158.trans (Go.Am.bif_f h165)
                  refine AW.seq ?_
                  refine AW.reg hC  false [] [3, 10] []
                    ⟨[(3, .int .i64 kind), (10, .bool (kind == 7))], []⟩
                    [] (by kernel_rfl) ?_ ?_
                  · exact trivial
                  refine AW.cond (b := (kind == 7)) (by kernel_rfl) ?_ ?_
                  · intro h167
                    have h167q : kind = 7 := (Go.Am.beq_pos h167)
                    have e168 := e166.trans (Go.Am.bif_t h167)
                    refine AW.keep [10] [] ⟨[(10, .bool (kind == 7))], []⟩ (by kernel_rfl) ?_
                    refine AW.skip ?_
                    refine AW.cond (b := (kind == 7)) (by kernel_rfl) ?_ ?_
                    · intro h169
                      have h169q : kind = 7 := (Go.Am.beq_pos h169)
                      have e170 := e168.trans (Go.Am.bif_t h169)
                      refine AW.seq ?_
                      refine AW.reg hC  false [] [2] []
                        ⟨[(2, .int .i64 2)], []⟩
                        [] (by kernel_rfl) ?_ ?_
                      · exact trivial
                      refine AW.ret ?_
                      exact AW.retE (β := Int) (fun v => [⟨(.int .i64), v⟩]) (fun v => []) (v := 2) e170 (by kernel_rfl) rfl rfl
                    · intro h171
                      have h171q : kind ≠ 7 := (Go.Am.beq_neg h171)
                      have e172 := e168.trans (Go.Am.bif_f h171)
                      refine AW.keep [] [] ⟨[], []⟩ (by kernel_rfl) ?_
                      refine AW.skip ?_
                      refine AW.seq ?_
                      refine AW.reg hC  false [] [2] []
                        ⟨[(2, .int .i64 (-1))], []⟩
                        [] (by kernel_rfl) ?_ ?_
                      · exact trivial
                      refine AW.ret ?_
                      exact AW.retE (β := Int) (fun v => [⟨(.int .i64), v⟩]) (fun v => []) (v := (-1)) e172 (by kernel_rfl) rfl rfl
                  · intro h173
                    have h173q : kind ≠ 7 := (Go.Am.beq_neg h173)
                    have e174 := e166.trans (Go.Am.bif_f h173)
                    refine AW.seq ?_
                    refine AW.reg hC  false [] [3, 10] []
                      ⟨[(3, .int .i64 kind), (10, .bool (kind == 8))], []⟩
                      [] (by kernel_rfl) ?_ ?_
                    · exact trivial
                    refine AW.cond (b := (kind == 8)) (by kernel_rfl) ?_ ?_
                    · intro h175
                      have h175q : kind = 8 := (Go.Am.beq_pos h175)
                      have e176 := e174.trans (Go.Am.bif_t h175)
                      refine AW.keep [10] [] ⟨[(10, .bool (kind == 8))], []⟩ (by kernel_rfl) ?_
                      refine AW.skip ?_
                      refine AW.cond (b := (kind == 8)) (by kernel_rfl) ?_ ?_
                      · intro h177
                        have h177q : kind = 8 := (Go.Am.beq_pos h177)
                        have e178 := e176.trans (Go.Am.bif_t h177)
                        refine AW.seq ?_
                        refine AW.reg hC  false [] [2] []
                          ⟨[(2, .int .i64 2)], []⟩
                          [] (by kernel_rfl) ?_ ?_
                        · exact trivial
                        refine AW.ret ?_
                        exact AW.retE (β := Int) (fun v => [⟨(.int .i64), v⟩]) (fun v => []) (v := 2) e178 (by kernel_rfl) rfl rfl
                      · intro h179
                        have h179q : kind ≠ 8 := (Go.Am.beq_neg h179)
                        have e180 := e176.trans (Go.Am.bif_f h179)
                        refine AW.keep [] [] ⟨[], []⟩ (by kernel_rfl) ?_
                        refine AW.skip ?_
                        refine AW.seq ?_
                        refine AW.reg hC  false [] [2] []
                          ⟨[(2, .int .i64 (-1))], []⟩
                          [] (by kernel_rfl) ?_ ?_
                        · exact trivial
                        refine AW.ret ?_
                        exact AW.retE (β := Int) (fun v => [⟨(.int .i64), v⟩]) (fun v => []) (v := (-1)) e180 (by kernel_rfl) rfl rfl
                    · intro h181
                      have h181q : kind ≠ 8 := (Go.Am.beq_neg h181)
                      have e182 := e174.trans (Go.Am.bif_f h181)
                      refine AW.reg hC  false [] [10] []
                        ⟨[(10, .bool (kind == 9))], []⟩
                        [] (by kernel_rfl) ?_ ?_
                      · exact trivial
                      refine AW.cond (b := (kind == 9)) (by kernel_rfl) ?_ ?_
                      · intro h183
                        have h183q : kind = 9 := (Go.Am.beq_pos h183)
                        have e184 := e182.trans (Go.Am.bif_t h183)
                        refine AW.seq ?_
                        refine AW.reg hC  false [] [2] []
                          ⟨[(2, .int .i64 2)], []⟩
                          [] (by kernel_rfl) ?_ ?_
                        · exact trivial
                        refine AW.ret ?_
                        exact AW.retE (β := Int) (fun v => [⟨(.int .i64), v⟩]) (fun v => []) (v := 2) e184 (by kernel_rfl) rfl rfl
                      · intro h185
                        have h185q : kind ≠ 9 := (Go.Am.beq_neg h185)
                        have e186 := e182.trans (Go.Am.bif_f h185)
                        refine AW.keep [] [] ⟨[], []⟩ (by kernel_rfl) ?_
                        refine AW.skip ?_
                        refine AW.seq ?_
                        refine AW.reg hC  false [] [2] []
                          ⟨[(2, .int .i64 (-1))], []⟩
                          [] (by kernel_rfl) ?_ ?_
                        · exact trivial
                        refine AW.ret ?_
                        exact AW.retE (β := Int) (fun v => [⟨(.int .i64), v⟩]) (fun v => []) (v := (-1)) e186 (by kernel_rfl) rfl rfl
      · intro h187
        have h187q : kind ≠ 10 := (Go.Am.beq_neg h187)
        have e188 := e128.trans (Go.Am.bif_f h187)
        refine AW.reg hC  false [] [3, 7] []
          ⟨[(3, .int .i64 kind), (7, .bool (kind == 11))], []⟩
          [] (by kernel_rfl) ?_ ?_
        · exact trivial
        refine AW.cond (b := (kind == 11)) (by kernel_rfl) ?_ ?_
        · intro h189
          have h189q : kind = 11 := (Go.Am.beq_pos h189)
          have e190 := e188.trans (Go.Am.bif_t h189)
          refine AW.seq ?_
          refine AW.reg hC  false [] [2] []
            ⟨[(2, .int .i64 1)], []⟩
            [] (by kernel_rfl) ?_ ?_
          · exact trivial
          refine AW.ret ?_
          exact AW.retE (β := Int) (fun v => [⟨(.int .i64), v⟩]) (fun v => []) (v := 1) e190 (by kernel_rfl) rfl rfl
        · intro h191
          have h191q : kind ≠ 11 := (Go.Am.beq_neg h191)
          have e192 := e188.trans (Go.Am.bif_f h191)
          refine AW.seq ?_
          refine AW.seq ?_
          refine AW.reg hC  false [] [3, 10] []
            ⟨[(3, .int .i64 kind), (10, .bool (kind == 3))], []⟩
            [] (by kernel_rfl) ?_ ?_
          · exact trivial
          refine AW.cond (b := (kind == 3)) (by kernel_rfl) ?_ ?_
          · intro h193
            have h193q : kind = 3 := (Go.Am.beq_pos h193)
            have e194 := e192.trans (Go.Am.bif_t h193)
            refine AW.keep [10] [] ⟨[(10, .bool (kind == 3))], []⟩ (by kernel_rfl) ?_
            refine AW.skip ?_
            refine AW.cond (b := (kind == 3)) (by kernel_rfl) ?_ ?_
            · intro h195
              have h195q : kind = 3 := (Go.Am.beq_pos h195)
              have e196 := e194.trans (Go.Am.bif_t h195)
              refine AW.seq ?_
              refine AW.reg hC  false [] [2] []
                ⟨[(2, .int .i64 2)], []⟩
                [] (by kernel_rfl) ?_ ?_
              · exact trivial
              refine AW.ret ?_
              exact AW.retE (β := Int) (fun v => [⟨(.int .i64), v⟩]) (fun v => []) (v := 2) e196 (by kernel_rfl) rfl rfl
            · intro h197
              have h197q : kind ≠ 3 := (Go.Am.beq_neg h197)
              have e198 := e194.trans (Go.Am.bif_f h197)
              refine AW.keep [] [] ⟨[], []⟩ (by kernel_rfl) ?_
              refine AW.skip ?_
              refine AW.seq ?_
              refine AW.reg hC  false [] [2] []
                ⟨[(2, .int .i64 (-1))], []⟩
                [] (by kernel_rfl) ?_ ?_
              · exact trivial
              refine AW.ret ?_
              exact AW.retE (β := Int) (fun v => [⟨(.int .i64), v⟩]) (fun v => []) (v := (-1)) e198 (by kernel_rfl) rfl rfl
          · intro h199
            have h199q : kind ≠ 3 := (Go.Am.beq_neg h199)
            have e200 := e192.trans (Go.Am.bif_f h199)
            refine AW.seq ?_
            refine AW.reg hC  false [] [3, 10] []
              ⟨[(3, .int .i64 kind), (10, .bool (kind == 4))], []⟩
              [] (by kernel_rfl) ?_ ?_
            · exact trivial
            refine AW.cond (b := (kind == 4)) (by kernel_rfl) ?_ ?_
            · intro h201
              have h201q : kind = 4 := (Go.Am.beq_pos h201)
              have e202 := e200.trans (Go.Am.bif_t h201)
              refine AW.keep [10] [] ⟨[(10, .bool (kind == 4))], []⟩ (by kernel_rfl) ?_
              refine AW.skip ?_
              refine AW.cond (b := (kind == 4)) (by kernel_rfl) ?_ ?_
              · intro h203
                have h203q : kind = 4 := (Go.Am.beq_pos h203)
                have e204 := e202.trans (Go.Am.bif_t h203)
                refine AW.seq ?_
                refine AW.reg hC  false [] [2] []
                  ⟨[(2, .int .i64 2)], []⟩
                  [] (by kernel_rfl) ?_ ?_
                · exact trivial
                refine AW.ret ?_
                exact AW.retE (β := Int) (fun v => [⟨(.int .i64), v⟩]) (fun v => []) (v := 2) e204 (by kernel_rfl) rfl rfl
              · intro h205
                have h205q : kind ≠ 4 := (Go.Am.beq_neg h205)
                have e206 := e202.trans (Go.Am.bif_f h205)
                refine AW.keep [] [] ⟨[], []⟩ (by kernel_rfl) ?_
                refine AW.skip ?_
                refine AW.seq ?_
                refine AW.reg hC  false [] [2] []
                  ⟨[(2, .int .i64 (-1))], []⟩
                  [] (by kernel_rfl) ?_ ?_
                · exact trivial
                refine AW.ret ?_
                exact AW.retE (β := Int) (fun v => [⟨(.int .i64), v⟩]) (fun v => []) (v := (-1)) e206 (by kernel_rfl) rfl rfl
            · intro h207
              have h207q : kind ≠ 4 := (Go.Am.beq_neg h207)
              have e208 := e200.trans (Go.Am.bif_f h207)
              refine AW.seq ?_
              refine AW.reg hC  false [] [3, 10] []
                ⟨[(3, .int .i64 kind), (10, .bool (kind == 5))], []⟩
                [] (by kernel_rfl) ?_ ?_
              · exact trivial
              refine AW.cond (b := (kind == 5)) (by kernel_rfl) ?_ ?_
              · intro h209
                have h209q : kind = 5 := (Go.Am.beq_pos h209)
                have e210 := e208.trans (Go.Am.bif_t h209)
                refine AW.keep [10] [] ⟨[(10, .bool (kind == 5))], []⟩ (by kernel_rfl) ?_
                refine AW.skip ?_
                refine AW.cond (b := (kind == 5)) (by kernel_rfl) ?_ ?_
                · intro h211
                  have h211q : kind = 5 := (Go.Am.beq_pos h211)
                  have e212 := e210.trans (Go.Am.bif_t h211)
                  refine AW.seq ?_
                  refine AW.reg hC  false [] [2] []
                    ⟨[(2, .int .i64 2)], []⟩
                    [] (by kernel_rfl) ?_ ?_
                  · exact trivial
                  refine AW.ret ?_
                  exact AW.retE (β := Int) (fun v => [⟨(.int .i64), v⟩]) (fun v => []) (v := 2) e212 (by kernel_rfl) rfl rfl
                · intro h213
                  have h213q : kind ≠ 5 := (Go.Am.beq_neg h213)
                  have e214 := e210.trans (Go.Am.bif_f h213)
                  refine AW.keep [] [] ⟨[], []⟩ (by kernel_rfl) ?_
                  refine AW.skip ?_
                  refine AW.seq ?_
                  refine AW.reg hC  false [] [2] []
                    ⟨[(2, .int .i64 (-1))], []⟩
                    [] (by kernel_rfl) ?_ ?_
                  · exact trivial
                  refine AW.ret ?_
                  exact AW.retE (β := Int) (fun v => [⟨(.int .i64), v⟩]) (fun v => []) (v := (-1)) e214 (by kernel_rfl) rfl rfl
              · intro h215
                have h215q : kind ≠ 5 := (Go.Am.beq_neg h215)
                have e216 := e208.trans (Go.Am.bif_f h215)
                refine AW.seq ?_
                refine AW.reg hC  false [] [3, 10] []
                  ⟨[(3, .int .i64 kind), (10, .bool (kind == 6))], []⟩
                  [] (by kernel_rfl) ?_ ?_
                · exact trivial
                refine AW.cond (b := (kind == 6)) (by kernel_rfl) ?_ ?_
                · intro h217
                  have h217q : kind = 6 := (Go.Am.beq_pos h217)
                  have e218 := e216.trans (Go.Am.bif_t h217)
                  refine AW.keep [10] [] ⟨[(10, .bool (kind == 6))], []⟩ (by kernel_rfl) ?_
                  refine AW.skip ?_
                  refine AW.cond (b := (kind == 6)) (by kernel_rfl) ?_ ?_
                  · intro h219
                    have h219q : kind = 6 := (Go.Am.beq_pos h219)
                    have e220 := e218.trans (Go.Am.bif_t h219)
                    refine AW.seq ?_
                    refine AW.reg hC  false [] [2] []
                      ⟨[(2, .int .i64 2)], []⟩
                      [] (by kernel_rfl) ?_ ?_
                    · exact trivial
                    refine AW.ret ?_
                    exact AW.retE (β := Int) (fun v => [⟨(.int .i64), v⟩]) (fun v => []) (v := 2) e220 (by kernel_rfl) rfl rfl
                  · intro h221
                    have h221q : kind ≠ 6 := (Go.Am.beq_neg h221)
                    have e222 := e218.trans (Go.Am.bif_f h221)
                    refine AW.keep [] [] ⟨[], []⟩ (by kernel_rfl) ?_
                    refine AW.skip ?_
                    refine AW.seq ?_
                    refine AW.reg hC  false [] [2] []
                      ⟨[(2, .int .i64 (-1))], []⟩
                      [] (by kernel_rfl) ?_ ?_
                    · exact trivial
                    refine AW.ret ?_
                    exact AW.retE (β := Int) (fun v => [⟨(.int .i64), v⟩]) (fun v => []) (v := (-1)) e222 (by kernel_rfl) rfl rfl
                · intro h223
                  have h223q : kind ≠ 6 := (Go.Am.beq_neg h223)
                  have e224 := e216.trans (Go.Am.bif_f h223)
                  refine AW.seq ?_
                  refine AW.reg hC  false [] [3, 10] []
                    ⟨[(3, .int .i64 kind), (10, .bool (kind == 7))], []⟩
                    [] (by kernel_rfl) ?_ ?_
                  · exact trivial
                  refine AW.cond (b := (kind == 7)) (by kernel_rfl) ?_ ?_
                  · intro h225
                    have h225q : kind = 7 := (Go.Am.beq_pos h225)
                    have e226 := e224.trans (Go.Am.bif_t h225)
                    refine AW.keep [10] [] ⟨[(10, .bool (kind == 7))], []⟩ (by kernel_rfl) ?_
                    refine AW.skip ?_
                    refine AW.cond (b := (kind == 7)) (by kernel_rfl) ?_ ?_
                    · intro h227
                      have h227q : kind = 7 := (Go.Am.beq_pos h227)
                      have e228 := e226.trans (Go.Am.bif_t h227)
                      refine AW.seq ?_
                      refine AW.reg hC  false [] [2] []
                        ⟨[(2, .int .i64 2)], []⟩
                        [] (by kernel_rfl) ?_ ?_
                      · exact trivial
                      refine AW.ret ?_
                      exact AW.retE (β := Int) (fun v => [⟨(.int .i64), v⟩]) (fun v => []) (v := 2) e228 (by kernel_rfl) rfl rfl
                    · intro h229
                      have h229q : kind ≠ 7 := (Go.Am.beq_neg h229)
                      have e230 := e226.trans (Go.Am.bif_f h229)
                      refine AW.keep [] [] ⟨[], []⟩ (by kernel_rfl) ?_
                      refine AW.skip ?_
                      refine AW.seq ?_
                      refine AW.reg hC  false [] [2] []
                        ⟨[(2, .int .i64 (-1))], []⟩
                        [] (by kernel_rfl) ?_ ?_
                      · exact trivial
                      refine AW.ret ?_
                      exact AW.retE (β := Int) (fun v => [⟨(.int .i64), v⟩]) (fun v => []) (v := (-1)) e230 (by kernel_rfl) rfl rfl
                  · intro h231
                    have h231q : kind ≠ 7 := (Go.Am.beq_neg h231)
                    have e232 := e224.trans (Go.Am.bif_f h231)
                    refine AW.seq ?_
                    refine AW.reg hC  false [] [3, 10] []
                      ⟨[(3, .int .i64 kind), (10, .bool (kind == 8))], []⟩
                      [] (by kernel_rfl) ?_ ?_
                    · exact trivial
                    refine AW.cond (b := (kind == 8)) (by kernel_rfl) ?_ ?_
                    · intro h233
                      have h233q : kind = 8 := (Go.Am.beq_pos h233)
                      have e234 := e232.trans (Go.Am.bif_t h233)
                      refine AW.keep [10] [] ⟨[(10, .bool (kind == 8))], []⟩ (by kernel_rfl) ?_
                      refine AW.skip ?_
                      refine AW.cond (b := (kind == 8)) (by kernel_rfl) ?_ ?_
                      · intro h235
                        have h235q : kind = 8 := (Go.Am.beq_pos h235)
                        have e236 := e234.trans (Go.Am.bif_t h235)
                        refine AW.seq ?_
                        refine AW.reg hC  false [] [2] []
                          ⟨[(2, .int .i64 2)], []⟩
                          [] (by kernel_rfl) ?_ ?_
                        · exact trivial
                        refine AW.ret ?_
                        exact AW.retE (β := Int) (fun v => [⟨(.int .i64), v⟩]) (fun v => []) (v := 2) e236 (by kernel_rfl) rfl rfl
                      · intro h237
                        have h237q : kind ≠ 8 := (Go.Am.beq_neg h237)
                        have e238 := e234.trans (Go.Am.bif_f h237)
                        refine AW.keep [] [] ⟨[], []⟩ (by kernel_rfl) ?_
                        refine AW.skip ?_
                        refine AW.seq ?_
                        refine AW.reg hC  false [] [2] []
                          ⟨[(2, .int .i64 (-1))], []⟩
                          [] (by kernel_rfl) ?_ ?_
                        · exact trivial
                        refine AW.ret ?_
                        exact AW.retE (β := Int) (fun v => [⟨(.int .i64), v⟩]) (fun v => []) (v := (-1)) e238 (by kernel_rfl) rfl rfl
                    · intro h239
                      have h239q : kind ≠ 8 := (Go.Am.beq_neg h239)
                      have e240 := e232.trans (Go.Am.bif_f h239)
                      refine AW.reg hC  false [] [10] []
                        ⟨[(10, .bool (kind == 9))], []⟩
                        [] (by kernel_rfl) ?_ ?_
                      · exact trivial
                      refine AW.cond (b := (kind == 9)) (by kernel_rfl) ?_ ?_
                      · intro h241
                        have h241q : kind = 9 := (Go.Am.beq_pos h241)
                        have e242 := e240.trans (Go.Am.bif_t h241)
                        refine AW.seq ?_
                        refine AW.reg hC  false [] [2] []
                          ⟨[(2, .int .i64 2)], []⟩
                          [] (by kernel_rfl) ?_ ?_
                        · exact trivial
                        refine AW.ret ?_
                        exact AW.retE (β := Int) (fun v => [⟨(.int .i64), v⟩]) (fun v => []) (v := 2) e242 (by kernel_rfl) rfl rfl
                      · intro h243
                        have h243q : kind ≠ 9 := (Go.Am.beq_neg h243)
                        have e244 := e240.trans (Go.Am.bif_f h243)
                        refine AW.keep [] [] ⟨[], []⟩ (by kernel_rfl) ?_
                        refine AW.skip ?_
                        refine AW.seq ?_
                        refine AW.reg hC  false [] [2] []
                          ⟨[(2, .int .i64 (-1))], []⟩
                          [] (by kernel_rfl) ?_ ?_
                        · exact trivial
                        refine AW.ret ?_
                        exact AW.retE (β := Int) (fun v => [⟨(.int .i64), v⟩]) (fun v => []) (v := (-1)) e244 (by kernel_rfl) rfl rfl

end
end Go.Proofs.Ytodcdgolcbdkgaa
