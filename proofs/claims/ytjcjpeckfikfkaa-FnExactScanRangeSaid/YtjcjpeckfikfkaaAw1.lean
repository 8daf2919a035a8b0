/-
  A part of the proof of this claim (Aw1): what functions of the program compute, and plain facts of that. No conditions.
-/
import Derived.Test.YtjcjpeckfikfkaaAwT
set_option linter.all false
namespace Go.Proofs.Ytjcjpeckfikfkaa
open Go Go.Am
noncomputable section

def inRange (n : Int) (low : Int) (high : Int) : Bool := (bif (decide (low ≤ n)) then (decide (n ≤ high)) else false)

def inRange_sp : FnSpec := mkSpec [.val (.int .i64), .val (.int .i64), .val (.int .i64)] [.val .bool] (fun (n : Int) (low : Int) (high : Int) => True) (fun (n : Int) (low : Int) (high : Int) => [⟨.bool, (inRange n low high)⟩])

theorem inRange_ok : FnOK Try.prog 64 inRange_sp := by
 have hC : CtxOK Try.prog (mkCtx tyL []) := CtxOK.nil tyOK
 refine FnOK.of_body Try.func64 (by kernel_rfl) rfl (C := (mkCtx tyL [])) hC.ty (by kernel_rfl) ?_
 intro (n : Int) (low : Int) (high : Int) hwf hpre E
 have hpre : True := hpre
 have hw_n : Wf ⟨(.int .i64), (n : Int)⟩ := hwf _ (List.Mem.head _)
 have hr_n : -9223372036854775808 ≤ n ∧ n ≤ 9223372036854775807 := hw_n.int_inv
 have hw_low : Wf ⟨(.int .i64), (low : Int)⟩ := hwf _ (List.Mem.tail _ (List.Mem.head _))
 have hr_low : -9223372036854775808 ≤ low ∧ low ≤ 9223372036854775807 := hw_low.int_inv
 have hw_high : Wf ⟨(.int .i64), (high : Int)⟩ := hwf _ (List.Mem.tail _ (List.Mem.tail _ (List.Mem.head _)))
 have hr_high : -9223372036854775808 ≤ high ∧ high ≤ 9223372036854775807 := hw_high.int_inv
 have e0 : inRange n low high = inRange n low high := rfl
 refine AW.seq (AW.r1 hC [0, 1, 2] [] ⟨[(0, .int .i64 n), (1, .int .i64 low), (2, .int .i64 high)], []⟩ ?_)
 refine AW.seq (AW.r0 hC [6] [] ⟨[(6, .bool (bif (decide (low ≤ n)) then (decide (n ≤ high)) else false))], []⟩ [(((decide (low ≤ n)) = true) → (((decide (low ≤ n)) = true))), (((decide (low ≤ n)) = true) → (((decide (low ≤ n)) = true))), (((decide (low ≤ n)) = true) → (((decide (low ≤ n)) = true)))] ?_ ?_)
 ·
  refine ⟨?_, ?_, ?_, trivial⟩
  ·
   intro g1
   have g1p0 : low ≤ n := (of_decide_eq_true g1)
   assumption
  ·
   intro g2
   have g2p0 : low ≤ n := (of_decide_eq_true g2)
   assumption
  ·
   intro g3
   have g3p0 : low ≤ n := (of_decide_eq_true g3)
   assumption
 exact AW.ret (AW.retE (β := Bool) (fun v => [⟨.bool, v⟩]) (fun v => []) (v := (bif (decide (low ≤ n)) then (decide (n ≤ high)) else false)) e0 (by kernel_rfl) rfl rfl)

def validWidth (width : Int) : Bool := (bif (decide (1 ≤ width)) then (decide (width ≤ 6)) else false)

def validWidth_sp : FnSpec := mkSpec [.val (.int .i64)] [.val .bool] (fun (width : Int) => True) (fun (width : Int) => [⟨.bool, (validWidth width)⟩])

theorem validWidth_ok : FnOK Try.prog 60 validWidth_sp := by
 have hC : CtxOK Try.prog (mkCtx tyL []) := CtxOK.nil tyOK
 refine FnOK.of_body Try.func60 (by kernel_rfl) rfl (C := (mkCtx tyL [])) hC.ty (by kernel_rfl) ?_
 intro (width : Int) hwf hpre E
 have hpre : True := hpre
 have hw_width : Wf ⟨(.int .i64), (width : Int)⟩ := hwf _ (List.Mem.head _)
 have hr_width : -9223372036854775808 ≤ width ∧ width ≤ 9223372036854775807 := hw_width.int_inv
 have e0 : validWidth width = validWidth width := rfl
 refine AW.seq (AW.r1 hC [0] [] ⟨[(0, .int .i64 width)], []⟩ ?_)
 refine AW.seq (AW.r0 hC [2] [] ⟨[(2, .bool (bif (decide (1 ≤ width)) then (decide (width ≤ 6)) else false))], []⟩ [(((decide (1 ≤ width)) = true) → (((decide (1 ≤ width)) = true))), (((decide (1 ≤ width)) = true) → (((decide (1 ≤ width)) = true)))] ?_ ?_)
 ·
  refine ⟨?_, ?_, trivial⟩
  ·
   intro g1
   have g1p0 : 1 ≤ width := (of_decide_eq_true g1)
   assumption
  ·
   intro g2
   have g2p0 : 1 ≤ width := (of_decide_eq_true g2)
   assumption
 exact AW.ret (AW.retE (β := Bool) (fun v => [⟨.bool, v⟩]) (fun v => []) (v := (bif (decide (1 ≤ width)) then (decide (width ≤ 6)) else false)) e0 (by kernel_rfl) rfl rfl)

def valValid (v : Val) : Bool := (bif (Val.Null v) then ((Val.N v) == 0) else (bif (decide ((-9999) ≤ (Val.N v))) then (decide ((Val.N v) ≤ 9999)) else false))

def valValid_sp : FnSpec := mkSpec [.val (.named 1)] [.val .bool] (fun (v : Val) => True) (fun (v : Val) => [⟨.bool, (valValid v)⟩])

theorem valValid_ok : FnOK Try.prog 94 valValid_sp := by
 have hC : CtxOK Try.prog (mkCtx tyL []) := CtxOK.nil tyOK
 refine FnOK.of_body Try.func94 (by kernel_rfl) rfl (C := (mkCtx tyL [])) hC.ty (by kernel_rfl) ?_
 intro (v : Val) hwf hpre E
 have hpre : True := hpre
 have hw_v : Wf ⟨(.named 1), (v : Val)⟩ := hwf _ (List.Mem.head _)
 have hr_v_N : -9223372036854775808 ≤ Val.N v ∧ Val.N v ≤ 9223372036854775807 := (hw_v.field (tv := ⟨(.int .i64), Val.N v⟩) (List.Mem.tail _ (List.Mem.head _))).int_inv
 have e0 : valValid v = valValid v := rfl
 refine AW.seq (AW.r1 hC [1] [4] ⟨[(1, .ref 4 1 0)], [(4, .box 1 [.bool (Val.Null v), .int .i64 (Val.N v)])]⟩ ?_)
 refine AW.seq (AW.seq (AW.r1 hC [1, 4] [4] ⟨[(1, .ref 4 1 0), (4, .bool (Val.Null v))], [(4, .box 1 [.bool (Val.Null v), .int .i64 (Val.N v)])]⟩ ?_))
 refine AW.cd (Val.Null v) ?_ ?_
 ·
  intro h1
  have h1q : (Val.Null v) = true := h1
  have e2 := e0.trans (Go.Am.bif_t h1)
  refine AW.seq (AW.r1 hC [2] [] ⟨[(2, .bool ((Val.N v) == 0))], []⟩ ?_)
  exact AW.ret (AW.retE (β := Bool) (fun v => [⟨.bool, v⟩]) (fun v => []) (v := ((Val.N v) == 0)) e2 (by kernel_rfl) rfl rfl)
 ·
  intro h3
  have h3q : (Val.Null v) = false := h3
  have e4 := e0.trans (Go.Am.bif_f h3)
  refine AW.kp [1] [4] ⟨[(1, .ref 4 1 0)], [(4, .box 1 [.bool (Val.Null v), .int .i64 (Val.N v)])]⟩ ?_
  refine AW.skip (AW.seq (AW.r0 hC [2] [] ⟨[(2, .bool (bif (decide ((-9999) ≤ (Val.N v))) then (decide ((Val.N v) ≤ 9999)) else false))], []⟩ [(((decide ((-9999) ≤ (Val.N v))) = true) → (((decide ((-9999) ≤ (Val.N v))) = true))), (((decide ((-9999) ≤ (Val.N v))) = true) → (((decide ((-9999) ≤ (Val.N v))) = true))), (((decide ((-9999) ≤ (Val.N v))) = true) → (((decide ((-9999) ≤ (Val.N v))) = true)))] ?_ ?_))
  ·
   refine ⟨?_, ?_, ?_, trivial⟩
   ·
    intro g5
    have g5p0 : (-9999) ≤ (Val.N v) := (of_decide_eq_true g5)
    assumption
   ·
    intro g6
    have g6p0 : (-9999) ≤ (Val.N v) := (of_decide_eq_true g6)
    assumption
   ·
    intro g7
    have g7p0 : (-9999) ≤ (Val.N v) := (of_decide_eq_true g7)
    assumption
  exact AW.ret (AW.retE (β := Bool) (fun v => [⟨.bool, v⟩]) (fun v => []) (v := (bif (decide ((-9999) ≤ (Val.N v))) then (decide ((Val.N v) ≤ 9999)) else false)) e4 (by kernel_rfl) rfl rfl)

def validValue (v : Val) : Bool := (bif (inRange (Val.N v) (-9999) 9999) then (bif (!(Val.Null v)) then true else ((Val.N v) == 0)) else false)

def validValue_sp : FnSpec := mkSpec [.val (.named 1)] [.val .bool] (fun (v : Val) => True) (fun (v : Val) => [⟨.bool, (validValue v)⟩])

theorem validValue_ok : FnOK Try.prog 98 validValue_sp := by
 have hC : CtxOK Try.prog (mkCtx tyL [(64, inRange_sp)]) := CtxOK.cons inRange_ok (CtxOK.nil tyOK)
 refine FnOK.of_body Try.func98 (by kernel_rfl) rfl (C := (mkCtx tyL [(64, inRange_sp)])) hC.ty (by kernel_rfl) ?_
 intro (v : Val) hwf hpre E
 have hpre : True := hpre
 have hw_v : Wf ⟨(.named 1), (v : Val)⟩ := hwf _ (List.Mem.head _)
 have hr_v_N : -9223372036854775808 ≤ Val.N v ∧ Val.N v ≤ 9223372036854775807 := (hw_v.field (tv := ⟨(.int .i64), Val.N v⟩) (List.Mem.tail _ (List.Mem.head _))).int_inv
 have e0 : validValue v = validValue v := rfl
 refine AW.seq (AW.r1 hC [1] [4] ⟨[(1, .ref 4 1 0)], [(4, .box 1 [.bool (Val.Null v), .int .i64 (Val.N v)])]⟩ ?_)
 refine AW.seq (AW.r0 hC [2] [] ⟨[(2, .bool (bif (inRange (Val.N v) (-9999) 9999) then (bif (!(Val.Null v)) then true else ((Val.N v) == 0)) else false))], []⟩ [(True), (((inRange (Val.N v) (-9999) 9999) = true) → (((inRange (Val.N v) (-9999) 9999) = true))), (((inRange (Val.N v) (-9999) 9999) = true) → (((inRange (Val.N v) (-9999) 9999) = true))), (((inRange (Val.N v) (-9999) 9999) = true) → (((inRange (Val.N v) (-9999) 9999) = true))), ((((inRange (Val.N v) (-9999) 9999) = true) ∧ ((!(Val.Null v)) = false)) → ((((inRange (Val.N v) (-9999) 9999) = true) ∧ ((!(Val.Null v)) = false)))), ((((inRange (Val.N v) (-9999) 9999) = true) ∧ ((!(Val.Null v)) = false)) → ((((inRange (Val.N v) (-9999) 9999) = true) ∧ ((!(Val.Null v)) = false)))), (((inRange (Val.N v) (-9999) 9999) = true) → (((inRange (Val.N v) (-9999) 9999) = true))), (((inRange (Val.N v) (-9999) 9999) = true) → (((!(Val.Null v)) = false) → ((((inRange (Val.N v) (-9999) 9999) = true) ∧ ((!(Val.Null v)) = false))))), (((inRange (Val.N v) (-9999) 9999) = true) → (((inRange (Val.N v) (-9999) 9999) = true)))] ?_ ?_)
 ·
  refine ⟨?_, ?_, ?_, ?_, ?_, ?_, ?_, ?_, ?_, trivial⟩
  ·
   trivial
  ·
   intro g1
   have g1p0 : (inRange (Val.N v) (-9999) 9999) = true := g1
   assumption
  ·
   intro g2
   have g2p0 : (inRange (Val.N v) (-9999) 9999) = true := g2
   assumption
  ·
   intro g3
   have g3p0 : (inRange (Val.N v) (-9999) 9999) = true := g3
   assumption
  ·
   intro g4
   have g4p0 : (inRange (Val.N v) (-9999) 9999) = true := (g4).1
   have g4p1 : (Val.Null v) = true := (Go.Am.not_neg (g4).2)
   assumption
  ·
   intro g5
   have g5p0 : (inRange (Val.N v) (-9999) 9999) = true := (g5).1
   have g5p1 : (Val.Null v) = true := (Go.Am.not_neg (g5).2)
   assumption
  ·
   intro g6
   have g6p0 : (inRange (Val.N v) (-9999) 9999) = true := g6
   assumption
  ·
   intro g7
   have g7p0 : (inRange (Val.N v) (-9999) 9999) = true := g7
   intro g8
   have g8p0 : (Val.Null v) = true := (Go.Am.not_neg g8)
   exact ⟨by assumption, by assumption⟩
  ·
   intro g9
   have g9p0 : (inRange (Val.N v) (-9999) 9999) = true := g9
   assumption
 exact AW.ret (AW.retE (β := Bool) (fun v => [⟨.bool, v⟩]) (fun v => []) (v := (bif (inRange (Val.N v) (-9999) 9999) then (bif (!(Val.Null v)) then true else ((Val.N v) == 0)) else false)) e0 (by kernel_rfl) rfl rfl)

def isNaN (x : Int) : Bool := (x != x)

def isNaN_sp : FnSpec := mkSpec [.val (.int .i64)] [.val .bool] (fun (x : Int) => True) (fun (x : Int) => [⟨.bool, (isNaN x)⟩])

theorem isNaN_ok : FnOK Try.prog 110 isNaN_sp := by
 have hC : CtxOK Try.prog (mkCtx tyL []) := CtxOK.nil tyOK
 refine FnOK.of_body Try.func110 (by kernel_rfl) rfl (C := (mkCtx tyL [])) hC.ty (by kernel_rfl) ?_
 intro (x : Int) hwf hpre E
 have hpre : True := hpre
 have hw_x : Wf ⟨(.int .i64), (x : Int)⟩ := hwf _ (List.Mem.head _)
 have hr_x : -9223372036854775808 ≤ x ∧ x ≤ 9223372036854775807 := hw_x.int_inv
 have e0 : isNaN x = isNaN x := rfl
 refine AW.seq (AW.r1 hC [0] [] ⟨[(0, .int .i64 x)], []⟩ ?_)
 refine AW.seq (AW.r1 hC [2] [] ⟨[(2, .bool (x != x))], []⟩ ?_)
 exact AW.ret (AW.retE (β := Bool) (fun v => [⟨.bool, v⟩]) (fun v => []) (v := (x != x)) e0 (by kernel_rfl) rfl rfl)

def compareInt (x : Int) (y : Int) : Int := (bif (isNaN x) then (bif (isNaN y) then 0 else (-1)) else (bif (isNaN y) then 1 else (bif (decide (x < y)) then (-1) else (bif (decide (y < x)) then 1 else 0))))

def compareInt_sp : FnSpec := mkSpec [.val (.int .i64), .val (.int .i64)] [.val (.int .i64)] (fun (x : Int) (y : Int) => True) (fun (x : Int) (y : Int) => [⟨(.int .i64), (compareInt x y)⟩])

theorem compareInt_ok : FnOK Try.prog 87 compareInt_sp := by
 have hC : CtxOK Try.prog (mkCtx tyL [(110, isNaN_sp)]) := CtxOK.cons isNaN_ok (CtxOK.nil tyOK)
 refine FnOK.of_body Try.func87 (by kernel_rfl) rfl (C := (mkCtx tyL [(110, isNaN_sp)])) hC.ty (by kernel_rfl) ?_
 intro (x : Int) (y : Int) hwf hpre E
 have hpre : True := hpre
 have hw_x : Wf ⟨(.int .i64), (x : Int)⟩ := hwf _ (List.Mem.head _)
 have hr_x : -9223372036854775808 ≤ x ∧ x ≤ 9223372036854775807 := hw_x.int_inv
 have hw_y : Wf ⟨(.int .i64), (y : Int)⟩ := hwf _ (List.Mem.tail _ (List.Mem.head _))
 have hr_y : -9223372036854775808 ≤ y ∧ y ≤ 9223372036854775807 := hw_y.int_inv
 have e0 : compareInt x y = compareInt x y := rfl
 refine AW.seq (AW.r1 hC [0, 1] [] ⟨[(0, .int .i64 x), (1, .int .i64 y)], []⟩ ?_)
 refine AW.seq (AW.r0 hC [0, 1, 5] [] ⟨[(0, .int .i64 x), (1, .int .i64 y), (5, .bool (isNaN x))], []⟩ [(True)] ?_ ?_)
 ·
  refine ⟨?_, trivial⟩
  ·
   trivial
 refine AW.seq (AW.r0 hC [0, 1, 5, 6] [] ⟨[(0, .int .i64 x), (1, .int .i64 y), (5, .bool (isNaN x)), (6, .bool (isNaN y))], []⟩ [(True)] ?_ ?_)
 ·
  refine ⟨?_, trivial⟩
  ·
   trivial
 refine AW.seq (AW.seq (AW.r1 hC [0, 1, 6, 11] [] ⟨[(0, .int .i64 x), (1, .int .i64 y), (6, .bool (isNaN y)), (11, .bool (isNaN x))], []⟩ ?_))
 refine AW.cd (isNaN x) ?_ ?_
 ·
  intro h1
  have h1q : (isNaN x) = true := h1
  have e2 := e0.trans (Go.Am.bif_t h1)
  refine AW.seq (AW.seq (AW.r1 hC [12] [] ⟨[(12, .bool (isNaN y))], []⟩ ?_))
  refine AW.cd (isNaN y) ?_ ?_
  ·
   intro h3
   have h3q : (isNaN y) = true := h3
   have e4 := e2.trans (Go.Am.bif_t h3)
   refine AW.seq (AW.r1 hC [4] [] ⟨[(4, .int .i64 0)], []⟩ ?_)
   exact AW.ret (AW.retE (β := Int) (fun v => [⟨(.int .i64), v⟩]) (fun v => []) (v := 0) e4 (by kernel_rfl) rfl rfl)
  ·
   intro h5
   have h5q : (isNaN y) = false := h5
   have e6 := e2.trans (Go.Am.bif_f h5)
   refine AW.kp [] [] ⟨[], []⟩ ?_
   refine AW.skip (AW.seq (AW.r1 hC [4] [] ⟨[(4, .int .i64 (-1))], []⟩ ?_))
   exact AW.ret (AW.retE (β := Int) (fun v => [⟨(.int .i64), v⟩]) (fun v => []) (v := (-1)) e6 (by kernel_rfl) rfl rfl)
 ·
  intro h7
  have h7q : (isNaN x) = false := h7
  have e8 := e0.trans (Go.Am.bif_f h7)
  refine AW.kp [0, 1, 6] [] ⟨[(0, .int .i64 x), (1, .int .i64 y), (6, .bool (isNaN y))], []⟩ ?_
  refine AW.skip (AW.seq (AW.seq (AW.r1 hC [0, 1, 13] [] ⟨[(0, .int .i64 x), (1, .int .i64 y), (13, .bool (isNaN y))], []⟩ ?_)))
  refine AW.cd (isNaN y) ?_ ?_
  ·
   intro h9
   have h9q : (isNaN y) = true := h9
   have e10 := e8.trans (Go.Am.bif_t h9)
   refine AW.seq (AW.r1 hC [4] [] ⟨[(4, .int .i64 1)], []⟩ ?_)
   exact AW.ret (AW.retE (β := Int) (fun v => [⟨(.int .i64), v⟩]) (fun v => []) (v := 1) e10 (by kernel_rfl) rfl rfl)
  ·
   intro h11
   have h11q : (isNaN y) = false := h11
   have e12 := e8.trans (Go.Am.bif_f h11)
   refine AW.kp [0, 1] [] ⟨[(0, .int .i64 x), (1, .int .i64 y)], []⟩ ?_
   refine AW.skip (AW.seq (AW.seq (AW.r1 hC [0, 1, 16] [] ⟨[(0, .int .i64 x), (1, .int .i64 y), (16, .bool (decide (x < y)))], []⟩ ?_)))
   refine AW.cd (decide (x < y)) ?_ ?_
   ·
    intro h13
    have h13q : x < y := (of_decide_eq_true h13)
    have e14 := e12.trans (Go.Am.bif_t h13)
    refine AW.seq (AW.r1 hC [4] [] ⟨[(4, .int .i64 (-1))], []⟩ ?_)
    exact AW.ret (AW.retE (β := Int) (fun v => [⟨(.int .i64), v⟩]) (fun v => []) (v := (-1)) e14 (by kernel_rfl) rfl rfl)
   ·
    intro h15
    have h15q : ¬ (x < y) := (of_decide_eq_false h15)
    have e16 := e12.trans (Go.Am.bif_f h15)
    refine AW.kp [0, 1] [] ⟨[(0, .int .i64 x), (1, .int .i64 y)], []⟩ ?_
    refine AW.skip (AW.seq (AW.seq (AW.r1 hC [19] [] ⟨[(19, .bool (decide (y < x)))], []⟩ ?_)))
    refine AW.cd (decide (y < x)) ?_ ?_
    ·
     intro h17
     have h17q : y < x := (of_decide_eq_true h17)
     have e18 := e16.trans (Go.Am.bif_t h17)
     refine AW.seq (AW.r1 hC [4] [] ⟨[(4, .int .i64 1)], []⟩ ?_)
     exact AW.ret (AW.retE (β := Int) (fun v => [⟨(.int .i64), v⟩]) (fun v => []) (v := 1) e18 (by kernel_rfl) rfl rfl)
    ·
     intro h19
     have h19q : ¬ (y < x) := (of_decide_eq_false h19)
     have e20 := e16.trans (Go.Am.bif_f h19)
     refine AW.kp [] [] ⟨[], []⟩ ?_
     refine AW.skip (AW.seq (AW.r1 hC [4] [] ⟨[(4, .int .i64 0)], []⟩ ?_))
     exact AW.ret (AW.retE (β := Int) (fun v => [⟨(.int .i64), v⟩]) (fun v => []) (v := 0) e20 (by kernel_rfl) rfl rfl)

def valCompare (v : Val) (w : Val) : Int := (bif (bif (Val.Null v) then (Val.Null w) else false) then 0 else (bif (Val.Null v) then (-1) else (bif (Val.Null w) then 1 else (compareInt (Val.N v) (Val.N w)))))

def valCompare_sp : FnSpec := mkSpec [.val (.named 1), .val (.named 1)] [.val (.int .i64)] (fun (v : Val) (w : Val) => True) (fun (v : Val) (w : Val) => [⟨(.int .i64), (valCompare v w)⟩])

theorem valCompare_ok : FnOK Try.prog 101 valCompare_sp := by
 have hC : CtxOK Try.prog (mkCtx tyL [(87, compareInt_sp)]) := CtxOK.cons compareInt_ok (CtxOK.nil tyOK)
 refine FnOK.of_body Try.func101 (by kernel_rfl) rfl (C := (mkCtx tyL [(87, compareInt_sp)])) hC.ty (by kernel_rfl) ?_
 intro (v : Val) (w : Val) hwf hpre E
 have hpre : True := hpre
 have hw_v : Wf ⟨(.named 1), (v : Val)⟩ := hwf _ (List.Mem.head _)
 have hr_v_N : -9223372036854775808 ≤ Val.N v ∧ Val.N v ≤ 9223372036854775807 := (hw_v.field (tv := ⟨(.int .i64), Val.N v⟩) (List.Mem.tail _ (List.Mem.head _))).int_inv
 have hw_w : Wf ⟨(.named 1), (w : Val)⟩ := hwf _ (List.Mem.tail _ (List.Mem.head _))
 have hr_w_N : -9223372036854775808 ≤ Val.N w ∧ Val.N w ≤ 9223372036854775807 := (hw_w.field (tv := ⟨(.int .i64), Val.N w⟩) (List.Mem.tail _ (List.Mem.head _))).int_inv
 have e0 : valCompare v w = valCompare v w := rfl
 refine AW.seq (AW.r1 hC [2, 3] [8, 12] ⟨[(2, .ref 8 1 0), (3, .ref 12 1 0)], [(8, .box 1 [.bool (Val.Null v), .int .i64 (Val.N v)]), (12, .box 1 [.bool (Val.Null w), .int .i64 (Val.N w)])]⟩ ?_)
 refine AW.seq (AW.block (AW.seq (AW.r0 hC [2, 3, 5] [8, 12] ⟨[(2, .ref 8 1 0), (3, .ref 12 1 0), (5, .bool (bif (Val.Null v) then (Val.Null w) else false))], [(8, .box 1 [.bool (Val.Null v), .int .i64 (Val.N v)]), (12, .box 1 [.bool (Val.Null w), .int .i64 (Val.N w)])]⟩ [(((Val.Null v) = true) → (((Val.Null v) = true))), (((Val.Null v) = true) → (((Val.Null v) = true)))] ?_ ?_)))
 ·
  refine ⟨?_, ?_, trivial⟩
  ·
   intro g1
   have g1p0 : (Val.Null v) = true := g1
   assumption
  ·
   intro g2
   have g2p0 : (Val.Null v) = true := g2
   assumption
 refine AW.cd (bif (Val.Null v) then (Val.Null w) else false) ?_ ?_
 ·
  intro h3
  have h3q : ((Val.Null v) = true) ∧ ((Val.Null w) = true) := (And.imp (fun h => h) (fun h => h) (Go.Am.and_pos h3))
  have e4 := e0.trans (Go.Am.bif_t h3)
  refine AW.seq (AW.r1 hC [4] [] ⟨[(4, .int .i64 0)], []⟩ ?_)
  exact AW.ret (AW.retE (β := Int) (fun v => [⟨(.int .i64), v⟩]) (fun v => []) (v := 0) e4 (by kernel_rfl) rfl rfl)
 ·
  intro h5
  have h5q : ((Val.Null v) = false) ∨ ((Val.Null w) = false) := (Or.imp (fun h => h) (fun h => h) (Go.Am.and_neg h5))
  have e6 := e0.trans (Go.Am.bif_f h5)
  refine AW.seq (AW.r1 hC [2, 3, 12] [8, 12] ⟨[(2, .ref 8 1 0), (3, .ref 12 1 0), (12, .bool (Val.Null v))], [(8, .box 1 [.bool (Val.Null v), .int .i64 (Val.N v)]), (12, .box 1 [.bool (Val.Null w), .int .i64 (Val.N w)])]⟩ ?_)
  refine AW.cd (Val.Null v) ?_ ?_
  ·
   intro h7
   have h7q : (Val.Null v) = true := h7
   have e8 := e6.trans (Go.Am.bif_t h7)
   refine AW.seq (AW.r1 hC [4] [] ⟨[(4, .int .i64 (-1))], []⟩ ?_)
   exact AW.ret (AW.retE (β := Int) (fun v => [⟨(.int .i64), v⟩]) (fun v => []) (v := (-1)) e8 (by kernel_rfl) rfl rfl)
  ·
   intro h9
   have h9q : (Val.Null v) = false := h9
   have e10 := e6.trans (Go.Am.bif_f h9)
   refine AW.seq (AW.r1 hC [2, 3, 15] [8, 12] ⟨[(2, .ref 8 1 0), (3, .ref 12 1 0), (15, .bool (Val.Null w))], [(8, .box 1 [.bool (Val.Null v), .int .i64 (Val.N v)]), (12, .box 1 [.bool (Val.Null w), .int .i64 (Val.N w)])]⟩ ?_)
   refine AW.cd (Val.Null w) ?_ ?_
   ·
    intro h11
    have h11q : (Val.Null w) = true := h11
    have e12 := e10.trans (Go.Am.bif_t h11)
    refine AW.seq (AW.r1 hC [4] [] ⟨[(4, .int .i64 1)], []⟩ ?_)
    exact AW.ret (AW.retE (β := Int) (fun v => [⟨(.int .i64), v⟩]) (fun v => []) (v := 1) e12 (by kernel_rfl) rfl rfl)
   ·
    intro h13
    have h13q : (Val.Null w) = false := h13
    have e14 := e10.trans (Go.Am.bif_f h13)
    refine AW.kp [2, 3] [8, 12] ⟨[(2, .ref 8 1 0), (3, .ref 12 1 0)], [(8, .box 1 [.bool (Val.Null v), .int .i64 (Val.N v)]), (12, .box 1 [.bool (Val.Null w), .int .i64 (Val.N w)])]⟩ ?_
    refine AW.skip (AW.seq (AW.r0 hC [4] [] ⟨[(4, .int .i64 (compareInt (Val.N v) (Val.N w)))], []⟩ [(True)] ?_ ?_))
    ·
     refine ⟨?_, trivial⟩
     ·
      trivial
    exact AW.ret (AW.retE (β := Int) (fun v => [⟨(.int .i64), v⟩]) (fun v => []) (v := (compareInt (Val.N v) (Val.N w))) e14 (by kernel_rfl) rfl rfl)

def compareValues (a : Val) (b : Val) : Int := (bif (bif ((Val.Null a) == (Val.Null b)) then (bif ((Val.N a) == (Val.N b)) then true else false) else false) then 0 else (bif (bif (Val.Null a) then true else (bif (!(Val.Null b)) then (decide ((Val.N a) < (Val.N b))) else false)) then (-1) else 1))

def compareValues_sp : FnSpec := mkSpec [.val (.named 1), .val (.named 1)] [.val (.int .i64)] (fun (a : Val) (b : Val) => True) (fun (a : Val) (b : Val) => [⟨(.int .i64), (compareValues a b)⟩])

theorem compareValues_ok : FnOK Try.prog 114 compareValues_sp := by
 have hC : CtxOK Try.prog (mkCtx tyL []) := CtxOK.nil tyOK
 refine FnOK.of_body Try.func114 (by kernel_rfl) rfl (C := (mkCtx tyL [])) hC.ty (by kernel_rfl) ?_
 intro (a : Val) (b : Val) hwf hpre E
 have hpre : True := hpre
 have hw_a : Wf ⟨(.named 1), (a : Val)⟩ := hwf _ (List.Mem.head _)
 have hr_a_N : -9223372036854775808 ≤ Val.N a ∧ Val.N a ≤ 9223372036854775807 := (hw_a.field (tv := ⟨(.int .i64), Val.N a⟩) (List.Mem.tail _ (List.Mem.head _))).int_inv
 have hw_b : Wf ⟨(.named 1), (b : Val)⟩ := hwf _ (List.Mem.tail _ (List.Mem.head _))
 have hr_b_N : -9223372036854775808 ≤ Val.N b ∧ Val.N b ≤ 9223372036854775807 := (hw_b.field (tv := ⟨(.int .i64), Val.N b⟩) (List.Mem.tail _ (List.Mem.head _))).int_inv
 have e0 : compareValues a b = compareValues a b := rfl
 refine AW.seq (AW.r1 hC [2, 3] [8, 12] ⟨[(2, .ref 8 1 0), (3, .ref 12 1 0)], [(8, .box 1 [.bool (Val.Null a), .int .i64 (Val.N a)]), (12, .box 1 [.bool (Val.Null b), .int .i64 (Val.N b)])]⟩ ?_)
 refine AW.seq (AW.block (AW.seq (AW.r1 hC [2, 3, 5] [8, 12] ⟨[(2, .ref 8 1 0), (3, .ref 12 1 0), (5, .bool (bif ((Val.Null a) == (Val.Null b)) then (bif ((Val.N a) == (Val.N b)) then true else false) else false))], [(8, .box 1 [.bool (Val.Null a), .int .i64 (Val.N a)]), (12, .box 1 [.bool (Val.Null b), .int .i64 (Val.N b)])]⟩ ?_)))
 refine AW.cd (bif ((Val.Null a) == (Val.Null b)) then (bif ((Val.N a) == (Val.N b)) then true else false) else false) ?_ ?_
 ·
  intro h1
  have h1q : (((Val.Null a) == (Val.Null b)) = true) ∧ (((Val.N a) = (Val.N b)) ∧ (true = true)) := (And.imp (fun h => h) (fun h => (And.imp (fun h => (Go.Am.beq_pos h)) (fun h => h) (Go.Am.and_pos h))) (Go.Am.and_pos h1))
  have e2 := e0.trans (Go.Am.bif_t h1)
  refine AW.seq (AW.r1 hC [4] [] ⟨[(4, .int .i64 0)], []⟩ ?_)
  exact AW.ret (AW.retE (β := Int) (fun v => [⟨(.int .i64), v⟩]) (fun v => []) (v := 0) e2 (by kernel_rfl) rfl rfl)
 ·
  intro h3
  have h3q : (((Val.Null a) == (Val.Null b)) = false) ∨ (((Val.N a) ≠ (Val.N b)) ∨ (true = false)) := (Or.imp (fun h => h) (fun h => (Or.imp (fun h => (Go.Am.beq_neg h)) (fun h => h) (Go.Am.and_neg h))) (Go.Am.and_neg h3))
  have e4 := e0.trans (Go.Am.bif_f h3)
  refine AW.seq (AW.r0 hC [9] [] ⟨[(9, .bool (bif (Val.Null a) then true else (bif (!(Val.Null b)) then (decide ((Val.N a) < (Val.N b))) else false)))], []⟩ [(((Val.Null a) = false) → (((Val.Null a) = false))), (((Val.Null a) = false) → (((Val.Null a) = false))), (((Val.Null a) = false) → (((Val.Null a) = false))), ((((Val.Null a) = false) ∧ ((!(Val.Null b)) = true)) → ((((Val.Null a) = false) ∧ ((!(Val.Null b)) = true)))), ((((Val.Null a) = false) ∧ ((!(Val.Null b)) = true)) → ((((Val.Null a) = false) ∧ ((!(Val.Null b)) = true)))), ((((Val.Null a) = false) ∧ ((!(Val.Null b)) = true)) → ((((Val.Null a) = false) ∧ ((!(Val.Null b)) = true)))), ((((Val.Null a) = false) ∧ ((!(Val.Null b)) = true)) → ((((Val.Null a) = false) ∧ ((!(Val.Null b)) = true)))), (((Val.Null a) = false) → (((Val.Null a) = false))), (((Val.Null a) = false) → (((!(Val.Null b)) = true) → ((((Val.Null a) = false) ∧ ((!(Val.Null b)) = true))))), (((Val.Null a) = false) → (((Val.Null a) = false)))] ?_ ?_)
  ·
   refine ⟨?_, ?_, ?_, ?_, ?_, ?_, ?_, ?_, ?_, ?_, trivial⟩
   ·
    intro g5
    have g5p0 : (Val.Null a) = false := g5
    assumption
   ·
    intro g6
    have g6p0 : (Val.Null a) = false := g6
    assumption
   ·
    intro g7
    have g7p0 : (Val.Null a) = false := g7
    assumption
   ·
    intro g8
    have g8p0 : (Val.Null a) = false := (g8).1
    have g8p1 : (Val.Null b) = false := (Go.Am.not_pos (g8).2)
    assumption
   ·
    intro g9
    have g9p0 : (Val.Null a) = false := (g9).1
    have g9p1 : (Val.Null b) = false := (Go.Am.not_pos (g9).2)
    assumption
   ·
    intro g10
    have g10p0 : (Val.Null a) = false := (g10).1
    have g10p1 : (Val.Null b) = false := (Go.Am.not_pos (g10).2)
    assumption
   ·
    intro g11
    have g11p0 : (Val.Null a) = false := (g11).1
    have g11p1 : (Val.Null b) = false := (Go.Am.not_pos (g11).2)
    assumption
   ·
    intro g12
    have g12p0 : (Val.Null a) = false := g12
    assumption
   ·
    intro g13
    have g13p0 : (Val.Null a) = false := g13
    intro g14
    have g14p0 : (Val.Null b) = false := (Go.Am.not_pos g14)
    exact ⟨by assumption, by assumption⟩
   ·
    intro g15
    have g15p0 : (Val.Null a) = false := g15
    assumption
  refine AW.cd (bif (Val.Null a) then true else (bif (!(Val.Null b)) then (decide ((Val.N a) < (Val.N b))) else false)) ?_ ?_
  ·
   intro h16
   have h16q : ((Val.Null a) = true) ∨ (((Val.Null b) = false) ∧ ((Val.N a) < (Val.N b))) := (Or.imp (fun h => h) (fun h => (And.imp (fun h => (Go.Am.not_pos h)) (fun h => (of_decide_eq_true h)) (Go.Am.and_pos h))) (Go.Am.or_pos h16))
   have e17 := e4.trans (Go.Am.bif_t h16)
   refine AW.seq (AW.r1 hC [4] [] ⟨[(4, .int .i64 (-1))], []⟩ ?_)
   exact AW.ret (AW.retE (β := Int) (fun v => [⟨(.int .i64), v⟩]) (fun v => []) (v := (-1)) e17 (by kernel_rfl) rfl rfl)
  ·
   intro h18
   have h18q : ((Val.Null a) = false) ∧ (((Val.Null b) = true) ∨ (¬ ((Val.N a) < (Val.N b)))) := (And.imp (fun h => h) (fun h => (Or.imp (fun h => (Go.Am.not_neg h)) (fun h => (of_decide_eq_false h)) (Go.Am.and_neg h))) (Go.Am.or_neg h18))
   have e19 := e4.trans (Go.Am.bif_f h18)
   refine AW.kp [] [] ⟨[], []⟩ ?_
   refine AW.skip (AW.seq (AW.r1 hC [4] [] ⟨[(4, .int .i64 1)], []⟩ ?_))
   exact AW.ret (AW.retE (β := Int) (fun v => [⟨(.int .i64), v⟩]) (fun v => []) (v := 1) e19 (by kernel_rfl) rfl rfl)

def ivalidRow_l0 (row : List Val) : Nat → Nat → Unit ⊕ Bool
 | 0, v11 => .inl ()
 | k + 1, v11 => (bif (decide (((v11 : Nat) : Int) < ((List.length row : Nat) : Int))) then (bif (!(valValid (List.getD row v11 Val.zero))) then (.inr false) else (ivalidRow_l0 row k (v11 + 1))) else (.inl ()))

def ivalidRow (row : List Val) : Bool := (bif (!(validWidth ((List.length row : Nat) : Int))) then false else (Sum.elim (fun _ => true) (fun r => r) (ivalidRow_l0 row ((List.length row) - 0 + 1) 0)))

def ivalidRow_sp : FnSpec := mkSpec [.val (.slice (.named 1))] [.val .bool] (fun (row : List Val) => True) (fun (row : List Val) => [⟨.bool, (ivalidRow row)⟩])

theorem ivalidRow_ok : FnOK Try.prog 61 ivalidRow_sp := by
 have hC : CtxOK Try.prog (mkCtx tyL [(60, validWidth_sp), (94, valValid_sp)]) := CtxOK.cons validWidth_ok (CtxOK.cons valValid_ok (CtxOK.nil tyOK))
 refine FnOK.of_body Try.func61 (by kernel_rfl) rfl (C := (mkCtx tyL [(60, validWidth_sp), (94, valValid_sp)])) hC.ty (by kernel_rfl) ?_
 intro (row : List Val) hwf hpre E
 have hpre : True := hpre
 have hw_row : Wf ⟨(.slice (.named 1)), (row : List Val)⟩ := hwf _ (List.Mem.head _)
 have hl_row : ((List.length row : Nat) : Int) ≤ 9223372036854775807 := hw_row.len
 have e0 : ivalidRow row = ivalidRow row := rfl
 refine AW.seq (AW.r1 hC [0] [] ⟨[(0, .data (.slice (.named 1)) (row : List Val))], []⟩ ?_)
 refine AW.seq (AW.seq (AW.r0 hC [0, 8] [] ⟨[(0, .data (.slice (.named 1)) (row : List Val)), (8, .bool (!(validWidth ((List.length row : Nat) : Int))))], []⟩ [(True)] ?_ ?_))
 ·
  refine ⟨?_, trivial⟩
  ·
   trivial
 refine AW.cd (!(validWidth ((List.length row : Nat) : Int))) ?_ ?_
 ·
  intro h1
  have h1q : (validWidth ((List.length row : Nat) : Int)) = false := (Go.Am.not_pos h1)
  have e2 := e0.trans (Go.Am.bif_t h1)
  refine AW.seq (AW.r1 hC [2] [] ⟨[(2, .bool false)], []⟩ ?_)
  exact AW.ret (AW.retE (β := Bool) (fun v => [⟨.bool, v⟩]) (fun v => []) (v := false) e2 (by kernel_rfl) rfl rfl)
 ·
  intro h3
  have h3q : (validWidth ((List.length row : Nat) : Int)) = true := (Go.Am.not_neg h3)
  have e4 := e0.trans (Go.Am.bif_f h3)
  refine AW.kp [0] [] ⟨[(0, .data (.slice (.named 1)) (row : List Val))], []⟩ ?_
  refine AW.skip (AW.seq (AW.seq (AW.r1 hC [9, 10, 11] [] ⟨[(9, .data (.slice (.named 1)) (row : List Val)), (10, .int .i64 ((List.length row : Nat) : Int)), (11, .int .i64 0)], []⟩ ?_)))
  refine AW.cutQ (α := Unit) (fun x => ⟨[], []⟩) (fun x => (True) ∧ (ivalidRow_l0 row ((List.length row) - 0 + 1) 0) = (.inl ())) ?_ ?_
  ·
   skip
   refine AW.block (AW.loop (α := Nat) (fun x => ⟨[(9, .data (.slice (.named 1)) (row : List Val)), (10, .int .i64 ((List.length row : Nat) : Int)), (11, .int .i64 ((x : Nat) : Int))], []⟩) (fun x => (True) ∧ ∃ k, (List.length row) - x < k ∧ (ivalidRow_l0 row ((List.length row) - 0 + 1) 0) = ivalidRow_l0 row k x) (fun x => (List.length row) - x) 0 (by kernel_rfl) ⟨?_, _, Nat.lt_succ_self _, rfl⟩ ?_)
   ·
    show True
    exact trivial
   ·
    intro v11 hR
    obtain ⟨hI0, k34, hk32, e33⟩ := hR
    replace hI0 : True := hI0
    replace hk32 : (List.length row) - v11 < k34 := hk32
    obtain ⟨k34q, rfl⟩ : ∃ k, k34 = k + 1 := ⟨k34 - 1, by omega⟩
    refine AW.seq (AW.r1 hC [9, 10, 11, 12] [] ⟨[(9, .data (.slice (.named 1)) (row : List Val)), (10, .int .i64 ((List.length row : Nat) : Int)), (11, .int .i64 ((v11 : Nat) : Int)), (12, .bool (decide (((v11 : Nat) : Int) < ((List.length row : Nat) : Int))))], []⟩ ?_)
    refine AW.seq (AW.cd (decide (((v11 : Nat) : Int) < ((List.length row : Nat) : Int))) ?_ ?_)
    ·
     intro h35
     have h35q : ((v11 : Nat) : Int) < ((List.length row : Nat) : Int) := (of_decide_eq_true h35)
     have e36 := e33.trans (Go.Am.bif_t h35)
     refine AW.kp [9, 10, 11] [] ⟨[(9, .data (.slice (.named 1)) (row : List Val)), (10, .int .i64 ((List.length row : Nat) : Int)), (11, .int .i64 ((v11 : Nat) : Int))], []⟩ ?_
     refine AW.skip (AW.seq (AW.block (AW.seq (AW.r0 hC [4, 9, 10, 11] [16] ⟨[(4, .ref 16 1 0), (9, .data (.slice (.named 1)) (row : List Val)), (10, .int .i64 ((List.length row : Nat) : Int)), (11, .int .i64 ((v11 : Nat) : Int))], [(16, .box 1 [.bool (Val.Null (List.getD row v11 Val.zero)), .int .i64 (Val.N (List.getD row v11 Val.zero))])]⟩ [(0 ≤ ((v11 : Nat) : Int) ∧ ((v11 : Nat) : Int) < ((List.length row : Nat) : Int))] ?_ ?_))))
     ·
      refine ⟨?_, trivial⟩
      ·
       omega
     refine AW.seq (AW.r0 hC [9, 10, 11, 17] [] ⟨[(9, .data (.slice (.named 1)) (row : List Val)), (10, .int .i64 ((List.length row : Nat) : Int)), (11, .int .i64 ((v11 : Nat) : Int)), (17, .bool (!(valValid (List.getD row v11 Val.zero))))], []⟩ [(True)] ?_ ?_)
     ·
      refine ⟨?_, trivial⟩
      ·
       trivial
     refine AW.cd (!(valValid (List.getD row v11 Val.zero))) ?_ ?_
     ·
      intro h37
      have h37q : (valValid (List.getD row v11 Val.zero)) = false := (Go.Am.not_pos h37)
      have e38 := e36.trans (Go.Am.bif_t h37)
      refine AW.seq (AW.r1 hC [2] [] ⟨[(2, .bool false)], []⟩ ?_)
      refine AW.ret ?_
      have e39 := e4.trans (Go.Am.elim_r e38)
      exact AW.retE (β := Bool) (fun v => [⟨.bool, v⟩]) (fun v => []) (v := false) e39 (by kernel_rfl) rfl rfl
     ·
      intro h40
      have h40q : (valValid (List.getD row v11 Val.zero)) = true := (Go.Am.not_neg h40)
      have e41 := e36.trans (Go.Am.bif_f h40)
      refine AW.kp [9, 10, 11] [] ⟨[(9, .data (.slice (.named 1)) (row : List Val)), (10, .int .i64 ((List.length row : Nat) : Int)), (11, .int .i64 ((v11 : Nat) : Int))], []⟩ ?_
      refine AW.skip (AW.r0 hC [9, 10, 11] [] ⟨[(9, .data (.slice (.named 1)) (row : List Val)), (10, .int .i64 ((List.length row : Nat) : Int)), (11, .int .i64 ((v11 + 1 : Nat) : Int))], []⟩ [(-9223372036854775808 ≤ ((v11 + 1 : Nat) : Int) ∧ ((v11 + 1 : Nat) : Int) ≤ 9223372036854775807)] ?_ ?_)
      ·
       refine ⟨?_, trivial⟩
       ·
        omega
      refine AW.back (x := v11) (v11 + 1) (by kernel_rfl) ⟨?_, k34q, ?_, e41⟩ ?_
      ·
       show True
       assumption
      ·
       show (List.length row) - (v11 + 1) < k34q
       omega
      ·
       show (List.length row) - (v11 + 1) < (List.length row) - v11
       omega
    ·
     intro h42
     have h42q : ¬ (((v11 : Nat) : Int) < ((List.length row : Nat) : Int)) := (of_decide_eq_false h42)
     have e43 := e33.trans (Go.Am.bif_f h42)
     refine AW.kp [] [] ⟨[], []⟩ ?_
     refine AW.exit ?_
     refine AW.meet () (by kernel_rfl) ⟨?_, e43⟩
     show True
     assumption
  ·
   intro x hR
   obtain ⟨hJ0, e44⟩ := hR
   replace hJ0 : True := hJ0
   have e45 := e4.trans (Go.Am.elim_l e44)
   refine AW.seq (AW.r1 hC [2] [] ⟨[(2, .bool true)], []⟩ ?_)
   exact AW.ret (AW.retE (β := Bool) (fun v => [⟨.bool, v⟩]) (fun v => []) (v := true) e45 (by kernel_rfl) rfl rfl)

def validRow_l0 (row : List Val) : Nat → Nat → Unit ⊕ Bool
 | 0, i => .inl ()
 | k + 1, i => (bif (decide (((i : Nat) : Int) < ((List.length row : Nat) : Int))) then (bif (!(validValue (List.getD row i Val.zero))) then (.inr false) else (validRow_l0 row k (i + 1))) else (.inl ()))

def validRow (row : List Val) : Bool := (Sum.elim (fun _ => (inRange ((List.length row : Nat) : Int) 1 6)) (fun r => r) (validRow_l0 row ((List.length row) - 0 + 1) 0))

def validRow_sp : FnSpec := mkSpec [.val (.slice (.named 1))] [.val .bool] (fun (row : List Val) => True) (fun (row : List Val) => [⟨.bool, (validRow row)⟩])

theorem validRow_ok : FnOK Try.prog 65 validRow_sp := by
 have hC : CtxOK Try.prog (mkCtx tyL [(64, inRange_sp), (98, validValue_sp)]) := CtxOK.cons inRange_ok (CtxOK.cons validValue_ok (CtxOK.nil tyOK))
 refine FnOK.of_body Try.func65 (by kernel_rfl) rfl (C := (mkCtx tyL [(64, inRange_sp), (98, validValue_sp)])) hC.ty (by kernel_rfl) ?_
 intro (row : List Val) hwf hpre E
 have hpre : True := hpre
 have hw_row : Wf ⟨(.slice (.named 1)), (row : List Val)⟩ := hwf _ (List.Mem.head _)
 have hl_row : ((List.length row : Nat) : Int) ≤ 9223372036854775807 := hw_row.len
 have e0 : validRow row = validRow row := rfl
 refine AW.seq (AW.r1 hC [0] [] ⟨[(0, .data (.slice (.named 1)) (row : List Val))], []⟩ ?_)
 refine AW.seq (AW.seq (AW.r1 hC [0, 3] [] ⟨[(0, .data (.slice (.named 1)) (row : List Val)), (3, .int .i64 0)], []⟩ ?_))
 refine AW.cutQ (α := Unit) (fun x => ⟨[(0, .data (.slice (.named 1)) (row : List Val))], []⟩) (fun x => (True) ∧ (validRow_l0 row ((List.length row) - 0 + 1) 0) = (.inl ())) ?_ ?_
 ·
  skip
  refine AW.block (AW.loop (α := Nat) (fun x => ⟨[(0, .data (.slice (.named 1)) (row : List Val)), (3, .int .i64 ((x : Nat) : Int))], []⟩) (fun x => (True) ∧ ∃ k, (List.length row) - x < k ∧ (validRow_l0 row ((List.length row) - 0 + 1) 0) = validRow_l0 row k x) (fun x => (List.length row) - x) 0 (by kernel_rfl) ⟨?_, _, Nat.lt_succ_self _, rfl⟩ ?_)
  ·
   show True
   exact trivial
  ·
   intro i hR
   obtain ⟨hI0, k30, hk28, e29⟩ := hR
   replace hI0 : True := hI0
   replace hk28 : (List.length row) - i < k30 := hk28
   obtain ⟨k30q, rfl⟩ : ∃ k, k30 = k + 1 := ⟨k30 - 1, by omega⟩
   refine AW.seq (AW.seq (AW.r1 hC [0, 3, 7] [] ⟨[(0, .data (.slice (.named 1)) (row : List Val)), (3, .int .i64 ((i : Nat) : Int)), (7, .bool (decide (((i : Nat) : Int) < ((List.length row : Nat) : Int))))], []⟩ ?_))
   refine AW.cd (decide (((i : Nat) : Int) < ((List.length row : Nat) : Int))) ?_ ?_
   ·
    intro h31
    have h31q : ((i : Nat) : Int) < ((List.length row : Nat) : Int) := (of_decide_eq_true h31)
    have e32 := e29.trans (Go.Am.bif_t h31)
    refine AW.kp [0, 3] [] ⟨[(0, .data (.slice (.named 1)) (row : List Val)), (3, .int .i64 ((i : Nat) : Int))], []⟩ ?_
    refine AW.skip (AW.seq (AW.block (AW.seq (AW.r0 hC [0, 3, 15] [] ⟨[(0, .data (.slice (.named 1)) (row : List Val)), (3, .int .i64 ((i : Nat) : Int)), (15, .bool (!(validValue (List.getD row i Val.zero))))], []⟩ [(0 ≤ ((i : Nat) : Int) ∧ ((i : Nat) : Int) < ((List.length row : Nat) : Int)), (True)] ?_ ?_))))
    ·
     refine ⟨?_, ?_, trivial⟩
     ·
      omega
     ·
      trivial
    refine AW.cd (!(validValue (List.getD row i Val.zero))) ?_ ?_
    ·
     intro h33
     have h33q : (validValue (List.getD row i Val.zero)) = false := (Go.Am.not_pos h33)
     have e34 := e32.trans (Go.Am.bif_t h33)
     refine AW.seq (AW.r1 hC [2] [] ⟨[(2, .bool false)], []⟩ ?_)
     refine AW.ret ?_
     have e35 := e0.trans (Go.Am.elim_r e34)
     exact AW.retE (β := Bool) (fun v => [⟨.bool, v⟩]) (fun v => []) (v := false) e35 (by kernel_rfl) rfl rfl
    ·
     intro h36
     have h36q : (validValue (List.getD row i Val.zero)) = true := (Go.Am.not_neg h36)
     have e37 := e32.trans (Go.Am.bif_f h36)
     refine AW.kp [0, 3] [] ⟨[(0, .data (.slice (.named 1)) (row : List Val)), (3, .int .i64 ((i : Nat) : Int))], []⟩ ?_
     refine AW.skip (AW.r0 hC [0, 3] [] ⟨[(0, .data (.slice (.named 1)) (row : List Val)), (3, .int .i64 ((i + 1 : Nat) : Int))], []⟩ [(-9223372036854775808 ≤ ((i + 1 : Nat) : Int) ∧ ((i + 1 : Nat) : Int) ≤ 9223372036854775807)] ?_ ?_)
     ·
      refine ⟨?_, trivial⟩
      ·
       omega
     refine AW.back (x := i) (i + 1) (by kernel_rfl) ⟨?_, k30q, ?_, e37⟩ ?_
     ·
      show True
      assumption
     ·
      show (List.length row) - (i + 1) < k30q
      omega
     ·
      show (List.length row) - (i + 1) < (List.length row) - i
      omega
   ·
    intro h38
    have h38q : ¬ (((i : Nat) : Int) < ((List.length row : Nat) : Int)) := (of_decide_eq_false h38)
    have e39 := e29.trans (Go.Am.bif_f h38)
    refine AW.kp [0] [] ⟨[(0, .data (.slice (.named 1)) (row : List Val))], []⟩ ?_
    refine AW.exit ?_
    refine AW.meet () (by kernel_rfl) ⟨?_, e39⟩
    show True
    assumption
 ·
  intro x hR
  obtain ⟨hJ0, e40⟩ := hR
  replace hJ0 : True := hJ0
  have e41 := e0.trans (Go.Am.elim_l e40)
  refine AW.seq (AW.r0 hC [2] [] ⟨[(2, .bool (inRange ((List.length row : Nat) : Int) 1 6))], []⟩ [(True)] ?_ ?_)
  ·
   refine ⟨?_, trivial⟩
   ·
    trivial
  exact AW.ret (AW.retE (β := Bool) (fun v => [⟨.bool, v⟩]) (fun v => []) (v := (inRange ((List.length row : Nat) : Int) 1 6)) e41 (by kernel_rfl) rfl rfl)

def icompareRows_l0 (a : List Val) (b : List Val) : Nat → Nat → Unit ⊕ Int
 | 0, v13 => .inl ()
 | k + 1, v13 => (bif (decide (((v13 : Nat) : Int) < ((List.length a : Nat) : Int))) then (bif (decide (((List.length b : Nat) : Int) ≤ ((v13 : Nat) : Int))) then (.inr 1) else (bif ((valCompare (List.getD a v13 Val.zero) (List.getD b v13 Val.zero)) != 0) then (.inr (valCompare (List.getD a v13 Val.zero) (List.getD b v13 Val.zero))) else (icompareRows_l0 a b k (v13 + 1)))) else (.inl ()))

def icompareRows_c0 (a : List Val) (b : List Val) : Int :=
 (Sum.elim (fun _ => (bif (decide (((List.length a : Nat) : Int) < ((List.length b : Nat) : Int))) then (-1) else 0)) (fun r => r) (icompareRows_l0 a b ((List.length a) - 0 + 1) 0))

def icompareRows (a : List Val) (b : List Val) : Int := (Go.Am.andThen (icompareRows_c0 a b) (fun z => (fun (v7 : Int) => v7) z))

def icompareRows_sp : FnSpec := mkSpec [.val (.slice (.named 1)), .val (.slice (.named 1))] [.val (.int .i64)] (fun (a : List Val) (b : List Val) => True) (fun (a : List Val) (b : List Val) => [⟨(.int .i64), (icompareRows a b)⟩])

theorem icompareRows_ok : FnOK Try.prog 68 icompareRows_sp := by
 have hC : CtxOK Try.prog (mkCtx tyL [(101, valCompare_sp)]) := CtxOK.cons valCompare_ok (CtxOK.nil tyOK)
 have hC1 := hC.rebase 1000
 refine FnOK.of_body Try.func68 (by kernel_rfl) rfl (C := (mkCtx tyL [(101, valCompare_sp)])) hC.ty (by kernel_rfl) ?_
 intro (a : List Val) (b : List Val) hwf hpre E
 have hpre : True := hpre
 have hw_a : Wf ⟨(.slice (.named 1)), (a : List Val)⟩ := hwf _ (List.Mem.head _)
 have hl_a : ((List.length a : Nat) : Int) ≤ 9223372036854775807 := hw_a.len
 have hw_b : Wf ⟨(.slice (.named 1)), (b : List Val)⟩ := hwf _ (List.Mem.tail _ (List.Mem.head _))
 have hl_b : ((List.length b : Nat) : Int) ≤ 9223372036854775807 := hw_b.len
 have e0 : icompareRows a b = icompareRows a b := rfl
 refine AW.seq (AW.r1 hC [0, 1] [] ⟨[(0, .data (.slice (.named 1)) (a : List Val)), (1, .data (.slice (.named 1)) (b : List Val))], []⟩ ?_)
 refine AW.seq (AW.regionO [0, 1, 2, 3] (by rfl) ?_)
 refine AWO.run hC false [] [0, 1] [2, 3] [5, 6] []
  ⟨[(5, .data (.slice (.named 1)) (a : List Val)), (6, .data (.slice (.named 1)) (b : List Val))], []⟩
  [] (by rfl) (by kernel_rfl) ?_ ?_
 ·
  exact trivial
 refine AWO.callJ hC.ty [7] [] (α := Int) (fun x => ⟨[(7, .int .i64 x)], []⟩) (fun x => (True) ∧ (icompareRows_c0 a b) = x) (vs := [.data (.slice (.named 1)) (a : List Val), .data (.slice (.named 1)) (b : List Val), .clo 101 []]) (caps := []) (by rfl) rfl (.inl rfl) (by decide) (by kernel_rfl) (by kernel_rfl) Try.func100 (by kernel_rfl) rfl (by kernel_rfl) ?_ ?_
 ·
  intro o1 ho1
  have e123 : (icompareRows_c0 a b) = (icompareRows_c0 a b) := rfl
  refine AW.kp [0, 1, 2] [] ⟨[(0, .data (.slice (.named 1)) (a : List Val)), (1, .data (.slice (.named 1)) (b : List Val)), (2, .clo 101 [])], []⟩ ?_
  refine AW.seq (AW.r1 hC1 [0, 1, 2] [] ⟨[(0, .data (.slice (.named 1)) (a : List Val)), (1, .data (.slice (.named 1)) (b : List Val)), (2, .clo 101 [])], []⟩ ?_)
  refine AW.seq (AW.seq (AW.r1 hC1 [0, 1, 2, 11, 12, 13] [] ⟨[(0, .data (.slice (.named 1)) (a : List Val)), (1, .data (.slice (.named 1)) (b : List Val)), (2, .clo 101 []), (11, .data (.slice (.named 1)) (a : List Val)), (12, .int .i64 ((List.length a : Nat) : Int)), (13, .int .i64 0)], []⟩ ?_))
  refine AW.cutQ (α := Unit) (fun x => ⟨[(0, .data (.slice (.named 1)) (a : List Val)), (1, .data (.slice (.named 1)) (b : List Val))], []⟩) (fun x => (True) ∧ (icompareRows_l0 a b ((List.length a) - 0 + 1) 0) = (.inl ())) ?_ ?_
  ·
   skip
   refine AW.block (AW.loop (α := Nat) (fun x => ⟨[(0, .data (.slice (.named 1)) (a : List Val)), (1, .data (.slice (.named 1)) (b : List Val)), (2, .clo 101 []), (11, .data (.slice (.named 1)) (a : List Val)), (12, .int .i64 ((List.length a : Nat) : Int)), (13, .int .i64 ((x : Nat) : Int))], []⟩) (fun x => (True) ∧ ∃ k, (List.length a) - x < k ∧ (icompareRows_l0 a b ((List.length a) - 0 + 1) 0) = icompareRows_l0 a b k x) (fun x => (List.length a) - x) 0 (by kernel_rfl) ⟨?_, _, Nat.lt_succ_self _, rfl⟩ ?_)
   ·
    show True
    exact trivial
   ·
    intro v13 hR
    obtain ⟨hI0, k168, hk166, e167⟩ := hR
    replace hI0 : True := hI0
    replace hk166 : (List.length a) - v13 < k168 := hk166
    obtain ⟨k168q, rfl⟩ : ∃ k, k168 = k + 1 := ⟨k168 - 1, by omega⟩
    refine AW.seq (AW.r1 hC1 [0, 1, 2, 11, 12, 13, 14] [] ⟨[(0, .data (.slice (.named 1)) (a : List Val)), (1, .data (.slice (.named 1)) (b : List Val)), (2, .clo 101 []), (11, .data (.slice (.named 1)) (a : List Val)), (12, .int .i64 ((List.length a : Nat) : Int)), (13, .int .i64 ((v13 : Nat) : Int)), (14, .bool (decide (((v13 : Nat) : Int) < ((List.length a : Nat) : Int))))], []⟩ ?_)
    refine AW.seq (AW.cd (decide (((v13 : Nat) : Int) < ((List.length a : Nat) : Int))) ?_ ?_)
    ·
     intro h169
     have h169q : ((v13 : Nat) : Int) < ((List.length a : Nat) : Int) := (of_decide_eq_true h169)
     have e170 := e167.trans (Go.Am.bif_t h169)
     refine AW.kp [0, 1, 2, 11, 12, 13] [] ⟨[(0, .data (.slice (.named 1)) (a : List Val)), (1, .data (.slice (.named 1)) (b : List Val)), (2, .clo 101 []), (11, .data (.slice (.named 1)) (a : List Val)), (12, .int .i64 ((List.length a : Nat) : Int)), (13, .int .i64 ((v13 : Nat) : Int))], []⟩ ?_
     refine AW.skip (AW.seq (AW.block (AW.seq (AW.r0 hC1 [0, 1, 2, 7, 8, 11, 12, 13] [4032] ⟨[(0, .data (.slice (.named 1)) (a : List Val)), (1, .data (.slice (.named 1)) (b : List Val)), (2, .clo 101 []), (7, .int .i64 ((v13 : Nat) : Int)), (8, .ref 4032 1 0), (11, .data (.slice (.named 1)) (a : List Val)), (12, .int .i64 ((List.length a : Nat) : Int)), (13, .int .i64 ((v13 : Nat) : Int))], [(4032, .box 1 [.bool (Val.Null (List.getD a v13 Val.zero)), .int .i64 (Val.N (List.getD a v13 Val.zero))])]⟩ [(0 ≤ ((v13 : Nat) : Int) ∧ ((v13 : Nat) : Int) < ((List.length a : Nat) : Int))] ?_ ?_))))
     ·
      refine ⟨?_, trivial⟩
      ·
       omega
     refine AW.seq (AW.seq (AW.r1 hC1 [0, 1, 2, 7, 8, 11, 12, 13, 21] [4032] ⟨[(0, .data (.slice (.named 1)) (a : List Val)), (1, .data (.slice (.named 1)) (b : List Val)), (2, .clo 101 []), (7, .int .i64 ((v13 : Nat) : Int)), (8, .ref 4032 1 0), (11, .data (.slice (.named 1)) (a : List Val)), (12, .int .i64 ((List.length a : Nat) : Int)), (13, .int .i64 ((v13 : Nat) : Int)), (21, .bool (decide (((List.length b : Nat) : Int) ≤ ((v13 : Nat) : Int))))], [(4032, .box 1 [.bool (Val.Null (List.getD a v13 Val.zero)), .int .i64 (Val.N (List.getD a v13 Val.zero))])]⟩ ?_))
     refine AW.cd (decide (((List.length b : Nat) : Int) ≤ ((v13 : Nat) : Int))) ?_ ?_
     ·
      intro h171
      have h171q : ((List.length b : Nat) : Int) ≤ ((v13 : Nat) : Int) := (of_decide_eq_true h171)
      have e172 := e170.trans (Go.Am.bif_t h171)
      refine AW.seq (AW.r1 hC1 [6] [] ⟨[(6, .int .i64 1)], []⟩ ?_)
      refine AW.ret ?_
      have e173 := e123.trans (Go.Am.elim_r e172)
      refine ⟨1, [.int .i64 1], by kernel_rfl, by kernel_rfl, ?_, e173⟩
      show True
      exact trivial
     ·
      intro h174
      have h174q : ¬ (((List.length b : Nat) : Int) ≤ ((v13 : Nat) : Int)) := (of_decide_eq_false h174)
      have e175 := e170.trans (Go.Am.bif_f h174)
      refine AW.kp [0, 1, 2, 7, 8, 11, 12, 13] [4032] ⟨[(0, .data (.slice (.named 1)) (a : List Val)), (1, .data (.slice (.named 1)) (b : List Val)), (2, .clo 101 []), (7, .int .i64 ((v13 : Nat) : Int)), (8, .ref 4032 1 0), (11, .data (.slice (.named 1)) (a : List Val)), (12, .int .i64 ((List.length a : Nat) : Int)), (13, .int .i64 ((v13 : Nat) : Int))], [(4032, .box 1 [.bool (Val.Null (List.getD a v13 Val.zero)), .int .i64 (Val.N (List.getD a v13 Val.zero))])]⟩ ?_
      refine AW.skip (AW.seq (AW.r0 hC1 [0, 1, 2, 8, 9, 11, 12, 13] [4032, 4036] ⟨[(0, .data (.slice (.named 1)) (a : List Val)), (1, .data (.slice (.named 1)) (b : List Val)), (2, .clo 101 []), (8, .ref 4032 1 0), (9, .ref 4036 1 0), (11, .data (.slice (.named 1)) (a : List Val)), (12, .int .i64 ((List.length a : Nat) : Int)), (13, .int .i64 ((v13 : Nat) : Int))], [(4032, .box 1 [.bool (Val.Null (List.getD a v13 Val.zero)), .int .i64 (Val.N (List.getD a v13 Val.zero))]), (4036, .box 1 [.bool (Val.Null (List.getD b v13 Val.zero)), .int .i64 (Val.N (List.getD b v13 Val.zero))])]⟩ [(0 ≤ ((v13 : Nat) : Int) ∧ ((v13 : Nat) : Int) < ((List.length b : Nat) : Int))] ?_ ?_))
      ·
       refine ⟨?_, trivial⟩
       ·
        omega
      refine AW.seq (AW.r0 hC1 [0, 1, 2, 10, 11, 12, 13] [] ⟨[(0, .data (.slice (.named 1)) (a : List Val)), (1, .data (.slice (.named 1)) (b : List Val)), (2, .clo 101 []), (10, .int .i64 (valCompare (List.getD a v13 Val.zero) (List.getD b v13 Val.zero))), (11, .data (.slice (.named 1)) (a : List Val)), (12, .int .i64 ((List.length a : Nat) : Int)), (13, .int .i64 ((v13 : Nat) : Int))], []⟩ [(True)] ?_ ?_)
      ·
       refine ⟨?_, trivial⟩
       ·
        trivial
      refine AW.seq (AW.r1 hC1 [0, 1, 2, 10, 11, 12, 13, 31] [] ⟨[(0, .data (.slice (.named 1)) (a : List Val)), (1, .data (.slice (.named 1)) (b : List Val)), (2, .clo 101 []), (10, .int .i64 (valCompare (List.getD a v13 Val.zero) (List.getD b v13 Val.zero))), (11, .data (.slice (.named 1)) (a : List Val)), (12, .int .i64 ((List.length a : Nat) : Int)), (13, .int .i64 ((v13 : Nat) : Int)), (31, .bool ((valCompare (List.getD a v13 Val.zero) (List.getD b v13 Val.zero)) != 0))], []⟩ ?_)
      refine AW.cd ((valCompare (List.getD a v13 Val.zero) (List.getD b v13 Val.zero)) != 0) ?_ ?_
      ·
       intro h176
       have h176q : (valCompare (List.getD a v13 Val.zero) (List.getD b v13 Val.zero)) ≠ 0 := (Go.Am.bne_pos h176)
       have e177 := e175.trans (Go.Am.bif_t h176)
       refine AW.seq (AW.r1 hC1 [6] [] ⟨[(6, .int .i64 (valCompare (List.getD a v13 Val.zero) (List.getD b v13 Val.zero)))], []⟩ ?_)
       refine AW.ret ?_
       have e178 := e123.trans (Go.Am.elim_r e177)
       refine ⟨(valCompare (List.getD a v13 Val.zero) (List.getD b v13 Val.zero)), [.int .i64 (valCompare (List.getD a v13 Val.zero) (List.getD b v13 Val.zero))], by kernel_rfl, by kernel_rfl, ?_, e178⟩
       show True
       exact trivial
      ·
       intro h179
       have h179q : (valCompare (List.getD a v13 Val.zero) (List.getD b v13 Val.zero)) = 0 := (Go.Am.bne_neg h179)
       have e180 := e175.trans (Go.Am.bif_f h179)
       refine AW.kp [0, 1, 2, 11, 12, 13] [] ⟨[(0, .data (.slice (.named 1)) (a : List Val)), (1, .data (.slice (.named 1)) (b : List Val)), (2, .clo 101 []), (11, .data (.slice (.named 1)) (a : List Val)), (12, .int .i64 ((List.length a : Nat) : Int)), (13, .int .i64 ((v13 : Nat) : Int))], []⟩ ?_
       refine AW.skip (AW.r0 hC1 [0, 1, 2, 11, 12, 13] [] ⟨[(0, .data (.slice (.named 1)) (a : List Val)), (1, .data (.slice (.named 1)) (b : List Val)), (2, .clo 101 []), (11, .data (.slice (.named 1)) (a : List Val)), (12, .int .i64 ((List.length a : Nat) : Int)), (13, .int .i64 ((v13 + 1 : Nat) : Int))], []⟩ [(-9223372036854775808 ≤ ((v13 + 1 : Nat) : Int) ∧ ((v13 + 1 : Nat) : Int) ≤ 9223372036854775807)] ?_ ?_)
       ·
        refine ⟨?_, trivial⟩
        ·
         omega
       refine AW.back (x := v13) (v13 + 1) (by kernel_rfl) ⟨?_, k168q, ?_, e180⟩ ?_
       ·
        show True
        assumption
       ·
        show (List.length a) - (v13 + 1) < k168q
        omega
       ·
        show (List.length a) - (v13 + 1) < (List.length a) - v13
        omega
    ·
     intro h181
     have h181q : ¬ (((v13 : Nat) : Int) < ((List.length a : Nat) : Int)) := (of_decide_eq_false h181)
     have e182 := e167.trans (Go.Am.bif_f h181)
     refine AW.kp [0, 1] [] ⟨[(0, .data (.slice (.named 1)) (a : List Val)), (1, .data (.slice (.named 1)) (b : List Val))], []⟩ ?_
     refine AW.exit ?_
     refine AW.meet () (by kernel_rfl) ⟨?_, e182⟩
     show True
     assumption
  ·
   intro x hR
   obtain ⟨hJ0, e183⟩ := hR
   replace hJ0 : True := hJ0
   have e184 := e123.trans (Go.Am.elim_l e183)
   refine AW.seq (AW.seq (AW.r1 hC1 [38] [] ⟨[(38, .bool (decide (((List.length a : Nat) : Int) < ((List.length b : Nat) : Int))))], []⟩ ?_))
   refine AW.cd (decide (((List.length a : Nat) : Int) < ((List.length b : Nat) : Int))) ?_ ?_
   ·
    intro h185
    have h185q : ((List.length a : Nat) : Int) < ((List.length b : Nat) : Int) := (of_decide_eq_true h185)
    have e186 := e184.trans (Go.Am.bif_t h185)
    refine AW.seq (AW.r1 hC1 [6] [] ⟨[(6, .int .i64 (-1))], []⟩ ?_)
    refine AW.ret ?_
    refine ⟨(-1), [.int .i64 (-1)], by kernel_rfl, by kernel_rfl, ?_, e186⟩
    show True
    exact trivial
   ·
    intro h187
    have h187q : ¬ (((List.length a : Nat) : Int) < ((List.length b : Nat) : Int)) := (of_decide_eq_false h187)
    have e188 := e184.trans (Go.Am.bif_f h187)
    refine AW.kp [] [] ⟨[], []⟩ ?_
    refine AW.skip (AW.seq (AW.r1 hC1 [6] [] ⟨[(6, .int .i64 0)], []⟩ ?_))
    refine AW.ret ?_
    refine ⟨0, [.int .i64 0], by kernel_rfl, by kernel_rfl, ?_, e188⟩
    show True
    exact trivial
 ·
  intro v7 hR
  obtain ⟨hK0, e189⟩ := hR
  replace hK0 : True := hK0
  have e190 := e0.trans (Go.Am.then_eq e189)
  refine AWO.run hC false [] [3] [] [4] []
   ⟨[(4, .int .i64 v7)], []⟩
   [] (by rfl) (by kernel_rfl) ?_ ?_
  ·
   exact trivial
  refine AWO.nil ?_
  exact AW.ret (AW.retE (β := Int) (fun v => [⟨(.int .i64), v⟩]) (fun v => []) (v := v7) e190 (by kernel_rfl) rfl rfl)

def compareRows_l0 (a : List Val) (b : List Val) : Nat → Nat → Unit ⊕ Int
 | 0, i => .inl ()
 | k + 1, i => (bif (bif (decide (((i : Nat) : Int) < ((List.length a : Nat) : Int))) then (decide (((i : Nat) : Int) < ((List.length b : Nat) : Int))) else false) then (bif ((compareValues (List.getD a i Val.zero) (List.getD b i Val.zero)) != 0) then (.inr (compareValues (List.getD a i Val.zero) (List.getD b i Val.zero))) else (compareRows_l0 a b k (i + 1))) else (.inl ()))

def compareRows (a : List Val) (b : List Val) : Int := (Sum.elim (fun _ => (((List.length a : Nat) : Int) - ((List.length b : Nat) : Int))) (fun r => r) (compareRows_l0 a b (List.length a - 0 + 1) 0))

def compareRows_sp : FnSpec := mkSpec [.val (.slice (.named 1)), .val (.slice (.named 1))] [.val (.int .i64)] (fun (a : List Val) (b : List Val) => True) (fun (a : List Val) (b : List Val) => [⟨(.int .i64), (compareRows a b)⟩])

theorem compareRows_ok : FnOK Try.prog 106 compareRows_sp := by
 have hC : CtxOK Try.prog (mkCtx tyL [(114, compareValues_sp)]) := CtxOK.cons compareValues_ok (CtxOK.nil tyOK)
 have hM : Try.prog.follows .mixedOrders = true := Try.checked.mixed
 refine FnOK.of_body Try.func106 (by kernel_rfl) rfl (C := (mkCtx tyL [(114, compareValues_sp)])) hC.ty (by kernel_rfl) ?_
 intro (a : List Val) (b : List Val) hwf hpre E
 have hpre : True := hpre
 have hw_a : Wf ⟨(.slice (.named 1)), (a : List Val)⟩ := hwf _ (List.Mem.head _)
 have hl_a : ((List.length a : Nat) : Int) ≤ 9223372036854775807 := hw_a.len
 have hw_b : Wf ⟨(.slice (.named 1)), (b : List Val)⟩ := hwf _ (List.Mem.tail _ (List.Mem.head _))
 have hl_b : ((List.length b : Nat) : Int) ≤ 9223372036854775807 := hw_b.len
 have e0 : compareRows a b = compareRows a b := rfl
 refine AW.seq (AW.r1 hC [0, 1] [] ⟨[(0, .data (.slice (.named 1)) (a : List Val)), (1, .data (.slice (.named 1)) (b : List Val))], []⟩ ?_)
 refine AW.seq (AW.seq (AW.r1 hC [0, 1, 5] [] ⟨[(0, .data (.slice (.named 1)) (a : List Val)), (1, .data (.slice (.named 1)) (b : List Val)), (5, .int .i64 0)], []⟩ ?_))
 refine AW.cutQ (α := Unit) (fun x => ⟨[(0, .data (.slice (.named 1)) (a : List Val)), (1, .data (.slice (.named 1)) (b : List Val))], []⟩) (fun x => (True) ∧ (compareRows_l0 a b (List.length a - 0 + 1) 0) = (.inl ())) ?_ ?_
 ·
  skip
  refine AW.block (AW.loop (α := Nat) (fun x => ⟨[(0, .data (.slice (.named 1)) (a : List Val)), (1, .data (.slice (.named 1)) (b : List Val)), (5, .int .i64 ((x : Nat) : Int))], []⟩) (fun x => (True) ∧ ∃ k, List.length a - x < k ∧ (compareRows_l0 a b (List.length a - 0 + 1) 0) = compareRows_l0 a b k x) (fun x => List.length a - x) 0 (by kernel_rfl) ⟨?_, _, Nat.lt_succ_self _, rfl⟩ ?_)
  ·
   show True
   exact trivial
  ·
   intro i hR
   obtain ⟨hI0, k30, hk28, e29⟩ := hR
   replace hI0 : True := hI0
   replace hk28 : List.length a - i < k30 := hk28
   obtain ⟨k30q, rfl⟩ : ∃ k, k30 = k + 1 := ⟨k30 - 1, by omega⟩
   refine AW.seq (AW.seq (AW.r0 hC [0, 1, 5, 16] [] ⟨[(0, .data (.slice (.named 1)) (a : List Val)), (1, .data (.slice (.named 1)) (b : List Val)), (5, .int .i64 ((i : Nat) : Int)), (16, .bool (bif (decide (((i : Nat) : Int) < ((List.length a : Nat) : Int))) then (decide (((i : Nat) : Int) < ((List.length b : Nat) : Int))) else false))], []⟩ [(((decide (((i : Nat) : Int) < ((List.length a : Nat) : Int))) = true) → (((decide (((i : Nat) : Int) < ((List.length a : Nat) : Int))) = true))), (((decide (((i : Nat) : Int) < ((List.length a : Nat) : Int))) = true) → (((decide (((i : Nat) : Int) < ((List.length a : Nat) : Int))) = true))), (((decide (((i : Nat) : Int) < ((List.length a : Nat) : Int))) = true) → (((decide (((i : Nat) : Int) < ((List.length a : Nat) : Int))) = true))), (((decide (((i : Nat) : Int) < ((List.length a : Nat) : Int))) = true) → (((decide (((i : Nat) : Int) < ((List.length a : Nat) : Int))) = true)))] ?_ ?_))
   ·
    refine ⟨?_, ?_, ?_, ?_, trivial⟩
    ·
     intro g31
     have g31p0 : ((i : Nat) : Int) < ((List.length a : Nat) : Int) := (of_decide_eq_true g31)
     assumption
    ·
     intro g32
     have g32p0 : ((i : Nat) : Int) < ((List.length a : Nat) : Int) := (of_decide_eq_true g32)
     assumption
    ·
     intro g33
     have g33p0 : ((i : Nat) : Int) < ((List.length a : Nat) : Int) := (of_decide_eq_true g33)
     assumption
    ·
     intro g34
     have g34p0 : ((i : Nat) : Int) < ((List.length a : Nat) : Int) := (of_decide_eq_true g34)
     assumption
   refine AW.cd (bif (decide (((i : Nat) : Int) < ((List.length a : Nat) : Int))) then (decide (((i : Nat) : Int) < ((List.length b : Nat) : Int))) else false) ?_ ?_
   ·
    intro h35
    have h35q : (((i : Nat) : Int) < ((List.length a : Nat) : Int)) ∧ (((i : Nat) : Int) < ((List.length b : Nat) : Int)) := (And.imp (fun h => (of_decide_eq_true h)) (fun h => (of_decide_eq_true h)) (Go.Am.and_pos h35))
    have e36 := e29.trans (Go.Am.bif_t h35)
    refine AW.kp [0, 1, 5] [] ⟨[(0, .data (.slice (.named 1)) (a : List Val)), (1, .data (.slice (.named 1)) (b : List Val)), (5, .int .i64 ((i : Nat) : Int))], []⟩ ?_
    refine AW.skip (AW.seq (AW.block (AW.seq (AW.d0 hC hM [0, 1, 5, 6] [] ⟨[(0, .data (.slice (.named 1)) (a : List Val)), (1, .data (.slice (.named 1)) (b : List Val)), (5, .int .i64 ((i : Nat) : Int)), (6, .int .i64 (compareValues (List.getD a i Val.zero) (List.getD b i Val.zero)))], []⟩ [(0 ≤ ((i : Nat) : Int) ∧ ((i : Nat) : Int) < ((List.length a : Nat) : Int)), (0 ≤ ((i : Nat) : Int) ∧ ((i : Nat) : Int) < ((List.length b : Nat) : Int)), (True)] ?_ ?_))))
    ·
     refine ⟨?_, ?_, ?_, trivial⟩
     ·
      omega
     ·
      omega
     ·
      trivial
    refine AW.seq (AW.r1 hC [0, 1, 5, 6, 29] [] ⟨[(0, .data (.slice (.named 1)) (a : List Val)), (1, .data (.slice (.named 1)) (b : List Val)), (5, .int .i64 ((i : Nat) : Int)), (6, .int .i64 (compareValues (List.getD a i Val.zero) (List.getD b i Val.zero))), (29, .bool ((compareValues (List.getD a i Val.zero) (List.getD b i Val.zero)) != 0))], []⟩ ?_)
    refine AW.cd ((compareValues (List.getD a i Val.zero) (List.getD b i Val.zero)) != 0) ?_ ?_
    ·
     intro h37
     have h37q : (compareValues (List.getD a i Val.zero) (List.getD b i Val.zero)) ≠ 0 := (Go.Am.bne_pos h37)
     have e38 := e36.trans (Go.Am.bif_t h37)
     refine AW.seq (AW.r1 hC [4] [] ⟨[(4, .int .i64 (compareValues (List.getD a i Val.zero) (List.getD b i Val.zero)))], []⟩ ?_)
     refine AW.ret ?_
     have e39 := e0.trans (Go.Am.elim_r e38)
     exact AW.retE (β := Int) (fun v => [⟨(.int .i64), v⟩]) (fun v => []) (v := (compareValues (List.getD a i Val.zero) (List.getD b i Val.zero))) e39 (by kernel_rfl) rfl rfl
    ·
     intro h40
     have h40q : (compareValues (List.getD a i Val.zero) (List.getD b i Val.zero)) = 0 := (Go.Am.bne_neg h40)
     have e41 := e36.trans (Go.Am.bif_f h40)
     refine AW.kp [0, 1, 5] [] ⟨[(0, .data (.slice (.named 1)) (a : List Val)), (1, .data (.slice (.named 1)) (b : List Val)), (5, .int .i64 ((i : Nat) : Int))], []⟩ ?_
     refine AW.skip (AW.r0 hC [0, 1, 5] [] ⟨[(0, .data (.slice (.named 1)) (a : List Val)), (1, .data (.slice (.named 1)) (b : List Val)), (5, .int .i64 ((i + 1 : Nat) : Int))], []⟩ [(-9223372036854775808 ≤ ((i + 1 : Nat) : Int) ∧ ((i + 1 : Nat) : Int) ≤ 9223372036854775807)] ?_ ?_)
     ·
      refine ⟨?_, trivial⟩
      ·
       omega
     refine AW.back (x := i) (i + 1) (by kernel_rfl) ⟨?_, k30q, ?_, e41⟩ ?_
     ·
      show True
      assumption
     ·
      show List.length a - (i + 1) < k30q
      omega
     ·
      show List.length a - (i + 1) < List.length a - i
      omega
   ·
    intro h42
    have h42q : (¬ (((i : Nat) : Int) < ((List.length a : Nat) : Int))) ∨ (¬ (((i : Nat) : Int) < ((List.length b : Nat) : Int))) := (Or.imp (fun h => (of_decide_eq_false h)) (fun h => (of_decide_eq_false h)) (Go.Am.and_neg h42))
    have e43 := e29.trans (Go.Am.bif_f h42)
    refine AW.kp [0, 1] [] ⟨[(0, .data (.slice (.named 1)) (a : List Val)), (1, .data (.slice (.named 1)) (b : List Val))], []⟩ ?_
    refine AW.exit ?_
    refine AW.meet () (by kernel_rfl) ⟨?_, e43⟩
    show True
    assumption
 ·
  intro x hR
  obtain ⟨hJ0, e44⟩ := hR
  replace hJ0 : True := hJ0
  have e45 := e0.trans (Go.Am.elim_l e44)
  refine AW.seq (AW.r0 hC [4] [] ⟨[(4, .int .i64 (((List.length a : Nat) : Int) - ((List.length b : Nat) : Int)))], []⟩ [(-9223372036854775808 ≤ (((List.length a : Nat) : Int) - ((List.length b : Nat) : Int)) ∧ (((List.length a : Nat) : Int) - ((List.length b : Nat) : Int)) ≤ 9223372036854775807)] ?_ ?_)
  ·
   refine ⟨?_, trivial⟩
   ·
    omega
  exact AW.ret (AW.retE (β := Int) (fun v => [⟨(.int .i64), v⟩]) (fun v => []) (v := (((List.length a : Nat) : Int) - ((List.length b : Nat) : Int))) e45 (by kernel_rfl) rfl rfl)

end
end Go.Proofs.Ytjcjpeckfikfkaa
