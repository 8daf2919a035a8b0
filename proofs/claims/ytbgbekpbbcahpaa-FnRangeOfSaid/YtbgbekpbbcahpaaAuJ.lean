/-
  A part of the proof of this claim (AuJ): what functions of the program compute, and plain facts of that. No conditions.
-/
import Derived.Test.YtbgbekpbbcahpaaAuI
set_option linter.all false
namespace Go.Proofs.Ytbgbekpbbcahpaa
open Go Go.Am
noncomputable section

def isNaN (x : Int) : Bool := (x != x)

def isNaN_sp : FnSpec := mkSpec [.val (.int .i64)] [.val .bool] (fun (x : Int) => True) (fun (x : Int) => [⟨.bool, (isNaN x)⟩])

theorem isNaN_ok : FnOK Try.prog 66 isNaN_sp := by
 have hC : CtxOK Try.prog (mkCtx tyL []) := CtxOK.nil tyOK
 refine FnOK.of_body Try.func66 (by kernel_rfl) rfl (C := (mkCtx tyL [])) hC.ty (by kernel_rfl) ?_
 intro (x : Int) hwf hpre E
 have hpre : True := hpre
 have hw_x : Wf ⟨(.int .i64), (x : Int)⟩ := hwf _ (List.Mem.head _)
 have hr_x : -9223372036854775808 ≤ x ∧ x ≤ 9223372036854775807 := hw_x.int_inv
 have e0 : isNaN x = isNaN x := rfl
 refine AW.seq (AW.r1 hC [0] [] ⟨[(0, sI x)], []⟩ ?_)
 refine AW.seq (AW.r1 hC [2] [] ⟨[(2, sB (x != x))], []⟩ ?_)
 exact AW.ret (AW.rB (x != x) e0)

def compareInt (x : Int) (y : Int) : Int := (bif (isNaN x) then (bif (isNaN y) then 0 else (-1)) else (bif (isNaN y) then 1 else (bif (decide (x < y)) then (-1) else (bif (decide (y < x)) then 1 else 0))))

def compareInt_sp : FnSpec := mkSpec [.val (.int .i64), .val (.int .i64)] [.val (.int .i64)] (fun (x : Int) (y : Int) => True) (fun (x : Int) (y : Int) => [⟨(.int .i64), (compareInt x y)⟩])

theorem compareInt_ok : FnOK Try.prog 59 compareInt_sp := by
 have hC : CtxOK Try.prog (mkCtx tyL [(66, isNaN_sp)]) := CtxOK.cons isNaN_ok (CtxOK.nil tyOK)
 refine FnOK.of_body Try.func59 (by kernel_rfl) rfl (C := (mkCtx tyL [(66, isNaN_sp)])) hC.ty (by kernel_rfl) ?_
 intro (x : Int) (y : Int) hwf hpre E
 have hpre : True := hpre
 have hw_x : Wf ⟨(.int .i64), (x : Int)⟩ := hwf _ (List.Mem.head _)
 have hr_x : -9223372036854775808 ≤ x ∧ x ≤ 9223372036854775807 := hw_x.int_inv
 have hw_y : Wf ⟨(.int .i64), (y : Int)⟩ := hwf _ (List.Mem.tail _ (List.Mem.head _))
 have hr_y : -9223372036854775808 ≤ y ∧ y ≤ 9223372036854775807 := hw_y.int_inv
 have e0 : compareInt x y = compareInt x y := rfl
 refine AW.seq (AW.r1 hC [0, 1] [] ⟨[(0, sI x), (1, sI y)], []⟩ ?_)
 refine AW.seq (AW.r0 hC [0, 1, 5] [] ⟨[(0, sI x), (1, sI y), (5, sB (isNaN x))], []⟩ [(True)] ?_ ?_)
 ·
  refine ⟨?_, trivial⟩
  ·
   trivial
 refine AW.seq (AW.r0 hC [0, 1, 5, 6] [] ⟨[(0, sI x), (1, sI y), (5, sB (isNaN x)), (6, sB (isNaN y))], []⟩ [(True)] ?_ ?_)
 ·
  refine ⟨?_, trivial⟩
  ·
   trivial
 refine AW.seq (AW.seq (AW.r1 hC [0, 1, 6, 11] [] ⟨[(0, sI x), (1, sI y), (6, sB (isNaN y)), (11, sB (isNaN x))], []⟩ ?_))
 refine AW.cd (isNaN x) ?_ ?_
 ·
  intro h1
  have h1q : (isNaN x) = true := h1
  have e2 := e0.trans (Go.Am.bif_t h1)
  refine AW.seq (AW.seq (AW.r1 hC [12] [] ⟨[(12, sB (isNaN y))], []⟩ ?_))
  refine AW.cd (isNaN y) ?_ ?_
  ·
   intro h3
   have h3q : (isNaN y) = true := h3
   have e4 := e2.trans (Go.Am.bif_t h3)
   refine AW.seq (AW.r1 hC [4] [] ⟨[(4, sI 0)], []⟩ ?_)
   exact AW.ret (AW.rI 0 e4)
  ·
   intro h5
   have h5q : (isNaN y) = false := h5
   have e6 := e2.trans (Go.Am.bif_f h5)
   refine AW.kp [] [] ⟨[], []⟩ ?_
   refine AW.skip (AW.seq (AW.r1 hC [4] [] ⟨[(4, sI (-1))], []⟩ ?_))
   exact AW.ret (AW.rI (-1) e6)
 ·
  intro h7
  have h7q : (isNaN x) = false := h7
  have e8 := e0.trans (Go.Am.bif_f h7)
  refine AW.kp [0, 1, 6] [] ⟨[(0, sI x), (1, sI y), (6, sB (isNaN y))], []⟩ ?_
  refine AW.skip (AW.seq (AW.seq (AW.r1 hC [0, 1, 13] [] ⟨[(0, sI x), (1, sI y), (13, sB (isNaN y))], []⟩ ?_)))
  refine AW.cd (isNaN y) ?_ ?_
  ·
   intro h9
   have h9q : (isNaN y) = true := h9
   have e10 := e8.trans (Go.Am.bif_t h9)
   refine AW.seq (AW.r1 hC [4] [] ⟨[(4, sI 1)], []⟩ ?_)
   exact AW.ret (AW.rI 1 e10)
  ·
   intro h11
   have h11q : (isNaN y) = false := h11
   have e12 := e8.trans (Go.Am.bif_f h11)
   refine AW.kp [0, 1] [] ⟨[(0, sI x), (1, sI y)], []⟩ ?_
   refine AW.skip (AW.seq (AW.seq (AW.r1 hC [0, 1, 16] [] ⟨[(0, sI x), (1, sI y), (16, sB (decide (x < y)))], []⟩ ?_)))
   refine AW.cd (decide (x < y)) ?_ ?_
   ·
    intro h13
    have h13q := (of_decide_eq_true h13)
    have e14 := e12.trans (Go.Am.bif_t h13)
    refine AW.seq (AW.r1 hC [4] [] ⟨[(4, sI (-1))], []⟩ ?_)
    exact AW.ret (AW.rI (-1) e14)
   ·
    intro h15
    have h15q := (of_decide_eq_false h15)
    have e16 := e12.trans (Go.Am.bif_f h15)
    refine AW.kp [0, 1] [] ⟨[(0, sI x), (1, sI y)], []⟩ ?_
    refine AW.skip (AW.seq (AW.seq (AW.r1 hC [19] [] ⟨[(19, sB (decide (y < x)))], []⟩ ?_)))
    refine AW.cd (decide (y < x)) ?_ ?_
    ·
     intro h17
     have h17q := (of_decide_eq_true h17)
     have e18 := e16.trans (Go.Am.bif_t h17)
     refine AW.seq (AW.r1 hC [4] [] ⟨[(4, sI 1)], []⟩ ?_)
     exact AW.ret (AW.rI 1 e18)
    ·
     intro h19
     have h19q := (of_decide_eq_false h19)
     have e20 := e16.trans (Go.Am.bif_f h19)
     refine AW.kp [] [] ⟨[], []⟩ ?_
     refine AW.skip (AW.seq (AW.r1 hC [4] [] ⟨[(4, sI 0)], []⟩ ?_))
     exact AW.ret (AW.rI 0 e20)

def valCompare (v : Val) (w : Val) : Int := (bif (bif (Val.Null v) then (Val.Null w) else false) then 0 else (bif (Val.Null v) then (-1) else (bif (Val.Null w) then 1 else (compareInt (Val.N v) (Val.N w)))))

def valCompare_sp : FnSpec := mkSpec [.val (.named 0), .val (.named 0)] [.val (.int .i64)] (fun (v : Val) (w : Val) => True) (fun (v : Val) (w : Val) => [⟨(.int .i64), (valCompare v w)⟩])

theorem valCompare_ok : FnOK Try.prog 49 valCompare_sp := by
 have hC : CtxOK Try.prog (mkCtx tyL [(59, compareInt_sp)]) := CtxOK.cons compareInt_ok (CtxOK.nil tyOK)
 refine FnOK.of_body Try.func49 (by kernel_rfl) rfl (C := (mkCtx tyL [(59, compareInt_sp)])) hC.ty (by kernel_rfl) ?_
 intro (v : Val) (w : Val) hwf hpre E
 have hpre : True := hpre
 have hw_v : Wf ⟨(.named 0), (v : Val)⟩ := hwf _ (List.Mem.head _)
 have hr_v_N := Val.wfl hw_v
 have hw_w : Wf ⟨(.named 0), (w : Val)⟩ := hwf _ (List.Mem.tail _ (List.Mem.head _))
 have hr_w_N := Val.wfl hw_w
 have e0 : valCompare v w = valCompare v w := rfl
 refine AW.seq (AW.r1 hC [2, 3] [8, 12] ⟨[(2, .ref 8 1 0), (3, .ref 12 1 0)], [(8, .box 1 [sB (Val.Null v), sI (Val.N v)]), (12, .box 1 [sB (Val.Null w), sI (Val.N w)])]⟩ ?_)
 refine AW.seq (AW.block (AW.seq (AW.r0 hC [2, 3, 5] [8, 12] ⟨[(2, .ref 8 1 0), (3, .ref 12 1 0), (5, sB (bif (Val.Null v) then (Val.Null w) else false))], [(8, .box 1 [sB (Val.Null v), sI (Val.N v)]), (12, .box 1 [sB (Val.Null w), sI (Val.N w)])]⟩ [(((Val.Null v) = true) → (((Val.Null v) = true))), (((Val.Null v) = true) → (((Val.Null v) = true)))] ?_ ?_)))
 ·
  refine ⟨?_, ?_, trivial⟩
  ·
   intro g1
   have g1p0 : (Val.Null v) = true := g1
   assumption
  ·
   intro g2
   have g2p0 : (Val.Null v) = true := g2
   assumption
 refine AW.cd (bif (Val.Null v) then (Val.Null w) else false) ?_ ?_
 ·
  intro h3
  have h3q : ((Val.Null v) = true) ∧ ((Val.Null w) = true) := (And.imp (fun h => h) (fun h => h) (Go.Am.and_pos h3))
  have e4 := e0.trans (Go.Am.bif_t h3)
  refine AW.seq (AW.r1 hC [4] [] ⟨[(4, sI 0)], []⟩ ?_)
  exact AW.ret (AW.rI 0 e4)
 ·
  intro h5
  have h5q : ((Val.Null v) = false) ∨ ((Val.Null w) = false) := (Or.imp (fun h => h) (fun h => h) (Go.Am.and_neg h5))
  have e6 := e0.trans (Go.Am.bif_f h5)
  refine AW.seq (AW.r1 hC [2, 3, 12] [8, 12] ⟨[(2, .ref 8 1 0), (3, .ref 12 1 0), (12, sB (Val.Null v))], [(8, .box 1 [sB (Val.Null v), sI (Val.N v)]), (12, .box 1 [sB (Val.Null w), sI (Val.N w)])]⟩ ?_)
  refine AW.cd (Val.Null v) ?_ ?_
  ·
   intro h7
   have h7q : (Val.Null v) = true := h7
   have e8 := e6.trans (Go.Am.bif_t h7)
   refine AW.seq (AW.r1 hC [4] [] ⟨[(4, sI (-1))], []⟩ ?_)
   exact AW.ret (AW.rI (-1) e8)
  ·
   intro h9
   have h9q : (Val.Null v) = false := h9
   have e10 := e6.trans (Go.Am.bif_f h9)
   refine AW.seq (AW.r1 hC [2, 3, 15] [8, 12] ⟨[(2, .ref 8 1 0), (3, .ref 12 1 0), (15, sB (Val.Null w))], [(8, .box 1 [sB (Val.Null v), sI (Val.N v)]), (12, .box 1 [sB (Val.Null w), sI (Val.N w)])]⟩ ?_)
   refine AW.cd (Val.Null w) ?_ ?_
   ·
    intro h11
    have h11q : (Val.Null w) = true := h11
    have e12 := e10.trans (Go.Am.bif_t h11)
    refine AW.seq (AW.r1 hC [4] [] ⟨[(4, sI 1)], []⟩ ?_)
    exact AW.ret (AW.rI 1 e12)
   ·
    intro h13
    have h13q : (Val.Null w) = false := h13
    have e14 := e10.trans (Go.Am.bif_f h13)
    refine AW.kp [2, 3] [8, 12] ⟨[(2, .ref 8 1 0), (3, .ref 12 1 0)], [(8, .box 1 [sB (Val.Null v), sI (Val.N v)]), (12, .box 1 [sB (Val.Null w), sI (Val.N w)])]⟩ ?_
    refine AW.skip (AW.seq (AW.r0 hC [4] [] ⟨[(4, sI (compareInt (Val.N v) (Val.N w)))], []⟩ [(True)] ?_ ?_))
    ·
     refine ⟨?_, trivial⟩
     ·
      trivial
    exact AW.ret (AW.rI (compareInt (Val.N v) (Val.N w)) e14)

def icompareRows_l0 (a : List Val) (b : List Val) : Nat → Nat → Unit ⊕ Int
 | 0, v13 => .inl ()
 | k + 1, v13 => (bif (decide (((v13 : Nat) : Int) < ((List.length a : Nat) : Int))) then (bif (decide (((List.length b : Nat) : Int) ≤ ((v13 : Nat) : Int))) then (.inr 1) else (bif ((valCompare (List.getD a v13 Val.zero) (List.getD b v13 Val.zero)) != 0) then (.inr (valCompare (List.getD a v13 Val.zero) (List.getD b v13 Val.zero))) else (icompareRows_l0 a b k (v13 + 1)))) else (.inl ()))

def icompareRows_c0 (a : List Val) (b : List Val) : Int :=
 (Sum.elim (fun _ => (bif (decide (((List.length a : Nat) : Int) < ((List.length b : Nat) : Int))) then (-1) else 0)) (fun r => r) (icompareRows_l0 a b ((List.length a) - 0 + 1) 0))

def icompareRows (a : List Val) (b : List Val) : Int := (Go.Am.andThen (icompareRows_c0 a b) (fun z => (fun (v7 : Int) => v7) z))

def icompareRows_sp : FnSpec := mkSpec [.val (.slice (.named 0)), .val (.slice (.named 0))] [.val (.int .i64)] (fun (a : List Val) (b : List Val) => True) (fun (a : List Val) (b : List Val) => [⟨(.int .i64), (icompareRows a b)⟩])

theorem icompareRows_ok : FnOK Try.prog 36 icompareRows_sp := by
 have hC : CtxOK Try.prog (mkCtx tyL [(49, valCompare_sp)]) := CtxOK.cons valCompare_ok (CtxOK.nil tyOK)
 have hC1 := hC.rebase 1000
 refine FnOK.of_body Try.func36 (by kernel_rfl) rfl (C := (mkCtx tyL [(49, valCompare_sp)])) hC.ty (by kernel_rfl) ?_
 intro (a : List Val) (b : List Val) hwf hpre E
 have hpre : True := hpre
 have hw_a : Wf ⟨(.slice (.named 0)), (a : List Val)⟩ := hwf _ (List.Mem.head _)
 have hl_a : ((List.length a : Nat) : Int) ≤ 9223372036854775807 := hw_a.len
 have hw_b : Wf ⟨(.slice (.named 0)), (b : List Val)⟩ := hwf _ (List.Mem.tail _ (List.Mem.head _))
 have hl_b : ((List.length b : Nat) : Int) ≤ 9223372036854775807 := hw_b.len
 have e0 : icompareRows a b = icompareRows a b := rfl
 refine AW.seq (AW.r1 hC [0, 1] [] ⟨[(0, sD10 a), (1, sD10 b)], []⟩ ?_)
 refine AW.seq (AW.regionO [0, 1, 2, 3] (by rfl) ?_)
 refine AWO.run hC false [] [0, 1] [2, 3] [5, 6] []
  ⟨[(5, sD10 a), (6, sD10 b)], []⟩
  [] (by rfl) (by kernel_rfl) ?_ ?_
 ·
  exact trivial
 refine AWO.callJ hC.ty [7] [] (α := Int) (fun x => ⟨[(7, sI x)], []⟩) (fun x => (True) ∧ (icompareRows_c0 a b) = x) (vs := [sD10 a, sD10 b, .clo 49 []]) (caps := []) (by rfl) rfl (.inl rfl) (by decide) (by kernel_rfl) (by kernel_rfl) Try.func48 (by kernel_rfl) rfl (by kernel_rfl) ?_ ?_
 ·
  intro o1
  have e123 : (icompareRows_c0 a b) = (icompareRows_c0 a b) := rfl
  refine AW.kp [0, 1, 2] [] ⟨[(0, sD10 a), (1, sD10 b), (2, .clo 49 [])], []⟩ ?_
  refine AW.seq (AW.r1 hC1 [0, 1, 2] [] ⟨[(0, sD10 a), (1, sD10 b), (2, .clo 49 [])], []⟩ ?_)
  refine AW.seq (AW.seq (AW.r1 hC1 [0, 1, 2, 11, 12, 13] [] ⟨[(0, sD10 a), (1, sD10 b), (2, .clo 49 []), (11, sD10 a), (12, sI ((List.length a : Nat) : Int)), (13, sI 0)], []⟩ ?_))
  refine AW.cutQ (α := Unit) (fun x => ⟨[(0, sD10 a), (1, sD10 b)], []⟩) (fun x => (True) ∧ (icompareRows_l0 a b ((List.length a) - 0 + 1) 0) = (.inl ())) ?_ ?_
  ·
   skip
   refine AW.block (AW.loop (α := Nat) (fun x => ⟨[(0, sD10 a), (1, sD10 b), (2, .clo 49 []), (11, sD10 a), (12, sI ((List.length a : Nat) : Int)), (13, sI ((x : Nat) : Int))], []⟩) (fun x => (True) ∧ ∃ k, (List.length a) - x < k ∧ (icompareRows_l0 a b ((List.length a) - 0 + 1) 0) = icompareRows_l0 a b k x) (fun x => (List.length a) - x) 0 (by kernel_rfl) ⟨?_, _, Nat.lt_succ_self _, rfl⟩ ?_)
   ·
    show True
    exact trivial
   ·
    intro v13 hR
    obtain ⟨hI0, k168, hk166, e167⟩ := hR
    replace hI0 : True := hI0
    replace hk166 : (List.length a) - v13 < k168 := hk166
    obtain ⟨k168q, rfl⟩ : ∃ k, k168 = k + 1 := ⟨k168 - 1, by omega⟩
    refine AW.seq (AW.r1 hC1 [0, 1, 2, 11, 12, 13, 14] [] ⟨[(0, sD10 a), (1, sD10 b), (2, .clo 49 []), (11, sD10 a), (12, sI ((List.length a : Nat) : Int)), (13, sI ((v13 : Nat) : Int)), (14, sB (decide (((v13 : Nat) : Int) < ((List.length a : Nat) : Int))))], []⟩ ?_)
    refine AW.seq (AW.cd (decide (((v13 : Nat) : Int) < ((List.length a : Nat) : Int))) ?_ ?_)
    ·
     intro h169
     have h169q := (of_decide_eq_true h169)
     have e170 := e167.trans (Go.Am.bif_t h169)
     refine AW.kp [0, 1, 2, 11, 12, 13] [] ⟨[(0, sD10 a), (1, sD10 b), (2, .clo 49 []), (11, sD10 a), (12, sI ((List.length a : Nat) : Int)), (13, sI ((v13 : Nat) : Int))], []⟩ ?_
     refine AW.skip (AW.seq (AW.block (AW.seq (AW.r0 hC1 [0, 1, 2, 7, 8, 11, 12, 13] [4032] ⟨[(0, sD10 a), (1, sD10 b), (2, .clo 49 []), (7, sI ((v13 : Nat) : Int)), (8, .ref 4032 1 0), (11, sD10 a), (12, sI ((List.length a : Nat) : Int)), (13, sI ((v13 : Nat) : Int))], [(4032, .box 1 [sB (Val.Null (List.getD a v13 Val.zero)), sI (Val.N (List.getD a v13 Val.zero))])]⟩ [IX ((v13 : Nat) : Int) ((List.length a : Nat) : Int)] ?_ ?_))))
     ·
      refine ⟨?_, trivial⟩
      ·
       refine IX.of ?_
       omega
     refine AW.seq (AW.seq (AW.r1 hC1 [0, 1, 2, 7, 8, 11, 12, 13, 21] [4032] ⟨[(0, sD10 a), (1, sD10 b), (2, .clo 49 []), (7, sI ((v13 : Nat) : Int)), (8, .ref 4032 1 0), (11, sD10 a), (12, sI ((List.length a : Nat) : Int)), (13, sI ((v13 : Nat) : Int)), (21, sB (decide (((List.length b : Nat) : Int) ≤ ((v13 : Nat) : Int))))], [(4032, .box 1 [sB (Val.Null (List.getD a v13 Val.zero)), sI (Val.N (List.getD a v13 Val.zero))])]⟩ ?_))
     refine AW.cd (decide (((List.length b : Nat) : Int) ≤ ((v13 : Nat) : Int))) ?_ ?_
     ·
      intro h171
      have h171q := (of_decide_eq_true h171)
      have e172 := e170.trans (Go.Am.bif_t h171)
      refine AW.seq (AW.r1 hC1 [6] [] ⟨[(6, sI 1)], []⟩ ?_)
      refine AW.ret ?_
      have e173 := e123.trans (Go.Am.elim_r e172)
      refine ⟨1, [sI 1], by kernel_rfl, by kernel_rfl, ?_, e173⟩
      show True
      exact trivial
     ·
      intro h174
      have h174q := (of_decide_eq_false h174)
      have e175 := e170.trans (Go.Am.bif_f h174)
      refine AW.kp [0, 1, 2, 7, 8, 11, 12, 13] [4032] ⟨[(0, sD10 a), (1, sD10 b), (2, .clo 49 []), (7, sI ((v13 : Nat) : Int)), (8, .ref 4032 1 0), (11, sD10 a), (12, sI ((List.length a : Nat) : Int)), (13, sI ((v13 : Nat) : Int))], [(4032, .box 1 [sB (Val.Null (List.getD a v13 Val.zero)), sI (Val.N (List.getD a v13 Val.zero))])]⟩ ?_
      refine AW.skip (AW.seq (AW.r0 hC1 [0, 1, 2, 8, 9, 11, 12, 13] [4032, 4036] ⟨[(0, sD10 a), (1, sD10 b), (2, .clo 49 []), (8, .ref 4032 1 0), (9, .ref 4036 1 0), (11, sD10 a), (12, sI ((List.length a : Nat) : Int)), (13, sI ((v13 : Nat) : Int))], [(4032, .box 1 [sB (Val.Null (List.getD a v13 Val.zero)), sI (Val.N (List.getD a v13 Val.zero))]), (4036, .box 1 [sB (Val.Null (List.getD b v13 Val.zero)), sI (Val.N (List.getD b v13 Val.zero))])]⟩ [IX ((v13 : Nat) : Int) ((List.length b : Nat) : Int)] ?_ ?_))
      ·
       refine ⟨?_, trivial⟩
       ·
        refine IX.of ?_
        omega
      refine AW.seq (AW.r0 hC1 [0, 1, 2, 10, 11, 12, 13] [] ⟨[(0, sD10 a), (1, sD10 b), (2, .clo 49 []), (10, sI (valCompare (List.getD a v13 Val.zero) (List.getD b v13 Val.zero))), (11, sD10 a), (12, sI ((List.length a : Nat) : Int)), (13, sI ((v13 : Nat) : Int))], []⟩ [(True)] ?_ ?_)
      ·
       refine ⟨?_, trivial⟩
       ·
        trivial
      refine AW.seq (AW.r1 hC1 [0, 1, 2, 10, 11, 12, 13, 31] [] ⟨[(0, sD10 a), (1, sD10 b), (2, .clo 49 []), (10, sI (valCompare (List.getD a v13 Val.zero) (List.getD b v13 Val.zero))), (11, sD10 a), (12, sI ((List.length a : Nat) : Int)), (13, sI ((v13 : Nat) : Int)), (31, sB ((valCompare (List.getD a v13 Val.zero) (List.getD b v13 Val.zero)) != 0))], []⟩ ?_)
      refine AW.cd ((valCompare (List.getD a v13 Val.zero) (List.getD b v13 Val.zero)) != 0) ?_ ?_
      ·
       intro h176
       have h176q := (Go.Am.bne_pos h176)
       have e177 := e175.trans (Go.Am.bif_t h176)
       refine AW.seq (AW.r1 hC1 [6] [] ⟨[(6, sI (valCompare (List.getD a v13 Val.zero) (List.getD b v13 Val.zero)))], []⟩ ?_)
       refine AW.ret ?_
       have e178 := e123.trans (Go.Am.elim_r e177)
       refine ⟨(valCompare (List.getD a v13 Val.zero) (List.getD b v13 Val.zero)), [sI (valCompare (List.getD a v13 Val.zero) (List.getD b v13 Val.zero))], by kernel_rfl, by kernel_rfl, ?_, e178⟩
       show True
       exact trivial
      ·
       intro h179
       have h179q := (Go.Am.bne_neg h179)
       have e180 := e175.trans (Go.Am.bif_f h179)
       refine AW.kp [0, 1, 2, 11, 12, 13] [] ⟨[(0, sD10 a), (1, sD10 b), (2, .clo 49 []), (11, sD10 a), (12, sI ((List.length a : Nat) : Int)), (13, sI ((v13 : Nat) : Int))], []⟩ ?_
       refine AW.skip (AW.r0 hC1 [0, 1, 2, 11, 12, 13] [] ⟨[(0, sD10 a), (1, sD10 b), (2, .clo 49 []), (11, sD10 a), (12, sI ((List.length a : Nat) : Int)), (13, sI ((v13 + 1 : Nat) : Int))], []⟩ [R64 ((v13 + 1 : Nat) : Int)] ?_ ?_)
       ·
        refine ⟨?_, trivial⟩
        ·
         refine R64.of ?_
         omega
       refine AW.back (x := v13) (v13 + 1) (by kernel_rfl) ⟨?_, k168q, ?_, e180⟩ ?_
       ·
        show True
        assumption
       ·
        show (List.length a) - (v13 + 1) < k168q
        omega
       ·
        show (List.length a) - (v13 + 1) < (List.length a) - v13
        omega
    ·
     intro h181
     have h181q := (of_decide_eq_false h181)
     have e182 := e167.trans (Go.Am.bif_f h181)
     refine AW.kp [0, 1] [] ⟨[(0, sD10 a), (1, sD10 b)], []⟩ ?_
     refine AW.exit ?_
     refine AW.meet () (by kernel_rfl) ⟨?_, e182⟩
     show True
     assumption
  ·
   intro x hR
   obtain ⟨hJ0, e183⟩ := hR
   replace hJ0 : True := hJ0
   have e184 := e123.trans (Go.Am.elim_l e183)
   refine AW.seq (AW.seq (AW.r1 hC1 [38] [] ⟨[(38, sB (decide (((List.length a : Nat) : Int) < ((List.length b : Nat) : Int))))], []⟩ ?_))
   refine AW.cd (decide (((List.length a : Nat) : Int) < ((List.length b : Nat) : Int))) ?_ ?_
   ·
    intro h185
    have h185q := (of_decide_eq_true h185)
    have e186 := e184.trans (Go.Am.bif_t h185)
    refine AW.seq (AW.r1 hC1 [6] [] ⟨[(6, sI (-1))], []⟩ ?_)
    refine AW.ret ?_
    refine ⟨(-1), [sI (-1)], by kernel_rfl, by kernel_rfl, ?_, e186⟩
    show True
    exact trivial
   ·
    intro h187
    have h187q := (of_decide_eq_false h187)
    have e188 := e184.trans (Go.Am.bif_f h187)
    refine AW.kp [] [] ⟨[], []⟩ ?_
    refine AW.skip (AW.seq (AW.r1 hC1 [6] [] ⟨[(6, sI 0)], []⟩ ?_))
    refine AW.ret ?_
    refine ⟨0, [sI 0], by kernel_rfl, by kernel_rfl, ?_, e188⟩
    show True
    exact trivial
 ·
  intro v7 hR
  obtain ⟨hK0, e189⟩ := hR
  replace hK0 : True := hK0
  have e190 := e0.trans (Go.Am.then_eq e189)
  refine AWO.run hC false [] [3] [] [4] []
   ⟨[(4, sI v7)], []⟩
   [] (by rfl) (by kernel_rfl) ?_ ?_
  ·
   exact trivial
  refine AWO.nil ?_
  exact AW.ret (AW.rI v7 e190)

def ValidTable_l0 (t : Tab) : Nat → Nat → Unit ⊕ Bool
 | 0, v18 => .inl ()
 | k + 1, v18 => (bif (decide (((v18 : Nat) : Int) < ((List.length (Tab.Rows t) : Nat) : Int))) then (bif (bif (((List.length (List.getD (Tab.Rows t) v18 []) : Nat) : Int) != (Tab.Width t)) then true else (!(validRow (List.getD (Tab.Rows t) v18 [])))) then (.inr false) else (bif (bif (decide (0 < ((v18 : Nat) : Int))) then (decide (0 < (icompareRows (List.getD (Tab.Rows t) (Int.toNat (((v18 : Nat) : Int) - 1)) []) (List.getD (Tab.Rows t) v18 [])))) else false) then (.inr false) else (ValidTable_l0 t k (v18 + 1)))) else (.inl ()))

def ValidTable (t : Tab) : Bool := (bif (bif (!(validWidth (Tab.Width t))) then true else (decide (400 < ((List.length (Tab.Rows t) : Nat) : Int)))) then false else (Sum.elim (fun _ => true) (fun r => r) (ValidTable_l0 t ((List.length (Tab.Rows t)) - 0 + 1) 0)))

def ValidTable_sp : FnSpec := mkSpec [.val (.named 3)] [.val .bool] (fun (t : Tab) => True) (fun (t : Tab) => [⟨.bool, (ValidTable t)⟩])

theorem ValidTable_ok : FnOK Try.prog 12 ValidTable_sp := by
 have hC : CtxOK Try.prog (mkCtx tyL [(34, validWidth_sp), (35, validRow_sp), (36, icompareRows_sp)]) := CtxOK.cons validWidth_ok (CtxOK.cons validRow_ok (CtxOK.cons icompareRows_ok (CtxOK.nil tyOK)))
 refine FnOK.of_body Try.func12 (by kernel_rfl) rfl (C := (mkCtx tyL [(34, validWidth_sp), (35, validRow_sp), (36, icompareRows_sp)])) hC.ty (by kernel_rfl) ?_
 intro (t : Tab) hwf hpre E
 have hpre : True := hpre
 have hw_t : Wf ⟨(.named 3), (t : Tab)⟩ := hwf _ (List.Mem.head _)
 obtain ⟨hr_t_Width, hl_t_Rows⟩ := Tab.wfl hw_t
 have e0 : ValidTable t = ValidTable t := rfl
 refine AW.seq (AW.r1 hC [1] [4] ⟨[(1, .ref 4 1 0)], [(4, .box 1 [sI (Tab.Width t), sD12 (Tab.Rows t)])]⟩ ?_)
 refine AW.seq (AW.seq (AW.r0 hC [1, 14] [4] ⟨[(1, .ref 4 1 0), (14, sB (bif (!(validWidth (Tab.Width t))) then true else (decide (400 < ((List.length (Tab.Rows t) : Nat) : Int)))))], [(4, .box 1 [sI (Tab.Width t), sD12 (Tab.Rows t)])]⟩ [(True), (((!(validWidth (Tab.Width t))) = false) → (((!(validWidth (Tab.Width t))) = false))), (((!(validWidth (Tab.Width t))) = false) → (((!(validWidth (Tab.Width t))) = false))), (((!(validWidth (Tab.Width t))) = false) → (((!(validWidth (Tab.Width t))) = false))), (((!(validWidth (Tab.Width t))) = false) → (((!(validWidth (Tab.Width t))) = false)))] ?_ ?_))
 ·
  refine ⟨?_, ?_, ?_, ?_, ?_, trivial⟩
  ·
   trivial
  ·
   intro g1
   have g1p0 : (validWidth (Tab.Width t)) = true := (Go.Am.not_neg g1)
   assumption
  ·
   intro g2
   have g2p0 : (validWidth (Tab.Width t)) = true := (Go.Am.not_neg g2)
   assumption
  ·
   intro g3
   have g3p0 : (validWidth (Tab.Width t)) = true := (Go.Am.not_neg g3)
   assumption
  ·
   intro g4
   have g4p0 : (validWidth (Tab.Width t)) = true := (Go.Am.not_neg g4)
   assumption
 refine AW.cd (bif (!(validWidth (Tab.Width t))) then true else (decide (400 < ((List.length (Tab.Rows t) : Nat) : Int)))) ?_ ?_
 ·
  intro h5
  have h5q : ((validWidth (Tab.Width t)) = false) ∨ (400 < ((List.length (Tab.Rows t) : Nat) : Int)) := (Or.imp (fun h => (Go.Am.not_pos h)) (fun h => (of_decide_eq_true h)) (Go.Am.or_pos h5))
  have e6 := e0.trans (Go.Am.bif_t h5)
  refine AW.seq (AW.r1 hC [2] [] ⟨[(2, sB false)], []⟩ ?_)
  exact AW.ret (AW.rB false e6)
 ·
  intro h7
  have h7q : ((validWidth (Tab.Width t)) = true) ∧ (¬ (400 < ((List.length (Tab.Rows t) : Nat) : Int))) := (And.imp (fun h => (Go.Am.not_neg h)) (fun h => (of_decide_eq_false h)) (Go.Am.or_neg h7))
  have e8 := e0.trans (Go.Am.bif_f h7)
  refine AW.kp [1] [4] ⟨[(1, .ref 4 1 0)], [(4, .box 1 [sI (Tab.Width t), sD12 (Tab.Rows t)])]⟩ ?_
  refine AW.skip (AW.seq (AW.seq (AW.r1 hC [1, 16, 17, 18] [4] ⟨[(1, .ref 4 1 0), (16, sD12 (Tab.Rows t)), (17, sI ((List.length (Tab.Rows t) : Nat) : Int)), (18, sI 0)], [(4, .box 1 [sI (Tab.Width t), sD12 (Tab.Rows t)])]⟩ ?_)))
  refine AW.cutQ (α := Unit) (fun x => ⟨[], []⟩) (fun x => (True) ∧ (ValidTable_l0 t ((List.length (Tab.Rows t)) - 0 + 1) 0) = (.inl ())) ?_ ?_
  ·
   skip
   refine AW.block (AW.loop (α := Nat) (fun x => ⟨[(1, .ref 4 1 0), (16, sD12 (Tab.Rows t)), (17, sI ((List.length (Tab.Rows t) : Nat) : Int)), (18, sI ((x : Nat) : Int))], [(4, .box 1 [sI (Tab.Width t), sD12 (Tab.Rows t)])]⟩) (fun x => (True) ∧ ∃ k, (List.length (Tab.Rows t)) - x < k ∧ (ValidTable_l0 t ((List.length (Tab.Rows t)) - 0 + 1) 0) = ValidTable_l0 t k x) (fun x => (List.length (Tab.Rows t)) - x) 0 (by kernel_rfl) ⟨?_, _, Nat.lt_succ_self _, rfl⟩ ?_)
   ·
    show True
    exact trivial
   ·
    intro v18 hR
    obtain ⟨hI0, k53, hk51, e52⟩ := hR
    replace hI0 : True := hI0
    replace hk51 : (List.length (Tab.Rows t)) - v18 < k53 := hk51
    obtain ⟨k53q, rfl⟩ : ∃ k, k53 = k + 1 := ⟨k53 - 1, by omega⟩
    refine AW.seq (AW.r1 hC [1, 16, 17, 18, 19] [4] ⟨[(1, .ref 4 1 0), (16, sD12 (Tab.Rows t)), (17, sI ((List.length (Tab.Rows t) : Nat) : Int)), (18, sI ((v18 : Nat) : Int)), (19, sB (decide (((v18 : Nat) : Int) < ((List.length (Tab.Rows t) : Nat) : Int))))], [(4, .box 1 [sI (Tab.Width t), sD12 (Tab.Rows t)])]⟩ ?_)
    refine AW.seq (AW.cd (decide (((v18 : Nat) : Int) < ((List.length (Tab.Rows t) : Nat) : Int))) ?_ ?_)
    ·
     intro h54
     have h54q := (of_decide_eq_true h54)
     have e55 := e52.trans (Go.Am.bif_t h54)
     refine AW.kp [1, 16, 17, 18] [4] ⟨[(1, .ref 4 1 0), (16, sD12 (Tab.Rows t)), (17, sI ((List.length (Tab.Rows t) : Nat) : Int)), (18, sI ((v18 : Nat) : Int))], [(4, .box 1 [sI (Tab.Width t), sD12 (Tab.Rows t)])]⟩ ?_
     refine AW.skip (AW.seq (AW.block (AW.seq (AW.r0 hC [1, 3, 4, 16, 17, 18] [4] ⟨[(1, .ref 4 1 0), (3, sI ((v18 : Nat) : Int)), (4, sD10 (List.getD (Tab.Rows t) v18 [])), (16, sD12 (Tab.Rows t)), (17, sI ((List.length (Tab.Rows t) : Nat) : Int)), (18, sI ((v18 : Nat) : Int))], [(4, .box 1 [sI (Tab.Width t), sD12 (Tab.Rows t)])]⟩ [IX ((v18 : Nat) : Int) ((List.length (Tab.Rows t) : Nat) : Int)] ?_ ?_))))
     ·
      refine ⟨?_, trivial⟩
      ·
       refine IX.of ?_
       omega
     refine AW.seq (AW.seq (AW.r0 hC [1, 3, 4, 16, 17, 18, 32] [4] ⟨[(1, .ref 4 1 0), (3, sI ((v18 : Nat) : Int)), (4, sD10 (List.getD (Tab.Rows t) v18 [])), (16, sD12 (Tab.Rows t)), (17, sI ((List.length (Tab.Rows t) : Nat) : Int)), (18, sI ((v18 : Nat) : Int)), (32, sB (bif (((List.length (List.getD (Tab.Rows t) v18 []) : Nat) : Int) != (Tab.Width t)) then true else (!(validRow (List.getD (Tab.Rows t) v18 [])))))], [(4, .box 1 [sI (Tab.Width t), sD12 (Tab.Rows t)])]⟩ [(((((List.length (List.getD (Tab.Rows t) v18 []) : Nat) : Int) != (Tab.Width t)) = false) → (((((List.length (List.getD (Tab.Rows t) v18 []) : Nat) : Int) != (Tab.Width t)) = false))), (((((List.length (List.getD (Tab.Rows t) v18 []) : Nat) : Int) != (Tab.Width t)) = false) → (True)), (((((List.length (List.getD (Tab.Rows t) v18 []) : Nat) : Int) != (Tab.Width t)) = false) → (((((List.length (List.getD (Tab.Rows t) v18 []) : Nat) : Int) != (Tab.Width t)) = false))), (((((List.length (List.getD (Tab.Rows t) v18 []) : Nat) : Int) != (Tab.Width t)) = false) → (((((List.length (List.getD (Tab.Rows t) v18 []) : Nat) : Int) != (Tab.Width t)) = false)))] ?_ ?_))
     ·
      refine ⟨?_, ?_, ?_, ?_, trivial⟩
      ·
       intro g56
       have g56p0 : ((List.length (List.getD (Tab.Rows t) v18 []) : Nat) : Int) = (Tab.Width t) := (Go.Am.bne_neg g56)
       assumption
      ·
       intro g57
       have g57p0 : ((List.length (List.getD (Tab.Rows t) v18 []) : Nat) : Int) = (Tab.Width t) := (Go.Am.bne_neg g57)
       trivial
      ·
       intro g58
       have g58p0 : ((List.length (List.getD (Tab.Rows t) v18 []) : Nat) : Int) = (Tab.Width t) := (Go.Am.bne_neg g58)
       assumption
      ·
       intro g59
       have g59p0 : ((List.length (List.getD (Tab.Rows t) v18 []) : Nat) : Int) = (Tab.Width t) := (Go.Am.bne_neg g59)
       assumption
     refine AW.cd (bif (((List.length (List.getD (Tab.Rows t) v18 []) : Nat) : Int) != (Tab.Width t)) then true else (!(validRow (List.getD (Tab.Rows t) v18 [])))) ?_ ?_
     ·
      intro h60
      have h60q : (((List.length (List.getD (Tab.Rows t) v18 []) : Nat) : Int) ≠ (Tab.Width t)) ∨ ((validRow (List.getD (Tab.Rows t) v18 [])) = false) := (Or.imp (fun h => (Go.Am.bne_pos h)) (fun h => (Go.Am.not_pos h)) (Go.Am.or_pos h60))
      have e61 := e55.trans (Go.Am.bif_t h60)
      refine AW.seq (AW.r1 hC [2] [] ⟨[(2, sB false)], []⟩ ?_)
      refine AW.ret ?_
      have e62 := e8.trans (Go.Am.elim_r e61)
      exact AW.rB false e62
     ·
      intro h63
      have h63q : (((List.length (List.getD (Tab.Rows t) v18 []) : Nat) : Int) = (Tab.Width t)) ∧ ((validRow (List.getD (Tab.Rows t) v18 [])) = true) := (And.imp (fun h => (Go.Am.bne_neg h)) (fun h => (Go.Am.not_neg h)) (Go.Am.or_neg h63))
      have e64 := e55.trans (Go.Am.bif_f h63)
      refine AW.kp [1, 3, 4, 16, 17, 18] [4] ⟨[(1, .ref 4 1 0), (3, sI ((v18 : Nat) : Int)), (4, sD10 (List.getD (Tab.Rows t) v18 [])), (16, sD12 (Tab.Rows t)), (17, sI ((List.length (Tab.Rows t) : Nat) : Int)), (18, sI ((v18 : Nat) : Int))], [(4, .box 1 [sI (Tab.Width t), sD12 (Tab.Rows t)])]⟩ ?_
      refine AW.skip (AW.seq (AW.r0 hC [1, 16, 17, 18, 45] [4] ⟨[(1, .ref 4 1 0), (16, sD12 (Tab.Rows t)), (17, sI ((List.length (Tab.Rows t) : Nat) : Int)), (18, sI ((v18 : Nat) : Int)), (45, sB (bif (decide (0 < ((v18 : Nat) : Int))) then (decide (0 < (icompareRows (List.getD (Tab.Rows t) (Int.toNat (((v18 : Nat) : Int) - 1)) []) (List.getD (Tab.Rows t) v18 [])))) else false))], [(4, .box 1 [sI (Tab.Width t), sD12 (Tab.Rows t)])]⟩ [(((decide (0 < ((v18 : Nat) : Int))) = true) → (((decide (0 < ((v18 : Nat) : Int))) = true))), (((decide (0 < ((v18 : Nat) : Int))) = true) → (((decide (0 < ((v18 : Nat) : Int))) = true))), (((decide (0 < ((v18 : Nat) : Int))) = true) → R64 (((v18 : Nat) : Int) - 1)), (((decide (0 < ((v18 : Nat) : Int))) = true) → (((decide (0 < ((v18 : Nat) : Int))) = true))), (((decide (0 < ((v18 : Nat) : Int))) = true) → (((decide (0 < ((v18 : Nat) : Int))) = true))), (((decide (0 < ((v18 : Nat) : Int))) = true) → IX (((v18 : Nat) : Int) - 1) ((List.length (Tab.Rows t) : Nat) : Int)), (((decide (0 < ((v18 : Nat) : Int))) = true) → (((decide (0 < ((v18 : Nat) : Int))) = true))), (((decide (0 < ((v18 : Nat) : Int))) = true) → (((decide (0 < ((v18 : Nat) : Int))) = true))), (((decide (0 < ((v18 : Nat) : Int))) = true) → (((decide (0 < ((v18 : Nat) : Int))) = true))), (((decide (0 < ((v18 : Nat) : Int))) = true) → (True)), (((decide (0 < ((v18 : Nat) : Int))) = true) → (((decide (0 < ((v18 : Nat) : Int))) = true))), (((decide (0 < ((v18 : Nat) : Int))) = true) → (((decide (0 < ((v18 : Nat) : Int))) = true)))] ?_ ?_))
      ·
       refine ⟨?_, ?_, ?_, ?_, ?_, ?_, ?_, ?_, ?_, ?_, ?_, ?_, trivial⟩
       ·
        intro g65
        have g65p0 : 0 < ((v18 : Nat) : Int) := (of_decide_eq_true g65)
        assumption
       ·
        intro g66
        have g66p0 : 0 < ((v18 : Nat) : Int) := (of_decide_eq_true g66)
        assumption
       ·
        intro g67
        have g67p0 : 0 < ((v18 : Nat) : Int) := (of_decide_eq_true g67)
        refine R64.of ?_
        omega
       ·
        intro g68
        have g68p0 : 0 < ((v18 : Nat) : Int) := (of_decide_eq_true g68)
        assumption
       ·
        intro g69
        have g69p0 : 0 < ((v18 : Nat) : Int) := (of_decide_eq_true g69)
        assumption
       ·
        intro g70
        have g70p0 : 0 < ((v18 : Nat) : Int) := (of_decide_eq_true g70)
        refine IX.of ?_
        omega
       ·
        intro g71
        have g71p0 : 0 < ((v18 : Nat) : Int) := (of_decide_eq_true g71)
        assumption
       ·
        intro g72
        have g72p0 : 0 < ((v18 : Nat) : Int) := (of_decide_eq_true g72)
        assumption
       ·
        intro g73
        have g73p0 : 0 < ((v18 : Nat) : Int) := (of_decide_eq_true g73)
        assumption
       ·
        intro g74
        have g74p0 : 0 < ((v18 : Nat) : Int) := (of_decide_eq_true g74)
        trivial
       ·
        intro g75
        have g75p0 : 0 < ((v18 : Nat) : Int) := (of_decide_eq_true g75)
        assumption
       ·
        intro g76
        have g76p0 : 0 < ((v18 : Nat) : Int) := (of_decide_eq_true g76)
        assumption
      refine AW.cd (bif (decide (0 < ((v18 : Nat) : Int))) then (decide (0 < (icompareRows (List.getD (Tab.Rows t) (Int.toNat (((v18 : Nat) : Int) - 1)) []) (List.getD (Tab.Rows t) v18 [])))) else false) ?_ ?_
      ·
       intro h77
       have h77q : (0 < ((v18 : Nat) : Int)) ∧ (0 < (icompareRows (List.getD (Tab.Rows t) (Int.toNat (((v18 : Nat) : Int) - 1)) []) (List.getD (Tab.Rows t) v18 []))) := (And.imp (fun h => (of_decide_eq_true h)) (fun h => (of_decide_eq_true h)) (Go.Am.and_pos h77))
       have e78 := e64.trans (Go.Am.bif_t h77)
       refine AW.seq (AW.r1 hC [2] [] ⟨[(2, sB false)], []⟩ ?_)
       refine AW.ret ?_
       have e79 := e8.trans (Go.Am.elim_r e78)
       exact AW.rB false e79
      ·
       intro h80
       have h80q : (¬ (0 < ((v18 : Nat) : Int))) ∨ (¬ (0 < (icompareRows (List.getD (Tab.Rows t) (Int.toNat (((v18 : Nat) : Int) - 1)) []) (List.getD (Tab.Rows t) v18 [])))) := (Or.imp (fun h => (of_decide_eq_false h)) (fun h => (of_decide_eq_false h)) (Go.Am.and_neg h80))
       have e81 := e64.trans (Go.Am.bif_f h80)
       refine AW.kp [1, 16, 17, 18] [4] ⟨[(1, .ref 4 1 0), (16, sD12 (Tab.Rows t)), (17, sI ((List.length (Tab.Rows t) : Nat) : Int)), (18, sI ((v18 : Nat) : Int))], [(4, .box 1 [sI (Tab.Width t), sD12 (Tab.Rows t)])]⟩ ?_
       refine AW.skip (AW.r0 hC [1, 16, 17, 18] [4] ⟨[(1, .ref 4 1 0), (16, sD12 (Tab.Rows t)), (17, sI ((List.length (Tab.Rows t) : Nat) : Int)), (18, sI ((v18 + 1 : Nat) : Int))], [(4, .box 1 [sI (Tab.Width t), sD12 (Tab.Rows t)])]⟩ [R64 ((v18 + 1 : Nat) : Int)] ?_ ?_)
       ·
        refine ⟨?_, trivial⟩
        ·
         refine R64.of ?_
         omega
       refine AW.back (x := v18) (v18 + 1) (by kernel_rfl) ⟨?_, k53q, ?_, e81⟩ ?_
       ·
        show True
        assumption
       ·
        show (List.length (Tab.Rows t)) - (v18 + 1) < k53q
        omega
       ·
        show (List.length (Tab.Rows t)) - (v18 + 1) < (List.length (Tab.Rows t)) - v18
        omega
    ·
     intro h82
     have h82q := (of_decide_eq_false h82)
     have e83 := e52.trans (Go.Am.bif_f h82)
     refine AW.kp [] [] ⟨[], []⟩ ?_
     refine AW.exit ?_
     refine AW.meet () (by kernel_rfl) ⟨?_, e83⟩
     show True
     assumption
  ·
   intro x hR
   obtain ⟨hJ0, e84⟩ := hR
   replace hJ0 : True := hJ0
   have e85 := e8.trans (Go.Am.elim_l e84)
   refine AW.seq (AW.r1 hC [2] [] ⟨[(2, sB true)], []⟩ ?_)
   exact AW.ret (AW.rB true e85)

end
end Go.Proofs.Ytbgbekpbbcahpaa
