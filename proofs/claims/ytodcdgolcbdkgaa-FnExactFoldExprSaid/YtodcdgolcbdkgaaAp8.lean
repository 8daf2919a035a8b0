/-
  A part of the proof of this claim (Ap8): what functions of the program compute, and plain facts of that. No conditions.
-/
import Derived.Test.YtodcdgolcbdkgaaAp3
set_option linter.all false
namespace Go.Proofs.Ytodcdgolcbdkgaa
open Go Go.Am
noncomputable section

def toValue (a : Val) : Val := a

def toValue_sp : FnSpec := mkSpec [.val (.named 0)] [.val (.named 0)] (fun (a : Val) => True) (fun (a : Val) => [⟨(.named 0), (toValue a)⟩])

theorem toValue_ok : FnOK Try.prog 98 toValue_sp := by
 have hC : CtxOK Try.prog (mkCtx tyL []) := CtxOK.nil tyOK
 refine FnOK.of_body Try.func98 (by kernel_rfl) rfl (C := (mkCtx tyL [])) hC.ty (by kernel_rfl) ?_
 intro (a : Val) hwf hpre E
 have hpre : True := hpre
 have hw_a : Wf ⟨(.named 0), (a : Val)⟩ := hwf _ (List.Mem.head _)
 have hr_a_N := Val.wfl hw_a
 have e0 : toValue a = toValue a := rfl
 refine AW.seq (AW.r1 hC [1, 2] [4, 8] ⟨[(1, .ref 4 1 0), (2, .ref 8 1 0)], [(4, .box 1 [sB (Val.Null a), sI (Val.N a)]), (8, .box 1 [sB false, sI 0])]⟩ ?_)
 refine AW.seq (AW.r1 hC [1, 2, 3] [4, 8, 12] ⟨[(1, .ref 4 1 0), (2, .ref 8 1 0), (3, .ref 12 1 0)], [(4, .box 1 [sB (Val.Null a), sI (Val.N a)]), (8, .box 1 [sB false, sI 0]), (12, .box 1 [sB false, sI 0])]⟩ ?_)
 refine AW.seq (AW.r1 hC [1, 2, 3] [4, 8, 12] ⟨[(1, .ref 4 1 0), (2, .ref 8 1 0), (3, .ref 12 1 0)], [(4, .box 1 [sB (Val.Null a), sI (Val.N a)]), (8, .box 1 [sB false, sI 0]), (12, .box 1 [sB (Val.Null a), sI 0])]⟩ ?_)
 refine AW.seq (AW.r1 hC [2, 3] [8, 12] ⟨[(2, .ref 8 1 0), (3, .ref 12 1 0)], [(8, .box 1 [sB false, sI 0]), (12, .box 1 [sB (Val.Null a), sI (Val.N a)])]⟩ ?_)
 refine AW.seq (AW.r1 hC [2] [8] ⟨[(2, .ref 8 1 0)], [(8, .box 1 [sB (Val.Null a), sI (Val.N a)])]⟩ ?_)
 exact AW.ret (AW.retE (β := Val) (fun v => [⟨(.named 0), v⟩]) (fun v => []) (v := a) e0 (by kernel_rfl) rfl rfl)

def eqValue (a : Val) (b : Val) : Bool := (bif ((Val.Null a) != (Val.Null b)) then false else (bif ((Val.N a) != (Val.N b)) then false else true))

def eqValue_sp : FnSpec := mkSpec [.val (.named 0), .val (.named 0)] [.val .bool] (fun (a : Val) (b : Val) => True) (fun (a : Val) (b : Val) => [⟨.bool, (eqValue a b)⟩])

theorem eqValue_ok : FnOK Try.prog 101 eqValue_sp := by
 have hC : CtxOK Try.prog (mkCtx tyL []) := CtxOK.nil tyOK
 refine FnOK.of_body Try.func101 (by kernel_rfl) rfl (C := (mkCtx tyL [])) hC.ty (by kernel_rfl) ?_
 intro (a : Val) (b : Val) hwf hpre E
 have hpre : True := hpre
 have hw_a : Wf ⟨(.named 0), (a : Val)⟩ := hwf _ (List.Mem.head _)
 have hr_a_N := Val.wfl hw_a
 have hw_b : Wf ⟨(.named 0), (b : Val)⟩ := hwf _ (List.Mem.tail _ (List.Mem.head _))
 have hr_b_N := Val.wfl hw_b
 have e0 : eqValue a b = eqValue a b := rfl
 refine AW.seq (AW.r1 hC [2, 3] [8, 12] ⟨[(2, .ref 8 1 0), (3, .ref 12 1 0)], [(8, .box 1 [sB (Val.Null a), sI (Val.N a)]), (12, .box 1 [sB (Val.Null b), sI (Val.N b)])]⟩ ?_)
 refine AW.seq (AW.seq (AW.r1 hC [2, 3, 9] [8, 12] ⟨[(2, .ref 8 1 0), (3, .ref 12 1 0), (9, sB ((Val.Null a) != (Val.Null b)))], [(8, .box 1 [sB (Val.Null a), sI (Val.N a)]), (12, .box 1 [sB (Val.Null b), sI (Val.N b)])]⟩ ?_))
 refine AW.cd ((Val.Null a) != (Val.Null b)) ?_ ?_
 ·
  intro h1
  have h1q : ((Val.Null a) != (Val.Null b)) = true := h1
  have e2 := e0.trans (Go.Am.bif_t h1)
  refine AW.seq (AW.r1 hC [4] [] ⟨[(4, sB false)], []⟩ ?_)
  exact AW.ret (AW.rB false e2)
 ·
  intro h3
  have h3q : ((Val.Null a) != (Val.Null b)) = false := h3
  have e4 := e0.trans (Go.Am.bif_f h3)
  refine AW.kp [2, 3] [8, 12] ⟨[(2, .ref 8 1 0), (3, .ref 12 1 0)], [(8, .box 1 [sB (Val.Null a), sI (Val.N a)]), (12, .box 1 [sB (Val.Null b), sI (Val.N b)])]⟩ ?_
  refine AW.skip (AW.seq (AW.seq (AW.r1 hC [14] [] ⟨[(14, sB ((Val.N a) != (Val.N b)))], []⟩ ?_)))
  refine AW.cd ((Val.N a) != (Val.N b)) ?_ ?_
  ·
   intro h5
   have h5q := (Go.Am.bne_pos h5)
   have e6 := e4.trans (Go.Am.bif_t h5)
   refine AW.seq (AW.r1 hC [4] [] ⟨[(4, sB false)], []⟩ ?_)
   exact AW.ret (AW.rB false e6)
  ·
   intro h7
   have h7q := (Go.Am.bne_neg h7)
   have e8 := e4.trans (Go.Am.bif_f h7)
   refine AW.kp [] [] ⟨[], []⟩ ?_
   refine AW.skip (AW.seq (AW.r1 hC [4] [] ⟨[(4, sB true)], []⟩ ?_))
   exact AW.ret (AW.rB true e8)

def szExpr_l0 (self : Xpr → Int → Int) (a : Xpr) : Nat → Int → Nat → Int ⊕ Int
 | 0, left1, i => .inl left1
 | k + 1, left1, i => (bif (decide (((i : Nat) : Int) < ((List.length (Xpr.Kids a) : Nat) : Int))) then (bif (decide ((self (List.getD (Xpr.Kids a) i Xpr.zero) left1) < 0)) then (.inr (-1)) else (szExpr_l0 self a k (self (List.getD (Xpr.Kids a) i Xpr.zero) left1) (i + 1))) else (.inl left1))

def szExpr_c0 (self : Xpr → Int → Int) (a : Xpr) (left : Int) : Int :=
 (bif (decide ((left - ((List.length (Xpr.Kids a) : Nat) : Int)) < 0)) then (-1) else (Sum.elim (fun z => (fun (left1 : Int) => left1) z) (fun r => r) (szExpr_l0 self a ((List.length (Xpr.Kids a)) - 0 + 1) (left - ((List.length (Xpr.Kids a) : Nat) : Int)) 0)))

def szExpr_r : Nat → Xpr → Int → Int
 | 0, a, left => 0
 | fuel + 1, a, left => (Go.Am.andThen (szExpr_c0 (szExpr_r fuel) a left) (fun z => (fun (v8 : Int) => (bif (decide (v8 < 0)) then (-1) else v8)) z))

def szExpr (a : Xpr) (left : Int) : Int := szExpr_r (SizeOf.sizeOf a + 1) a left

def szExpr_spn (fuel : Nat) : FnSpec := mkSpec [.val (.named 1), .val (.int .i64)] [.val (.int .i64)] (fun (a : Xpr) (left : Int) => (0 ≤ left) ∧ SizeOf.sizeOf a < fuel) (fun (a : Xpr) (left : Int) => [⟨(.int .i64), (szExpr_r fuel a left)⟩])

def szExpr_sp : FnSpec := mkSpec [.val (.named 1), .val (.int .i64)] [.val (.int .i64)] (fun (a : Xpr) (left : Int) => 0 ≤ left) (fun (a : Xpr) (left : Int) => [⟨(.int .i64), (szExpr a left)⟩])

theorem szExpr_okn (fuel : Nat) : FnOK Try.prog 55 (szExpr_spn fuel) := by
 induction fuel with
 | zero => exact FnOK.never Try.func55 (by kernel_rfl) rfl (fun _ _ h => absurd h.2 (Nat.not_lt_zero _))
 | succ fuel ih => ?_
 have hC : CtxOK Try.prog (mkCtx tyL [(55, (szExpr_spn fuel))]) := CtxOK.cons ih (CtxOK.nil tyOK)
 have hC1 := hC.rebase 1000
 refine FnOK.of_body Try.func55 (by kernel_rfl) rfl (C := (mkCtx tyL [(55, (szExpr_spn fuel))])) hC.ty (by kernel_rfl) ?_
 intro (a : Xpr) (left : Int) hwf hpre E
 have hpre : (0 ≤ left) ∧ SizeOf.sizeOf a < fuel + 1 := hpre
 have hw_a : Wf ⟨(.named 1), (a : Xpr)⟩ := hwf _ (List.Mem.head _)
 obtain ⟨hr_a_Kind, hr_a_Col, hl_a_Kids⟩ := Xpr.wfl hw_a
 have hw_left : Wf ⟨(.int .i64), (left : Int)⟩ := hwf _ (List.Mem.tail _ (List.Mem.head _))
 have hr_left : -9223372036854775808 ≤ left ∧ left ≤ 9223372036854775807 := hw_left.int_inv
 have e0 : szExpr_r (fuel + 1) a left = szExpr_r (fuel + 1) a left := rfl
 refine AW.seq (AW.r1 hC [1, 2] [8] ⟨[(1, sI left), (2, .ref 8 1 0)], [(8, .box 1 [sI (Xpr.Kind a), sI (Xpr.Col a), sB (Val.Null (Xpr.V a)), sI (Val.N (Xpr.V a)), sD9 (Xpr.Kids a)])]⟩ ?_)
 refine AW.seq (AW.regionO [0, 1, 2, 3, 4] (by rfl) ?_)
 refine AWO.run hC false [] [0, 1, 2] [3, 4] [6, 7] []
  ⟨[(6, sD9 (Xpr.Kids a)), (7, sI left)], []⟩
  [] (by rfl) (by kernel_rfl) ?_ ?_
 ·
  exact trivial
 refine AWO.callJ hC.ty [8] [] (α := Int) (fun x => ⟨[(8, sI x)], []⟩) (fun x => (True) ∧ (szExpr_c0 (szExpr_r fuel) a left) = x) (vs := [sD9 (Xpr.Kids a), sI left]) (caps := []) (by rfl) rfl (.inl rfl) (by decide) (by kernel_rfl) (by kernel_rfl) Try.func66 (by kernel_rfl) rfl (by kernel_rfl) ?_ ?_
 ·
  intro o1 ho1
  have e95 : (szExpr_c0 (szExpr_r fuel) a left) = (szExpr_c0 (szExpr_r fuel) a left) := rfl
  refine AW.kp [0, 1] [] ⟨[(0, sD9 (Xpr.Kids a)), (1, sI left)], []⟩ ?_
  refine AW.seq (AW.r1 hC1 [0, 1] [] ⟨[(0, sD9 (Xpr.Kids a)), (1, sI left)], []⟩ ?_)
  refine AW.seq (AW.r0 hC1 [0, 1] [] ⟨[(0, sD9 (Xpr.Kids a)), (1, sI (left - ((List.length (Xpr.Kids a) : Nat) : Int)))], []⟩ [R64 (left - ((List.length (Xpr.Kids a) : Nat) : Int))] ?_ ?_)
  ·
   refine ⟨?_, trivial⟩
   ·
    refine R64.of ?_
    omega
  refine AW.seq (AW.seq (AW.r1 hC1 [0, 1, 11] [] ⟨[(0, sD9 (Xpr.Kids a)), (1, sI (left - ((List.length (Xpr.Kids a) : Nat) : Int))), (11, sB (decide ((left - ((List.length (Xpr.Kids a) : Nat) : Int)) < 0)))], []⟩ ?_))
  refine AW.cd (decide ((left - ((List.length (Xpr.Kids a) : Nat) : Int)) < 0)) ?_ ?_
  ·
   intro h96
   have h96q := (of_decide_eq_true h96)
   have e97 := e95.trans (Go.Am.bif_t h96)
   refine AW.seq (AW.r1 hC1 [4] [] ⟨[(4, sI (-1))], []⟩ ?_)
   refine AW.ret ?_
   refine ⟨(-1), [sI (-1)], by kernel_rfl, by kernel_rfl, ?_, e97⟩
   show True
   exact trivial
  ·
   intro h98
   have h98q := (of_decide_eq_false h98)
   have e99 := e95.trans (Go.Am.bif_f h98)
   refine AW.kp [0, 1] [] ⟨[(0, sD9 (Xpr.Kids a)), (1, sI (left - ((List.length (Xpr.Kids a) : Nat) : Int)))], []⟩ ?_
   refine AW.skip (AW.seq (AW.seq (AW.r1 hC1 [0, 1, 5] [] ⟨[(0, sD9 (Xpr.Kids a)), (1, sI (left - ((List.length (Xpr.Kids a) : Nat) : Int))), (5, sI 0)], []⟩ ?_)))
   refine AW.cutQ (α := Int) (fun x => ⟨[(1, sI x)], []⟩) (fun x => (0 ≤ x) ∧ (szExpr_l0 (szExpr_r fuel) a ((List.length (Xpr.Kids a)) - 0 + 1) (left - ((List.length (Xpr.Kids a) : Nat) : Int)) 0) = (.inl x)) ?_ ?_
   ·
    skip
    refine AW.block (AW.loop (α := Int × Nat) (fun x => ⟨[(0, sD9 (Xpr.Kids a)), (1, sI x.1), (5, sI ((x.2 : Nat) : Int))], []⟩) (fun x => (0 ≤ x.1) ∧ ∃ k, (List.length (Xpr.Kids a)) - x.2 < k ∧ (szExpr_l0 (szExpr_r fuel) a ((List.length (Xpr.Kids a)) - 0 + 1) (left - ((List.length (Xpr.Kids a) : Nat) : Int)) 0) = szExpr_l0 (szExpr_r fuel) a k x.1 x.2) (fun x => (List.length (Xpr.Kids a)) - x.2) ((left - ((List.length (Xpr.Kids a) : Nat) : Int)), 0) (by kernel_rfl) ⟨?_, _, Nat.lt_succ_self _, rfl⟩ ?_)
    ·
     show 0 ≤ (left - ((List.length (Xpr.Kids a) : Nat) : Int))
     omega
    ·
     intro x hR
     obtain ⟨left1, i⟩ := x
     obtain ⟨hI0, k132, hk130, e131⟩ := hR
     replace hI0 : 0 ≤ left1 := hI0
     replace hk130 : (List.length (Xpr.Kids a)) - i < k132 := hk130
     obtain ⟨k132q, rfl⟩ : ∃ k, k132 = k + 1 := ⟨k132 - 1, by omega⟩
     refine AW.seq (AW.seq (AW.r1 hC1 [0, 1, 5, 15] [] ⟨[(0, sD9 (Xpr.Kids a)), (1, sI left1), (5, sI ((i : Nat) : Int)), (15, sB (decide (((i : Nat) : Int) < ((List.length (Xpr.Kids a) : Nat) : Int))))], []⟩ ?_))
     refine AW.cd (decide (((i : Nat) : Int) < ((List.length (Xpr.Kids a) : Nat) : Int))) ?_ ?_
     ·
      intro h133
      have h133q := (of_decide_eq_true h133)
      have e134 := e131.trans (Go.Am.bif_t h133)
      refine AW.kp [0, 1, 5] [] ⟨[(0, sD9 (Xpr.Kids a)), (1, sI left1), (5, sI ((i : Nat) : Int))], []⟩ ?_
      refine AW.skip (AW.seq (AW.block (AW.seq (AW.r0 hC1 [0, 1, 5] [] ⟨[(0, sD9 (Xpr.Kids a)), (1, sI ((szExpr_r fuel) (List.getD (Xpr.Kids a) i Xpr.zero) left1)), (5, sI ((i : Nat) : Int))], []⟩ [IX ((i : Nat) : Int) ((List.length (Xpr.Kids a) : Nat) : Int), ((0 ≤ left1) ∧ SizeOf.sizeOf (List.getD (Xpr.Kids a) i Xpr.zero) < fuel)] ?_ ?_))))
      ·
       refine ⟨?_, ?_, trivial⟩
       ·
        refine IX.of ?_
        omega
       ·
        exact ⟨by omega, Nat.lt_of_lt_of_le (kid_lt (by omega)) (Nat.le_of_lt_succ hpre.2)⟩
      refine AW.seq (AW.wf_int (s := 1) (k := .i64) (n := ((szExpr_r fuel) (List.getD (Xpr.Kids a) i Xpr.zero) left1)) (by kernel_rfl) fun hw135 => ?_)
      replace hw135 : -9223372036854775808 ≤ ((szExpr_r fuel) (List.getD (Xpr.Kids a) i Xpr.zero) left1) ∧ ((szExpr_r fuel) (List.getD (Xpr.Kids a) i Xpr.zero) left1) ≤ 9223372036854775807 := hw135
      refine AW.r1 hC1 [0, 1, 5, 25] [] ⟨[(0, sD9 (Xpr.Kids a)), (1, sI ((szExpr_r fuel) (List.getD (Xpr.Kids a) i Xpr.zero) left1)), (5, sI ((i : Nat) : Int)), (25, sB (decide (((szExpr_r fuel) (List.getD (Xpr.Kids a) i Xpr.zero) left1) < 0)))], []⟩ ?_
      refine AW.cd (decide (((szExpr_r fuel) (List.getD (Xpr.Kids a) i Xpr.zero) left1) < 0)) ?_ ?_
      ·
       intro h136
       have h136q := (of_decide_eq_true h136)
       have e137 := e134.trans (Go.Am.bif_t h136)
       refine AW.seq (AW.r1 hC1 [4] [] ⟨[(4, sI (-1))], []⟩ ?_)
       refine AW.ret ?_
       have e138 := e99.trans (Go.Am.elim_r e137)
       refine ⟨(-1), [sI (-1)], by kernel_rfl, by kernel_rfl, ?_, e138⟩
       show True
       exact trivial
      ·
       intro h139
       have h139q := (of_decide_eq_false h139)
       have e140 := e134.trans (Go.Am.bif_f h139)
       refine AW.kp [0, 1, 5] [] ⟨[(0, sD9 (Xpr.Kids a)), (1, sI ((szExpr_r fuel) (List.getD (Xpr.Kids a) i Xpr.zero) left1)), (5, sI ((i : Nat) : Int))], []⟩ ?_
       refine AW.skip (AW.r0 hC1 [0, 1, 5] [] ⟨[(0, sD9 (Xpr.Kids a)), (1, sI ((szExpr_r fuel) (List.getD (Xpr.Kids a) i Xpr.zero) left1)), (5, sI ((i + 1 : Nat) : Int))], []⟩ [R64 ((i + 1 : Nat) : Int)] ?_ ?_)
       ·
        refine ⟨?_, trivial⟩
        ·
         refine R64.of ?_
         omega
       refine AW.back (x := (left1, i)) (((szExpr_r fuel) (List.getD (Xpr.Kids a) i Xpr.zero) left1), i + 1) (by kernel_rfl) ⟨?_, k132q, ?_, e140⟩ ?_
       ·
        show 0 ≤ ((szExpr_r fuel) (List.getD (Xpr.Kids a) i Xpr.zero) left1)
        omega
       ·
        show (List.length (Xpr.Kids a)) - (i + 1) < k132q
        omega
       ·
        show (List.length (Xpr.Kids a)) - (i + 1) < (List.length (Xpr.Kids a)) - i
        omega
     ·
      intro h141
      have h141q := (of_decide_eq_false h141)
      have e142 := e131.trans (Go.Am.bif_f h141)
      refine AW.kp [1] [] ⟨[(1, sI left1)], []⟩ ?_
      refine AW.exit ?_
      refine AW.meet left1 (by kernel_rfl) ⟨?_, e142⟩
      show 0 ≤ left1
      assumption
   ·
    intro left1 hR
    obtain ⟨hJ0, e143⟩ := hR
    replace hJ0 : 0 ≤ left1 := hJ0
    have e144 := e99.trans (Go.Am.elim_l e143)
    refine AW.seq (AW.r1 hC1 [4] [] ⟨[(4, sI left1)], []⟩ ?_)
    refine AW.ret ?_
    refine ⟨left1, [sI left1], by kernel_rfl, by kernel_rfl, ?_, e144⟩
    show True
    exact trivial
 ·
  intro v8 hR
  obtain ⟨hK0, e145⟩ := hR
  replace hK0 : True := hK0
  have e146 := e0.trans (Go.Am.then_eq e145)
  refine AWO.run hC false [] [4] [] [1] []
   ⟨[(1, sI v8)], []⟩
   [] (by rfl) (by kernel_rfl) ?_ ?_
  ·
   exact trivial
  refine AWO.nil ?_
  refine AW.seq (AW.seq (AW.r1 hC [1, 10] [] ⟨[(1, sI v8), (10, sB (decide (v8 < 0)))], []⟩ ?_))
  refine AW.cd (decide (v8 < 0)) ?_ ?_
  ·
   intro h147
   have h147q := (of_decide_eq_true h147)
   have e148 := e146.trans (Go.Am.bif_t h147)
   refine AW.seq (AW.r1 hC [4] [] ⟨[(4, sI (-1))], []⟩ ?_)
   exact AW.ret (AW.rI (-1) e148)
  ·
   intro h149
   have h149q := (of_decide_eq_false h149)
   have e150 := e146.trans (Go.Am.bif_f h149)
   refine AW.kp [1] [] ⟨[(1, sI v8)], []⟩ ?_
   refine AW.skip (AW.seq (AW.r1 hC [4] [] ⟨[(4, sI v8)], []⟩ ?_))
   exact AW.ret (AW.rI v8 e150)

theorem szExpr_fu : AllTV (szExpr_sp.ps.map PK.ty) (fun tvs => szExpr_sp.pre tvs → ∃ k, (szExpr_spn k).pre tvs ∧ (szExpr_spn k).fn tvs = szExpr_sp.fn tvs ∧ (szExpr_spn k).bx tvs = szExpr_sp.bx tvs) :=
 (fun (a : Xpr) (left : Int) h => ⟨SizeOf.sizeOf a + 1, (show (0 ≤ left) ∧ SizeOf.sizeOf a < SizeOf.sizeOf a + 1 from ⟨h, Nat.lt_succ_self _⟩), (show (szExpr_spn (SizeOf.sizeOf a + 1)).fn [⟨(.named 1), (a : Xpr)⟩, ⟨(.int .i64), (left : Int)⟩] = ([⟨(.int .i64), (szExpr_r (SizeOf.sizeOf a + 1) a left)⟩] : List TV) from by kernel_rfl).trans (show ([⟨(.int .i64), (szExpr_r (SizeOf.sizeOf a + 1) a left)⟩] : List TV) = szExpr_sp.fn [⟨(.named 1), (a : Xpr)⟩, ⟨(.int .i64), (left : Int)⟩] from by kernel_rfl), by kernel_rfl⟩)

theorem szExpr_ok : FnOK Try.prog 55 szExpr_sp := FnOK.of_fuel szExpr_okn (fun _ => rfl) (fun _ => rfl) (AllTV.get szExpr_fu)

theorem sz_le : ∀ (f : Nat) (t : Xpr) (l : Int), 0 ≤ l → szExpr_r f t l ≤ l := by
 intro f
 induction f with
 | zero => intro t l h; exact h
 | succ f ih =>
  intro t l h
  have hl : ∀ (k : Nat) (left : Int) (i : Nat), 0 ≤ left → left ≤ l → Sum.elim (fun z => z) (fun r => r) (szExpr_l0 (szExpr_r f) t k left i) ≤ l := by
   intro k
   induction k with
   | zero => intro left i _ h2; exact h2
   | succ k ihk =>
    intro left i h1 h2
    unfold szExpr_l0
    cases decide (((i : Nat) : Int) < ((List.length (Xpr.Kids t) : Nat) : Int)) with
    | false => exact h2
    | true =>
     simp only [cond_true]
     by_cases hn : szExpr_r f (List.getD (Xpr.Kids t) i Xpr.zero) left < 0
     ·
      rw [decide_eq_true hn]
      simp only [cond_true, Sum.elim_inr]
      omega
     ·
      rw [decide_eq_false hn, cond_false]
      have := ih (List.getD (Xpr.Kids t) i Xpr.zero) left h1
      exact ihk _ _ (by omega) (by omega)
  have hc : szExpr_c0 (szExpr_r f) t l ≤ l := by
   unfold szExpr_c0
   by_cases hn : l - ((List.length (Xpr.Kids t) : Nat) : Int) < 0
   ·
    rw [decide_eq_true hn, cond_true]; omega
   ·
    rw [decide_eq_false hn, cond_false]
    exact hl _ _ _ (by omega) (by omega)
  simp only [szExpr_r, Go.Am.andThen]
  by_cases hn : szExpr_c0 (szExpr_r f) t l < 0
  ·
   rw [decide_eq_true hn, cond_true]; omega
  ·
   rw [decide_eq_false hn, cond_false]; exact hc

def Fits (a : Xpr) : Prop := ∃ f l, SizeOf.sizeOf a < f ∧ (0 ≤ l ∧ l ≤ 1048576) ∧ 0 ≤ szExpr_r f a l

theorem Fits.of {a : Xpr} {l : Int} (hl : 0 ≤ l ∧ l ≤ 1048576) (h : ¬ szExpr a l < 0) : Fits a := ⟨SizeOf.sizeOf a + 1, l, Nat.lt_succ_self _, hl, by unfold szExpr at h; omega⟩

theorem Fits.kids {a : Xpr} (h : Fits a) : ((List.length a.Kids : Nat) : Int) ≤ 1048576 ∧ ∀ i, i < a.Kids.length → Fits (List.getD a.Kids i Xpr.zero) := by
 obtain ⟨f, l, hf, hl, h0⟩ := h
 cases f with
 | zero => omega
 | succ f =>
  have hc : 0 ≤ szExpr_c0 (szExpr_r f) a l := by
   simp only [szExpr_r, Go.Am.andThen] at h0
   by_cases hn : szExpr_c0 (szExpr_r f) a l < 0
   ·
    rw [decide_eq_true hn, cond_true] at h0; omega
   ·
    omega
  unfold szExpr_c0 at hc
  by_cases hn : l - ((List.length (Xpr.Kids a) : Nat) : Int) < 0
  ·
   rw [decide_eq_true hn, cond_true] at hc; omega
  ·
   rw [decide_eq_false hn, cond_false] at hc
   refine ⟨by omega, ?_⟩
   have key : ∀ (k : Nat) (left : Int) (i : Nat), a.Kids.length - i < k → 0 ≤ left → left ≤ l → 0 ≤ Sum.elim (fun z => (fun (left1 : Int) => left1) z) (fun r => r) (szExpr_l0 (szExpr_r f) a k left i) →
     ∀ j, i ≤ j → j < a.Kids.length → Fits (List.getD a.Kids j Xpr.zero) := by
    intro k
    induction k with
    | zero => intro left i hk; omega
    | succ k ihk =>
     intro left i hk h1 h2 h3 j hj hjl
     unfold szExpr_l0 at h3
     rw [lt_dec (show i < a.Kids.length by omega), cond_true] at h3
     by_cases hn : szExpr_r f (List.getD (Xpr.Kids a) i Xpr.zero) left < 0
     ·
      rw [decide_eq_true hn] at h3
      simp only [cond_true, Sum.elim_inr] at h3
      exact absurd h3 (by decide)
     ·
      rw [decide_eq_false hn, cond_false] at h3
      rcases Nat.eq_or_lt_of_le hj with rfl | hj
      ·
       exact ⟨f, left, Nat.lt_of_lt_of_le (kid_lt hjl) (Nat.le_of_lt_succ hf), ⟨h1, by omega⟩, by omega⟩
      ·
       have := sz_le f (List.getD (Xpr.Kids a) i Xpr.zero) left h1
       exact ihk _ _ (by omega) (by omega) (by omega) h3 j hj hjl
   exact fun i hi => key _ _ 0 (by omega) (by omega) (by omega) hc i (Nat.zero_le _) hi

def eqExpr_l0 (self : Xpr → Xpr → Bool) (a : Xpr) (b : Xpr) : Nat → Nat → Unit ⊕ Bool
 | 0, i => .inl ()
 | k + 1, i => (bif (decide (((i : Nat) : Int) < ((List.length (Xpr.Kids a) : Nat) : Int))) then (bif (!(self (List.getD (Xpr.Kids a) i Xpr.zero) (List.getD (Xpr.Kids b) i Xpr.zero))) then (.inr false) else (eqExpr_l0 self a b k (i + 1))) else (.inl ()))

def eqExpr_c0 (self : Xpr → Xpr → Bool) (a : Xpr) (b : Xpr) : Bool :=
 (bif (((List.length (Xpr.Kids a) : Nat) : Int) != ((List.length (Xpr.Kids b) : Nat) : Int)) then false else (Sum.elim (fun _ => true) (fun r => r) (eqExpr_l0 self a b ((List.length (Xpr.Kids a)) - 0 + 1) 0)))

def eqExpr_r : Nat → Xpr → Xpr → Bool
 | 0, a, b => false
 | fuel + 1, a, b => (bif ((Xpr.Kind a) != (Xpr.Kind b)) then false else (bif ((Xpr.Col a) != (Xpr.Col b)) then false else (bif (!(eqValue (Xpr.V a) (Xpr.V b))) then false else (Go.Am.andThen (eqExpr_c0 (eqExpr_r fuel) a b) (fun z => (fun (v25 : Bool) => (bif (!v25) then false else true)) z)))))

def eqExpr (a : Xpr) (b : Xpr) : Bool := eqExpr_r (SizeOf.sizeOf a + 1) a b

def eqExpr_spn (fuel : Nat) : FnSpec := mkSpec [.val (.named 1), .val (.named 1)] [.val .bool] (fun (a : Xpr) (b : Xpr) => (True) ∧ SizeOf.sizeOf a < fuel) (fun (a : Xpr) (b : Xpr) => [⟨.bool, (eqExpr_r fuel a b)⟩])

def eqExpr_sp : FnSpec := mkSpec [.val (.named 1), .val (.named 1)] [.val .bool] (fun (a : Xpr) (b : Xpr) => True) (fun (a : Xpr) (b : Xpr) => [⟨.bool, (eqExpr a b)⟩])

theorem eqExpr_okn (fuel : Nat) : FnOK Try.prog 59 (eqExpr_spn fuel) := by
 induction fuel with
 | zero => exact FnOK.never Try.func59 (by kernel_rfl) rfl (fun _ _ h => absurd h.2 (Nat.not_lt_zero _))
 | succ fuel ih => ?_
 have hC : CtxOK Try.prog (mkCtx tyL [(59, (eqExpr_spn fuel)), (101, eqValue_sp)]) := CtxOK.cons ih (CtxOK.cons eqValue_ok (CtxOK.nil tyOK))
 have hM : Try.prog.follows .mixedOrders = true := Try.checked.mixed
 have hC1 := hC.rebase 1000
 refine FnOK.of_body Try.func59 (by kernel_rfl) rfl (C := (mkCtx tyL [(59, (eqExpr_spn fuel)), (101, eqValue_sp)])) hC.ty (by kernel_rfl) ?_
 intro (a : Xpr) (b : Xpr) hwf hpre E
 have hpre : (True) ∧ SizeOf.sizeOf a < fuel + 1 := hpre
 have hw_a : Wf ⟨(.named 1), (a : Xpr)⟩ := hwf _ (List.Mem.head _)
 obtain ⟨hr_a_Kind, hr_a_Col, hl_a_Kids⟩ := Xpr.wfl hw_a
 have hw_b : Wf ⟨(.named 1), (b : Xpr)⟩ := hwf _ (List.Mem.tail _ (List.Mem.head _))
 obtain ⟨hr_b_Kind, hr_b_Col, hl_b_Kids⟩ := Xpr.wfl hw_b
 have e0 : eqExpr_r (fuel + 1) a b = eqExpr_r (fuel + 1) a b := rfl
 refine AW.seq (AW.r1 hC [2, 3] [8, 12] ⟨[(2, .ref 8 1 0), (3, .ref 12 1 0)], [(8, .box 1 [sI (Xpr.Kind a), sI (Xpr.Col a), sB (Val.Null (Xpr.V a)), sI (Val.N (Xpr.V a)), sD9 (Xpr.Kids a)]), (12, .box 1 [sI (Xpr.Kind b), sI (Xpr.Col b), sB (Val.Null (Xpr.V b)), sI (Val.N (Xpr.V b)), sD9 (Xpr.Kids b)])]⟩ ?_)
 refine AW.seq (AW.seq (AW.r1 hC [2, 3, 9] [8, 12] ⟨[(2, .ref 8 1 0), (3, .ref 12 1 0), (9, sB ((Xpr.Kind a) != (Xpr.Kind b)))], [(8, .box 1 [sI (Xpr.Kind a), sI (Xpr.Col a), sB (Val.Null (Xpr.V a)), sI (Val.N (Xpr.V a)), sD9 (Xpr.Kids a)]), (12, .box 1 [sI (Xpr.Kind b), sI (Xpr.Col b), sB (Val.Null (Xpr.V b)), sI (Val.N (Xpr.V b)), sD9 (Xpr.Kids b)])]⟩ ?_))
 refine AW.cd ((Xpr.Kind a) != (Xpr.Kind b)) ?_ ?_
 ·
  intro h1
  have h1q := (Go.Am.bne_pos h1)
  have e2 := e0.trans (Go.Am.bif_t h1)
  refine AW.seq (AW.r1 hC [4] [] ⟨[(4, sB false)], []⟩ ?_)
  exact AW.ret (AW.rB false e2)
 ·
  intro h3
  have h3q := (Go.Am.bne_neg h3)
  have e4 := e0.trans (Go.Am.bif_f h3)
  refine AW.kp [2, 3] [8, 12] ⟨[(2, .ref 8 1 0), (3, .ref 12 1 0)], [(8, .box 1 [sI (Xpr.Kind a), sI (Xpr.Col a), sB (Val.Null (Xpr.V a)), sI (Val.N (Xpr.V a)), sD9 (Xpr.Kids a)]), (12, .box 1 [sI (Xpr.Kind b), sI (Xpr.Col b), sB (Val.Null (Xpr.V b)), sI (Val.N (Xpr.V b)), sD9 (Xpr.Kids b)])]⟩ ?_
  refine AW.skip (AW.seq (AW.seq (AW.r1 hC [2, 3, 14] [8, 12] ⟨[(2, .ref 8 1 0), (3, .ref 12 1 0), (14, sB ((Xpr.Col a) != (Xpr.Col b)))], [(8, .box 1 [sI (Xpr.Kind a), sI (Xpr.Col a), sB (Val.Null (Xpr.V a)), sI (Val.N (Xpr.V a)), sD9 (Xpr.Kids a)]), (12, .box 1 [sI (Xpr.Kind b), sI (Xpr.Col b), sB (Val.Null (Xpr.V b)), sI (Val.N (Xpr.V b)), sD9 (Xpr.Kids b)])]⟩ ?_)))
  refine AW.cd ((Xpr.Col a) != (Xpr.Col b)) ?_ ?_
  ·
   intro h5
   have h5q := (Go.Am.bne_pos h5)
   have e6 := e4.trans (Go.Am.bif_t h5)
   refine AW.seq (AW.r1 hC [4] [] ⟨[(4, sB false)], []⟩ ?_)
   exact AW.ret (AW.rB false e6)
  ·
   intro h7
   have h7q := (Go.Am.bne_neg h7)
   have e8 := e4.trans (Go.Am.bif_f h7)
   refine AW.kp [2, 3] [8, 12] ⟨[(2, .ref 8 1 0), (3, .ref 12 1 0)], [(8, .box 1 [sI (Xpr.Kind a), sI (Xpr.Col a), sB (Val.Null (Xpr.V a)), sI (Val.N (Xpr.V a)), sD9 (Xpr.Kids a)]), (12, .box 1 [sI (Xpr.Kind b), sI (Xpr.Col b), sB (Val.Null (Xpr.V b)), sI (Val.N (Xpr.V b)), sD9 (Xpr.Kids b)])]⟩ ?_
   refine AW.skip (AW.seq (AW.seq (AW.r0 hC [2, 3, 20] [8, 12] ⟨[(2, .ref 8 1 0), (3, .ref 12 1 0), (20, sB (!(eqValue (Xpr.V a) (Xpr.V b))))], [(8, .box 1 [sI (Xpr.Kind a), sI (Xpr.Col a), sB (Val.Null (Xpr.V a)), sI (Val.N (Xpr.V a)), sD9 (Xpr.Kids a)]), (12, .box 1 [sI (Xpr.Kind b), sI (Xpr.Col b), sB (Val.Null (Xpr.V b)), sI (Val.N (Xpr.V b)), sD9 (Xpr.Kids b)])]⟩ [(True)] ?_ ?_)))
   ·
    refine ⟨?_, trivial⟩
    ·
     trivial
   refine AW.cd (!(eqValue (Xpr.V a) (Xpr.V b))) ?_ ?_
   ·
    intro h9
    have h9q := (Go.Am.not_pos h9)
    have e10 := e8.trans (Go.Am.bif_t h9)
    refine AW.seq (AW.r1 hC [4] [] ⟨[(4, sB false)], []⟩ ?_)
    exact AW.ret (AW.rB false e10)
   ·
    intro h11
    have h11q := (Go.Am.not_neg h11)
    have e12 := e8.trans (Go.Am.bif_f h11)
    refine AW.kp [2, 3] [8, 12] ⟨[(2, .ref 8 1 0), (3, .ref 12 1 0)], [(8, .box 1 [sI (Xpr.Kind a), sI (Xpr.Col a), sB (Val.Null (Xpr.V a)), sI (Val.N (Xpr.V a)), sD9 (Xpr.Kids a)]), (12, .box 1 [sI (Xpr.Kind b), sI (Xpr.Col b), sB (Val.Null (Xpr.V b)), sI (Val.N (Xpr.V b)), sD9 (Xpr.Kids b)])]⟩ ?_
    refine AW.skip (AW.seq (AW.seq (AW.regionO [0, 1, 2, 3, 4, 5] (by rfl) ?_)))
    refine AWO.run hC false [] [0, 1, 2, 3] [4, 5] [22, 24] []
     ⟨[(22, sD9 (Xpr.Kids a)), (24, sD9 (Xpr.Kids b))], []⟩
     [] (by rfl) (by kernel_rfl) ?_ ?_
    ·
     exact trivial
    refine AWO.callJ hC.ty [25] [] (α := Bool) (fun x => ⟨[(25, sB x)], []⟩) (fun x => (True) ∧ (eqExpr_c0 (eqExpr_r fuel) a b) = x) (vs := [sD9 (Xpr.Kids a), sD9 (Xpr.Kids b)]) (caps := []) (by rfl) rfl (.inl rfl) (by decide) (by kernel_rfl) (by kernel_rfl) Try.func74 (by kernel_rfl) rfl (by kernel_rfl) ?_ ?_
    ·
     intro o1 ho1
     have e99 : (eqExpr_c0 (eqExpr_r fuel) a b) = (eqExpr_c0 (eqExpr_r fuel) a b) := rfl
     refine AW.kp [0, 1] [] ⟨[(0, sD9 (Xpr.Kids a)), (1, sD9 (Xpr.Kids b))], []⟩ ?_
     refine AW.seq (AW.r1 hC1 [0, 1] [] ⟨[(0, sD9 (Xpr.Kids a)), (1, sD9 (Xpr.Kids b))], []⟩ ?_)
     refine AW.seq (AW.seq (AW.r1 hC1 [0, 1, 10] [] ⟨[(0, sD9 (Xpr.Kids a)), (1, sD9 (Xpr.Kids b)), (10, sB (((List.length (Xpr.Kids a) : Nat) : Int) != ((List.length (Xpr.Kids b) : Nat) : Int)))], []⟩ ?_))
     refine AW.cd (((List.length (Xpr.Kids a) : Nat) : Int) != ((List.length (Xpr.Kids b) : Nat) : Int)) ?_ ?_
     ·
      intro h100
      have h100q := (Go.Am.bne_pos h100)
      have e101 := e99.trans (Go.Am.bif_t h100)
      refine AW.seq (AW.r1 hC1 [4] [] ⟨[(4, sB false)], []⟩ ?_)
      refine AW.ret ?_
      refine ⟨false, [sB false], by kernel_rfl, by kernel_rfl, ?_, e101⟩
      show True
      exact trivial
     ·
      intro h102
      have h102q := (Go.Am.bne_neg h102)
      have e103 := e99.trans (Go.Am.bif_f h102)
      refine AW.kp [0, 1] [] ⟨[(0, sD9 (Xpr.Kids a)), (1, sD9 (Xpr.Kids b))], []⟩ ?_
      refine AW.skip (AW.seq (AW.seq (AW.r1 hC1 [0, 1, 5] [] ⟨[(0, sD9 (Xpr.Kids a)), (1, sD9 (Xpr.Kids b)), (5, sI 0)], []⟩ ?_)))
      refine AW.cutQ (α := Unit) (fun x => ⟨[], []⟩) (fun x => (True) ∧ (eqExpr_l0 (eqExpr_r fuel) a b ((List.length (Xpr.Kids a)) - 0 + 1) 0) = (.inl ())) ?_ ?_
      ·
       skip
       refine AW.block (AW.loop (α := Nat) (fun x => ⟨[(0, sD9 (Xpr.Kids a)), (1, sD9 (Xpr.Kids b)), (5, sI ((x : Nat) : Int))], []⟩) (fun x => (True) ∧ ∃ k, (List.length (Xpr.Kids a)) - x < k ∧ (eqExpr_l0 (eqExpr_r fuel) a b ((List.length (Xpr.Kids a)) - 0 + 1) 0) = eqExpr_l0 (eqExpr_r fuel) a b k x) (fun x => (List.length (Xpr.Kids a)) - x) 0 (by kernel_rfl) ⟨?_, _, Nat.lt_succ_self _, rfl⟩ ?_)
       ·
        show True
        exact trivial
       ·
        intro i hR
        obtain ⟨hI0, k133, hk131, e132⟩ := hR
        replace hI0 : True := hI0
        replace hk131 : (List.length (Xpr.Kids a)) - i < k133 := hk131
        obtain ⟨k133q, rfl⟩ : ∃ k, k133 = k + 1 := ⟨k133 - 1, by omega⟩
        refine AW.seq (AW.seq (AW.r1 hC1 [0, 1, 5, 14] [] ⟨[(0, sD9 (Xpr.Kids a)), (1, sD9 (Xpr.Kids b)), (5, sI ((i : Nat) : Int)), (14, sB (decide (((i : Nat) : Int) < ((List.length (Xpr.Kids a) : Nat) : Int))))], []⟩ ?_))
        refine AW.cd (decide (((i : Nat) : Int) < ((List.length (Xpr.Kids a) : Nat) : Int))) ?_ ?_
        ·
         intro h134
         have h134q := (of_decide_eq_true h134)
         have e135 := e132.trans (Go.Am.bif_t h134)
         refine AW.kp [0, 1, 5] [] ⟨[(0, sD9 (Xpr.Kids a)), (1, sD9 (Xpr.Kids b)), (5, sI ((i : Nat) : Int))], []⟩ ?_
         refine AW.skip (AW.seq (AW.block (AW.seq (AW.d0 hC1 hM [0, 1, 5, 26] [] ⟨[(0, sD9 (Xpr.Kids a)), (1, sD9 (Xpr.Kids b)), (5, sI ((i : Nat) : Int)), (26, sB (!((eqExpr_r fuel) (List.getD (Xpr.Kids a) i Xpr.zero) (List.getD (Xpr.Kids b) i Xpr.zero))))], []⟩ [IX ((i : Nat) : Int) ((List.length (Xpr.Kids a) : Nat) : Int), IX ((i : Nat) : Int) ((List.length (Xpr.Kids b) : Nat) : Int), ((True) ∧ SizeOf.sizeOf (List.getD (Xpr.Kids a) i Xpr.zero) < fuel)] ?_ ?_))))
         ·
          refine ⟨?_, ?_, ?_, trivial⟩
          ·
           refine IX.of ?_
           omega
          ·
           refine IX.of ?_
           omega
          ·
           exact ⟨trivial, Nat.lt_of_lt_of_le (kid_lt (by omega)) (Nat.le_of_lt_succ hpre.2)⟩
         refine AW.cd (!((eqExpr_r fuel) (List.getD (Xpr.Kids a) i Xpr.zero) (List.getD (Xpr.Kids b) i Xpr.zero))) ?_ ?_
         ·
          intro h136
          have h136q := (Go.Am.not_pos h136)
          have e137 := e135.trans (Go.Am.bif_t h136)
          refine AW.seq (AW.r1 hC1 [4] [] ⟨[(4, sB false)], []⟩ ?_)
          refine AW.ret ?_
          have e138 := e103.trans (Go.Am.elim_r e137)
          refine ⟨false, [sB false], by kernel_rfl, by kernel_rfl, ?_, e138⟩
          show True
          exact trivial
         ·
          intro h139
          have h139q := (Go.Am.not_neg h139)
          have e140 := e135.trans (Go.Am.bif_f h139)
          refine AW.kp [0, 1, 5] [] ⟨[(0, sD9 (Xpr.Kids a)), (1, sD9 (Xpr.Kids b)), (5, sI ((i : Nat) : Int))], []⟩ ?_
          refine AW.skip (AW.r0 hC1 [0, 1, 5] [] ⟨[(0, sD9 (Xpr.Kids a)), (1, sD9 (Xpr.Kids b)), (5, sI ((i + 1 : Nat) : Int))], []⟩ [R64 ((i + 1 : Nat) : Int)] ?_ ?_)
          ·
           refine ⟨?_, trivial⟩
           ·
            refine R64.of ?_
            omega
          refine AW.back (x := i) (i + 1) (by kernel_rfl) ⟨?_, k133q, ?_, e140⟩ ?_
          ·
           show True
           assumption
          ·
           show (List.length (Xpr.Kids a)) - (i + 1) < k133q
           omega
          ·
           show (List.length (Xpr.Kids a)) - (i + 1) < (List.length (Xpr.Kids a)) - i
           omega
        ·
         intro h141
         have h141q := (of_decide_eq_false h141)
         have e142 := e132.trans (Go.Am.bif_f h141)
         refine AW.kp [] [] ⟨[], []⟩ ?_
         refine AW.exit ?_
         refine AW.meet () (by kernel_rfl) ⟨?_, e142⟩
         show True
         assumption
      ·
       intro x hR
       obtain ⟨hJ0, e143⟩ := hR
       replace hJ0 : True := hJ0
       have e144 := e103.trans (Go.Am.elim_l e143)
       refine AW.seq (AW.r1 hC1 [4] [] ⟨[(4, sB true)], []⟩ ?_)
       refine AW.ret ?_
       refine ⟨true, [sB true], by kernel_rfl, by kernel_rfl, ?_, e144⟩
       show True
       exact trivial
    ·
     intro v25 hR
     obtain ⟨hK0, e145⟩ := hR
     replace hK0 : True := hK0
     have e146 := e12.trans (Go.Am.then_eq e145)
     refine AWO.run hC false [] [5] [] [26] []
      ⟨[(26, sB (!v25))], []⟩
      [] (by rfl) (by kernel_rfl) ?_ ?_
     ·
      exact trivial
     refine AWO.nil ?_
     refine AW.cd (!v25) ?_ ?_
     ·
      intro h147
      have h147q := (Go.Am.not_pos h147)
      have e148 := e146.trans (Go.Am.bif_t h147)
      refine AW.seq (AW.r1 hC [4] [] ⟨[(4, sB false)], []⟩ ?_)
      exact AW.ret (AW.rB false e148)
     ·
      intro h149
      have h149q := (Go.Am.not_neg h149)
      have e150 := e146.trans (Go.Am.bif_f h149)
      refine AW.kp [] [] ⟨[], []⟩ ?_
      refine AW.skip (AW.seq (AW.r1 hC [4] [] ⟨[(4, sB true)], []⟩ ?_))
      exact AW.ret (AW.rB true e150)

theorem eqExpr_fu : AllTV (eqExpr_sp.ps.map PK.ty) (fun tvs => eqExpr_sp.pre tvs → ∃ k, (eqExpr_spn k).pre tvs ∧ (eqExpr_spn k).fn tvs = eqExpr_sp.fn tvs ∧ (eqExpr_spn k).bx tvs = eqExpr_sp.bx tvs) :=
 (fun (a : Xpr) (b : Xpr) h => ⟨SizeOf.sizeOf a + 1, (show (True) ∧ SizeOf.sizeOf a < SizeOf.sizeOf a + 1 from ⟨h, Nat.lt_succ_self _⟩), (show (eqExpr_spn (SizeOf.sizeOf a + 1)).fn [⟨(.named 1), (a : Xpr)⟩, ⟨(.named 1), (b : Xpr)⟩] = ([⟨.bool, (eqExpr_r (SizeOf.sizeOf a + 1) a b)⟩] : List TV) from by kernel_rfl).trans (show ([⟨.bool, (eqExpr_r (SizeOf.sizeOf a + 1) a b)⟩] : List TV) = eqExpr_sp.fn [⟨(.named 1), (a : Xpr)⟩, ⟨(.named 1), (b : Xpr)⟩] from by kernel_rfl), by kernel_rfl⟩)

theorem eqExpr_ok : FnOK Try.prog 59 eqExpr_sp := FnOK.of_fuel eqExpr_okn (fun _ => rfl) (fun _ => rfl) (AllTV.get eqExpr_fu)

theorem eqValue_refl (v : Val) : eqValue v v = true := by
 unfold eqValue
 simp

theorem eqExpr_refl : ∀ (f : Nat) (a : Xpr), SizeOf.sizeOf a < f → eqExpr_r f a a = true := by
 intro f
 induction f with
 | zero => intro a h; omega
 | succ f ih =>
  intro a h
  have hc : eqExpr_c0 (eqExpr_r f) a a = true := by
   unfold eqExpr_c0
   simp only [bne_self_eq_false, cond_false]
   rcases all_loop (eqExpr_l0 (eqExpr_r f) a a) a.Kids.length (fun i => !(eqExpr_r f (List.getD a.Kids i Xpr.zero) (List.getD a.Kids i Xpr.zero))) (fun k i => rfl) (a.Kids.length - 0 + 1) 0 (by omega) with ⟨h1, _⟩ | ⟨_, j, _, hj, h2⟩
   ·
    rw [h1]; rfl
   ·
    have := kid_lt (t := a) hj
    rw [ih _ (by omega)] at h2
    cases h2
  unfold eqExpr_r
  simp only [bne_self_eq_false, cond_false, Go.Am.andThen, hc, eqValue_refl, Bool.not_true]

theorem eqExpr_self (a : Xpr) : eqExpr a a = true := eqExpr_refl _ a (Nat.lt_succ_self _)

end
end Go.Proofs.Ytodcdgolcbdkgaa
