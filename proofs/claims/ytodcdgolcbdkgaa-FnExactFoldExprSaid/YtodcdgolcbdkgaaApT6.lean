/-
  A part of the proof of this claim (ApT6): what functions of the program compute, and plain facts of that. No conditions.
-/
import Derived.Test.YtodcdgolcbdkgaaApT5
set_option linter.all false
namespace Go.Proofs.Ytodcdgolcbdkgaa
open Go Go.Am
noncomputable section

def toExprD_l0 (self : Xpr → Xpr) (a : Xpr) : Nat → Nat → (List Xpr) → (List Xpr)
 | 0, i, out => out
 | k + 1, i, out => (bif (decide (((i : Nat) : Int) < ((List.length (Xpr.Kids a) : Nat) : Int))) then (toExprD_l0 self a k (i + 1) (List.set out i (Xpr.mk (Xpr.Kind (self (List.getD (Xpr.Kids a) i Xpr.zero))) (Xpr.Col (self (List.getD (Xpr.Kids a) i Xpr.zero))) (Xpr.V (self (List.getD (Xpr.Kids a) i Xpr.zero))) (Xpr.Kids (self (List.getD (Xpr.Kids a) i Xpr.zero)))))) else out)

def toExprD_r : Nat → Xpr → Xpr
 | 0, a => Xpr.zero
 | fuel + 1, a => (Go.Am.andThen (toExprD_l0 (toExprD_r fuel) a ((List.length (Xpr.Kids a)) - 0 + 1) 0 (List.replicate (List.length (Xpr.Kids a)) Xpr.zero : List Xpr)) (fun z => (fun (out : List Xpr) => (Xpr.mk (Xpr.Kind a) (Xpr.Col a) (toValue (Xpr.V a)) out)) z))

def toExprD (a : Xpr) : Xpr := toExprD_r (SizeOf.sizeOf a + 1) a

def toExprD_spn (fuel : Nat) : FnSpec := mkSpec [.val (.named 1)] [.deep (.named 1)] (fun (a : Xpr) => (Fits a) ∧ SizeOf.sizeOf a < fuel) (fun (a : Xpr) => [⟨(.named 1), (toExprD_r fuel a)⟩])

def toExprD_sp : FnSpec := mkSpec [.val (.named 1)] [.deep (.named 1)] (fun (a : Xpr) => Fits a) (fun (a : Xpr) => [⟨(.named 1), (toExprD a)⟩])

theorem toExprD_okn (fuel : Nat) : FnOK Try.prog 57 (toExprD_spn fuel) := by
 induction fuel with
 | zero => exact FnOK.never Try.func57 (by kernel_rfl) rfl (fun _ h => absurd h.2 (Nat.not_lt_zero _))
 | succ fuel ih => ?_
 have hC : CtxOK Try.prog { (mkCtx tyL [(57, (toExprD_spn fuel)), (98, toValue_sp)]) with deep := true } := CtxOK.deepen (CtxOK.cons ih (CtxOK.cons toValue_ok (CtxOK.nil tyOK)))
 have hC1 := hC.rebase 1000
 refine FnOK.of_body Try.func57 (by kernel_rfl) rfl (C := { (mkCtx tyL [(57, (toExprD_spn fuel)), (98, toValue_sp)]) with deep := true }) hC.ty (by kernel_rfl) ?_
 intro (a : Xpr) hwf hpre E
 have hpre : (Fits a) ∧ SizeOf.sizeOf a < fuel + 1 := hpre
 have hw_a : Wf ⟨(.named 1), (a : Xpr)⟩ := hwf _ (List.Mem.head _)
 obtain ⟨hr_a_Kind, hr_a_Col, hl_a_Kids⟩ := Xpr.wfl hw_a
 have e0 : toExprD_r (fuel + 1) a = toExprD_r (fuel + 1) a := rfl
 refine AW.seq (AW.r1 hC [1, 2] [4, 8] ⟨[(1, .ref 4 1 0), (2, .ref 8 1 0)], [(4, .box 1 [sI (Xpr.Kind a), sI (Xpr.Col a), sB (Val.Null (Xpr.V a)), sI (Val.N (Xpr.V a)), sD9 (Xpr.Kids a)]), (8, .box 1 [sI 0, sI 0, sB false, sI 0, .nilsl])]⟩ ?_)
 refine AW.seq (AW.r1 hC [1, 2, 3] [4, 8, 12] ⟨[(1, .ref 4 1 0), (2, .ref 8 1 0), (3, .ref 12 1 0)], [(4, .box 1 [sI (Xpr.Kind a), sI (Xpr.Col a), sB (Val.Null (Xpr.V a)), sI (Val.N (Xpr.V a)), sD9 (Xpr.Kids a)]), (8, .box 1 [sI 0, sI 0, sB false, sI 0, .nilsl]), (12, .box 1 [sI 0, sI 0, sB false, sI 0, .nilsl])]⟩ ?_)
 refine AW.seq (AW.r1 hC [1, 2, 3] [4, 8, 12] ⟨[(1, .ref 4 1 0), (2, .ref 8 1 0), (3, .ref 12 1 0)], [(4, .box 1 [sI (Xpr.Kind a), sI (Xpr.Col a), sB (Val.Null (Xpr.V a)), sI (Val.N (Xpr.V a)), sD9 (Xpr.Kids a)]), (8, .box 1 [sI 0, sI 0, sB false, sI 0, .nilsl]), (12, .box 1 [sI (Xpr.Kind a), sI 0, sB false, sI 0, .nilsl])]⟩ ?_)
 refine AW.seq (AW.r1 hC [1, 2, 3] [4, 8, 12] ⟨[(1, .ref 4 1 0), (2, .ref 8 1 0), (3, .ref 12 1 0)], [(4, .box 1 [sI (Xpr.Kind a), sI (Xpr.Col a), sB (Val.Null (Xpr.V a)), sI (Val.N (Xpr.V a)), sD9 (Xpr.Kids a)]), (8, .box 1 [sI 0, sI 0, sB false, sI 0, .nilsl]), (12, .box 1 [sI (Xpr.Kind a), sI (Xpr.Col a), sB false, sI 0, .nilsl])]⟩ ?_)
 refine AW.seq (AW.r0 hC [1, 2, 3] [4, 8, 12] ⟨[(1, .ref 4 1 0), (2, .ref 8 1 0), (3, .ref 12 1 0)], [(4, .box 1 [sI (Xpr.Kind a), sI (Xpr.Col a), sB (Val.Null (Xpr.V a)), sI (Val.N (Xpr.V a)), sD9 (Xpr.Kids a)]), (8, .box 1 [sI 0, sI 0, sB false, sI 0, .nilsl]), (12, .box 1 [sI (Xpr.Kind a), sI (Xpr.Col a), sB (Val.Null (toValue (Xpr.V a))), sI (Val.N (toValue (Xpr.V a))), .nilsl])]⟩ [(True)] ?_ ?_)
 ·
  refine ⟨?_, trivial⟩
  ·
   trivial
 refine AW.seq (AW.regionO [0, 1, 2, 3, 4] (by rfl) ?_)
 refine AWO.run hC false [] [0, 1] [2, 3, 4] [2, 3, 15] [8, 12]
  ⟨[(2, .ref 8 1 0), (3, .ref 12 1 0), (15, sD9 (Xpr.Kids a))], [(8, .box 1 [sI 0, sI 0, sB false, sI 0, .nilsl]), (12, .box 1 [sI (Xpr.Kind a), sI (Xpr.Col a), sB (Val.Null (toValue (Xpr.V a))), sI (Val.N (toValue (Xpr.V a))), .nilsl])]⟩
  [] (by rfl) (by kernel_rfl) ?_ ?_
 ·
  exact trivial
 refine AWO.call hC.ty (vs := [sD9 (Xpr.Kids a)]) (caps := []) (by rfl) rfl (.inl rfl) (by decide) (by kernel_rfl) (by kernel_rfl) Try.func71 (by kernel_rfl) rfl (by kernel_rfl) ?_
 intro o1 ho1
 refine AW.kp [0, 1002, 1003] [8, 12] ⟨[(0, sD9 (Xpr.Kids a)), (1002, .ref 8 1 0), (1003, .ref 12 1 0)], [(8, .box 1 [sI 0, sI 0, sB false, sI 0, .nilsl]), (12, .box 1 [sI (Xpr.Kind a), sI (Xpr.Col a), sB (Val.Null (toValue (Xpr.V a))), sI (Val.N (toValue (Xpr.V a))), .nilsl])]⟩ ?_
 refine AW.seq (AW.r1 hC1 [0, 1002, 1003] [8, 12] ⟨[(0, sD9 (Xpr.Kids a)), (1002, .ref 8 1 0), (1003, .ref 12 1 0)], [(8, .box 1 [sI 0, sI 0, sB false, sI 0, .nilsl]), (12, .box 1 [sI (Xpr.Kind a), sI (Xpr.Col a), sB (Val.Null (toValue (Xpr.V a))), sI (Val.N (toValue (Xpr.V a))), .nilsl])]⟩ ?_)
 refine AW.seq (AW.r0 hC1 [0, 3, 1002, 1003] [8, 12, 4028] ⟨[(0, sD9 (Xpr.Kids a)), (3, .tr 4028 1), (1002, .ref 8 1 0), (1003, .ref 12 1 0)], [(8, .box 1 [sI 0, sI 0, sB false, sI 0, .nilsl]), (12, .box 1 [sI (Xpr.Kind a), sI (Xpr.Col a), sB (Val.Null (toValue (Xpr.V a))), sI (Val.N (toValue (Xpr.V a))), .nilsl]), (4028, .tree 1 (.named 1) ((List.replicate (List.length (Xpr.Kids a)) Xpr.zero : List Xpr) : List Xpr))]⟩ [(0 ≤ ((List.length (Xpr.Kids a) : Nat) : Int) ∧ ((List.length (Xpr.Kids a) : Nat) : Int) ≤ ((List.length (Xpr.Kids a) : Nat) : Int) ∧ ((List.length (Xpr.Kids a) : Nat) : Int) ≤ 4294967296)] ?_ ?_)
 ·
  refine ⟨?_, trivial⟩
  ·
   have := hpre.1.kids.1
   omega
 refine AW.seq (AW.seq (AW.r1 hC1 [0, 3, 4, 1002, 1003] [8, 12, 4028] ⟨[(0, sD9 (Xpr.Kids a)), (3, .tr 4028 1), (4, sI 0), (1002, .ref 8 1 0), (1003, .ref 12 1 0)], [(8, .box 1 [sI 0, sI 0, sB false, sI 0, .nilsl]), (12, .box 1 [sI (Xpr.Kind a), sI (Xpr.Col a), sB (Val.Null (toValue (Xpr.V a))), sI (Val.N (toValue (Xpr.V a))), .nilsl]), (4028, .tree 1 (.named 1) ((List.replicate (List.length (Xpr.Kids a)) Xpr.zero : List Xpr) : List Xpr))]⟩ ?_))
 refine AW.cutQ (α := (List Xpr)) (fun x => ⟨[(3, .tr 4028 1), (1002, .ref 8 1 0), (1003, .ref 12 1 0)], [(8, .box 1 [sI 0, sI 0, sB false, sI 0, .nilsl]), (12, .box 1 [sI (Xpr.Kind a), sI (Xpr.Col a), sB (Val.Null (toValue (Xpr.V a))), sI (Val.N (toValue (Xpr.V a))), .nilsl]), (4028, .tree 1 (.named 1) (x : List Xpr))]⟩) (fun x => (List.length x = List.length (Xpr.Kids a)) ∧ (toExprD_l0 (toExprD_r fuel) a ((List.length (Xpr.Kids a)) - 0 + 1) 0 (List.replicate (List.length (Xpr.Kids a)) Xpr.zero : List Xpr)) = x) ?_ ?_
 ·
  skip
  refine AW.block (AW.loop (α := Nat × (List Xpr)) (fun x => ⟨[(0, sD9 (Xpr.Kids a)), (3, .tr 4028 1), (4, sI ((x.1 : Nat) : Int)), (1002, .ref 8 1 0), (1003, .ref 12 1 0)], [(8, .box 1 [sI 0, sI 0, sB false, sI 0, .nilsl]), (12, .box 1 [sI (Xpr.Kind a), sI (Xpr.Col a), sB (Val.Null (toValue (Xpr.V a))), sI (Val.N (toValue (Xpr.V a))), .nilsl]), (4028, .tree 1 (.named 1) (x.2 : List Xpr))]⟩) (fun x => (List.length x.2 = List.length (Xpr.Kids a)) ∧ ∃ k, (List.length (Xpr.Kids a)) - x.1 < k ∧ (toExprD_l0 (toExprD_r fuel) a ((List.length (Xpr.Kids a)) - 0 + 1) 0 (List.replicate (List.length (Xpr.Kids a)) Xpr.zero : List Xpr)) = toExprD_l0 (toExprD_r fuel) a k x.1 x.2) (fun x => (List.length (Xpr.Kids a)) - x.1) (0, (List.replicate (List.length (Xpr.Kids a)) Xpr.zero : List Xpr)) (by kernel_rfl) ⟨?_, _, Nat.lt_succ_self _, rfl⟩ ?_)
  ·
   show List.length (List.replicate (List.length (Xpr.Kids a)) Xpr.zero : List Xpr) = List.length (Xpr.Kids a)
   simp
  ·
   intro x hR
   obtain ⟨i, out⟩ := x
   obtain ⟨hI0, k20, hk18, e19⟩ := hR
   replace hI0 : List.length out = List.length (Xpr.Kids a) := hI0
   replace hk18 : (List.length (Xpr.Kids a)) - i < k20 := hk18
   obtain ⟨k20q, rfl⟩ : ∃ k, k20 = k + 1 := ⟨k20 - 1, by omega⟩
   have hF := hpre.1.kids
   refine AW.seq (AW.seq (AW.r1 hC1 [0, 3, 4, 11, 1002, 1003] [8, 12, 4028] ⟨[(0, sD9 (Xpr.Kids a)), (3, .tr 4028 1), (4, sI ((i : Nat) : Int)), (11, sB (decide (((i : Nat) : Int) < ((List.length (Xpr.Kids a) : Nat) : Int)))), (1002, .ref 8 1 0), (1003, .ref 12 1 0)], [(8, .box 1 [sI 0, sI 0, sB false, sI 0, .nilsl]), (12, .box 1 [sI (Xpr.Kind a), sI (Xpr.Col a), sB (Val.Null (toValue (Xpr.V a))), sI (Val.N (toValue (Xpr.V a))), .nilsl]), (4028, .tree 1 (.named 1) (out : List Xpr))]⟩ ?_))
   refine AW.cd (decide (((i : Nat) : Int) < ((List.length (Xpr.Kids a) : Nat) : Int))) ?_ ?_
   ·
    intro h21
    have h21q := (of_decide_eq_true h21)
    have e22 := e19.trans (Go.Am.bif_t h21)
    refine AW.kp [0, 3, 4, 1002, 1003] [8, 12, 4028] ⟨[(0, sD9 (Xpr.Kids a)), (3, .tr 4028 1), (4, sI ((i : Nat) : Int)), (1002, .ref 8 1 0), (1003, .ref 12 1 0)], [(8, .box 1 [sI 0, sI 0, sB false, sI 0, .nilsl]), (12, .box 1 [sI (Xpr.Kind a), sI (Xpr.Col a), sB (Val.Null (toValue (Xpr.V a))), sI (Val.N (toValue (Xpr.V a))), .nilsl]), (4028, .tree 1 (.named 1) (out : List Xpr))]⟩ ?_
    refine AW.skip (AW.seq (AW.block (AW.r0 hC1 [0, 3, 4, 1002, 1003] [8, 12, 4028] ⟨[(0, sD9 (Xpr.Kids a)), (3, .tr 4028 1), (4, sI ((i : Nat) : Int)), (1002, .ref 8 1 0), (1003, .ref 12 1 0)], [(8, .box 1 [sI 0, sI 0, sB false, sI 0, .nilsl]), (12, .box 1 [sI (Xpr.Kind a), sI (Xpr.Col a), sB (Val.Null (toValue (Xpr.V a))), sI (Val.N (toValue (Xpr.V a))), .nilsl]), (4028, .tree 1 (.named 1) ((List.set out i (Xpr.mk (Xpr.Kind ((toExprD_r fuel) (List.getD (Xpr.Kids a) i Xpr.zero))) (Xpr.Col ((toExprD_r fuel) (List.getD (Xpr.Kids a) i Xpr.zero))) (Xpr.V ((toExprD_r fuel) (List.getD (Xpr.Kids a) i Xpr.zero))) (Xpr.Kids ((toExprD_r fuel) (List.getD (Xpr.Kids a) i Xpr.zero))))) : List Xpr))]⟩ [IX ((i : Nat) : Int) ((List.length (Xpr.Kids a) : Nat) : Int), ((Fits (List.getD (Xpr.Kids a) i Xpr.zero)) ∧ SizeOf.sizeOf (List.getD (Xpr.Kids a) i Xpr.zero) < fuel), IX ((i : Nat) : Int) ((List.length out : Nat) : Int)] ?_ ?_)))
    ·
     refine ⟨?_, ?_, ?_, trivial⟩
     ·
      refine IX.of ?_
      omega
     ·
      exact ⟨hpre.1.kids.2 _ (by omega), Nat.lt_of_lt_of_le (kid_lt (by omega)) (Nat.le_of_lt_succ hpre.2)⟩
     ·
      refine IX.of ?_
      omega
    refine AW.r0 hC1 [0, 3, 4, 1002, 1003] [8, 12, 4028] ⟨[(0, sD9 (Xpr.Kids a)), (3, .tr 4028 1), (4, sI ((i + 1 : Nat) : Int)), (1002, .ref 8 1 0), (1003, .ref 12 1 0)], [(8, .box 1 [sI 0, sI 0, sB false, sI 0, .nilsl]), (12, .box 1 [sI (Xpr.Kind a), sI (Xpr.Col a), sB (Val.Null (toValue (Xpr.V a))), sI (Val.N (toValue (Xpr.V a))), .nilsl]), (4028, .tree 1 (.named 1) ((List.set out i (Xpr.mk (Xpr.Kind ((toExprD_r fuel) (List.getD (Xpr.Kids a) i Xpr.zero))) (Xpr.Col ((toExprD_r fuel) (List.getD (Xpr.Kids a) i Xpr.zero))) (Xpr.V ((toExprD_r fuel) (List.getD (Xpr.Kids a) i Xpr.zero))) (Xpr.Kids ((toExprD_r fuel) (List.getD (Xpr.Kids a) i Xpr.zero))))) : List Xpr))]⟩ [R64 ((i + 1 : Nat) : Int)] ?_ ?_
    ·
     refine ⟨?_, trivial⟩
     ·
      refine R64.of ?_
      omega
    refine AW.back (x := (i, out)) (i + 1, (List.set out i (Xpr.mk (Xpr.Kind ((toExprD_r fuel) (List.getD (Xpr.Kids a) i Xpr.zero))) (Xpr.Col ((toExprD_r fuel) (List.getD (Xpr.Kids a) i Xpr.zero))) (Xpr.V ((toExprD_r fuel) (List.getD (Xpr.Kids a) i Xpr.zero))) (Xpr.Kids ((toExprD_r fuel) (List.getD (Xpr.Kids a) i Xpr.zero)))))) (by kernel_rfl) ⟨?_, k20q, ?_, e22⟩ ?_
    ·
     show List.length (List.set out i (Xpr.mk (Xpr.Kind ((toExprD_r fuel) (List.getD (Xpr.Kids a) i Xpr.zero))) (Xpr.Col ((toExprD_r fuel) (List.getD (Xpr.Kids a) i Xpr.zero))) (Xpr.V ((toExprD_r fuel) (List.getD (Xpr.Kids a) i Xpr.zero))) (Xpr.Kids ((toExprD_r fuel) (List.getD (Xpr.Kids a) i Xpr.zero))))) = List.length (Xpr.Kids a)
     simp only [lens] at *; omega
    ·
     show (List.length (Xpr.Kids a)) - (i + 1) < k20q
     omega
    ·
     show (List.length (Xpr.Kids a)) - (i + 1) < (List.length (Xpr.Kids a)) - i
     omega
   ·
    intro h23
    have h23q := (of_decide_eq_false h23)
    have e24 := e19.trans (Go.Am.bif_f h23)
    refine AW.kp [3, 1002, 1003] [8, 12, 4028] ⟨[(3, .tr 4028 1), (1002, .ref 8 1 0), (1003, .ref 12 1 0)], [(8, .box 1 [sI 0, sI 0, sB false, sI 0, .nilsl]), (12, .box 1 [sI (Xpr.Kind a), sI (Xpr.Col a), sB (Val.Null (toValue (Xpr.V a))), sI (Val.N (toValue (Xpr.V a))), .nilsl]), (4028, .tree 1 (.named 1) (out : List Xpr))]⟩ ?_
    refine AW.exit ?_
    refine AW.meet out (by kernel_rfl) ⟨?_, e24⟩
    show List.length out = List.length (Xpr.Kids a)
    assumption
 ·
  intro out hR
  obtain ⟨hJ0, e25⟩ := hR
  replace hJ0 : List.length out = List.length (Xpr.Kids a) := hJ0
  have e26 := e0.trans (Go.Am.then_eq e25)
  refine AW.seq (AW.r1 hC1 [2, 1002, 1003] [8, 12, 4028] ⟨[(2, .tr 4028 1), (1002, .ref 8 1 0), (1003, .ref 12 1 0)], [(8, .box 1 [sI 0, sI 0, sB false, sI 0, .nilsl]), (12, .box 1 [sI (Xpr.Kind a), sI (Xpr.Col a), sB (Val.Null (toValue (Xpr.V a))), sI (Val.N (toValue (Xpr.V a))), .nilsl]), (4028, .tree 1 (.named 1) (out : List Xpr))]⟩ ?_)
  refine AW.ret ?_
  refine ⟨[.tr 4028 1], by kernel_rfl, ?_⟩
  refine AWO.keep [2, 3, 16] [8, 12, 4028] ⟨[(2, .ref 8 1 0), (3, .ref 12 1 0), (16, .tr 4028 1)], [(8, .box 1 [sI 0, sI 0, sB false, sI 0, .nilsl]), (12, .box 1 [sI (Xpr.Kind a), sI (Xpr.Col a), sB (Val.Null (toValue (Xpr.V a))), sI (Val.N (toValue (Xpr.V a))), .nilsl]), (4028, .tree 1 (.named 1) (out : List Xpr))]⟩ (by kernel_rfl) ?_
  refine AWO.run hC false [] [3, 4] [] [2, 3] [8, 12, 4028]
   ⟨[(2, .ref 8 1 0), (3, .ref 12 1 0)], [(8, .box 1 [sI 0, sI 0, sB false, sI 0, .nilsl]), (12, .box 1 [sI (Xpr.Kind a), sI (Xpr.Col a), sB (Val.Null (toValue (Xpr.V a))), sI (Val.N (toValue (Xpr.V a))), .tr 4028 1]), (4028, .tree 1 (.named 1) (out : List Xpr))]⟩
   [] (by rfl) (by kernel_rfl) ?_ ?_
  ·
   exact trivial
  refine AWO.nil ?_
  refine AW.seq (AW.r1 hC [2] [8, 4028] ⟨[(2, .ref 8 1 0)], [(8, .box 1 [sI (Xpr.Kind a), sI (Xpr.Col a), sB (Val.Null (toValue (Xpr.V a))), sI (Val.N (toValue (Xpr.V a))), .tr 4028 1]), (4028, .tree 1 (.named 1) (out : List Xpr))]⟩ ?_)
  exact AW.ret (AW.retE (β := Xpr) (fun v => [⟨(.named 1), v⟩]) (fun v => []) (v := (Xpr.mk (Xpr.Kind a) (Xpr.Col a) (toValue (Xpr.V a)) out)) e26 (by kernel_rfl) rfl rfl)

theorem toExprD_fu : AllTV (toExprD_sp.ps.map PK.ty) (fun tvs => toExprD_sp.pre tvs → ∃ k, (toExprD_spn k).pre tvs ∧ (toExprD_spn k).fn tvs = toExprD_sp.fn tvs ∧ (toExprD_spn k).bx tvs = toExprD_sp.bx tvs) :=
 (fun (a : Xpr) h => ⟨SizeOf.sizeOf a + 1, (show (Fits a) ∧ SizeOf.sizeOf a < SizeOf.sizeOf a + 1 from ⟨h, Nat.lt_succ_self _⟩), (show (toExprD_spn (SizeOf.sizeOf a + 1)).fn [⟨(.named 1), (a : Xpr)⟩] = ([⟨(.named 1), (toExprD_r (SizeOf.sizeOf a + 1) a)⟩] : List TV) from by kernel_rfl).trans (show ([⟨(.named 1), (toExprD_r (SizeOf.sizeOf a + 1) a)⟩] : List TV) = toExprD_sp.fn [⟨(.named 1), (a : Xpr)⟩] from by kernel_rfl), by kernel_rfl⟩)

theorem toExprD_ok : FnOK Try.prog 57 toExprD_sp := FnOK.of_fuel toExprD_okn (fun _ => rfl) (fun _ => rfl) (AllTV.get toExprD_fu)

def heldExprS_l0 (self : (List Xpr) → Int → Int) (a : List Xpr) : Nat → Int → Nat → Int ⊕ Int
 | 0, k1, i => .inl k1
 | k + 1, k1, i => (bif (decide (((i : Nat) : Int) < ((List.length a : Nat) : Int))) then (bif ((Xpr.Kind (List.getD a i Xpr.zero)) != k1) then (.inr (-1)) else (bif ((Xpr.Col (List.getD a i Xpr.zero)) != (IntKind.wrap .i64 (k1 + 1))) then (.inr (-1)) else (bif ((Val.Null (Xpr.V (List.getD a i Xpr.zero))) != ((Int.tmod (IntKind.wrap .i64 ((IntKind.wrap .i64 (k1 + 1)) + 1)) 3) == 0)) then (.inr (-1)) else (bif ((Val.N (Xpr.V (List.getD a i Xpr.zero))) != (IntKind.wrap .i64 ((IntKind.wrap .i64 ((IntKind.wrap .i64 (k1 + 1)) + 1)) + 1))) then (.inr (-1)) else (bif (decide ((self (Xpr.Kids (List.getD a i Xpr.zero)) (IntKind.wrap .i64 ((IntKind.wrap .i64 ((IntKind.wrap .i64 ((IntKind.wrap .i64 (k1 + 1)) + 1)) + 1)) + 1))) < 0)) then (.inr (-1)) else (heldExprS_l0 self a k (self (Xpr.Kids (List.getD a i Xpr.zero)) (IntKind.wrap .i64 ((IntKind.wrap .i64 ((IntKind.wrap .i64 ((IntKind.wrap .i64 (k1 + 1)) + 1)) + 1)) + 1))) (i + 1))))))) else (.inl k1))

def heldExprS_r : Nat → (List Xpr) → Int → Int
 | 0, a, k0 => 0
 | fuel + 1, a, k0 => (Sum.elim (fun z => (fun (k1 : Int) => k1) z) (fun r => r) (heldExprS_l0 (heldExprS_r fuel) a ((List.length a) - 0 + 1) k0 0))

def heldExprS (a : List Xpr) (k0 : Int) : Int := heldExprS_r (SizeOf.sizeOf a + 1) a k0

def heldExprS_spn (fuel : Nat) : FnSpec := mkSpec [.val (.slice (.named 1)), .val (.int .i64)] [.val (.int .i64)] (fun (a : List Xpr) (k0 : Int) => (True) ∧ SizeOf.sizeOf a < fuel) (fun (a : List Xpr) (k0 : Int) => [⟨(.int .i64), (heldExprS_r fuel a k0)⟩])

def heldExprS_sp : FnSpec := mkSpec [.val (.slice (.named 1)), .val (.int .i64)] [.val (.int .i64)] (fun (a : List Xpr) (k0 : Int) => True) (fun (a : List Xpr) (k0 : Int) => [⟨(.int .i64), (heldExprS a k0)⟩])

theorem heldExprS_okn (fuel : Nat) : FnOK Try.prog 102 (heldExprS_spn fuel) := by
 induction fuel with
 | zero => exact FnOK.never Try.func102 (by kernel_rfl) rfl (fun _ _ h => absurd h.2 (Nat.not_lt_zero _))
 | succ fuel ih => ?_
 have hC : CtxOK Try.prog (mkCtx tyL [(102, (heldExprS_spn fuel))]) := CtxOK.cons ih (CtxOK.nil tyOK)
 refine FnOK.of_body Try.func102 (by kernel_rfl) rfl (C := (mkCtx tyL [(102, (heldExprS_spn fuel))])) hC.ty (by kernel_rfl) ?_
 intro (a : List Xpr) (k0 : Int) hwf hpre E
 have hpre : (True) ∧ SizeOf.sizeOf a < fuel + 1 := hpre
 have hw_a : Wf ⟨(.slice (.named 1)), (a : List Xpr)⟩ := hwf _ (List.Mem.head _)
 have hl_a : ((List.length a : Nat) : Int) ≤ 9223372036854775807 := hw_a.len
 have hw_k0 : Wf ⟨(.int .i64), (k0 : Int)⟩ := hwf _ (List.Mem.tail _ (List.Mem.head _))
 have hr_k0 : -9223372036854775808 ≤ k0 ∧ k0 ≤ 9223372036854775807 := hw_k0.int_inv
 have e0 : heldExprS_r (fuel + 1) a k0 = heldExprS_r (fuel + 1) a k0 := rfl
 refine AW.seq ?_
 refine AW.reg hC  true [] [0, 1] []
  ⟨[(0, sD9 a), (1, sI k0)], []⟩
  [] (by kernel_rfl) ?_ ?_
 ·
  exact trivial
 refine AW.seq (AW.seq (AW.r1 hC [0, 1, 5] [] ⟨[(0, sD9 a), (1, sI k0), (5, sI 0)], []⟩ ?_))
 refine AW.cutQ (α := Int) (fun x => ⟨[(1, sI x)], []⟩) (fun x => (True) ∧ (heldExprS_l0 (heldExprS_r fuel) a ((List.length a) - 0 + 1) k0 0) = (.inl x)) ?_ ?_
 ·
  skip
  refine AW.block (AW.loop (α := Int × Nat) (fun x => ⟨[(0, sD9 a), (1, sI x.1), (5, sI ((x.2 : Nat) : Int))], []⟩) (fun x => (True) ∧ ∃ k, (List.length a) - x.2 < k ∧ (heldExprS_l0 (heldExprS_r fuel) a ((List.length a) - 0 + 1) k0 0) = heldExprS_l0 (heldExprS_r fuel) a k x.1 x.2) (fun x => (List.length a) - x.2) (k0, 0) (by kernel_rfl) ⟨?_, _, Nat.lt_succ_self _, rfl⟩ ?_)
  ·
   show True
   exact trivial
  ·
   intro x hR
   obtain ⟨k1, i⟩ := x
   obtain ⟨hI0, k90, hk88, e89⟩ := hR
   replace hI0 : True := hI0
   replace hk88 : (List.length a) - i < k90 := hk88
   obtain ⟨k90q, rfl⟩ : ∃ k, k90 = k + 1 := ⟨k90 - 1, by omega⟩
   refine AW.seq (AW.seq ?_)
   refine AW.reg hC  true [] [0, 1, 5, 9] []
    ⟨[(0, sD9 a), (1, sI k1), (5, sI ((i : Nat) : Int)), (9, sB (decide (((i : Nat) : Int) < ((List.length a : Nat) : Int))))], []⟩
    [] (by kernel_rfl) ?_ ?_
   ·
    exact trivial
   refine AW.cd (decide (((i : Nat) : Int) < ((List.length a : Nat) : Int))) ?_ ?_
   ·
    intro h91
    have h91q := (of_decide_eq_true h91)
    have e92 := e89.trans (Go.Am.bif_t h91)
    refine AW.kp [0, 1, 5] [] ⟨[(0, sD9 a), (1, sI k1), (5, sI ((i : Nat) : Int))], []⟩ ?_
    refine AW.skip (AW.seq (AW.block (AW.seq (AW.seq ?_))))
    refine AW.reg hC  true [] [0, 1, 5, 18] []
     ⟨[(0, sD9 a), (1, sI k1), (5, sI ((i : Nat) : Int)), (18, sB ((Xpr.Kind (List.getD a i Xpr.zero)) != k1))], []⟩
     [IX ((i : Nat) : Int) ((List.length a : Nat) : Int)] (by kernel_rfl) ?_ ?_
    ·
     refine ⟨?_, trivial⟩
     ·
      refine IX.of ?_
      omega
    refine AW.cd ((Xpr.Kind (List.getD a i Xpr.zero)) != k1) ?_ ?_
    ·
     intro h93
     have h93q := (Go.Am.bne_pos h93)
     have e94 := e92.trans (Go.Am.bif_t h93)
     refine AW.seq ?_
     refine AW.reg hC  true [] [4] []
      ⟨[(4, sI (-1))], []⟩
      [] (by kernel_rfl) ?_ ?_
     ·
      exact trivial
     refine AW.ret ?_
     have e95 := e0.trans (Go.Am.elim_r e94)
     exact AW.rI (-1) e95
    ·
     intro h96
     have h96q := (Go.Am.bne_neg h96)
     have e97 := e92.trans (Go.Am.bif_f h96)
     refine AW.kp [0, 1, 5] [] ⟨[(0, sD9 a), (1, sI k1), (5, sI ((i : Nat) : Int))], []⟩ ?_
     refine AW.skip (AW.seq ?_)
     refine AW.reg hC  true [] [0, 1, 5] []
      ⟨[(0, sD9 a), (1, sI (IntKind.wrap .i64 (k1 + 1))), (5, sI ((i : Nat) : Int))], []⟩
      [] (by kernel_rfl) ?_ ?_
     ·
      exact trivial
     refine AW.seq (AW.seq ?_)
     refine AW.reg hC  true [] [0, 1, 5, 27] []
      ⟨[(0, sD9 a), (1, sI (IntKind.wrap .i64 (k1 + 1))), (5, sI ((i : Nat) : Int)), (27, sB ((Xpr.Col (List.getD a i Xpr.zero)) != (IntKind.wrap .i64 (k1 + 1))))], []⟩
      [IX ((i : Nat) : Int) ((List.length a : Nat) : Int)] (by kernel_rfl) ?_ ?_
     ·
      refine ⟨?_, trivial⟩
      ·
       refine IX.of ?_
       omega
     refine AW.cd ((Xpr.Col (List.getD a i Xpr.zero)) != (IntKind.wrap .i64 (k1 + 1))) ?_ ?_
     ·
      intro h98
      have h98q := (Go.Am.bne_pos h98)
      have e99 := e97.trans (Go.Am.bif_t h98)
      refine AW.seq ?_
      refine AW.reg hC  true [] [4] []
       ⟨[(4, sI (-1))], []⟩
       [] (by kernel_rfl) ?_ ?_
      ·
       exact trivial
      refine AW.ret ?_
      have e100 := e0.trans (Go.Am.elim_r e99)
      exact AW.rI (-1) e100
     ·
      intro h101
      have h101q := (Go.Am.bne_neg h101)
      have e102 := e97.trans (Go.Am.bif_f h101)
      refine AW.kp [0, 1, 5] [] ⟨[(0, sD9 a), (1, sI (IntKind.wrap .i64 (k1 + 1))), (5, sI ((i : Nat) : Int))], []⟩ ?_
      refine AW.skip (AW.seq ?_)
      refine AW.reg hC  true [] [0, 1, 5] []
       ⟨[(0, sD9 a), (1, sI (IntKind.wrap .i64 ((IntKind.wrap .i64 (k1 + 1)) + 1))), (5, sI ((i : Nat) : Int))], []⟩
       [] (by kernel_rfl) ?_ ?_
      ·
       exact trivial
      refine AW.seq (AW.seq ?_)
      refine AW.reg hC  true [] [0, 1, 5, 39] []
       ⟨[(0, sD9 a), (1, sI (IntKind.wrap .i64 ((IntKind.wrap .i64 (k1 + 1)) + 1))), (5, sI ((i : Nat) : Int)), (39, sB ((Val.Null (Xpr.V (List.getD a i Xpr.zero))) != ((Int.tmod (IntKind.wrap .i64 ((IntKind.wrap .i64 (k1 + 1)) + 1)) 3) == 0)))], []⟩
       [IX ((i : Nat) : Int) ((List.length a : Nat) : Int), ((3 : Int) ≠ 0)] (by kernel_rfl) ?_ ?_
      ·
       refine ⟨?_, ?_, trivial⟩
       ·
        refine IX.of ?_
        omega
       ·
        omega
      refine AW.cd ((Val.Null (Xpr.V (List.getD a i Xpr.zero))) != ((Int.tmod (IntKind.wrap .i64 ((IntKind.wrap .i64 (k1 + 1)) + 1)) 3) == 0)) ?_ ?_
      ·
       intro h103
       have h103q : ((Val.Null (Xpr.V (List.getD a i Xpr.zero))) != ((Int.tmod (IntKind.wrap .i64 ((IntKind.wrap .i64 (k1 + 1)) + 1)) 3) == 0)) = true := h103
       have e104 := e102.trans (Go.Am.bif_t h103)
       refine AW.seq ?_
       refine AW.reg hC  true [] [4] []
        ⟨[(4, sI (-1))], []⟩
        [] (by kernel_rfl) ?_ ?_
       ·
        exact trivial
       refine AW.ret ?_
       have e105 := e0.trans (Go.Am.elim_r e104)
       exact AW.rI (-1) e105
      ·
       intro h106
       have h106q : ((Val.Null (Xpr.V (List.getD a i Xpr.zero))) != ((Int.tmod (IntKind.wrap .i64 ((IntKind.wrap .i64 (k1 + 1)) + 1)) 3) == 0)) = false := h106
       have e107 := e102.trans (Go.Am.bif_f h106)
       refine AW.kp [0, 1, 5] [] ⟨[(0, sD9 a), (1, sI (IntKind.wrap .i64 ((IntKind.wrap .i64 (k1 + 1)) + 1))), (5, sI ((i : Nat) : Int))], []⟩ ?_
       refine AW.skip (AW.seq ?_)
       refine AW.reg hC  true [] [0, 1, 5] []
        ⟨[(0, sD9 a), (1, sI (IntKind.wrap .i64 ((IntKind.wrap .i64 ((IntKind.wrap .i64 (k1 + 1)) + 1)) + 1))), (5, sI ((i : Nat) : Int))], []⟩
        [] (by kernel_rfl) ?_ ?_
       ·
        exact trivial
       refine AW.seq (AW.seq ?_)
       refine AW.reg hC  true [] [0, 1, 5, 49] []
        ⟨[(0, sD9 a), (1, sI (IntKind.wrap .i64 ((IntKind.wrap .i64 ((IntKind.wrap .i64 (k1 + 1)) + 1)) + 1))), (5, sI ((i : Nat) : Int)), (49, sB ((Val.N (Xpr.V (List.getD a i Xpr.zero))) != (IntKind.wrap .i64 ((IntKind.wrap .i64 ((IntKind.wrap .i64 (k1 + 1)) + 1)) + 1))))], []⟩
        [IX ((i : Nat) : Int) ((List.length a : Nat) : Int)] (by kernel_rfl) ?_ ?_
       ·
        refine ⟨?_, trivial⟩
        ·
         refine IX.of ?_
         omega
       refine AW.cd ((Val.N (Xpr.V (List.getD a i Xpr.zero))) != (IntKind.wrap .i64 ((IntKind.wrap .i64 ((IntKind.wrap .i64 (k1 + 1)) + 1)) + 1))) ?_ ?_
       ·
        intro h108
        have h108q := (Go.Am.bne_pos h108)
        have e109 := e107.trans (Go.Am.bif_t h108)
        refine AW.seq ?_
        refine AW.reg hC  true [] [4] []
         ⟨[(4, sI (-1))], []⟩
         [] (by kernel_rfl) ?_ ?_
        ·
         exact trivial
        refine AW.ret ?_
        have e110 := e0.trans (Go.Am.elim_r e109)
        exact AW.rI (-1) e110
       ·
        intro h111
        have h111q := (Go.Am.bne_neg h111)
        have e112 := e107.trans (Go.Am.bif_f h111)
        refine AW.kp [0, 1, 5] [] ⟨[(0, sD9 a), (1, sI (IntKind.wrap .i64 ((IntKind.wrap .i64 ((IntKind.wrap .i64 (k1 + 1)) + 1)) + 1))), (5, sI ((i : Nat) : Int))], []⟩ ?_
        refine AW.skip (AW.seq ?_)
        refine AW.reg hC  true [] [0, 1, 5] []
         ⟨[(0, sD9 a), (1, sI (IntKind.wrap .i64 ((IntKind.wrap .i64 ((IntKind.wrap .i64 ((IntKind.wrap .i64 (k1 + 1)) + 1)) + 1)) + 1))), (5, sI ((i : Nat) : Int))], []⟩
         [] (by kernel_rfl) ?_ ?_
        ·
         exact trivial
        refine AW.seq ?_
        refine AW.reg hC  true [] [0, 1, 5] []
         ⟨[(0, sD9 a), (1, sI ((heldExprS_r fuel) (Xpr.Kids (List.getD a i Xpr.zero)) (IntKind.wrap .i64 ((IntKind.wrap .i64 ((IntKind.wrap .i64 ((IntKind.wrap .i64 (k1 + 1)) + 1)) + 1)) + 1)))), (5, sI ((i : Nat) : Int))], []⟩
         [IX ((i : Nat) : Int) ((List.length a : Nat) : Int), ((True) ∧ SizeOf.sizeOf (Xpr.Kids (List.getD a i Xpr.zero)) < fuel)] (by kernel_rfl) ?_ ?_
        ·
         refine ⟨?_, ?_, trivial⟩
         ·
          refine IX.of ?_
          omega
         ·
          exact ⟨trivial, Nat.lt_of_lt_of_le (kids_szL (by omega)) (Nat.le_of_lt_succ hpre.2)⟩
        refine AW.seq ?_
        refine AW.reg hC  true [] [0, 1, 5, 60] []
         ⟨[(0, sD9 a), (1, sI ((heldExprS_r fuel) (Xpr.Kids (List.getD a i Xpr.zero)) (IntKind.wrap .i64 ((IntKind.wrap .i64 ((IntKind.wrap .i64 ((IntKind.wrap .i64 (k1 + 1)) + 1)) + 1)) + 1)))), (5, sI ((i : Nat) : Int)), (60, sB (decide (((heldExprS_r fuel) (Xpr.Kids (List.getD a i Xpr.zero)) (IntKind.wrap .i64 ((IntKind.wrap .i64 ((IntKind.wrap .i64 ((IntKind.wrap .i64 (k1 + 1)) + 1)) + 1)) + 1))) < 0)))], []⟩
         [] (by kernel_rfl) ?_ ?_
        ·
         exact trivial
        refine AW.cd (decide (((heldExprS_r fuel) (Xpr.Kids (List.getD a i Xpr.zero)) (IntKind.wrap .i64 ((IntKind.wrap .i64 ((IntKind.wrap .i64 ((IntKind.wrap .i64 (k1 + 1)) + 1)) + 1)) + 1))) < 0)) ?_ ?_
        ·
         intro h113
         have h113q := (of_decide_eq_true h113)
         have e114 := e112.trans (Go.Am.bif_t h113)
         refine AW.seq ?_
         refine AW.reg hC  true [] [4] []
          ⟨[(4, sI (-1))], []⟩
          [] (by kernel_rfl) ?_ ?_
         ·
          exact trivial
         refine AW.ret ?_
         have e115 := e0.trans (Go.Am.elim_r e114)
         exact AW.rI (-1) e115
        ·
         intro h116
         have h116q := (of_decide_eq_false h116)
         have e117 := e112.trans (Go.Am.bif_f h116)
         refine AW.kp [0, 1, 5] [] ⟨[(0, sD9 a), (1, sI ((heldExprS_r fuel) (Xpr.Kids (List.getD a i Xpr.zero)) (IntKind.wrap .i64 ((IntKind.wrap .i64 ((IntKind.wrap .i64 ((IntKind.wrap .i64 (k1 + 1)) + 1)) + 1)) + 1)))), (5, sI ((i : Nat) : Int))], []⟩ ?_
         refine AW.skip (AW.r0 hC [0, 1, 5] [] ⟨[(0, sD9 a), (1, sI ((heldExprS_r fuel) (Xpr.Kids (List.getD a i Xpr.zero)) (IntKind.wrap .i64 ((IntKind.wrap .i64 ((IntKind.wrap .i64 ((IntKind.wrap .i64 (k1 + 1)) + 1)) + 1)) + 1)))), (5, sI ((i + 1 : Nat) : Int))], []⟩ [R64 ((i + 1 : Nat) : Int)] ?_ ?_)
         ·
          refine ⟨?_, trivial⟩
          ·
           refine R64.of ?_
           omega
         refine AW.back (x := (k1, i)) (((heldExprS_r fuel) (Xpr.Kids (List.getD a i Xpr.zero)) (IntKind.wrap .i64 ((IntKind.wrap .i64 ((IntKind.wrap .i64 ((IntKind.wrap .i64 (k1 + 1)) + 1)) + 1)) + 1))), i + 1) (by kernel_rfl) ⟨?_, k90q, ?_, e117⟩ ?_
         ·
          show True
          assumption
         ·
          show (List.length a) - (i + 1) < k90q
          omega
         ·
          show (List.length a) - (i + 1) < (List.length a) - i
          omega
   ·
    intro h118
    have h118q := (of_decide_eq_false h118)
    have e119 := e89.trans (Go.Am.bif_f h118)
    refine AW.kp [1] [] ⟨[(1, sI k1)], []⟩ ?_
    refine AW.exit ?_
    refine AW.meet k1 (by kernel_rfl) ⟨?_, e119⟩
    show True
    assumption
 ·
  intro k1 hR
  obtain ⟨hJ0, e120⟩ := hR
  replace hJ0 : True := hJ0
  have e121 := e0.trans (Go.Am.elim_l e120)
  refine AW.seq ?_
  refine AW.reg hC  true [] [4] []
   ⟨[(4, sI k1)], []⟩
   [] (by kernel_rfl) ?_ ?_
  ·
   exact trivial
  exact AW.ret (AW.rI k1 e121)

theorem heldExprS_fu : AllTV (heldExprS_sp.ps.map PK.ty) (fun tvs => heldExprS_sp.pre tvs → ∃ k, (heldExprS_spn k).pre tvs ∧ (heldExprS_spn k).fn tvs = heldExprS_sp.fn tvs ∧ (heldExprS_spn k).bx tvs = heldExprS_sp.bx tvs) :=
 (fun (a : List Xpr) (k0 : Int) h => ⟨SizeOf.sizeOf a + 1, (show (True) ∧ SizeOf.sizeOf a < SizeOf.sizeOf a + 1 from ⟨h, Nat.lt_succ_self _⟩), (show (heldExprS_spn (SizeOf.sizeOf a + 1)).fn [⟨(.slice (.named 1)), (a : List Xpr)⟩, ⟨(.int .i64), (k0 : Int)⟩] = ([⟨(.int .i64), (heldExprS_r (SizeOf.sizeOf a + 1) a k0)⟩] : List TV) from by kernel_rfl).trans (show ([⟨(.int .i64), (heldExprS_r (SizeOf.sizeOf a + 1) a k0)⟩] : List TV) = heldExprS_sp.fn [⟨(.slice (.named 1)), (a : List Xpr)⟩, ⟨(.int .i64), (k0 : Int)⟩] from by kernel_rfl), by kernel_rfl⟩)

theorem heldExprS_ok : FnOK Try.prog 102 heldExprS_sp := FnOK.of_fuel heldExprS_okn (fun _ => rfl) (fun _ => rfl) (AllTV.get heldExprS_fu)

def heldExpr (a : Xpr) (k0 : Int) : Int := (bif (decide ((heldExprS (Xpr.Kids a) k0) < 0)) then (-1) else (heldExprS (Xpr.Kids a) k0))

def heldExpr_sp : FnSpec := mkSpec [.val (.named 1), .val (.int .i64)] [.val (.int .i64)] (fun (a : Xpr) (k0 : Int) => True) (fun (a : Xpr) (k0 : Int) => [⟨(.int .i64), (heldExpr a k0)⟩])

theorem heldExpr_ok : FnOK Try.prog 61 heldExpr_sp := by
 have hC : CtxOK Try.prog (mkCtx tyL [(102, heldExprS_sp)]) := CtxOK.cons heldExprS_ok (CtxOK.nil tyOK)
 refine FnOK.of_body Try.func61 (by kernel_rfl) rfl (C := (mkCtx tyL [(102, heldExprS_sp)])) hC.ty (by kernel_rfl) ?_
 intro (a : Xpr) (k0 : Int) hwf hpre E
 have hpre : True := hpre
 have hw_a : Wf ⟨(.named 1), (a : Xpr)⟩ := hwf _ (List.Mem.head _)
 obtain ⟨hr_a_Kind, hr_a_Col, hl_a_Kids⟩ := Xpr.wfl hw_a
 have hw_k0 : Wf ⟨(.int .i64), (k0 : Int)⟩ := hwf _ (List.Mem.tail _ (List.Mem.head _))
 have hr_k0 : -9223372036854775808 ≤ k0 ∧ k0 ≤ 9223372036854775807 := hw_k0.int_inv
 have e0 : heldExpr a k0 = heldExpr a k0 := rfl
 refine AW.seq ?_
 refine AW.reg hC  true [] [1, 2] [8]
  ⟨[(1, sI k0), (2, .ref 8 1 0)], [(8, .box 1 [sI (Xpr.Kind a), sI (Xpr.Col a), sB (Val.Null (Xpr.V a)), sI (Val.N (Xpr.V a)), sD9 (Xpr.Kids a)])]⟩
  [] (by kernel_rfl) ?_ ?_
 ·
  exact trivial
 refine AW.seq (AW.r0 hC [1] [] ⟨[(1, sI (heldExprS (Xpr.Kids a) k0))], []⟩ [(True)] ?_ ?_)
 ·
  refine ⟨?_, trivial⟩
  ·
   trivial
 refine AW.seq (AW.seq ?_)
 refine AW.reg hC  true [] [1, 10] []
  ⟨[(1, sI (heldExprS (Xpr.Kids a) k0)), (10, sB (decide ((heldExprS (Xpr.Kids a) k0) < 0)))], []⟩
  [] (by kernel_rfl) ?_ ?_
 ·
  exact trivial
 refine AW.cd (decide ((heldExprS (Xpr.Kids a) k0) < 0)) ?_ ?_
 ·
  intro h1
  have h1q := (of_decide_eq_true h1)
  have e2 := e0.trans (Go.Am.bif_t h1)
  refine AW.seq ?_
  refine AW.reg hC  true [] [4] []
   ⟨[(4, sI (-1))], []⟩
   [] (by kernel_rfl) ?_ ?_
  ·
   exact trivial
  exact AW.ret (AW.rI (-1) e2)
 ·
  intro h3
  have h3q := (of_decide_eq_false h3)
  have e4 := e0.trans (Go.Am.bif_f h3)
  refine AW.kp [1] [] ⟨[(1, sI (heldExprS (Xpr.Kids a) k0))], []⟩ ?_
  refine AW.skip (AW.seq ?_)
  refine AW.reg hC  true [] [4] []
   ⟨[(4, sI (heldExprS (Xpr.Kids a) k0))], []⟩
   [] (by kernel_rfl) ?_ ?_
  ·
   exact trivial
  exact AW.ret (AW.rI (heldExprS (Xpr.Kids a) k0) e4)

end
end Go.Proofs.Ytodcdgolcbdkgaa
