/-
  A part of the proof of this claim (ApT3): what functions of the program compute, and plain facts of that. No conditions.
-/
import Derived.Test.YtodcdgolcbdkgaaApT2
set_option linter.all false
namespace Go.Proofs.Ytodcdgolcbdkgaa
open Go Go.Am
noncomputable section

def VL (w : Int) (e : Xpr) : Prop := ∃ l, l ≤ 8 ∧ VE w l e

theorem VE.kids2 {w : Int} {l : Nat} {e : Xpr} (h : VE w l e) : e.Kids.length ≤ 2 := by
 have := h.node.kids
 have := kids_cases e.Kind
 omega

theorem VE.two {w : Int} {l : Nat} {e : Xpr} (h : VE w l e) (hk : 3 ≤ e.Kind ∧ e.Kind ≤ 9) : e.Kids.length = 2 := by
 have := h.node.kids
 have := kids_cases e.Kind
 omega

theorem VE.down {w : Int} {l : Nat} {e : Xpr} (h : VE w (l + 1) e) {i : Nat} (hi : i < e.Kids.length) : VE w l (e.Kids.getD i Xpr.zero) := h.2 i hi

theorem VE.flat {w : Int} {e : Xpr} (h : VE w 0 e) : e.Kids.length = 0 := h.2

theorem VL.kid {w : Int} {e : Xpr} (h : VL w e) {i : Nat} (hi : i < e.Kids.length) : VL w (e.Kids.getD i Xpr.zero) := by
 obtain ⟨l, hl, h⟩ := h
 cases l with
 | zero => have := h.flat; omega
 | succ l => exact ⟨l, by omega, h.down hi⟩

theorem VL.kids2 {w : Int} {e : Xpr} (h : VL w e) : e.Kids.length ≤ 2 := by
 obtain ⟨l, hl, h⟩ := h
 exact h.kids2

theorem VL.two {w : Int} {e : Xpr} (h : VL w e) (hk : 3 ≤ e.Kind ∧ e.Kind ≤ 9) : e.Kids.length = 2 := by
 obtain ⟨l, hl, h⟩ := h
 exact h.two hk

theorem VL.val {w : Int} {e : Xpr} (h : VL w e) (hk : e.Kind = 2) : -9999 ≤ e.V.N ∧ e.V.N ≤ 9999 := by
 obtain ⟨l, hl, h⟩ := h
 have := h.node.val hk
 unfold VV at this
 split at this <;> omega

def constant (v : Val) : Xpr := (Xpr.mk 2 0 v ([] : List Xpr))

def constant_sp : FnSpec := mkSpec [.val (.named 0)] [.val (.named 1)] (fun (v : Val) => True) (fun (v : Val) => [⟨(.named 1), (constant v)⟩])

theorem constant_ok : FnOK Try.prog 128 constant_sp := by
 have hC : CtxOK Try.prog (mkCtx tyL []) := CtxOK.nil tyOK
 refine FnOK.of_body Try.func128 (by kernel_rfl) rfl (C := (mkCtx tyL [])) hC.ty (by kernel_rfl) ?_
 intro (v : Val) hwf hpre E
 have hpre : True := hpre
 have hw_v : Wf ⟨(.named 0), (v : Val)⟩ := hwf _ (List.Mem.head _)
 have hr_v_N := Val.wfl hw_v
 have e0 : constant v = constant v := rfl
 refine AW.seq (AW.r1 hC [1, 2] [4, 8] ⟨[(1, .ref 4 1 0), (2, .ref 8 1 0)], [(4, .box 1 [sB (Val.Null v), sI (Val.N v)]), (8, .box 1 [sI 0, sI 0, sB false, sI 0, .nilsl])]⟩ ?_)
 refine AW.seq (AW.r1 hC [2] [8] ⟨[(2, .ref 8 1 0)], [(8, .box 1 [sI 2, sI 0, sB (Val.Null v), sI (Val.N v), .nilsl])]⟩ ?_)
 exact AW.ret (AW.retE (β := Xpr) (fun v => [⟨(.named 1), v⟩]) (fun v => []) (v := (Xpr.mk 2 0 v ([] : List Xpr))) e0 (by kernel_rfl) rfl rfl)

def iconstant (v : Val) : Xpr := (Xpr.mk 2 0 v ([] : List Xpr))

def isConstant (e : Xpr) (t : Int) : Bool := (bif ((Xpr.Kind e) == 2) then ((truth (Xpr.V e)) == t) else false)

def isConstant_sp : FnSpec := mkSpec [.val (.named 1), .val (.int .i64)] [.val .bool] (fun (e : Xpr) (t : Int) => True) (fun (e : Xpr) (t : Int) => [⟨.bool, (isConstant e t)⟩])

theorem isConstant_ok : FnOK Try.prog 130 isConstant_sp := by
 have hC : CtxOK Try.prog (mkCtx tyL [(149, truth_sp)]) := CtxOK.cons truth_ok (CtxOK.nil tyOK)
 refine FnOK.of_body Try.func130 (by kernel_rfl) rfl (C := (mkCtx tyL [(149, truth_sp)])) hC.ty (by kernel_rfl) ?_
 intro (e : Xpr) (t : Int) hwf hpre E
 have hpre : True := hpre
 have hw_e : Wf ⟨(.named 1), (e : Xpr)⟩ := hwf _ (List.Mem.head _)
 obtain ⟨hr_e_Kind, hr_e_Col, hl_e_Kids⟩ := Xpr.wfl hw_e
 have hw_t : Wf ⟨(.int .i64), (t : Int)⟩ := hwf _ (List.Mem.tail _ (List.Mem.head _))
 have hr_t : -9223372036854775808 ≤ t ∧ t ≤ 9223372036854775807 := hw_t.int_inv
 have e0 : isConstant e t = isConstant e t := rfl
 refine AW.seq (AW.r1 hC [1, 2] [8] ⟨[(1, sI t), (2, .ref 8 1 0)], [(8, .box 1 [sI (Xpr.Kind e), sI (Xpr.Col e), sB (Val.Null (Xpr.V e)), sI (Val.N (Xpr.V e)), sD9 (Xpr.Kids e)])]⟩ ?_)
 refine AW.seq (AW.r0 hC [4] [] ⟨[(4, sB (bif ((Xpr.Kind e) == 2) then ((truth (Xpr.V e)) == t) else false))], []⟩ [((((Xpr.Kind e) == 2) = true) → ((((Xpr.Kind e) == 2) = true))), ((((Xpr.Kind e) == 2) = true) → ((((Xpr.Kind e) == 2) = true))), ((((Xpr.Kind e) == 2) = true) → (True)), ((((Xpr.Kind e) == 2) = true) → ((((Xpr.Kind e) == 2) = true))), ((((Xpr.Kind e) == 2) = true) → ((((Xpr.Kind e) == 2) = true))), ((((Xpr.Kind e) == 2) = true) → ((((Xpr.Kind e) == 2) = true)))] ?_ ?_)
 ·
  refine ⟨?_, ?_, ?_, ?_, ?_, ?_, trivial⟩
  ·
   intro g1
   have g1p0 : (Xpr.Kind e) = 2 := (Go.Am.beq_pos g1)
   assumption
  ·
   intro g2
   have g2p0 : (Xpr.Kind e) = 2 := (Go.Am.beq_pos g2)
   assumption
  ·
   intro g3
   have g3p0 : (Xpr.Kind e) = 2 := (Go.Am.beq_pos g3)
   trivial
  ·
   intro g4
   have g4p0 : (Xpr.Kind e) = 2 := (Go.Am.beq_pos g4)
   assumption
  ·
   intro g5
   have g5p0 : (Xpr.Kind e) = 2 := (Go.Am.beq_pos g5)
   assumption
  ·
   intro g6
   have g6p0 : (Xpr.Kind e) = 2 := (Go.Am.beq_pos g6)
   assumption
 exact AW.ret (AW.rB (bif ((Xpr.Kind e) == 2) then ((truth (Xpr.V e)) == t) else false) e0)

def copyExpr_l0 (self : Xpr → Xpr) (e : Xpr) : Nat → Nat → (List Xpr) → (List Xpr)
 | 0, i, ar112 => ar112
 | k + 1, i, ar112 => (bif (decide (((i : Nat) : Int) < ((List.length (Xpr.Kids e) : Nat) : Int))) then (copyExpr_l0 self e k (i + 1) (ar112 ++ ([(self (List.getD (Xpr.Kids e) i Xpr.zero))] : List Xpr))) else ar112)

def copyExpr_r : Nat → Xpr → Xpr
 | 0, e => Xpr.zero
 | fuel + 1, e => (Go.Am.andThen (copyExpr_l0 (copyExpr_r fuel) e ((List.length (Xpr.Kids e)) - 0 + 1) 0 ([] : List Xpr)) (fun z => (fun (ar112 : List Xpr) => (Xpr.mk (Xpr.Kind e) (Xpr.Col e) (Xpr.V e) ar112)) z))

def copyExpr (e : Xpr) : Xpr := copyExpr_r (SizeOf.sizeOf e + 1) e

def copyExpr_spn (fuel : Nat) : FnSpec := mkSpec [.val (.named 1)] [.val (.named 1)] (fun (e : Xpr) => (∃ w, VL w e) ∧ SizeOf.sizeOf e < fuel) (fun (e : Xpr) => [⟨(.named 1), (copyExpr_r fuel e)⟩])

def copyExpr_sp : FnSpec := mkSpec [.val (.named 1)] [.val (.named 1)] (fun (e : Xpr) => ∃ w, VL w e) (fun (e : Xpr) => [⟨(.named 1), (copyExpr e)⟩])

theorem copyExpr_okn (fuel : Nat) : FnOK Try.prog 127 (copyExpr_spn fuel) := by
 induction fuel with
 | zero => exact FnOK.never Try.func127 (by kernel_rfl) rfl (fun _ h => absurd h.2 (Nat.not_lt_zero _))
 | succ fuel ih => ?_
 have hC : CtxOK Try.prog (mkCtx tyL [(127, (copyExpr_spn fuel))]) := CtxOK.cons ih (CtxOK.nil tyOK)
 have hM : Try.prog.follows .mixedOrders = true := Try.checked.mixed
 refine FnOK.of_body Try.func127 (by kernel_rfl) rfl (C := (mkCtx tyL [(127, (copyExpr_spn fuel))])) hC.ty (by kernel_rfl) ?_
 intro (e : Xpr) hwf hpre E
 have hpre : (∃ w, VL w e) ∧ SizeOf.sizeOf e < fuel + 1 := hpre
 have hw_e : Wf ⟨(.named 1), (e : Xpr)⟩ := hwf _ (List.Mem.head _)
 obtain ⟨hr_e_Kind, hr_e_Col, hl_e_Kids⟩ := Xpr.wfl hw_e
 obtain ⟨w0, hvl⟩ := hpre.1
 have hk2 := hvl.kids2
 have e0 : copyExpr_r (fuel + 1) e = copyExpr_r (fuel + 1) e := rfl
 refine AW.seq (AW.r1 hC [1, 2] [4, 8] ⟨[(1, .ref 4 1 0), (2, .ref 8 1 0)], [(4, .box 1 [sI (Xpr.Kind e), sI (Xpr.Col e), sB (Val.Null (Xpr.V e)), sI (Val.N (Xpr.V e)), sD9 (Xpr.Kids e)]), (8, .box 1 [sI 0, sI 0, sB false, sI 0, .nilsl])]⟩ ?_)
 refine AW.seq (AW.r1 hC [1, 2, 3] [4, 8, 12] ⟨[(1, .ref 4 1 0), (2, .ref 8 1 0), (3, .ref 12 1 0)], [(4, .box 1 [sI (Xpr.Kind e), sI (Xpr.Col e), sB (Val.Null (Xpr.V e)), sI (Val.N (Xpr.V e)), sD9 (Xpr.Kids e)]), (8, .box 1 [sI 0, sI 0, sB false, sI 0, .nilsl]), (12, .box 1 [sI (Xpr.Kind e), sI (Xpr.Col e), sB (Val.Null (Xpr.V e)), sI (Val.N (Xpr.V e)), .nilsl])]⟩ ?_)
 refine AW.seq (AW.seq (AW.r1 hC [1, 2, 3, 4] [4, 8, 12] ⟨[(1, .ref 4 1 0), (2, .ref 8 1 0), (3, .ref 12 1 0), (4, sI 0)], [(4, .box 1 [sI (Xpr.Kind e), sI (Xpr.Col e), sB (Val.Null (Xpr.V e)), sI (Val.N (Xpr.V e)), sD9 (Xpr.Kids e)]), (8, .box 1 [sI 0, sI 0, sB false, sI 0, .nilsl]), (12, .box 1 [sI (Xpr.Kind e), sI (Xpr.Col e), sB (Val.Null (Xpr.V e)), sI (Val.N (Xpr.V e)), .nilsl])]⟩ ?_))
 refine AW.adoptB 12 1 4 112 [sI (Xpr.Kind e), sI (Xpr.Col e), sB (Val.Null (Xpr.V e)), sI (Val.N (Xpr.V e)), .nilsl] (.named 1) (by kernel_rfl) (by kernel_rfl) (by kernel_rfl) ?_
 refine AW.kp [1, 2, 3, 4] [4, 8, 12, 112] ⟨[(1, .ref 4 1 0), (2, .ref 8 1 0), (3, .ref 12 1 0), (4, sI 0)], [(4, .box 1 [sI (Xpr.Kind e), sI (Xpr.Col e), sB (Val.Null (Xpr.V e)), sI (Val.N (Xpr.V e)), sD9 (Xpr.Kids e)]), (8, .box 1 [sI 0, sI 0, sB false, sI 0, .nilsl]), (12, .box 1 [sI (Xpr.Kind e), sI (Xpr.Col e), sB (Val.Null (Xpr.V e)), sI (Val.N (Xpr.V e)), .arr 112 1]), (112, .arr 1 (.named 1) (([] : List Xpr) : List Xpr))]⟩ ?_
 refine AW.cutQ (α := (List Xpr)) (fun x => ⟨[(2, .ref 8 1 0), (3, .ref 12 1 0)], [(8, .box 1 [sI 0, sI 0, sB false, sI 0, .nilsl]), (12, .box 1 [sI (Xpr.Kind e), sI (Xpr.Col e), sB (Val.Null (Xpr.V e)), sI (Val.N (Xpr.V e)), .arr 112 1]), (112, .arr 1 (.named 1) (x : List Xpr))]⟩) (fun x => (True) ∧ (copyExpr_l0 (copyExpr_r fuel) e ((List.length (Xpr.Kids e)) - 0 + 1) 0 ([] : List Xpr)) = x) ?_ ?_
 ·
  skip
  refine AW.block (AW.loop (α := Nat × (List Xpr)) (fun x => ⟨[(1, .ref 4 1 0), (2, .ref 8 1 0), (3, .ref 12 1 0), (4, sI ((x.1 : Nat) : Int))], [(4, .box 1 [sI (Xpr.Kind e), sI (Xpr.Col e), sB (Val.Null (Xpr.V e)), sI (Val.N (Xpr.V e)), sD9 (Xpr.Kids e)]), (8, .box 1 [sI 0, sI 0, sB false, sI 0, .nilsl]), (12, .box 1 [sI (Xpr.Kind e), sI (Xpr.Col e), sB (Val.Null (Xpr.V e)), sI (Val.N (Xpr.V e)), .arr 112 1]), (112, .arr 1 (.named 1) (x.2 : List Xpr))]⟩) (fun x => (List.length x.2 = x.1 ∧ x.1 ≤ 2) ∧ ∃ k, (List.length (Xpr.Kids e)) - x.1 < k ∧ (copyExpr_l0 (copyExpr_r fuel) e ((List.length (Xpr.Kids e)) - 0 + 1) 0 ([] : List Xpr)) = copyExpr_l0 (copyExpr_r fuel) e k x.1 x.2) (fun x => (List.length (Xpr.Kids e)) - x.1) (0, ([] : List Xpr)) (by kernel_rfl) ⟨?_, _, Nat.lt_succ_self _, rfl⟩ ?_)
  ·
   show List.length ([] : List Xpr) = 0 ∧ 0 ≤ 2
   exact ⟨rfl, by omega⟩
  ·
   intro x hR
   obtain ⟨i, ar112⟩ := x
   obtain ⟨hI0, k19, hk17, e18⟩ := hR
   replace hI0 : List.length ar112 = i ∧ i ≤ 2 := hI0
   replace hk17 : (List.length (Xpr.Kids e)) - i < k19 := hk17
   obtain ⟨k19q, rfl⟩ : ∃ k, k19 = k + 1 := ⟨k19 - 1, by omega⟩
   refine AW.seq (AW.seq (AW.r1 hC [1, 2, 3, 4, 16] [4, 8, 12, 112] ⟨[(1, .ref 4 1 0), (2, .ref 8 1 0), (3, .ref 12 1 0), (4, sI ((i : Nat) : Int)), (16, sB (decide (((i : Nat) : Int) < ((List.length (Xpr.Kids e) : Nat) : Int))))], [(4, .box 1 [sI (Xpr.Kind e), sI (Xpr.Col e), sB (Val.Null (Xpr.V e)), sI (Val.N (Xpr.V e)), sD9 (Xpr.Kids e)]), (8, .box 1 [sI 0, sI 0, sB false, sI 0, .nilsl]), (12, .box 1 [sI (Xpr.Kind e), sI (Xpr.Col e), sB (Val.Null (Xpr.V e)), sI (Val.N (Xpr.V e)), .arr 112 1]), (112, .arr 1 (.named 1) (ar112 : List Xpr))]⟩ ?_))
   refine AW.cd (decide (((i : Nat) : Int) < ((List.length (Xpr.Kids e) : Nat) : Int))) ?_ ?_
   ·
    intro h20
    have h20q := (of_decide_eq_true h20)
    have e21 := e18.trans (Go.Am.bif_t h20)
    refine AW.kp [1, 2, 3, 4] [4, 8, 12, 112] ⟨[(1, .ref 4 1 0), (2, .ref 8 1 0), (3, .ref 12 1 0), (4, sI ((i : Nat) : Int))], [(4, .box 1 [sI (Xpr.Kind e), sI (Xpr.Col e), sB (Val.Null (Xpr.V e)), sI (Val.N (Xpr.V e)), sD9 (Xpr.Kids e)]), (8, .box 1 [sI 0, sI 0, sB false, sI 0, .nilsl]), (12, .box 1 [sI (Xpr.Kind e), sI (Xpr.Col e), sB (Val.Null (Xpr.V e)), sI (Val.N (Xpr.V e)), .arr 112 1]), (112, .arr 1 (.named 1) (ar112 : List Xpr))]⟩ ?_
    refine AW.skip (AW.seq (AW.block (AW.d0 hC hM [1, 2, 3, 4] [4, 8, 12, 112] ⟨[(1, .ref 4 1 0), (2, .ref 8 1 0), (3, .ref 12 1 0), (4, sI ((i : Nat) : Int))], [(4, .box 1 [sI (Xpr.Kind e), sI (Xpr.Col e), sB (Val.Null (Xpr.V e)), sI (Val.N (Xpr.V e)), sD9 (Xpr.Kids e)]), (8, .box 1 [sI 0, sI 0, sB false, sI 0, .nilsl]), (12, .box 1 [sI (Xpr.Kind e), sI (Xpr.Col e), sB (Val.Null (Xpr.V e)), sI (Val.N (Xpr.V e)), .arr 112 1]), (112, .arr 1 (.named 1) ((ar112 ++ ([((copyExpr_r fuel) (List.getD (Xpr.Kids e) i Xpr.zero))] : List Xpr)) : List Xpr))]⟩ [IX ((i : Nat) : Int) ((List.length (Xpr.Kids e) : Nat) : Int), ((∃ w, VL w (List.getD (Xpr.Kids e) i Xpr.zero)) ∧ SizeOf.sizeOf (List.getD (Xpr.Kids e) i Xpr.zero) < fuel), (((List.length ar112 : Nat) : Int) + ((List.length ([((copyExpr_r fuel) (List.getD (Xpr.Kids e) i Xpr.zero))] : List Xpr) : Nat) : Int) ≤ 4294967296)] ?_ ?_)))
    ·
     refine ⟨?_, ?_, ?_, trivial⟩
     ·
      refine IX.of ?_
      omega
     ·
      exact ⟨⟨w0, hvl.kid (by omega)⟩, Nat.lt_of_lt_of_le (kid_lt (by omega)) (Nat.le_of_lt_succ hpre.2)⟩
     ·
      simp only [List.length_cons, List.length_nil, List.length_append]; omega
    refine AW.r0 hC [1, 2, 3, 4] [4, 8, 12, 112] ⟨[(1, .ref 4 1 0), (2, .ref 8 1 0), (3, .ref 12 1 0), (4, sI ((i + 1 : Nat) : Int))], [(4, .box 1 [sI (Xpr.Kind e), sI (Xpr.Col e), sB (Val.Null (Xpr.V e)), sI (Val.N (Xpr.V e)), sD9 (Xpr.Kids e)]), (8, .box 1 [sI 0, sI 0, sB false, sI 0, .nilsl]), (12, .box 1 [sI (Xpr.Kind e), sI (Xpr.Col e), sB (Val.Null (Xpr.V e)), sI (Val.N (Xpr.V e)), .arr 112 1]), (112, .arr 1 (.named 1) ((ar112 ++ ([((copyExpr_r fuel) (List.getD (Xpr.Kids e) i Xpr.zero))] : List Xpr)) : List Xpr))]⟩ [R64 ((i + 1 : Nat) : Int)] ?_ ?_
    ·
     refine ⟨?_, trivial⟩
     ·
      refine R64.of ?_
      omega
    refine AW.back (x := (i, ar112)) (i + 1, (ar112 ++ ([((copyExpr_r fuel) (List.getD (Xpr.Kids e) i Xpr.zero))] : List Xpr))) (by kernel_rfl) ⟨?_, k19q, ?_, e21⟩ ?_
    ·
     show List.length (ar112 ++ ([((copyExpr_r fuel) (List.getD (Xpr.Kids e) i Xpr.zero))] : List Xpr)) = (i + 1) ∧ (i + 1) ≤ 2
     simp only [List.length_append, List.length_cons, List.length_nil]
     omega
    ·
     show (List.length (Xpr.Kids e)) - (i + 1) < k19q
     omega
    ·
     show (List.length (Xpr.Kids e)) - (i + 1) < (List.length (Xpr.Kids e)) - i
     omega
   ·
    intro h22
    have h22q := (of_decide_eq_false h22)
    have e23 := e18.trans (Go.Am.bif_f h22)
    refine AW.kp [2, 3] [8, 12, 112] ⟨[(2, .ref 8 1 0), (3, .ref 12 1 0)], [(8, .box 1 [sI 0, sI 0, sB false, sI 0, .nilsl]), (12, .box 1 [sI (Xpr.Kind e), sI (Xpr.Col e), sB (Val.Null (Xpr.V e)), sI (Val.N (Xpr.V e)), .arr 112 1]), (112, .arr 1 (.named 1) (ar112 : List Xpr))]⟩ ?_
    refine AW.exit ?_
    refine AW.meet ar112 (by kernel_rfl) ⟨?_, e23⟩
    show True
    trivial
 ·
  intro ar112 hR
  obtain ⟨hJ0, e24⟩ := hR
  replace hJ0 : True := hJ0
  have e25 := e0.trans (Go.Am.then_eq e24)
  refine AW.seq (AW.r1 hC [2] [8, 112] ⟨[(2, .ref 8 1 0)], [(8, .box 1 [sI (Xpr.Kind e), sI (Xpr.Col e), sB (Val.Null (Xpr.V e)), sI (Val.N (Xpr.V e)), .arr 112 1]), (112, .arr 1 (.named 1) (ar112 : List Xpr))]⟩ ?_)
  exact AW.ret (AW.retE (β := Xpr) (fun v => [⟨(.named 1), v⟩]) (fun v => []) (v := (Xpr.mk (Xpr.Kind e) (Xpr.Col e) (Xpr.V e) ar112)) e25 (by kernel_rfl) rfl rfl)

theorem copyExpr_fu : AllTV (copyExpr_sp.ps.map PK.ty) (fun tvs => copyExpr_sp.pre tvs → ∃ k, (copyExpr_spn k).pre tvs ∧ (copyExpr_spn k).fn tvs = copyExpr_sp.fn tvs ∧ (copyExpr_spn k).bx tvs = copyExpr_sp.bx tvs) :=
 (fun (e : Xpr) h => ⟨SizeOf.sizeOf e + 1, (show (∃ w, VL w e) ∧ SizeOf.sizeOf e < SizeOf.sizeOf e + 1 from ⟨h, Nat.lt_succ_self _⟩), (show (copyExpr_spn (SizeOf.sizeOf e + 1)).fn [⟨(.named 1), (e : Xpr)⟩] = ([⟨(.named 1), (copyExpr_r (SizeOf.sizeOf e + 1) e)⟩] : List TV) from by kernel_rfl).trans (show ([⟨(.named 1), (copyExpr_r (SizeOf.sizeOf e + 1) e)⟩] : List TV) = copyExpr_sp.fn [⟨(.named 1), (e : Xpr)⟩] from by kernel_rfl), by kernel_rfl⟩)

theorem copyExpr_ok : FnOK Try.prog 127 copyExpr_sp := FnOK.of_fuel copyExpr_okn (fun _ => rfl) (fun _ => rfl) (AllTV.get copyExpr_fu)

theorem copy_loop {self : Xpr → Xpr} {e : Xpr} (hs : ∀ i, i < e.Kids.length → self (e.Kids.getD i Xpr.zero) = e.Kids.getD i Xpr.zero) : ∀ (k i : Nat), e.Kids.length - i < k → i ≤ e.Kids.length → copyExpr_l0 self e k i (e.Kids.take i) = e.Kids := by
 intro k
 induction k with
 | zero => intro i h; omega
 | succ k ih =>
  intro i h hi
  unfold copyExpr_l0
  by_cases hlt : ((i : Nat) : Int) < ((List.length (Xpr.Kids e) : Nat) : Int)
  ·
   have hi' : i < e.Kids.length := by omega
   rw [decide_eq_true hlt, cond_true, hs i hi', show e.Kids.take i ++ [e.Kids.getD i Xpr.zero] = e.Kids.take (i + 1) by
    rw [List.take_add_one, List.getD_eq_getElem?_getD, List.getElem?_eq_getElem hi']
    rfl]
   exact ih (i + 1) (by omega) (by omega)
  ·
   rw [decide_eq_false hlt, cond_false, List.take_of_length_le (by omega)]

theorem copy_eq : ∀ (f : Nat) (e : Xpr), SizeOf.sizeOf e < f → copyExpr_r f e = e := by
 intro f
 induction f with
 | zero => intro e h; omega
 | succ f ih =>
  intro e h
  unfold copyExpr_r Go.Am.andThen
  have := copy_loop (self := copyExpr_r f) (e := e) (fun i hi => ih _ (by have := kid_lt hi; omega)) (e.Kids.length - 0 + 1) 0 (by omega) (Nat.zero_le _)
  rw [List.take_zero] at this
  rw [this]
  exact Xpr.eta e

theorem copyExpr_eq (e : Xpr) : copyExpr e = e := copy_eq _ e (Nat.lt_succ_self _)


set_option maxRecDepth 20000 in
theorem psl154 : PSl Try.prog 154 134 where
 und := Try.underlying154
 info := ⟨_, _, rfl, rfl, rfl⟩

end
end Go.Proofs.Ytodcdgolcbdkgaa
