/-
  A part of the proof of this claim (Au4): what functions of the program compute, and plain facts of that. No conditions.
-/
import Derived.Test.YtbgbekpbbcahpaaAu3
set_option linter.all false
namespace Go.Proofs.Ytbgbekpbbcahpaa
open Go Go.Am
noncomputable section

abbrev m0 (e : Xpr) : Xpr := Xpr.mk (Xpr.Kind (e.Kids.getD 0 Xpr.zero)) (Xpr.Col (e.Kids.getD 0 Xpr.zero)) (Xpr.V (e.Kids.getD 0 Xpr.zero)) (Xpr.Kids (e.Kids.getD 0 Xpr.zero))
abbrev m1 (e : Xpr) : Xpr := Xpr.mk (Xpr.Kind (e.Kids.getD 1 Xpr.zero)) (Xpr.Col (e.Kids.getD 1 Xpr.zero)) (Xpr.V (e.Kids.getD 1 Xpr.zero)) (Xpr.Kids (e.Kids.getD 1 Xpr.zero))

def VL (w : Int) (e : Xpr) : Prop := ∃ l, l ≤ 8 ∧ VE w l e

theorem VE.kids2 {w : Int} {l : Nat} {e : Xpr} (h : VE w l e) : e.Kids.length ≤ 2 := by
 have := h.node.kids
 have := kids_cases e.Kind
 omega

theorem VE.two {w : Int} {l : Nat} {e : Xpr} (h : VE w l e) (hk : 3 ≤ e.Kind ∧ e.Kind ≤ 9) : e.Kids.length = 2 := by
 have := h.node.kids
 have := kids_cases e.Kind
 omega

theorem VE.down {w : Int} {l : Nat} {e : Xpr} (h : VE w (l + 1) e) {i : Nat} (hi : i < e.Kids.length) : VE w l (e.Kids.getD i Xpr.zero) := h.2 i hi

theorem VE.flat {w : Int} {e : Xpr} (h : VE w 0 e) : e.Kids.length = 0 := h.2

theorem VL.kid {w : Int} {e : Xpr} (h : VL w e) {i : Nat} (hi : i < e.Kids.length) : VL w (e.Kids.getD i Xpr.zero) := by
 obtain ⟨l, hl, h⟩ := h
 cases l with
 | zero => have := h.flat; omega
 | succ l => exact ⟨l, by omega, h.down hi⟩

theorem VL.kids2 {w : Int} {e : Xpr} (h : VL w e) : e.Kids.length ≤ 2 := by
 obtain ⟨l, hl, h⟩ := h
 exact h.kids2

theorem VL.two {w : Int} {e : Xpr} (h : VL w e) (hk : 3 ≤ e.Kind ∧ e.Kind ≤ 9) : e.Kids.length = 2 := by
 obtain ⟨l, hl, h⟩ := h
 exact h.two hk

theorem VL.val {w : Int} {e : Xpr} (h : VL w e) (hk : e.Kind = 2) : -9999 ≤ e.V.N ∧ e.V.N ≤ 9999 := by
 obtain ⟨l, hl, h⟩ := h
 have := h.node.val hk
 unfold VV at this
 split at this <;> omega

def isColumn (e : Xpr) (col : Int) : Bool := (bif ((Xpr.Kind e) == 1) then ((Xpr.Col e) == col) else false)

def isColumn_sp : FnSpec := mkSpec [.val (.named 1), .val (.int .i64)] [.val .bool] (fun (e : Xpr) (col : Int) => True) (fun (e : Xpr) (col : Int) => [⟨.bool, (isColumn e col)⟩])

theorem isColumn_ok : FnOK Try.prog 40 isColumn_sp := by
 have hC : CtxOK Try.prog (mkCtx tyL []) := CtxOK.nil tyOK
 refine FnOK.of_body Try.func40 (by kernel_rfl) rfl (C := (mkCtx tyL [])) hC.ty (by kernel_rfl) ?_
 intro (e : Xpr) (col : Int) hwf hpre E
 have hpre : True := hpre
 have hw_e : Wf ⟨(.named 1), (e : Xpr)⟩ := hwf _ (List.Mem.head _)
 obtain ⟨hr_e_Kind, hr_e_Col, hl_e_Kids⟩ := Xpr.wfl hw_e
 have hw_col : Wf ⟨(.int .i64), (col : Int)⟩ := hwf _ (List.Mem.tail _ (List.Mem.head _))
 have hr_col : -9223372036854775808 ≤ col ∧ col ≤ 9223372036854775807 := hw_col.int_inv
 have e0 : isColumn e col = isColumn e col := rfl
 refine AW.seq (AW.r1 hC [1, 2] [8] ⟨[(1, sI col), (2, .ref 8 1 0)], [(8, .box 1 [sI (Xpr.Kind e), sI (Xpr.Col e), sB (Val.Null (Xpr.V e)), sI (Val.N (Xpr.V e)), sD11 (Xpr.Kids e)])]⟩ ?_)
 refine AW.seq (AW.r0 hC [4] [] ⟨[(4, sB (bif ((Xpr.Kind e) == 1) then ((Xpr.Col e) == col) else false))], []⟩ [((((Xpr.Kind e) == 1) = true) → ((((Xpr.Kind e) == 1) = true))), ((((Xpr.Kind e) == 1) = true) → ((((Xpr.Kind e) == 1) = true))), ((((Xpr.Kind e) == 1) = true) → ((((Xpr.Kind e) == 1) = true))), ((((Xpr.Kind e) == 1) = true) → ((((Xpr.Kind e) == 1) = true)))] ?_ ?_)
 ·
  refine ⟨?_, ?_, ?_, ?_, trivial⟩
  ·
   intro g1
   have g1p0 : (Xpr.Kind e) = 1 := (Go.Am.beq_pos g1)
   assumption
  ·
   intro g2
   have g2p0 : (Xpr.Kind e) = 1 := (Go.Am.beq_pos g2)
   assumption
  ·
   intro g3
   have g3p0 : (Xpr.Kind e) = 1 := (Go.Am.beq_pos g3)
   assumption
  ·
   intro g4
   have g4p0 : (Xpr.Kind e) = 1 := (Go.Am.beq_pos g4)
   assumption
 exact AW.ret (AW.rB (bif ((Xpr.Kind e) == 1) then ((Xpr.Col e) == col) else false) e0)

def meet (a : Rng) (b : Rng) : Rng := (Rng.mk (if (Rng.Low b) > (Rng.Low a) then (Rng.Low b) else (Rng.Low a)) (if (Rng.High b) < (Rng.High a) then (Rng.High b) else (Rng.High a)))

def meet_sp : FnSpec := mkSpec [.val (.named 4), .val (.named 4)] [.val (.named 4)] (fun (a : Rng) (b : Rng) => True) (fun (a : Rng) (b : Rng) => [⟨(.named 4), (meet a b)⟩])

theorem meet_ok : FnOK Try.prog 19 meet_sp := by
 have hC : CtxOK Try.prog (mkCtx tyL []) := CtxOK.nil tyOK
 refine FnOK.of_body Try.func19 (by kernel_rfl) rfl (C := (mkCtx tyL [])) hC.ty (by kernel_rfl) ?_
 intro (a : Rng) (b : Rng) hwf hpre E
 have hpre : True := hpre
 have hw_a : Wf ⟨(.named 4), (a : Rng)⟩ := hwf _ (List.Mem.head _)
 obtain ⟨hr_a_Low, hr_a_High⟩ := Rng.wfl hw_a
 have hw_b : Wf ⟨(.named 4), (b : Rng)⟩ := hwf _ (List.Mem.tail _ (List.Mem.head _))
 obtain ⟨hr_b_Low, hr_b_High⟩ := Rng.wfl hw_b
 have e0 : meet a b = meet a b := rfl
 refine AW.seq (AW.r1 hC [2, 3, 4] [8, 12, 16] ⟨[(2, .ref 8 1 0), (3, .ref 12 1 0), (4, .ref 16 1 0)], [(8, .box 1 [sI (Rng.Low a), sI (Rng.High a)]), (12, .box 1 [sI (Rng.Low b), sI (Rng.High b)]), (16, .box 1 [sI 0, sI 0])]⟩ ?_)
 refine AW.seq (AW.r1 hC [4] [16] ⟨[(4, .ref 16 1 0)], [(16, .box 1 [sI (if (Rng.Low b) > (Rng.Low a) then (Rng.Low b) else (Rng.Low a)), sI (if (Rng.High b) < (Rng.High a) then (Rng.High b) else (Rng.High a))])]⟩ ?_)
 exact AW.ret (AW.retE (β := Rng) (fun v => [⟨(.named 4), v⟩]) (fun v => []) (v := (Rng.mk (if (Rng.Low b) > (Rng.Low a) then (Rng.Low b) else (Rng.Low a)) (if (Rng.High b) < (Rng.High a) then (Rng.High b) else (Rng.High a)))) e0 (by kernel_rfl) rfl rfl)

def intersected (r : Rng) (s : Rng) : Rng := (Rng.mk (if (Rng.Low s) > (Rng.Low r) then (Rng.Low s) else (Rng.Low r)) (if (Rng.High s) < (Rng.High r) then (Rng.High s) else (Rng.High r)))

def intersected_sp : FnSpec := mkSpec [.val (.named 4), .val (.named 4)] [.val (.named 4)] (fun (r : Rng) (s : Rng) => True) (fun (r : Rng) (s : Rng) => [⟨(.named 4), (intersected r s)⟩])

theorem intersected_ok : FnOK Try.prog 27 intersected_sp := by
 have hC : CtxOK Try.prog (mkCtx tyL []) := CtxOK.nil tyOK
 refine FnOK.of_body Try.func27 (by kernel_rfl) rfl (C := (mkCtx tyL [])) hC.ty (by kernel_rfl) ?_
 intro (r : Rng) (s : Rng) hwf hpre E
 have hpre : True := hpre
 have hw_r : Wf ⟨(.named 4), (r : Rng)⟩ := hwf _ (List.Mem.head _)
 obtain ⟨hr_r_Low, hr_r_High⟩ := Rng.wfl hw_r
 have hw_s : Wf ⟨(.named 4), (s : Rng)⟩ := hwf _ (List.Mem.tail _ (List.Mem.head _))
 obtain ⟨hr_s_Low, hr_s_High⟩ := Rng.wfl hw_s
 have e0 : intersected r s = intersected r s := rfl
 refine AW.seq (AW.r1 hC [2, 3, 4] [8, 12, 16] ⟨[(2, .ref 8 1 0), (3, .ref 12 1 0), (4, .ref 16 1 0)], [(8, .box 1 [sI (Rng.Low r), sI (Rng.High r)]), (12, .box 1 [sI (Rng.Low s), sI (Rng.High s)]), (16, .box 1 [sI 0, sI 0])]⟩ ?_)
 refine AW.seq (AW.r1 hC [4] [16] ⟨[(4, .ref 16 1 0)], [(16, .box 1 [sI (if (Rng.Low s) > (Rng.Low r) then (Rng.Low s) else (Rng.Low r)), sI (if (Rng.High s) < (Rng.High r) then (Rng.High s) else (Rng.High r))])]⟩ ?_)
 exact AW.ret (AW.retE (β := Rng) (fun v => [⟨(.named 4), v⟩]) (fun v => []) (v := (Rng.mk (if (Rng.Low s) > (Rng.Low r) then (Rng.Low s) else (Rng.Low r)) (if (Rng.High s) < (Rng.High r) then (Rng.High s) else (Rng.High r)))) e0 (by kernel_rfl) rfl rfl)

def rangeOf (e : Xpr) (col : Int) : Rng := (bif (bif ((Xpr.Kind e) != 6) then ((Xpr.Kind e) != 7) else false) then (Rng.mk (-9999) 9999) else (bif (bif (bif (isColumn (m0 e) col) then ((Xpr.Kind (List.getD (Xpr.Kids e) 1 Xpr.zero)) == 2) else false) then (Val.Null (Xpr.V (List.getD (Xpr.Kids e) 1 Xpr.zero))) else false) then (bif (bif (bif (isColumn (m0 e) col) then ((Xpr.Kind (List.getD (Xpr.Kids e) 1 Xpr.zero)) == 2) else false) then (Val.Null (Xpr.V (List.getD (Xpr.Kids e) 1 Xpr.zero))) else false) then (Rng.mk 1 0) else (bif (bif (bif ((Xpr.Kind e) == 6) then (isColumn (m0 e) col) else false) then ((Xpr.Kind (List.getD (Xpr.Kids e) 1 Xpr.zero)) == 2) else false) then (Rng.mk (Val.N (Xpr.V (List.getD (Xpr.Kids e) 1 Xpr.zero))) (Val.N (Xpr.V (List.getD (Xpr.Kids e) 1 Xpr.zero)))) else (bif (bif (bif ((Xpr.Kind e) == 6) then (isColumn (m1 e) col) else false) then ((Xpr.Kind (List.getD (Xpr.Kids e) 0 Xpr.zero)) == 2) else false) then (Rng.mk (Val.N (Xpr.V (List.getD (Xpr.Kids e) 0 Xpr.zero))) (Val.N (Xpr.V (List.getD (Xpr.Kids e) 0 Xpr.zero)))) else (bif (bif (bif ((Xpr.Kind e) == 7) then (isColumn (m0 e) col) else false) then ((Xpr.Kind (List.getD (Xpr.Kids e) 1 Xpr.zero)) == 2) else false) then (Rng.mk (-9999) ((Val.N (Xpr.V (List.getD (Xpr.Kids e) 1 Xpr.zero))) - 1)) else (bif (bif (bif ((Xpr.Kind e) == 7) then (isColumn (m1 e) col) else false) then ((Xpr.Kind (List.getD (Xpr.Kids e) 0 Xpr.zero)) == 2) else false) then (Rng.mk ((Val.N (Xpr.V (List.getD (Xpr.Kids e) 0 Xpr.zero))) + 1) 9999) else (Rng.mk (-9999) 9999)))))) else (bif (bif (bif (isColumn (m1 e) col) then ((Xpr.Kind (List.getD (Xpr.Kids e) 0 Xpr.zero)) == 2) else false) then (Val.Null (Xpr.V (List.getD (Xpr.Kids e) 0 Xpr.zero))) else false) then (Rng.mk 1 0) else (bif (bif (bif ((Xpr.Kind e) == 6) then (isColumn (m0 e) col) else false) then ((Xpr.Kind (List.getD (Xpr.Kids e) 1 Xpr.zero)) == 2) else false) then (Rng.mk (Val.N (Xpr.V (List.getD (Xpr.Kids e) 1 Xpr.zero))) (Val.N (Xpr.V (List.getD (Xpr.Kids e) 1 Xpr.zero)))) else (bif (bif (bif ((Xpr.Kind e) == 6) then (isColumn (m1 e) col) else false) then ((Xpr.Kind (List.getD (Xpr.Kids e) 0 Xpr.zero)) == 2) else false) then (Rng.mk (Val.N (Xpr.V (List.getD (Xpr.Kids e) 0 Xpr.zero))) (Val.N (Xpr.V (List.getD (Xpr.Kids e) 0 Xpr.zero)))) else (bif (bif (bif ((Xpr.Kind e) == 7) then (isColumn (m0 e) col) else false) then ((Xpr.Kind (List.getD (Xpr.Kids e) 1 Xpr.zero)) == 2) else false) then (Rng.mk (-9999) ((Val.N (Xpr.V (List.getD (Xpr.Kids e) 1 Xpr.zero))) - 1)) else (bif (bif (bif ((Xpr.Kind e) == 7) then (isColumn (m1 e) col) else false) then ((Xpr.Kind (List.getD (Xpr.Kids e) 0 Xpr.zero)) == 2) else false) then (Rng.mk ((Val.N (Xpr.V (List.getD (Xpr.Kids e) 0 Xpr.zero))) + 1) 9999) else (Rng.mk (-9999) 9999))))))))

def rangeOf_sp : FnSpec := mkSpec [.val (.named 1), .val (.int .i64)] [.val (.named 4)] (fun (e : Xpr) (col : Int) => ∃ w, VL w e) (fun (e : Xpr) (col : Int) => [⟨(.named 4), (rangeOf e col)⟩])

theorem rangeOf_ok : FnOK Try.prog 20 rangeOf_sp := by
 have hC : CtxOK Try.prog (mkCtx tyL [(40, isColumn_sp)]) := CtxOK.cons isColumn_ok (CtxOK.nil tyOK)
 refine FnOK.of_body Try.func20 (by kernel_rfl) rfl (C := (mkCtx tyL [(40, isColumn_sp)])) hC.ty (by kernel_rfl) ?_
 intro (e : Xpr) (col : Int) hwf hpre E
 have hpre : ∃ w, VL w e := hpre
 have hw_e : Wf ⟨(.named 1), (e : Xpr)⟩ := hwf _ (List.Mem.head _)
 obtain ⟨hr_e_Kind, hr_e_Col, hl_e_Kids⟩ := Xpr.wfl hw_e
 have hw_col : Wf ⟨(.int .i64), (col : Int)⟩ := hwf _ (List.Mem.tail _ (List.Mem.head _))
 have hr_col : -9223372036854775808 ≤ col ∧ col ≤ 9223372036854775807 := hw_col.int_inv
 obtain ⟨w0, hvl⟩ := hpre
 have hk2 := hvl.kids2
 have htw := hvl.two
 have hv1 := fun (h : 1 < e.Kids.length) => (hvl.kid (i := 1) h).val
 have hv0 := fun (h : 0 < e.Kids.length) => (hvl.kid (i := 0) h).val
 have e0 : rangeOf e col = rangeOf e col := rfl
 refine AW.seq (AW.r1 hC [1, 2, 4] [8, 16] ⟨[(1, sI col), (2, .ref 8 1 0), (4, .ref 16 1 0)], [(8, .box 1 [sI (Xpr.Kind e), sI (Xpr.Col e), sB (Val.Null (Xpr.V e)), sI (Val.N (Xpr.V e)), sD11 (Xpr.Kids e)]), (16, .box 1 [sI 0, sI 0])]⟩ ?_)
 refine AW.seq (AW.r1 hC [1, 2, 4, 5] [8, 16, 20] ⟨[(1, sI col), (2, .ref 8 1 0), (4, .ref 16 1 0), (5, .ref 20 1 0)], [(8, .box 1 [sI (Xpr.Kind e), sI (Xpr.Col e), sB (Val.Null (Xpr.V e)), sI (Val.N (Xpr.V e)), sD11 (Xpr.Kids e)]), (16, .box 1 [sI 0, sI 0]), (20, .box 1 [sI (-9999), sI 9999])]⟩ ?_)
 refine AW.seq (AW.seq (AW.r0 hC [1, 2, 4, 5, 16] [8, 16, 20] ⟨[(1, sI col), (2, .ref 8 1 0), (4, .ref 16 1 0), (5, .ref 20 1 0), (16, sB (bif ((Xpr.Kind e) != 6) then ((Xpr.Kind e) != 7) else false))], [(8, .box 1 [sI (Xpr.Kind e), sI (Xpr.Col e), sB (Val.Null (Xpr.V e)), sI (Val.N (Xpr.V e)), sD11 (Xpr.Kids e)]), (16, .box 1 [sI 0, sI 0]), (20, .box 1 [sI (-9999), sI 9999])]⟩ [((((Xpr.Kind e) != 6) = true) → ((((Xpr.Kind e) != 6) = true))), ((((Xpr.Kind e) != 6) = true) → ((((Xpr.Kind e) != 6) = true))), ((((Xpr.Kind e) != 6) = true) → ((((Xpr.Kind e) != 6) = true)))] ?_ ?_))
 ·
  refine ⟨?_, ?_, ?_, trivial⟩
  ·
   intro g1
   have g1p0 : (Xpr.Kind e) ≠ 6 := (Go.Am.bne_pos g1)
   assumption
  ·
   intro g2
   have g2p0 : (Xpr.Kind e) ≠ 6 := (Go.Am.bne_pos g2)
   assumption
  ·
   intro g3
   have g3p0 : (Xpr.Kind e) ≠ 6 := (Go.Am.bne_pos g3)
   assumption
 refine AW.cd (bif ((Xpr.Kind e) != 6) then ((Xpr.Kind e) != 7) else false) ?_ ?_
 ·
  intro h4
  have h4q : ((Xpr.Kind e) ≠ 6) ∧ ((Xpr.Kind e) ≠ 7) := (And.imp (fun h => (Go.Am.bne_pos h)) (fun h => (Go.Am.bne_pos h)) (Go.Am.and_pos h4))
  have e5 := e0.trans (Go.Am.bif_t h4)
  refine AW.seq (AW.r1 hC [4] [16] ⟨[(4, .ref 16 1 0)], [(16, .box 1 [sI (-9999), sI 9999])]⟩ ?_)
  exact AW.ret (AW.retE (β := Rng) (fun v => [⟨(.named 4), v⟩]) (fun v => []) (v := (Rng.mk (-9999) 9999)) e5 (by kernel_rfl) rfl rfl)
 ·
  intro h6
  have h6q : ((Xpr.Kind e) = 6) ∨ ((Xpr.Kind e) = 7) := (Or.imp (fun h => (Go.Am.bne_neg h)) (fun h => (Go.Am.bne_neg h)) (Go.Am.and_neg h6))
  have e7 := e0.trans (Go.Am.bif_f h6)
  refine AW.kp [1, 2, 4, 5] [8, 16, 20] ⟨[(1, sI col), (2, .ref 8 1 0), (4, .ref 16 1 0), (5, .ref 20 1 0)], [(8, .box 1 [sI (Xpr.Kind e), sI (Xpr.Col e), sB (Val.Null (Xpr.V e)), sI (Val.N (Xpr.V e)), sD11 (Xpr.Kids e)]), (16, .box 1 [sI 0, sI 0]), (20, .box 1 [sI (-9999), sI 9999])]⟩ ?_
  refine AW.skip (AW.seq (AW.r0 hC [1, 2, 4, 5, 6] [8, 16, 20, 24] ⟨[(1, sI col), (2, .ref 8 1 0), (4, .ref 16 1 0), (5, .ref 20 1 0), (6, .ref 24 1 0)], [(8, .box 1 [sI (Xpr.Kind e), sI (Xpr.Col e), sB (Val.Null (Xpr.V e)), sI (Val.N (Xpr.V e)), sD11 (Xpr.Kids e)]), (16, .box 1 [sI 0, sI 0]), (20, .box 1 [sI (-9999), sI 9999]), (24, .box 1 [sI (Xpr.Kind (List.getD (Xpr.Kids e) 0 Xpr.zero)), sI (Xpr.Col (List.getD (Xpr.Kids e) 0 Xpr.zero)), sB (Val.Null (Xpr.V (List.getD (Xpr.Kids e) 0 Xpr.zero))), sI (Val.N (Xpr.V (List.getD (Xpr.Kids e) 0 Xpr.zero))), sD11 (Xpr.Kids (List.getD (Xpr.Kids e) 0 Xpr.zero))])]⟩ [IX (0 : Int) ((List.length (Xpr.Kids e) : Nat) : Int)] ?_ ?_))
  ·
   refine ⟨?_, trivial⟩
   ·
    refine IX.of ?_
    omega
  refine AW.seq (AW.r0 hC [1, 2, 4, 5, 6, 7] [8, 16, 20, 24, 28] ⟨[(1, sI col), (2, .ref 8 1 0), (4, .ref 16 1 0), (5, .ref 20 1 0), (6, .ref 24 1 0), (7, .ref 28 1 0)], [(8, .box 1 [sI (Xpr.Kind e), sI (Xpr.Col e), sB (Val.Null (Xpr.V e)), sI (Val.N (Xpr.V e)), sD11 (Xpr.Kids e)]), (16, .box 1 [sI 0, sI 0]), (20, .box 1 [sI (-9999), sI 9999]), (24, .box 1 [sI (Xpr.Kind (List.getD (Xpr.Kids e) 0 Xpr.zero)), sI (Xpr.Col (List.getD (Xpr.Kids e) 0 Xpr.zero)), sB (Val.Null (Xpr.V (List.getD (Xpr.Kids e) 0 Xpr.zero))), sI (Val.N (Xpr.V (List.getD (Xpr.Kids e) 0 Xpr.zero))), sD11 (Xpr.Kids (List.getD (Xpr.Kids e) 0 Xpr.zero))]), (28, .box 1 [sI (Xpr.Kind (List.getD (Xpr.Kids e) 1 Xpr.zero)), sI (Xpr.Col (List.getD (Xpr.Kids e) 1 Xpr.zero)), sB (Val.Null (Xpr.V (List.getD (Xpr.Kids e) 1 Xpr.zero))), sI (Val.N (Xpr.V (List.getD (Xpr.Kids e) 1 Xpr.zero))), sD11 (Xpr.Kids (List.getD (Xpr.Kids e) 1 Xpr.zero))])]⟩ [IX (1 : Int) ((List.length (Xpr.Kids e) : Nat) : Int)] ?_ ?_)
  ·
   refine ⟨?_, trivial⟩
   ·
    refine IX.of ?_
    omega
  refine AW.seq (AW.block (AW.seq (AW.seq (AW.r0 hC [1, 2, 4, 5, 6, 7, 26] [8, 16, 20, 24, 28] ⟨[(1, sI col), (2, .ref 8 1 0), (4, .ref 16 1 0), (5, .ref 20 1 0), (6, .ref 24 1 0), (7, .ref 28 1 0), (26, sB (bif (bif (isColumn (m0 e) col) then ((Xpr.Kind (List.getD (Xpr.Kids e) 1 Xpr.zero)) == 2) else false) then (Val.Null (Xpr.V (List.getD (Xpr.Kids e) 1 Xpr.zero))) else false))], [(8, .box 1 [sI (Xpr.Kind e), sI (Xpr.Col e), sB (Val.Null (Xpr.V e)), sI (Val.N (Xpr.V e)), sD11 (Xpr.Kids e)]), (16, .box 1 [sI 0, sI 0]), (20, .box 1 [sI (-9999), sI 9999]), (24, .box 1 [sI (Xpr.Kind (List.getD (Xpr.Kids e) 0 Xpr.zero)), sI (Xpr.Col (List.getD (Xpr.Kids e) 0 Xpr.zero)), sB (Val.Null (Xpr.V (List.getD (Xpr.Kids e) 0 Xpr.zero))), sI (Val.N (Xpr.V (List.getD (Xpr.Kids e) 0 Xpr.zero))), sD11 (Xpr.Kids (List.getD (Xpr.Kids e) 0 Xpr.zero))]), (28, .box 1 [sI (Xpr.Kind (List.getD (Xpr.Kids e) 1 Xpr.zero)), sI (Xpr.Col (List.getD (Xpr.Kids e) 1 Xpr.zero)), sB (Val.Null (Xpr.V (List.getD (Xpr.Kids e) 1 Xpr.zero))), sI (Val.N (Xpr.V (List.getD (Xpr.Kids e) 1 Xpr.zero))), sD11 (Xpr.Kids (List.getD (Xpr.Kids e) 1 Xpr.zero))])]⟩ [(True), (((isColumn (m0 e) col) = true) → (((isColumn (m0 e) col) = true))), (((isColumn (m0 e) col) = true) → (((isColumn (m0 e) col) = true))), (((isColumn (m0 e) col) = true) → (((isColumn (m0 e) col) = true))), (((bif (isColumn (m0 e) col) then ((Xpr.Kind (List.getD (Xpr.Kids e) 1 Xpr.zero)) == 2) else false) = true) → (((bif (isColumn (m0 e) col) then ((Xpr.Kind (List.getD (Xpr.Kids e) 1 Xpr.zero)) == 2) else false) = true))), (((bif (isColumn (m0 e) col) then ((Xpr.Kind (List.getD (Xpr.Kids e) 1 Xpr.zero)) == 2) else false) = true) → (((bif (isColumn (m0 e) col) then ((Xpr.Kind (List.getD (Xpr.Kids e) 1 Xpr.zero)) == 2) else false) = true))), (((bif (isColumn (m0 e) col) then ((Xpr.Kind (List.getD (Xpr.Kids e) 1 Xpr.zero)) == 2) else false) = true) → (((bif (isColumn (m0 e) col) then ((Xpr.Kind (List.getD (Xpr.Kids e) 1 Xpr.zero)) == 2) else false) = true)))] ?_ ?_))))
  ·
   refine ⟨?_, ?_, ?_, ?_, ?_, ?_, ?_, trivial⟩
   ·
    trivial
   ·
    intro g8
    have g8p0 : (isColumn (m0 e) col) = true := g8
    assumption
   ·
    intro g9
    have g9p0 : (isColumn (m0 e) col) = true := g9
    assumption
   ·
    intro g10
    have g10p0 : (isColumn (m0 e) col) = true := g10
    assumption
   ·
    intro g11
    have g11p0 : ((isColumn (m0 e) col) = true) ∧ ((Xpr.Kind (List.getD (Xpr.Kids e) 1 Xpr.zero)) = 2) := (And.imp (fun h => h) (fun h => (Go.Am.beq_pos h)) (Go.Am.and_pos g11))
    assumption
   ·
    intro g12
    have g12p0 : ((isColumn (m0 e) col) = true) ∧ ((Xpr.Kind (List.getD (Xpr.Kids e) 1 Xpr.zero)) = 2) := (And.imp (fun h => h) (fun h => (Go.Am.beq_pos h)) (Go.Am.and_pos g12))
    assumption
   ·
    intro g13
    have g13p0 : ((isColumn (m0 e) col) = true) ∧ ((Xpr.Kind (List.getD (Xpr.Kids e) 1 Xpr.zero)) = 2) := (And.imp (fun h => h) (fun h => (Go.Am.beq_pos h)) (Go.Am.and_pos g13))
    assumption
  refine AW.cd (bif (bif (isColumn (m0 e) col) then ((Xpr.Kind (List.getD (Xpr.Kids e) 1 Xpr.zero)) == 2) else false) then (Val.Null (Xpr.V (List.getD (Xpr.Kids e) 1 Xpr.zero))) else false) ?_ ?_
  ·
   intro h14
   have h14q : (((isColumn (m0 e) col) = true) ∧ ((Xpr.Kind (List.getD (Xpr.Kids e) 1 Xpr.zero)) = 2)) ∧ ((Val.Null (Xpr.V (List.getD (Xpr.Kids e) 1 Xpr.zero))) = true) := (And.imp (fun h => (And.imp (fun h => h) (fun h => (Go.Am.beq_pos h)) (Go.Am.and_pos h))) (fun h => h) (Go.Am.and_pos h14))
   have e15 := e7.trans (Go.Am.bif_t h14)
   refine AW.skip (AW.cd (bif (bif (isColumn (m0 e) col) then ((Xpr.Kind (List.getD (Xpr.Kids e) 1 Xpr.zero)) == 2) else false) then (Val.Null (Xpr.V (List.getD (Xpr.Kids e) 1 Xpr.zero))) else false) ?_ ?_)
   ·
    intro h16
    have h16q : (((isColumn (m0 e) col) = true) ∧ ((Xpr.Kind (List.getD (Xpr.Kids e) 1 Xpr.zero)) = 2)) ∧ ((Val.Null (Xpr.V (List.getD (Xpr.Kids e) 1 Xpr.zero))) = true) := (And.imp (fun h => (And.imp (fun h => h) (fun h => (Go.Am.beq_pos h)) (Go.Am.and_pos h))) (fun h => h) (Go.Am.and_pos h16))
    have e17 := e15.trans (Go.Am.bif_t h16)
    refine AW.seq (AW.r1 hC [4] [16] ⟨[(4, .ref 16 1 0)], [(16, .box 1 [sI 1, sI 0])]⟩ ?_)
    exact AW.ret (AW.retE (β := Rng) (fun v => [⟨(.named 4), v⟩]) (fun v => []) (v := (Rng.mk 1 0)) e17 (by kernel_rfl) rfl rfl)
   ·
    intro h18
    have h18q : (((isColumn (m0 e) col) = false) ∨ ((Xpr.Kind (List.getD (Xpr.Kids e) 1 Xpr.zero)) ≠ 2)) ∨ ((Val.Null (Xpr.V (List.getD (Xpr.Kids e) 1 Xpr.zero))) = false) := (Or.imp (fun h => (Or.imp (fun h => h) (fun h => (Go.Am.beq_neg h)) (Go.Am.and_neg h))) (fun h => h) (Go.Am.and_neg h18))
    have e19 := e15.trans (Go.Am.bif_f h18)
    refine AW.seq (AW.r0 hC [1, 2, 4, 5, 6, 7, 54] [8, 16, 20, 24, 28] ⟨[(1, sI col), (2, .ref 8 1 0), (4, .ref 16 1 0), (5, .ref 20 1 0), (6, .ref 24 1 0), (7, .ref 28 1 0), (54, sB (bif (bif ((Xpr.Kind e) == 6) then (isColumn (m0 e) col) else false) then ((Xpr.Kind (List.getD (Xpr.Kids e) 1 Xpr.zero)) == 2) else false))], [(8, .box 1 [sI (Xpr.Kind e), sI (Xpr.Col e), sB (Val.Null (Xpr.V e)), sI (Val.N (Xpr.V e)), sD11 (Xpr.Kids e)]), (16, .box 1 [sI 0, sI 0]), (20, .box 1 [sI (-9999), sI 9999]), (24, .box 1 [sI (Xpr.Kind (List.getD (Xpr.Kids e) 0 Xpr.zero)), sI (Xpr.Col (List.getD (Xpr.Kids e) 0 Xpr.zero)), sB (Val.Null (Xpr.V (List.getD (Xpr.Kids e) 0 Xpr.zero))), sI (Val.N (Xpr.V (List.getD (Xpr.Kids e) 0 Xpr.zero))), sD11 (Xpr.Kids (List.getD (Xpr.Kids e) 0 Xpr.zero))]), (28, .box 1 [sI (Xpr.Kind (List.getD (Xpr.Kids e) 1 Xpr.zero)), sI (Xpr.Col (List.getD (Xpr.Kids e) 1 Xpr.zero)), sB (Val.Null (Xpr.V (List.getD (Xpr.Kids e) 1 Xpr.zero))), sI (Val.N (Xpr.V (List.getD (Xpr.Kids e) 1 Xpr.zero))), sD11 (Xpr.Kids (List.getD (Xpr.Kids e) 1 Xpr.zero))])]⟩ [((((Xpr.Kind e) == 6) = true) → ((((Xpr.Kind e) == 6) = true))), ((((Xpr.Kind e) == 6) = true) → ((((Xpr.Kind e) == 6) = true))), ((((Xpr.Kind e) == 6) = true) → (True)), ((((Xpr.Kind e) == 6) = true) → ((((Xpr.Kind e) == 6) = true))), (((bif ((Xpr.Kind e) == 6) then (isColumn (m0 e) col) else false) = true) → (((bif ((Xpr.Kind e) == 6) then (isColumn (m0 e) col) else false) = true))), (((bif ((Xpr.Kind e) == 6) then (isColumn (m0 e) col) else false) = true) → (((bif ((Xpr.Kind e) == 6) then (isColumn (m0 e) col) else false) = true))), (((bif ((Xpr.Kind e) == 6) then (isColumn (m0 e) col) else false) = true) → (((bif ((Xpr.Kind e) == 6) then (isColumn (m0 e) col) else false) = true)))] ?_ ?_)
    ·
     refine ⟨?_, ?_, ?_, ?_, ?_, ?_, ?_, trivial⟩
     ·
      intro g20
      have g20p0 : (Xpr.Kind e) = 6 := (Go.Am.beq_pos g20)
      assumption
     ·
      intro g21
      have g21p0 : (Xpr.Kind e) = 6 := (Go.Am.beq_pos g21)
      assumption
     ·
      intro g22
      have g22p0 : (Xpr.Kind e) = 6 := (Go.Am.beq_pos g22)
      trivial
     ·
      intro g23
      have g23p0 : (Xpr.Kind e) = 6 := (Go.Am.beq_pos g23)
      assumption
     ·
      intro g24
      have g24p0 : ((Xpr.Kind e) = 6) ∧ ((isColumn (m0 e) col) = true) := (And.imp (fun h => (Go.Am.beq_pos h)) (fun h => h) (Go.Am.and_pos g24))
      assumption
     ·
      intro g25
      have g25p0 : ((Xpr.Kind e) = 6) ∧ ((isColumn (m0 e) col) = true) := (And.imp (fun h => (Go.Am.beq_pos h)) (fun h => h) (Go.Am.and_pos g25))
      assumption
     ·
      intro g26
      have g26p0 : ((Xpr.Kind e) = 6) ∧ ((isColumn (m0 e) col) = true) := (And.imp (fun h => (Go.Am.beq_pos h)) (fun h => h) (Go.Am.and_pos g26))
      assumption
    refine AW.cd (bif (bif ((Xpr.Kind e) == 6) then (isColumn (m0 e) col) else false) then ((Xpr.Kind (List.getD (Xpr.Kids e) 1 Xpr.zero)) == 2) else false) ?_ ?_
    ·
     intro h27
     have h27q : (((Xpr.Kind e) = 6) ∧ ((isColumn (m0 e) col) = true)) ∧ ((Xpr.Kind (List.getD (Xpr.Kids e) 1 Xpr.zero)) = 2) := (And.imp (fun h => (And.imp (fun h => (Go.Am.beq_pos h)) (fun h => h) (Go.Am.and_pos h))) (fun h => (Go.Am.beq_pos h)) (Go.Am.and_pos h27))
     have e28 := e19.trans (Go.Am.bif_t h27)
     refine AW.seq (AW.r1 hC [4] [16] ⟨[(4, .ref 16 1 0)], [(16, .box 1 [sI (Val.N (Xpr.V (List.getD (Xpr.Kids e) 1 Xpr.zero))), sI (Val.N (Xpr.V (List.getD (Xpr.Kids e) 1 Xpr.zero)))])]⟩ ?_)
     exact AW.ret (AW.retE (β := Rng) (fun v => [⟨(.named 4), v⟩]) (fun v => []) (v := (Rng.mk (Val.N (Xpr.V (List.getD (Xpr.Kids e) 1 Xpr.zero))) (Val.N (Xpr.V (List.getD (Xpr.Kids e) 1 Xpr.zero))))) e28 (by kernel_rfl) rfl rfl)
    ·
     intro h29
     have h29q : (((Xpr.Kind e) ≠ 6) ∨ ((isColumn (m0 e) col) = false)) ∨ ((Xpr.Kind (List.getD (Xpr.Kids e) 1 Xpr.zero)) ≠ 2) := (Or.imp (fun h => (Or.imp (fun h => (Go.Am.beq_neg h)) (fun h => h) (Go.Am.and_neg h))) (fun h => (Go.Am.beq_neg h)) (Go.Am.and_neg h29))
     have e30 := e19.trans (Go.Am.bif_f h29)
     refine AW.seq (AW.r0 hC [1, 2, 4, 5, 6, 7, 75] [8, 16, 20, 24, 28] ⟨[(1, sI col), (2, .ref 8 1 0), (4, .ref 16 1 0), (5, .ref 20 1 0), (6, .ref 24 1 0), (7, .ref 28 1 0), (75, sB (bif (bif ((Xpr.Kind e) == 6) then (isColumn (m1 e) col) else false) then ((Xpr.Kind (List.getD (Xpr.Kids e) 0 Xpr.zero)) == 2) else false))], [(8, .box 1 [sI (Xpr.Kind e), sI (Xpr.Col e), sB (Val.Null (Xpr.V e)), sI (Val.N (Xpr.V e)), sD11 (Xpr.Kids e)]), (16, .box 1 [sI 0, sI 0]), (20, .box 1 [sI (-9999), sI 9999]), (24, .box 1 [sI (Xpr.Kind (List.getD (Xpr.Kids e) 0 Xpr.zero)), sI (Xpr.Col (List.getD (Xpr.Kids e) 0 Xpr.zero)), sB (Val.Null (Xpr.V (List.getD (Xpr.Kids e) 0 Xpr.zero))), sI (Val.N (Xpr.V (List.getD (Xpr.Kids e) 0 Xpr.zero))), sD11 (Xpr.Kids (List.getD (Xpr.Kids e) 0 Xpr.zero))]), (28, .box 1 [sI (Xpr.Kind (List.getD (Xpr.Kids e) 1 Xpr.zero)), sI (Xpr.Col (List.getD (Xpr.Kids e) 1 Xpr.zero)), sB (Val.Null (Xpr.V (List.getD (Xpr.Kids e) 1 Xpr.zero))), sI (Val.N (Xpr.V (List.getD (Xpr.Kids e) 1 Xpr.zero))), sD11 (Xpr.Kids (List.getD (Xpr.Kids e) 1 Xpr.zero))])]⟩ [((((Xpr.Kind e) == 6) = true) → ((((Xpr.Kind e) == 6) = true))), ((((Xpr.Kind e) == 6) = true) → ((((Xpr.Kind e) == 6) = true))), ((((Xpr.Kind e) == 6) = true) → (True)), ((((Xpr.Kind e) == 6) = true) → ((((Xpr.Kind e) == 6) = true))), (((bif ((Xpr.Kind e) == 6) then (isColumn (m1 e) col) else false) = true) → (((bif ((Xpr.Kind e) == 6) then (isColumn (m1 e) col) else false) = true))), (((bif ((Xpr.Kind e) == 6) then (isColumn (m1 e) col) else false) = true) → (((bif ((Xpr.Kind e) == 6) then (isColumn (m1 e) col) else false) = true))), (((bif ((Xpr.Kind e) == 6) then (isColumn (m1 e) col) else false) = true) → (((bif ((Xpr.Kind e) == 6) then (isColumn (m1 e) col) else false) = true)))] ?_ ?_)
     ·
      refine ⟨?_, ?_, ?_, ?_, ?_, ?_, ?_, trivial⟩
      ·
       intro g31
       have g31p0 : (Xpr.Kind e) = 6 := (Go.Am.beq_pos g31)
       assumption
      ·
       intro g32
       have g32p0 : (Xpr.Kind e) = 6 := (Go.Am.beq_pos g32)
       assumption
      ·
       intro g33
       have g33p0 : (Xpr.Kind e) = 6 := (Go.Am.beq_pos g33)
       trivial
      ·
       intro g34
       have g34p0 : (Xpr.Kind e) = 6 := (Go.Am.beq_pos g34)
       assumption
      ·
       intro g35
       have g35p0 : ((Xpr.Kind e) = 6) ∧ ((isColumn (m1 e) col) = true) := (And.imp (fun h => (Go.Am.beq_pos h)) (fun h => h) (Go.Am.and_pos g35))
       assumption
      ·
       intro g36
       have g36p0 : ((Xpr.Kind e) = 6) ∧ ((isColumn (m1 e) col) = true) := (And.imp (fun h => (Go.Am.beq_pos h)) (fun h => h) (Go.Am.and_pos g36))
       assumption
      ·
       intro g37
       have g37p0 : ((Xpr.Kind e) = 6) ∧ ((isColumn (m1 e) col) = true) := (And.imp (fun h => (Go.Am.beq_pos h)) (fun h => h) (Go.Am.and_pos g37))
       assumption
     refine AW.cd (bif (bif ((Xpr.Kind e) == 6) then (isColumn (m1 e) col) else false) then ((Xpr.Kind (List.getD (Xpr.Kids e) 0 Xpr.zero)) == 2) else false) ?_ ?_
     ·
      intro h38
      have h38q : (((Xpr.Kind e) = 6) ∧ ((isColumn (m1 e) col) = true)) ∧ ((Xpr.Kind (List.getD (Xpr.Kids e) 0 Xpr.zero)) = 2) := (And.imp (fun h => (And.imp (fun h => (Go.Am.beq_pos h)) (fun h => h) (Go.Am.and_pos h))) (fun h => (Go.Am.beq_pos h)) (Go.Am.and_pos h38))
      have e39 := e30.trans (Go.Am.bif_t h38)
      refine AW.seq (AW.r1 hC [4] [16] ⟨[(4, .ref 16 1 0)], [(16, .box 1 [sI (Val.N (Xpr.V (List.getD (Xpr.Kids e) 0 Xpr.zero))), sI (Val.N (Xpr.V (List.getD (Xpr.Kids e) 0 Xpr.zero)))])]⟩ ?_)
      exact AW.ret (AW.retE (β := Rng) (fun v => [⟨(.named 4), v⟩]) (fun v => []) (v := (Rng.mk (Val.N (Xpr.V (List.getD (Xpr.Kids e) 0 Xpr.zero))) (Val.N (Xpr.V (List.getD (Xpr.Kids e) 0 Xpr.zero))))) e39 (by kernel_rfl) rfl rfl)
     ·
      intro h40
      have h40q : (((Xpr.Kind e) ≠ 6) ∨ ((isColumn (m1 e) col) = false)) ∨ ((Xpr.Kind (List.getD (Xpr.Kids e) 0 Xpr.zero)) ≠ 2) := (Or.imp (fun h => (Or.imp (fun h => (Go.Am.beq_neg h)) (fun h => h) (Go.Am.and_neg h))) (fun h => (Go.Am.beq_neg h)) (Go.Am.and_neg h40))
      have e41 := e30.trans (Go.Am.bif_f h40)
      refine AW.seq (AW.r0 hC [1, 2, 4, 5, 6, 7, 96] [8, 16, 20, 24, 28] ⟨[(1, sI col), (2, .ref 8 1 0), (4, .ref 16 1 0), (5, .ref 20 1 0), (6, .ref 24 1 0), (7, .ref 28 1 0), (96, sB (bif (bif ((Xpr.Kind e) == 7) then (isColumn (m0 e) col) else false) then ((Xpr.Kind (List.getD (Xpr.Kids e) 1 Xpr.zero)) == 2) else false))], [(8, .box 1 [sI (Xpr.Kind e), sI (Xpr.Col e), sB (Val.Null (Xpr.V e)), sI (Val.N (Xpr.V e)), sD11 (Xpr.Kids e)]), (16, .box 1 [sI 0, sI 0]), (20, .box 1 [sI (-9999), sI 9999]), (24, .box 1 [sI (Xpr.Kind (List.getD (Xpr.Kids e) 0 Xpr.zero)), sI (Xpr.Col (List.getD (Xpr.Kids e) 0 Xpr.zero)), sB (Val.Null (Xpr.V (List.getD (Xpr.Kids e) 0 Xpr.zero))), sI (Val.N (Xpr.V (List.getD (Xpr.Kids e) 0 Xpr.zero))), sD11 (Xpr.Kids (List.getD (Xpr.Kids e) 0 Xpr.zero))]), (28, .box 1 [sI (Xpr.Kind (List.getD (Xpr.Kids e) 1 Xpr.zero)), sI (Xpr.Col (List.getD (Xpr.Kids e) 1 Xpr.zero)), sB (Val.Null (Xpr.V (List.getD (Xpr.Kids e) 1 Xpr.zero))), sI (Val.N (Xpr.V (List.getD (Xpr.Kids e) 1 Xpr.zero))), sD11 (Xpr.Kids (List.getD (Xpr.Kids e) 1 Xpr.zero))])]⟩ [((((Xpr.Kind e) == 7) = true) → ((((Xpr.Kind e) == 7) = true))), ((((Xpr.Kind e) == 7) = true) → ((((Xpr.Kind e) == 7) = true))), ((((Xpr.Kind e) == 7) = true) → (True)), ((((Xpr.Kind e) == 7) = true) → ((((Xpr.Kind e) == 7) = true))), (((bif ((Xpr.Kind e) == 7) then (isColumn (m0 e) col) else false) = true) → (((bif ((Xpr.Kind e) == 7) then (isColumn (m0 e) col) else false) = true))), (((bif ((Xpr.Kind e) == 7) then (isColumn (m0 e) col) else false) = true) → (((bif ((Xpr.Kind e) == 7) then (isColumn (m0 e) col) else false) = true))), (((bif ((Xpr.Kind e) == 7) then (isColumn (m0 e) col) else false) = true) → (((bif ((Xpr.Kind e) == 7) then (isColumn (m0 e) col) else false) = true)))] ?_ ?_)
      ·
       refine ⟨?_, ?_, ?_, ?_, ?_, ?_, ?_, trivial⟩
       ·
        intro g42
        have g42p0 : (Xpr.Kind e) = 7 := (Go.Am.beq_pos g42)
        assumption
       ·
        intro g43
        have g43p0 : (Xpr.Kind e) = 7 := (Go.Am.beq_pos g43)
        assumption
       ·
        intro g44
        have g44p0 : (Xpr.Kind e) = 7 := (Go.Am.beq_pos g44)
        trivial
       ·
        intro g45
        have g45p0 : (Xpr.Kind e) = 7 := (Go.Am.beq_pos g45)
        assumption
       ·
        intro g46
        have g46p0 : ((Xpr.Kind e) = 7) ∧ ((isColumn (m0 e) col) = true) := (And.imp (fun h => (Go.Am.beq_pos h)) (fun h => h) (Go.Am.and_pos g46))
        assumption
       ·
        intro g47
        have g47p0 : ((Xpr.Kind e) = 7) ∧ ((isColumn (m0 e) col) = true) := (And.imp (fun h => (Go.Am.beq_pos h)) (fun h => h) (Go.Am.and_pos g47))
        assumption
       ·
        intro g48
        have g48p0 : ((Xpr.Kind e) = 7) ∧ ((isColumn (m0 e) col) = true) := (And.imp (fun h => (Go.Am.beq_pos h)) (fun h => h) (Go.Am.and_pos g48))
        assumption
      refine AW.cd (bif (bif ((Xpr.Kind e) == 7) then (isColumn (m0 e) col) else false) then ((Xpr.Kind (List.getD (Xpr.Kids e) 1 Xpr.zero)) == 2) else false) ?_ ?_
      ·
       intro h49
       have h49q : (((Xpr.Kind e) = 7) ∧ ((isColumn (m0 e) col) = true)) ∧ ((Xpr.Kind (List.getD (Xpr.Kids e) 1 Xpr.zero)) = 2) := (And.imp (fun h => (And.imp (fun h => (Go.Am.beq_pos h)) (fun h => h) (Go.Am.and_pos h))) (fun h => (Go.Am.beq_pos h)) (Go.Am.and_pos h49))
       have e50 := e41.trans (Go.Am.bif_t h49)
       refine AW.r0 hC [4, 5] [16, 20] ⟨[(4, .ref 16 1 0), (5, .ref 20 1 0)], [(16, .box 1 [sI 0, sI 0]), (20, .box 1 [sI (-9999), sI ((Val.N (Xpr.V (List.getD (Xpr.Kids e) 1 Xpr.zero))) - 1)])]⟩ [R64 ((Val.N (Xpr.V (List.getD (Xpr.Kids e) 1 Xpr.zero))) - 1)] ?_ ?_
       ·
        refine ⟨?_, trivial⟩
        ·
         refine R64.of ?_
         omega
       refine AW.seq (AW.r1 hC [4] [16] ⟨[(4, .ref 16 1 0)], [(16, .box 1 [sI (-9999), sI ((Val.N (Xpr.V (List.getD (Xpr.Kids e) 1 Xpr.zero))) - 1)])]⟩ ?_)
       exact AW.ret (AW.retE (β := Rng) (fun v => [⟨(.named 4), v⟩]) (fun v => []) (v := (Rng.mk (-9999) ((Val.N (Xpr.V (List.getD (Xpr.Kids e) 1 Xpr.zero))) - 1))) e50 (by kernel_rfl) rfl rfl)
      ·
       intro h51
       have h51q : (((Xpr.Kind e) ≠ 7) ∨ ((isColumn (m0 e) col) = false)) ∨ ((Xpr.Kind (List.getD (Xpr.Kids e) 1 Xpr.zero)) ≠ 2) := (Or.imp (fun h => (Or.imp (fun h => (Go.Am.beq_neg h)) (fun h => h) (Go.Am.and_neg h))) (fun h => (Go.Am.beq_neg h)) (Go.Am.and_neg h51))
       have e52 := e41.trans (Go.Am.bif_f h51)
       refine AW.seq (AW.r0 hC [4, 5, 6, 115] [16, 20, 24] ⟨[(4, .ref 16 1 0), (5, .ref 20 1 0), (6, .ref 24 1 0), (115, sB (bif (bif ((Xpr.Kind e) == 7) then (isColumn (m1 e) col) else false) then ((Xpr.Kind (List.getD (Xpr.Kids e) 0 Xpr.zero)) == 2) else false))], [(16, .box 1 [sI 0, sI 0]), (20, .box 1 [sI (-9999), sI 9999]), (24, .box 1 [sI (Xpr.Kind (List.getD (Xpr.Kids e) 0 Xpr.zero)), sI (Xpr.Col (List.getD (Xpr.Kids e) 0 Xpr.zero)), sB (Val.Null (Xpr.V (List.getD (Xpr.Kids e) 0 Xpr.zero))), sI (Val.N (Xpr.V (List.getD (Xpr.Kids e) 0 Xpr.zero))), sD11 (Xpr.Kids (List.getD (Xpr.Kids e) 0 Xpr.zero))])]⟩ [((((Xpr.Kind e) == 7) = true) → ((((Xpr.Kind e) == 7) = true))), ((((Xpr.Kind e) == 7) = true) → ((((Xpr.Kind e) == 7) = true))), ((((Xpr.Kind e) == 7) = true) → (True)), ((((Xpr.Kind e) == 7) = true) → ((((Xpr.Kind e) == 7) = true))), (((bif ((Xpr.Kind e) == 7) then (isColumn (m1 e) col) else false) = true) → (((bif ((Xpr.Kind e) == 7) then (isColumn (m1 e) col) else false) = true))), (((bif ((Xpr.Kind e) == 7) then (isColumn (m1 e) col) else false) = true) → (((bif ((Xpr.Kind e) == 7) then (isColumn (m1 e) col) else false) = true))), (((bif ((Xpr.Kind e) == 7) then (isColumn (m1 e) col) else false) = true) → (((bif ((Xpr.Kind e) == 7) then (isColumn (m1 e) col) else false) = true)))] ?_ ?_)
       ·
        refine ⟨?_, ?_, ?_, ?_, ?_, ?_, ?_, trivial⟩
        ·
         intro g53
         have g53p0 : (Xpr.Kind e) = 7 := (Go.Am.beq_pos g53)
         assumption
        ·
         intro g54
         have g54p0 : (Xpr.Kind e) = 7 := (Go.Am.beq_pos g54)
         assumption
        ·
         intro g55
         have g55p0 : (Xpr.Kind e) = 7 := (Go.Am.beq_pos g55)
         trivial
        ·
         intro g56
         have g56p0 : (Xpr.Kind e) = 7 := (Go.Am.beq_pos g56)
         assumption
        ·
         intro g57
         have g57p0 : ((Xpr.Kind e) = 7) ∧ ((isColumn (m1 e) col) = true) := (And.imp (fun h => (Go.Am.beq_pos h)) (fun h => h) (Go.Am.and_pos g57))
         assumption
        ·
         intro g58
         have g58p0 : ((Xpr.Kind e) = 7) ∧ ((isColumn (m1 e) col) = true) := (And.imp (fun h => (Go.Am.beq_pos h)) (fun h => h) (Go.Am.and_pos g58))
         assumption
        ·
         intro g59
         have g59p0 : ((Xpr.Kind e) = 7) ∧ ((isColumn (m1 e) col) = true) := (And.imp (fun h => (Go.Am.beq_pos h)) (fun h => h) (Go.Am.and_pos g59))
         assumption
       refine AW.cd (bif (bif ((Xpr.Kind e) == 7) then (isColumn (m1 e) col) else false) then ((Xpr.Kind (List.getD (Xpr.Kids e) 0 Xpr.zero)) == 2) else false) ?_ ?_
       ·
        intro h60
        have h60q : (((Xpr.Kind e) = 7) ∧ ((isColumn (m1 e) col) = true)) ∧ ((Xpr.Kind (List.getD (Xpr.Kids e) 0 Xpr.zero)) = 2) := (And.imp (fun h => (And.imp (fun h => (Go.Am.beq_pos h)) (fun h => h) (Go.Am.and_pos h))) (fun h => (Go.Am.beq_pos h)) (Go.Am.and_pos h60))
        have e61 := e52.trans (Go.Am.bif_t h60)
        refine AW.r0 hC [4, 5] [16, 20] ⟨[(4, .ref 16 1 0), (5, .ref 20 1 0)], [(16, .box 1 [sI 0, sI 0]), (20, .box 1 [sI ((Val.N (Xpr.V (List.getD (Xpr.Kids e) 0 Xpr.zero))) + 1), sI 9999])]⟩ [R64 ((Val.N (Xpr.V (List.getD (Xpr.Kids e) 0 Xpr.zero))) + 1)] ?_ ?_
        ·
         refine ⟨?_, trivial⟩
         ·
          refine R64.of ?_
          omega
        refine AW.seq (AW.r1 hC [4] [16] ⟨[(4, .ref 16 1 0)], [(16, .box 1 [sI ((Val.N (Xpr.V (List.getD (Xpr.Kids e) 0 Xpr.zero))) + 1), sI 9999])]⟩ ?_)
        exact AW.ret (AW.retE (β := Rng) (fun v => [⟨(.named 4), v⟩]) (fun v => []) (v := (Rng.mk ((Val.N (Xpr.V (List.getD (Xpr.Kids e) 0 Xpr.zero))) + 1) 9999)) e61 (by kernel_rfl) rfl rfl)
       ·
        intro h62
        have h62q : (((Xpr.Kind e) ≠ 7) ∨ ((isColumn (m1 e) col) = false)) ∨ ((Xpr.Kind (List.getD (Xpr.Kids e) 0 Xpr.zero)) ≠ 2) := (Or.imp (fun h => (Or.imp (fun h => (Go.Am.beq_neg h)) (fun h => h) (Go.Am.and_neg h))) (fun h => (Go.Am.beq_neg h)) (Go.Am.and_neg h62))
        have e63 := e52.trans (Go.Am.bif_f h62)
        refine AW.kp [4, 5] [16, 20] ⟨[(4, .ref 16 1 0), (5, .ref 20 1 0)], [(16, .box 1 [sI 0, sI 0]), (20, .box 1 [sI (-9999), sI 9999])]⟩ ?_
        refine AW.skip (AW.seq (AW.r1 hC [4] [16] ⟨[(4, .ref 16 1 0)], [(16, .box 1 [sI (-9999), sI 9999])]⟩ ?_))
        exact AW.ret (AW.retE (β := Rng) (fun v => [⟨(.named 4), v⟩]) (fun v => []) (v := (Rng.mk (-9999) 9999)) e63 (by kernel_rfl) rfl rfl)
  ·
   intro h64
   have h64q : (((isColumn (m0 e) col) = false) ∨ ((Xpr.Kind (List.getD (Xpr.Kids e) 1 Xpr.zero)) ≠ 2)) ∨ ((Val.Null (Xpr.V (List.getD (Xpr.Kids e) 1 Xpr.zero))) = false) := (Or.imp (fun h => (Or.imp (fun h => h) (fun h => (Go.Am.beq_neg h)) (Go.Am.and_neg h))) (fun h => h) (Go.Am.and_neg h64))
   have e65 := e7.trans (Go.Am.bif_f h64)
   refine AW.r0 hC [1, 2, 4, 5, 6, 7, 26] [8, 16, 20, 24, 28] ⟨[(1, sI col), (2, .ref 8 1 0), (4, .ref 16 1 0), (5, .ref 20 1 0), (6, .ref 24 1 0), (7, .ref 28 1 0), (26, sB (bif (bif (isColumn (m1 e) col) then ((Xpr.Kind (List.getD (Xpr.Kids e) 0 Xpr.zero)) == 2) else false) then (Val.Null (Xpr.V (List.getD (Xpr.Kids e) 0 Xpr.zero))) else false))], [(8, .box 1 [sI (Xpr.Kind e), sI (Xpr.Col e), sB (Val.Null (Xpr.V e)), sI (Val.N (Xpr.V e)), sD11 (Xpr.Kids e)]), (16, .box 1 [sI 0, sI 0]), (20, .box 1 [sI (-9999), sI 9999]), (24, .box 1 [sI (Xpr.Kind (List.getD (Xpr.Kids e) 0 Xpr.zero)), sI (Xpr.Col (List.getD (Xpr.Kids e) 0 Xpr.zero)), sB (Val.Null (Xpr.V (List.getD (Xpr.Kids e) 0 Xpr.zero))), sI (Val.N (Xpr.V (List.getD (Xpr.Kids e) 0 Xpr.zero))), sD11 (Xpr.Kids (List.getD (Xpr.Kids e) 0 Xpr.zero))]), (28, .box 1 [sI (Xpr.Kind (List.getD (Xpr.Kids e) 1 Xpr.zero)), sI (Xpr.Col (List.getD (Xpr.Kids e) 1 Xpr.zero)), sB (Val.Null (Xpr.V (List.getD (Xpr.Kids e) 1 Xpr.zero))), sI (Val.N (Xpr.V (List.getD (Xpr.Kids e) 1 Xpr.zero))), sD11 (Xpr.Kids (List.getD (Xpr.Kids e) 1 Xpr.zero))])]⟩ [(True), (((isColumn (m1 e) col) = true) → (((isColumn (m1 e) col) = true))), (((isColumn (m1 e) col) = true) → (((isColumn (m1 e) col) = true))), (((isColumn (m1 e) col) = true) → (((isColumn (m1 e) col) = true))), (((bif (isColumn (m1 e) col) then ((Xpr.Kind (List.getD (Xpr.Kids e) 0 Xpr.zero)) == 2) else false) = true) → (((bif (isColumn (m1 e) col) then ((Xpr.Kind (List.getD (Xpr.Kids e) 0 Xpr.zero)) == 2) else false) = true))), (((bif (isColumn (m1 e) col) then ((Xpr.Kind (List.getD (Xpr.Kids e) 0 Xpr.zero)) == 2) else false) = true) → (((bif (isColumn (m1 e) col) then ((Xpr.Kind (List.getD (Xpr.Kids e) 0 Xpr.zero)) == 2) else false) = true))), (((bif (isColumn (m1 e) col) then ((Xpr.Kind (List.getD (Xpr.Kids e) 0 Xpr.zero)) == 2) else false) = true) → (((bif (isColumn (m1 e) col) then ((Xpr.Kind (List.getD (Xpr.Kids e) 0 Xpr.zero)) == 2) else false) = true)))] ?_ ?_
   ·
    refine ⟨?_, ?_, ?_, ?_, ?_, ?_, ?_, trivial⟩
    ·
     trivial
    ·
     intro g66
     have g66p0 : (isColumn (m1 e) col) = true := g66
     assumption
    ·
     intro g67
     have g67p0 : (isColumn (m1 e) col) = true := g67
     assumption
    ·
     intro g68
     have g68p0 : (isColumn (m1 e) col) = true := g68
     assumption
    ·
     intro g69
     have g69p0 : ((isColumn (m1 e) col) = true) ∧ ((Xpr.Kind (List.getD (Xpr.Kids e) 0 Xpr.zero)) = 2) := (And.imp (fun h => h) (fun h => (Go.Am.beq_pos h)) (Go.Am.and_pos g69))
     assumption
    ·
     intro g70
     have g70p0 : ((isColumn (m1 e) col) = true) ∧ ((Xpr.Kind (List.getD (Xpr.Kids e) 0 Xpr.zero)) = 2) := (And.imp (fun h => h) (fun h => (Go.Am.beq_pos h)) (Go.Am.and_pos g70))
     assumption
    ·
     intro g71
     have g71p0 : ((isColumn (m1 e) col) = true) ∧ ((Xpr.Kind (List.getD (Xpr.Kids e) 0 Xpr.zero)) = 2) := (And.imp (fun h => h) (fun h => (Go.Am.beq_pos h)) (Go.Am.and_pos g71))
     assumption
   refine AW.cd (bif (bif (isColumn (m1 e) col) then ((Xpr.Kind (List.getD (Xpr.Kids e) 0 Xpr.zero)) == 2) else false) then (Val.Null (Xpr.V (List.getD (Xpr.Kids e) 0 Xpr.zero))) else false) ?_ ?_
   ·
    intro h72
    have h72q : (((isColumn (m1 e) col) = true) ∧ ((Xpr.Kind (List.getD (Xpr.Kids e) 0 Xpr.zero)) = 2)) ∧ ((Val.Null (Xpr.V (List.getD (Xpr.Kids e) 0 Xpr.zero))) = true) := (And.imp (fun h => (And.imp (fun h => h) (fun h => (Go.Am.beq_pos h)) (Go.Am.and_pos h))) (fun h => h) (Go.Am.and_pos h72))
    have e73 := e65.trans (Go.Am.bif_t h72)
    refine AW.seq (AW.r1 hC [4] [16] ⟨[(4, .ref 16 1 0)], [(16, .box 1 [sI 1, sI 0])]⟩ ?_)
    exact AW.ret (AW.retE (β := Rng) (fun v => [⟨(.named 4), v⟩]) (fun v => []) (v := (Rng.mk 1 0)) e73 (by kernel_rfl) rfl rfl)
   ·
    intro h74
    have h74q : (((isColumn (m1 e) col) = false) ∨ ((Xpr.Kind (List.getD (Xpr.Kids e) 0 Xpr.zero)) ≠ 2)) ∨ ((Val.Null (Xpr.V (List.getD (Xpr.Kids e) 0 Xpr.zero))) = false) := (Or.imp (fun h => (Or.imp (fun h => h) (fun h => (Go.Am.beq_neg h)) (Go.Am.and_neg h))) (fun h => h) (Go.Am.and_neg h74))
    have e75 := e65.trans (Go.Am.bif_f h74)
    refine AW.seq (AW.r0 hC [1, 2, 4, 5, 6, 7, 54] [8, 16, 20, 24, 28] ⟨[(1, sI col), (2, .ref 8 1 0), (4, .ref 16 1 0), (5, .ref 20 1 0), (6, .ref 24 1 0), (7, .ref 28 1 0), (54, sB (bif (bif ((Xpr.Kind e) == 6) then (isColumn (m0 e) col) else false) then ((Xpr.Kind (List.getD (Xpr.Kids e) 1 Xpr.zero)) == 2) else false))], [(8, .box 1 [sI (Xpr.Kind e), sI (Xpr.Col e), sB (Val.Null (Xpr.V e)), sI (Val.N (Xpr.V e)), sD11 (Xpr.Kids e)]), (16, .box 1 [sI 0, sI 0]), (20, .box 1 [sI (-9999), sI 9999]), (24, .box 1 [sI (Xpr.Kind (List.getD (Xpr.Kids e) 0 Xpr.zero)), sI (Xpr.Col (List.getD (Xpr.Kids e) 0 Xpr.zero)), sB (Val.Null (Xpr.V (List.getD (Xpr.Kids e) 0 Xpr.zero))), sI (Val.N (Xpr.V (List.getD (Xpr.Kids e) 0 Xpr.zero))), sD11 (Xpr.Kids (List.getD (Xpr.Kids e) 0 Xpr.zero))]), (28, .box 1 [sI (Xpr.Kind (List.getD (Xpr.Kids e) 1 Xpr.zero)), sI (Xpr.Col (List.getD (Xpr.Kids e) 1 Xpr.zero)), sB (Val.Null (Xpr.V (List.getD (Xpr.Kids e) 1 Xpr.zero))), sI (Val.N (Xpr.V (List.getD (Xpr.Kids e) 1 Xpr.zero))), sD11 (Xpr.Kids (List.getD (Xpr.Kids e) 1 Xpr.zero))])]⟩ [((((Xpr.Kind e) == 6) = true) → ((((Xpr.Kind e) == 6) = true))), ((((Xpr.Kind e) == 6) = true) → ((((Xpr.Kind e) == 6) = true))), ((((Xpr.Kind e) == 6) = true) → (True)), ((((Xpr.Kind e) == 6) = true) → ((((Xpr.Kind e) == 6) = true))), (((bif ((Xpr.Kind e) == 6) then (isColumn (m0 e) col) else false) = true) → (((bif ((Xpr.Kind e) == 6) then (isColumn (m0 e) col) else false) = true))), (((bif ((Xpr.Kind e) == 6) then (isColumn (m0 e) col) else false) = true) → (((bif ((Xpr.Kind e) == 6) then (isColumn (m0 e) col) else false) = true))), (((bif ((Xpr.Kind e) == 6) then (isColumn (m0 e) col) else false) = true) → (((bif ((Xpr.Kind e) == 6) then (isColumn (m0 e) col) else false) = true)))] ?_ ?_)
    ·
     refine ⟨?_, ?_, ?_, ?_, ?_, ?_, ?_, trivial⟩
     ·
      intro g76
      have g76p0 : (Xpr.Kind e) = 6 := (Go.Am.beq_pos g76)
      assumption
     ·
      intro g77
      have g77p0 : (Xpr.Kind e) = 6 := (Go.Am.beq_pos g77)
      assumption
     ·
      intro g78
      have g78p0 : (Xpr.Kind e) = 6 := (Go.Am.beq_pos g78)
      trivial
     ·
      intro g79
      have g79p0 : (Xpr.Kind e) = 6 := (Go.Am.beq_pos g79)
      assumption
     ·
      intro g80
      have g80p0 : ((Xpr.Kind e) = 6) ∧ ((isColumn (m0 e) col) = true) := (And.imp (fun h => (Go.Am.beq_pos h)) (fun h => h) (Go.Am.and_pos g80))
      assumption
     ·
      intro g81
      have g81p0 : ((Xpr.Kind e) = 6) ∧ ((isColumn (m0 e) col) = true) := (And.imp (fun h => (Go.Am.beq_pos h)) (fun h => h) (Go.Am.and_pos g81))
      assumption
     ·
      intro g82
      have g82p0 : ((Xpr.Kind e) = 6) ∧ ((isColumn (m0 e) col) = true) := (And.imp (fun h => (Go.Am.beq_pos h)) (fun h => h) (Go.Am.and_pos g82))
      assumption
    refine AW.cd (bif (bif ((Xpr.Kind e) == 6) then (isColumn (m0 e) col) else false) then ((Xpr.Kind (List.getD (Xpr.Kids e) 1 Xpr.zero)) == 2) else false) ?_ ?_
    ·
     intro h83
     have h83q : (((Xpr.Kind e) = 6) ∧ ((isColumn (m0 e) col) = true)) ∧ ((Xpr.Kind (List.getD (Xpr.Kids e) 1 Xpr.zero)) = 2) := (And.imp (fun h => (And.imp (fun h => (Go.Am.beq_pos h)) (fun h => h) (Go.Am.and_pos h))) (fun h => (Go.Am.beq_pos h)) (Go.Am.and_pos h83))
     have e84 := e75.trans (Go.Am.bif_t h83)
     refine AW.seq (AW.r1 hC [4] [16] ⟨[(4, .ref 16 1 0)], [(16, .box 1 [sI (Val.N (Xpr.V (List.getD (Xpr.Kids e) 1 Xpr.zero))), sI (Val.N (Xpr.V (List.getD (Xpr.Kids e) 1 Xpr.zero)))])]⟩ ?_)
     exact AW.ret (AW.retE (β := Rng) (fun v => [⟨(.named 4), v⟩]) (fun v => []) (v := (Rng.mk (Val.N (Xpr.V (List.getD (Xpr.Kids e) 1 Xpr.zero))) (Val.N (Xpr.V (List.getD (Xpr.Kids e) 1 Xpr.zero))))) e84 (by kernel_rfl) rfl rfl)
    ·
     intro h85
     have h85q : (((Xpr.Kind e) ≠ 6) ∨ ((isColumn (m0 e) col) = false)) ∨ ((Xpr.Kind (List.getD (Xpr.Kids e) 1 Xpr.zero)) ≠ 2) := (Or.imp (fun h => (Or.imp (fun h => (Go.Am.beq_neg h)) (fun h => h) (Go.Am.and_neg h))) (fun h => (Go.Am.beq_neg h)) (Go.Am.and_neg h85))
     have e86 := e75.trans (Go.Am.bif_f h85)
     refine AW.seq (AW.r0 hC [1, 2, 4, 5, 6, 7, 75] [8, 16, 20, 24, 28] ⟨[(1, sI col), (2, .ref 8 1 0), (4, .ref 16 1 0), (5, .ref 20 1 0), (6, .ref 24 1 0), (7, .ref 28 1 0), (75, sB (bif (bif ((Xpr.Kind e) == 6) then (isColumn (m1 e) col) else false) then ((Xpr.Kind (List.getD (Xpr.Kids e) 0 Xpr.zero)) == 2) else false))], [(8, .box 1 [sI (Xpr.Kind e), sI (Xpr.Col e), sB (Val.Null (Xpr.V e)), sI (Val.N (Xpr.V e)), sD11 (Xpr.Kids e)]), (16, .box 1 [sI 0, sI 0]), (20, .box 1 [sI (-9999), sI 9999]), (24, .box 1 [sI (Xpr.Kind (List.getD (Xpr.Kids e) 0 Xpr.zero)), sI (Xpr.Col (List.getD (Xpr.Kids e) 0 Xpr.zero)), sB (Val.Null (Xpr.V (List.getD (Xpr.Kids e) 0 Xpr.zero))), sI (Val.N (Xpr.V (List.getD (Xpr.Kids e) 0 Xpr.zero))), sD11 (Xpr.Kids (List.getD (Xpr.Kids e) 0 Xpr.zero))]), (28, .box 1 [sI (Xpr.Kind (List.getD (Xpr.Kids e) 1 Xpr.zero)), sI (Xpr.Col (List.getD (Xpr.Kids e) 1 Xpr.zero)), sB (Val.Null (Xpr.V (List.getD (Xpr.Kids e) 1 Xpr.zero))), sI (Val.N (Xpr.V (List.getD (Xpr.Kids e) 1 Xpr.zero))), sD11 (Xpr.Kids (List.getD (Xpr.Kids e) 1 Xpr.zero))])]⟩ [((((Xpr.Kind e) == 6) = true) → ((((Xpr.Kind e) == 6) = true))), ((((Xpr.Kind e) == 6) = true) → ((((Xpr.Kind e) == 6) = true))), ((((Xpr.Kind e) == 6) = true) → (True)), ((((Xpr.Kind e) == 6) = true) → ((((Xpr.Kind e) == 6) = true))), (((bif ((Xpr.Kind e) == 6) then (isColumn (m1 e) col) else false) = true) → (((bif ((Xpr.Kind e) == 6) then (isColumn (m1 e) col) else false) = true))), (((bif ((Xpr.Kind e) == 6) then (isColumn (m1 e) col) else false) = true) → (((bif ((Xpr.Kind e) == 6) then (isColumn (m1 e) col) else false) = true))), (((bif ((Xpr.Kind e) == 6) then (isColumn (m1 e) col) else false) = true) → (((bif ((Xpr.Kind e) == 6) then (isColumn (m1 e) col) else false) = true)))] ?_ ?_)
     ·
      refine ⟨?_, ?_, ?_, ?_, ?_, ?_, ?_, trivial⟩
      ·
       intro g87
       have g87p0 : (Xpr.Kind e) = 6 := (Go.Am.beq_pos g87)
       assumption
      ·
       intro g88
       have g88p0 : (Xpr.Kind e) = 6 := (Go.Am.beq_pos g88)
       assumption
      ·
       intro g89
       have g89p0 : (Xpr.Kind e) = 6 := (Go.Am.beq_pos g89)
       trivial
      ·
       intro g90
       have g90p0 : (Xpr.Kind e) = 6 := (Go.Am.beq_pos g90)
       assumption
      ·
       intro g91
       have g91p0 : ((Xpr.Kind e) = 6) ∧ ((isColumn (m1 e) col) = true) := (And.imp (fun h => (Go.Am.beq_pos h)) (fun h => h) (Go.Am.and_pos g91))
       assumption
      ·
       intro g92
       have g92p0 : ((Xpr.Kind e) = 6) ∧ ((isColumn (m1 e) col) = true) := (And.imp (fun h => (Go.Am.beq_pos h)) (fun h => h) (Go.Am.and_pos g92))
       assumption
      ·
       intro g93
       have g93p0 : ((Xpr.Kind e) = 6) ∧ ((isColumn (m1 e) col) = true) := (And.imp (fun h => (Go.Am.beq_pos h)) (fun h => h) (Go.Am.and_pos g93))
       assumption
     refine AW.cd (bif (bif ((Xpr.Kind e) == 6) then (isColumn (m1 e) col) else false) then ((Xpr.Kind (List.getD (Xpr.Kids e) 0 Xpr.zero)) == 2) else false) ?_ ?_
     ·
      intro h94
      have h94q : (((Xpr.Kind e) = 6) ∧ ((isColumn (m1 e) col) = true)) ∧ ((Xpr.Kind (List.getD (Xpr.Kids e) 0 Xpr.zero)) = 2) := (And.imp (fun h => (And.imp (fun h => (Go.Am.beq_pos h)) (fun h => h) (Go.Am.and_pos h))) (fun h => (Go.Am.beq_pos h)) (Go.Am.and_pos h94))
      have e95 := e86.trans (Go.Am.bif_t h94)
      refine AW.seq (AW.r1 hC [4] [16] ⟨[(4, .ref 16 1 0)], [(16, .box 1 [sI (Val.N (Xpr.V (List.getD (Xpr.Kids e) 0 Xpr.zero))), sI (Val.N (Xpr.V (List.getD (Xpr.Kids e) 0 Xpr.zero)))])]⟩ ?_)
      exact AW.ret (AW.retE (β := Rng) (fun v => [⟨(.named 4), v⟩]) (fun v => []) (v := (Rng.mk (Val.N (Xpr.V (List.getD (Xpr.Kids e) 0 Xpr.zero))) (Val.N (Xpr.V (List.getD (Xpr.Kids e) 0 Xpr.zero))))) e95 (by kernel_rfl) rfl rfl)
     ·
      intro h96
      have h96q : (((Xpr.Kind e) ≠ 6) ∨ ((isColumn (m1 e) col) = false)) ∨ ((Xpr.Kind (List.getD (Xpr.Kids e) 0 Xpr.zero)) ≠ 2) := (Or.imp (fun h => (Or.imp (fun h => (Go.Am.beq_neg h)) (fun h => h) (Go.Am.and_neg h))) (fun h => (Go.Am.beq_neg h)) (Go.Am.and_neg h96))
      have e97 := e86.trans (Go.Am.bif_f h96)
      refine AW.seq (AW.r0 hC [1, 2, 4, 5, 6, 7, 96] [8, 16, 20, 24, 28] ⟨[(1, sI col), (2, .ref 8 1 0), (4, .ref 16 1 0), (5, .ref 20 1 0), (6, .ref 24 1 0), (7, .ref 28 1 0), (96, sB (bif (bif ((Xpr.Kind e) == 7) then (isColumn (m0 e) col) else false) then ((Xpr.Kind (List.getD (Xpr.Kids e) 1 Xpr.zero)) == 2) else false))], [(8, .box 1 [sI (Xpr.Kind e), sI (Xpr.Col e), sB (Val.Null (Xpr.V e)), sI (Val.N (Xpr.V e)), sD11 (Xpr.Kids e)]), (16, .box 1 [sI 0, sI 0]), (20, .box 1 [sI (-9999), sI 9999]), (24, .box 1 [sI (Xpr.Kind (List.getD (Xpr.Kids e) 0 Xpr.zero)), sI (Xpr.Col (List.getD (Xpr.Kids e) 0 Xpr.zero)), sB (Val.Null (Xpr.V (List.getD (Xpr.Kids e) 0 Xpr.zero))), sI (Val.N (Xpr.V (List.getD (Xpr.Kids e) 0 Xpr.zero))), sD11 (Xpr.Kids (List.getD (Xpr.Kids e) 0 Xpr.zero))]), (28, .box 1 [sI (Xpr.Kind (List.getD (Xpr.Kids e) 1 Xpr.zero)), sI (Xpr.Col (List.getD (Xpr.Kids e) 1 Xpr.zero)), sB (Val.Null (Xpr.V (List.getD (Xpr.Kids e) 1 Xpr.zero))), sI (Val.N (Xpr.V (List.getD (Xpr.Kids e) 1 Xpr.zero))), sD11 (Xpr.Kids (List.getD (Xpr.Kids e) 1 Xpr.zero))])]⟩ [((((Xpr.Kind e) == 7) = true) → ((((Xpr.Kind e) == 7) = true))), ((((Xpr.Kind e) == 7) = true) → ((((Xpr.Kind e) == 7) = true))), ((((Xpr.Kind e) == 7) = true) → (True)), ((((Xpr.Kind e) == 7) = true) → ((((Xpr.Kind e) == 7) = true))), (((bif ((Xpr.Kind e) == 7) then (isColumn (m0 e) col) else false) = true) → (((bif ((Xpr.Kind e) == 7) then (isColumn (m0 e) col) else false) = true))), (((bif ((Xpr.Kind e) == 7) then (isColumn (m0 e) col) else false) = true) → (((bif ((Xpr.Kind e) == 7) then (isColumn (m0 e) col) else false) = true))), (((bif ((Xpr.Kind e) == 7) then (isColumn (m0 e) col) else false) = true) → (((bif ((Xpr.Kind e) == 7) then (isColumn (m0 e) col) else false) = true)))] ?_ ?_)
      ·
       refine ⟨?_, ?_, ?_, ?_, ?_, ?_, ?_, trivial⟩
       ·
        intro g98
        have g98p0 : (Xpr.Kind e) = 7 := (Go.Am.beq_pos g98)
        assumption
       ·
        intro g99
        have g99p0 : (Xpr.Kind e) = 7 := (Go.Am.beq_pos g99)
        assumption
       ·
        intro g100
        have g100p0 : (Xpr.Kind e) = 7 := (Go.Am.beq_pos g100)
        trivial
       ·
        intro g101
        have g101p0 : (Xpr.Kind e) = 7 := (Go.Am.beq_pos g101)
        assumption
       ·
        intro g102
        have g102p0 : ((Xpr.Kind e) = 7) ∧ ((isColumn (m0 e) col) = true) := (And.imp (fun h => (Go.Am.beq_pos h)) (fun h => h) (Go.Am.and_pos g102))
        assumption
       ·
        intro g103
        have g103p0 : ((Xpr.Kind e) = 7) ∧ ((isColumn (m0 e) col) = true) := (And.imp (fun h => (Go.Am.beq_pos h)) (fun h => h) (Go.Am.and_pos g103))
        assumption
       ·
        intro g104
        have g104p0 : ((Xpr.Kind e) = 7) ∧ ((isColumn (m0 e) col) = true) := (And.imp (fun h => (Go.Am.beq_pos h)) (fun h => h) (Go.Am.and_pos g104))
        assumption
      refine AW.cd (bif (bif ((Xpr.Kind e) == 7) then (isColumn (m0 e) col) else false) then ((Xpr.Kind (List.getD (Xpr.Kids e) 1 Xpr.zero)) == 2) else false) ?_ ?_
      ·
       intro h105
       have h105q : (((Xpr.Kind e) = 7) ∧ ((isColumn (m0 e) col) = true)) ∧ ((Xpr.Kind (List.getD (Xpr.Kids e) 1 Xpr.zero)) = 2) := (And.imp (fun h => (And.imp (fun h => (Go.Am.beq_pos h)) (fun h => h) (Go.Am.and_pos h))) (fun h => (Go.Am.beq_pos h)) (Go.Am.and_pos h105))
       have e106 := e97.trans (Go.Am.bif_t h105)
       refine AW.r0 hC [4, 5] [16, 20] ⟨[(4, .ref 16 1 0), (5, .ref 20 1 0)], [(16, .box 1 [sI 0, sI 0]), (20, .box 1 [sI (-9999), sI ((Val.N (Xpr.V (List.getD (Xpr.Kids e) 1 Xpr.zero))) - 1)])]⟩ [R64 ((Val.N (Xpr.V (List.getD (Xpr.Kids e) 1 Xpr.zero))) - 1)] ?_ ?_
       ·
        refine ⟨?_, trivial⟩
        ·
         refine R64.of ?_
         omega
       refine AW.seq (AW.r1 hC [4] [16] ⟨[(4, .ref 16 1 0)], [(16, .box 1 [sI (-9999), sI ((Val.N (Xpr.V (List.getD (Xpr.Kids e) 1 Xpr.zero))) - 1)])]⟩ ?_)
       exact AW.ret (AW.retE (β := Rng) (fun v => [⟨(.named 4), v⟩]) (fun v => []) (v := (Rng.mk (-9999) ((Val.N (Xpr.V (List.getD (Xpr.Kids e) 1 Xpr.zero))) - 1))) e106 (by kernel_rfl) rfl rfl)
      ·
       intro h107
       have h107q : (((Xpr.Kind e) ≠ 7) ∨ ((isColumn (m0 e) col) = false)) ∨ ((Xpr.Kind (List.getD (Xpr.Kids e) 1 Xpr.zero)) ≠ 2) := (Or.imp (fun h => (Or.imp (fun h => (Go.Am.beq_neg h)) (fun h => h) (Go.Am.and_neg h))) (fun h => (Go.Am.beq_neg h)) (Go.Am.and_neg h107))
       have e108 := e97.trans (Go.Am.bif_f h107)
       refine AW.seq (AW.r0 hC [4, 5, 6, 115] [16, 20, 24] ⟨[(4, .ref 16 1 0), (5, .ref 20 1 0), (6, .ref 24 1 0), (115, sB (bif (bif ((Xpr.Kind e) == 7) then (isColumn (m1 e) col) else false) then ((Xpr.Kind (List.getD (Xpr.Kids e) 0 Xpr.zero)) == 2) else false))], [(16, .box 1 [sI 0, sI 0]), (20, .box 1 [sI (-9999), sI 9999]), (24, .box 1 [sI (Xpr.Kind (List.getD (Xpr.Kids e) 0 Xpr.zero)), sI (Xpr.Col (List.getD (Xpr.Kids e) 0 Xpr.zero)), sB (Val.Null (Xpr.V (List.getD (Xpr.Kids e) 0 Xpr.zero))), sI (Val.N (Xpr.V (List.getD (Xpr.Kids e) 0 Xpr.zero))), sD11 (Xpr.Kids (List.getD (Xpr.Kids e) 0 Xpr.zero))])]⟩ [((((Xpr.Kind e) == 7) = true) → ((((Xpr.Kind e) == 7) = true))), ((((Xpr.Kind e) == 7) = true) → ((((Xpr.Kind e) == 7) = true))), ((((Xpr.Kind e) == 7) = true) → (True)), ((((Xpr.Kind e) == 7) = true) → ((((Xpr.Kind e) == 7) = true))), (((bif ((Xpr.Kind e) == 7) then (isColumn (m1 e) col) else false) = true) → (((bif ((Xpr.Kind e) == 7) then (isColumn (m1 e) col) else false) = true))), (((bif ((Xpr.Kind e) == 7) then (isColumn (m1 e) col) else false) = true) → (((bif ((Xpr.Kind e) == 7) then (isColumn (m1 e) col) else false) = true))), (((bif ((Xpr.Kind e) == 7) then (isColumn (m1 e) col) else false) = true) → (((bif ((Xpr.Kind e) == 7) then (isColumn (m1 e) col) else false) = true)))] ?_ ?_)
       ·
        refine ⟨?_, ?_, ?_, ?_, ?_, ?_, ?_, trivial⟩
        ·
         intro g109
         have g109p0 : (Xpr.Kind e) = 7 := (Go.Am.beq_pos g109)
         assumption
        ·
         intro g110
         have g110p0 : (Xpr.Kind e) = 7 := (Go.Am.beq_pos g110)
         assumption
        ·
         intro g111
         have g111p0 : (Xpr.Kind e) = 7 := (Go.Am.beq_pos g111)
         trivial
        ·
         intro g112
         have g112p0 : (Xpr.Kind e) = 7 := (Go.Am.beq_pos g112)
         assumption
        ·
         intro g113
         have g113p0 : ((Xpr.Kind e) = 7) ∧ ((isColumn (m1 e) col) = true) := (And.imp (fun h => (Go.Am.beq_pos h)) (fun h => h) (Go.Am.and_pos g113))
         assumption
        ·
         intro g114
         have g114p0 : ((Xpr.Kind e) = 7) ∧ ((isColumn (m1 e) col) = true) := (And.imp (fun h => (Go.Am.beq_pos h)) (fun h => h) (Go.Am.and_pos g114))
         assumption
        ·
         intro g115
         have g115p0 : ((Xpr.Kind e) = 7) ∧ ((isColumn (m1 e) col) = true) := (And.imp (fun h => (Go.Am.beq_pos h)) (fun h => h) (Go.Am.and_pos g115))
         assumption
       refine AW.cd (bif (bif ((Xpr.Kind e) == 7) then (isColumn (m1 e) col) else false) then ((Xpr.Kind (List.getD (Xpr.Kids e) 0 Xpr.zero)) == 2) else false) ?_ ?_
       ·
        intro h116
        have h116q : (((Xpr.Kind e) = 7) ∧ ((isColumn (m1 e) col) = true)) ∧ ((Xpr.Kind (List.getD (Xpr.Kids e) 0 Xpr.zero)) = 2) := (And.imp (fun h => (And.imp (fun h => (Go.Am.beq_pos h)) (fun h => h) (Go.Am.and_pos h))) (fun h => (Go.Am.beq_pos h)) (Go.Am.and_pos h116))
        have e117 := e108.trans (Go.Am.bif_t h116)
        refine AW.r0 hC [4, 5] [16, 20] ⟨[(4, .ref 16 1 0), (5, .ref 20 1 0)], [(16, .box 1 [sI 0, sI 0]), (20, .box 1 [sI ((Val.N (Xpr.V (List.getD (Xpr.Kids e) 0 Xpr.zero))) + 1), sI 9999])]⟩ [R64 ((Val.N (Xpr.V (List.getD (Xpr.Kids e) 0 Xpr.zero))) + 1)] ?_ ?_
        ·
         refine ⟨?_, trivial⟩
         ·
          refine R64.of ?_
          omega
        refine AW.seq (AW.r1 hC [4] [16] ⟨[(4, .ref 16 1 0)], [(16, .box 1 [sI ((Val.N (Xpr.V (List.getD (Xpr.Kids e) 0 Xpr.zero))) + 1), sI 9999])]⟩ ?_)
        exact AW.ret (AW.retE (β := Rng) (fun v => [⟨(.named 4), v⟩]) (fun v => []) (v := (Rng.mk ((Val.N (Xpr.V (List.getD (Xpr.Kids e) 0 Xpr.zero))) + 1) 9999)) e117 (by kernel_rfl) rfl rfl)
       ·
        intro h118
        have h118q : (((Xpr.Kind e) ≠ 7) ∨ ((isColumn (m1 e) col) = false)) ∨ ((Xpr.Kind (List.getD (Xpr.Kids e) 0 Xpr.zero)) ≠ 2) := (Or.imp (fun h => (Or.imp (fun h => (Go.Am.beq_neg h)) (fun h => h) (Go.Am.and_neg h))) (fun h => (Go.Am.beq_neg h)) (Go.Am.and_neg h118))
        have e119 := e108.trans (Go.Am.bif_f h118)
        refine AW.kp [4, 5] [16, 20] ⟨[(4, .ref 16 1 0), (5, .ref 20 1 0)], [(16, .box 1 [sI 0, sI 0]), (20, .box 1 [sI (-9999), sI 9999])]⟩ ?_
        refine AW.skip (AW.seq (AW.r1 hC [4] [16] ⟨[(4, .ref 16 1 0)], [(16, .box 1 [sI (-9999), sI 9999])]⟩ ?_))
        exact AW.ret (AW.retE (β := Rng) (fun v => [⟨(.named 4), v⟩]) (fun v => []) (v := (Rng.mk (-9999) 9999)) e119 (by kernel_rfl) rfl rfl)

def hasRange (e : Xpr) (col : Int) : Bool := (bif (bif ((Xpr.Kind e) != 6) then ((Xpr.Kind e) != 7) else false) then false else (bif (bif (isColumn (List.getD (Xpr.Kids e) 0 Xpr.zero) col) then ((Xpr.Kind (List.getD (Xpr.Kids e) 1 Xpr.zero)) == 2) else false) then true else (bif (isColumn (List.getD (Xpr.Kids e) 1 Xpr.zero) col) then ((Xpr.Kind (List.getD (Xpr.Kids e) 0 Xpr.zero)) == 2) else false)))

def hasRange_sp : FnSpec := mkSpec [.val (.named 1), .val (.int .i64)] [.val .bool] (fun (e : Xpr) (col : Int) => ∃ w, VL w e) (fun (e : Xpr) (col : Int) => [⟨.bool, (hasRange e col)⟩])

theorem hasRange_ok : FnOK Try.prog 18 hasRange_sp := by
 have hC : CtxOK Try.prog (mkCtx tyL [(40, isColumn_sp)]) := CtxOK.cons isColumn_ok (CtxOK.nil tyOK)
 refine FnOK.of_body Try.func18 (by kernel_rfl) rfl (C := (mkCtx tyL [(40, isColumn_sp)])) hC.ty (by kernel_rfl) ?_
 intro (e : Xpr) (col : Int) hwf hpre E
 have hpre : ∃ w, VL w e := hpre
 have hw_e : Wf ⟨(.named 1), (e : Xpr)⟩ := hwf _ (List.Mem.head _)
 obtain ⟨hr_e_Kind, hr_e_Col, hl_e_Kids⟩ := Xpr.wfl hw_e
 have hw_col : Wf ⟨(.int .i64), (col : Int)⟩ := hwf _ (List.Mem.tail _ (List.Mem.head _))
 have hr_col : -9223372036854775808 ≤ col ∧ col ≤ 9223372036854775807 := hw_col.int_inv
 obtain ⟨w0, hvl⟩ := hpre
 have hk2 := hvl.kids2
 have htw := hvl.two
 have hv1 := fun (h : 1 < e.Kids.length) => (hvl.kid (i := 1) h).val
 have hv0 := fun (h : 0 < e.Kids.length) => (hvl.kid (i := 0) h).val
 have e0 : hasRange e col = hasRange e col := rfl
 refine AW.seq (AW.r1 hC [1, 2] [8] ⟨[(1, sI col), (2, .ref 8 1 0)], [(8, .box 1 [sI (Xpr.Kind e), sI (Xpr.Col e), sB (Val.Null (Xpr.V e)), sI (Val.N (Xpr.V e)), sD11 (Xpr.Kids e)])]⟩ ?_)
 refine AW.seq (AW.seq (AW.r0 hC [1, 2, 12] [8] ⟨[(1, sI col), (2, .ref 8 1 0), (12, sB (bif ((Xpr.Kind e) != 6) then ((Xpr.Kind e) != 7) else false))], [(8, .box 1 [sI (Xpr.Kind e), sI (Xpr.Col e), sB (Val.Null (Xpr.V e)), sI (Val.N (Xpr.V e)), sD11 (Xpr.Kids e)])]⟩ [((((Xpr.Kind e) != 6) = true) → ((((Xpr.Kind e) != 6) = true))), ((((Xpr.Kind e) != 6) = true) → ((((Xpr.Kind e) != 6) = true))), ((((Xpr.Kind e) != 6) = true) → ((((Xpr.Kind e) != 6) = true)))] ?_ ?_))
 ·
  refine ⟨?_, ?_, ?_, trivial⟩
  ·
   intro g1
   have g1p0 : (Xpr.Kind e) ≠ 6 := (Go.Am.bne_pos g1)
   assumption
  ·
   intro g2
   have g2p0 : (Xpr.Kind e) ≠ 6 := (Go.Am.bne_pos g2)
   assumption
  ·
   intro g3
   have g3p0 : (Xpr.Kind e) ≠ 6 := (Go.Am.bne_pos g3)
   assumption
 refine AW.cd (bif ((Xpr.Kind e) != 6) then ((Xpr.Kind e) != 7) else false) ?_ ?_
 ·
  intro h4
  have h4q : ((Xpr.Kind e) ≠ 6) ∧ ((Xpr.Kind e) ≠ 7) := (And.imp (fun h => (Go.Am.bne_pos h)) (fun h => (Go.Am.bne_pos h)) (Go.Am.and_pos h4))
  have e5 := e0.trans (Go.Am.bif_t h4)
  refine AW.seq (AW.r1 hC [4] [] ⟨[(4, sB false)], []⟩ ?_)
  exact AW.ret (AW.rB false e5)
 ·
  intro h6
  have h6q : ((Xpr.Kind e) = 6) ∨ ((Xpr.Kind e) = 7) := (Or.imp (fun h => (Go.Am.bne_neg h)) (fun h => (Go.Am.bne_neg h)) (Go.Am.and_neg h6))
  have e7 := e0.trans (Go.Am.bif_f h6)
  refine AW.kp [1, 2] [8] ⟨[(1, sI col), (2, .ref 8 1 0)], [(8, .box 1 [sI (Xpr.Kind e), sI (Xpr.Col e), sB (Val.Null (Xpr.V e)), sI (Val.N (Xpr.V e)), sD11 (Xpr.Kids e)])]⟩ ?_
  refine AW.skip (AW.seq (AW.r0 hC [4] [] ⟨[(4, sB (bif (bif (isColumn (List.getD (Xpr.Kids e) 0 Xpr.zero) col) then ((Xpr.Kind (List.getD (Xpr.Kids e) 1 Xpr.zero)) == 2) else false) then true else (bif (isColumn (List.getD (Xpr.Kids e) 1 Xpr.zero) col) then ((Xpr.Kind (List.getD (Xpr.Kids e) 0 Xpr.zero)) == 2) else false)))], []⟩ [IX (0 : Int) ((List.length (Xpr.Kids e) : Nat) : Int), (True), (((isColumn (List.getD (Xpr.Kids e) 0 Xpr.zero) col) = true) → (((isColumn (List.getD (Xpr.Kids e) 0 Xpr.zero) col) = true))), (((isColumn (List.getD (Xpr.Kids e) 0 Xpr.zero) col) = true) → (((isColumn (List.getD (Xpr.Kids e) 0 Xpr.zero) col) = true))), (((isColumn (List.getD (Xpr.Kids e) 0 Xpr.zero) col) = true) → IX (1 : Int) ((List.length (Xpr.Kids e) : Nat) : Int)), (((isColumn (List.getD (Xpr.Kids e) 0 Xpr.zero) col) = true) → (((isColumn (List.getD (Xpr.Kids e) 0 Xpr.zero) col) = true))), (((isColumn (List.getD (Xpr.Kids e) 0 Xpr.zero) col) = true) → (((isColumn (List.getD (Xpr.Kids e) 0 Xpr.zero) col) = true))), (((isColumn (List.getD (Xpr.Kids e) 0 Xpr.zero) col) = true) → (((isColumn (List.getD (Xpr.Kids e) 0 Xpr.zero) col) = true))), (((isColumn (List.getD (Xpr.Kids e) 0 Xpr.zero) col) = true) → (((isColumn (List.getD (Xpr.Kids e) 0 Xpr.zero) col) = true))), (((bif (isColumn (List.getD (Xpr.Kids e) 0 Xpr.zero) col) then ((Xpr.Kind (List.getD (Xpr.Kids e) 1 Xpr.zero)) == 2) else false) = false) → (((bif (isColumn (List.getD (Xpr.Kids e) 0 Xpr.zero) col) then ((Xpr.Kind (List.getD (Xpr.Kids e) 1 Xpr.zero)) == 2) else false) = false))), (((bif (isColumn (List.getD (Xpr.Kids e) 0 Xpr.zero) col) then ((Xpr.Kind (List.getD (Xpr.Kids e) 1 Xpr.zero)) == 2) else false) = false) → (((bif (isColumn (List.getD (Xpr.Kids e) 0 Xpr.zero) col) then ((Xpr.Kind (List.getD (Xpr.Kids e) 1 Xpr.zero)) == 2) else false) = false))), (((bif (isColumn (List.getD (Xpr.Kids e) 0 Xpr.zero) col) then ((Xpr.Kind (List.getD (Xpr.Kids e) 1 Xpr.zero)) == 2) else false) = false) → IX (1 : Int) ((List.length (Xpr.Kids e) : Nat) : Int)), (((bif (isColumn (List.getD (Xpr.Kids e) 0 Xpr.zero) col) then ((Xpr.Kind (List.getD (Xpr.Kids e) 1 Xpr.zero)) == 2) else false) = false) → (((bif (isColumn (List.getD (Xpr.Kids e) 0 Xpr.zero) col) then ((Xpr.Kind (List.getD (Xpr.Kids e) 1 Xpr.zero)) == 2) else false) = false))), (((bif (isColumn (List.getD (Xpr.Kids e) 0 Xpr.zero) col) then ((Xpr.Kind (List.getD (Xpr.Kids e) 1 Xpr.zero)) == 2) else false) = false) → (((bif (isColumn (List.getD (Xpr.Kids e) 0 Xpr.zero) col) then ((Xpr.Kind (List.getD (Xpr.Kids e) 1 Xpr.zero)) == 2) else false) = false))), (((bif (isColumn (List.getD (Xpr.Kids e) 0 Xpr.zero) col) then ((Xpr.Kind (List.getD (Xpr.Kids e) 1 Xpr.zero)) == 2) else false) = false) → (((bif (isColumn (List.getD (Xpr.Kids e) 0 Xpr.zero) col) then ((Xpr.Kind (List.getD (Xpr.Kids e) 1 Xpr.zero)) == 2) else false) = false))), (((bif (isColumn (List.getD (Xpr.Kids e) 0 Xpr.zero) col) then ((Xpr.Kind (List.getD (Xpr.Kids e) 1 Xpr.zero)) == 2) else false) = false) → (True)), (((bif (isColumn (List.getD (Xpr.Kids e) 0 Xpr.zero) col) then ((Xpr.Kind (List.getD (Xpr.Kids e) 1 Xpr.zero)) == 2) else false) = false) → (((bif (isColumn (List.getD (Xpr.Kids e) 0 Xpr.zero) col) then ((Xpr.Kind (List.getD (Xpr.Kids e) 1 Xpr.zero)) == 2) else false) = false))), ((((bif (isColumn (List.getD (Xpr.Kids e) 0 Xpr.zero) col) then ((Xpr.Kind (List.getD (Xpr.Kids e) 1 Xpr.zero)) == 2) else false) = false) ∧ ((isColumn (List.getD (Xpr.Kids e) 1 Xpr.zero) col) = true)) → ((((bif (isColumn (List.getD (Xpr.Kids e) 0 Xpr.zero) col) then ((Xpr.Kind (List.getD (Xpr.Kids e) 1 Xpr.zero)) == 2) else false) = false) ∧ ((isColumn (List.getD (Xpr.Kids e) 1 Xpr.zero) col) = true)))), ((((bif (isColumn (List.getD (Xpr.Kids e) 0 Xpr.zero) col) then ((Xpr.Kind (List.getD (Xpr.Kids e) 1 Xpr.zero)) == 2) else false) = false) ∧ ((isColumn (List.getD (Xpr.Kids e) 1 Xpr.zero) col) = true)) → ((((bif (isColumn (List.getD (Xpr.Kids e) 0 Xpr.zero) col) then ((Xpr.Kind (List.getD (Xpr.Kids e) 1 Xpr.zero)) == 2) else false) = false) ∧ ((isColumn (List.getD (Xpr.Kids e) 1 Xpr.zero) col) = true)))), ((((bif (isColumn (List.getD (Xpr.Kids e) 0 Xpr.zero) col) then ((Xpr.Kind (List.getD (Xpr.Kids e) 1 Xpr.zero)) == 2) else false) = false) ∧ ((isColumn (List.getD (Xpr.Kids e) 1 Xpr.zero) col) = true)) → IX (0 : Int) ((List.length (Xpr.Kids e) : Nat) : Int)), ((((bif (isColumn (List.getD (Xpr.Kids e) 0 Xpr.zero) col) then ((Xpr.Kind (List.getD (Xpr.Kids e) 1 Xpr.zero)) == 2) else false) = false) ∧ ((isColumn (List.getD (Xpr.Kids e) 1 Xpr.zero) col) = true)) → ((((bif (isColumn (List.getD (Xpr.Kids e) 0 Xpr.zero) col) then ((Xpr.Kind (List.getD (Xpr.Kids e) 1 Xpr.zero)) == 2) else false) = false) ∧ ((isColumn (List.getD (Xpr.Kids e) 1 Xpr.zero) col) = true)))), ((((bif (isColumn (List.getD (Xpr.Kids e) 0 Xpr.zero) col) then ((Xpr.Kind (List.getD (Xpr.Kids e) 1 Xpr.zero)) == 2) else false) = false) ∧ ((isColumn (List.getD (Xpr.Kids e) 1 Xpr.zero) col) = true)) → ((((bif (isColumn (List.getD (Xpr.Kids e) 0 Xpr.zero) col) then ((Xpr.Kind (List.getD (Xpr.Kids e) 1 Xpr.zero)) == 2) else false) = false) ∧ ((isColumn (List.getD (Xpr.Kids e) 1 Xpr.zero) col) = true)))), ((((bif (isColumn (List.getD (Xpr.Kids e) 0 Xpr.zero) col) then ((Xpr.Kind (List.getD (Xpr.Kids e) 1 Xpr.zero)) == 2) else false) = false) ∧ ((isColumn (List.getD (Xpr.Kids e) 1 Xpr.zero) col) = true)) → ((((bif (isColumn (List.getD (Xpr.Kids e) 0 Xpr.zero) col) then ((Xpr.Kind (List.getD (Xpr.Kids e) 1 Xpr.zero)) == 2) else false) = false) ∧ ((isColumn (List.getD (Xpr.Kids e) 1 Xpr.zero) col) = true)))), (((bif (isColumn (List.getD (Xpr.Kids e) 0 Xpr.zero) col) then ((Xpr.Kind (List.getD (Xpr.Kids e) 1 Xpr.zero)) == 2) else false) = false) → (((bif (isColumn (List.getD (Xpr.Kids e) 0 Xpr.zero) col) then ((Xpr.Kind (List.getD (Xpr.Kids e) 1 Xpr.zero)) == 2) else false) = false))), (((bif (isColumn (List.getD (Xpr.Kids e) 0 Xpr.zero) col) then ((Xpr.Kind (List.getD (Xpr.Kids e) 1 Xpr.zero)) == 2) else false) = false) → (((isColumn (List.getD (Xpr.Kids e) 1 Xpr.zero) col) = true) → ((((bif (isColumn (List.getD (Xpr.Kids e) 0 Xpr.zero) col) then ((Xpr.Kind (List.getD (Xpr.Kids e) 1 Xpr.zero)) == 2) else false) = false) ∧ ((isColumn (List.getD (Xpr.Kids e) 1 Xpr.zero) col) = true))))), (((bif (isColumn (List.getD (Xpr.Kids e) 0 Xpr.zero) col) then ((Xpr.Kind (List.getD (Xpr.Kids e) 1 Xpr.zero)) == 2) else false) = false) → (((bif (isColumn (List.getD (Xpr.Kids e) 0 Xpr.zero) col) then ((Xpr.Kind (List.getD (Xpr.Kids e) 1 Xpr.zero)) == 2) else false) = false)))] ?_ ?_))
  ·
   refine ⟨?_, ?_, ?_, ?_, ?_, ?_, ?_, ?_, ?_, ?_, ?_, ?_, ?_, ?_, ?_, ?_, ?_, ?_, ?_, ?_, ?_, ?_, ?_, ?_, ?_, ?_, trivial⟩
   ·
    refine IX.of ?_
    omega
   ·
    trivial
   ·
    intro g8
    have g8p0 : (isColumn (List.getD (Xpr.Kids e) 0 Xpr.zero) col) = true := g8
    assumption
   ·
    intro g9
    have g9p0 : (isColumn (List.getD (Xpr.Kids e) 0 Xpr.zero) col) = true := g9
    assumption
   ·
    intro g10
    have g10p0 : (isColumn (List.getD (Xpr.Kids e) 0 Xpr.zero) col) = true := g10
    refine IX.of ?_
    omega
   ·
    intro g11
    have g11p0 : (isColumn (List.getD (Xpr.Kids e) 0 Xpr.zero) col) = true := g11
    assumption
   ·
    intro g12
    have g12p0 : (isColumn (List.getD (Xpr.Kids e) 0 Xpr.zero) col) = true := g12
    assumption
   ·
    intro g13
    have g13p0 : (isColumn (List.getD (Xpr.Kids e) 0 Xpr.zero) col) = true := g13
    assumption
   ·
    intro g14
    have g14p0 : (isColumn (List.getD (Xpr.Kids e) 0 Xpr.zero) col) = true := g14
    assumption
   ·
    intro g15
    have g15p0 : ((isColumn (List.getD (Xpr.Kids e) 0 Xpr.zero) col) = false) ∨ ((Xpr.Kind (List.getD (Xpr.Kids e) 1 Xpr.zero)) ≠ 2) := (Or.imp (fun h => h) (fun h => (Go.Am.beq_neg h)) (Go.Am.and_neg g15))
    assumption
   ·
    intro g16
    have g16p0 : ((isColumn (List.getD (Xpr.Kids e) 0 Xpr.zero) col) = false) ∨ ((Xpr.Kind (List.getD (Xpr.Kids e) 1 Xpr.zero)) ≠ 2) := (Or.imp (fun h => h) (fun h => (Go.Am.beq_neg h)) (Go.Am.and_neg g16))
    assumption
   ·
    intro g17
    have g17p0 : ((isColumn (List.getD (Xpr.Kids e) 0 Xpr.zero) col) = false) ∨ ((Xpr.Kind (List.getD (Xpr.Kids e) 1 Xpr.zero)) ≠ 2) := (Or.imp (fun h => h) (fun h => (Go.Am.beq_neg h)) (Go.Am.and_neg g17))
    refine IX.of ?_
    omega
   ·
    intro g18
    have g18p0 : ((isColumn (List.getD (Xpr.Kids e) 0 Xpr.zero) col) = false) ∨ ((Xpr.Kind (List.getD (Xpr.Kids e) 1 Xpr.zero)) ≠ 2) := (Or.imp (fun h => h) (fun h => (Go.Am.beq_neg h)) (Go.Am.and_neg g18))
    assumption
   ·
    intro g19
    have g19p0 : ((isColumn (List.getD (Xpr.Kids e) 0 Xpr.zero) col) = false) ∨ ((Xpr.Kind (List.getD (Xpr.Kids e) 1 Xpr.zero)) ≠ 2) := (Or.imp (fun h => h) (fun h => (Go.Am.beq_neg h)) (Go.Am.and_neg g19))
    assumption
   ·
    intro g20
    have g20p0 : ((isColumn (List.getD (Xpr.Kids e) 0 Xpr.zero) col) = false) ∨ ((Xpr.Kind (List.getD (Xpr.Kids e) 1 Xpr.zero)) ≠ 2) := (Or.imp (fun h => h) (fun h => (Go.Am.beq_neg h)) (Go.Am.and_neg g20))
    assumption
   ·
    intro g21
    have g21p0 : ((isColumn (List.getD (Xpr.Kids e) 0 Xpr.zero) col) = false) ∨ ((Xpr.Kind (List.getD (Xpr.Kids e) 1 Xpr.zero)) ≠ 2) := (Or.imp (fun h => h) (fun h => (Go.Am.beq_neg h)) (Go.Am.and_neg g21))
    trivial
   ·
    intro g22
    have g22p0 : ((isColumn (List.getD (Xpr.Kids e) 0 Xpr.zero) col) = false) ∨ ((Xpr.Kind (List.getD (Xpr.Kids e) 1 Xpr.zero)) ≠ 2) := (Or.imp (fun h => h) (fun h => (Go.Am.beq_neg h)) (Go.Am.and_neg g22))
    assumption
   ·
    intro g23
    have g23p0 : ((isColumn (List.getD (Xpr.Kids e) 0 Xpr.zero) col) = false) ∨ ((Xpr.Kind (List.getD (Xpr.Kids e) 1 Xpr.zero)) ≠ 2) := (Or.imp (fun h => h) (fun h => (Go.Am.beq_neg h)) (Go.Am.and_neg (g23).1))
    have g23p1 : (isColumn (List.getD (Xpr.Kids e) 1 Xpr.zero) col) = true := (g23).2
    assumption
   ·
    intro g24
    have g24p0 : ((isColumn (List.getD (Xpr.Kids e) 0 Xpr.zero) col) = false) ∨ ((Xpr.Kind (List.getD (Xpr.Kids e) 1 Xpr.zero)) ≠ 2) := (Or.imp (fun h => h) (fun h => (Go.Am.beq_neg h)) (Go.Am.and_neg (g24).1))
    have g24p1 : (isColumn (List.getD (Xpr.Kids e) 1 Xpr.zero) col) = true := (g24).2
    assumption
   ·
    intro g25
    have g25p0 : ((isColumn (List.getD (Xpr.Kids e) 0 Xpr.zero) col) = false) ∨ ((Xpr.Kind (List.getD (Xpr.Kids e) 1 Xpr.zero)) ≠ 2) := (Or.imp (fun h => h) (fun h => (Go.Am.beq_neg h)) (Go.Am.and_neg (g25).1))
    have g25p1 : (isColumn (List.getD (Xpr.Kids e) 1 Xpr.zero) col) = true := (g25).2
    refine IX.of ?_
    omega
   ·
    intro g26
    have g26p0 : ((isColumn (List.getD (Xpr.Kids e) 0 Xpr.zero) col) = false) ∨ ((Xpr.Kind (List.getD (Xpr.Kids e) 1 Xpr.zero)) ≠ 2) := (Or.imp (fun h => h) (fun h => (Go.Am.beq_neg h)) (Go.Am.and_neg (g26).1))
    have g26p1 : (isColumn (List.getD (Xpr.Kids e) 1 Xpr.zero) col) = true := (g26).2
    assumption
   ·
    intro g27
    have g27p0 : ((isColumn (List.getD (Xpr.Kids e) 0 Xpr.zero) col) = false) ∨ ((Xpr.Kind (List.getD (Xpr.Kids e) 1 Xpr.zero)) ≠ 2) := (Or.imp (fun h => h) (fun h => (Go.Am.beq_neg h)) (Go.Am.and_neg (g27).1))
    have g27p1 : (isColumn (List.getD (Xpr.Kids e) 1 Xpr.zero) col) = true := (g27).2
    assumption
   ·
    intro g28
    have g28p0 : ((isColumn (List.getD (Xpr.Kids e) 0 Xpr.zero) col) = false) ∨ ((Xpr.Kind (List.getD (Xpr.Kids e) 1 Xpr.zero)) ≠ 2) := (Or.imp (fun h => h) (fun h => (Go.Am.beq_neg h)) (Go.Am.and_neg (g28).1))
    have g28p1 : (isColumn (List.getD (Xpr.Kids e) 1 Xpr.zero) col) = true := (g28).2
    assumption
   ·
    intro g29
    have g29p0 : ((isColumn (List.getD (Xpr.Kids e) 0 Xpr.zero) col) = false) ∨ ((Xpr.Kind (List.getD (Xpr.Kids e) 1 Xpr.zero)) ≠ 2) := (Or.imp (fun h => h) (fun h => (Go.Am.beq_neg h)) (Go.Am.and_neg g29))
    assumption
   ·
    intro g30
    have g30p0 : ((isColumn (List.getD (Xpr.Kids e) 0 Xpr.zero) col) = false) ∨ ((Xpr.Kind (List.getD (Xpr.Kids e) 1 Xpr.zero)) ≠ 2) := (Or.imp (fun h => h) (fun h => (Go.Am.beq_neg h)) (Go.Am.and_neg g30))
    intro g31
    have g31p0 : (isColumn (List.getD (Xpr.Kids e) 1 Xpr.zero) col) = true := g31
    exact ⟨by assumption, by assumption⟩
   ·
    intro g32
    have g32p0 : ((isColumn (List.getD (Xpr.Kids e) 0 Xpr.zero) col) = false) ∨ ((Xpr.Kind (List.getD (Xpr.Kids e) 1 Xpr.zero)) ≠ 2) := (Or.imp (fun h => h) (fun h => (Go.Am.beq_neg h)) (Go.Am.and_neg g32))
    assumption
  exact AW.ret (AW.rB (bif (bif (isColumn (List.getD (Xpr.Kids e) 0 Xpr.zero) col) then ((Xpr.Kind (List.getD (Xpr.Kids e) 1 Xpr.zero)) == 2) else false) then true else (bif (isColumn (List.getD (Xpr.Kids e) 1 Xpr.zero) col) then ((Xpr.Kind (List.getD (Xpr.Kids e) 0 Xpr.zero)) == 2) else false)) e7)

def restriction (e : Xpr) (col : Int) : Rng × Bool := (bif (bif ((Xpr.Kind e) != 6) then ((Xpr.Kind e) != 7) else false) then ((Rng.mk 0 0), false) else (bif (!((Xpr.Kind (List.getD (Xpr.Kids e) 0 Xpr.zero)) == 1)) then (bif (bif (bif ((Xpr.Kind (List.getD (Xpr.Kids e) 1 Xpr.zero)) != 1) then true else ((Xpr.Col (List.getD (Xpr.Kids e) 1 Xpr.zero)) != col)) then true else ((Xpr.Kind (List.getD (Xpr.Kids e) 0 Xpr.zero)) != 2)) then ((Rng.mk 0 0), false) else (bif (Val.Null (Xpr.V (List.getD (Xpr.Kids e) 0 Xpr.zero))) then ((Rng.mk 1 0), true) else (bif ((Xpr.Kind e) == 6) then ((Rng.mk (Val.N (Xpr.V (List.getD (Xpr.Kids e) 0 Xpr.zero))) (Val.N (Xpr.V (List.getD (Xpr.Kids e) 0 Xpr.zero)))), true) else (bif ((Xpr.Kind (List.getD (Xpr.Kids e) 0 Xpr.zero)) == 1) then ((Rng.mk (-9999) ((Val.N (Xpr.V (List.getD (Xpr.Kids e) 0 Xpr.zero))) - 1)), true) else ((Rng.mk ((Val.N (Xpr.V (List.getD (Xpr.Kids e) 0 Xpr.zero))) + 1) 9999), true))))) else (bif (bif (bif ((Xpr.Kind (List.getD (Xpr.Kids e) 0 Xpr.zero)) != 1) then true else ((Xpr.Col (List.getD (Xpr.Kids e) 0 Xpr.zero)) != col)) then true else ((Xpr.Kind (List.getD (Xpr.Kids e) 1 Xpr.zero)) != 2)) then ((Rng.mk 0 0), false) else (bif (Val.Null (Xpr.V (List.getD (Xpr.Kids e) 1 Xpr.zero))) then ((Rng.mk 1 0), true) else (bif ((Xpr.Kind e) == 6) then ((Rng.mk (Val.N (Xpr.V (List.getD (Xpr.Kids e) 1 Xpr.zero))) (Val.N (Xpr.V (List.getD (Xpr.Kids e) 1 Xpr.zero)))), true) else (bif ((Xpr.Kind (List.getD (Xpr.Kids e) 0 Xpr.zero)) == 1) then ((Rng.mk (-9999) ((Val.N (Xpr.V (List.getD (Xpr.Kids e) 1 Xpr.zero))) - 1)), true) else ((Rng.mk ((Val.N (Xpr.V (List.getD (Xpr.Kids e) 1 Xpr.zero))) + 1) 9999), true)))))))

def restriction_sp : FnSpec := mkSpec [.rd (.named 1), .val (.int .i64)] [.val (.named 4), .val .bool] (fun (e : Xpr) (col : Int) => ∃ w, VL w e) (fun (e : Xpr) (col : Int) => [⟨(.named 4), ((restriction e col).1)⟩, ⟨.bool, ((restriction e col).2)⟩])

theorem restriction_ok : FnOK Try.prog 26 restriction_sp := by
 have hC : CtxOK Try.prog (mkCtx tyL []) := CtxOK.nil tyOK
 have hM : Try.prog.follows .mixedOrders = true := Try.checked.mixed
 refine FnOK.of_body Try.func26 (by kernel_rfl) rfl (C := (mkCtx tyL [])) hC.ty (by kernel_rfl) ?_
 intro (e : Xpr) (col : Int) hwf hpre E
 have hpre : ∃ w, VL w e := hpre
 have hw_e : Wf ⟨(.named 1), (e : Xpr)⟩ := hwf _ (List.Mem.head _)
 obtain ⟨hr_e_Kind, hr_e_Col, hl_e_Kids⟩ := Xpr.wfl hw_e
 have hw_col : Wf ⟨(.int .i64), (col : Int)⟩ := hwf _ (List.Mem.tail _ (List.Mem.head _))
 have hr_col : -9223372036854775808 ≤ col ∧ col ≤ 9223372036854775807 := hw_col.int_inv
 obtain ⟨w0, hvl⟩ := hpre
 have hk2 := hvl.kids2
 have htw := hvl.two
 have hv1 := fun (h : 1 < e.Kids.length) => (hvl.kid (i := 1) h).val
 have hv0 := fun (h : 0 < e.Kids.length) => (hvl.kid (i := 0) h).val
 have e0 : restriction e col = restriction e col := rfl
 refine AW.seq (AW.r1 hC [0, 1, 4] [16] ⟨[(0, sR4 e), (1, sI col), (4, .ref 16 1 0)], [(16, .box 1 [sI 0, sI 0])]⟩ ?_)
 refine AW.seq (AW.seq (AW.r0 hC [0, 1, 4, 21] [16] ⟨[(0, sR4 e), (1, sI col), (4, .ref 16 1 0), (21, sB (bif ((Xpr.Kind e) != 6) then ((Xpr.Kind e) != 7) else false))], [(16, .box 1 [sI 0, sI 0])]⟩ [((((Xpr.Kind e) != 6) = true) → ((((Xpr.Kind e) != 6) = true))), ((((Xpr.Kind e) != 6) = true) → ((((Xpr.Kind e) != 6) = true))), ((((Xpr.Kind e) != 6) = true) → ((((Xpr.Kind e) != 6) = true))), ((((Xpr.Kind e) != 6) = true) → ((((Xpr.Kind e) != 6) = true))), ((((Xpr.Kind e) != 6) = true) → ((((Xpr.Kind e) != 6) = true)))] ?_ ?_))
 ·
  refine ⟨?_, ?_, ?_, ?_, ?_, trivial⟩
  ·
   intro g1
   have g1p0 : (Xpr.Kind e) ≠ 6 := (Go.Am.bne_pos g1)
   assumption
  ·
   intro g2
   have g2p0 : (Xpr.Kind e) ≠ 6 := (Go.Am.bne_pos g2)
   assumption
  ·
   intro g3
   have g3p0 : (Xpr.Kind e) ≠ 6 := (Go.Am.bne_pos g3)
   assumption
  ·
   intro g4
   have g4p0 : (Xpr.Kind e) ≠ 6 := (Go.Am.bne_pos g4)
   assumption
  ·
   intro g5
   have g5p0 : (Xpr.Kind e) ≠ 6 := (Go.Am.bne_pos g5)
   assumption
 refine AW.cd (bif ((Xpr.Kind e) != 6) then ((Xpr.Kind e) != 7) else false) ?_ ?_
 ·
  intro h6
  have h6q : ((Xpr.Kind e) ≠ 6) ∧ ((Xpr.Kind e) ≠ 7) := (And.imp (fun h => (Go.Am.bne_pos h)) (fun h => (Go.Am.bne_pos h)) (Go.Am.and_pos h6))
  have e7 := e0.trans (Go.Am.bif_t h6)
  refine AW.seq (AW.r1 hC [4, 5] [16] ⟨[(4, .ref 16 1 0), (5, sB false)], [(16, .box 1 [sI 0, sI 0])]⟩ ?_)
  exact AW.ret (AW.retE (β := Rng × Bool) (fun v => [⟨(.named 4), v.1⟩, ⟨.bool, v.2⟩]) (fun v => []) (v := ((Rng.mk 0 0), false)) e7 (by kernel_rfl) rfl rfl)
 ·
  intro h8
  have h8q : ((Xpr.Kind e) = 6) ∨ ((Xpr.Kind e) = 7) := (Or.imp (fun h => (Go.Am.bne_neg h)) (fun h => (Go.Am.bne_neg h)) (Go.Am.and_neg h8))
  have e9 := e0.trans (Go.Am.bif_f h8)
  refine AW.kp [0, 1, 4] [16] ⟨[(0, sR4 e), (1, sI col), (4, .ref 16 1 0)], [(16, .box 1 [sI 0, sI 0])]⟩ ?_
  refine AW.skip (AW.seq (AW.d0 hC hM [0, 1, 4, 6, 7] [16] ⟨[(0, sR4 e), (1, sI col), (4, .ref 16 1 0), (6, sR4 (List.getD (Xpr.Kids e) 0 Xpr.zero)), (7, sR4 (List.getD (Xpr.Kids e) 1 Xpr.zero))], [(16, .box 1 [sI 0, sI 0])]⟩ [IX (0 : Int) ((List.length (Xpr.Kids e) : Nat) : Int), IX (1 : Int) ((List.length (Xpr.Kids e) : Nat) : Int)] ?_ ?_))
  ·
   refine ⟨?_, ?_, trivial⟩
   ·
    refine IX.of ?_
    omega
   ·
    refine IX.of ?_
    omega
  refine AW.seq (AW.r1 hC [0, 1, 4, 6, 7, 8] [16] ⟨[(0, sR4 e), (1, sI col), (4, .ref 16 1 0), (6, sR4 (List.getD (Xpr.Kids e) 0 Xpr.zero)), (7, sR4 (List.getD (Xpr.Kids e) 1 Xpr.zero)), (8, sB ((Xpr.Kind (List.getD (Xpr.Kids e) 0 Xpr.zero)) == 1))], [(16, .box 1 [sI 0, sI 0])]⟩ ?_)
  refine AW.seq (AW.seq (AW.r1 hC [0, 1, 4, 6, 7, 8, 39] [16] ⟨[(0, sR4 e), (1, sI col), (4, .ref 16 1 0), (6, sR4 (List.getD (Xpr.Kids e) 0 Xpr.zero)), (7, sR4 (List.getD (Xpr.Kids e) 1 Xpr.zero)), (8, sB ((Xpr.Kind (List.getD (Xpr.Kids e) 0 Xpr.zero)) == 1)), (39, sB (!((Xpr.Kind (List.getD (Xpr.Kids e) 0 Xpr.zero)) == 1)))], [(16, .box 1 [sI 0, sI 0])]⟩ ?_))
  refine AW.cd (!((Xpr.Kind (List.getD (Xpr.Kids e) 0 Xpr.zero)) == 1)) ?_ ?_
  ·
   intro h10
   have h10q : (Xpr.Kind (List.getD (Xpr.Kids e) 0 Xpr.zero)) ≠ 1 := (Go.Am.beq_neg (Go.Am.not_pos h10))
   have e11 := e9.trans (Go.Am.bif_t h10)
   refine AW.r1 hC [0, 1, 4, 6, 7, 8] [16] ⟨[(0, sR4 e), (1, sI col), (4, .ref 16 1 0), (6, sR4 (List.getD (Xpr.Kids e) 1 Xpr.zero)), (7, sR4 (List.getD (Xpr.Kids e) 0 Xpr.zero)), (8, sB ((Xpr.Kind (List.getD (Xpr.Kids e) 0 Xpr.zero)) == 1))], [(16, .box 1 [sI 0, sI 0])]⟩ ?_
   refine AW.seq (AW.seq (AW.r0 hC [0, 4, 7, 8, 61] [16] ⟨[(0, sR4 e), (4, .ref 16 1 0), (7, sR4 (List.getD (Xpr.Kids e) 0 Xpr.zero)), (8, sB ((Xpr.Kind (List.getD (Xpr.Kids e) 0 Xpr.zero)) == 1)), (61, sB (bif (bif ((Xpr.Kind (List.getD (Xpr.Kids e) 1 Xpr.zero)) != 1) then true else ((Xpr.Col (List.getD (Xpr.Kids e) 1 Xpr.zero)) != col)) then true else ((Xpr.Kind (List.getD (Xpr.Kids e) 0 Xpr.zero)) != 2)))], [(16, .box 1 [sI 0, sI 0])]⟩ [((((Xpr.Kind (List.getD (Xpr.Kids e) 1 Xpr.zero)) != 1) = false) → ((((Xpr.Kind (List.getD (Xpr.Kids e) 1 Xpr.zero)) != 1) = false))), ((((Xpr.Kind (List.getD (Xpr.Kids e) 1 Xpr.zero)) != 1) = false) → ((((Xpr.Kind (List.getD (Xpr.Kids e) 1 Xpr.zero)) != 1) = false))), ((((Xpr.Kind (List.getD (Xpr.Kids e) 1 Xpr.zero)) != 1) = false) → ((((Xpr.Kind (List.getD (Xpr.Kids e) 1 Xpr.zero)) != 1) = false))), ((((Xpr.Kind (List.getD (Xpr.Kids e) 1 Xpr.zero)) != 1) = false) → ((((Xpr.Kind (List.getD (Xpr.Kids e) 1 Xpr.zero)) != 1) = false))), ((((Xpr.Kind (List.getD (Xpr.Kids e) 1 Xpr.zero)) != 1) = false) → ((((Xpr.Kind (List.getD (Xpr.Kids e) 1 Xpr.zero)) != 1) = false))), ((((Xpr.Kind (List.getD (Xpr.Kids e) 1 Xpr.zero)) != 1) = false) → ((((Xpr.Kind (List.getD (Xpr.Kids e) 1 Xpr.zero)) != 1) = false))), (((bif ((Xpr.Kind (List.getD (Xpr.Kids e) 1 Xpr.zero)) != 1) then true else ((Xpr.Col (List.getD (Xpr.Kids e) 1 Xpr.zero)) != col)) = false) → (((bif ((Xpr.Kind (List.getD (Xpr.Kids e) 1 Xpr.zero)) != 1) then true else ((Xpr.Col (List.getD (Xpr.Kids e) 1 Xpr.zero)) != col)) = false))), (((bif ((Xpr.Kind (List.getD (Xpr.Kids e) 1 Xpr.zero)) != 1) then true else ((Xpr.Col (List.getD (Xpr.Kids e) 1 Xpr.zero)) != col)) = false) → (((bif ((Xpr.Kind (List.getD (Xpr.Kids e) 1 Xpr.zero)) != 1) then true else ((Xpr.Col (List.getD (Xpr.Kids e) 1 Xpr.zero)) != col)) = false))), (((bif ((Xpr.Kind (List.getD (Xpr.Kids e) 1 Xpr.zero)) != 1) then true else ((Xpr.Col (List.getD (Xpr.Kids e) 1 Xpr.zero)) != col)) = false) → (((bif ((Xpr.Kind (List.getD (Xpr.Kids e) 1 Xpr.zero)) != 1) then true else ((Xpr.Col (List.getD (Xpr.Kids e) 1 Xpr.zero)) != col)) = false))), (((bif ((Xpr.Kind (List.getD (Xpr.Kids e) 1 Xpr.zero)) != 1) then true else ((Xpr.Col (List.getD (Xpr.Kids e) 1 Xpr.zero)) != col)) = false) → (((bif ((Xpr.Kind (List.getD (Xpr.Kids e) 1 Xpr.zero)) != 1) then true else ((Xpr.Col (List.getD (Xpr.Kids e) 1 Xpr.zero)) != col)) = false))), (((bif ((Xpr.Kind (List.getD (Xpr.Kids e) 1 Xpr.zero)) != 1) then true else ((Xpr.Col (List.getD (Xpr.Kids e) 1 Xpr.zero)) != col)) = false) → (((bif ((Xpr.Kind (List.getD (Xpr.Kids e) 1 Xpr.zero)) != 1) then true else ((Xpr.Col (List.getD (Xpr.Kids e) 1 Xpr.zero)) != col)) = false)))] ?_ ?_))
   ·
    refine ⟨?_, ?_, ?_, ?_, ?_, ?_, ?_, ?_, ?_, ?_, ?_, trivial⟩
    ·
     intro g12
     have g12p0 : (Xpr.Kind (List.getD (Xpr.Kids e) 1 Xpr.zero)) = 1 := (Go.Am.bne_neg g12)
     assumption
    ·
     intro g13
     have g13p0 : (Xpr.Kind (List.getD (Xpr.Kids e) 1 Xpr.zero)) = 1 := (Go.Am.bne_neg g13)
     assumption
    ·
     intro g14
     have g14p0 : (Xpr.Kind (List.getD (Xpr.Kids e) 1 Xpr.zero)) = 1 := (Go.Am.bne_neg g14)
     assumption
    ·
     intro g15
     have g15p0 : (Xpr.Kind (List.getD (Xpr.Kids e) 1 Xpr.zero)) = 1 := (Go.Am.bne_neg g15)
     assumption
    ·
     intro g16
     have g16p0 : (Xpr.Kind (List.getD (Xpr.Kids e) 1 Xpr.zero)) = 1 := (Go.Am.bne_neg g16)
     assumption
    ·
     intro g17
     have g17p0 : (Xpr.Kind (List.getD (Xpr.Kids e) 1 Xpr.zero)) = 1 := (Go.Am.bne_neg g17)
     assumption
    ·
     intro g18
     have g18p0 : ((Xpr.Kind (List.getD (Xpr.Kids e) 1 Xpr.zero)) = 1) ∧ ((Xpr.Col (List.getD (Xpr.Kids e) 1 Xpr.zero)) = col) := (And.imp (fun h => (Go.Am.bne_neg h)) (fun h => (Go.Am.bne_neg h)) (Go.Am.or_neg g18))
     assumption
    ·
     intro g19
     have g19p0 : ((Xpr.Kind (List.getD (Xpr.Kids e) 1 Xpr.zero)) = 1) ∧ ((Xpr.Col (List.getD (Xpr.Kids e) 1 Xpr.zero)) = col) := (And.imp (fun h => (Go.Am.bne_neg h)) (fun h => (Go.Am.bne_neg h)) (Go.Am.or_neg g19))
     assumption
    ·
     intro g20
     have g20p0 : ((Xpr.Kind (List.getD (Xpr.Kids e) 1 Xpr.zero)) = 1) ∧ ((Xpr.Col (List.getD (Xpr.Kids e) 1 Xpr.zero)) = col) := (And.imp (fun h => (Go.Am.bne_neg h)) (fun h => (Go.Am.bne_neg h)) (Go.Am.or_neg g20))
     assumption
    ·
     intro g21
     have g21p0 : ((Xpr.Kind (List.getD (Xpr.Kids e) 1 Xpr.zero)) = 1) ∧ ((Xpr.Col (List.getD (Xpr.Kids e) 1 Xpr.zero)) = col) := (And.imp (fun h => (Go.Am.bne_neg h)) (fun h => (Go.Am.bne_neg h)) (Go.Am.or_neg g21))
     assumption
    ·
     intro g22
     have g22p0 : ((Xpr.Kind (List.getD (Xpr.Kids e) 1 Xpr.zero)) = 1) ∧ ((Xpr.Col (List.getD (Xpr.Kids e) 1 Xpr.zero)) = col) := (And.imp (fun h => (Go.Am.bne_neg h)) (fun h => (Go.Am.bne_neg h)) (Go.Am.or_neg g22))
     assumption
   refine AW.cd (bif (bif ((Xpr.Kind (List.getD (Xpr.Kids e) 1 Xpr.zero)) != 1) then true else ((Xpr.Col (List.getD (Xpr.Kids e) 1 Xpr.zero)) != col)) then true else ((Xpr.Kind (List.getD (Xpr.Kids e) 0 Xpr.zero)) != 2)) ?_ ?_
   ·
    intro h23
    have h23q : (((Xpr.Kind (List.getD (Xpr.Kids e) 1 Xpr.zero)) ≠ 1) ∨ ((Xpr.Col (List.getD (Xpr.Kids e) 1 Xpr.zero)) ≠ col)) ∨ ((Xpr.Kind (List.getD (Xpr.Kids e) 0 Xpr.zero)) ≠ 2) := (Or.imp (fun h => (Or.imp (fun h => (Go.Am.bne_pos h)) (fun h => (Go.Am.bne_pos h)) (Go.Am.or_pos h))) (fun h => (Go.Am.bne_pos h)) (Go.Am.or_pos h23))
    have e24 := e11.trans (Go.Am.bif_t h23)
    refine AW.seq (AW.r1 hC [4, 5] [16] ⟨[(4, .ref 16 1 0), (5, sB false)], [(16, .box 1 [sI 0, sI 0])]⟩ ?_)
    exact AW.ret (AW.retE (β := Rng × Bool) (fun v => [⟨(.named 4), v.1⟩, ⟨.bool, v.2⟩]) (fun v => []) (v := ((Rng.mk 0 0), false)) e24 (by kernel_rfl) rfl rfl)
   ·
    intro h25
    have h25q : (((Xpr.Kind (List.getD (Xpr.Kids e) 1 Xpr.zero)) = 1) ∧ ((Xpr.Col (List.getD (Xpr.Kids e) 1 Xpr.zero)) = col)) ∧ ((Xpr.Kind (List.getD (Xpr.Kids e) 0 Xpr.zero)) = 2) := (And.imp (fun h => (And.imp (fun h => (Go.Am.bne_neg h)) (fun h => (Go.Am.bne_neg h)) (Go.Am.or_neg h))) (fun h => (Go.Am.bne_neg h)) (Go.Am.or_neg h25))
    have e26 := e11.trans (Go.Am.bif_f h25)
    refine AW.kp [0, 4, 7, 8] [16] ⟨[(0, sR4 e), (4, .ref 16 1 0), (7, sR4 (List.getD (Xpr.Kids e) 0 Xpr.zero)), (8, sB ((Xpr.Kind (List.getD (Xpr.Kids e) 0 Xpr.zero)) == 1))], [(16, .box 1 [sI 0, sI 0])]⟩ ?_
    refine AW.skip (AW.seq (AW.r1 hC [0, 4, 7, 8, 9] [16] ⟨[(0, sR4 e), (4, .ref 16 1 0), (7, sR4 (List.getD (Xpr.Kids e) 0 Xpr.zero)), (8, sB ((Xpr.Kind (List.getD (Xpr.Kids e) 0 Xpr.zero)) == 1)), (9, sI (Val.N (Xpr.V (List.getD (Xpr.Kids e) 0 Xpr.zero))))], [(16, .box 1 [sI 0, sI 0])]⟩ ?_))
    refine AW.seq (AW.block (AW.seq (AW.r1 hC [0, 4, 8, 9, 68] [16] ⟨[(0, sR4 e), (4, .ref 16 1 0), (8, sB ((Xpr.Kind (List.getD (Xpr.Kids e) 0 Xpr.zero)) == 1)), (9, sI (Val.N (Xpr.V (List.getD (Xpr.Kids e) 0 Xpr.zero)))), (68, sB (Val.Null (Xpr.V (List.getD (Xpr.Kids e) 0 Xpr.zero))))], [(16, .box 1 [sI 0, sI 0])]⟩ ?_)))
    refine AW.cd (Val.Null (Xpr.V (List.getD (Xpr.Kids e) 0 Xpr.zero))) ?_ ?_
    ·
     intro h27
     have h27q : (Val.Null (Xpr.V (List.getD (Xpr.Kids e) 0 Xpr.zero))) = true := h27
     have e28 := e26.trans (Go.Am.bif_t h27)
     refine AW.seq (AW.r1 hC [4, 5] [16] ⟨[(4, .ref 16 1 0), (5, sB true)], [(16, .box 1 [sI 1, sI 0])]⟩ ?_)
     exact AW.ret (AW.retE (β := Rng × Bool) (fun v => [⟨(.named 4), v.1⟩, ⟨.bool, v.2⟩]) (fun v => []) (v := ((Rng.mk 1 0), true)) e28 (by kernel_rfl) rfl rfl)
    ·
     intro h29
     have h29q : (Val.Null (Xpr.V (List.getD (Xpr.Kids e) 0 Xpr.zero))) = false := h29
     have e30 := e26.trans (Go.Am.bif_f h29)
     refine AW.seq (AW.r1 hC [4, 8, 9, 75] [16] ⟨[(4, .ref 16 1 0), (8, sB ((Xpr.Kind (List.getD (Xpr.Kids e) 0 Xpr.zero)) == 1)), (9, sI (Val.N (Xpr.V (List.getD (Xpr.Kids e) 0 Xpr.zero)))), (75, sB ((Xpr.Kind e) == 6))], [(16, .box 1 [sI 0, sI 0])]⟩ ?_)
     refine AW.cd ((Xpr.Kind e) == 6) ?_ ?_
     ·
      intro h31
      have h31q := (Go.Am.beq_pos h31)
      have e32 := e30.trans (Go.Am.bif_t h31)
      refine AW.seq (AW.r1 hC [4, 5] [16] ⟨[(4, .ref 16 1 0), (5, sB true)], [(16, .box 1 [sI (Val.N (Xpr.V (List.getD (Xpr.Kids e) 0 Xpr.zero))), sI (Val.N (Xpr.V (List.getD (Xpr.Kids e) 0 Xpr.zero)))])]⟩ ?_)
      exact AW.ret (AW.retE (β := Rng × Bool) (fun v => [⟨(.named 4), v.1⟩, ⟨.bool, v.2⟩]) (fun v => []) (v := ((Rng.mk (Val.N (Xpr.V (List.getD (Xpr.Kids e) 0 Xpr.zero))) (Val.N (Xpr.V (List.getD (Xpr.Kids e) 0 Xpr.zero)))), true)) e32 (by kernel_rfl) rfl rfl)
     ·
      intro h33
      have h33q := (Go.Am.beq_neg h33)
      have e34 := e30.trans (Go.Am.bif_f h33)
      refine AW.seq (AW.r1 hC [4, 9, 84] [16] ⟨[(4, .ref 16 1 0), (9, sI (Val.N (Xpr.V (List.getD (Xpr.Kids e) 0 Xpr.zero)))), (84, sB ((Xpr.Kind (List.getD (Xpr.Kids e) 0 Xpr.zero)) == 1))], [(16, .box 1 [sI 0, sI 0])]⟩ ?_)
      refine AW.cd ((Xpr.Kind (List.getD (Xpr.Kids e) 0 Xpr.zero)) == 1) ?_ ?_
      ·
       intro h35
       have h35q := (Go.Am.beq_pos h35)
       have e36 := e34.trans (Go.Am.bif_t h35)
       refine AW.seq (AW.r0 hC [4, 5] [16] ⟨[(4, .ref 16 1 0), (5, sB true)], [(16, .box 1 [sI (-9999), sI ((Val.N (Xpr.V (List.getD (Xpr.Kids e) 0 Xpr.zero))) - 1)])]⟩ [R64 ((Val.N (Xpr.V (List.getD (Xpr.Kids e) 0 Xpr.zero))) - 1)] ?_ ?_)
       ·
        refine ⟨?_, trivial⟩
        ·
         refine R64.of ?_
         omega
       exact AW.ret (AW.retE (β := Rng × Bool) (fun v => [⟨(.named 4), v.1⟩, ⟨.bool, v.2⟩]) (fun v => []) (v := ((Rng.mk (-9999) ((Val.N (Xpr.V (List.getD (Xpr.Kids e) 0 Xpr.zero))) - 1)), true)) e36 (by kernel_rfl) rfl rfl)
      ·
       intro h37
       have h37q := (Go.Am.beq_neg h37)
       have e38 := e34.trans (Go.Am.bif_f h37)
       refine AW.kp [4, 9] [16] ⟨[(4, .ref 16 1 0), (9, sI (Val.N (Xpr.V (List.getD (Xpr.Kids e) 0 Xpr.zero))))], [(16, .box 1 [sI 0, sI 0])]⟩ ?_
       refine AW.skip (AW.seq (AW.r0 hC [4, 5] [16] ⟨[(4, .ref 16 1 0), (5, sB true)], [(16, .box 1 [sI ((Val.N (Xpr.V (List.getD (Xpr.Kids e) 0 Xpr.zero))) + 1), sI 9999])]⟩ [R64 ((Val.N (Xpr.V (List.getD (Xpr.Kids e) 0 Xpr.zero))) + 1)] ?_ ?_))
       ·
        refine ⟨?_, trivial⟩
        ·
         refine R64.of ?_
         omega
       exact AW.ret (AW.retE (β := Rng × Bool) (fun v => [⟨(.named 4), v.1⟩, ⟨.bool, v.2⟩]) (fun v => []) (v := ((Rng.mk ((Val.N (Xpr.V (List.getD (Xpr.Kids e) 0 Xpr.zero))) + 1) 9999), true)) e38 (by kernel_rfl) rfl rfl)
  ·
   intro h39
   have h39q : (Xpr.Kind (List.getD (Xpr.Kids e) 0 Xpr.zero)) = 1 := (Go.Am.beq_pos (Go.Am.not_neg h39))
   have e40 := e9.trans (Go.Am.bif_f h39)
   refine AW.kp [0, 1, 4, 6, 7, 8] [16] ⟨[(0, sR4 e), (1, sI col), (4, .ref 16 1 0), (6, sR4 (List.getD (Xpr.Kids e) 0 Xpr.zero)), (7, sR4 (List.getD (Xpr.Kids e) 1 Xpr.zero)), (8, sB ((Xpr.Kind (List.getD (Xpr.Kids e) 0 Xpr.zero)) == 1))], [(16, .box 1 [sI 0, sI 0])]⟩ ?_
   refine AW.skip (AW.seq (AW.seq (AW.r0 hC [0, 4, 7, 8, 61] [16] ⟨[(0, sR4 e), (4, .ref 16 1 0), (7, sR4 (List.getD (Xpr.Kids e) 1 Xpr.zero)), (8, sB ((Xpr.Kind (List.getD (Xpr.Kids e) 0 Xpr.zero)) == 1)), (61, sB (bif (bif ((Xpr.Kind (List.getD (Xpr.Kids e) 0 Xpr.zero)) != 1) then true else ((Xpr.Col (List.getD (Xpr.Kids e) 0 Xpr.zero)) != col)) then true else ((Xpr.Kind (List.getD (Xpr.Kids e) 1 Xpr.zero)) != 2)))], [(16, .box 1 [sI 0, sI 0])]⟩ [((((Xpr.Kind (List.getD (Xpr.Kids e) 0 Xpr.zero)) != 1) = false) → ((((Xpr.Kind (List.getD (Xpr.Kids e) 0 Xpr.zero)) != 1) = false))), ((((Xpr.Kind (List.getD (Xpr.Kids e) 0 Xpr.zero)) != 1) = false) → ((((Xpr.Kind (List.getD (Xpr.Kids e) 0 Xpr.zero)) != 1) = false))), ((((Xpr.Kind (List.getD (Xpr.Kids e) 0 Xpr.zero)) != 1) = false) → ((((Xpr.Kind (List.getD (Xpr.Kids e) 0 Xpr.zero)) != 1) = false))), ((((Xpr.Kind (List.getD (Xpr.Kids e) 0 Xpr.zero)) != 1) = false) → ((((Xpr.Kind (List.getD (Xpr.Kids e) 0 Xpr.zero)) != 1) = false))), ((((Xpr.Kind (List.getD (Xpr.Kids e) 0 Xpr.zero)) != 1) = false) → ((((Xpr.Kind (List.getD (Xpr.Kids e) 0 Xpr.zero)) != 1) = false))), ((((Xpr.Kind (List.getD (Xpr.Kids e) 0 Xpr.zero)) != 1) = false) → ((((Xpr.Kind (List.getD (Xpr.Kids e) 0 Xpr.zero)) != 1) = false))), (((bif ((Xpr.Kind (List.getD (Xpr.Kids e) 0 Xpr.zero)) != 1) then true else ((Xpr.Col (List.getD (Xpr.Kids e) 0 Xpr.zero)) != col)) = false) → (((bif ((Xpr.Kind (List.getD (Xpr.Kids e) 0 Xpr.zero)) != 1) then true else ((Xpr.Col (List.getD (Xpr.Kids e) 0 Xpr.zero)) != col)) = false))), (((bif ((Xpr.Kind (List.getD (Xpr.Kids e) 0 Xpr.zero)) != 1) then true else ((Xpr.Col (List.getD (Xpr.Kids e) 0 Xpr.zero)) != col)) = false) → (((bif ((Xpr.Kind (List.getD (Xpr.Kids e) 0 Xpr.zero)) != 1) then true else ((Xpr.Col (List.getD (Xpr.Kids e) 0 Xpr.zero)) != col)) = false))), (((bif ((Xpr.Kind (List.getD (Xpr.Kids e) 0 Xpr.zero)) != 1) then true else ((Xpr.Col (List.getD (Xpr.Kids e) 0 Xpr.zero)) != col)) = false) → (((bif ((Xpr.Kind (List.getD (Xpr.Kids e) 0 Xpr.zero)) != 1) then true else ((Xpr.Col (List.getD (Xpr.Kids e) 0 Xpr.zero)) != col)) = false))), (((bif ((Xpr.Kind (List.getD (Xpr.Kids e) 0 Xpr.zero)) != 1) then true else ((Xpr.Col (List.getD (Xpr.Kids e) 0 Xpr.zero)) != col)) = false) → (((bif ((Xpr.Kind (List.getD (Xpr.Kids e) 0 Xpr.zero)) != 1) then true else ((Xpr.Col (List.getD (Xpr.Kids e) 0 Xpr.zero)) != col)) = false))), (((bif ((Xpr.Kind (List.getD (Xpr.Kids e) 0 Xpr.zero)) != 1) then true else ((Xpr.Col (List.getD (Xpr.Kids e) 0 Xpr.zero)) != col)) = false) → (((bif ((Xpr.Kind (List.getD (Xpr.Kids e) 0 Xpr.zero)) != 1) then true else ((Xpr.Col (List.getD (Xpr.Kids e) 0 Xpr.zero)) != col)) = false)))] ?_ ?_)))
   ·
    refine ⟨?_, ?_, ?_, ?_, ?_, ?_, ?_, ?_, ?_, ?_, ?_, trivial⟩
    ·
     intro g41
     have g41p0 : (Xpr.Kind (List.getD (Xpr.Kids e) 0 Xpr.zero)) = 1 := (Go.Am.bne_neg g41)
     assumption
    ·
     intro g42
     have g42p0 : (Xpr.Kind (List.getD (Xpr.Kids e) 0 Xpr.zero)) = 1 := (Go.Am.bne_neg g42)
     assumption
    ·
     intro g43
     have g43p0 : (Xpr.Kind (List.getD (Xpr.Kids e) 0 Xpr.zero)) = 1 := (Go.Am.bne_neg g43)
     assumption
    ·
     intro g44
     have g44p0 : (Xpr.Kind (List.getD (Xpr.Kids e) 0 Xpr.zero)) = 1 := (Go.Am.bne_neg g44)
     assumption
    ·
     intro g45
     have g45p0 : (Xpr.Kind (List.getD (Xpr.Kids e) 0 Xpr.zero)) = 1 := (Go.Am.bne_neg g45)
     assumption
    ·
     intro g46
     have g46p0 : (Xpr.Kind (List.getD (Xpr.Kids e) 0 Xpr.zero)) = 1 := (Go.Am.bne_neg g46)
     assumption
    ·
     intro g47
     have g47p0 : ((Xpr.Kind (List.getD (Xpr.Kids e) 0 Xpr.zero)) = 1) ∧ ((Xpr.Col (List.getD (Xpr.Kids e) 0 Xpr.zero)) = col) := (And.imp (fun h => (Go.Am.bne_neg h)) (fun h => (Go.Am.bne_neg h)) (Go.Am.or_neg g47))
     assumption
    ·
     intro g48
     have g48p0 : ((Xpr.Kind (List.getD (Xpr.Kids e) 0 Xpr.zero)) = 1) ∧ ((Xpr.Col (List.getD (Xpr.Kids e) 0 Xpr.zero)) = col) := (And.imp (fun h => (Go.Am.bne_neg h)) (fun h => (Go.Am.bne_neg h)) (Go.Am.or_neg g48))
     assumption
    ·
     intro g49
     have g49p0 : ((Xpr.Kind (List.getD (Xpr.Kids e) 0 Xpr.zero)) = 1) ∧ ((Xpr.Col (List.getD (Xpr.Kids e) 0 Xpr.zero)) = col) := (And.imp (fun h => (Go.Am.bne_neg h)) (fun h => (Go.Am.bne_neg h)) (Go.Am.or_neg g49))
     assumption
    ·
     intro g50
     have g50p0 : ((Xpr.Kind (List.getD (Xpr.Kids e) 0 Xpr.zero)) = 1) ∧ ((Xpr.Col (List.getD (Xpr.Kids e) 0 Xpr.zero)) = col) := (And.imp (fun h => (Go.Am.bne_neg h)) (fun h => (Go.Am.bne_neg h)) (Go.Am.or_neg g50))
     assumption
    ·
     intro g51
     have g51p0 : ((Xpr.Kind (List.getD (Xpr.Kids e) 0 Xpr.zero)) = 1) ∧ ((Xpr.Col (List.getD (Xpr.Kids e) 0 Xpr.zero)) = col) := (And.imp (fun h => (Go.Am.bne_neg h)) (fun h => (Go.Am.bne_neg h)) (Go.Am.or_neg g51))
     assumption
   refine AW.cd (bif (bif ((Xpr.Kind (List.getD (Xpr.Kids e) 0 Xpr.zero)) != 1) then true else ((Xpr.Col (List.getD (Xpr.Kids e) 0 Xpr.zero)) != col)) then true else ((Xpr.Kind (List.getD (Xpr.Kids e) 1 Xpr.zero)) != 2)) ?_ ?_
   ·
    intro h52
    have h52q : (((Xpr.Kind (List.getD (Xpr.Kids e) 0 Xpr.zero)) ≠ 1) ∨ ((Xpr.Col (List.getD (Xpr.Kids e) 0 Xpr.zero)) ≠ col)) ∨ ((Xpr.Kind (List.getD (Xpr.Kids e) 1 Xpr.zero)) ≠ 2) := (Or.imp (fun h => (Or.imp (fun h => (Go.Am.bne_pos h)) (fun h => (Go.Am.bne_pos h)) (Go.Am.or_pos h))) (fun h => (Go.Am.bne_pos h)) (Go.Am.or_pos h52))
    have e53 := e40.trans (Go.Am.bif_t h52)
    refine AW.seq (AW.r1 hC [4, 5] [16] ⟨[(4, .ref 16 1 0), (5, sB false)], [(16, .box 1 [sI 0, sI 0])]⟩ ?_)
    exact AW.ret (AW.retE (β := Rng × Bool) (fun v => [⟨(.named 4), v.1⟩, ⟨.bool, v.2⟩]) (fun v => []) (v := ((Rng.mk 0 0), false)) e53 (by kernel_rfl) rfl rfl)
   ·
    intro h54
    have h54q : (((Xpr.Kind (List.getD (Xpr.Kids e) 0 Xpr.zero)) = 1) ∧ ((Xpr.Col (List.getD (Xpr.Kids e) 0 Xpr.zero)) = col)) ∧ ((Xpr.Kind (List.getD (Xpr.Kids e) 1 Xpr.zero)) = 2) := (And.imp (fun h => (And.imp (fun h => (Go.Am.bne_neg h)) (fun h => (Go.Am.bne_neg h)) (Go.Am.or_neg h))) (fun h => (Go.Am.bne_neg h)) (Go.Am.or_neg h54))
    have e55 := e40.trans (Go.Am.bif_f h54)
    refine AW.kp [0, 4, 7, 8] [16] ⟨[(0, sR4 e), (4, .ref 16 1 0), (7, sR4 (List.getD (Xpr.Kids e) 1 Xpr.zero)), (8, sB ((Xpr.Kind (List.getD (Xpr.Kids e) 0 Xpr.zero)) == 1))], [(16, .box 1 [sI 0, sI 0])]⟩ ?_
    refine AW.skip (AW.seq (AW.r1 hC [0, 4, 7, 8, 9] [16] ⟨[(0, sR4 e), (4, .ref 16 1 0), (7, sR4 (List.getD (Xpr.Kids e) 1 Xpr.zero)), (8, sB ((Xpr.Kind (List.getD (Xpr.Kids e) 0 Xpr.zero)) == 1)), (9, sI (Val.N (Xpr.V (List.getD (Xpr.Kids e) 1 Xpr.zero))))], [(16, .box 1 [sI 0, sI 0])]⟩ ?_))
    refine AW.seq (AW.block (AW.seq (AW.r1 hC [0, 4, 8, 9, 68] [16] ⟨[(0, sR4 e), (4, .ref 16 1 0), (8, sB ((Xpr.Kind (List.getD (Xpr.Kids e) 0 Xpr.zero)) == 1)), (9, sI (Val.N (Xpr.V (List.getD (Xpr.Kids e) 1 Xpr.zero)))), (68, sB (Val.Null (Xpr.V (List.getD (Xpr.Kids e) 1 Xpr.zero))))], [(16, .box 1 [sI 0, sI 0])]⟩ ?_)))
    refine AW.cd (Val.Null (Xpr.V (List.getD (Xpr.Kids e) 1 Xpr.zero))) ?_ ?_
    ·
     intro h56
     have h56q : (Val.Null (Xpr.V (List.getD (Xpr.Kids e) 1 Xpr.zero))) = true := h56
     have e57 := e55.trans (Go.Am.bif_t h56)
     refine AW.seq (AW.r1 hC [4, 5] [16] ⟨[(4, .ref 16 1 0), (5, sB true)], [(16, .box 1 [sI 1, sI 0])]⟩ ?_)
     exact AW.ret (AW.retE (β := Rng × Bool) (fun v => [⟨(.named 4), v.1⟩, ⟨.bool, v.2⟩]) (fun v => []) (v := ((Rng.mk 1 0), true)) e57 (by kernel_rfl) rfl rfl)
    ·
     intro h58
     have h58q : (Val.Null (Xpr.V (List.getD (Xpr.Kids e) 1 Xpr.zero))) = false := h58
     have e59 := e55.trans (Go.Am.bif_f h58)
     refine AW.seq (AW.r1 hC [4, 8, 9, 75] [16] ⟨[(4, .ref 16 1 0), (8, sB ((Xpr.Kind (List.getD (Xpr.Kids e) 0 Xpr.zero)) == 1)), (9, sI (Val.N (Xpr.V (List.getD (Xpr.Kids e) 1 Xpr.zero)))), (75, sB ((Xpr.Kind e) == 6))], [(16, .box 1 [sI 0, sI 0])]⟩ ?_)
     refine AW.cd ((Xpr.Kind e) == 6) ?_ ?_
     ·
      intro h60
      have h60q := (Go.Am.beq_pos h60)
      have e61 := e59.trans (Go.Am.bif_t h60)
      refine AW.seq (AW.r1 hC [4, 5] [16] ⟨[(4, .ref 16 1 0), (5, sB true)], [(16, .box 1 [sI (Val.N (Xpr.V (List.getD (Xpr.Kids e) 1 Xpr.zero))), sI (Val.N (Xpr.V (List.getD (Xpr.Kids e) 1 Xpr.zero)))])]⟩ ?_)
      exact AW.ret (AW.retE (β := Rng × Bool) (fun v => [⟨(.named 4), v.1⟩, ⟨.bool, v.2⟩]) (fun v => []) (v := ((Rng.mk (Val.N (Xpr.V (List.getD (Xpr.Kids e) 1 Xpr.zero))) (Val.N (Xpr.V (List.getD (Xpr.Kids e) 1 Xpr.zero)))), true)) e61 (by kernel_rfl) rfl rfl)
     ·
      intro h62
      have h62q := (Go.Am.beq_neg h62)
      have e63 := e59.trans (Go.Am.bif_f h62)
      refine AW.seq (AW.r1 hC [4, 9, 84] [16] ⟨[(4, .ref 16 1 0), (9, sI (Val.N (Xpr.V (List.getD (Xpr.Kids e) 1 Xpr.zero)))), (84, sB ((Xpr.Kind (List.getD (Xpr.Kids e) 0 Xpr.zero)) == 1))], [(16, .box 1 [sI 0, sI 0])]⟩ ?_)
      refine AW.cd ((Xpr.Kind (List.getD (Xpr.Kids e) 0 Xpr.zero)) == 1) ?_ ?_
      ·
       intro h64
       have h64q := (Go.Am.beq_pos h64)
       have e65 := e63.trans (Go.Am.bif_t h64)
       refine AW.seq (AW.r0 hC [4, 5] [16] ⟨[(4, .ref 16 1 0), (5, sB true)], [(16, .box 1 [sI (-9999), sI ((Val.N (Xpr.V (List.getD (Xpr.Kids e) 1 Xpr.zero))) - 1)])]⟩ [R64 ((Val.N (Xpr.V (List.getD (Xpr.Kids e) 1 Xpr.zero))) - 1)] ?_ ?_)
       ·
        refine ⟨?_, trivial⟩
        ·
         refine R64.of ?_
         omega
       exact AW.ret (AW.retE (β := Rng × Bool) (fun v => [⟨(.named 4), v.1⟩, ⟨.bool, v.2⟩]) (fun v => []) (v := ((Rng.mk (-9999) ((Val.N (Xpr.V (List.getD (Xpr.Kids e) 1 Xpr.zero))) - 1)), true)) e65 (by kernel_rfl) rfl rfl)
      ·
       intro h66
       have h66q := (Go.Am.beq_neg h66)
       have e67 := e63.trans (Go.Am.bif_f h66)
       refine AW.kp [4, 9] [16] ⟨[(4, .ref 16 1 0), (9, sI (Val.N (Xpr.V (List.getD (Xpr.Kids e) 1 Xpr.zero))))], [(16, .box 1 [sI 0, sI 0])]⟩ ?_
       refine AW.skip (AW.seq (AW.r0 hC [4, 5] [16] ⟨[(4, .ref 16 1 0), (5, sB true)], [(16, .box 1 [sI ((Val.N (Xpr.V (List.getD (Xpr.Kids e) 1 Xpr.zero))) + 1), sI 9999])]⟩ [R64 ((Val.N (Xpr.V (List.getD (Xpr.Kids e) 1 Xpr.zero))) + 1)] ?_ ?_))
       ·
        refine ⟨?_, trivial⟩
        ·
         refine R64.of ?_
         omega
       exact AW.ret (AW.retE (β := Rng × Bool) (fun v => [⟨(.named 4), v.1⟩, ⟨.bool, v.2⟩]) (fun v => []) (v := ((Rng.mk ((Val.N (Xpr.V (List.getD (Xpr.Kids e) 1 Xpr.zero))) + 1) 9999), true)) e67 (by kernel_rfl) rfl rfl)

end
end Go.Proofs.Ytbgbekpbbcahpaa
