/-
  A part of the proof of this claim (Au6): what functions of the program compute, and plain facts of that. No conditions.
-/
import Derived.Test.YtbgbekpbbcahpaaAu5
set_option linter.all false
namespace Go.Proofs.Ytbgbekpbbcahpaa
open Go Go.Am
noncomputable section

theorem copy_loop {self : Xpr → Xpr} {e : Xpr} (hs : ∀ i, i < e.Kids.length → self (e.Kids.getD i Xpr.zero) = e.Kids.getD i Xpr.zero) : ∀ (k i : Nat), e.Kids.length - i < k → i ≤ e.Kids.length → copyExpr_l0 self e k i (e.Kids.take i) = e.Kids := by
 intro k
 induction k with
 | zero => intro i h; omega
 | succ k ih =>
  intro i h hi
  unfold copyExpr_l0
  by_cases hlt : ((i : Nat) : Int) < ((List.length (Xpr.Kids e) : Nat) : Int)
  ·
   have hi' : i < e.Kids.length := by omega
   rw [decide_eq_true hlt, cond_true, hs i hi', show e.Kids.take i ++ [e.Kids.getD i Xpr.zero] = e.Kids.take (i + 1) by
    rw [List.take_add_one, List.getD_eq_getElem?_getD, List.getElem?_eq_getElem hi']
    rfl]
   exact ih (i + 1) (by omega) (by omega)
  ·
   rw [decide_eq_false hlt, cond_false, List.take_of_length_le (by omega)]

theorem copy_eq : ∀ (f : Nat) (e : Xpr), SizeOf.sizeOf e < f → copyExpr_r f e = e := by
 intro f
 induction f with
 | zero => intro e h; omega
 | succ f ih =>
  intro e h
  unfold copyExpr_r Go.Am.andThen
  have := copy_loop (self := copyExpr_r f) (e := e) (fun i hi => ih _ (by have := kid_lt hi; omega)) (e.Kids.length - 0 + 1) 0 (by omega) (Nat.zero_le _)
  rw [List.take_zero] at this
  rw [this]
  exact Xpr.eta e

theorem copyExpr_eq (e : Xpr) : copyExpr e = e := copy_eq _ e (Nat.lt_succ_self _)

theorem conj_vl {w : Int} : ∀ (f : Nat) (e : Xpr), VL w e → ∀ x ∈ conjuncts_r f e, VL w x := by
 intro f
 induction f with
 | zero => intro e _ x hx; cases hx
 | succ f ih =>
  intro e h x hx
  unfold conjuncts_r at hx
  cases hk : (e.Kind != 8) with
  | true =>
   rw [hk, cond_true, copyExpr_eq, Xpr.eta] at hx
   rw [List.mem_singleton.1 hx]
   exact h
  | false =>
   have h8 := bne_neg hk
   have h2 := h.two (by omega)
   rw [hk, cond_false] at hx
   rcases List.mem_append.1 hx with hx | hx
   ·
    exact ih _ (h.kid (i := 0) (by omega)) x hx
   ·
    exact ih _ (h.kid (i := 1) (by omega)) x hx

theorem conj_at {w : Int} {e : Xpr} (h : VL w e) {i : Nat} (hi : i < (conjuncts e).length) : VL w ((conjuncts e).getD i Xpr.zero) := conj_vl _ e h _ (getD_mem (conjuncts e) i Xpr.zero hi)

theorem valid_vl {e : Xpr} {w : Int} (h : ValidExpr e w = true) : VL w e := ⟨8, Nat.le_refl _, (ValidExpr_iff.1 h).2⟩
theorem ivalid_vl {e : Xpr} {w : Int} (h : iValidExpr e w = true) : VE w 8 e := (iValidExpr_iff.1 h).2

theorem valid_vl' {e : Xpr} {w : Int} (h : ValidExpr (Xpr.mk (Xpr.Kind e) (Xpr.Col e) (Xpr.V e) (Xpr.Kids e)) w = true) : VL w (Xpr.mk (Xpr.Kind e) (Xpr.Col e) (Xpr.V e) (Xpr.Kids e)) := valid_vl h
abbrev kd (x : Xpr) (i : Nat) : Xpr := List.getD (Xpr.Kids x) i Xpr.zero
abbrev cl : SV := .clo 25 [.ref 20 1 0, .ref 32 1 0, .ref 36 1 0]
abbrev sL (x : Xpr) : SV := sI ((List.length (Xpr.Kids x) : Nat) : Int)
abbrev sN (n : Nat) : SV := sI ((n : Nat) : Int)
theorem VE.kd {w : Int} {l : Nat} {e : Xpr} (h : VE w (l + 1) e) {i : Nat} (hi : i < e.Kids.length) : VE w l (kd e i) := h.2 i hi
theorem valid_w {e : Xpr} {w : Int} (h : ValidExpr e w = true) : 1 ≤ w ∧ w ≤ 6 := (ValidExpr_iff.1 h).1
theorem conj_n {w : Int} {e : Xpr} (h : VL w e) : (conjuncts e).length ≤ 256 := conj_b _ h
theorem conj_all {w : Int} {e : Xpr} (h : VL w e) (i : Nat) (hi : i < (conjuncts e).length) : VL w ((conjuncts e).getD i Xpr.zero) := conj_at h hi
theorem ivalid_vl' {e : Xpr} {w : Int} (h : iValidExpr (Xpr.mk (Xpr.Kind e) (Xpr.Col e) (Xpr.V e) (Xpr.Kids e)) w = true) : VE w 8 e := by rw [Xpr.eta] at h; exact ivalid_vl h

def RangeOf_l0 (e : Xpr) (col : Int) : Nat → Bool → Nat → Int → Int → Bool × Int × Int
 | 0, found, i, out0, out1 => (found, out0, out1)
 | k + 1, found, i, out0, out1 => (bif (decide (((i : Nat) : Int) < ((List.length (conjuncts (Xpr.mk (Xpr.Kind e) (Xpr.Col e) (Xpr.V e) (Xpr.Kids e))) : Nat) : Int))) then (bif (hasRange (List.getD (conjuncts (Xpr.mk (Xpr.Kind e) (Xpr.Col e) (Xpr.V e) (Xpr.Kids e))) i Xpr.zero) col) then (RangeOf_l0 e col k true (i + 1) (Rng.Low (meet (Rng.mk out0 out1) (rangeOf (List.getD (conjuncts (Xpr.mk (Xpr.Kind e) (Xpr.Col e) (Xpr.V e) (Xpr.Kids e))) i Xpr.zero) col))) (Rng.High (meet (Rng.mk out0 out1) (rangeOf (List.getD (conjuncts (Xpr.mk (Xpr.Kind e) (Xpr.Col e) (Xpr.V e) (Xpr.Kids e))) i Xpr.zero) col)))) else (RangeOf_l0 e col k found (i + 1) out0 out1)) else (found, out0, out1))

def RangeOf (e : Xpr) (width : Int) (col : Int) : Rng × Bool := (bif (bif (!(ValidExpr (Xpr.mk (Xpr.Kind e) (Xpr.Col e) (Xpr.V e) (Xpr.Kids e)) width)) then true else (!(inRange col 0 (width - 1)))) then ((Rng.mk 0 0), false) else (Go.Am.andThen (RangeOf_l0 e col ((List.length (conjuncts (Xpr.mk (Xpr.Kind e) (Xpr.Col e) (Xpr.V e) (Xpr.Kids e)))) - 0 + 1) false 0 (-9999) 9999) (fun z => (fun (found : Bool) (out0 : Int) (out1 : Int) => (bif (!found) then ((Rng.mk 0 0), false) else ((Rng.mk out0 out1), true))) z.1 z.2.1 z.2.2)))

def RangeOf_sp : FnSpec := mkSpec [.val (.named 1), .val (.int .i64), .val (.int .i64)] [.val (.named 4), .val .bool] (fun (e : Xpr) (width : Int) (col : Int) => True) (fun (e : Xpr) (width : Int) (col : Int) => [⟨(.named 4), ((RangeOf e width col).1)⟩, ⟨.bool, ((RangeOf e width col).2)⟩])

theorem RangeOf_ok : FnOK Try.prog 6 RangeOf_sp := by
 have hC : CtxOK Try.prog (mkCtx tyL [(15, ValidExpr_sp), (16, inRange_sp), (17, conjuncts_sp), (18, hasRange_sp), (19, meet_sp), (20, rangeOf_sp)]) := CtxOK.cons ValidExpr_ok (CtxOK.cons inRange_ok (CtxOK.cons conjuncts_ok (CtxOK.cons hasRange_ok (CtxOK.cons meet_ok (CtxOK.cons rangeOf_ok (CtxOK.nil tyOK))))))
 have hM : Try.prog.follows .mixedOrders = true := Try.checked.mixed
 refine FnOK.of_body Try.func6 (by kernel_rfl) rfl (C := (mkCtx tyL [(15, ValidExpr_sp), (16, inRange_sp), (17, conjuncts_sp), (18, hasRange_sp), (19, meet_sp), (20, rangeOf_sp)])) hC.ty (by kernel_rfl) ?_
 intro (e : Xpr) (width : Int) (col : Int) hwf hpre E
 have hpre : True := hpre
 have hw_e : Wf ⟨(.named 1), (e : Xpr)⟩ := hwf _ (List.Mem.head _)
 obtain ⟨hr_e_Kind, hr_e_Col, hl_e_Kids⟩ := Xpr.wfl hw_e
 have hw_width : Wf ⟨(.int .i64), (width : Int)⟩ := hwf _ (List.Mem.tail _ (List.Mem.head _))
 have hr_width : -9223372036854775808 ≤ width ∧ width ≤ 9223372036854775807 := hw_width.int_inv
 have hw_col : Wf ⟨(.int .i64), (col : Int)⟩ := hwf _ (List.Mem.tail _ (List.Mem.tail _ (List.Mem.head _)))
 have hr_col : -9223372036854775808 ≤ col ∧ col ≤ 9223372036854775807 := hw_col.int_inv
 have e0 : RangeOf e width col = RangeOf e width col := rfl
 refine AW.seq (AW.r1 hC [1, 2, 3, 6] [12, 24] ⟨[(1, sI width), (2, sI col), (3, .ref 12 1 0), (6, .ref 24 1 0)], [(12, .box 1 [sI (Xpr.Kind e), sI (Xpr.Col e), sB (Val.Null (Xpr.V e)), sI (Val.N (Xpr.V e)), sD11 (Xpr.Kids e)]), (24, .box 1 [sI 0, sI 0])]⟩ ?_)
 refine AW.seq (AW.r1 hC [1, 2, 3, 6, 8] [12, 24, 32] ⟨[(1, sI width), (2, sI col), (3, .ref 12 1 0), (6, .ref 24 1 0), (8, .ref 32 1 0)], [(12, .box 1 [sI (Xpr.Kind e), sI (Xpr.Col e), sB (Val.Null (Xpr.V e)), sI (Val.N (Xpr.V e)), sD11 (Xpr.Kids e)]), (24, .box 1 [sI 0, sI 0]), (32, .box 1 [sI (-9999), sI 9999])]⟩ ?_)
 refine AW.seq (AW.r1 hC [1, 2, 3, 6, 8, 9] [12, 24, 32] ⟨[(1, sI width), (2, sI col), (3, .ref 12 1 0), (6, .ref 24 1 0), (8, .ref 32 1 0), (9, sB false)], [(12, .box 1 [sI (Xpr.Kind e), sI (Xpr.Col e), sB (Val.Null (Xpr.V e)), sI (Val.N (Xpr.V e)), sD11 (Xpr.Kids e)]), (24, .box 1 [sI 0, sI 0]), (32, .box 1 [sI (-9999), sI 9999])]⟩ ?_)
 refine AW.seq (AW.seq (AW.r0 hC [2, 3, 6, 8, 9, 23] [12, 24, 32] ⟨[(2, sI col), (3, .ref 12 1 0), (6, .ref 24 1 0), (8, .ref 32 1 0), (9, sB false), (23, sB (bif (!(ValidExpr (Xpr.mk (Xpr.Kind e) (Xpr.Col e) (Xpr.V e) (Xpr.Kids e)) width)) then true else (!(inRange col 0 (width - 1)))))], [(12, .box 1 [sI (Xpr.Kind e), sI (Xpr.Col e), sB (Val.Null (Xpr.V e)), sI (Val.N (Xpr.V e)), sD11 (Xpr.Kids e)]), (24, .box 1 [sI 0, sI 0]), (32, .box 1 [sI (-9999), sI 9999])]⟩ [(True), (((!(ValidExpr (Xpr.mk (Xpr.Kind e) (Xpr.Col e) (Xpr.V e) (Xpr.Kids e)) width)) = false) → (((!(ValidExpr (Xpr.mk (Xpr.Kind e) (Xpr.Col e) (Xpr.V e) (Xpr.Kids e)) width)) = false))), (((!(ValidExpr (Xpr.mk (Xpr.Kind e) (Xpr.Col e) (Xpr.V e) (Xpr.Kids e)) width)) = false) → R64 (width - 1)), (((!(ValidExpr (Xpr.mk (Xpr.Kind e) (Xpr.Col e) (Xpr.V e) (Xpr.Kids e)) width)) = false) → (((!(ValidExpr (Xpr.mk (Xpr.Kind e) (Xpr.Col e) (Xpr.V e) (Xpr.Kids e)) width)) = false))), (((!(ValidExpr (Xpr.mk (Xpr.Kind e) (Xpr.Col e) (Xpr.V e) (Xpr.Kids e)) width)) = false) → (((!(ValidExpr (Xpr.mk (Xpr.Kind e) (Xpr.Col e) (Xpr.V e) (Xpr.Kids e)) width)) = false))), (((!(ValidExpr (Xpr.mk (Xpr.Kind e) (Xpr.Col e) (Xpr.V e) (Xpr.Kids e)) width)) = false) → (True)), (((!(ValidExpr (Xpr.mk (Xpr.Kind e) (Xpr.Col e) (Xpr.V e) (Xpr.Kids e)) width)) = false) → (((!(ValidExpr (Xpr.mk (Xpr.Kind e) (Xpr.Col e) (Xpr.V e) (Xpr.Kids e)) width)) = false))), (((!(ValidExpr (Xpr.mk (Xpr.Kind e) (Xpr.Col e) (Xpr.V e) (Xpr.Kids e)) width)) = false) → (((!(ValidExpr (Xpr.mk (Xpr.Kind e) (Xpr.Col e) (Xpr.V e) (Xpr.Kids e)) width)) = false)))] ?_ ?_))
 ·
  refine ⟨?_, ?_, ?_, ?_, ?_, ?_, ?_, ?_, trivial⟩
  ·
   trivial
  ·
   intro g1
   have g1p0 : (ValidExpr (Xpr.mk (Xpr.Kind e) (Xpr.Col e) (Xpr.V e) (Xpr.Kids e)) width) = true := (Go.Am.not_neg g1)
   assumption
  ·
   intro g2
   have g2p0 : (ValidExpr (Xpr.mk (Xpr.Kind e) (Xpr.Col e) (Xpr.V e) (Xpr.Kids e)) width) = true := (Go.Am.not_neg g2)
   refine R64.of ?_
   have := valid_w g2p0
   omega
  ·
   intro g3
   have g3p0 : (ValidExpr (Xpr.mk (Xpr.Kind e) (Xpr.Col e) (Xpr.V e) (Xpr.Kids e)) width) = true := (Go.Am.not_neg g3)
   assumption
  ·
   intro g4
   have g4p0 : (ValidExpr (Xpr.mk (Xpr.Kind e) (Xpr.Col e) (Xpr.V e) (Xpr.Kids e)) width) = true := (Go.Am.not_neg g4)
   assumption
  ·
   intro g5
   have g5p0 : (ValidExpr (Xpr.mk (Xpr.Kind e) (Xpr.Col e) (Xpr.V e) (Xpr.Kids e)) width) = true := (Go.Am.not_neg g5)
   trivial
  ·
   intro g6
   have g6p0 : (ValidExpr (Xpr.mk (Xpr.Kind e) (Xpr.Col e) (Xpr.V e) (Xpr.Kids e)) width) = true := (Go.Am.not_neg g6)
   assumption
  ·
   intro g7
   have g7p0 : (ValidExpr (Xpr.mk (Xpr.Kind e) (Xpr.Col e) (Xpr.V e) (Xpr.Kids e)) width) = true := (Go.Am.not_neg g7)
   assumption
 refine AW.cd (bif (!(ValidExpr (Xpr.mk (Xpr.Kind e) (Xpr.Col e) (Xpr.V e) (Xpr.Kids e)) width)) then true else (!(inRange col 0 (width - 1)))) ?_ ?_
 ·
  intro h8
  have h8q : ((ValidExpr (Xpr.mk (Xpr.Kind e) (Xpr.Col e) (Xpr.V e) (Xpr.Kids e)) width) = false) ∨ ((inRange col 0 (width - 1)) = false) := (Or.imp (fun h => (Go.Am.not_pos h)) (fun h => (Go.Am.not_pos h)) (Go.Am.or_pos h8))
  have e9 := e0.trans (Go.Am.bif_t h8)
  refine AW.seq (AW.r1 hC [6, 7] [24] ⟨[(6, .ref 24 1 0), (7, sB false)], [(24, .box 1 [sI 0, sI 0])]⟩ ?_)
  exact AW.ret (AW.retE (β := Rng × Bool) (fun v => [⟨(.named 4), v.1⟩, ⟨.bool, v.2⟩]) (fun v => []) (v := ((Rng.mk 0 0), false)) e9 (by kernel_rfl) rfl rfl)
 ·
  intro h10
  have h10q : ((ValidExpr (Xpr.mk (Xpr.Kind e) (Xpr.Col e) (Xpr.V e) (Xpr.Kids e)) width) = true) ∧ ((inRange col 0 (width - 1)) = true) := (And.imp (fun h => (Go.Am.not_neg h)) (fun h => (Go.Am.not_neg h)) (Go.Am.or_neg h10))
  have e11 := e0.trans (Go.Am.bif_f h10)
  refine AW.kp [2, 3, 6, 8, 9] [12, 24, 32] ⟨[(2, sI col), (3, .ref 12 1 0), (6, .ref 24 1 0), (8, .ref 32 1 0), (9, sB false)], [(12, .box 1 [sI (Xpr.Kind e), sI (Xpr.Col e), sB (Val.Null (Xpr.V e)), sI (Val.N (Xpr.V e)), sD11 (Xpr.Kids e)]), (24, .box 1 [sI 0, sI 0]), (32, .box 1 [sI (-9999), sI 9999])]⟩ ?_
  refine AW.skip (AW.seq ?_)
  have hV := valid_vl' h10q.1
  have hcv := conj_all hV
  have hlen := conj_n hV
  refine AW.r0 hC [2, 6, 8, 9, 10] [24, 32, 104] ⟨[(2, sI col), (6, .ref 24 1 0), (8, .ref 32 1 0), (9, sB false), (10, .arr 104 1)], [(24, .box 1 [sI 0, sI 0]), (32, .box 1 [sI (-9999), sI 9999]), (104, .arr 1 (.named 1) ((conjuncts (Xpr.mk (Xpr.Kind e) (Xpr.Col e) (Xpr.V e) (Xpr.Kids e))) : List Xpr))]⟩ [(∃ w, VL w (Xpr.mk (Xpr.Kind e) (Xpr.Col e) (Xpr.V e) (Xpr.Kids e)))] ?_ ?_
  ·
   refine ⟨?_, trivial⟩
   ·
    exact ⟨width, hV⟩
  refine AW.seq (AW.seq (AW.r1 hC [2, 6, 8, 9, 10, 11] [24, 32, 104] ⟨[(2, sI col), (6, .ref 24 1 0), (8, .ref 32 1 0), (9, sB false), (10, .arr 104 1), (11, sI 0)], [(24, .box 1 [sI 0, sI 0]), (32, .box 1 [sI (-9999), sI 9999]), (104, .arr 1 (.named 1) ((conjuncts (Xpr.mk (Xpr.Kind e) (Xpr.Col e) (Xpr.V e) (Xpr.Kids e))) : List Xpr))]⟩ ?_))
  refine AW.cutQ (α := Bool × Int × Int) (fun x => ⟨[(6, .ref 24 1 0), (8, .ref 32 1 0), (9, sB x.1)], [(24, .box 1 [sI 0, sI 0]), (32, .box 1 [sI x.2.1, sI x.2.2])]⟩) (fun x => (True) ∧ (RangeOf_l0 e col ((List.length (conjuncts (Xpr.mk (Xpr.Kind e) (Xpr.Col e) (Xpr.V e) (Xpr.Kids e)))) - 0 + 1) false 0 (-9999) 9999) = x) ?_ ?_
  ·
   skip
   refine AW.block (AW.loop (α := Bool × Nat × Int × Int) (fun x => ⟨[(2, sI col), (6, .ref 24 1 0), (8, .ref 32 1 0), (9, sB x.1), (10, .arr 104 1), (11, sI ((x.2.1 : Nat) : Int))], [(24, .box 1 [sI 0, sI 0]), (32, .box 1 [sI x.2.2.1, sI x.2.2.2]), (104, .arr 1 (.named 1) ((conjuncts (Xpr.mk (Xpr.Kind e) (Xpr.Col e) (Xpr.V e) (Xpr.Kids e))) : List Xpr))]⟩) (fun x => (True) ∧ ∃ k, (List.length (conjuncts (Xpr.mk (Xpr.Kind e) (Xpr.Col e) (Xpr.V e) (Xpr.Kids e)))) - x.2.1 < k ∧ (RangeOf_l0 e col ((List.length (conjuncts (Xpr.mk (Xpr.Kind e) (Xpr.Col e) (Xpr.V e) (Xpr.Kids e)))) - 0 + 1) false 0 (-9999) 9999) = RangeOf_l0 e col k x.1 x.2.1 x.2.2.1 x.2.2.2) (fun x => (List.length (conjuncts (Xpr.mk (Xpr.Kind e) (Xpr.Col e) (Xpr.V e) (Xpr.Kids e)))) - x.2.1) (false, 0, (-9999), 9999) (by kernel_rfl) ⟨?_, _, Nat.lt_succ_self _, rfl⟩ ?_)
   ·
    show True
    exact trivial
   ·
    intro x hR
    obtain ⟨found, i, out0, out1⟩ := x
    obtain ⟨hI0, k38, hk36, e37⟩ := hR
    replace hI0 : True := hI0
    replace hk36 : (List.length (conjuncts (Xpr.mk (Xpr.Kind e) (Xpr.Col e) (Xpr.V e) (Xpr.Kids e)))) - i < k38 := hk36
    obtain ⟨k38q, rfl⟩ : ∃ k, k38 = k + 1 := ⟨k38 - 1, by omega⟩
    refine AW.seq (AW.seq (AW.r1 hC [2, 6, 8, 9, 10, 11, 30] [24, 32, 104] ⟨[(2, sI col), (6, .ref 24 1 0), (8, .ref 32 1 0), (9, sB found), (10, .arr 104 1), (11, sI ((i : Nat) : Int)), (30, sB (decide (((i : Nat) : Int) < ((List.length (conjuncts (Xpr.mk (Xpr.Kind e) (Xpr.Col e) (Xpr.V e) (Xpr.Kids e))) : Nat) : Int))))], [(24, .box 1 [sI 0, sI 0]), (32, .box 1 [sI out0, sI out1]), (104, .arr 1 (.named 1) ((conjuncts (Xpr.mk (Xpr.Kind e) (Xpr.Col e) (Xpr.V e) (Xpr.Kids e))) : List Xpr))]⟩ ?_))
    refine AW.cd (decide (((i : Nat) : Int) < ((List.length (conjuncts (Xpr.mk (Xpr.Kind e) (Xpr.Col e) (Xpr.V e) (Xpr.Kids e))) : Nat) : Int))) ?_ ?_
    ·
     intro h39
     have h39q := (of_decide_eq_true h39)
     have e40 := e37.trans (Go.Am.bif_t h39)
     refine AW.kp [2, 6, 8, 9, 10, 11] [24, 32, 104] ⟨[(2, sI col), (6, .ref 24 1 0), (8, .ref 32 1 0), (9, sB found), (10, .arr 104 1), (11, sI ((i : Nat) : Int))], [(24, .box 1 [sI 0, sI 0]), (32, .box 1 [sI out0, sI out1]), (104, .arr 1 (.named 1) ((conjuncts (Xpr.mk (Xpr.Kind e) (Xpr.Col e) (Xpr.V e) (Xpr.Kids e))) : List Xpr))]⟩ ?_
     refine AW.skip (AW.seq (AW.block (AW.seq (AW.r0 hC [2, 6, 8, 9, 10, 11, 38] [24, 32, 104] ⟨[(2, sI col), (6, .ref 24 1 0), (8, .ref 32 1 0), (9, sB found), (10, .arr 104 1), (11, sI ((i : Nat) : Int)), (38, sB (hasRange (List.getD (conjuncts (Xpr.mk (Xpr.Kind e) (Xpr.Col e) (Xpr.V e) (Xpr.Kids e))) i Xpr.zero) col))], [(24, .box 1 [sI 0, sI 0]), (32, .box 1 [sI out0, sI out1]), (104, .arr 1 (.named 1) ((conjuncts (Xpr.mk (Xpr.Kind e) (Xpr.Col e) (Xpr.V e) (Xpr.Kids e))) : List Xpr))]⟩ [IX ((i : Nat) : Int) ((List.length (conjuncts (Xpr.mk (Xpr.Kind e) (Xpr.Col e) (Xpr.V e) (Xpr.Kids e))) : Nat) : Int), (∃ w, VL w (List.getD (conjuncts (Xpr.mk (Xpr.Kind e) (Xpr.Col e) (Xpr.V e) (Xpr.Kids e))) i Xpr.zero))] ?_ ?_))))
     ·
      refine ⟨?_, ?_, trivial⟩
      ·
       refine IX.of ?_
       omega
      ·
       exact ⟨width, hcv _ (by omega)⟩
     refine AW.cd (hasRange (List.getD (conjuncts (Xpr.mk (Xpr.Kind e) (Xpr.Col e) (Xpr.V e) (Xpr.Kids e))) i Xpr.zero) col) ?_ ?_
     ·
      intro h41
      have h41q : (hasRange (List.getD (conjuncts (Xpr.mk (Xpr.Kind e) (Xpr.Col e) (Xpr.V e) (Xpr.Kids e))) i Xpr.zero) col) = true := h41
      have e42 := e40.trans (Go.Am.bif_t h41)
      refine AW.seq (AW.r1 hC [2, 6, 8, 9, 10, 11] [24, 32, 104] ⟨[(2, sI col), (6, .ref 24 1 0), (8, .ref 32 1 0), (9, sB true), (10, .arr 104 1), (11, sI ((i : Nat) : Int))], [(24, .box 1 [sI 0, sI 0]), (32, .box 1 [sI out0, sI out1]), (104, .arr 1 (.named 1) ((conjuncts (Xpr.mk (Xpr.Kind e) (Xpr.Col e) (Xpr.V e) (Xpr.Kids e))) : List Xpr))]⟩ ?_)
      refine AW.d0 hC hM [2, 6, 8, 9, 10, 11] [24, 32, 104] ⟨[(2, sI col), (6, .ref 24 1 0), (8, .ref 32 1 0), (9, sB true), (10, .arr 104 1), (11, sI ((i : Nat) : Int))], [(24, .box 1 [sI 0, sI 0]), (32, .box 1 [sI (Rng.Low (meet (Rng.mk out0 out1) (rangeOf (List.getD (conjuncts (Xpr.mk (Xpr.Kind e) (Xpr.Col e) (Xpr.V e) (Xpr.Kids e))) i Xpr.zero) col))), sI (Rng.High (meet (Rng.mk out0 out1) (rangeOf (List.getD (conjuncts (Xpr.mk (Xpr.Kind e) (Xpr.Col e) (Xpr.V e) (Xpr.Kids e))) i Xpr.zero) col)))]), (104, .arr 1 (.named 1) ((conjuncts (Xpr.mk (Xpr.Kind e) (Xpr.Col e) (Xpr.V e) (Xpr.Kids e))) : List Xpr))]⟩ [IX ((i : Nat) : Int) ((List.length (conjuncts (Xpr.mk (Xpr.Kind e) (Xpr.Col e) (Xpr.V e) (Xpr.Kids e))) : Nat) : Int), (∃ w, VL w (List.getD (conjuncts (Xpr.mk (Xpr.Kind e) (Xpr.Col e) (Xpr.V e) (Xpr.Kids e))) i Xpr.zero)), (True)] ?_ ?_
      ·
       refine ⟨?_, ?_, ?_, trivial⟩
       ·
        refine IX.of ?_
        omega
       ·
        exact ⟨width, hcv _ (by omega)⟩
       ·
        trivial
      refine AW.r0 hC [2, 6, 8, 9, 10, 11] [24, 32, 104] ⟨[(2, sI col), (6, .ref 24 1 0), (8, .ref 32 1 0), (9, sB true), (10, .arr 104 1), (11, sI ((i + 1 : Nat) : Int))], [(24, .box 1 [sI 0, sI 0]), (32, .box 1 [sI (Rng.Low (meet (Rng.mk out0 out1) (rangeOf (List.getD (conjuncts (Xpr.mk (Xpr.Kind e) (Xpr.Col e) (Xpr.V e) (Xpr.Kids e))) i Xpr.zero) col))), sI (Rng.High (meet (Rng.mk out0 out1) (rangeOf (List.getD (conjuncts (Xpr.mk (Xpr.Kind e) (Xpr.Col e) (Xpr.V e) (Xpr.Kids e))) i Xpr.zero) col)))]), (104, .arr 1 (.named 1) ((conjuncts (Xpr.mk (Xpr.Kind e) (Xpr.Col e) (Xpr.V e) (Xpr.Kids e))) : List Xpr))]⟩ [R64 ((i + 1 : Nat) : Int)] ?_ ?_
      ·
       refine ⟨?_, trivial⟩
       ·
        refine R64.of ?_
        omega
      refine AW.back (x := (found, i, out0, out1)) (true, i + 1, (Rng.Low (meet (Rng.mk out0 out1) (rangeOf (List.getD (conjuncts (Xpr.mk (Xpr.Kind e) (Xpr.Col e) (Xpr.V e) (Xpr.Kids e))) i Xpr.zero) col))), (Rng.High (meet (Rng.mk out0 out1) (rangeOf (List.getD (conjuncts (Xpr.mk (Xpr.Kind e) (Xpr.Col e) (Xpr.V e) (Xpr.Kids e))) i Xpr.zero) col)))) (by kernel_rfl) ⟨?_, k38q, ?_, e42⟩ ?_
      ·
       show True
       assumption
      ·
       show (List.length (conjuncts (Xpr.mk (Xpr.Kind e) (Xpr.Col e) (Xpr.V e) (Xpr.Kids e)))) - (i + 1) < k38q
       omega
      ·
       show (List.length (conjuncts (Xpr.mk (Xpr.Kind e) (Xpr.Col e) (Xpr.V e) (Xpr.Kids e)))) - (i + 1) < (List.length (conjuncts (Xpr.mk (Xpr.Kind e) (Xpr.Col e) (Xpr.V e) (Xpr.Kids e)))) - i
       omega
     ·
      intro h43
      have h43q : (hasRange (List.getD (conjuncts (Xpr.mk (Xpr.Kind e) (Xpr.Col e) (Xpr.V e) (Xpr.Kids e))) i Xpr.zero) col) = false := h43
      have e44 := e40.trans (Go.Am.bif_f h43)
      refine AW.kp [2, 6, 8, 9, 10, 11] [24, 32, 104] ⟨[(2, sI col), (6, .ref 24 1 0), (8, .ref 32 1 0), (9, sB found), (10, .arr 104 1), (11, sI ((i : Nat) : Int))], [(24, .box 1 [sI 0, sI 0]), (32, .box 1 [sI out0, sI out1]), (104, .arr 1 (.named 1) ((conjuncts (Xpr.mk (Xpr.Kind e) (Xpr.Col e) (Xpr.V e) (Xpr.Kids e))) : List Xpr))]⟩ ?_
      refine AW.skip (AW.r0 hC [2, 6, 8, 9, 10, 11] [24, 32, 104] ⟨[(2, sI col), (6, .ref 24 1 0), (8, .ref 32 1 0), (9, sB found), (10, .arr 104 1), (11, sI ((i + 1 : Nat) : Int))], [(24, .box 1 [sI 0, sI 0]), (32, .box 1 [sI out0, sI out1]), (104, .arr 1 (.named 1) ((conjuncts (Xpr.mk (Xpr.Kind e) (Xpr.Col e) (Xpr.V e) (Xpr.Kids e))) : List Xpr))]⟩ [R64 ((i + 1 : Nat) : Int)] ?_ ?_)
      ·
       refine ⟨?_, trivial⟩
       ·
        refine R64.of ?_
        omega
      refine AW.back (x := (found, i, out0, out1)) (found, i + 1, out0, out1) (by kernel_rfl) ⟨?_, k38q, ?_, e44⟩ ?_
      ·
       show True
       assumption
      ·
       show (List.length (conjuncts (Xpr.mk (Xpr.Kind e) (Xpr.Col e) (Xpr.V e) (Xpr.Kids e)))) - (i + 1) < k38q
       omega
      ·
       show (List.length (conjuncts (Xpr.mk (Xpr.Kind e) (Xpr.Col e) (Xpr.V e) (Xpr.Kids e)))) - (i + 1) < (List.length (conjuncts (Xpr.mk (Xpr.Kind e) (Xpr.Col e) (Xpr.V e) (Xpr.Kids e)))) - i
       omega
    ·
     intro h45
     have h45q := (of_decide_eq_false h45)
     have e46 := e37.trans (Go.Am.bif_f h45)
     refine AW.kp [6, 8, 9] [24, 32] ⟨[(6, .ref 24 1 0), (8, .ref 32 1 0), (9, sB found)], [(24, .box 1 [sI 0, sI 0]), (32, .box 1 [sI out0, sI out1])]⟩ ?_
     refine AW.exit ?_
     refine AW.meet (found, out0, out1) (by kernel_rfl) ⟨?_, e46⟩
     show True
     assumption
  ·
   intro x hR
   obtain ⟨found, out0, out1⟩ := x
   obtain ⟨hJ0, e47⟩ := hR
   replace hJ0 : True := hJ0
   have e48 := e11.trans (Go.Am.then_eq e47)
   refine AW.seq (AW.seq (AW.r1 hC [6, 8, 48] [24, 32] ⟨[(6, .ref 24 1 0), (8, .ref 32 1 0), (48, sB (!found))], [(24, .box 1 [sI 0, sI 0]), (32, .box 1 [sI out0, sI out1])]⟩ ?_))
   refine AW.cd (!found) ?_ ?_
   ·
    intro h49
    have h49q := (Go.Am.not_pos h49)
    have e50 := e48.trans (Go.Am.bif_t h49)
    refine AW.seq (AW.r1 hC [6, 7] [24] ⟨[(6, .ref 24 1 0), (7, sB false)], [(24, .box 1 [sI 0, sI 0])]⟩ ?_)
    exact AW.ret (AW.retE (β := Rng × Bool) (fun v => [⟨(.named 4), v.1⟩, ⟨.bool, v.2⟩]) (fun v => []) (v := ((Rng.mk 0 0), false)) e50 (by kernel_rfl) rfl rfl)
   ·
    intro h51
    have h51q := (Go.Am.not_neg h51)
    have e52 := e48.trans (Go.Am.bif_f h51)
    refine AW.kp [6, 8] [24, 32] ⟨[(6, .ref 24 1 0), (8, .ref 32 1 0)], [(24, .box 1 [sI 0, sI 0]), (32, .box 1 [sI out0, sI out1])]⟩ ?_
    refine AW.skip (AW.seq (AW.r1 hC [6, 7] [24] ⟨[(6, .ref 24 1 0), (7, sB true)], [(24, .box 1 [sI out0, sI out1])]⟩ ?_))
    exact AW.ret (AW.retE (β := Rng × Bool) (fun v => [⟨(.named 4), v.1⟩, ⟨.bool, v.2⟩]) (fun v => []) (v := ((Rng.mk out0 out1), true)) e52 (by kernel_rfl) rfl rfl)

end
end Go.Proofs.Ytbgbekpbbcahpaa
