/-
  A part of the proof of this claim (Ap9): what functions of the program compute, and plain facts of that. No conditions.
-/
import Derived.Test.YtodcdgolcbdkgaaAp8
set_option linter.all false
namespace Go.Proofs.Ytodcdgolcbdkgaa
open Go Go.Am
noncomputable section

theorem all_loopG {α : Type} (r0 : α) (L : Nat → Nat → Unit ⊕ α) (n : Nat) (bad : Nat → Bool)
    (hS : ∀ k i, L (k + 1) i = bif decide (((i : Nat) : Int) < ((n : Nat) : Int)) then (bif bad i then .inr r0 else L k (i + 1)) else .inl ()) :
    ∀ k i, n - i < k → (L k i = .inl () ∧ ∀ j, i ≤ j → j < n → bad j = false) ∨ (L k i = .inr r0 ∧ ∃ j, i ≤ j ∧ j < n ∧ bad j = true) := by
  intro k
  induction k with
  | zero => intro i h; omega
  | succ k ih =>
    intro i h
    rw [hS]
    by_cases hi : i < n
    · rw [show decide (((i : Nat) : Int) < ((n : Nat) : Int)) = true by simp; omega, cond_true]
      cases hb : bad i with
      | true => exact .inr ⟨rfl, i, Nat.le_refl _, hi, hb⟩
      | false =>
        rw [cond_false]
        rcases ih (i + 1) (by omega) with ⟨h1, h2⟩ | ⟨h1, j, h2, h3, h4⟩
        · refine .inl ⟨h1, fun j hj hjn => ?_⟩
          by_cases e : j = i
          · subst e; exact hb
          · exact h2 j (by omega) hjn
        · exact .inr ⟨h1, j, by omega, h3, h4⟩
    · rw [show decide (((i : Nat) : Int) < ((n : Nat) : Int)) = false by simp; omega, cond_false]
      exact .inl ⟨rfl, fun j hj hjn => by omega⟩

theorem Outcomes_same (e : Xpr) (st : List Int) : iOutcomes e st = Outcomes e st := by
  unfold iOutcomes Outcomes
  rw [Xpr.eta, ValidExpr_same]
  cases hv : ValidExpr e ((List.length st : Nat) : Int) with
  | false =>
    simp only [Bool.not_false, cond_true]
    cases (!(validStates st)) <;> rfl
  | true =>
    have hV := ValidExpr_iff.1 hv
    simp only [Bool.not_true, cond_false]
    rcases all_loopG 0 (iOutcomes_l0 st) st.length (fun i => bif (decide ((List.getD st i 0) < 1)) then true else (decide (7 < (List.getD st i 0)))) (fun k i => rfl) (st.length - 0 + 1) 0 (by omega) with ⟨h1, h2⟩ | ⟨h1, j, h2, h3, h4⟩
    · have hS : VS st := fun j hj => by
        have := or_neg (h2 j (by omega) hj)
        have b1 := of_decide_eq_false this.1
        have b2 := of_decide_eq_false this.2
        omega
      rw [h1, validStates_iff.2 ⟨hV.1, hS⟩]
      simp only [Bool.not_true, cond_false, Sum.elim_inl]
      exact (outcomes_same ⟨hS, 8, hV.2⟩).symm
    · have hS : validStates st = false := by
        rw [Bool.eq_false_iff]
        intro h
        have := (validStates_iff.1 h).2 j h3
        rcases or_pos h4 with h | h
        · have := of_decide_eq_true h; omega
        · have := of_decide_eq_true h; omega
      rw [h1, hS]
      rfl

theorem eqValue_refl (v : Val) : eqValue v v = true := by
  unfold eqValue
  simp

theorem eqExpr_refl : ∀ (f : Nat) (a : Xpr), SizeOf.sizeOf a < f → eqExpr_r f a a = true := by
  intro f
  induction f with
  | zero => intro a h; omega
  | succ f ih =>
    intro a h
    have hc : eqExpr_c0 (eqExpr_r f) a a = true := by
      unfold eqExpr_c0
      simp only [bne_self_eq_false, cond_false]
      rcases all_loop (eqExpr_l0 (eqExpr_r f) a a) a.Kids.length (fun i => !(eqExpr_r f (List.getD a.Kids i Xpr.zero) (List.getD a.Kids i Xpr.zero))) (fun k i => rfl) (a.Kids.length - 0 + 1) 0 (by omega) with ⟨h1, _⟩ | ⟨_, j, _, hj, h2⟩
      · rw [h1]; rfl
      · have := kid_lt (t := a) hj
        rw [ih _ (by omega)] at h2
        cases h2
    unfold eqExpr_r
    simp only [bne_self_eq_false, cond_false, Go.Am.andThen, hc, eqValue_refl, Bool.not_true]

theorem eqExpr_self (a : Xpr) : eqExpr a a = true := eqExpr_refl _ a (Nat.lt_succ_self _)

theorem eqIntS_self (a : List Int) : eqIntS a a = true := by
  unfold eqIntS
  simp only [bne_self_eq_false, cond_false]
  rcases all_loop (eqIntS_l0 a a) a.length (fun i => List.getD a i 0 != List.getD a i 0) (fun k i => rfl) (a.length - 0 + 1) 0 (by omega) with ⟨h1, _⟩ | ⟨_, j, _, hj, h2⟩
  · rw [h1]; rfl
  · rw [bne_self_eq_false] at h2
    cases h2

def FnExactOutcomes (aE : Xpr) (aStates : List Int) : Bool := (bif (decide (1048576 < ((List.length aStates : Nat) : Int))) then true else (bif (decide ((szExpr (Xpr.mk (Xpr.Kind aE) (Xpr.Col aE) (Xpr.V aE) (Xpr.Kids aE)) 1048576) < 0)) then true else (bif ((iOutcomes (Xpr.mk (Xpr.Kind (toExpr (Xpr.mk (Xpr.Kind aE) (Xpr.Col aE) (Xpr.V aE) (Xpr.Kids aE)))) (Xpr.Col (toExpr (Xpr.mk (Xpr.Kind aE) (Xpr.Col aE) (Xpr.V aE) (Xpr.Kids aE)))) (Xpr.V (toExpr (Xpr.mk (Xpr.Kind aE) (Xpr.Col aE) (Xpr.V aE) (Xpr.Kids aE)))) (Xpr.Kids (toExpr (Xpr.mk (Xpr.Kind aE) (Xpr.Col aE) (Xpr.V aE) (Xpr.Kids aE))))) (toIntS aStates)) != (Outcomes (toExpr (Xpr.mk (Xpr.Kind aE) (Xpr.Col aE) (Xpr.V aE) (Xpr.Kids aE))) (toIntS aStates))) then false else (bif (!(eqExpr (Xpr.mk (Xpr.Kind (toExpr (Xpr.mk (Xpr.Kind aE) (Xpr.Col aE) (Xpr.V aE) (Xpr.Kids aE)))) (Xpr.Col (toExpr (Xpr.mk (Xpr.Kind aE) (Xpr.Col aE) (Xpr.V aE) (Xpr.Kids aE)))) (Xpr.V (toExpr (Xpr.mk (Xpr.Kind aE) (Xpr.Col aE) (Xpr.V aE) (Xpr.Kids aE)))) (Xpr.Kids (toExpr (Xpr.mk (Xpr.Kind aE) (Xpr.Col aE) (Xpr.V aE) (Xpr.Kids aE))))) (toExpr (Xpr.mk (Xpr.Kind aE) (Xpr.Col aE) (Xpr.V aE) (Xpr.Kids aE))))) then false else (bif (!(eqIntS (toIntS aStates) (toIntS aStates))) then false else true)))))

def FnExactOutcomes_sp : FnSpec := mkSpec [.val (.named 1), .val (.slice (.int .i64))] [.val .bool] (fun (aE : Xpr) (aStates : List Int) => True) (fun (aE : Xpr) (aStates : List Int) => [⟨.bool, (FnExactOutcomes aE aStates)⟩])

theorem FnExactOutcomes_ok : FnOK Try.prog 13 FnExactOutcomes_sp := by
  have hC : CtxOK Try.prog (mkCtx tyL [(30, toIntS_sp), (34, eqIntS_sp), (55, szExpr_sp), (57, toExpr_sp), (59, eqExpr_sp), (62, Outcomes_sp), (63, iOutcomes_sp)]) := CtxOK.cons toIntS_ok (CtxOK.cons eqIntS_ok (CtxOK.cons szExpr_ok (CtxOK.cons toExpr_ok (CtxOK.cons eqExpr_ok (CtxOK.cons Outcomes_ok (CtxOK.cons iOutcomes_ok (CtxOK.nil tyOK)))))))
  have hM : Try.prog.follows .mixedOrders = true := Try.checked.mixed
  refine FnOK.of_body Try.func13 (by kernel_rfl) rfl (C := (mkCtx tyL [(30, toIntS_sp), (34, eqIntS_sp), (55, szExpr_sp), (57, toExpr_sp), (59, eqExpr_sp), (62, Outcomes_sp), (63, iOutcomes_sp)])) hC.ty (by kernel_rfl) ?_
  intro (aE : Xpr) (aStates : List Int) hwf hpre E
  have hpre : True := hpre
  have hw_aE : Wf ⟨(.named 1), (aE : Xpr)⟩ := hwf _ (List.Mem.head _)
  have hr_aE_Kind : -9223372036854775808 ≤ Xpr.Kind aE ∧ Xpr.Kind aE ≤ 9223372036854775807 := (hw_aE.field (tv := ⟨(.int .i64), Xpr.Kind aE⟩) (List.Mem.head _)).int_inv
  have hr_aE_Col : -9223372036854775808 ≤ Xpr.Col aE ∧ Xpr.Col aE ≤ 9223372036854775807 := (hw_aE.field (tv := ⟨(.int .i64), Xpr.Col aE⟩) (List.Mem.tail _ (List.Mem.head _))).int_inv
  have hl_aE_Kids : ((List.length (Xpr.Kids aE) : Nat) : Int) ≤ 9223372036854775807 := (hw_aE.field (tv := ⟨(.slice (.named 1)), Xpr.Kids aE⟩) (List.Mem.tail _ (List.Mem.tail _ (List.Mem.tail _ (List.Mem.head _))))).len
  have hw_aStates : Wf ⟨(.slice (.int .i64)), (aStates : List Int)⟩ := hwf _ (List.Mem.tail _ (List.Mem.head _))
  have hl_aStates : ((List.length aStates : Nat) : Int) ≤ 9223372036854775807 := hw_aStates.len
  have e0 : FnExactOutcomes aE aStates = FnExactOutcomes aE aStates := rfl
  refine AW.seq ?_
  refine AW.reg hC  false [] [1, 2] [8]
    ⟨[(1, .data (.slice (.int .i64)) (aStates : List Int)), (2, .ref 8 1 0)], [(8, .box 1 [.int .i64 (Xpr.Kind aE), .int .i64 (Xpr.Col aE), .bool (Val.Null (Xpr.V aE)), .int .i64 (Val.N (Xpr.V aE)), .data (.slice (.named 1)) ((Xpr.Kids aE) : List Xpr)])]⟩
    [] (by kernel_rfl) ?_ ?_
  · exact trivial
  refine AW.seq ?_
  refine AW.seq ?_
  refine AW.reg hC  false [] [1, 2, 12] [8]
    ⟨[(1, .data (.slice (.int .i64)) (aStates : List Int)), (2, .ref 8 1 0), (12, .bool (decide (1048576 < ((List.length aStates : Nat) : Int))))], [(8, .box 1 [.int .i64 (Xpr.Kind aE), .int .i64 (Xpr.Col aE), .bool (Val.Null (Xpr.V aE)), .int .i64 (Val.N (Xpr.V aE)), .data (.slice (.named 1)) ((Xpr.Kids aE) : List Xpr)])]⟩
    [] (by kernel_rfl) ?_ ?_
  · exact trivial
  refine AW.cond (b := (decide (1048576 < ((List.length aStates : Nat) : Int)))) (by kernel_rfl) ?_ ?_
  · intro h1
    have h1q : 1048576 < ((List.length aStates : Nat) : Int) := (of_decide_eq_true h1)
    have e2 := e0.trans (Go.Am.bif_t h1)
    refine AW.seq ?_
    refine AW.reg hC  false [] [4] []
      ⟨[(4, .bool true)], []⟩
      [] (by kernel_rfl) ?_ ?_
    · exact trivial
    refine AW.ret ?_
    exact AW.retE (β := Bool) (fun v => [⟨.bool, v⟩]) (fun v => []) (v := true) e2 (by kernel_rfl) rfl rfl
  · intro h3
    have h3q : ¬ (1048576 < ((List.length aStates : Nat) : Int)) := (of_decide_eq_false h3)
    have e4 := e0.trans (Go.Am.bif_f h3)
    refine AW.keep [1, 2] [8] ⟨[(1, .data (.slice (.int .i64)) (aStates : List Int)), (2, .ref 8 1 0)], [(8, .box 1 [.int .i64 (Xpr.Kind aE), .int .i64 (Xpr.Col aE), .bool (Val.Null (Xpr.V aE)), .int .i64 (Val.N (Xpr.V aE)), .data (.slice (.named 1)) ((Xpr.Kids aE) : List Xpr)])]⟩ (by kernel_rfl) ?_
    refine AW.skip ?_
    refine AW.seq ?_
    refine AW.reg hC  false [] [1, 2, 5] [8]
      ⟨[(1, .data (.slice (.int .i64)) (aStates : List Int)), (2, .ref 8 1 0), (5, .int .i64 1048576)], [(8, .box 1 [.int .i64 (Xpr.Kind aE), .int .i64 (Xpr.Col aE), .bool (Val.Null (Xpr.V aE)), .int .i64 (Val.N (Xpr.V aE)), .data (.slice (.named 1)) ((Xpr.Kids aE) : List Xpr)])]⟩
      [] (by kernel_rfl) ?_ ?_
    · exact trivial
    refine AW.seq ?_
    refine AW.reg hC  false [] [1, 2, 5] [8]
      ⟨[(1, .data (.slice (.int .i64)) (aStates : List Int)), (2, .ref 8 1 0), (5, .int .i64 (szExpr (Xpr.mk (Xpr.Kind aE) (Xpr.Col aE) (Xpr.V aE) (Xpr.Kids aE)) 1048576))], [(8, .box 1 [.int .i64 (Xpr.Kind aE), .int .i64 (Xpr.Col aE), .bool (Val.Null (Xpr.V aE)), .int .i64 (Val.N (Xpr.V aE)), .data (.slice (.named 1)) ((Xpr.Kids aE) : List Xpr)])]⟩
      [(0 ≤ (1048576 : Int))] (by kernel_rfl) ?_ ?_
    · refine ⟨?_, trivial⟩
      ·
        first | omega | assumption
    refine AW.seq ?_
    refine AW.seq ?_
    refine AW.reg hC  false [] [1, 2, 17] [8]
      ⟨[(1, .data (.slice (.int .i64)) (aStates : List Int)), (2, .ref 8 1 0), (17, .bool (decide ((szExpr (Xpr.mk (Xpr.Kind aE) (Xpr.Col aE) (Xpr.V aE) (Xpr.Kids aE)) 1048576) < 0)))], [(8, .box 1 [.int .i64 (Xpr.Kind aE), .int .i64 (Xpr.Col aE), .bool (Val.Null (Xpr.V aE)), .int .i64 (Val.N (Xpr.V aE)), .data (.slice (.named 1)) ((Xpr.Kids aE) : List Xpr)])]⟩
      [] (by kernel_rfl) ?_ ?_
    · exact trivial
    refine AW.cond (b := (decide ((szExpr (Xpr.mk (Xpr.Kind aE) (Xpr.Col aE) (Xpr.V aE) (Xpr.Kids aE)) 1048576) < 0))) (by kernel_rfl) ?_ ?_
    · intro h5
      have h5q : (szExpr (Xpr.mk (Xpr.Kind aE) (Xpr.Col aE) (Xpr.V aE) (Xpr.Kids aE)) 1048576) < 0 := (of_decide_eq_true h5)
      have e6 := e4.trans (Go.Am.bif_t h5)
      refine AW.seq ?_
      refine AW.reg hC  false [] [4] []
        ⟨[(4, .bool true)], []⟩
        [] (by kernel_rfl) ?_ ?_
      · exact trivial
      refine AW.ret ?_
      exact AW.retE (β := Bool) (fun v => [⟨.bool, v⟩]) (fun v => []) (v := true) e6 (by kernel_rfl) rfl rfl
    · intro h7
      have h7q : ¬ ((szExpr (Xpr.mk (Xpr.Kind aE) (Xpr.Col aE) (Xpr.V aE) (Xpr.Kids aE)) 1048576) < 0) := (of_decide_eq_false h7)
      have e8 := e4.trans (Go.Am.bif_f h7)
      refine AW.keep [1, 2] [8] ⟨[(1, .data (.slice (.int .i64)) (aStates : List Int)), (2, .ref 8 1 0)], [(8, .box 1 [.int .i64 (Xpr.Kind aE), .int .i64 (Xpr.Col aE), .bool (Val.Null (Xpr.V aE)), .int .i64 (Val.N (Xpr.V aE)), .data (.slice (.named 1)) ((Xpr.Kids aE) : List Xpr)])]⟩ (by kernel_rfl) ?_
      refine AW.skip ?_
      refine AW.seq ?_
      refine AW.reg hC  false [] [1, 2, 6] [8]
        ⟨[(1, .data (.slice (.int .i64)) (aStates : List Int)), (2, .ref 8 1 0), (6, .int .i64 (Outcomes (toExpr (Xpr.mk (Xpr.Kind aE) (Xpr.Col aE) (Xpr.V aE) (Xpr.Kids aE))) (toIntS aStates)))], [(8, .box 1 [.int .i64 (Xpr.Kind aE), .int .i64 (Xpr.Col aE), .bool (Val.Null (Xpr.V aE)), .int .i64 (Val.N (Xpr.V aE)), .data (.slice (.named 1)) ((Xpr.Kids aE) : List Xpr)])]⟩
        [(Fits (Xpr.mk (Xpr.Kind aE) (Xpr.Col aE) (Xpr.V aE) (Xpr.Kids aE))), ((List.length aStates : Int) ≤ 1048576), (True)] (by kernel_rfl) ?_ ?_
      · refine ⟨?_, ?_, ?_, trivial⟩
        ·
          exact Fits.of (l := 1048576) ⟨by decide, by decide⟩ (by first | exact h7q | exact h3q | exact trivial | exact trivial)
        ·
          first | omega | assumption
        · trivial
      refine AW.seq ?_
      refine AW.reg hC  false [] [1, 2, 6, 7] [8, 28]
        ⟨[(1, .data (.slice (.int .i64)) (aStates : List Int)), (2, .ref 8 1 0), (6, .int .i64 (Outcomes (toExpr (Xpr.mk (Xpr.Kind aE) (Xpr.Col aE) (Xpr.V aE) (Xpr.Kids aE))) (toIntS aStates))), (7, .ref 28 1 0)], [(8, .box 1 [.int .i64 (Xpr.Kind aE), .int .i64 (Xpr.Col aE), .bool (Val.Null (Xpr.V aE)), .int .i64 (Val.N (Xpr.V aE)), .data (.slice (.named 1)) ((Xpr.Kids aE) : List Xpr)]), (28, .box 1 [.int .i64 (Xpr.Kind (toExpr (Xpr.mk (Xpr.Kind aE) (Xpr.Col aE) (Xpr.V aE) (Xpr.Kids aE)))), .int .i64 (Xpr.Col (toExpr (Xpr.mk (Xpr.Kind aE) (Xpr.Col aE) (Xpr.V aE) (Xpr.Kids aE)))), .bool (Val.Null (Xpr.V (toExpr (Xpr.mk (Xpr.Kind aE) (Xpr.Col aE) (Xpr.V aE) (Xpr.Kids aE))))), .int .i64 (Val.N (Xpr.V (toExpr (Xpr.mk (Xpr.Kind aE) (Xpr.Col aE) (Xpr.V aE) (Xpr.Kids aE))))), .data (.slice (.named 1)) ((Xpr.Kids (toExpr (Xpr.mk (Xpr.Kind aE) (Xpr.Col aE) (Xpr.V aE) (Xpr.Kids aE)))) : List Xpr)])]⟩
        [(Fits (Xpr.mk (Xpr.Kind aE) (Xpr.Col aE) (Xpr.V aE) (Xpr.Kids aE)))] (by kernel_rfl) ?_ ?_
      · refine ⟨?_, trivial⟩
        ·
          exact Fits.of (l := 1048576) ⟨by decide, by decide⟩ (by first | exact h7q | exact h3q | exact trivial | exact trivial)
      refine AW.seq ?_
      refine AW.reg hC  false [] [1, 2, 6, 7, 8] [8, 28, 104]
        ⟨[(1, .data (.slice (.int .i64)) (aStates : List Int)), (2, .ref 8 1 0), (6, .int .i64 (Outcomes (toExpr (Xpr.mk (Xpr.Kind aE) (Xpr.Col aE) (Xpr.V aE) (Xpr.Kids aE))) (toIntS aStates))), (7, .ref 28 1 0), (8, .arr 104 1)], [(8, .box 1 [.int .i64 (Xpr.Kind aE), .int .i64 (Xpr.Col aE), .bool (Val.Null (Xpr.V aE)), .int .i64 (Val.N (Xpr.V aE)), .data (.slice (.named 1)) ((Xpr.Kids aE) : List Xpr)]), (28, .box 1 [.int .i64 (Xpr.Kind (toExpr (Xpr.mk (Xpr.Kind aE) (Xpr.Col aE) (Xpr.V aE) (Xpr.Kids aE)))), .int .i64 (Xpr.Col (toExpr (Xpr.mk (Xpr.Kind aE) (Xpr.Col aE) (Xpr.V aE) (Xpr.Kids aE)))), .bool (Val.Null (Xpr.V (toExpr (Xpr.mk (Xpr.Kind aE) (Xpr.Col aE) (Xpr.V aE) (Xpr.Kids aE))))), .int .i64 (Val.N (Xpr.V (toExpr (Xpr.mk (Xpr.Kind aE) (Xpr.Col aE) (Xpr.V aE) (Xpr.Kids aE))))), .data (.slice (.named 1)) ((Xpr.Kids (toExpr (Xpr.mk (Xpr.Kind aE) (Xpr.Col aE) (Xpr.V aE) (Xpr.Kids aE)))) : List Xpr)]), (104, .arr 1 (.int .i64) ((toIntS aStates) : List Int))]⟩
        [((List.length aStates : Int) ≤ 1048576)] (by kernel_rfl) ?_ ?_
      · refine ⟨?_, trivial⟩
        ·
          first | omega | assumption
      refine AW.seq ?_
      refine AW.reg hC  false [] [1, 2, 6, 7, 8, 9] [8, 28, 104]
        ⟨[(1, .data (.slice (.int .i64)) (aStates : List Int)), (2, .ref 8 1 0), (6, .int .i64 (Outcomes (toExpr (Xpr.mk (Xpr.Kind aE) (Xpr.Col aE) (Xpr.V aE) (Xpr.Kids aE))) (toIntS aStates))), (7, .ref 28 1 0), (8, .arr 104 1), (9, .int .i64 (iOutcomes (Xpr.mk (Xpr.Kind (toExpr (Xpr.mk (Xpr.Kind aE) (Xpr.Col aE) (Xpr.V aE) (Xpr.Kids aE)))) (Xpr.Col (toExpr (Xpr.mk (Xpr.Kind aE) (Xpr.Col aE) (Xpr.V aE) (Xpr.Kids aE)))) (Xpr.V (toExpr (Xpr.mk (Xpr.Kind aE) (Xpr.Col aE) (Xpr.V aE) (Xpr.Kids aE)))) (Xpr.Kids (toExpr (Xpr.mk (Xpr.Kind aE) (Xpr.Col aE) (Xpr.V aE) (Xpr.Kids aE))))) (toIntS aStates)))], [(8, .box 1 [.int .i64 (Xpr.Kind aE), .int .i64 (Xpr.Col aE), .bool (Val.Null (Xpr.V aE)), .int .i64 (Val.N (Xpr.V aE)), .data (.slice (.named 1)) ((Xpr.Kids aE) : List Xpr)]), (28, .box 1 [.int .i64 (Xpr.Kind (toExpr (Xpr.mk (Xpr.Kind aE) (Xpr.Col aE) (Xpr.V aE) (Xpr.Kids aE)))), .int .i64 (Xpr.Col (toExpr (Xpr.mk (Xpr.Kind aE) (Xpr.Col aE) (Xpr.V aE) (Xpr.Kids aE)))), .bool (Val.Null (Xpr.V (toExpr (Xpr.mk (Xpr.Kind aE) (Xpr.Col aE) (Xpr.V aE) (Xpr.Kids aE))))), .int .i64 (Val.N (Xpr.V (toExpr (Xpr.mk (Xpr.Kind aE) (Xpr.Col aE) (Xpr.V aE) (Xpr.Kids aE))))), .data (.slice (.named 1)) ((Xpr.Kids (toExpr (Xpr.mk (Xpr.Kind aE) (Xpr.Col aE) (Xpr.V aE) (Xpr.Kids aE)))) : List Xpr)]), (104, .arr 1 (.int .i64) ((toIntS aStates) : List Int))]⟩
        [(True)] (by kernel_rfl) ?_ ?_
      · refine ⟨?_, trivial⟩
        · trivial
      refine AW.seq ?_
      refine AW.seq ?_
      refine AW.reg hC  false [] [1, 2, 7, 8, 32] [8, 28, 104]
        ⟨[(1, .data (.slice (.int .i64)) (aStates : List Int)), (2, .ref 8 1 0), (7, .ref 28 1 0), (8, .arr 104 1), (32, .bool ((iOutcomes (Xpr.mk (Xpr.Kind (toExpr (Xpr.mk (Xpr.Kind aE) (Xpr.Col aE) (Xpr.V aE) (Xpr.Kids aE)))) (Xpr.Col (toExpr (Xpr.mk (Xpr.Kind aE) (Xpr.Col aE) (Xpr.V aE) (Xpr.Kids aE)))) (Xpr.V (toExpr (Xpr.mk (Xpr.Kind aE) (Xpr.Col aE) (Xpr.V aE) (Xpr.Kids aE)))) (Xpr.Kids (toExpr (Xpr.mk (Xpr.Kind aE) (Xpr.Col aE) (Xpr.V aE) (Xpr.Kids aE))))) (toIntS aStates)) != (Outcomes (toExpr (Xpr.mk (Xpr.Kind aE) (Xpr.Col aE) (Xpr.V aE) (Xpr.Kids aE))) (toIntS aStates))))], [(8, .box 1 [.int .i64 (Xpr.Kind aE), .int .i64 (Xpr.Col aE), .bool (Val.Null (Xpr.V aE)), .int .i64 (Val.N (Xpr.V aE)), .data (.slice (.named 1)) ((Xpr.Kids aE) : List Xpr)]), (28, .box 1 [.int .i64 (Xpr.Kind (toExpr (Xpr.mk (Xpr.Kind aE) (Xpr.Col aE) (Xpr.V aE) (Xpr.Kids aE)))), .int .i64 (Xpr.Col (toExpr (Xpr.mk (Xpr.Kind aE) (Xpr.Col aE) (Xpr.V aE) (Xpr.Kids aE)))), .bool (Val.Null (Xpr.V (toExpr (Xpr.mk (Xpr.Kind aE) (Xpr.Col aE) (Xpr.V aE) (Xpr.Kids aE))))), .int .i64 (Val.N (Xpr.V (toExpr (Xpr.mk (Xpr.Kind aE) (Xpr.Col aE) (Xpr.V aE) (Xpr.Kids aE))))), .data (.slice (.named 1)) ((Xpr.Kids (toExpr (Xpr.mk (Xpr.Kind aE) (Xpr.Col aE) (Xpr.V aE) (Xpr.Kids aE)))) : List Xpr)]), (104, .arr 1 (.int .i64) ((toIntS aStates) : List Int))]⟩
        [] (by kernel_rfl) ?_ ?_
      · exact trivial
      refine AW.cond (b := ((iOutcomes (Xpr.mk (Xpr.Kind (toExpr (Xpr.mk (Xpr.Kind aE) (Xpr.Col aE) (Xpr.V aE) (Xpr.Kids aE)))) (Xpr.Col (toExpr (Xpr.mk (Xpr.Kind aE) (Xpr.Col aE) (Xpr.V aE) (Xpr.Kids aE)))) (Xpr.V (toExpr (Xpr.mk (Xpr.Kind aE) (Xpr.Col aE) (Xpr.V aE) (Xpr.Kids aE)))) (Xpr.Kids (toExpr (Xpr.mk (Xpr.Kind aE) (Xpr.Col aE) (Xpr.V aE) (Xpr.Kids aE))))) (toIntS aStates)) != (Outcomes (toExpr (Xpr.mk (Xpr.Kind aE) (Xpr.Col aE) (Xpr.V aE) (Xpr.Kids aE))) (toIntS aStates)))) (by kernel_rfl) ?_ ?_
      · intro h9
        have h9q : (iOutcomes (Xpr.mk (Xpr.Kind (toExpr (Xpr.mk (Xpr.Kind aE) (Xpr.Col aE) (Xpr.V aE) (Xpr.Kids aE)))) (Xpr.Col (toExpr (Xpr.mk (Xpr.Kind aE) (Xpr.Col aE) (Xpr.V aE) (Xpr.Kids aE)))) (Xpr.V (toExpr (Xpr.mk (Xpr.Kind aE) (Xpr.Col aE) (Xpr.V aE) (Xpr.Kids aE)))) (Xpr.Kids (toExpr (Xpr.mk (Xpr.Kind aE) (Xpr.Col aE) (Xpr.V aE) (Xpr.Kids aE))))) (toIntS aStates)) ≠ (Outcomes (toExpr (Xpr.mk (Xpr.Kind aE) (Xpr.Col aE) (Xpr.V aE) (Xpr.Kids aE))) (toIntS aStates)) := (Go.Am.bne_pos h9)
        have e10 := e8.trans (Go.Am.bif_t h9)
        refine AW.seq ?_
        refine AW.reg hC  false [] [4] []
          ⟨[(4, .bool false)], []⟩
          [] (by kernel_rfl) ?_ ?_
        · exact trivial
        refine AW.ret ?_
        exact AW.retE (β := Bool) (fun v => [⟨.bool, v⟩]) (fun v => []) (v := false) e10 (by kernel_rfl) rfl rfl
      · intro h11
        have h11q : (iOutcomes (Xpr.mk (Xpr.Kind (toExpr (Xpr.mk (Xpr.Kind aE) (Xpr.Col aE) (Xpr.V aE) (Xpr.Kids aE)))) (Xpr.Col (toExpr (Xpr.mk (Xpr.Kind aE) (Xpr.Col aE) (Xpr.V aE) (Xpr.Kids aE)))) (Xpr.V (toExpr (Xpr.mk (Xpr.Kind aE) (Xpr.Col aE) (Xpr.V aE) (Xpr.Kids aE)))) (Xpr.Kids (toExpr (Xpr.mk (Xpr.Kind aE) (Xpr.Col aE) (Xpr.V aE) (Xpr.Kids aE))))) (toIntS aStates)) = (Outcomes (toExpr (Xpr.mk (Xpr.Kind aE) (Xpr.Col aE) (Xpr.V aE) (Xpr.Kids aE))) (toIntS aStates)) := (Go.Am.bne_neg h11)
        have e12 := e8.trans (Go.Am.bif_f h11)
        refine AW.keep [1, 2, 7, 8] [8, 28, 104] ⟨[(1, .data (.slice (.int .i64)) (aStates : List Int)), (2, .ref 8 1 0), (7, .ref 28 1 0), (8, .arr 104 1)], [(8, .box 1 [.int .i64 (Xpr.Kind aE), .int .i64 (Xpr.Col aE), .bool (Val.Null (Xpr.V aE)), .int .i64 (Val.N (Xpr.V aE)), .data (.slice (.named 1)) ((Xpr.Kids aE) : List Xpr)]), (28, .box 1 [.int .i64 (Xpr.Kind (toExpr (Xpr.mk (Xpr.Kind aE) (Xpr.Col aE) (Xpr.V aE) (Xpr.Kids aE)))), .int .i64 (Xpr.Col (toExpr (Xpr.mk (Xpr.Kind aE) (Xpr.Col aE) (Xpr.V aE) (Xpr.Kids aE)))), .bool (Val.Null (Xpr.V (toExpr (Xpr.mk (Xpr.Kind aE) (Xpr.Col aE) (Xpr.V aE) (Xpr.Kids aE))))), .int .i64 (Val.N (Xpr.V (toExpr (Xpr.mk (Xpr.Kind aE) (Xpr.Col aE) (Xpr.V aE) (Xpr.Kids aE))))), .data (.slice (.named 1)) ((Xpr.Kids (toExpr (Xpr.mk (Xpr.Kind aE) (Xpr.Col aE) (Xpr.V aE) (Xpr.Kids aE)))) : List Xpr)]), (104, .arr 1 (.int .i64) ((toIntS aStates) : List Int))]⟩ (by kernel_rfl) ?_
        refine AW.skip ?_
        refine AW.seq ?_
        refine AW.seq ?_
        refine AW.regD hC hM  false [] [1, 8, 37] [104]
          ⟨[(1, .data (.slice (.int .i64)) (aStates : List Int)), (8, .arr 104 1), (37, .bool (!(eqExpr (Xpr.mk (Xpr.Kind (toExpr (Xpr.mk (Xpr.Kind aE) (Xpr.Col aE) (Xpr.V aE) (Xpr.Kids aE)))) (Xpr.Col (toExpr (Xpr.mk (Xpr.Kind aE) (Xpr.Col aE) (Xpr.V aE) (Xpr.Kids aE)))) (Xpr.V (toExpr (Xpr.mk (Xpr.Kind aE) (Xpr.Col aE) (Xpr.V aE) (Xpr.Kids aE)))) (Xpr.Kids (toExpr (Xpr.mk (Xpr.Kind aE) (Xpr.Col aE) (Xpr.V aE) (Xpr.Kids aE))))) (toExpr (Xpr.mk (Xpr.Kind aE) (Xpr.Col aE) (Xpr.V aE) (Xpr.Kids aE))))))], [(104, .arr 1 (.int .i64) ((toIntS aStates) : List Int))]⟩
          [(Fits (Xpr.mk (Xpr.Kind aE) (Xpr.Col aE) (Xpr.V aE) (Xpr.Kids aE))), (True)] (by kernel_rfl) ?_ ?_
        · refine ⟨?_, ?_, trivial⟩
          ·
            exact Fits.of (l := 1048576) ⟨by decide, by decide⟩ (by first | exact h11q | exact h7q | exact h3q | exact trivial)
          · trivial
        refine AW.cond (b := (!(eqExpr (Xpr.mk (Xpr.Kind (toExpr (Xpr.mk (Xpr.Kind aE) (Xpr.Col aE) (Xpr.V aE) (Xpr.Kids aE)))) (Xpr.Col (toExpr (Xpr.mk (Xpr.Kind aE) (Xpr.Col aE) (Xpr.V aE) (Xpr.Kids aE)))) (Xpr.V (toExpr (Xpr.mk (Xpr.Kind aE) (Xpr.Col aE) (Xpr.V aE) (Xpr.Kids aE)))) (Xpr.Kids (toExpr (Xpr.mk (Xpr.Kind aE) (Xpr.Col aE) (Xpr.V aE) (Xpr.Kids aE))))) (toExpr (Xpr.mk (Xpr.Kind aE) (Xpr.Col aE) (Xpr.V aE) (Xpr.Kids aE)))))) (by kernel_rfl) ?_ ?_
        · intro h13
          have h13q : (eqExpr (Xpr.mk (Xpr.Kind (toExpr (Xpr.mk (Xpr.Kind aE) (Xpr.Col aE) (Xpr.V aE) (Xpr.Kids aE)))) (Xpr.Col (toExpr (Xpr.mk (Xpr.Kind aE) (Xpr.Col aE) (Xpr.V aE) (Xpr.Kids aE)))) (Xpr.V (toExpr (Xpr.mk (Xpr.Kind aE) (Xpr.Col aE) (Xpr.V aE) (Xpr.Kids aE)))) (Xpr.Kids (toExpr (Xpr.mk (Xpr.Kind aE) (Xpr.Col aE) (Xpr.V aE) (Xpr.Kids aE))))) (toExpr (Xpr.mk (Xpr.Kind aE) (Xpr.Col aE) (Xpr.V aE) (Xpr.Kids aE)))) = false := (Go.Am.not_pos h13)
          have e14 := e12.trans (Go.Am.bif_t h13)
          refine AW.seq ?_
          refine AW.reg hC  false [] [4] []
            ⟨[(4, .bool false)], []⟩
            [] (by kernel_rfl) ?_ ?_
          · exact trivial
          refine AW.ret ?_
          exact AW.retE (β := Bool) (fun v => [⟨.bool, v⟩]) (fun v => []) (v := false) e14 (by kernel_rfl) rfl rfl
        · intro h15
          have h15q : (eqExpr (Xpr.mk (Xpr.Kind (toExpr (Xpr.mk (Xpr.Kind aE) (Xpr.Col aE) (Xpr.V aE) (Xpr.Kids aE)))) (Xpr.Col (toExpr (Xpr.mk (Xpr.Kind aE) (Xpr.Col aE) (Xpr.V aE) (Xpr.Kids aE)))) (Xpr.V (toExpr (Xpr.mk (Xpr.Kind aE) (Xpr.Col aE) (Xpr.V aE) (Xpr.Kids aE)))) (Xpr.Kids (toExpr (Xpr.mk (Xpr.Kind aE) (Xpr.Col aE) (Xpr.V aE) (Xpr.Kids aE))))) (toExpr (Xpr.mk (Xpr.Kind aE) (Xpr.Col aE) (Xpr.V aE) (Xpr.Kids aE)))) = true := (Go.Am.not_neg h15)
          have e16 := e12.trans (Go.Am.bif_f h15)
          refine AW.keep [1, 8] [104] ⟨[(1, .data (.slice (.int .i64)) (aStates : List Int)), (8, .arr 104 1)], [(104, .arr 1 (.int .i64) ((toIntS aStates) : List Int))]⟩ (by kernel_rfl) ?_
          refine AW.skip ?_
          refine AW.seq ?_
          refine AW.seq ?_
          refine AW.reg hC  false [] [42] []
            ⟨[(42, .bool (!(eqIntS (toIntS aStates) (toIntS aStates))))], []⟩
            [((List.length aStates : Int) ≤ 1048576), (True)] (by kernel_rfl) ?_ ?_
          · refine ⟨?_, ?_, trivial⟩
            ·
              first | omega | assumption
            · trivial
          refine AW.cond (b := (!(eqIntS (toIntS aStates) (toIntS aStates)))) (by kernel_rfl) ?_ ?_
          · intro h17
            have h17q : (eqIntS (toIntS aStates) (toIntS aStates)) = false := (Go.Am.not_pos h17)
            have e18 := e16.trans (Go.Am.bif_t h17)
            refine AW.seq ?_
            refine AW.reg hC  false [] [4] []
              ⟨[(4, .bool false)], []⟩
              [] (by kernel_rfl) ?_ ?_
            · exact trivial
            refine AW.ret ?_
            exact AW.retE (β := Bool) (fun v => [⟨.bool, v⟩]) (fun v => []) (v := false) e18 (by kernel_rfl) rfl rfl
          · intro h19
            have h19q : (eqIntS (toIntS aStates) (toIntS aStates)) = true := (Go.Am.not_neg h19)
            have e20 := e16.trans (Go.Am.bif_f h19)
            refine AW.keep [] [] ⟨[], []⟩ (by kernel_rfl) ?_
            refine AW.skip ?_
            refine AW.seq ?_
            refine AW.reg hC  false [] [4] []
              ⟨[(4, .bool true)], []⟩
              [] (by kernel_rfl) ?_ ?_
            · exact trivial
            refine AW.ret ?_
            exact AW.retE (β := Bool) (fun v => [⟨.bool, v⟩]) (fun v => []) (v := true) e20 (by kernel_rfl) rfl rfl

theorem FnExactOutcomes_law (e : Xpr) (st : List Int) : FnExactOutcomes e st = true := by
  unfold FnExactOutcomes
  rw [Xpr.eta, Xpr.eta, Outcomes_same, eqExpr_self, eqIntS_self]
  simp

end
end Go.Proofs.Ytodcdgolcbdkgaa
