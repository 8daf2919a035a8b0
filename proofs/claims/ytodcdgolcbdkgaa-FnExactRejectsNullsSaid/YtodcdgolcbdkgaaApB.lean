/-
  A part of the proof of this claim (ApB): what functions of the program compute, and plain facts of that. No conditions.
-/
import Derived.Test.YtodcdgolcbdkgaaApA
set_option linter.all false
namespace Go.Proofs.Ytodcdgolcbdkgaa
open Go Go.Am
noncomputable section

theorem rl0 (w : Nat) : ∀ (k i : Nat) (st : List Int), w - i < k → (List.length st = w ∧ ∀ j, j < i → List.getD st j 0 = 7) →
    List.length (iRejectsNulls_l0 (w : Int) k i st) = w ∧ ∀ j, j < w → List.getD (iRejectsNulls_l0 (w : Int) k i st) j 0 = 7 := by
  intro k
  induction k with
  | zero => intro i st h; omega
  | succ k ih =>
    intro i st h hs
    unfold iRejectsNulls_l0
    simp only [List.length_replicate, Int.toNat_natCast]
    by_cases hk : i < w
    · rw [lt_dec hk, cond_true]
      refine ih _ _ (by omega) ⟨by rw [List.length_set]; exact hs.1, fun j hj => ?_⟩
      rw [getD_set_int _ _ _ _ (by omega)]
      split
      · rfl
      · exact hs.2 j (by omega)
    · rw [ge_dec hk, cond_false]
      exact ⟨hs.1, fun j hj => hs.2 j (by omega)⟩

theorem rl1 (w : Nat) (nulls : List Int) : ∀ (k i : Nat) (st : List Int), nulls.length - i < k → List.length st = w →
    List.length (iRejectsNulls_l1 (w : Int) nulls k i st) = w ∧ ∀ j, j < w → List.getD (iRejectsNulls_l1 (w : Int) nulls k i st) j 0 = if ((j : Nat) : Int) ∈ nulls.drop i then 4 else List.getD st j 0 := by
  intro k
  induction k with
  | zero => intro i st h; omega
  | succ k ih =>
    intro i st h hs
    unfold iRejectsNulls_l1
    by_cases hk : i < nulls.length
    · rw [lt_dec hk, cond_true, drop_getD hk]
      generalize List.getD nulls i 0 = x
      cases hc : (bif (decide (0 ≤ x)) then (decide (x < (w : Int))) else false) with
      | true =>
        rw [cond_true]
        have h1 := of_decide_eq_true (and_pos hc).1
        have h2 := of_decide_eq_true (and_pos hc).2
        obtain ⟨a, b⟩ := ih (i + 1) (List.set st x.toNat 4) (by omega) (by rw [List.length_set]; exact hs)
        refine ⟨a, fun j hj => ?_⟩
        rw [b j hj, getD_set_int _ _ _ _ (by omega)]
        by_cases he : ((j : Nat) : Int) = x
        · rw [if_pos (show x.toNat = j by omega), he, if_pos (List.mem_cons_self ..)]
          split <;> rfl
        · rw [if_neg (show ¬ x.toNat = j by omega)]
          by_cases hm : ((j : Nat) : Int) ∈ nulls.drop (i + 1)
          · rw [if_pos hm, if_pos (List.mem_cons_of_mem _ hm)]
          · rw [if_neg hm, if_neg (by rw [List.mem_cons]; rintro (h | h); exact he h; exact hm h)]
      | false =>
        rw [cond_false]
        obtain ⟨a, b⟩ := ih (i + 1) st (by omega) hs
        refine ⟨a, fun j hj => ?_⟩
        rw [b j hj]
        have he : ¬ ((j : Nat) : Int) = x := by
          intro he
          rw [decide_eq_true (show 0 ≤ x by omega), decide_eq_true (show x < (w : Int) by omega)] at hc
          cases hc
        by_cases hm : ((j : Nat) : Int) ∈ nulls.drop (i + 1)
        · rw [if_pos hm, if_pos (List.mem_cons_of_mem _ hm)]
        · rw [if_neg hm, if_neg (by rw [List.mem_cons]; rintro (h | h); exact he h; exact hm h)]
    · rw [ge_dec hk, cond_false, List.drop_eq_nil_of_le (by omega)]
      exact ⟨hs, fun j hj => by simp⟩

theorem eq_nst {w : Nat} {nulls st : List Int} (h1 : List.length st = w) (h2 : ∀ j, j < w → List.getD st j 0 = if ((j : Nat) : Int) ∈ nulls then 4 else 7) : st = nst w nulls := by
  refine List.ext_getElem (by rw [h1, nst_length]) fun j h3 h4 => ?_
  have a := h2 j (by omega)
  have b := nst_getD (w := w) nulls (show j < w by omega)
  rw [← b] at a
  simpa [h3, h4] using a

theorem RejectsNulls_same (e : Xpr) (w : Int) (nulls : List Int) : iRejectsNulls e w nulls = RejectsNulls e w nulls := by
  unfold iRejectsNulls RejectsNulls rejects
  rw [Xpr.eta, ValidExpr_same]
  cases hv : ValidExpr e w with
  | false => rfl
  | true =>
    have hV := ValidExpr_iff.1 hv
    obtain ⟨n, rfl⟩ := Int.eq_ofNat_of_zero_le (show 0 ≤ w by omega)
    simp only [Bool.not_true, cond_false, cond_true, Go.Am.andThen, Xpr.eta]
    rw [nullStates_eq nulls hV.1, outcomes_same (nst_VX hV.1 hV.2), Int.toNat_natCast]
    obtain ⟨a1, a2⟩ := rl0 n ((List.length (List.replicate n 0 : List Int)) - 0 + 1) 0 (List.replicate n 0) (by simp) ⟨by simp, fun j hj => absurd hj (Nat.not_lt_zero _)⟩
    obtain ⟨b1, b2⟩ := rl1 n nulls ((List.length nulls) - 0 + 1) 0 _ (by omega) a1
    rw [eq_nst b1 fun j hj => by rw [b2 j hj, List.drop_zero, a2 j hj]]

def FnExactRejectsNulls (aE : Xpr) (aWidth : Int) (aNulls : List Int) : Bool := (bif (decide (1048576 < ((List.length aNulls : Nat) : Int))) then true else (bif (decide ((szExpr (Xpr.mk (Xpr.Kind aE) (Xpr.Col aE) (Xpr.V aE) (Xpr.Kids aE)) 1048576) < 0)) then true else (bif ((iRejectsNulls (Xpr.mk (Xpr.Kind (toExpr (Xpr.mk (Xpr.Kind aE) (Xpr.Col aE) (Xpr.V aE) (Xpr.Kids aE)))) (Xpr.Col (toExpr (Xpr.mk (Xpr.Kind aE) (Xpr.Col aE) (Xpr.V aE) (Xpr.Kids aE)))) (Xpr.V (toExpr (Xpr.mk (Xpr.Kind aE) (Xpr.Col aE) (Xpr.V aE) (Xpr.Kids aE)))) (Xpr.Kids (toExpr (Xpr.mk (Xpr.Kind aE) (Xpr.Col aE) (Xpr.V aE) (Xpr.Kids aE))))) aWidth (toIntS aNulls)) != (RejectsNulls (toExpr (Xpr.mk (Xpr.Kind aE) (Xpr.Col aE) (Xpr.V aE) (Xpr.Kids aE))) aWidth (toIntS aNulls))) then false else (bif (!(eqExpr (Xpr.mk (Xpr.Kind (toExpr (Xpr.mk (Xpr.Kind aE) (Xpr.Col aE) (Xpr.V aE) (Xpr.Kids aE)))) (Xpr.Col (toExpr (Xpr.mk (Xpr.Kind aE) (Xpr.Col aE) (Xpr.V aE) (Xpr.Kids aE)))) (Xpr.V (toExpr (Xpr.mk (Xpr.Kind aE) (Xpr.Col aE) (Xpr.V aE) (Xpr.Kids aE)))) (Xpr.Kids (toExpr (Xpr.mk (Xpr.Kind aE) (Xpr.Col aE) (Xpr.V aE) (Xpr.Kids aE))))) (toExpr (Xpr.mk (Xpr.Kind aE) (Xpr.Col aE) (Xpr.V aE) (Xpr.Kids aE))))) then false else (bif (!(eqIntS (toIntS aNulls) (toIntS aNulls))) then false else true)))))

def FnExactRejectsNulls_sp : FnSpec := mkSpec [.val (.named 1), .val (.int .i64), .val (.slice (.int .i64))] [.val .bool] (fun (aE : Xpr) (aWidth : Int) (aNulls : List Int) => True) (fun (aE : Xpr) (aWidth : Int) (aNulls : List Int) => [⟨.bool, (FnExactRejectsNulls aE aWidth aNulls)⟩])

theorem FnExactRejectsNulls_ok : FnOK Try.prog 14 FnExactRejectsNulls_sp := by
  have hC : CtxOK Try.prog (mkCtx tyL [(30, toIntS_sp), (34, eqIntS_sp), (55, szExpr_sp), (57, toExpr_sp), (59, eqExpr_sp), (64, RejectsNulls_sp), (65, iRejectsNulls_sp)]) := CtxOK.cons toIntS_ok (CtxOK.cons eqIntS_ok (CtxOK.cons szExpr_ok (CtxOK.cons toExpr_ok (CtxOK.cons eqExpr_ok (CtxOK.cons RejectsNulls_ok (CtxOK.cons iRejectsNulls_ok (CtxOK.nil tyOK)))))))
  have hM : Try.prog.follows .mixedOrders = true := Try.checked.mixed
  refine FnOK.of_body Try.func14 (by kernel_rfl) rfl (C := (mkCtx tyL [(30, toIntS_sp), (34, eqIntS_sp), (55, szExpr_sp), (57, toExpr_sp), (59, eqExpr_sp), (64, RejectsNulls_sp), (65, iRejectsNulls_sp)])) hC.ty (by kernel_rfl) ?_
  intro (aE : Xpr) (aWidth : Int) (aNulls : List Int) hwf hpre E
  have hpre : True := hpre
  have hw_aE : Wf ⟨(.named 1), (aE : Xpr)⟩ := hwf _ (List.Mem.head _)
  have hr_aE_Kind : -9223372036854775808 ≤ Xpr.Kind aE ∧ Xpr.Kind aE ≤ 9223372036854775807 := (hw_aE.field (tv := ⟨(.int .i64), Xpr.Kind aE⟩) (List.Mem.head _)).int_inv
  have hr_aE_Col : -9223372036854775808 ≤ Xpr.Col aE ∧ Xpr.Col aE ≤ 9223372036854775807 := (hw_aE.field (tv := ⟨(.int .i64), Xpr.Col aE⟩) (List.Mem.tail _ (List.Mem.head _))).int_inv
  have hl_aE_Kids : ((List.length (Xpr.Kids aE) : Nat) : Int) ≤ 9223372036854775807 := (hw_aE.field (tv := ⟨(.slice (.named 1)), Xpr.Kids aE⟩) (List.Mem.tail _ (List.Mem.tail _ (List.Mem.tail _ (List.Mem.head _))))).len
  have hw_aWidth : Wf ⟨(.int .i64), (aWidth : Int)⟩ := hwf _ (List.Mem.tail _ (List.Mem.head _))
  have hr_aWidth : -9223372036854775808 ≤ aWidth ∧ aWidth ≤ 9223372036854775807 := hw_aWidth.int_inv
  have hw_aNulls : Wf ⟨(.slice (.int .i64)), (aNulls : List Int)⟩ := hwf _ (List.Mem.tail _ (List.Mem.tail _ (List.Mem.head _)))
  have hl_aNulls : ((List.length aNulls : Nat) : Int) ≤ 9223372036854775807 := hw_aNulls.len
  have e0 : FnExactRejectsNulls aE aWidth aNulls = FnExactRejectsNulls aE aWidth aNulls := rfl
  refine AW.seq ?_
  refine AW.reg hC  false [] [1, 2, 3] [12]
    ⟨[(1, .int .i64 aWidth), (2, .data (.slice (.int .i64)) (aNulls : List Int)), (3, .ref 12 1 0)], [(12, .box 1 [.int .i64 (Xpr.Kind aE), .int .i64 (Xpr.Col aE), .bool (Val.Null (Xpr.V aE)), .int .i64 (Val.N (Xpr.V aE)), .data (.slice (.named 1)) ((Xpr.Kids aE) : List Xpr)])]⟩
    [] (by kernel_rfl) ?_ ?_
  · exact trivial
  refine AW.seq ?_
  refine AW.seq ?_
  refine AW.reg hC  false [] [1, 2, 3, 14] [12]
    ⟨[(1, .int .i64 aWidth), (2, .data (.slice (.int .i64)) (aNulls : List Int)), (3, .ref 12 1 0), (14, .bool (decide (1048576 < ((List.length aNulls : Nat) : Int))))], [(12, .box 1 [.int .i64 (Xpr.Kind aE), .int .i64 (Xpr.Col aE), .bool (Val.Null (Xpr.V aE)), .int .i64 (Val.N (Xpr.V aE)), .data (.slice (.named 1)) ((Xpr.Kids aE) : List Xpr)])]⟩
    [] (by kernel_rfl) ?_ ?_
  · exact trivial
  refine AW.cond (b := (decide (1048576 < ((List.length aNulls : Nat) : Int)))) (by kernel_rfl) ?_ ?_
  · intro h1
    have h1q : 1048576 < ((List.length aNulls : Nat) : Int) := (of_decide_eq_true h1)
    have e2 := e0.trans (Go.Am.bif_t h1)
    refine AW.seq ?_
    refine AW.reg hC  false [] [6] []
      ⟨[(6, .bool true)], []⟩
      [] (by kernel_rfl) ?_ ?_
    · exact trivial
    refine AW.ret ?_
    exact AW.retE (β := Bool) (fun v => [⟨.bool, v⟩]) (fun v => []) (v := true) e2 (by kernel_rfl) rfl rfl
  · intro h3
    have h3q : ¬ (1048576 < ((List.length aNulls : Nat) : Int)) := (of_decide_eq_false h3)
    have e4 := e0.trans (Go.Am.bif_f h3)
    refine AW.keep [1, 2, 3] [12] ⟨[(1, .int .i64 aWidth), (2, .data (.slice (.int .i64)) (aNulls : List Int)), (3, .ref 12 1 0)], [(12, .box 1 [.int .i64 (Xpr.Kind aE), .int .i64 (Xpr.Col aE), .bool (Val.Null (Xpr.V aE)), .int .i64 (Val.N (Xpr.V aE)), .data (.slice (.named 1)) ((Xpr.Kids aE) : List Xpr)])]⟩ (by kernel_rfl) ?_
    refine AW.skip ?_
    refine AW.seq ?_
    refine AW.reg hC  false [] [1, 2, 3, 7] [12]
      ⟨[(1, .int .i64 aWidth), (2, .data (.slice (.int .i64)) (aNulls : List Int)), (3, .ref 12 1 0), (7, .int .i64 1048576)], [(12, .box 1 [.int .i64 (Xpr.Kind aE), .int .i64 (Xpr.Col aE), .bool (Val.Null (Xpr.V aE)), .int .i64 (Val.N (Xpr.V aE)), .data (.slice (.named 1)) ((Xpr.Kids aE) : List Xpr)])]⟩
      [] (by kernel_rfl) ?_ ?_
    · exact trivial
    refine AW.seq ?_
    refine AW.reg hC  false [] [1, 2, 3, 7] [12]
      ⟨[(1, .int .i64 aWidth), (2, .data (.slice (.int .i64)) (aNulls : List Int)), (3, .ref 12 1 0), (7, .int .i64 (szExpr (Xpr.mk (Xpr.Kind aE) (Xpr.Col aE) (Xpr.V aE) (Xpr.Kids aE)) 1048576))], [(12, .box 1 [.int .i64 (Xpr.Kind aE), .int .i64 (Xpr.Col aE), .bool (Val.Null (Xpr.V aE)), .int .i64 (Val.N (Xpr.V aE)), .data (.slice (.named 1)) ((Xpr.Kids aE) : List Xpr)])]⟩
      [(0 ≤ (1048576 : Int))] (by kernel_rfl) ?_ ?_
    · refine ⟨?_, trivial⟩
      ·
        first | omega | assumption
    refine AW.seq ?_
    refine AW.seq ?_
    refine AW.reg hC  false [] [1, 2, 3, 19] [12]
      ⟨[(1, .int .i64 aWidth), (2, .data (.slice (.int .i64)) (aNulls : List Int)), (3, .ref 12 1 0), (19, .bool (decide ((szExpr (Xpr.mk (Xpr.Kind aE) (Xpr.Col aE) (Xpr.V aE) (Xpr.Kids aE)) 1048576) < 0)))], [(12, .box 1 [.int .i64 (Xpr.Kind aE), .int .i64 (Xpr.Col aE), .bool (Val.Null (Xpr.V aE)), .int .i64 (Val.N (Xpr.V aE)), .data (.slice (.named 1)) ((Xpr.Kids aE) : List Xpr)])]⟩
      [] (by kernel_rfl) ?_ ?_
    · exact trivial
    refine AW.cond (b := (decide ((szExpr (Xpr.mk (Xpr.Kind aE) (Xpr.Col aE) (Xpr.V aE) (Xpr.Kids aE)) 1048576) < 0))) (by kernel_rfl) ?_ ?_
    · intro h5
      have h5q : (szExpr (Xpr.mk (Xpr.Kind aE) (Xpr.Col aE) (Xpr.V aE) (Xpr.Kids aE)) 1048576) < 0 := (of_decide_eq_true h5)
      have e6 := e4.trans (Go.Am.bif_t h5)
      refine AW.seq ?_
      refine AW.reg hC  false [] [6] []
        ⟨[(6, .bool true)], []⟩
        [] (by kernel_rfl) ?_ ?_
      · exact trivial
      refine AW.ret ?_
      exact AW.retE (β := Bool) (fun v => [⟨.bool, v⟩]) (fun v => []) (v := true) e6 (by kernel_rfl) rfl rfl
    · intro h7
      have h7q : ¬ ((szExpr (Xpr.mk (Xpr.Kind aE) (Xpr.Col aE) (Xpr.V aE) (Xpr.Kids aE)) 1048576) < 0) := (of_decide_eq_false h7)
      have e8 := e4.trans (Go.Am.bif_f h7)
      refine AW.keep [1, 2, 3] [12] ⟨[(1, .int .i64 aWidth), (2, .data (.slice (.int .i64)) (aNulls : List Int)), (3, .ref 12 1 0)], [(12, .box 1 [.int .i64 (Xpr.Kind aE), .int .i64 (Xpr.Col aE), .bool (Val.Null (Xpr.V aE)), .int .i64 (Val.N (Xpr.V aE)), .data (.slice (.named 1)) ((Xpr.Kids aE) : List Xpr)])]⟩ (by kernel_rfl) ?_
      refine AW.skip ?_
      refine AW.seq ?_
      refine AW.reg hC  false [] [1, 2, 3, 8] [12]
        ⟨[(1, .int .i64 aWidth), (2, .data (.slice (.int .i64)) (aNulls : List Int)), (3, .ref 12 1 0), (8, .bool (RejectsNulls (toExpr (Xpr.mk (Xpr.Kind aE) (Xpr.Col aE) (Xpr.V aE) (Xpr.Kids aE))) aWidth (toIntS aNulls)))], [(12, .box 1 [.int .i64 (Xpr.Kind aE), .int .i64 (Xpr.Col aE), .bool (Val.Null (Xpr.V aE)), .int .i64 (Val.N (Xpr.V aE)), .data (.slice (.named 1)) ((Xpr.Kids aE) : List Xpr)])]⟩
        [(Fits (Xpr.mk (Xpr.Kind aE) (Xpr.Col aE) (Xpr.V aE) (Xpr.Kids aE))), ((List.length aNulls : Int) ≤ 1048576), (True)] (by kernel_rfl) ?_ ?_
      · refine ⟨?_, ?_, ?_, trivial⟩
        ·
          exact Fits.of (l := 1048576) ⟨by decide, by decide⟩ (by first | exact h7q | exact h3q | exact trivial | exact trivial)
        ·
          first | omega | assumption
        · trivial
      refine AW.seq ?_
      refine AW.reg hC  false [] [1, 2, 3, 8, 9] [12, 36]
        ⟨[(1, .int .i64 aWidth), (2, .data (.slice (.int .i64)) (aNulls : List Int)), (3, .ref 12 1 0), (8, .bool (RejectsNulls (toExpr (Xpr.mk (Xpr.Kind aE) (Xpr.Col aE) (Xpr.V aE) (Xpr.Kids aE))) aWidth (toIntS aNulls))), (9, .ref 36 1 0)], [(12, .box 1 [.int .i64 (Xpr.Kind aE), .int .i64 (Xpr.Col aE), .bool (Val.Null (Xpr.V aE)), .int .i64 (Val.N (Xpr.V aE)), .data (.slice (.named 1)) ((Xpr.Kids aE) : List Xpr)]), (36, .box 1 [.int .i64 (Xpr.Kind (toExpr (Xpr.mk (Xpr.Kind aE) (Xpr.Col aE) (Xpr.V aE) (Xpr.Kids aE)))), .int .i64 (Xpr.Col (toExpr (Xpr.mk (Xpr.Kind aE) (Xpr.Col aE) (Xpr.V aE) (Xpr.Kids aE)))), .bool (Val.Null (Xpr.V (toExpr (Xpr.mk (Xpr.Kind aE) (Xpr.Col aE) (Xpr.V aE) (Xpr.Kids aE))))), .int .i64 (Val.N (Xpr.V (toExpr (Xpr.mk (Xpr.Kind aE) (Xpr.Col aE) (Xpr.V aE) (Xpr.Kids aE))))), .data (.slice (.named 1)) ((Xpr.Kids (toExpr (Xpr.mk (Xpr.Kind aE) (Xpr.Col aE) (Xpr.V aE) (Xpr.Kids aE)))) : List Xpr)])]⟩
        [(Fits (Xpr.mk (Xpr.Kind aE) (Xpr.Col aE) (Xpr.V aE) (Xpr.Kids aE)))] (by kernel_rfl) ?_ ?_
      · refine ⟨?_, trivial⟩
        ·
          exact Fits.of (l := 1048576) ⟨by decide, by decide⟩ (by first | exact h7q | exact h3q | exact trivial | exact trivial)
      refine AW.seq ?_
      refine AW.reg hC  false [] [1, 2, 3, 8, 9, 10] [12, 36, 116]
        ⟨[(1, .int .i64 aWidth), (2, .data (.slice (.int .i64)) (aNulls : List Int)), (3, .ref 12 1 0), (8, .bool (RejectsNulls (toExpr (Xpr.mk (Xpr.Kind aE) (Xpr.Col aE) (Xpr.V aE) (Xpr.Kids aE))) aWidth (toIntS aNulls))), (9, .ref 36 1 0), (10, .arr 116 1)], [(12, .box 1 [.int .i64 (Xpr.Kind aE), .int .i64 (Xpr.Col aE), .bool (Val.Null (Xpr.V aE)), .int .i64 (Val.N (Xpr.V aE)), .data (.slice (.named 1)) ((Xpr.Kids aE) : List Xpr)]), (36, .box 1 [.int .i64 (Xpr.Kind (toExpr (Xpr.mk (Xpr.Kind aE) (Xpr.Col aE) (Xpr.V aE) (Xpr.Kids aE)))), .int .i64 (Xpr.Col (toExpr (Xpr.mk (Xpr.Kind aE) (Xpr.Col aE) (Xpr.V aE) (Xpr.Kids aE)))), .bool (Val.Null (Xpr.V (toExpr (Xpr.mk (Xpr.Kind aE) (Xpr.Col aE) (Xpr.V aE) (Xpr.Kids aE))))), .int .i64 (Val.N (Xpr.V (toExpr (Xpr.mk (Xpr.Kind aE) (Xpr.Col aE) (Xpr.V aE) (Xpr.Kids aE))))), .data (.slice (.named 1)) ((Xpr.Kids (toExpr (Xpr.mk (Xpr.Kind aE) (Xpr.Col aE) (Xpr.V aE) (Xpr.Kids aE)))) : List Xpr)]), (116, .arr 1 (.int .i64) ((toIntS aNulls) : List Int))]⟩
        [((List.length aNulls : Int) ≤ 1048576)] (by kernel_rfl) ?_ ?_
      · refine ⟨?_, trivial⟩
        ·
          first | omega | assumption
      refine AW.seq ?_
      refine AW.reg hC  false [] [2, 3, 8, 9, 10, 11] [12, 36, 116]
        ⟨[(2, .data (.slice (.int .i64)) (aNulls : List Int)), (3, .ref 12 1 0), (8, .bool (RejectsNulls (toExpr (Xpr.mk (Xpr.Kind aE) (Xpr.Col aE) (Xpr.V aE) (Xpr.Kids aE))) aWidth (toIntS aNulls))), (9, .ref 36 1 0), (10, .arr 116 1), (11, .bool (iRejectsNulls (Xpr.mk (Xpr.Kind (toExpr (Xpr.mk (Xpr.Kind aE) (Xpr.Col aE) (Xpr.V aE) (Xpr.Kids aE)))) (Xpr.Col (toExpr (Xpr.mk (Xpr.Kind aE) (Xpr.Col aE) (Xpr.V aE) (Xpr.Kids aE)))) (Xpr.V (toExpr (Xpr.mk (Xpr.Kind aE) (Xpr.Col aE) (Xpr.V aE) (Xpr.Kids aE)))) (Xpr.Kids (toExpr (Xpr.mk (Xpr.Kind aE) (Xpr.Col aE) (Xpr.V aE) (Xpr.Kids aE))))) aWidth (toIntS aNulls)))], [(12, .box 1 [.int .i64 (Xpr.Kind aE), .int .i64 (Xpr.Col aE), .bool (Val.Null (Xpr.V aE)), .int .i64 (Val.N (Xpr.V aE)), .data (.slice (.named 1)) ((Xpr.Kids aE) : List Xpr)]), (36, .box 1 [.int .i64 (Xpr.Kind (toExpr (Xpr.mk (Xpr.Kind aE) (Xpr.Col aE) (Xpr.V aE) (Xpr.Kids aE)))), .int .i64 (Xpr.Col (toExpr (Xpr.mk (Xpr.Kind aE) (Xpr.Col aE) (Xpr.V aE) (Xpr.Kids aE)))), .bool (Val.Null (Xpr.V (toExpr (Xpr.mk (Xpr.Kind aE) (Xpr.Col aE) (Xpr.V aE) (Xpr.Kids aE))))), .int .i64 (Val.N (Xpr.V (toExpr (Xpr.mk (Xpr.Kind aE) (Xpr.Col aE) (Xpr.V aE) (Xpr.Kids aE))))), .data (.slice (.named 1)) ((Xpr.Kids (toExpr (Xpr.mk (Xpr.Kind aE) (Xpr.Col aE) (Xpr.V aE) (Xpr.Kids aE)))) : List Xpr)]), (116, .arr 1 (.int .i64) ((toIntS aNulls) : List Int))]⟩
        [(True)] (by kernel_rfl) ?_ ?_
      · refine ⟨?_, trivial⟩
        · trivial
      refine AW.seq ?_
      refine AW.seq ?_
      refine AW.reg hC  false [] [2, 3, 9, 10, 36] [12, 36, 116]
        ⟨[(2, .data (.slice (.int .i64)) (aNulls : List Int)), (3, .ref 12 1 0), (9, .ref 36 1 0), (10, .arr 116 1), (36, .bool ((iRejectsNulls (Xpr.mk (Xpr.Kind (toExpr (Xpr.mk (Xpr.Kind aE) (Xpr.Col aE) (Xpr.V aE) (Xpr.Kids aE)))) (Xpr.Col (toExpr (Xpr.mk (Xpr.Kind aE) (Xpr.Col aE) (Xpr.V aE) (Xpr.Kids aE)))) (Xpr.V (toExpr (Xpr.mk (Xpr.Kind aE) (Xpr.Col aE) (Xpr.V aE) (Xpr.Kids aE)))) (Xpr.Kids (toExpr (Xpr.mk (Xpr.Kind aE) (Xpr.Col aE) (Xpr.V aE) (Xpr.Kids aE))))) aWidth (toIntS aNulls)) != (RejectsNulls (toExpr (Xpr.mk (Xpr.Kind aE) (Xpr.Col aE) (Xpr.V aE) (Xpr.Kids aE))) aWidth (toIntS aNulls))))], [(12, .box 1 [.int .i64 (Xpr.Kind aE), .int .i64 (Xpr.Col aE), .bool (Val.Null (Xpr.V aE)), .int .i64 (Val.N (Xpr.V aE)), .data (.slice (.named 1)) ((Xpr.Kids aE) : List Xpr)]), (36, .box 1 [.int .i64 (Xpr.Kind (toExpr (Xpr.mk (Xpr.Kind aE) (Xpr.Col aE) (Xpr.V aE) (Xpr.Kids aE)))), .int .i64 (Xpr.Col (toExpr (Xpr.mk (Xpr.Kind aE) (Xpr.Col aE) (Xpr.V aE) (Xpr.Kids aE)))), .bool (Val.Null (Xpr.V (toExpr (Xpr.mk (Xpr.Kind aE) (Xpr.Col aE) (Xpr.V aE) (Xpr.Kids aE))))), .int .i64 (Val.N (Xpr.V (toExpr (Xpr.mk (Xpr.Kind aE) (Xpr.Col aE) (Xpr.V aE) (Xpr.Kids aE))))), .data (.slice (.named 1)) ((Xpr.Kids (toExpr (Xpr.mk (Xpr.Kind aE) (Xpr.Col aE) (Xpr.V aE) (Xpr.Kids aE)))) : List Xpr)]), (116, .arr 1 (.int .i64) ((toIntS aNulls) : List Int))]⟩
        [] (by kernel_rfl) ?_ ?_
      · exact trivial
      refine AW.cond (b := ((iRejectsNulls (Xpr.mk (Xpr.Kind (toExpr (Xpr.mk (Xpr.Kind aE) (Xpr.Col aE) (Xpr.V aE) (Xpr.Kids aE)))) (Xpr.Col (toExpr (Xpr.mk (Xpr.Kind aE) (Xpr.Col aE) (Xpr.V aE) (Xpr.Kids aE)))) (Xpr.V (toExpr (Xpr.mk (Xpr.Kind aE) (Xpr.Col aE) (Xpr.V aE) (Xpr.Kids aE)))) (Xpr.Kids (toExpr (Xpr.mk (Xpr.Kind aE) (Xpr.Col aE) (Xpr.V aE) (Xpr.Kids aE))))) aWidth (toIntS aNulls)) != (RejectsNulls (toExpr (Xpr.mk (Xpr.Kind aE) (Xpr.Col aE) (Xpr.V aE) (Xpr.Kids aE))) aWidth (toIntS aNulls)))) (by kernel_rfl) ?_ ?_
      · intro h9
        have h9q : ((iRejectsNulls (Xpr.mk (Xpr.Kind (toExpr (Xpr.mk (Xpr.Kind aE) (Xpr.Col aE) (Xpr.V aE) (Xpr.Kids aE)))) (Xpr.Col (toExpr (Xpr.mk (Xpr.Kind aE) (Xpr.Col aE) (Xpr.V aE) (Xpr.Kids aE)))) (Xpr.V (toExpr (Xpr.mk (Xpr.Kind aE) (Xpr.Col aE) (Xpr.V aE) (Xpr.Kids aE)))) (Xpr.Kids (toExpr (Xpr.mk (Xpr.Kind aE) (Xpr.Col aE) (Xpr.V aE) (Xpr.Kids aE))))) aWidth (toIntS aNulls)) != (RejectsNulls (toExpr (Xpr.mk (Xpr.Kind aE) (Xpr.Col aE) (Xpr.V aE) (Xpr.Kids aE))) aWidth (toIntS aNulls))) = true := h9
        have e10 := e8.trans (Go.Am.bif_t h9)
        refine AW.seq ?_
        refine AW.reg hC  false [] [6] []
          ⟨[(6, .bool false)], []⟩
          [] (by kernel_rfl) ?_ ?_
        · exact trivial
        refine AW.ret ?_
        exact AW.retE (β := Bool) (fun v => [⟨.bool, v⟩]) (fun v => []) (v := false) e10 (by kernel_rfl) rfl rfl
      · intro h11
        have h11q : ((iRejectsNulls (Xpr.mk (Xpr.Kind (toExpr (Xpr.mk (Xpr.Kind aE) (Xpr.Col aE) (Xpr.V aE) (Xpr.Kids aE)))) (Xpr.Col (toExpr (Xpr.mk (Xpr.Kind aE) (Xpr.Col aE) (Xpr.V aE) (Xpr.Kids aE)))) (Xpr.V (toExpr (Xpr.mk (Xpr.Kind aE) (Xpr.Col aE) (Xpr.V aE) (Xpr.Kids aE)))) (Xpr.Kids (toExpr (Xpr.mk (Xpr.Kind aE) (Xpr.Col aE) (Xpr.V aE) (Xpr.Kids aE))))) aWidth (toIntS aNulls)) != (RejectsNulls (toExpr (Xpr.mk (Xpr.Kind aE) (Xpr.Col aE) (Xpr.V aE) (Xpr.Kids aE))) aWidth (toIntS aNulls))) = false := h11
        have e12 := e8.trans (Go.Am.bif_f h11)
        refine AW.keep [2, 3, 9, 10] [12, 36, 116] ⟨[(2, .data (.slice (.int .i64)) (aNulls : List Int)), (3, .ref 12 1 0), (9, .ref 36 1 0), (10, .arr 116 1)], [(12, .box 1 [.int .i64 (Xpr.Kind aE), .int .i64 (Xpr.Col aE), .bool (Val.Null (Xpr.V aE)), .int .i64 (Val.N (Xpr.V aE)), .data (.slice (.named 1)) ((Xpr.Kids aE) : List Xpr)]), (36, .box 1 [.int .i64 (Xpr.Kind (toExpr (Xpr.mk (Xpr.Kind aE) (Xpr.Col aE) (Xpr.V aE) (Xpr.Kids aE)))), .int .i64 (Xpr.Col (toExpr (Xpr.mk (Xpr.Kind aE) (Xpr.Col aE) (Xpr.V aE) (Xpr.Kids aE)))), .bool (Val.Null (Xpr.V (toExpr (Xpr.mk (Xpr.Kind aE) (Xpr.Col aE) (Xpr.V aE) (Xpr.Kids aE))))), .int .i64 (Val.N (Xpr.V (toExpr (Xpr.mk (Xpr.Kind aE) (Xpr.Col aE) (Xpr.V aE) (Xpr.Kids aE))))), .data (.slice (.named 1)) ((Xpr.Kids (toExpr (Xpr.mk (Xpr.Kind aE) (Xpr.Col aE) (Xpr.V aE) (Xpr.Kids aE)))) : List Xpr)]), (116, .arr 1 (.int .i64) ((toIntS aNulls) : List Int))]⟩ (by kernel_rfl) ?_
        refine AW.skip ?_
        refine AW.seq ?_
        refine AW.seq ?_
        refine AW.regD hC hM  false [] [2, 10, 41] [116]
          ⟨[(2, .data (.slice (.int .i64)) (aNulls : List Int)), (10, .arr 116 1), (41, .bool (!(eqExpr (Xpr.mk (Xpr.Kind (toExpr (Xpr.mk (Xpr.Kind aE) (Xpr.Col aE) (Xpr.V aE) (Xpr.Kids aE)))) (Xpr.Col (toExpr (Xpr.mk (Xpr.Kind aE) (Xpr.Col aE) (Xpr.V aE) (Xpr.Kids aE)))) (Xpr.V (toExpr (Xpr.mk (Xpr.Kind aE) (Xpr.Col aE) (Xpr.V aE) (Xpr.Kids aE)))) (Xpr.Kids (toExpr (Xpr.mk (Xpr.Kind aE) (Xpr.Col aE) (Xpr.V aE) (Xpr.Kids aE))))) (toExpr (Xpr.mk (Xpr.Kind aE) (Xpr.Col aE) (Xpr.V aE) (Xpr.Kids aE))))))], [(116, .arr 1 (.int .i64) ((toIntS aNulls) : List Int))]⟩
          [(Fits (Xpr.mk (Xpr.Kind aE) (Xpr.Col aE) (Xpr.V aE) (Xpr.Kids aE))), (True)] (by kernel_rfl) ?_ ?_
        · refine ⟨?_, ?_, trivial⟩
          ·
            exact Fits.of (l := 1048576) ⟨by decide, by decide⟩ (by first | exact h11q | exact h7q | exact h3q | exact trivial)
          · trivial
        refine AW.cond (b := (!(eqExpr (Xpr.mk (Xpr.Kind (toExpr (Xpr.mk (Xpr.Kind aE) (Xpr.Col aE) (Xpr.V aE) (Xpr.Kids aE)))) (Xpr.Col (toExpr (Xpr.mk (Xpr.Kind aE) (Xpr.Col aE) (Xpr.V aE) (Xpr.Kids aE)))) (Xpr.V (toExpr (Xpr.mk (Xpr.Kind aE) (Xpr.Col aE) (Xpr.V aE) (Xpr.Kids aE)))) (Xpr.Kids (toExpr (Xpr.mk (Xpr.Kind aE) (Xpr.Col aE) (Xpr.V aE) (Xpr.Kids aE))))) (toExpr (Xpr.mk (Xpr.Kind aE) (Xpr.Col aE) (Xpr.V aE) (Xpr.Kids aE)))))) (by kernel_rfl) ?_ ?_
        · intro h13
          have h13q : (eqExpr (Xpr.mk (Xpr.Kind (toExpr (Xpr.mk (Xpr.Kind aE) (Xpr.Col aE) (Xpr.V aE) (Xpr.Kids aE)))) (Xpr.Col (toExpr (Xpr.mk (Xpr.Kind aE) (Xpr.Col aE) (Xpr.V aE) (Xpr.Kids aE)))) (Xpr.V (toExpr (Xpr.mk (Xpr.Kind aE) (Xpr.Col aE) (Xpr.V aE) (Xpr.Kids aE)))) (Xpr.Kids (toExpr (Xpr.mk (Xpr.Kind aE) (Xpr.Col aE) (Xpr.V aE) (Xpr.Kids aE))))) (toExpr (Xpr.mk (Xpr.Kind aE) (Xpr.Col aE) (Xpr.V aE) (Xpr.Kids aE)))) = false := (Go.Am.not_pos h13)
          have e14 := e12.trans (Go.Am.bif_t h13)
          refine AW.seq ?_
          refine AW.reg hC  false [] [6] []
            ⟨[(6, .bool false)], []⟩
            [] (by kernel_rfl) ?_ ?_
          · exact trivial
          refine AW.ret ?_
          exact AW.retE (β := Bool) (fun v => [⟨.bool, v⟩]) (fun v => []) (v := false) e14 (by kernel_rfl) rfl rfl
        · intro h15
          have h15q : (eqExpr (Xpr.mk (Xpr.Kind (toExpr (Xpr.mk (Xpr.Kind aE) (Xpr.Col aE) (Xpr.V aE) (Xpr.Kids aE)))) (Xpr.Col (toExpr (Xpr.mk (Xpr.Kind aE) (Xpr.Col aE) (Xpr.V aE) (Xpr.Kids aE)))) (Xpr.V (toExpr (Xpr.mk (Xpr.Kind aE) (Xpr.Col aE) (Xpr.V aE) (Xpr.Kids aE)))) (Xpr.Kids (toExpr (Xpr.mk (Xpr.Kind aE) (Xpr.Col aE) (Xpr.V aE) (Xpr.Kids aE))))) (toExpr (Xpr.mk (Xpr.Kind aE) (Xpr.Col aE) (Xpr.V aE) (Xpr.Kids aE)))) = true := (Go.Am.not_neg h15)
          have e16 := e12.trans (Go.Am.bif_f h15)
          refine AW.keep [2, 10] [116] ⟨[(2, .data (.slice (.int .i64)) (aNulls : List Int)), (10, .arr 116 1)], [(116, .arr 1 (.int .i64) ((toIntS aNulls) : List Int))]⟩ (by kernel_rfl) ?_
          refine AW.skip ?_
          refine AW.seq ?_
          refine AW.seq ?_
          refine AW.reg hC  false [] [46] []
            ⟨[(46, .bool (!(eqIntS (toIntS aNulls) (toIntS aNulls))))], []⟩
            [((List.length aNulls : Int) ≤ 1048576), (True)] (by kernel_rfl) ?_ ?_
          · refine ⟨?_, ?_, trivial⟩
            ·
              first | omega | assumption
            · trivial
          refine AW.cond (b := (!(eqIntS (toIntS aNulls) (toIntS aNulls)))) (by kernel_rfl) ?_ ?_
          · intro h17
            have h17q : (eqIntS (toIntS aNulls) (toIntS aNulls)) = false := (Go.Am.not_pos h17)
            have e18 := e16.trans (Go.Am.bif_t h17)
            refine AW.seq ?_
            refine AW.reg hC  false [] [6] []
              ⟨[(6, .bool false)], []⟩
              [] (by kernel_rfl) ?_ ?_
            · exact trivial
            refine AW.ret ?_
            exact AW.retE (β := Bool) (fun v => [⟨.bool, v⟩]) (fun v => []) (v := false) e18 (by kernel_rfl) rfl rfl
          · intro h19
            have h19q : (eqIntS (toIntS aNulls) (toIntS aNulls)) = true := (Go.Am.not_neg h19)
            have e20 := e16.trans (Go.Am.bif_f h19)
            refine AW.keep [] [] ⟨[], []⟩ (by kernel_rfl) ?_
            refine AW.skip ?_
            refine AW.seq ?_
            refine AW.reg hC  false [] [6] []
              ⟨[(6, .bool true)], []⟩
              [] (by kernel_rfl) ?_ ?_
            · exact trivial
            refine AW.ret ?_
            exact AW.retE (β := Bool) (fun v => [⟨.bool, v⟩]) (fun v => []) (v := true) e20 (by kernel_rfl) rfl rfl

theorem FnExactRejectsNulls_law (e : Xpr) (w : Int) (nulls : List Int) : FnExactRejectsNulls e w nulls = true := by
  unfold FnExactRejectsNulls
  rw [Xpr.eta, Xpr.eta, RejectsNulls_same, eqExpr_self, eqIntS_self]
  simp

end
end Go.Proofs.Ytodcdgolcbdkgaa
