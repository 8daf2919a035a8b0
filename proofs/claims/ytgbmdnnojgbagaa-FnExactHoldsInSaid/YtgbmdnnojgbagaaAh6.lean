/-
  A part of the proof of this claim (Ah6): what functions of the program compute, and plain facts of that. No conditions.
-/
import Derived.Test.YtgbmdnnojgbagaaAh5
set_option linter.all false
namespace Go.Proofs.Ytgbmdnnojgbagaa
open Go Go.Am
noncomputable section

theorem szSS_le {a : List (List Val)} : ∀ (k : Nat) (l : Int) (i : Nat), 0 ≤ l → a.length - i < k → ¬ Sum.elim (fun z => z) (fun r => r) (szValueSS_l0 a k l i) < 0 → ∀ j, i ≤ j → j < a.length → (List.length (List.getD a j []) : Int) ≤ l := by
  intro k
  induction k with
  | zero => intro l i _ h; omega
  | succ k ih =>
    intro l i hl hk h j hj hn
    unfold szValueSS_l0 at h
    by_cases hi : i < a.length
    · rw [lt_dec hi, cond_true] at h
      by_cases h1 : szValueS (a.getD i []) l < 0
      · rw [decide_eq_true h1, cond_true] at h
        exact absurd (by decide) h
      · rw [decide_eq_false h1, cond_false] at h
        have h2 := szValueS_ge (a := a.getD i []) hl
        rcases Nat.eq_or_lt_of_le hj with rfl | hj
        · unfold szValueS at h1
          by_cases e : l - ((List.length (a.getD i []) : Nat) : Int) < 0
          · rw [decide_eq_true e, cond_true] at h1
            exact absurd (by decide) h1
          · omega
        · have := ih _ (i + 1) (by omega) (by omega) h j hj hn
          omega
    · omega

theorem szTable_le {t : Tab} {l : Int} (hl : 0 ≤ l) (h : ¬ szTable t l < 0) : (List.length t.Rows : Int) ≤ l ∧ ∀ i : Nat, i < List.length t.Rows → (List.length (List.getD t.Rows i []) : Int) ≤ l := by
  unfold szTable at h
  by_cases h1 : szValueSS t.Rows l < 0
  · rw [decide_eq_true h1, cond_true] at h
    exact absurd (by decide) h
  · unfold szValueSS at h1
    by_cases e : l - ((List.length t.Rows : Nat) : Int) < 0
    · rw [decide_eq_true e, cond_true] at h1
      exact absurd (by decide) h1
    · rw [decide_eq_false e, cond_false] at h1
      refine ⟨by omega, fun i hi => ?_⟩
      have := szSS_le _ _ 0 (by omega) (by omega) h1 i (by omega) hi
      omega

theorem eqValue_refl (a : Val) : eqValue a a = true := by
  unfold eqValue
  simp

theorem eqValueS_refl (a : List Val) : eqValueS a a = true := by
  unfold eqValueS
  rw [show (((List.length a : Nat) : Int) != ((List.length a : Nat) : Int)) = false by simp, cond_false]
  rcases all_loop (eqValueS_l0 a a) a.length (fun i => !(eqValue (List.getD a i Val.zero) (List.getD a i Val.zero))) (fun k i => rfl) (a.length - 0 + 1) 0 (by omega) with ⟨h1, h2⟩ | ⟨h1, j, h2, h3, h4⟩
  · rw [h1]
    rfl
  · rw [eqValue_refl] at h4
    cases h4

theorem eqValueSS_refl (a : List (List Val)) : eqValueSS a a = true := by
  unfold eqValueSS
  rw [show (((List.length a : Nat) : Int) != ((List.length a : Nat) : Int)) = false by simp, cond_false]
  rcases all_loop (eqValueSS_l0 a a) a.length (fun i => !(eqValueS (List.getD a i []) (List.getD a i []))) (fun k i => rfl) (a.length - 0 + 1) 0 (by omega) with ⟨h1, h2⟩ | ⟨h1, j, h2, h3, h4⟩
  · rw [h1]
    rfl
  · rw [eqValueS_refl] at h4
    cases h4

theorem eqTable_refl (a : Tab) : eqTable a a = true := by
  unfold eqTable
  rw [show (a.Width != a.Width) = false by simp, cond_false, eqValueSS_refl]
  rfl

theorem hold1 (f : Dep) (t : Tab) (h : (ValidTable t = true) ∧ depValid f t.Width = true) (i : Nat) (hi : i < t.Rows.length) : ∀ k j, HoldsIn_l1 f t i k j = sHoldsIn_l1 f t i k j := by
  intro k
  induction k with
  | zero => intro j; rfl
  | succ k ih =>
    intro j
    unfold HoldsIn_l1 sHoldsIn_l1
    by_cases hj : j < i
    · have hl : j < (List.take i t.Rows).length := by rw [List.length_take]; omega
      have hk := okS h hi hl
      rw [getD_take hl] at hk ⊢
      rw [lt_dec hj, lt_dec hl, cond_true, cond_true, agree_eq hk.1.1.1 hk.1.1.2 hk.1.2.1, agree_eq hk.2.1.1 hk.2.1.2 hk.1.2.1, ih]
    · rw [ge_dec hj, ge_dec (by rw [List.length_take]; omega)]
      rfl

theorem hold_eq (f : Dep) (t : Tab) : HoldsIn f t = sHoldsIn f t := by
  unfold HoldsIn sHoldsIn
  rw [vt_eq]
  cases hv : ValidTable t with
  | false => rfl
  | true =>
    have hV := ValidTable_iff.1 hv
    have hd : depValid f t.Width = (bif validSet f.From t.Width then validSet f.To t.Width else false) := by
      rw [Bool.eq_iff_iff, depValid_iff]
      constructor
      · rintro ⟨h1, h2⟩
        rw [validSet_iff.2 ⟨⟨hV.w1, hV.w6⟩, ivalidSet_iff.2 h1⟩, validSet_iff.2 ⟨⟨hV.w1, hV.w6⟩, ivalidSet_iff.2 h2⟩]
        rfl
      · intro h
        have h := and_pos h
        exact ⟨ivalidSet_iff.1 (validSet_iff.1 h.1).2, ivalidSet_iff.1 (validSet_iff.1 h.2).2⟩
    have h0 : ∀ k i, depValid f t.Width = true → HoldsIn_l0 f t k i = sHoldsIn_l0 f t k i := by
      intro k
      induction k with
      | zero => intro i _; rfl
      | succ k ih =>
        intro i hf
        unfold HoldsIn_l0 sHoldsIn_l0
        by_cases hi : i < t.Rows.length
        · rw [lt_dec hi, cond_true, cond_true, ih _ hf, show (List.take i t.Rows).length = i by rw [List.length_take]; omega, hold1 f t ⟨hv, hf⟩ i hi]
        · rw [ge_dec hi]
          rfl
    rw [hd]
    cases h1 : validSet f.From t.Width with
    | false => rfl
    | true =>
      cases h2 : validSet f.To t.Width with
      | false => rfl
      | true =>
        rw [h0 _ _ (by rw [hd, h1, h2]; rfl)]
        rfl

def FnExactHoldsIn (aF : Dep) (aT : Tab) : Bool := (bif (decide ((szTable aT 1048576) < 0)) then true else (bif ((HoldsIn (toDependency aF) (toTable aT)) != (sHoldsIn (toDependency aF) (toTable aT))) then false else (bif (!(eqTable (toTable aT) (toTable aT))) then false else true)))

def FnExactHoldsIn_sp : FnSpec := mkSpec [.val (.named 0), .val (.named 2)] [.val .bool] (fun (aF : Dep) (aT : Tab) => True) (fun (aF : Dep) (aT : Tab) => [⟨.bool, (FnExactHoldsIn aF aT)⟩])

theorem FnExactHoldsIn_ok : FnOK Try.prog 3 FnExactHoldsIn_sp := by
  have hC : CtxOK Try.prog (mkCtx tyL [(5, szTable_sp), (6, sHoldsIn_sp), (7, toDependency_sp), (8, toTable_sp), (9, HoldsIn_sp), (10, eqTable_sp)]) := CtxOK.cons szTable_ok (CtxOK.cons sHoldsIn_ok (CtxOK.cons toDependency_ok (CtxOK.cons toTable_ok (CtxOK.cons HoldsIn_ok (CtxOK.cons eqTable_ok (CtxOK.nil tyOK))))))
  have hM : Try.prog.follows .mixedOrders = true := Try.checked.mixed
  refine FnOK.of_body Try.func3 (by kernel_rfl) rfl (C := (mkCtx tyL [(5, szTable_sp), (6, sHoldsIn_sp), (7, toDependency_sp), (8, toTable_sp), (9, HoldsIn_sp), (10, eqTable_sp)])) hC.ty (by kernel_rfl) ?_
  intro (aF : Dep) (aT : Tab) hwf hpre E
  have hpre : True := hpre
  have hw_aF : Wf ⟨(.named 0), (aF : Dep)⟩ := hwf _ (List.Mem.head _)
  have hr_aF_From : -9223372036854775808 ≤ Dep.From aF ∧ Dep.From aF ≤ 9223372036854775807 := (hw_aF.field (tv := ⟨(.int .i64), Dep.From aF⟩) (List.Mem.head _)).int_inv
  have hr_aF_To : -9223372036854775808 ≤ Dep.To aF ∧ Dep.To aF ≤ 9223372036854775807 := (hw_aF.field (tv := ⟨(.int .i64), Dep.To aF⟩) (List.Mem.tail _ (List.Mem.head _))).int_inv
  have hw_aT : Wf ⟨(.named 2), (aT : Tab)⟩ := hwf _ (List.Mem.tail _ (List.Mem.head _))
  have hr_aT_Width : -9223372036854775808 ≤ Tab.Width aT ∧ Tab.Width aT ≤ 9223372036854775807 := (hw_aT.field (tv := ⟨(.int .i64), Tab.Width aT⟩) (List.Mem.head _)).int_inv
  have hl_aT_Rows : ((List.length (Tab.Rows aT) : Nat) : Int) ≤ 9223372036854775807 := (hw_aT.field (tv := ⟨(.slice (.slice (.named 1))), Tab.Rows aT⟩) (List.Mem.tail _ (List.Mem.head _))).len
  have e0 : FnExactHoldsIn aF aT = FnExactHoldsIn aF aT := rfl
  refine AW.seq ?_
  refine AW.reg hC  false [] [2, 3] [8, 12]
    ⟨[(2, .ref 8 1 0), (3, .ref 12 1 0)], [(8, .box 1 [.int .i64 (Dep.From aF), .int .i64 (Dep.To aF)]), (12, .box 1 [.int .i64 (Tab.Width aT), .data (.slice (.slice (.named 1))) ((Tab.Rows aT) : List (List Val))])]⟩
    [] (by kernel_rfl) ?_ ?_
  · exact trivial
  refine AW.seq ?_
  refine AW.reg hC  false [] [2, 3, 5] [8, 12]
    ⟨[(2, .ref 8 1 0), (3, .ref 12 1 0), (5, .int .i64 1048576)], [(8, .box 1 [.int .i64 (Dep.From aF), .int .i64 (Dep.To aF)]), (12, .box 1 [.int .i64 (Tab.Width aT), .data (.slice (.slice (.named 1))) ((Tab.Rows aT) : List (List Val))])]⟩
    [] (by kernel_rfl) ?_ ?_
  · exact trivial
  refine AW.seq ?_
  refine AW.reg hC  false [] [2, 3, 5] [8, 12]
    ⟨[(2, .ref 8 1 0), (3, .ref 12 1 0), (5, .int .i64 (szTable aT 1048576))], [(8, .box 1 [.int .i64 (Dep.From aF), .int .i64 (Dep.To aF)]), (12, .box 1 [.int .i64 (Tab.Width aT), .data (.slice (.slice (.named 1))) ((Tab.Rows aT) : List (List Val))])]⟩
    [(0 ≤ (1048576 : Int))] (by kernel_rfl) ?_ ?_
  · refine ⟨?_, trivial⟩
    ·
      first | omega | exact szTable_le (l := 1048576) (by decide) (by first | assumption | exact trivial)
  refine AW.seq ?_
  refine AW.seq ?_
  refine AW.reg hC  false [] [2, 3, 13] [8, 12]
    ⟨[(2, .ref 8 1 0), (3, .ref 12 1 0), (13, .bool (decide ((szTable aT 1048576) < 0)))], [(8, .box 1 [.int .i64 (Dep.From aF), .int .i64 (Dep.To aF)]), (12, .box 1 [.int .i64 (Tab.Width aT), .data (.slice (.slice (.named 1))) ((Tab.Rows aT) : List (List Val))])]⟩
    [] (by kernel_rfl) ?_ ?_
  · exact trivial
  refine AW.cond (b := (decide ((szTable aT 1048576) < 0))) (by kernel_rfl) ?_ ?_
  · intro h1
    have h1q : (szTable aT 1048576) < 0 := (of_decide_eq_true h1)
    have e2 := e0.trans (Go.Am.bif_t h1)
    refine AW.seq ?_
    refine AW.reg hC  false [] [4] []
      ⟨[(4, .bool true)], []⟩
      [] (by kernel_rfl) ?_ ?_
    · exact trivial
    refine AW.ret ?_
    exact AW.retE (β := Bool) (fun v => [⟨.bool, v⟩]) (fun v => []) (v := true) e2 (by kernel_rfl) rfl rfl
  · intro h3
    have h3q : ¬ ((szTable aT 1048576) < 0) := (of_decide_eq_false h3)
    have e4 := e0.trans (Go.Am.bif_f h3)
    refine AW.keep [2, 3] [8, 12] ⟨[(2, .ref 8 1 0), (3, .ref 12 1 0)], [(8, .box 1 [.int .i64 (Dep.From aF), .int .i64 (Dep.To aF)]), (12, .box 1 [.int .i64 (Tab.Width aT), .data (.slice (.slice (.named 1))) ((Tab.Rows aT) : List (List Val))])]⟩ (by kernel_rfl) ?_
    refine AW.skip ?_
    refine AW.seq ?_
    refine AW.regD hC hM  false [] [2, 3, 6] [8, 12]
      ⟨[(2, .ref 8 1 0), (3, .ref 12 1 0), (6, .bool (sHoldsIn (toDependency aF) (toTable aT)))], [(8, .box 1 [.int .i64 (Dep.From aF), .int .i64 (Dep.To aF)]), (12, .box 1 [.int .i64 (Tab.Width aT), .data (.slice (.slice (.named 1))) ((Tab.Rows aT) : List (List Val))])]⟩
      [(True), ((List.length aT.Rows : Int) ≤ 1048576 ∧ ∀ i : Nat, i < List.length aT.Rows → (List.length (List.getD aT.Rows i []) : Int) ≤ 1048576), (True)] (by kernel_rfl) ?_ ?_
    · refine ⟨?_, ?_, ?_, trivial⟩
      · trivial
      ·
        first | omega | exact szTable_le (l := 1048576) (by decide) (by first | assumption | exact trivial)
      · trivial
    refine AW.seq ?_
    refine AW.reg hC  false [] [2, 3, 6, 7] [8, 12, 28]
      ⟨[(2, .ref 8 1 0), (3, .ref 12 1 0), (6, .bool (sHoldsIn (toDependency aF) (toTable aT))), (7, .ref 28 1 0)], [(8, .box 1 [.int .i64 (Dep.From aF), .int .i64 (Dep.To aF)]), (12, .box 1 [.int .i64 (Tab.Width aT), .data (.slice (.slice (.named 1))) ((Tab.Rows aT) : List (List Val))]), (28, .box 1 [.int .i64 (Tab.Width (toTable aT)), .data (.slice (.slice (.named 1))) ((Tab.Rows (toTable aT)) : List (List Val))])]⟩
      [((List.length aT.Rows : Int) ≤ 1048576 ∧ ∀ i : Nat, i < List.length aT.Rows → (List.length (List.getD aT.Rows i []) : Int) ≤ 1048576)] (by kernel_rfl) ?_ ?_
    · refine ⟨?_, trivial⟩
      ·
        first | omega | exact szTable_le (l := 1048576) (by decide) (by first | assumption | exact trivial)
    refine AW.seq ?_
    refine AW.regD hC hM  false [] [3, 6, 7, 8] [12, 28]
      ⟨[(3, .ref 12 1 0), (6, .bool (sHoldsIn (toDependency aF) (toTable aT))), (7, .ref 28 1 0), (8, .bool (HoldsIn (toDependency aF) (toTable aT)))], [(12, .box 1 [.int .i64 (Tab.Width aT), .data (.slice (.slice (.named 1))) ((Tab.Rows aT) : List (List Val))]), (28, .box 1 [.int .i64 (Tab.Width (toTable aT)), .data (.slice (.slice (.named 1))) ((Tab.Rows (toTable aT)) : List (List Val))])]⟩
      [(True), (True)] (by kernel_rfl) ?_ ?_
    · refine ⟨?_, ?_, trivial⟩
      · trivial
      · trivial
    refine AW.seq ?_
    refine AW.seq ?_
    refine AW.reg hC  false [] [3, 7, 27] [12, 28]
      ⟨[(3, .ref 12 1 0), (7, .ref 28 1 0), (27, .bool ((HoldsIn (toDependency aF) (toTable aT)) != (sHoldsIn (toDependency aF) (toTable aT))))], [(12, .box 1 [.int .i64 (Tab.Width aT), .data (.slice (.slice (.named 1))) ((Tab.Rows aT) : List (List Val))]), (28, .box 1 [.int .i64 (Tab.Width (toTable aT)), .data (.slice (.slice (.named 1))) ((Tab.Rows (toTable aT)) : List (List Val))])]⟩
      [] (by kernel_rfl) ?_ ?_
    · exact trivial
    refine AW.cond (b := ((HoldsIn (toDependency aF) (toTable aT)) != (sHoldsIn (toDependency aF) (toTable aT)))) (by kernel_rfl) ?_ ?_
    · intro h5
      have h5q : ((HoldsIn (toDependency aF) (toTable aT)) != (sHoldsIn (toDependency aF) (toTable aT))) = true := h5
      have e6 := e4.trans (Go.Am.bif_t h5)
      refine AW.seq ?_
      refine AW.reg hC  false [] [4] []
        ⟨[(4, .bool false)], []⟩
        [] (by kernel_rfl) ?_ ?_
      · exact trivial
      refine AW.ret ?_
      exact AW.retE (β := Bool) (fun v => [⟨.bool, v⟩]) (fun v => []) (v := false) e6 (by kernel_rfl) rfl rfl
    · intro h7
      have h7q : ((HoldsIn (toDependency aF) (toTable aT)) != (sHoldsIn (toDependency aF) (toTable aT))) = false := h7
      have e8 := e4.trans (Go.Am.bif_f h7)
      refine AW.keep [3, 7] [12, 28] ⟨[(3, .ref 12 1 0), (7, .ref 28 1 0)], [(12, .box 1 [.int .i64 (Tab.Width aT), .data (.slice (.slice (.named 1))) ((Tab.Rows aT) : List (List Val))]), (28, .box 1 [.int .i64 (Tab.Width (toTable aT)), .data (.slice (.slice (.named 1))) ((Tab.Rows (toTable aT)) : List (List Val))])]⟩ (by kernel_rfl) ?_
      refine AW.skip ?_
      refine AW.seq ?_
      refine AW.seq ?_
      refine AW.regD hC hM  false [] [32] []
        ⟨[(32, .bool (!(eqTable (toTable aT) (toTable aT))))], []⟩
        [((List.length aT.Rows : Int) ≤ 1048576 ∧ ∀ i : Nat, i < List.length aT.Rows → (List.length (List.getD aT.Rows i []) : Int) ≤ 1048576), (True)] (by kernel_rfl) ?_ ?_
      · refine ⟨?_, ?_, trivial⟩
        ·
          first | omega | exact szTable_le (l := 1048576) (by decide) (by first | assumption | exact h3q)
        · trivial
      refine AW.cond (b := (!(eqTable (toTable aT) (toTable aT)))) (by kernel_rfl) ?_ ?_
      · intro h9
        have h9q : (eqTable (toTable aT) (toTable aT)) = false := (Go.Am.not_pos h9)
        have e10 := e8.trans (Go.Am.bif_t h9)
        refine AW.seq ?_
        refine AW.reg hC  false [] [4] []
          ⟨[(4, .bool false)], []⟩
          [] (by kernel_rfl) ?_ ?_
        · exact trivial
        refine AW.ret ?_
        exact AW.retE (β := Bool) (fun v => [⟨.bool, v⟩]) (fun v => []) (v := false) e10 (by kernel_rfl) rfl rfl
      · intro h11
        have h11q : (eqTable (toTable aT) (toTable aT)) = true := (Go.Am.not_neg h11)
        have e12 := e8.trans (Go.Am.bif_f h11)
        refine AW.keep [] [] ⟨[], []⟩ (by kernel_rfl) ?_
        refine AW.skip ?_
        refine AW.seq ?_
        refine AW.reg hC  false [] [4] []
          ⟨[(4, .bool true)], []⟩
          [] (by kernel_rfl) ?_ ?_
        · exact trivial
        refine AW.ret ?_
        exact AW.retE (β := Bool) (fun v => [⟨.bool, v⟩]) (fun v => []) (v := true) e12 (by kernel_rfl) rfl rfl

theorem FnExactHoldsIn_law (f : Dep) (t : Tab) : FnExactHoldsIn f t = true := by
  unfold FnExactHoldsIn
  rw [hold_eq, eqTable_refl, show (sHoldsIn (toDependency f) (toTable t) != sHoldsIn (toDependency f) (toTable t)) = false by simp]
  cases decide (szTable t 1048576 < 0) <;> rfl

end
end Go.Proofs.Ytgbmdnnojgbagaa
