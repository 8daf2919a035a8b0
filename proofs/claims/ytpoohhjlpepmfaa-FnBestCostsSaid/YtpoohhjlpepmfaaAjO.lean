/-
  A part of the proof of this claim (AjO): what functions of the program compute, and plain facts of that. No conditions.
-/
import Derived.Test.YtpoohhjlpepmfaaAjK
set_option linter.all false
namespace Go.Proofs.Ytpoohhjlpepmfaa
open Go Go.Am
noncomputable section

theorem check_l1 {g : Graph} (hV : VG g) (costs : List Int) {mask : Nat} (hm : mask < 32) : ∀ (f k p : Nat) (reached : Bool), mask - p ≤ f → mask - p < k → 1 ≤ p →
  iCheckCosts_l1 g costs mask (partsFrom (mask : Int) f (p : Int)) reached = CheckCosts_l1 g costs mask k reached p := by
 intro f
 induction f with
 | zero =>
  intro k p reached hf hk hp
  obtain ⟨k, rfl⟩ : ∃ j, k = j + 1 := ⟨k - 1, by omega⟩
  unfold CheckCosts_l1
  rw [show decide (((p : Nat) : Int) < ((mask : Nat) : Int)) = false from decide_eq_false (by omega), cond_false]
  rfl
 | succ f ih =>
  intro k p reached hf hk hp
  obtain ⟨k, rfl⟩ : ∃ j, k = j + 1 := ⟨k - 1, by omega⟩
  unfold CheckCosts_l1 partsFrom
  by_cases hlt : ((p : Nat) : Int) < ((mask : Nat) : Int)
  ·
   rw [decide_eq_true hlt, cond_true, cond_true, part_iff' (by omega) hm]
   have ih := fun r => ih k (p + 1) r (by omega) (by omega) (by omega)
   rw [show (((p + 1 : Nat)) : Int) = (p : Int) + 1 by omega] at ih
   cases hb : bits .and .i64 (p : Int) (mask : Int) != (p : Int) with
   | true => exact ih reached
   | false =>
    rw [Bool.not_false, cond_true, cond_false]
    have h0 : bits .andNot .i64 (p : Int) (mask : Int) = 0 := by
     have := part_iff' (p := p) (m := mask) (by omega) hm
     rw [hb] at this
     exact beq_iff_eq.1 this
    have hr := part_rest (m := (mask : Int)) (p := (p : Int)) (by omega) ⟨by omega, hlt, h0⟩
    unfold iCheckCosts_l1
    rw [show bits .andNot .i64 (mask : Int) (p : Int) = (mask : Int) - (p : Int) by omega, show IntKind.wrap .i64 ((mask : Int) - (p : Int)) = (mask : Int) - (p : Int) by rw [IntKind.wrap_i64]; omega, Int.toNat_natCast,
     size_eq hV (by omega) (by omega)]
    simp only [ih]
  ·
   rw [decide_eq_false hlt, cond_false, cond_false]
   rfl

theorem check_l0 {g : Graph} (hV : VG g) (costs : List Int) (hl : ((List.length costs : Nat) : Int) = gAll g + 1) : ∀ (k k' mask : Nat), 1 ≤ mask → Int.toNat (gAll g + 1 - (mask : Int)) < k → costs.length - mask < k' → iCheckCosts_l0 g costs k mask = CheckCosts_l0 g costs k' mask := by
 have hA := gAll_b hV
 intro k
 induction k with
 | zero => intro k' mask h1 h2; omega
 | succ k ih =>
  intro k' mask h1 h2 h3
  obtain ⟨k', rfl⟩ : ∃ j, k' = j + 1 := ⟨k' - 1, by omega⟩
  unfold iCheckCosts_l0 CheckCosts_l0
  by_cases hk : ((mask : Nat) : Int) ≤ gAll g
  ·
   rw [decide_eq_true hk, show decide (((mask : Nat) : Int) < ((List.length costs : Nat) : Int)) = true from decide_eq_true (by omega), cond_true, cond_true, ih k' (mask + 1) (by omega) (by omega) (by omega)]
   unfold parts
   rw [Int.toNat_natCast, show (1 : Int) = ((1 : Nat) : Int) from rfl, check_l1 hV costs (by omega) mask (mask - 1 + 1) 1 false (by omega) (by omega) (by omega)]
  ·
   rw [decide_eq_false hk, show decide (((mask : Nat) : Int) < ((List.length costs : Nat) : Int)) = false from decide_eq_false (by omega), cond_false, cond_false]

theorem CheckCosts_same (g : Graph) (costs : List Int) : iCheckCosts g costs = CheckCosts g costs := by
 unfold iCheckCosts CheckCosts
 rw [vg_eq]
 cases hv : ValidGraph g with
 | false => rfl
 | true =>
  have hV := ValidGraph_iff.1 hv
  have hA := gAll_b hV
  have hG : gAll g + 1 = 1 * 2 ^ (List.length (Graph.Rows g)) := by unfold gAll; omega
  simp only [← hG, Bool.not_true, cond_false]
  cases hl : ((List.length costs : Nat) : Int) != gAll g + 1 with
  | true => rfl
  | false =>
   have hl' : ((List.length costs : Nat) : Int) = gAll g + 1 := by simpa using hl
   simp only [cond_false]
   conv => rhs; unfold CheckCosts_l0
   rw [show decide (((0 : Nat) : Int) < ((List.length costs : Nat) : Int)) = true from decide_eq_true (by omega), cond_true]
   cases h0 : List.getD costs 0 0 != 0 with
   | true => rfl
   | false =>
    rw [cond_false, check_l0 hV costs hl' (Int.toNat (gAll g + 1 - (1 : Int)) + 1) (costs.length - 0) 1 (Nat.le_refl _) (by show Int.toNat (gAll g + 1 - ((1 : Nat) : Int)) < _; omega) (by omega)]
    rfl

def FnExactCheckCosts (aG : Graph) (aCosts : List Int) : Bool := (bif (decide (1048576 < ((List.length aCosts : Nat) : Int))) then true else (bif (decide ((szGraph aG 1048576) < 0)) then true else (bif ((iCheckCosts (toGraph aG) (toIntS aCosts)) != (CheckCosts (toGraph aG) (toIntS aCosts))) then false else (bif (!(eqGraph (toGraph aG) (toGraph aG))) then false else (bif (!(eqIntS (toIntS aCosts) (toIntS aCosts))) then false else true)))))

def FnExactCheckCosts_sp : FnSpec := mkSpec [.val (.named 1), .val (.slice (.int .i64))] [.val .bool] (fun (aG : Graph) (aCosts : List Int) => True) (fun (aG : Graph) (aCosts : List Int) => [⟨.bool, (FnExactCheckCosts aG aCosts)⟩])

theorem FnExactCheckCosts_ok : FnOK Try.prog 6 FnExactCheckCosts_sp := by
 have hC : CtxOK Try.prog (mkCtx tyL [(18, szGraph_sp), (19, toGraph_sp), (20, eqGraph_sp), (27, CheckCosts_sp), (28, toIntS_sp), (29, iCheckCosts_sp), (30, eqIntS_sp)]) := CtxOK.cons szGraph_ok (CtxOK.cons toGraph_ok (CtxOK.cons eqGraph_ok (CtxOK.cons CheckCosts_ok (CtxOK.cons toIntS_ok (CtxOK.cons iCheckCosts_ok (CtxOK.cons eqIntS_ok (CtxOK.nil tyOK)))))))
 have hM : Try.prog.follows .mixedOrders = true := Try.checked.mixed
 refine FnOK.of_body Try.func6 (by kernel_rfl) rfl (C := (mkCtx tyL [(18, szGraph_sp), (19, toGraph_sp), (20, eqGraph_sp), (27, CheckCosts_sp), (28, toIntS_sp), (29, iCheckCosts_sp), (30, eqIntS_sp)])) hC.ty (by kernel_rfl) ?_
 intro (aG : Graph) (aCosts : List Int) hwf hpre E
 have hpre : True := hpre
 have hw_aG : Wf ⟨(.named 1), (aG : Graph)⟩ := hwf _ (List.Mem.head _)
 have hl_aG_Rows : ((List.length (Graph.Rows aG) : Nat) : Int) ≤ 9223372036854775807 := (hw_aG.field (tv := ⟨(.slice (.int .i64)), Graph.Rows aG⟩) (List.Mem.head _)).len
 have hl_aG_Edges : ((List.length (Graph.Edges aG) : Nat) : Int) ≤ 9223372036854775807 := (hw_aG.field (tv := ⟨(.slice (.named 0)), Graph.Edges aG⟩) (List.Mem.tail _ (List.Mem.head _))).len
 have hw_aCosts : Wf ⟨(.slice (.int .i64)), (aCosts : List Int)⟩ := hwf _ (List.Mem.tail _ (List.Mem.head _))
 have hl_aCosts : ((List.length aCosts : Nat) : Int) ≤ 9223372036854775807 := hw_aCosts.len
 have e0 : FnExactCheckCosts aG aCosts = FnExactCheckCosts aG aCosts := rfl
 refine AW.seq (AW.r1 hC [1, 2] [8] ⟨[(1, .data (.slice (.int .i64)) (aCosts : List Int)), (2, .ref 8 1 0)], [(8, .box 1 [.data (.slice (.int .i64)) ((Graph.Rows aG) : List Int), .data (.slice (.named 0)) ((Graph.Edges aG) : List Edge)])]⟩ ?_)
 refine AW.seq (AW.seq (AW.r1 hC [1, 2, 12] [8] ⟨[(1, .data (.slice (.int .i64)) (aCosts : List Int)), (2, .ref 8 1 0), (12, .bool (decide (1048576 < ((List.length aCosts : Nat) : Int))))], [(8, .box 1 [.data (.slice (.int .i64)) ((Graph.Rows aG) : List Int), .data (.slice (.named 0)) ((Graph.Edges aG) : List Edge)])]⟩ ?_))
 refine AW.cd (decide (1048576 < ((List.length aCosts : Nat) : Int))) ?_ ?_
 ·
  intro h1
  have h1q : 1048576 < ((List.length aCosts : Nat) : Int) := (of_decide_eq_true h1)
  have e2 := e0.trans (Go.Am.bif_t h1)
  refine AW.seq (AW.r1 hC [4] [] ⟨[(4, .bool true)], []⟩ ?_)
  exact AW.ret (AW.retE (β := Bool) (fun v => [⟨.bool, v⟩]) (fun v => []) (v := true) e2 (by kernel_rfl) rfl rfl)
 ·
  intro h3
  have h3q : ¬ (1048576 < ((List.length aCosts : Nat) : Int)) := (of_decide_eq_false h3)
  have e4 := e0.trans (Go.Am.bif_f h3)
  refine AW.kp [1, 2] [8] ⟨[(1, .data (.slice (.int .i64)) (aCosts : List Int)), (2, .ref 8 1 0)], [(8, .box 1 [.data (.slice (.int .i64)) ((Graph.Rows aG) : List Int), .data (.slice (.named 0)) ((Graph.Edges aG) : List Edge)])]⟩ ?_
  refine AW.skip (AW.seq (AW.r1 hC [1, 2, 5] [8] ⟨[(1, .data (.slice (.int .i64)) (aCosts : List Int)), (2, .ref 8 1 0), (5, .int .i64 1048576)], [(8, .box 1 [.data (.slice (.int .i64)) ((Graph.Rows aG) : List Int), .data (.slice (.named 0)) ((Graph.Edges aG) : List Edge)])]⟩ ?_))
  refine AW.seq (AW.r0 hC [1, 2, 5] [8] ⟨[(1, .data (.slice (.int .i64)) (aCosts : List Int)), (2, .ref 8 1 0), (5, .int .i64 (szGraph aG 1048576))], [(8, .box 1 [.data (.slice (.int .i64)) ((Graph.Rows aG) : List Int), .data (.slice (.named 0)) ((Graph.Edges aG) : List Edge)])]⟩ [(0 ≤ (1048576 : Int))] ?_ ?_)
  ·
   refine ⟨?_, trivial⟩
   ·
    first | omega | exact szGraph_le (by assumption)
  refine AW.seq (AW.seq (AW.r1 hC [1, 2, 17] [8] ⟨[(1, .data (.slice (.int .i64)) (aCosts : List Int)), (2, .ref 8 1 0), (17, .bool (decide ((szGraph aG 1048576) < 0)))], [(8, .box 1 [.data (.slice (.int .i64)) ((Graph.Rows aG) : List Int), .data (.slice (.named 0)) ((Graph.Edges aG) : List Edge)])]⟩ ?_))
  refine AW.cd (decide ((szGraph aG 1048576) < 0)) ?_ ?_
  ·
   intro h5
   have h5q : (szGraph aG 1048576) < 0 := (of_decide_eq_true h5)
   have e6 := e4.trans (Go.Am.bif_t h5)
   refine AW.seq (AW.r1 hC [4] [] ⟨[(4, .bool true)], []⟩ ?_)
   exact AW.ret (AW.retE (β := Bool) (fun v => [⟨.bool, v⟩]) (fun v => []) (v := true) e6 (by kernel_rfl) rfl rfl)
  ·
   intro h7
   have h7q : ¬ ((szGraph aG 1048576) < 0) := (of_decide_eq_false h7)
   have e8 := e4.trans (Go.Am.bif_f h7)
   refine AW.kp [1, 2] [8] ⟨[(1, .data (.slice (.int .i64)) (aCosts : List Int)), (2, .ref 8 1 0)], [(8, .box 1 [.data (.slice (.int .i64)) ((Graph.Rows aG) : List Int), .data (.slice (.named 0)) ((Graph.Edges aG) : List Edge)])]⟩ ?_
   refine AW.skip (AW.seq (AW.r0 hC [1, 2, 6] [8] ⟨[(1, .data (.slice (.int .i64)) (aCosts : List Int)), (2, .ref 8 1 0), (6, .bool (CheckCosts (toGraph aG) (toIntS aCosts)))], [(8, .box 1 [.data (.slice (.int .i64)) ((Graph.Rows aG) : List Int), .data (.slice (.named 0)) ((Graph.Edges aG) : List Edge)])]⟩ [((List.length aG.Rows : Int) ≤ 1048576 ∧ (List.length aG.Edges : Int) ≤ 1048576), ((List.length aCosts : Int) ≤ 1048576), (True)] ?_ ?_))
   ·
    refine ⟨?_, ?_, ?_, trivial⟩
    ·
     first | omega | exact szGraph_le (by assumption)
    ·
     first | omega | exact szGraph_le (by assumption)
    ·
     trivial
   refine AW.seq (AW.r0 hC [1, 2, 6, 7] [8, 28] ⟨[(1, .data (.slice (.int .i64)) (aCosts : List Int)), (2, .ref 8 1 0), (6, .bool (CheckCosts (toGraph aG) (toIntS aCosts))), (7, .ref 28 1 0)], [(8, .box 1 [.data (.slice (.int .i64)) ((Graph.Rows aG) : List Int), .data (.slice (.named 0)) ((Graph.Edges aG) : List Edge)]), (28, .box 1 [.data (.slice (.int .i64)) ((Graph.Rows (toGraph aG)) : List Int), .data (.slice (.named 0)) ((Graph.Edges (toGraph aG)) : List Edge)])]⟩ [((List.length aG.Rows : Int) ≤ 1048576 ∧ (List.length aG.Edges : Int) ≤ 1048576)] ?_ ?_)
   ·
    refine ⟨?_, trivial⟩
    ·
     first | omega | exact szGraph_le (by assumption)
   refine AW.seq (AW.r0 hC [1, 2, 6, 7, 8] [8, 28, 104] ⟨[(1, .data (.slice (.int .i64)) (aCosts : List Int)), (2, .ref 8 1 0), (6, .bool (CheckCosts (toGraph aG) (toIntS aCosts))), (7, .ref 28 1 0), (8, .arr 104 1)], [(8, .box 1 [.data (.slice (.int .i64)) ((Graph.Rows aG) : List Int), .data (.slice (.named 0)) ((Graph.Edges aG) : List Edge)]), (28, .box 1 [.data (.slice (.int .i64)) ((Graph.Rows (toGraph aG)) : List Int), .data (.slice (.named 0)) ((Graph.Edges (toGraph aG)) : List Edge)]), (104, .arr 1 (.int .i64) ((toIntS aCosts) : List Int))]⟩ [((List.length aCosts : Int) ≤ 1048576)] ?_ ?_)
   ·
    refine ⟨?_, trivial⟩
    ·
     first | omega | exact szGraph_le (by assumption)
   refine AW.seq (AW.r0 hC [1, 2, 6, 7, 8, 9] [8, 28, 104] ⟨[(1, .data (.slice (.int .i64)) (aCosts : List Int)), (2, .ref 8 1 0), (6, .bool (CheckCosts (toGraph aG) (toIntS aCosts))), (7, .ref 28 1 0), (8, .arr 104 1), (9, .bool (iCheckCosts (toGraph aG) (toIntS aCosts)))], [(8, .box 1 [.data (.slice (.int .i64)) ((Graph.Rows aG) : List Int), .data (.slice (.named 0)) ((Graph.Edges aG) : List Edge)]), (28, .box 1 [.data (.slice (.int .i64)) ((Graph.Rows (toGraph aG)) : List Int), .data (.slice (.named 0)) ((Graph.Edges (toGraph aG)) : List Edge)]), (104, .arr 1 (.int .i64) ((toIntS aCosts) : List Int))]⟩ [(True)] ?_ ?_)
   ·
    refine ⟨?_, trivial⟩
    ·
     trivial
   refine AW.seq (AW.seq (AW.r1 hC [1, 2, 7, 8, 32] [8, 28, 104] ⟨[(1, .data (.slice (.int .i64)) (aCosts : List Int)), (2, .ref 8 1 0), (7, .ref 28 1 0), (8, .arr 104 1), (32, .bool ((iCheckCosts (toGraph aG) (toIntS aCosts)) != (CheckCosts (toGraph aG) (toIntS aCosts))))], [(8, .box 1 [.data (.slice (.int .i64)) ((Graph.Rows aG) : List Int), .data (.slice (.named 0)) ((Graph.Edges aG) : List Edge)]), (28, .box 1 [.data (.slice (.int .i64)) ((Graph.Rows (toGraph aG)) : List Int), .data (.slice (.named 0)) ((Graph.Edges (toGraph aG)) : List Edge)]), (104, .arr 1 (.int .i64) ((toIntS aCosts) : List Int))]⟩ ?_))
   refine AW.cd ((iCheckCosts (toGraph aG) (toIntS aCosts)) != (CheckCosts (toGraph aG) (toIntS aCosts))) ?_ ?_
   ·
    intro h9
    have h9q : ((iCheckCosts (toGraph aG) (toIntS aCosts)) != (CheckCosts (toGraph aG) (toIntS aCosts))) = true := h9
    have e10 := e8.trans (Go.Am.bif_t h9)
    refine AW.seq (AW.r1 hC [4] [] ⟨[(4, .bool false)], []⟩ ?_)
    exact AW.ret (AW.retE (β := Bool) (fun v => [⟨.bool, v⟩]) (fun v => []) (v := false) e10 (by kernel_rfl) rfl rfl)
   ·
    intro h11
    have h11q : ((iCheckCosts (toGraph aG) (toIntS aCosts)) != (CheckCosts (toGraph aG) (toIntS aCosts))) = false := h11
    have e12 := e8.trans (Go.Am.bif_f h11)
    refine AW.kp [1, 2, 7, 8] [8, 28, 104] ⟨[(1, .data (.slice (.int .i64)) (aCosts : List Int)), (2, .ref 8 1 0), (7, .ref 28 1 0), (8, .arr 104 1)], [(8, .box 1 [.data (.slice (.int .i64)) ((Graph.Rows aG) : List Int), .data (.slice (.named 0)) ((Graph.Edges aG) : List Edge)]), (28, .box 1 [.data (.slice (.int .i64)) ((Graph.Rows (toGraph aG)) : List Int), .data (.slice (.named 0)) ((Graph.Edges (toGraph aG)) : List Edge)]), (104, .arr 1 (.int .i64) ((toIntS aCosts) : List Int))]⟩ ?_
    refine AW.skip (AW.seq (AW.seq (AW.d0 hC hM [1, 8, 37] [104] ⟨[(1, .data (.slice (.int .i64)) (aCosts : List Int)), (8, .arr 104 1), (37, .bool (!(eqGraph (toGraph aG) (toGraph aG))))], [(104, .arr 1 (.int .i64) ((toIntS aCosts) : List Int))]⟩ [((List.length aG.Rows : Int) ≤ 1048576 ∧ (List.length aG.Edges : Int) ≤ 1048576), (True)] ?_ ?_)))
    ·
     refine ⟨?_, ?_, trivial⟩
     ·
      first | omega | exact szGraph_le (by assumption)
     ·
      trivial
    refine AW.cd (!(eqGraph (toGraph aG) (toGraph aG))) ?_ ?_
    ·
     intro h13
     have h13q : (eqGraph (toGraph aG) (toGraph aG)) = false := (Go.Am.not_pos h13)
     have e14 := e12.trans (Go.Am.bif_t h13)
     refine AW.seq (AW.r1 hC [4] [] ⟨[(4, .bool false)], []⟩ ?_)
     exact AW.ret (AW.retE (β := Bool) (fun v => [⟨.bool, v⟩]) (fun v => []) (v := false) e14 (by kernel_rfl) rfl rfl)
    ·
     intro h15
     have h15q : (eqGraph (toGraph aG) (toGraph aG)) = true := (Go.Am.not_neg h15)
     have e16 := e12.trans (Go.Am.bif_f h15)
     refine AW.kp [1, 8] [104] ⟨[(1, .data (.slice (.int .i64)) (aCosts : List Int)), (8, .arr 104 1)], [(104, .arr 1 (.int .i64) ((toIntS aCosts) : List Int))]⟩ ?_
     refine AW.skip (AW.seq (AW.seq (AW.r0 hC [42] [] ⟨[(42, .bool (!(eqIntS (toIntS aCosts) (toIntS aCosts))))], []⟩ [((List.length aCosts : Int) ≤ 1048576), (True)] ?_ ?_)))
     ·
      refine ⟨?_, ?_, trivial⟩
      ·
       first | omega | exact szGraph_le (by assumption)
      ·
       trivial
     refine AW.cd (!(eqIntS (toIntS aCosts) (toIntS aCosts))) ?_ ?_
     ·
      intro h17
      have h17q : (eqIntS (toIntS aCosts) (toIntS aCosts)) = false := (Go.Am.not_pos h17)
      have e18 := e16.trans (Go.Am.bif_t h17)
      refine AW.seq (AW.r1 hC [4] [] ⟨[(4, .bool false)], []⟩ ?_)
      exact AW.ret (AW.retE (β := Bool) (fun v => [⟨.bool, v⟩]) (fun v => []) (v := false) e18 (by kernel_rfl) rfl rfl)
     ·
      intro h19
      have h19q : (eqIntS (toIntS aCosts) (toIntS aCosts)) = true := (Go.Am.not_neg h19)
      have e20 := e16.trans (Go.Am.bif_f h19)
      refine AW.kp [] [] ⟨[], []⟩ ?_
      refine AW.skip (AW.seq (AW.r1 hC [4] [] ⟨[(4, .bool true)], []⟩ ?_))
      exact AW.ret (AW.retE (β := Bool) (fun v => [⟨.bool, v⟩]) (fun v => []) (v := true) e20 (by kernel_rfl) rfl rfl)

theorem FnExactCheckCosts_law (g : Graph) (costs : List Int) : FnExactCheckCosts g costs = true := by
 unfold FnExactCheckCosts
 rw [CheckCosts_same, eqGraph_self, eqIntS_self]
 simp

end
end Go.Proofs.Ytpoohhjlpepmfaa
