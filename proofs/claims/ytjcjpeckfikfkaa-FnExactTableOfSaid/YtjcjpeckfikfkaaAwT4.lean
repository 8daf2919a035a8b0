/-
  A part of the proof of this claim (AwT4): what functions of the program compute, and plain facts of that. No conditions.
-/
import Derived.Test.YtjcjpeckfikfkaaAwT3
import Derived.Test.YtjcjpeckfikfkaaAwF
import Derived.Test.YtjcjpeckfikfkaaAnL
set_option linter.all false
namespace Go.Proofs.Ytjcjpeckfikfkaa
open Go Go.Am
noncomputable section

theorem szSS_le {a : List (List Val)} : ∀ (k : Nat) (l : Int) (i : Nat), 0 ≤ l → a.length - i < k → ¬ Sum.elim (fun z => z) (fun r => r) (szValueSS_l0 a k l i) < 0 → ∀ j, i ≤ j → j < a.length → (List.length (List.getD a j []) : Int) ≤ l := by
 intro k
 induction k with
 | zero => intro l i _ h; omega
 | succ k ih =>
  intro l i hl hk h j hj hn
  unfold szValueSS_l0 at h
  by_cases hi : i < a.length
  ·
   rw [lt_dec hi, cond_true] at h
   by_cases h1 : szValueS (a.getD i []) l < 0
   ·
    rw [decide_eq_true h1, cond_true] at h
    exact absurd (by decide) h
   ·
    rw [decide_eq_false h1, cond_false] at h
    have h2 := szValueS_ge (a := a.getD i []) hl
    rcases Nat.eq_or_lt_of_le hj with rfl | hj
    ·
     unfold szValueS at h1
     by_cases e : l - ((List.length (a.getD i []) : Nat) : Int) < 0
     ·
      rw [decide_eq_true e, cond_true] at h1
      exact absurd (by decide) h1
     ·
      omega
    ·
     have := ih _ (i + 1) (by omega) (by omega) h j hj hn
     omega
  ·
   omega

theorem szSS_fit {a : List (List Val)} (h : ¬ szValueSS a 1048576 < 0) : (List.length a : Int) ≤ 1048576 ∧ ∀ i : Nat, i < List.length a → (List.length (List.getD a i []) : Int) ≤ 1048576 := by
 unfold szValueSS at h
 by_cases e : (1048576 : Int) - ((List.length a : Nat) : Int) < 0
 ·
  rw [decide_eq_true e, cond_true] at h
  exact absurd (by decide) h
 ·
  rw [decide_eq_false e, cond_false] at h
  refine ⟨by omega, fun i hi => ?_⟩
  have := szSS_le _ _ 0 (by omega) (by omega) h i (by omega) hi
  omega

def FnExactTableOf (aWidth : Int) (aRows : List (List Val)) : Bool := (bif (decide ((szValueSS aRows 1048576) < 0)) then true else (bif (bif (!(eqTable ((iTableOf aWidth (toValueSS aRows)).1) ((sTableOf aWidth (toValueSS aRows)).1))) then true else (((iTableOf aWidth (toValueSS aRows)).2) != ((sTableOf aWidth (toValueSS aRows)).2))) then false else (bif (!(eqValueSS (toValueSS aRows) (toValueSS aRows))) then false else (bif (bif (bif (decide ((markValueSS (toValueSS aRows) 1).2 < 0)) then true else (!(eqTable ((iTableOf aWidth (toValueSS aRows)).1) ((sTableOf aWidth (toValueSS aRows)).1)))) then true else (((iTableOf aWidth (toValueSS aRows)).2) != ((sTableOf aWidth (toValueSS aRows)).2))) then false else (bif (decide ((heldTable (Tab.mk (Tab.Width ((iTableOf aWidth (toValueSS aRows)).1)) ((markValueSS (Tab.Rows ((iTableOf aWidth (toValueSS aRows)).1)) 1).1)) 1) < 0)) then false else (bif ((heldTable (Tab.mk (Tab.Width ((iTableOf aWidth (toValueSS aRows)).1)) ((markValueSS (Tab.Rows ((iTableOf aWidth (toValueSS aRows)).1)) 1).1)) 1) != (markValueSS (Tab.Rows ((iTableOf aWidth (toValueSS aRows)).1)) 1).2) then false else (bif (bif (!(eqTable ((iTableOf aWidth (toValueSS aRows)).1) ((sTableOf aWidth (toValueSS aRows)).1))) then true else (((iTableOf aWidth (toValueSS aRows)).2) != ((sTableOf aWidth (toValueSS aRows)).2))) then false else (bif (decide ((heldTable (Tab.mk (Tab.Width ((iTableOf aWidth (toValueSS aRows)).1)) ((markValueSS (Tab.Rows ((iTableOf aWidth (toValueSS aRows)).1)) 1).1)) 1) < 0)) then false else (bif ((heldTable (Tab.mk (Tab.Width ((iTableOf aWidth (toValueSS aRows)).1)) ((markValueSS (Tab.Rows ((iTableOf aWidth (toValueSS aRows)).1)) 1).1)) 1) != (markValueSS (Tab.Rows ((iTableOf aWidth (toValueSS aRows)).1)) 1).2) then false else true)))))))))

def FnExactTableOf_sp : FnSpec := mkSpec [.val (.int .i64), .val (.slice (.slice (.named 1)))] [.val .bool] (fun (aWidth : Int) (aRows : List (List Val)) => True) (fun (aWidth : Int) (aRows : List (List Val)) => [⟨.bool, (FnExactTableOf aWidth aRows)⟩])

theorem FnExactTableOf_ok : FnOK Try.prog 4 FnExactTableOf_sp := by
 have hC : CtxOK Try.prog (mkCtx tyL [(16, iTableOfO_sp), (17, sTableOf_sp), (20, szValueSS_sp), (21, toValueSS_sp), (22, eqTable_sp), (23, eqValueSS_sp), (26, heldTable_sp)]) := CtxOK.cons iTableOfO_ok (CtxOK.cons sTableOf_ok (CtxOK.cons szValueSS_ok (CtxOK.cons toValueSS_ok (CtxOK.cons eqTable_ok (CtxOK.cons eqValueSS_ok (CtxOK.cons heldTable_ok (CtxOK.nil tyOK)))))))
 have hC1 := hC.rebase 1000
 refine FnOK.of_body Try.func4 (by kernel_rfl) rfl (C := (mkCtx tyL [(16, iTableOfO_sp), (17, sTableOf_sp), (20, szValueSS_sp), (21, toValueSS_sp), (22, eqTable_sp), (23, eqValueSS_sp), (26, heldTable_sp)])) hC.ty (by kernel_rfl) ?_
 intro (aWidth : Int) (aRows : List (List Val)) hwf hpre E
 have hpre : True := hpre
 have hw_aWidth : Wf ⟨(.int .i64), (aWidth : Int)⟩ := hwf _ (List.Mem.head _)
 have hr_aWidth : -9223372036854775808 ≤ aWidth ∧ aWidth ≤ 9223372036854775807 := hw_aWidth.int_inv
 have hw_aRows : Wf ⟨(.slice (.slice (.named 1))), (aRows : List (List Val))⟩ := hwf _ (List.Mem.tail _ (List.Mem.head _))
 have hl_aRows : ((List.length aRows : Nat) : Int) ≤ 9223372036854775807 := hw_aRows.len
 have e0 : FnExactTableOf aWidth aRows = FnExactTableOf aWidth aRows := rfl
 refine AW.seq (AW.r1 hC [0, 1] [] ⟨[(0, .int .i64 aWidth), (1, .data (.slice (.slice (.named 1))) (aRows : List (List Val)))], []⟩ ?_)
 refine AW.seq (AW.r1 hC [0, 1, 5] [] ⟨[(0, .int .i64 aWidth), (1, .data (.slice (.slice (.named 1))) (aRows : List (List Val))), (5, .int .i64 1048576)], []⟩ ?_)
 refine AW.seq (AW.r0 hC [0, 1, 5] [] ⟨[(0, .int .i64 aWidth), (1, .data (.slice (.slice (.named 1))) (aRows : List (List Val))), (5, .int .i64 (szValueSS aRows 1048576))], []⟩ [(0 ≤ (1048576 : Int))] ?_ ?_)
 ·
  refine ⟨?_, trivial⟩
  ·
   omega
 refine AW.seq (AW.seq (AW.r1 hC [0, 1, 20] [] ⟨[(0, .int .i64 aWidth), (1, .data (.slice (.slice (.named 1))) (aRows : List (List Val))), (20, .bool (decide ((szValueSS aRows 1048576) < 0)))], []⟩ ?_))
 refine AW.cd (decide ((szValueSS aRows 1048576) < 0)) ?_ ?_
 ·
  intro h1
  have h1q : (szValueSS aRows 1048576) < 0 := (of_decide_eq_true h1)
  have e2 := e0.trans (Go.Am.bif_t h1)
  refine AW.seq (AW.r1 hC [4] [] ⟨[(4, .bool true)], []⟩ ?_)
  exact AW.ret (AW.retE (β := Bool) (fun v => [⟨.bool, v⟩]) (fun v => []) (v := true) e2 (by kernel_rfl) rfl rfl)
 ·
  intro h3
  have h3q : ¬ ((szValueSS aRows 1048576) < 0) := (of_decide_eq_false h3)
  have e4 := e0.trans (Go.Am.bif_f h3)
  refine AW.kp [0, 1] [] ⟨[(0, .int .i64 aWidth), (1, .data (.slice (.slice (.named 1))) (aRows : List (List Val)))], []⟩ ?_
  refine AW.skip (AW.seq (AW.r0 hC [0, 1, 6, 7] [24] ⟨[(0, .int .i64 aWidth), (1, .data (.slice (.slice (.named 1))) (aRows : List (List Val))), (6, .ref 24 1 0), (7, .bool ((sTableOf aWidth (toValueSS aRows)).2))], [(24, .box 1 [.int .i64 (Tab.Width ((sTableOf aWidth (toValueSS aRows)).1)), .data (.slice (.slice (.named 1))) ((Tab.Rows ((sTableOf aWidth (toValueSS aRows)).1)) : List (List Val))])]⟩ [((List.length aRows : Int) ≤ 1048576 ∧ ∀ i : Nat, i < List.length aRows → (List.length (List.getD aRows i []) : Int) ≤ 1048576), (True)] ?_ ?_))
  ·
   refine ⟨?_, ?_, trivial⟩
   ·
    exact szSS_fit h3q
   ·
    trivial
  refine AW.seq (AW.r0 hC [0, 1, 6, 7, 8] [24, 116] ⟨[(0, .int .i64 aWidth), (1, .data (.slice (.slice (.named 1))) (aRows : List (List Val))), (6, .ref 24 1 0), (7, .bool ((sTableOf aWidth (toValueSS aRows)).2)), (8, .tr 116 1)], [(24, .box 1 [.int .i64 (Tab.Width ((sTableOf aWidth (toValueSS aRows)).1)), .data (.slice (.slice (.named 1))) ((Tab.Rows ((sTableOf aWidth (toValueSS aRows)).1)) : List (List Val))]), (116, .tree 1 (.slice (.named 1)) ((toValueSS aRows) : List (List Val)))]⟩ [((List.length aRows : Int) ≤ 1048576 ∧ ∀ i : Nat, i < List.length aRows → (List.length (List.getD aRows i []) : Int) ≤ 1048576)] ?_ ?_)
  ·
   refine ⟨?_, trivial⟩
   ·
    exact szSS_fit h3q
  refine AW.seq (AW.r0 hC [0, 1, 6, 7, 8, 9, 10] [24, 36, 116, 132] ⟨[(0, .int .i64 aWidth), (1, .data (.slice (.slice (.named 1))) (aRows : List (List Val))), (6, .ref 24 1 0), (7, .bool ((sTableOf aWidth (toValueSS aRows)).2)), (8, .tr 116 1), (9, .ref 36 1 0), (10, .bool ((iTableOf aWidth (toValueSS aRows)).2))], [(24, .box 1 [.int .i64 (Tab.Width ((sTableOf aWidth (toValueSS aRows)).1)), .data (.slice (.slice (.named 1))) ((Tab.Rows ((sTableOf aWidth (toValueSS aRows)).1)) : List (List Val))]), (36, .box 1 [.int .i64 (Tab.Width ((iTableOf aWidth (toValueSS aRows)).1)), .tr 132 1]), (116, .tree 1 (.slice (.named 1)) ((toValueSS aRows) : List (List Val))), (132, .tree 1 (.slice (.named 1)) ((Tab.Rows ((iTableOf aWidth (toValueSS aRows)).1)) : List (List Val)))]⟩ [(True)] ?_ ?_)
  ·
   refine ⟨?_, trivial⟩
   ·
    trivial
  refine AW.seq (AW.seq (AW.r0 hC [0, 1, 6, 7, 8, 9, 10, 44] [24, 36, 116, 132] ⟨[(0, .int .i64 aWidth), (1, .data (.slice (.slice (.named 1))) (aRows : List (List Val))), (6, .ref 24 1 0), (7, .bool ((sTableOf aWidth (toValueSS aRows)).2)), (8, .tr 116 1), (9, .ref 36 1 0), (10, .bool ((iTableOf aWidth (toValueSS aRows)).2)), (44, .bool (bif (!(eqTable ((iTableOf aWidth (toValueSS aRows)).1) ((sTableOf aWidth (toValueSS aRows)).1))) then true else (((iTableOf aWidth (toValueSS aRows)).2) != ((sTableOf aWidth (toValueSS aRows)).2))))], [(24, .box 1 [.int .i64 (Tab.Width ((sTableOf aWidth (toValueSS aRows)).1)), .data (.slice (.slice (.named 1))) ((Tab.Rows ((sTableOf aWidth (toValueSS aRows)).1)) : List (List Val))]), (36, .box 1 [.int .i64 (Tab.Width ((iTableOf aWidth (toValueSS aRows)).1)), .tr 132 1]), (116, .tree 1 (.slice (.named 1)) ((toValueSS aRows) : List (List Val))), (132, .tree 1 (.slice (.named 1)) ((Tab.Rows ((iTableOf aWidth (toValueSS aRows)).1)) : List (List Val)))]⟩ [(True), (((!(eqTable ((iTableOf aWidth (toValueSS aRows)).1) ((sTableOf aWidth (toValueSS aRows)).1))) = false) → (((!(eqTable ((iTableOf aWidth (toValueSS aRows)).1) ((sTableOf aWidth (toValueSS aRows)).1))) = false))), (((!(eqTable ((iTableOf aWidth (toValueSS aRows)).1) ((sTableOf aWidth (toValueSS aRows)).1))) = false) → (((!(eqTable ((iTableOf aWidth (toValueSS aRows)).1) ((sTableOf aWidth (toValueSS aRows)).1))) = false))), (((!(eqTable ((iTableOf aWidth (toValueSS aRows)).1) ((sTableOf aWidth (toValueSS aRows)).1))) = false) → (((!(eqTable ((iTableOf aWidth (toValueSS aRows)).1) ((sTableOf aWidth (toValueSS aRows)).1))) = false)))] ?_ ?_))
  ·
   refine ⟨?_, ?_, ?_, ?_, trivial⟩
   ·
    trivial
   ·
    intro g5
    have g5p0 : (eqTable ((iTableOf aWidth (toValueSS aRows)).1) ((sTableOf aWidth (toValueSS aRows)).1)) = true := (Go.Am.not_neg g5)
    assumption
   ·
    intro g6
    have g6p0 : (eqTable ((iTableOf aWidth (toValueSS aRows)).1) ((sTableOf aWidth (toValueSS aRows)).1)) = true := (Go.Am.not_neg g6)
    assumption
   ·
    intro g7
    have g7p0 : (eqTable ((iTableOf aWidth (toValueSS aRows)).1) ((sTableOf aWidth (toValueSS aRows)).1)) = true := (Go.Am.not_neg g7)
    assumption
  refine AW.cd (bif (!(eqTable ((iTableOf aWidth (toValueSS aRows)).1) ((sTableOf aWidth (toValueSS aRows)).1))) then true else (((iTableOf aWidth (toValueSS aRows)).2) != ((sTableOf aWidth (toValueSS aRows)).2))) ?_ ?_
  ·
   intro h8
   have h8q : ((eqTable ((iTableOf aWidth (toValueSS aRows)).1) ((sTableOf aWidth (toValueSS aRows)).1)) = false) ∨ ((((iTableOf aWidth (toValueSS aRows)).2) != ((sTableOf aWidth (toValueSS aRows)).2)) = true) := (Or.imp (fun h => (Go.Am.not_pos h)) (fun h => h) (Go.Am.or_pos h8))
   have e9 := e4.trans (Go.Am.bif_t h8)
   refine AW.seq (AW.r1 hC [4] [] ⟨[(4, .bool false)], []⟩ ?_)
   exact AW.ret (AW.retE (β := Bool) (fun v => [⟨.bool, v⟩]) (fun v => []) (v := false) e9 (by kernel_rfl) rfl rfl)
  ·
   intro h10
   have h10q : ((eqTable ((iTableOf aWidth (toValueSS aRows)).1) ((sTableOf aWidth (toValueSS aRows)).1)) = true) ∧ ((((iTableOf aWidth (toValueSS aRows)).2) != ((sTableOf aWidth (toValueSS aRows)).2)) = false) := (And.imp (fun h => (Go.Am.not_neg h)) (fun h => h) (Go.Am.or_neg h10))
   have e11 := e4.trans (Go.Am.bif_f h10)
   refine AW.kp [0, 1, 6, 7, 8, 9, 10] [24, 36, 116, 132] ⟨[(0, .int .i64 aWidth), (1, .data (.slice (.slice (.named 1))) (aRows : List (List Val))), (6, .ref 24 1 0), (7, .bool ((sTableOf aWidth (toValueSS aRows)).2)), (8, .tr 116 1), (9, .ref 36 1 0), (10, .bool ((iTableOf aWidth (toValueSS aRows)).2))], [(24, .box 1 [.int .i64 (Tab.Width ((sTableOf aWidth (toValueSS aRows)).1)), .data (.slice (.slice (.named 1))) ((Tab.Rows ((sTableOf aWidth (toValueSS aRows)).1)) : List (List Val))]), (36, .box 1 [.int .i64 (Tab.Width ((iTableOf aWidth (toValueSS aRows)).1)), .tr 132 1]), (116, .tree 1 (.slice (.named 1)) ((toValueSS aRows) : List (List Val))), (132, .tree 1 (.slice (.named 1)) ((Tab.Rows ((iTableOf aWidth (toValueSS aRows)).1)) : List (List Val)))]⟩ ?_
   refine AW.skip (AW.seq (AW.seq (AW.r0 hC [0, 1, 6, 7, 8, 9, 10, 49] [24, 36, 116, 132] ⟨[(0, .int .i64 aWidth), (1, .data (.slice (.slice (.named 1))) (aRows : List (List Val))), (6, .ref 24 1 0), (7, .bool ((sTableOf aWidth (toValueSS aRows)).2)), (8, .tr 116 1), (9, .ref 36 1 0), (10, .bool ((iTableOf aWidth (toValueSS aRows)).2)), (49, .bool (!(eqValueSS (toValueSS aRows) (toValueSS aRows))))], [(24, .box 1 [.int .i64 (Tab.Width ((sTableOf aWidth (toValueSS aRows)).1)), .data (.slice (.slice (.named 1))) ((Tab.Rows ((sTableOf aWidth (toValueSS aRows)).1)) : List (List Val))]), (36, .box 1 [.int .i64 (Tab.Width ((iTableOf aWidth (toValueSS aRows)).1)), .tr 132 1]), (116, .tree 1 (.slice (.named 1)) ((toValueSS aRows) : List (List Val))), (132, .tree 1 (.slice (.named 1)) ((Tab.Rows ((iTableOf aWidth (toValueSS aRows)).1)) : List (List Val)))]⟩ [((List.length aRows : Int) ≤ 1048576 ∧ ∀ i : Nat, i < List.length aRows → (List.length (List.getD aRows i []) : Int) ≤ 1048576), (True)] ?_ ?_)))
   ·
    refine ⟨?_, ?_, trivial⟩
    ·
     exact szSS_fit h3q
    ·
     trivial
   refine AW.cd (!(eqValueSS (toValueSS aRows) (toValueSS aRows))) ?_ ?_
   ·
    intro h12
    have h12q : (eqValueSS (toValueSS aRows) (toValueSS aRows)) = false := (Go.Am.not_pos h12)
    have e13 := e11.trans (Go.Am.bif_t h12)
    refine AW.seq (AW.r1 hC [4] [] ⟨[(4, .bool false)], []⟩ ?_)
    exact AW.ret (AW.retE (β := Bool) (fun v => [⟨.bool, v⟩]) (fun v => []) (v := false) e13 (by kernel_rfl) rfl rfl)
   ·
    intro h14
    have h14q : (eqValueSS (toValueSS aRows) (toValueSS aRows)) = true := (Go.Am.not_neg h14)
    have e15 := e11.trans (Go.Am.bif_f h14)
    refine AW.kp [0, 1, 6, 7, 8, 9, 10] [24, 36, 116, 132] ⟨[(0, .int .i64 aWidth), (1, .data (.slice (.slice (.named 1))) (aRows : List (List Val))), (6, .ref 24 1 0), (7, .bool ((sTableOf aWidth (toValueSS aRows)).2)), (8, .tr 116 1), (9, .ref 36 1 0), (10, .bool ((iTableOf aWidth (toValueSS aRows)).2))], [(24, .box 1 [.int .i64 (Tab.Width ((sTableOf aWidth (toValueSS aRows)).1)), .data (.slice (.slice (.named 1))) ((Tab.Rows ((sTableOf aWidth (toValueSS aRows)).1)) : List (List Val))]), (36, .box 1 [.int .i64 (Tab.Width ((iTableOf aWidth (toValueSS aRows)).1)), .tr 132 1]), (116, .tree 1 (.slice (.named 1)) ((toValueSS aRows) : List (List Val))), (132, .tree 1 (.slice (.named 1)) ((Tab.Rows ((iTableOf aWidth (toValueSS aRows)).1)) : List (List Val)))]⟩ ?_
    refine AW.skip (AW.seq (AW.r1 hC [0, 1, 6, 7, 8, 9, 10, 11] [24, 36, 116, 132] ⟨[(0, .int .i64 aWidth), (1, .data (.slice (.slice (.named 1))) (aRows : List (List Val))), (6, .ref 24 1 0), (7, .bool ((sTableOf aWidth (toValueSS aRows)).2)), (8, .tr 116 1), (9, .ref 36 1 0), (10, .bool ((iTableOf aWidth (toValueSS aRows)).2)), (11, .int .i64 1)], [(24, .box 1 [.int .i64 (Tab.Width ((sTableOf aWidth (toValueSS aRows)).1)), .data (.slice (.slice (.named 1))) ((Tab.Rows ((sTableOf aWidth (toValueSS aRows)).1)) : List (List Val))]), (36, .box 1 [.int .i64 (Tab.Width ((iTableOf aWidth (toValueSS aRows)).1)), .tr 132 1]), (116, .tree 1 (.slice (.named 1)) ((toValueSS aRows) : List (List Val))), (132, .tree 1 (.slice (.named 1)) ((Tab.Rows ((iTableOf aWidth (toValueSS aRows)).1)) : List (List Val)))]⟩ ?_))
    refine AW.seq (AW.regionO [0, 1, 2, 3] (by rfl) ?_)
    refine AWO.run hC false [] [0, 1] [2, 3] [0, 1, 6, 7, 9, 10, 50, 51] [24, 36, 116, 132]
     ⟨[(0, .int .i64 aWidth), (1, .data (.slice (.slice (.named 1))) (aRows : List (List Val))), (6, .ref 24 1 0), (7, .bool ((sTableOf aWidth (toValueSS aRows)).2)), (9, .ref 36 1 0), (10, .bool ((iTableOf aWidth (toValueSS aRows)).2)), (50, .tr 116 1), (51, .int .i64 1)], [(24, .box 1 [.int .i64 (Tab.Width ((sTableOf aWidth (toValueSS aRows)).1)), .data (.slice (.slice (.named 1))) ((Tab.Rows ((sTableOf aWidth (toValueSS aRows)).1)) : List (List Val))]), (36, .box 1 [.int .i64 (Tab.Width ((iTableOf aWidth (toValueSS aRows)).1)), .tr 132 1]), (116, .tree 1 (.slice (.named 1)) ((toValueSS aRows) : List (List Val))), (132, .tree 1 (.slice (.named 1)) ((Tab.Rows ((iTableOf aWidth (toValueSS aRows)).1)) : List (List Val)))]⟩
     [] (by rfl) (by kernel_rfl) ?_ ?_
    ·
     exact trivial
    refine AWO.mark (u := (.slice (.named 1))) (id := 116) (ep := 1) (xs := ((toValueSS aRows) : List (List Val))) (k := 1) markValueSS_ok (by rfl) (by rfl) (by kernel_rfl) (by kernel_rfl) (by kernel_rfl) (by kernel_rfl) ?_ ?_
    ·
     show True
     assumption
    refine AWO.keep [0, 1, 6, 7, 9, 10, 52] [24, 36, 132] ⟨[(0, .int .i64 aWidth), (1, .data (.slice (.slice (.named 1))) (aRows : List (List Val))), (6, .ref 24 1 0), (7, .bool ((sTableOf aWidth (toValueSS aRows)).2)), (9, .ref 36 1 0), (10, .bool ((iTableOf aWidth (toValueSS aRows)).2)), (52, .int .i64 (markValueSS (toValueSS aRows) 1).2)], [(24, .box 1 [.int .i64 (Tab.Width ((sTableOf aWidth (toValueSS aRows)).1)), .data (.slice (.slice (.named 1))) ((Tab.Rows ((sTableOf aWidth (toValueSS aRows)).1)) : List (List Val))]), (36, .box 1 [.int .i64 (Tab.Width ((iTableOf aWidth (toValueSS aRows)).1)), .tr 132 1]), (132, .tree 1 (.slice (.named 1)) ((Tab.Rows ((iTableOf aWidth (toValueSS aRows)).1)) : List (List Val)))]⟩ (by kernel_rfl) ?_
    refine AWO.run hC false [] [3] [] [0, 1, 6, 7, 9, 10, 11] [24, 36, 132]
     ⟨[(0, .int .i64 aWidth), (1, .data (.slice (.slice (.named 1))) (aRows : List (List Val))), (6, .ref 24 1 0), (7, .bool ((sTableOf aWidth (toValueSS aRows)).2)), (9, .ref 36 1 0), (10, .bool ((iTableOf aWidth (toValueSS aRows)).2)), (11, .int .i64 (markValueSS (toValueSS aRows) 1).2)], [(24, .box 1 [.int .i64 (Tab.Width ((sTableOf aWidth (toValueSS aRows)).1)), .data (.slice (.slice (.named 1))) ((Tab.Rows ((sTableOf aWidth (toValueSS aRows)).1)) : List (List Val))]), (36, .box 1 [.int .i64 (Tab.Width ((iTableOf aWidth (toValueSS aRows)).1)), .tr 132 1]), (132, .tree 1 (.slice (.named 1)) ((Tab.Rows ((iTableOf aWidth (toValueSS aRows)).1)) : List (List Val)))]⟩
     [] (by rfl) (by kernel_rfl) ?_ ?_
    ·
     exact trivial
    refine AWO.nil ?_
    refine AW.seq (AW.seq (AW.r0 hC [0, 1, 6, 7, 9, 65] [24, 36, 132] ⟨[(0, .int .i64 aWidth), (1, .data (.slice (.slice (.named 1))) (aRows : List (List Val))), (6, .ref 24 1 0), (7, .bool ((sTableOf aWidth (toValueSS aRows)).2)), (9, .ref 36 1 0), (65, .bool (bif (bif (decide ((markValueSS (toValueSS aRows) 1).2 < 0)) then true else (!(eqTable ((iTableOf aWidth (toValueSS aRows)).1) ((sTableOf aWidth (toValueSS aRows)).1)))) then true else (((iTableOf aWidth (toValueSS aRows)).2) != ((sTableOf aWidth (toValueSS aRows)).2))))], [(24, .box 1 [.int .i64 (Tab.Width ((sTableOf aWidth (toValueSS aRows)).1)), .data (.slice (.slice (.named 1))) ((Tab.Rows ((sTableOf aWidth (toValueSS aRows)).1)) : List (List Val))]), (36, .box 1 [.int .i64 (Tab.Width ((iTableOf aWidth (toValueSS aRows)).1)), .tr 132 1]), (132, .tree 1 (.slice (.named 1)) ((Tab.Rows ((iTableOf aWidth (toValueSS aRows)).1)) : List (List Val)))]⟩ [(((decide ((markValueSS (toValueSS aRows) 1).2 < 0)) = false) → (((decide ((markValueSS (toValueSS aRows) 1).2 < 0)) = false))), (((decide ((markValueSS (toValueSS aRows) 1).2 < 0)) = false) → (((decide ((markValueSS (toValueSS aRows) 1).2 < 0)) = false))), (((decide ((markValueSS (toValueSS aRows) 1).2 < 0)) = false) → (True)), (((decide ((markValueSS (toValueSS aRows) 1).2 < 0)) = false) → (((decide ((markValueSS (toValueSS aRows) 1).2 < 0)) = false))), (((decide ((markValueSS (toValueSS aRows) 1).2 < 0)) = false) → (((decide ((markValueSS (toValueSS aRows) 1).2 < 0)) = false))), (((bif (decide ((markValueSS (toValueSS aRows) 1).2 < 0)) then true else (!(eqTable ((iTableOf aWidth (toValueSS aRows)).1) ((sTableOf aWidth (toValueSS aRows)).1)))) = false) → (((bif (decide ((markValueSS (toValueSS aRows) 1).2 < 0)) then true else (!(eqTable ((iTableOf aWidth (toValueSS aRows)).1) ((sTableOf aWidth (toValueSS aRows)).1)))) = false))), (((bif (decide ((markValueSS (toValueSS aRows) 1).2 < 0)) then true else (!(eqTable ((iTableOf aWidth (toValueSS aRows)).1) ((sTableOf aWidth (toValueSS aRows)).1)))) = false) → (((bif (decide ((markValueSS (toValueSS aRows) 1).2 < 0)) then true else (!(eqTable ((iTableOf aWidth (toValueSS aRows)).1) ((sTableOf aWidth (toValueSS aRows)).1)))) = false))), (((bif (decide ((markValueSS (toValueSS aRows) 1).2 < 0)) then true else (!(eqTable ((iTableOf aWidth (toValueSS aRows)).1) ((sTableOf aWidth (toValueSS aRows)).1)))) = false) → (((bif (decide ((markValueSS (toValueSS aRows) 1).2 < 0)) then true else (!(eqTable ((iTableOf aWidth (toValueSS aRows)).1) ((sTableOf aWidth (toValueSS aRows)).1)))) = false)))] ?_ ?_))
    ·
     refine ⟨?_, ?_, ?_, ?_, ?_, ?_, ?_, ?_, trivial⟩
     ·
      intro g16
      have g16p0 : ¬ ((markValueSS (toValueSS aRows) 1).2 < 0) := (of_decide_eq_false g16)
      assumption
     ·
      intro g17
      have g17p0 : ¬ ((markValueSS (toValueSS aRows) 1).2 < 0) := (of_decide_eq_false g17)
      assumption
     ·
      intro g18
      have g18p0 : ¬ ((markValueSS (toValueSS aRows) 1).2 < 0) := (of_decide_eq_false g18)
      trivial
     ·
      intro g19
      have g19p0 : ¬ ((markValueSS (toValueSS aRows) 1).2 < 0) := (of_decide_eq_false g19)
      assumption
     ·
      intro g20
      have g20p0 : ¬ ((markValueSS (toValueSS aRows) 1).2 < 0) := (of_decide_eq_false g20)
      assumption
     ·
      intro g21
      have g21p0 : (¬ ((markValueSS (toValueSS aRows) 1).2 < 0)) ∧ ((eqTable ((iTableOf aWidth (toValueSS aRows)).1) ((sTableOf aWidth (toValueSS aRows)).1)) = true) := (And.imp (fun h => (of_decide_eq_false h)) (fun h => (Go.Am.not_neg h)) (Go.Am.or_neg g21))
      assumption
     ·
      intro g22
      have g22p0 : (¬ ((markValueSS (toValueSS aRows) 1).2 < 0)) ∧ ((eqTable ((iTableOf aWidth (toValueSS aRows)).1) ((sTableOf aWidth (toValueSS aRows)).1)) = true) := (And.imp (fun h => (of_decide_eq_false h)) (fun h => (Go.Am.not_neg h)) (Go.Am.or_neg g22))
      assumption
     ·
      intro g23
      have g23p0 : (¬ ((markValueSS (toValueSS aRows) 1).2 < 0)) ∧ ((eqTable ((iTableOf aWidth (toValueSS aRows)).1) ((sTableOf aWidth (toValueSS aRows)).1)) = true) := (And.imp (fun h => (of_decide_eq_false h)) (fun h => (Go.Am.not_neg h)) (Go.Am.or_neg g23))
      assumption
    refine AW.cd (bif (bif (decide ((markValueSS (toValueSS aRows) 1).2 < 0)) then true else (!(eqTable ((iTableOf aWidth (toValueSS aRows)).1) ((sTableOf aWidth (toValueSS aRows)).1)))) then true else (((iTableOf aWidth (toValueSS aRows)).2) != ((sTableOf aWidth (toValueSS aRows)).2))) ?_ ?_
    ·
     intro h24
     have h24q : (((markValueSS (toValueSS aRows) 1).2 < 0) ∨ ((eqTable ((iTableOf aWidth (toValueSS aRows)).1) ((sTableOf aWidth (toValueSS aRows)).1)) = false)) ∨ ((((iTableOf aWidth (toValueSS aRows)).2) != ((sTableOf aWidth (toValueSS aRows)).2)) = true) := (Or.imp (fun h => (Or.imp (fun h => (of_decide_eq_true h)) (fun h => (Go.Am.not_pos h)) (Go.Am.or_pos h))) (fun h => h) (Go.Am.or_pos h24))
     have e25 := e15.trans (Go.Am.bif_t h24)
     refine AW.seq (AW.r1 hC [4] [] ⟨[(4, .bool false)], []⟩ ?_)
     exact AW.ret (AW.retE (β := Bool) (fun v => [⟨.bool, v⟩]) (fun v => []) (v := false) e25 (by kernel_rfl) rfl rfl)
    ·
     intro h26
     have h26q : ((¬ ((markValueSS (toValueSS aRows) 1).2 < 0)) ∧ ((eqTable ((iTableOf aWidth (toValueSS aRows)).1) ((sTableOf aWidth (toValueSS aRows)).1)) = true)) ∧ ((((iTableOf aWidth (toValueSS aRows)).2) != ((sTableOf aWidth (toValueSS aRows)).2)) = false) := (And.imp (fun h => (And.imp (fun h => (of_decide_eq_false h)) (fun h => (Go.Am.not_neg h)) (Go.Am.or_neg h))) (fun h => h) (Go.Am.or_neg h26))
     have e27 := e15.trans (Go.Am.bif_f h26)
     refine AW.kp [0, 1, 6, 7, 9] [24, 36, 132] ⟨[(0, .int .i64 aWidth), (1, .data (.slice (.slice (.named 1))) (aRows : List (List Val))), (6, .ref 24 1 0), (7, .bool ((sTableOf aWidth (toValueSS aRows)).2)), (9, .ref 36 1 0)], [(24, .box 1 [.int .i64 (Tab.Width ((sTableOf aWidth (toValueSS aRows)).1)), .data (.slice (.slice (.named 1))) ((Tab.Rows ((sTableOf aWidth (toValueSS aRows)).1)) : List (List Val))]), (36, .box 1 [.int .i64 (Tab.Width ((iTableOf aWidth (toValueSS aRows)).1)), .tr 132 1]), (132, .tree 1 (.slice (.named 1)) ((Tab.Rows ((iTableOf aWidth (toValueSS aRows)).1)) : List (List Val)))]⟩ ?_
     refine AW.skip (AW.seq (AW.r1 hC [0, 1, 6, 7, 9, 12] [24, 36, 132] ⟨[(0, .int .i64 aWidth), (1, .data (.slice (.slice (.named 1))) (aRows : List (List Val))), (6, .ref 24 1 0), (7, .bool ((sTableOf aWidth (toValueSS aRows)).2)), (9, .ref 36 1 0), (12, .int .i64 1)], [(24, .box 1 [.int .i64 (Tab.Width ((sTableOf aWidth (toValueSS aRows)).1)), .data (.slice (.slice (.named 1))) ((Tab.Rows ((sTableOf aWidth (toValueSS aRows)).1)) : List (List Val))]), (36, .box 1 [.int .i64 (Tab.Width ((iTableOf aWidth (toValueSS aRows)).1)), .tr 132 1]), (132, .tree 1 (.slice (.named 1)) ((Tab.Rows ((iTableOf aWidth (toValueSS aRows)).1)) : List (List Val)))]⟩ ?_))
     refine AW.seq (AW.regionO [0, 1, 2, 3] (by rfl) ?_)
     refine AWO.run hC false [] [0, 1] [2, 3] [0, 1, 6, 7, 9, 66, 67] [24, 36, 132]
      ⟨[(0, .int .i64 aWidth), (1, .data (.slice (.slice (.named 1))) (aRows : List (List Val))), (6, .ref 24 1 0), (7, .bool ((sTableOf aWidth (toValueSS aRows)).2)), (9, .ref 36 1 0), (66, .agg [.int .i64 (Tab.Width ((iTableOf aWidth (toValueSS aRows)).1)), .tr 132 1]), (67, .int .i64 1)], [(24, .box 1 [.int .i64 (Tab.Width ((sTableOf aWidth (toValueSS aRows)).1)), .data (.slice (.slice (.named 1))) ((Tab.Rows ((sTableOf aWidth (toValueSS aRows)).1)) : List (List Val))]), (36, .box 1 [.int .i64 (Tab.Width ((iTableOf aWidth (toValueSS aRows)).1)), .tr 132 1]), (132, .tree 1 (.slice (.named 1)) ((Tab.Rows ((iTableOf aWidth (toValueSS aRows)).1)) : List (List Val)))]⟩
      [] (by rfl) (by kernel_rfl) ?_ ?_
     ·
      exact trivial
     refine AWO.call hC.ty (vs := [.agg [.int .i64 (Tab.Width ((iTableOf aWidth (toValueSS aRows)).1)), .tr 132 1], .int .i64 1]) (caps := []) (by rfl) rfl (.inl rfl) (by decide) (by kernel_rfl) (by kernel_rfl) Try.func25 (by kernel_rfl) rfl (by kernel_rfl) ?_
     intro o1 ho1
     refine AW.kp [0, 1, 1000, 1001, 1006, 1007, 1009] [24, 36, 132] ⟨[(0, .agg [.int .i64 (Tab.Width ((iTableOf aWidth (toValueSS aRows)).1)), .tr 132 1]), (1, .int .i64 1), (1000, .int .i64 aWidth), (1001, .data (.slice (.slice (.named 1))) (aRows : List (List Val))), (1006, .ref 24 1 0), (1007, .bool ((sTableOf aWidth (toValueSS aRows)).2)), (1009, .ref 36 1 0)], [(24, .box 1 [.int .i64 (Tab.Width ((sTableOf aWidth (toValueSS aRows)).1)), .data (.slice (.slice (.named 1))) ((Tab.Rows ((sTableOf aWidth (toValueSS aRows)).1)) : List (List Val))]), (36, .box 1 [.int .i64 (Tab.Width ((iTableOf aWidth (toValueSS aRows)).1)), .tr 132 1]), (132, .tree 1 (.slice (.named 1)) ((Tab.Rows ((iTableOf aWidth (toValueSS aRows)).1)) : List (List Val)))]⟩ ?_
     refine AW.seq (AW.r1 hC1 [1, 2, 1000, 1001, 1006, 1007, 1009] [24, 36, 132, 4008] ⟨[(1, .int .i64 1), (2, .ref 4008 1 0), (1000, .int .i64 aWidth), (1001, .data (.slice (.slice (.named 1))) (aRows : List (List Val))), (1006, .ref 24 1 0), (1007, .bool ((sTableOf aWidth (toValueSS aRows)).2)), (1009, .ref 36 1 0)], [(24, .box 1 [.int .i64 (Tab.Width ((sTableOf aWidth (toValueSS aRows)).1)), .data (.slice (.slice (.named 1))) ((Tab.Rows ((sTableOf aWidth (toValueSS aRows)).1)) : List (List Val))]), (36, .box 1 [.int .i64 (Tab.Width ((iTableOf aWidth (toValueSS aRows)).1)), .tr 132 1]), (132, .tree 1 (.slice (.named 1)) ((Tab.Rows ((iTableOf aWidth (toValueSS aRows)).1)) : List (List Val))), (4008, .box 1 [.int .i64 (Tab.Width ((iTableOf aWidth (toValueSS aRows)).1)), .tr 132 1])]⟩ ?_)
     refine AW.seq (AW.regionO [0, 1, 2, 3, 4] (by rfl) ?_)
     refine AWO.run hC1 false [] [0, 1, 2] [3, 4] [6, 7, 1000, 1001, 1006, 1007, 1009] [24, 36, 132]
      ⟨[(6, .tr 132 1), (7, .int .i64 1), (1000, .int .i64 aWidth), (1001, .data (.slice (.slice (.named 1))) (aRows : List (List Val))), (1006, .ref 24 1 0), (1007, .bool ((sTableOf aWidth (toValueSS aRows)).2)), (1009, .ref 36 1 0)], [(24, .box 1 [.int .i64 (Tab.Width ((sTableOf aWidth (toValueSS aRows)).1)), .data (.slice (.slice (.named 1))) ((Tab.Rows ((sTableOf aWidth (toValueSS aRows)).1)) : List (List Val))]), (36, .box 1 [.int .i64 (Tab.Width ((iTableOf aWidth (toValueSS aRows)).1)), .tr 132 1]), (132, .tree 1 (.slice (.named 1)) ((Tab.Rows ((iTableOf aWidth (toValueSS aRows)).1)) : List (List Val)))]⟩
      [] (by rfl) (by kernel_rfl) ?_ ?_
     ·
      exact trivial
     refine AWO.mark (u := (.slice (.named 1))) (id := 132) (ep := 1) (xs := ((Tab.Rows ((iTableOf aWidth (toValueSS aRows)).1)) : List (List Val))) (k := 1) markValueSS_ok (by rfl) (by rfl) (by kernel_rfl) (by kernel_rfl) (by kernel_rfl) (by kernel_rfl) ?_ ?_
     ·
      show True
      assumption
     refine AWO.keep [8, 1000, 1001, 1006, 1007, 1009] [24, 36, 132] ⟨[(8, .int .i64 (markValueSS (Tab.Rows ((iTableOf aWidth (toValueSS aRows)).1)) 1).2), (1000, .int .i64 aWidth), (1001, .data (.slice (.slice (.named 1))) (aRows : List (List Val))), (1006, .ref 24 1 0), (1007, .bool ((sTableOf aWidth (toValueSS aRows)).2)), (1009, .ref 36 1 0)], [(24, .box 1 [.int .i64 (Tab.Width ((sTableOf aWidth (toValueSS aRows)).1)), .data (.slice (.slice (.named 1))) ((Tab.Rows ((sTableOf aWidth (toValueSS aRows)).1)) : List (List Val))]), (36, .box 1 [.int .i64 (Tab.Width ((iTableOf aWidth (toValueSS aRows)).1)), .tr 132 1]), (132, .tree 1 (.slice (.named 1)) ((markValueSS (Tab.Rows ((iTableOf aWidth (toValueSS aRows)).1)) 1).1 : List (List Val)))]⟩ (by kernel_rfl) ?_
     refine AWO.run hC1 false [] [4] [] [1, 1000, 1001, 1006, 1007, 1009] [24, 36, 132]
      ⟨[(1, .int .i64 (markValueSS (Tab.Rows ((iTableOf aWidth (toValueSS aRows)).1)) 1).2), (1000, .int .i64 aWidth), (1001, .data (.slice (.slice (.named 1))) (aRows : List (List Val))), (1006, .ref 24 1 0), (1007, .bool ((sTableOf aWidth (toValueSS aRows)).2)), (1009, .ref 36 1 0)], [(24, .box 1 [.int .i64 (Tab.Width ((sTableOf aWidth (toValueSS aRows)).1)), .data (.slice (.slice (.named 1))) ((Tab.Rows ((sTableOf aWidth (toValueSS aRows)).1)) : List (List Val))]), (36, .box 1 [.int .i64 (Tab.Width ((iTableOf aWidth (toValueSS aRows)).1)), .tr 132 1]), (132, .tree 1 (.slice (.named 1)) ((markValueSS (Tab.Rows ((iTableOf aWidth (toValueSS aRows)).1)) 1).1 : List (List Val)))]⟩
      [] (by rfl) (by kernel_rfl) ?_ ?_
     ·
      exact trivial
     refine AWO.nil ?_
     refine AW.seq (AW.r1 hC1 [4, 1000, 1001, 1006, 1007, 1009] [24, 36, 132] ⟨[(4, .int .i64 (markValueSS (Tab.Rows ((iTableOf aWidth (toValueSS aRows)).1)) 1).2), (1000, .int .i64 aWidth), (1001, .data (.slice (.slice (.named 1))) (aRows : List (List Val))), (1006, .ref 24 1 0), (1007, .bool ((sTableOf aWidth (toValueSS aRows)).2)), (1009, .ref 36 1 0)], [(24, .box 1 [.int .i64 (Tab.Width ((sTableOf aWidth (toValueSS aRows)).1)), .data (.slice (.slice (.named 1))) ((Tab.Rows ((sTableOf aWidth (toValueSS aRows)).1)) : List (List Val))]), (36, .box 1 [.int .i64 (Tab.Width ((iTableOf aWidth (toValueSS aRows)).1)), .tr 132 1]), (132, .tree 1 (.slice (.named 1)) ((markValueSS (Tab.Rows ((iTableOf aWidth (toValueSS aRows)).1)) 1).1 : List (List Val)))]⟩ ?_)
     refine AW.ret ?_
     refine ⟨[.int .i64 (markValueSS (Tab.Rows ((iTableOf aWidth (toValueSS aRows)).1)) 1).2], by kernel_rfl, ?_⟩
     refine AWO.keep [0, 1, 6, 7, 9, 68] [24, 36, 132] ⟨[(0, .int .i64 aWidth), (1, .data (.slice (.slice (.named 1))) (aRows : List (List Val))), (6, .ref 24 1 0), (7, .bool ((sTableOf aWidth (toValueSS aRows)).2)), (9, .ref 36 1 0), (68, .int .i64 (markValueSS (Tab.Rows ((iTableOf aWidth (toValueSS aRows)).1)) 1).2)], [(24, .box 1 [.int .i64 (Tab.Width ((sTableOf aWidth (toValueSS aRows)).1)), .data (.slice (.slice (.named 1))) ((Tab.Rows ((sTableOf aWidth (toValueSS aRows)).1)) : List (List Val))]), (36, .box 1 [.int .i64 (Tab.Width ((iTableOf aWidth (toValueSS aRows)).1)), .tr 132 1]), (132, .tree 1 (.slice (.named 1)) ((markValueSS (Tab.Rows ((iTableOf aWidth (toValueSS aRows)).1)) 1).1 : List (List Val)))]⟩ (by kernel_rfl) ?_
     refine AWO.run hC false [] [3] [] [0, 1, 6, 7, 9, 12] [24, 36, 132]
      ⟨[(0, .int .i64 aWidth), (1, .data (.slice (.slice (.named 1))) (aRows : List (List Val))), (6, .ref 24 1 0), (7, .bool ((sTableOf aWidth (toValueSS aRows)).2)), (9, .ref 36 1 0), (12, .int .i64 (markValueSS (Tab.Rows ((iTableOf aWidth (toValueSS aRows)).1)) 1).2)], [(24, .box 1 [.int .i64 (Tab.Width ((sTableOf aWidth (toValueSS aRows)).1)), .data (.slice (.slice (.named 1))) ((Tab.Rows ((sTableOf aWidth (toValueSS aRows)).1)) : List (List Val))]), (36, .box 1 [.int .i64 (Tab.Width ((iTableOf aWidth (toValueSS aRows)).1)), .tr 132 1]), (132, .tree 1 (.slice (.named 1)) ((markValueSS (Tab.Rows ((iTableOf aWidth (toValueSS aRows)).1)) 1).1 : List (List Val)))]⟩
      [] (by rfl) (by kernel_rfl) ?_ ?_
     ·
      exact trivial
     refine AWO.nil ?_
     refine AW.seq (AW.r1 hC [0, 1, 6, 7, 9, 12, 13] [24, 36, 132] ⟨[(0, .int .i64 aWidth), (1, .data (.slice (.slice (.named 1))) (aRows : List (List Val))), (6, .ref 24 1 0), (7, .bool ((sTableOf aWidth (toValueSS aRows)).2)), (9, .ref 36 1 0), (12, .int .i64 (markValueSS (Tab.Rows ((iTableOf aWidth (toValueSS aRows)).1)) 1).2), (13, .int .i64 1)], [(24, .box 1 [.int .i64 (Tab.Width ((sTableOf aWidth (toValueSS aRows)).1)), .data (.slice (.slice (.named 1))) ((Tab.Rows ((sTableOf aWidth (toValueSS aRows)).1)) : List (List Val))]), (36, .box 1 [.int .i64 (Tab.Width ((iTableOf aWidth (toValueSS aRows)).1)), .tr 132 1]), (132, .tree 1 (.slice (.named 1)) ((markValueSS (Tab.Rows ((iTableOf aWidth (toValueSS aRows)).1)) 1).1 : List (List Val)))]⟩ ?_)
     refine AW.seq (AW.r0 hC [0, 1, 6, 7, 9, 12, 13] [24, 36, 132] ⟨[(0, .int .i64 aWidth), (1, .data (.slice (.slice (.named 1))) (aRows : List (List Val))), (6, .ref 24 1 0), (7, .bool ((sTableOf aWidth (toValueSS aRows)).2)), (9, .ref 36 1 0), (12, .int .i64 (markValueSS (Tab.Rows ((iTableOf aWidth (toValueSS aRows)).1)) 1).2), (13, .int .i64 (heldTable (Tab.mk (Tab.Width ((iTableOf aWidth (toValueSS aRows)).1)) ((markValueSS (Tab.Rows ((iTableOf aWidth (toValueSS aRows)).1)) 1).1)) 1))], [(24, .box 1 [.int .i64 (Tab.Width ((sTableOf aWidth (toValueSS aRows)).1)), .data (.slice (.slice (.named 1))) ((Tab.Rows ((sTableOf aWidth (toValueSS aRows)).1)) : List (List Val))]), (36, .box 1 [.int .i64 (Tab.Width ((iTableOf aWidth (toValueSS aRows)).1)), .tr 132 1]), (132, .tree 1 (.slice (.named 1)) ((markValueSS (Tab.Rows ((iTableOf aWidth (toValueSS aRows)).1)) 1).1 : List (List Val)))]⟩ [(True)] ?_ ?_)
     ·
      refine ⟨?_, trivial⟩
      ·
       trivial
     refine AW.seq (AW.seq (AW.r1 hC [0, 1, 6, 7, 9, 12, 13, 73] [24, 36, 132] ⟨[(0, .int .i64 aWidth), (1, .data (.slice (.slice (.named 1))) (aRows : List (List Val))), (6, .ref 24 1 0), (7, .bool ((sTableOf aWidth (toValueSS aRows)).2)), (9, .ref 36 1 0), (12, .int .i64 (markValueSS (Tab.Rows ((iTableOf aWidth (toValueSS aRows)).1)) 1).2), (13, .int .i64 (heldTable (Tab.mk (Tab.Width ((iTableOf aWidth (toValueSS aRows)).1)) ((markValueSS (Tab.Rows ((iTableOf aWidth (toValueSS aRows)).1)) 1).1)) 1)), (73, .bool (decide ((heldTable (Tab.mk (Tab.Width ((iTableOf aWidth (toValueSS aRows)).1)) ((markValueSS (Tab.Rows ((iTableOf aWidth (toValueSS aRows)).1)) 1).1)) 1) < 0)))], [(24, .box 1 [.int .i64 (Tab.Width ((sTableOf aWidth (toValueSS aRows)).1)), .data (.slice (.slice (.named 1))) ((Tab.Rows ((sTableOf aWidth (toValueSS aRows)).1)) : List (List Val))]), (36, .box 1 [.int .i64 (Tab.Width ((iTableOf aWidth (toValueSS aRows)).1)), .tr 132 1]), (132, .tree 1 (.slice (.named 1)) ((markValueSS (Tab.Rows ((iTableOf aWidth (toValueSS aRows)).1)) 1).1 : List (List Val)))]⟩ ?_))
     refine AW.cd (decide ((heldTable (Tab.mk (Tab.Width ((iTableOf aWidth (toValueSS aRows)).1)) ((markValueSS (Tab.Rows ((iTableOf aWidth (toValueSS aRows)).1)) 1).1)) 1) < 0)) ?_ ?_
     ·
      intro h28
      have h28q : (heldTable (Tab.mk (Tab.Width ((iTableOf aWidth (toValueSS aRows)).1)) ((markValueSS (Tab.Rows ((iTableOf aWidth (toValueSS aRows)).1)) 1).1)) 1) < 0 := (of_decide_eq_true h28)
      have e29 := e27.trans (Go.Am.bif_t h28)
      refine AW.seq (AW.r1 hC [4] [] ⟨[(4, .bool false)], []⟩ ?_)
      exact AW.ret (AW.retE (β := Bool) (fun v => [⟨.bool, v⟩]) (fun v => []) (v := false) e29 (by kernel_rfl) rfl rfl)
     ·
      intro h30
      have h30q : ¬ ((heldTable (Tab.mk (Tab.Width ((iTableOf aWidth (toValueSS aRows)).1)) ((markValueSS (Tab.Rows ((iTableOf aWidth (toValueSS aRows)).1)) 1).1)) 1) < 0) := (of_decide_eq_false h30)
      have e31 := e27.trans (Go.Am.bif_f h30)
      refine AW.kp [0, 1, 6, 7, 9, 12, 13] [24, 36, 132] ⟨[(0, .int .i64 aWidth), (1, .data (.slice (.slice (.named 1))) (aRows : List (List Val))), (6, .ref 24 1 0), (7, .bool ((sTableOf aWidth (toValueSS aRows)).2)), (9, .ref 36 1 0), (12, .int .i64 (markValueSS (Tab.Rows ((iTableOf aWidth (toValueSS aRows)).1)) 1).2), (13, .int .i64 (heldTable (Tab.mk (Tab.Width ((iTableOf aWidth (toValueSS aRows)).1)) ((markValueSS (Tab.Rows ((iTableOf aWidth (toValueSS aRows)).1)) 1).1)) 1))], [(24, .box 1 [.int .i64 (Tab.Width ((sTableOf aWidth (toValueSS aRows)).1)), .data (.slice (.slice (.named 1))) ((Tab.Rows ((sTableOf aWidth (toValueSS aRows)).1)) : List (List Val))]), (36, .box 1 [.int .i64 (Tab.Width ((iTableOf aWidth (toValueSS aRows)).1)), .tr 132 1]), (132, .tree 1 (.slice (.named 1)) ((markValueSS (Tab.Rows ((iTableOf aWidth (toValueSS aRows)).1)) 1).1 : List (List Val)))]⟩ ?_
      refine AW.skip (AW.seq (AW.seq (AW.r1 hC [0, 1, 6, 7, 9, 12, 76] [24, 36, 132] ⟨[(0, .int .i64 aWidth), (1, .data (.slice (.slice (.named 1))) (aRows : List (List Val))), (6, .ref 24 1 0), (7, .bool ((sTableOf aWidth (toValueSS aRows)).2)), (9, .ref 36 1 0), (12, .int .i64 (markValueSS (Tab.Rows ((iTableOf aWidth (toValueSS aRows)).1)) 1).2), (76, .bool ((heldTable (Tab.mk (Tab.Width ((iTableOf aWidth (toValueSS aRows)).1)) ((markValueSS (Tab.Rows ((iTableOf aWidth (toValueSS aRows)).1)) 1).1)) 1) != (markValueSS (Tab.Rows ((iTableOf aWidth (toValueSS aRows)).1)) 1).2))], [(24, .box 1 [.int .i64 (Tab.Width ((sTableOf aWidth (toValueSS aRows)).1)), .data (.slice (.slice (.named 1))) ((Tab.Rows ((sTableOf aWidth (toValueSS aRows)).1)) : List (List Val))]), (36, .box 1 [.int .i64 (Tab.Width ((iTableOf aWidth (toValueSS aRows)).1)), .tr 132 1]), (132, .tree 1 (.slice (.named 1)) ((markValueSS (Tab.Rows ((iTableOf aWidth (toValueSS aRows)).1)) 1).1 : List (List Val)))]⟩ ?_)))
      refine AW.cd ((heldTable (Tab.mk (Tab.Width ((iTableOf aWidth (toValueSS aRows)).1)) ((markValueSS (Tab.Rows ((iTableOf aWidth (toValueSS aRows)).1)) 1).1)) 1) != (markValueSS (Tab.Rows ((iTableOf aWidth (toValueSS aRows)).1)) 1).2) ?_ ?_
      ·
       intro h32
       have h32q : (heldTable (Tab.mk (Tab.Width ((iTableOf aWidth (toValueSS aRows)).1)) ((markValueSS (Tab.Rows ((iTableOf aWidth (toValueSS aRows)).1)) 1).1)) 1) ≠ (markValueSS (Tab.Rows ((iTableOf aWidth (toValueSS aRows)).1)) 1).2 := (Go.Am.bne_pos h32)
       have e33 := e31.trans (Go.Am.bif_t h32)
       refine AW.seq (AW.r1 hC [4] [] ⟨[(4, .bool false)], []⟩ ?_)
       exact AW.ret (AW.retE (β := Bool) (fun v => [⟨.bool, v⟩]) (fun v => []) (v := false) e33 (by kernel_rfl) rfl rfl)
      ·
       intro h34
       have h34q : (heldTable (Tab.mk (Tab.Width ((iTableOf aWidth (toValueSS aRows)).1)) ((markValueSS (Tab.Rows ((iTableOf aWidth (toValueSS aRows)).1)) 1).1)) 1) = (markValueSS (Tab.Rows ((iTableOf aWidth (toValueSS aRows)).1)) 1).2 := (Go.Am.bne_neg h34)
       have e35 := e31.trans (Go.Am.bif_f h34)
       refine AW.kp [0, 1, 6, 7, 9, 12] [24, 36, 132] ⟨[(0, .int .i64 aWidth), (1, .data (.slice (.slice (.named 1))) (aRows : List (List Val))), (6, .ref 24 1 0), (7, .bool ((sTableOf aWidth (toValueSS aRows)).2)), (9, .ref 36 1 0), (12, .int .i64 (markValueSS (Tab.Rows ((iTableOf aWidth (toValueSS aRows)).1)) 1).2)], [(24, .box 1 [.int .i64 (Tab.Width ((sTableOf aWidth (toValueSS aRows)).1)), .data (.slice (.slice (.named 1))) ((Tab.Rows ((sTableOf aWidth (toValueSS aRows)).1)) : List (List Val))]), (36, .box 1 [.int .i64 (Tab.Width ((iTableOf aWidth (toValueSS aRows)).1)), .tr 132 1]), (132, .tree 1 (.slice (.named 1)) ((markValueSS (Tab.Rows ((iTableOf aWidth (toValueSS aRows)).1)) 1).1 : List (List Val)))]⟩ ?_
       refine AW.skip (AW.seq (AW.r0 hC [6, 7, 9, 12, 14, 15] [24, 36, 56, 132, 324] ⟨[(6, .ref 24 1 0), (7, .bool ((sTableOf aWidth (toValueSS aRows)).2)), (9, .ref 36 1 0), (12, .int .i64 (markValueSS (Tab.Rows ((iTableOf aWidth (toValueSS aRows)).1)) 1).2), (14, .ref 56 1 0), (15, .bool ((iTableOf aWidth (toValueSS aRows)).2))], [(24, .box 1 [.int .i64 (Tab.Width ((sTableOf aWidth (toValueSS aRows)).1)), .data (.slice (.slice (.named 1))) ((Tab.Rows ((sTableOf aWidth (toValueSS aRows)).1)) : List (List Val))]), (36, .box 1 [.int .i64 (Tab.Width ((iTableOf aWidth (toValueSS aRows)).1)), .tr 132 1]), (56, .box 1 [.int .i64 (Tab.Width ((iTableOf aWidth (toValueSS aRows)).1)), .tr 324 1]), (132, .tree 1 (.slice (.named 1)) ((markValueSS (Tab.Rows ((iTableOf aWidth (toValueSS aRows)).1)) 1).1 : List (List Val))), (324, .tree 1 (.slice (.named 1)) ((Tab.Rows ((iTableOf aWidth (toValueSS aRows)).1)) : List (List Val)))]⟩ [((List.length aRows : Int) ≤ 1048576 ∧ ∀ i : Nat, i < List.length aRows → (List.length (List.getD aRows i []) : Int) ≤ 1048576), (True)] ?_ ?_))
       ·
        refine ⟨?_, ?_, trivial⟩
        ·
         exact szSS_fit h3q
        ·
         trivial
       refine AW.seq (AW.seq (AW.r0 hC [9, 12, 92] [36, 132] ⟨[(9, .ref 36 1 0), (12, .int .i64 (markValueSS (Tab.Rows ((iTableOf aWidth (toValueSS aRows)).1)) 1).2), (92, .bool (bif (!(eqTable ((iTableOf aWidth (toValueSS aRows)).1) ((sTableOf aWidth (toValueSS aRows)).1))) then true else (((iTableOf aWidth (toValueSS aRows)).2) != ((sTableOf aWidth (toValueSS aRows)).2))))], [(36, .box 1 [.int .i64 (Tab.Width ((iTableOf aWidth (toValueSS aRows)).1)), .tr 132 1]), (132, .tree 1 (.slice (.named 1)) ((markValueSS (Tab.Rows ((iTableOf aWidth (toValueSS aRows)).1)) 1).1 : List (List Val)))]⟩ [(True), (((!(eqTable ((iTableOf aWidth (toValueSS aRows)).1) ((sTableOf aWidth (toValueSS aRows)).1))) = false) → (((!(eqTable ((iTableOf aWidth (toValueSS aRows)).1) ((sTableOf aWidth (toValueSS aRows)).1))) = false))), (((!(eqTable ((iTableOf aWidth (toValueSS aRows)).1) ((sTableOf aWidth (toValueSS aRows)).1))) = false) → (((!(eqTable ((iTableOf aWidth (toValueSS aRows)).1) ((sTableOf aWidth (toValueSS aRows)).1))) = false))), (((!(eqTable ((iTableOf aWidth (toValueSS aRows)).1) ((sTableOf aWidth (toValueSS aRows)).1))) = false) → (((!(eqTable ((iTableOf aWidth (toValueSS aRows)).1) ((sTableOf aWidth (toValueSS aRows)).1))) = false)))] ?_ ?_))
       ·
        refine ⟨?_, ?_, ?_, ?_, trivial⟩
        ·
         trivial
        ·
         intro g36
         have g36p0 : (eqTable ((iTableOf aWidth (toValueSS aRows)).1) ((sTableOf aWidth (toValueSS aRows)).1)) = true := (Go.Am.not_neg g36)
         assumption
        ·
         intro g37
         have g37p0 : (eqTable ((iTableOf aWidth (toValueSS aRows)).1) ((sTableOf aWidth (toValueSS aRows)).1)) = true := (Go.Am.not_neg g37)
         assumption
        ·
         intro g38
         have g38p0 : (eqTable ((iTableOf aWidth (toValueSS aRows)).1) ((sTableOf aWidth (toValueSS aRows)).1)) = true := (Go.Am.not_neg g38)
         assumption
       refine AW.cd (bif (!(eqTable ((iTableOf aWidth (toValueSS aRows)).1) ((sTableOf aWidth (toValueSS aRows)).1))) then true else (((iTableOf aWidth (toValueSS aRows)).2) != ((sTableOf aWidth (toValueSS aRows)).2))) ?_ ?_
       ·
        intro h39
        have h39q : ((eqTable ((iTableOf aWidth (toValueSS aRows)).1) ((sTableOf aWidth (toValueSS aRows)).1)) = false) ∨ ((((iTableOf aWidth (toValueSS aRows)).2) != ((sTableOf aWidth (toValueSS aRows)).2)) = true) := (Or.imp (fun h => (Go.Am.not_pos h)) (fun h => h) (Go.Am.or_pos h39))
        have e40 := e35.trans (Go.Am.bif_t h39)
        refine AW.seq (AW.r1 hC [4] [] ⟨[(4, .bool false)], []⟩ ?_)
        exact AW.ret (AW.retE (β := Bool) (fun v => [⟨.bool, v⟩]) (fun v => []) (v := false) e40 (by kernel_rfl) rfl rfl)
       ·
        intro h41
        have h41q : ((eqTable ((iTableOf aWidth (toValueSS aRows)).1) ((sTableOf aWidth (toValueSS aRows)).1)) = true) ∧ ((((iTableOf aWidth (toValueSS aRows)).2) != ((sTableOf aWidth (toValueSS aRows)).2)) = false) := (And.imp (fun h => (Go.Am.not_neg h)) (fun h => h) (Go.Am.or_neg h41))
        have e42 := e35.trans (Go.Am.bif_f h41)
        refine AW.kp [9, 12] [36, 132] ⟨[(9, .ref 36 1 0), (12, .int .i64 (markValueSS (Tab.Rows ((iTableOf aWidth (toValueSS aRows)).1)) 1).2)], [(36, .box 1 [.int .i64 (Tab.Width ((iTableOf aWidth (toValueSS aRows)).1)), .tr 132 1]), (132, .tree 1 (.slice (.named 1)) ((markValueSS (Tab.Rows ((iTableOf aWidth (toValueSS aRows)).1)) 1).1 : List (List Val)))]⟩ ?_
        refine AW.skip (AW.seq (AW.r1 hC [9, 12, 13] [36, 132] ⟨[(9, .ref 36 1 0), (12, .int .i64 (markValueSS (Tab.Rows ((iTableOf aWidth (toValueSS aRows)).1)) 1).2), (13, .int .i64 1)], [(36, .box 1 [.int .i64 (Tab.Width ((iTableOf aWidth (toValueSS aRows)).1)), .tr 132 1]), (132, .tree 1 (.slice (.named 1)) ((markValueSS (Tab.Rows ((iTableOf aWidth (toValueSS aRows)).1)) 1).1 : List (List Val)))]⟩ ?_))
        refine AW.seq (AW.r0 hC [12, 13] [] ⟨[(12, .int .i64 (markValueSS (Tab.Rows ((iTableOf aWidth (toValueSS aRows)).1)) 1).2), (13, .int .i64 (heldTable (Tab.mk (Tab.Width ((iTableOf aWidth (toValueSS aRows)).1)) ((markValueSS (Tab.Rows ((iTableOf aWidth (toValueSS aRows)).1)) 1).1)) 1))], []⟩ [(True)] ?_ ?_)
        ·
         refine ⟨?_, trivial⟩
         ·
          trivial
        refine AW.seq (AW.seq (AW.r1 hC [12, 13, 97] [] ⟨[(12, .int .i64 (markValueSS (Tab.Rows ((iTableOf aWidth (toValueSS aRows)).1)) 1).2), (13, .int .i64 (heldTable (Tab.mk (Tab.Width ((iTableOf aWidth (toValueSS aRows)).1)) ((markValueSS (Tab.Rows ((iTableOf aWidth (toValueSS aRows)).1)) 1).1)) 1)), (97, .bool (decide ((heldTable (Tab.mk (Tab.Width ((iTableOf aWidth (toValueSS aRows)).1)) ((markValueSS (Tab.Rows ((iTableOf aWidth (toValueSS aRows)).1)) 1).1)) 1) < 0)))], []⟩ ?_))
        refine AW.cd (decide ((heldTable (Tab.mk (Tab.Width ((iTableOf aWidth (toValueSS aRows)).1)) ((markValueSS (Tab.Rows ((iTableOf aWidth (toValueSS aRows)).1)) 1).1)) 1) < 0)) ?_ ?_
        ·
         intro h43
         have h43q : (heldTable (Tab.mk (Tab.Width ((iTableOf aWidth (toValueSS aRows)).1)) ((markValueSS (Tab.Rows ((iTableOf aWidth (toValueSS aRows)).1)) 1).1)) 1) < 0 := (of_decide_eq_true h43)
         have e44 := e42.trans (Go.Am.bif_t h43)
         refine AW.seq (AW.r1 hC [4] [] ⟨[(4, .bool false)], []⟩ ?_)
         exact AW.ret (AW.retE (β := Bool) (fun v => [⟨.bool, v⟩]) (fun v => []) (v := false) e44 (by kernel_rfl) rfl rfl)
        ·
         intro h45
         have h45q : ¬ ((heldTable (Tab.mk (Tab.Width ((iTableOf aWidth (toValueSS aRows)).1)) ((markValueSS (Tab.Rows ((iTableOf aWidth (toValueSS aRows)).1)) 1).1)) 1) < 0) := (of_decide_eq_false h45)
         have e46 := e42.trans (Go.Am.bif_f h45)
         refine AW.kp [12, 13] [] ⟨[(12, .int .i64 (markValueSS (Tab.Rows ((iTableOf aWidth (toValueSS aRows)).1)) 1).2), (13, .int .i64 (heldTable (Tab.mk (Tab.Width ((iTableOf aWidth (toValueSS aRows)).1)) ((markValueSS (Tab.Rows ((iTableOf aWidth (toValueSS aRows)).1)) 1).1)) 1))], []⟩ ?_
         refine AW.skip (AW.seq (AW.seq (AW.r1 hC [100] [] ⟨[(100, .bool ((heldTable (Tab.mk (Tab.Width ((iTableOf aWidth (toValueSS aRows)).1)) ((markValueSS (Tab.Rows ((iTableOf aWidth (toValueSS aRows)).1)) 1).1)) 1) != (markValueSS (Tab.Rows ((iTableOf aWidth (toValueSS aRows)).1)) 1).2))], []⟩ ?_)))
         refine AW.cd ((heldTable (Tab.mk (Tab.Width ((iTableOf aWidth (toValueSS aRows)).1)) ((markValueSS (Tab.Rows ((iTableOf aWidth (toValueSS aRows)).1)) 1).1)) 1) != (markValueSS (Tab.Rows ((iTableOf aWidth (toValueSS aRows)).1)) 1).2) ?_ ?_
         ·
          intro h47
          have h47q : (heldTable (Tab.mk (Tab.Width ((iTableOf aWidth (toValueSS aRows)).1)) ((markValueSS (Tab.Rows ((iTableOf aWidth (toValueSS aRows)).1)) 1).1)) 1) ≠ (markValueSS (Tab.Rows ((iTableOf aWidth (toValueSS aRows)).1)) 1).2 := (Go.Am.bne_pos h47)
          have e48 := e46.trans (Go.Am.bif_t h47)
          refine AW.seq (AW.r1 hC [4] [] ⟨[(4, .bool false)], []⟩ ?_)
          exact AW.ret (AW.retE (β := Bool) (fun v => [⟨.bool, v⟩]) (fun v => []) (v := false) e48 (by kernel_rfl) rfl rfl)
         ·
          intro h49
          have h49q : (heldTable (Tab.mk (Tab.Width ((iTableOf aWidth (toValueSS aRows)).1)) ((markValueSS (Tab.Rows ((iTableOf aWidth (toValueSS aRows)).1)) 1).1)) 1) = (markValueSS (Tab.Rows ((iTableOf aWidth (toValueSS aRows)).1)) 1).2 := (Go.Am.bne_neg h49)
          have e50 := e46.trans (Go.Am.bif_f h49)
          refine AW.kp [] [] ⟨[], []⟩ ?_
          refine AW.skip (AW.seq (AW.r1 hC [4] [] ⟨[(4, .bool true)], []⟩ ?_))
          exact AW.ret (AW.retE (β := Bool) (fun v => [⟨.bool, v⟩]) (fun v => []) (v := true) e50 (by kernel_rfl) rfl rfl)

end
end Go.Proofs.Ytjcjpeckfikfkaa
