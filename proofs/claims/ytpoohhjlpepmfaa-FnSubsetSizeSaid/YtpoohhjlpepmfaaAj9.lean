/-
  A part of the proof of this claim (Aj9): what functions of the program compute, and plain facts of that. No conditions.
-/
import Derived.Test.YtpoohhjlpepmfaaAj8
set_option linter.all false
namespace Go.Proofs.Ytpoohhjlpepmfaa
open Go Go.Am
noncomputable section

def DrawSubsetSize (code : List Int) : Graph × Int := (((anyGraph (newReader code)).1), ((pick (Rdr.b ((anyGraph (newReader code)).2)) (Rdr.p ((anyGraph (newReader code)).2)) 34) - (pick (Rdr.b ((anyGraph (newReader code)).2)) ((Rdr.p ((anyGraph (newReader code)).2)) + 1) 2)))

def DrawSubsetSize_sp : FnSpec := mkSpec [.val (.slice (.int .u8))] [.val (.named 1), .val (.int .i64)] (fun (code : List Int) => True) (fun (code : List Int) => [⟨(.named 1), ((DrawSubsetSize code).1)⟩, ⟨(.int .i64), ((DrawSubsetSize code).2)⟩])

theorem DrawSubsetSize_ok : FnOK Try.prog 15 DrawSubsetSize_sp := by
  have hC : CtxOK Try.prog (mkCtx tyL [(49, newReader_sp), (50, anyGraph_sp), (51, pickS)]) := CtxOK.cons newReader_ok (CtxOK.cons anyGraph_ok (CtxOK.cons pickS_ok (CtxOK.nil tyOK)))
  have hM : Try.prog.follows .mixedOrders = true := Try.checked.mixed
  refine FnOK.of_body Try.func15 (by kernel_rfl) rfl (C := (mkCtx tyL [(49, newReader_sp), (50, anyGraph_sp), (51, pickS)])) hC.ty (by kernel_rfl) ?_
  intro (code : List Int) hwf hpre E
  have hpre : True := hpre
  have hw_code : Wf ⟨(.slice (.int .u8)), (code : List Int)⟩ := hwf _ (List.Mem.head _)
  have hl_code : ((List.length code : Nat) : Int) ≤ 9223372036854775807 := hw_code.len
  have e0 : DrawSubsetSize code = DrawSubsetSize code := rfl
  refine AW.seq ?_
  refine AW.reg hC  false [] [0, 2] [8]
    ⟨[(0, .data (.slice (.int .u8)) (code : List Int)), (2, .ref 8 1 0)], [(8, .box 1 [.nilsl, .nilsl])]⟩
    [] (by kernel_rfl) ?_ ?_
  · exact trivial
  refine AW.seq ?_
  refine AW.reg hC  false [] [2, 4] [8, 28]
    ⟨[(2, .ref 8 1 0), (4, .ref 28 1 0)], [(8, .box 1 [.nilsl, .nilsl]), (28, .box 1 [.data (.slice (.int .u8)) ((Rdr.b (newReader code)) : List Int), .int .i64 (Rdr.p (newReader code))])]⟩
    [(True)] (by kernel_rfl) ?_ ?_
  · refine ⟨?_, trivial⟩
    · trivial
  refine AW.seq ?_
  refine AW.reg hC  false [] [2, 4, 5] [8, 20, 28]
    ⟨[(2, .ref 8 1 0), (4, .ref 28 1 0), (5, .ref 20 1 0)], [(8, .box 1 [.nilsl, .nilsl]), (20, .box 1 [.data (.slice (.int .i64)) ((Graph.Rows ((anyGraph (newReader code)).1)) : List Int), .data (.slice (.named 0)) ((Graph.Edges ((anyGraph (newReader code)).1)) : List Edge)]), (28, .box 1 [.data (.slice (.int .u8)) ((Rdr.b ((anyGraph (newReader code)).2)) : List Int), .int .i64 (Rdr.p ((anyGraph (newReader code)).2))])]⟩
    [(0 ≤ (newReader code).p ∧ (newReader code).p ≤ 1000000000000)] (by kernel_rfl) ?_ ?_
  · refine ⟨?_, trivial⟩
    · -- r2.0: 0 ≤ (newReader code).p ∧ (newReader code).p ≤ 1000000000000
      have a := newReader_p code
      have b := anyGraph_p (newReader code)
      first | omega | (dsimp only; omega) | (refine ⟨?_, ?_⟩ <;> (try dsimp only) <;> omega)
  refine AW.seq ?_
  refine AW.regD hC hM  false [] [2, 3] [8]
    ⟨[(2, .ref 8 1 0), (3, .int .i64 ((pick (Rdr.b ((anyGraph (newReader code)).2)) (Rdr.p ((anyGraph (newReader code)).2)) 34) - (pick (Rdr.b ((anyGraph (newReader code)).2)) ((Rdr.p ((anyGraph (newReader code)).2)) + 1) 2)))], [(8, .box 1 [.data (.slice (.int .i64)) ((Graph.Rows ((anyGraph (newReader code)).1)) : List Int), .data (.slice (.named 0)) ((Graph.Edges ((anyGraph (newReader code)).1)) : List Edge)])]⟩
    [(0 ≤ ((anyGraph (newReader code)).2).p ∧ ((anyGraph (newReader code)).2).p ≤ 1099511627776), (0 ≤ (Rdr.mk (Rdr.b ((anyGraph (newReader code)).2)) ((Rdr.p ((anyGraph (newReader code)).2)) + 1)).p ∧ (Rdr.mk (Rdr.b ((anyGraph (newReader code)).2)) ((Rdr.p ((anyGraph (newReader code)).2)) + 1)).p ≤ 1099511627776), (-9223372036854775808 ≤ ((pick (Rdr.b ((anyGraph (newReader code)).2)) (Rdr.p ((anyGraph (newReader code)).2)) 34) - (pick (Rdr.b ((anyGraph (newReader code)).2)) ((Rdr.p ((anyGraph (newReader code)).2)) + 1) 2)) ∧ ((pick (Rdr.b ((anyGraph (newReader code)).2)) (Rdr.p ((anyGraph (newReader code)).2)) 34) - (pick (Rdr.b ((anyGraph (newReader code)).2)) ((Rdr.p ((anyGraph (newReader code)).2)) + 1) 2)) ≤ 9223372036854775807)] (by kernel_rfl) ?_ ?_
  · refine ⟨?_, ?_, ?_, trivial⟩
    · -- r3.0: 0 ≤ ((anyGraph (newReader code)).2).p ∧ ((anyGraph (newReader code)).2).p ≤ 1099511627776
      have a := newReader_p code
      have b := anyGraph_p (newReader code)
      first | omega | (dsimp only; omega) | (refine ⟨?_, ?_⟩ <;> (try dsimp only) <;> omega)
    · -- r3.1: 0 ≤ (Rdr.mk (Rdr.b ((anyGraph (newReader code)).2)) ((Rdr.p ((anyGraph (newReader code)).2)) + 1)).p ∧ (Rdr.mk (Rdr.b ((anyGraph (newReader code)).2)) ((Rdr.p ((anyGraph (newReader code)).2)) + 1)).p ≤ 1099511627776
      have a := newReader_p code
      have b := anyGraph_p (newReader code)
      first | omega | (dsimp only; omega) | (refine ⟨?_, ?_⟩ <;> (try dsimp only) <;> omega)
    · -- r3.2: -9223372036854775808 ≤ ((pick (Rdr.b ((anyGraph (newReader code)).2)) (Rdr.p ((anyGraph (newReader code)).2)) 34) - (pick (Rdr.b ((anyGraph (newReader code)).2)) ((Rdr.p ((anyGraph (newReader code)).2)) + 1) 2)) ∧ ((pick (Rdr.b ((anyGraph (newReader code)).2)) (Rdr.p ((anyGraph (newReader code)).2)) 34) - (pick (Rdr.b ((anyGraph (newReader code)).2)) ((Rdr.p ((anyGraph (newReader code)).2)) + 1) 2)) ≤ 9223372036854775807
      have a := pick_ok (n := 34) (Rdr.b (anyGraph (newReader code)).2) (Rdr.p (anyGraph (newReader code)).2) (by decide)
      have b := pick_ok (n := 2) (Rdr.b (anyGraph (newReader code)).2) (Rdr.p (anyGraph (newReader code)).2 + 1) (by decide)
      omega
  refine AW.ret ?_
  exact AW.retE (β := Graph × Int) (fun v => [⟨(.named 1), v.1⟩, ⟨(.int .i64), v.2⟩]) (fun v => []) (v := (((anyGraph (newReader code)).1), ((pick (Rdr.b ((anyGraph (newReader code)).2)) (Rdr.p ((anyGraph (newReader code)).2)) 34) - (pick (Rdr.b ((anyGraph (newReader code)).2)) ((Rdr.p ((anyGraph (newReader code)).2)) + 1) 2)))) e0 (by kernel_rfl) rfl rfl

theorem sub_valid {g : Graph} {m : Int} (h : ¬ SubsetSize g m < 0) : VG g ∧ 1 ≤ m ∧ m < 32 := by
  unfold SubsetSize at h
  cases hc : (bif (!(validGraph g)) then true else (!(inRange m 1 ((1 : Int) * 2 ^ (List.length (Graph.Rows g)) - 1)))) with
  | true => rw [hc, cond_true] at h; exact absurd (by decide) h
  | false =>
    have hc := or_neg hc
    have hV := validGraph_iff.1 (not_neg hc.1)
    have hr := inRange_iff.1 (not_neg hc.2)
    have h5 := hV.n5
    have : (2 : Int) ^ (List.length (Graph.Rows g)) ≤ 32 := by
      have h1 : 2 ^ (List.length (Graph.Rows g)) ≤ 2 ^ 5 := Nat.pow_le_pow_right (by decide) h5
      rw [pow_cast]
      omega
    exact ⟨hV, hr.1, by omega⟩

def FnSubsetSize_l0 (code : List Int) : Nat → Int → Nat → Int
  | 0, product1, i => product1
  | k + 1, product1, i => (bif (decide (((i : Nat) : Int) < ((List.length (Graph.Rows ((DrawSubsetSize code).1)) : Nat) : Int))) then (bif (((((DrawSubsetSize code).2) / 2 ^ i) % 2) == 1) then (FnSubsetSize_l0 code k (product1 * (List.getD (Graph.Rows ((DrawSubsetSize code).1)) i 0)) (i + 1)) else (FnSubsetSize_l0 code k product1 (i + 1))) else product1)

def FnSubsetSize (code : List Int) : Bool := (bif (decide (1048576 < ((List.length code : Nat) : Int))) then true else (bif (bif ((iSubsetSize ((DrawSubsetSize code).1) ((DrawSubsetSize code).2)) != (SubsetSize ((DrawSubsetSize code).1) ((DrawSubsetSize code).2))) then true else (decide ((iSubsetSize ((DrawSubsetSize code).1) ((DrawSubsetSize code).2)) < 0))) then ((iSubsetSize ((DrawSubsetSize code).1) ((DrawSubsetSize code).2)) == (SubsetSize ((DrawSubsetSize code).1) ((DrawSubsetSize code).2))) else (Go.Am.andThen (FnSubsetSize_l0 code ((List.length (Graph.Rows ((DrawSubsetSize code).1))) - 0 + 1) 1 0) (fun z => (fun (product1 : Int) => (bif (bif (decide (1 ≤ (iSubsetSize ((DrawSubsetSize code).1) ((DrawSubsetSize code).2)))) then ((iSubsetSize (Graph.mk (Graph.Rows ((DrawSubsetSize code).1)) []) ((DrawSubsetSize code).2)) == product1) else false) then (decide ((iSubsetSize ((DrawSubsetSize code).1) ((DrawSubsetSize code).2)) ≤ (iSubsetSize (Graph.mk (Graph.Rows ((DrawSubsetSize code).1)) (List.take (Int.toNat (((List.length (Graph.Edges ((DrawSubsetSize code).1)) : Nat) : Int) / 2)) (Graph.Edges ((DrawSubsetSize code).1)))) ((DrawSubsetSize code).2)))) else false)) z))))

def FnSubsetSize_sp : FnSpec := mkSpec [.val (.slice (.int .u8))] [.val .bool] (fun (code : List Int) => True) (fun (code : List Int) => [⟨.bool, (FnSubsetSize code)⟩])

theorem FnSubsetSize_ok : FnOK Try.prog 3 FnSubsetSize_sp := by
  have hC : CtxOK Try.prog (mkCtx tyL [(15, DrawSubsetSize_sp), (16, iSubsetSize_sp), (17, SubsetSize_sp)]) := CtxOK.cons DrawSubsetSize_ok (CtxOK.cons iSubsetSize_ok (CtxOK.cons SubsetSize_ok (CtxOK.nil tyOK)))
  have hM : Try.prog.follows .mixedOrders = true := Try.checked.mixed
  refine FnOK.of_body Try.func3 (by kernel_rfl) rfl (C := (mkCtx tyL [(15, DrawSubsetSize_sp), (16, iSubsetSize_sp), (17, SubsetSize_sp)])) hC.ty (by kernel_rfl) ?_
  intro (code : List Int) hwf hpre E
  have hpre : True := hpre
  have hw_code : Wf ⟨(.slice (.int .u8)), (code : List Int)⟩ := hwf _ (List.Mem.head _)
  have hl_code : ((List.length code : Nat) : Int) ≤ 9223372036854775807 := hw_code.len
  have e0 : FnSubsetSize code = FnSubsetSize code := rfl
  refine AW.seq ?_
  refine AW.reg hC  false [] [0] []
    ⟨[(0, .data (.slice (.int .u8)) (code : List Int))], []⟩
    [] (by kernel_rfl) ?_ ?_
  · exact trivial
  refine AW.seq ?_
  refine AW.seq ?_
  refine AW.reg hC  false [] [0, 11] []
    ⟨[(0, .data (.slice (.int .u8)) (code : List Int)), (11, .bool (decide (1048576 < ((List.length code : Nat) : Int))))], []⟩
    [] (by kernel_rfl) ?_ ?_
  · exact trivial
  refine AW.cond (b := (decide (1048576 < ((List.length code : Nat) : Int)))) (by kernel_rfl) ?_ ?_
  · intro h1
    have h1q : 1048576 < ((List.length code : Nat) : Int) := (of_decide_eq_true h1)
    have e2 := e0.trans (Go.Am.bif_t h1)
    refine AW.seq ?_
    refine AW.reg hC  false [] [2] []
      ⟨[(2, .bool true)], []⟩
      [] (by kernel_rfl) ?_ ?_
    · exact trivial
    refine AW.ret ?_
    exact AW.retE (β := Bool) (fun v => [⟨.bool, v⟩]) (fun v => []) (v := true) e2 (by kernel_rfl) rfl rfl
  · intro h3
    have h3q : ¬ (1048576 < ((List.length code : Nat) : Int)) := (of_decide_eq_false h3)
    have e4 := e0.trans (Go.Am.bif_f h3)
    refine AW.keep [0] [] ⟨[(0, .data (.slice (.int .u8)) (code : List Int))], []⟩ (by kernel_rfl) ?_
    refine AW.skip ?_
    refine AW.seq ?_
    refine AW.reg hC  false [] [3, 4] [12]
      ⟨[(3, .ref 12 1 0), (4, .int .i64 ((DrawSubsetSize code).2))], [(12, .box 1 [.data (.slice (.int .i64)) ((Graph.Rows ((DrawSubsetSize code).1)) : List Int), .data (.slice (.named 0)) ((Graph.Edges ((DrawSubsetSize code).1)) : List Edge)])]⟩
      [(True)] (by kernel_rfl) ?_ ?_
    · refine ⟨?_, trivial⟩
      · trivial
    refine AW.seq ?_
    refine AW.reg hC  false [] [3, 4, 5] [12]
      ⟨[(3, .ref 12 1 0), (4, .int .i64 ((DrawSubsetSize code).2)), (5, .int .i64 (iSubsetSize ((DrawSubsetSize code).1) ((DrawSubsetSize code).2)))], [(12, .box 1 [.data (.slice (.int .i64)) ((Graph.Rows ((DrawSubsetSize code).1)) : List Int), .data (.slice (.named 0)) ((Graph.Edges ((DrawSubsetSize code).1)) : List Edge)])]⟩
      [(True)] (by kernel_rfl) ?_ ?_
    · refine ⟨?_, trivial⟩
      · trivial
    refine AW.seq ?_
    refine AW.seq ?_
    refine AW.reg hC  false [] [3, 4, 5, 28] [12]
      ⟨[(3, .ref 12 1 0), (4, .int .i64 ((DrawSubsetSize code).2)), (5, .int .i64 (iSubsetSize ((DrawSubsetSize code).1) ((DrawSubsetSize code).2))), (28, .bool (bif ((iSubsetSize ((DrawSubsetSize code).1) ((DrawSubsetSize code).2)) != (SubsetSize ((DrawSubsetSize code).1) ((DrawSubsetSize code).2))) then true else (decide ((iSubsetSize ((DrawSubsetSize code).1) ((DrawSubsetSize code).2)) < 0))))], [(12, .box 1 [.data (.slice (.int .i64)) ((Graph.Rows ((DrawSubsetSize code).1)) : List Int), .data (.slice (.named 0)) ((Graph.Edges ((DrawSubsetSize code).1)) : List Edge)])]⟩
      [(True), ((((iSubsetSize ((DrawSubsetSize code).1) ((DrawSubsetSize code).2)) != (SubsetSize ((DrawSubsetSize code).1) ((DrawSubsetSize code).2))) = false) → ((((iSubsetSize ((DrawSubsetSize code).1) ((DrawSubsetSize code).2)) != (SubsetSize ((DrawSubsetSize code).1) ((DrawSubsetSize code).2))) = false))), ((((iSubsetSize ((DrawSubsetSize code).1) ((DrawSubsetSize code).2)) != (SubsetSize ((DrawSubsetSize code).1) ((DrawSubsetSize code).2))) = false) → ((((iSubsetSize ((DrawSubsetSize code).1) ((DrawSubsetSize code).2)) != (SubsetSize ((DrawSubsetSize code).1) ((DrawSubsetSize code).2))) = false)))] (by kernel_rfl) ?_ ?_
    · refine ⟨?_, ?_, ?_, trivial⟩
      · trivial
      · intro g5
        have g5p0 : (iSubsetSize ((DrawSubsetSize code).1) ((DrawSubsetSize code).2)) = (SubsetSize ((DrawSubsetSize code).1) ((DrawSubsetSize code).2)) := (Go.Am.bne_neg g5)
        first | assumption | exact ⟨by assumption, by assumption⟩
      · intro g6
        have g6p0 : (iSubsetSize ((DrawSubsetSize code).1) ((DrawSubsetSize code).2)) = (SubsetSize ((DrawSubsetSize code).1) ((DrawSubsetSize code).2)) := (Go.Am.bne_neg g6)
        first | assumption | exact ⟨by assumption, by assumption⟩
    refine AW.cond (b := (bif ((iSubsetSize ((DrawSubsetSize code).1) ((DrawSubsetSize code).2)) != (SubsetSize ((DrawSubsetSize code).1) ((DrawSubsetSize code).2))) then true else (decide ((iSubsetSize ((DrawSubsetSize code).1) ((DrawSubsetSize code).2)) < 0)))) (by kernel_rfl) ?_ ?_
    · intro h7
      have h7q : ((iSubsetSize ((DrawSubsetSize code).1) ((DrawSubsetSize code).2)) ≠ (SubsetSize ((DrawSubsetSize code).1) ((DrawSubsetSize code).2))) ∨ ((iSubsetSize ((DrawSubsetSize code).1) ((DrawSubsetSize code).2)) < 0) := (Or.imp (fun h => (Go.Am.bne_pos h)) (fun h => (of_decide_eq_true h)) (Go.Am.or_pos h7))
      have e8 := e4.trans (Go.Am.bif_t h7)
      refine AW.seq ?_
      refine AW.reg hC  false [] [2] []
        ⟨[(2, .bool ((iSubsetSize ((DrawSubsetSize code).1) ((DrawSubsetSize code).2)) == (SubsetSize ((DrawSubsetSize code).1) ((DrawSubsetSize code).2))))], []⟩
        [(True)] (by kernel_rfl) ?_ ?_
      · refine ⟨?_, trivial⟩
        · trivial
      refine AW.ret ?_
      exact AW.retE (β := Bool) (fun v => [⟨.bool, v⟩]) (fun v => []) (v := ((iSubsetSize ((DrawSubsetSize code).1) ((DrawSubsetSize code).2)) == (SubsetSize ((DrawSubsetSize code).1) ((DrawSubsetSize code).2)))) e8 (by kernel_rfl) rfl rfl
    · intro h9
      have h9q : ((iSubsetSize ((DrawSubsetSize code).1) ((DrawSubsetSize code).2)) = (SubsetSize ((DrawSubsetSize code).1) ((DrawSubsetSize code).2))) ∧ (¬ ((iSubsetSize ((DrawSubsetSize code).1) ((DrawSubsetSize code).2)) < 0)) := (And.imp (fun h => (Go.Am.bne_neg h)) (fun h => (of_decide_eq_false h)) (Go.Am.or_neg h9))
      have e10 := e4.trans (Go.Am.bif_f h9)
      refine AW.keep [3, 4, 5] [12] ⟨[(3, .ref 12 1 0), (4, .int .i64 ((DrawSubsetSize code).2)), (5, .int .i64 (iSubsetSize ((DrawSubsetSize code).1) ((DrawSubsetSize code).2)))], [(12, .box 1 [.data (.slice (.int .i64)) ((Graph.Rows ((DrawSubsetSize code).1)) : List Int), .data (.slice (.named 0)) ((Graph.Edges ((DrawSubsetSize code).1)) : List Edge)])]⟩ (by kernel_rfl) ?_
      refine AW.skip ?_
      refine AW.seq ?_
      refine AW.reg hC  false [] [3, 4, 5, 6] [12]
        ⟨[(3, .ref 12 1 0), (4, .int .i64 ((DrawSubsetSize code).2)), (5, .int .i64 (iSubsetSize ((DrawSubsetSize code).1) ((DrawSubsetSize code).2))), (6, .int .i64 1)], [(12, .box 1 [.data (.slice (.int .i64)) ((Graph.Rows ((DrawSubsetSize code).1)) : List Int), .data (.slice (.named 0)) ((Graph.Edges ((DrawSubsetSize code).1)) : List Edge)])]⟩
        [] (by kernel_rfl) ?_ ?_
      · exact trivial
      refine AW.seq ?_
      refine AW.seq ?_
      have hcS := sub_valid (g := (DrawSubsetSize code).1) (m := (DrawSubsetSize code).2) (by rw [← h9q.1]; exact h9q.2)
      refine AW.reg hC  false [] [3, 4, 5, 6, 7] [12]
        ⟨[(3, .ref 12 1 0), (4, .int .i64 ((DrawSubsetSize code).2)), (5, .int .i64 (iSubsetSize ((DrawSubsetSize code).1) ((DrawSubsetSize code).2))), (6, .int .i64 1), (7, .int .i64 0)], [(12, .box 1 [.data (.slice (.int .i64)) ((Graph.Rows ((DrawSubsetSize code).1)) : List Int), .data (.slice (.named 0)) ((Graph.Edges ((DrawSubsetSize code).1)) : List Edge)])]⟩
        [] (by kernel_rfl) ?_ ?_
      · exact trivial
      refine AW.cutQ (α := Int) (fun x => ⟨[(3, .ref 12 1 0), (4, .int .i64 ((DrawSubsetSize code).2)), (5, .int .i64 (iSubsetSize ((DrawSubsetSize code).1) ((DrawSubsetSize code).2))), (6, .int .i64 x)], [(12, .box 1 [.data (.slice (.int .i64)) ((Graph.Rows ((DrawSubsetSize code).1)) : List Int), .data (.slice (.named 0)) ((Graph.Edges ((DrawSubsetSize code).1)) : List Edge)])]⟩) (fun x => (1 ≤ x) ∧ (FnSubsetSize_l0 code ((List.length (Graph.Rows ((DrawSubsetSize code).1))) - 0 + 1) 1 0) = x) ?_ ?_
      · skip
        refine AW.block ?_
        refine AW.loop (α := Int × Nat) (fun x => ⟨[(3, .ref 12 1 0), (4, .int .i64 ((DrawSubsetSize code).2)), (5, .int .i64 (iSubsetSize ((DrawSubsetSize code).1) ((DrawSubsetSize code).2))), (6, .int .i64 x.1), (7, .int .i64 ((x.2 : Nat) : Int))], [(12, .box 1 [.data (.slice (.int .i64)) ((Graph.Rows ((DrawSubsetSize code).1)) : List Int), .data (.slice (.named 0)) ((Graph.Edges ((DrawSubsetSize code).1)) : List Edge)])]⟩) (fun x => ((1 ≤ x.1 ∧ x.1 ≤ 1000 ^ x.2) ∧ x.2 ≤ 5) ∧ ∃ k, (List.length (Graph.Rows ((DrawSubsetSize code).1))) - x.2 < k ∧ (FnSubsetSize_l0 code ((List.length (Graph.Rows ((DrawSubsetSize code).1))) - 0 + 1) 1 0) = FnSubsetSize_l0 code k x.1 x.2) (fun x => (List.length (Graph.Rows ((DrawSubsetSize code).1))) - x.2) (1, 0) (by kernel_rfl) ⟨?_, _, Nat.lt_succ_self _, rfl⟩ ?_
        · show (1 ≤ 1 ∧ 1 ≤ 1000 ^ 0) ∧ 0 ≤ 5
          exact ⟨⟨by decide, by decide⟩, by decide⟩
        · intro x hR
          obtain ⟨product1, i⟩ := x
          obtain ⟨hI0, k45, hk43, e44⟩ := hR
          replace hI0 : (1 ≤ product1 ∧ product1 ≤ 1000 ^ i) ∧ i ≤ 5 := hI0
          replace hk43 : (List.length (Graph.Rows ((DrawSubsetSize code).1))) - i < k45 := hk43
          obtain ⟨k45q, rfl⟩ : ∃ k, k45 = k + 1 := ⟨k45 - 1, by omega⟩
          have hS := hcS
          have hr := fun (h : i < (DrawSubsetSize code).1.Rows.length) => hS.1.rows _ (getD_mem (DrawSubsetSize code).1.Rows i 0 h)
          have hn5 := hS.1.n5
          have hp5 := fun (h : i < 5) => pow5 (i := i + 1) (by omega)
          refine AW.seq ?_
          refine AW.seq ?_
          refine AW.reg hC  false [] [3, 4, 5, 6, 7, 38] [12]
            ⟨[(3, .ref 12 1 0), (4, .int .i64 ((DrawSubsetSize code).2)), (5, .int .i64 (iSubsetSize ((DrawSubsetSize code).1) ((DrawSubsetSize code).2))), (6, .int .i64 product1), (7, .int .i64 ((i : Nat) : Int)), (38, .bool (decide (((i : Nat) : Int) < ((List.length (Graph.Rows ((DrawSubsetSize code).1)) : Nat) : Int))))], [(12, .box 1 [.data (.slice (.int .i64)) ((Graph.Rows ((DrawSubsetSize code).1)) : List Int), .data (.slice (.named 0)) ((Graph.Edges ((DrawSubsetSize code).1)) : List Edge)])]⟩
            [] (by kernel_rfl) ?_ ?_
          · exact trivial
          refine AW.cond (b := (decide (((i : Nat) : Int) < ((List.length (Graph.Rows ((DrawSubsetSize code).1)) : Nat) : Int)))) (by kernel_rfl) ?_ ?_
          · intro h46
            have h46q : ((i : Nat) : Int) < ((List.length (Graph.Rows ((DrawSubsetSize code).1)) : Nat) : Int) := (of_decide_eq_true h46)
            have e47 := e44.trans (Go.Am.bif_t h46)
            refine AW.keep [3, 4, 5, 6, 7] [12] ⟨[(3, .ref 12 1 0), (4, .int .i64 ((DrawSubsetSize code).2)), (5, .int .i64 (iSubsetSize ((DrawSubsetSize code).1) ((DrawSubsetSize code).2))), (6, .int .i64 product1), (7, .int .i64 ((i : Nat) : Int))], [(12, .box 1 [.data (.slice (.int .i64)) ((Graph.Rows ((DrawSubsetSize code).1)) : List Int), .data (.slice (.named 0)) ((Graph.Edges ((DrawSubsetSize code).1)) : List Edge)])]⟩ (by kernel_rfl) ?_
            refine AW.skip ?_
            refine AW.seq ?_
            refine AW.block ?_
            refine AW.seq ?_
            refine AW.reg hC  false [] [3, 4, 5, 6, 7, 45] [12]
              ⟨[(3, .ref 12 1 0), (4, .int .i64 ((DrawSubsetSize code).2)), (5, .int .i64 (iSubsetSize ((DrawSubsetSize code).1) ((DrawSubsetSize code).2))), (6, .int .i64 product1), (7, .int .i64 ((i : Nat) : Int)), (45, .bool (((((DrawSubsetSize code).2) / 2 ^ i) % 2) == 1))], [(12, .box 1 [.data (.slice (.int .i64)) ((Graph.Rows ((DrawSubsetSize code).1)) : List Int), .data (.slice (.named 0)) ((Graph.Edges ((DrawSubsetSize code).1)) : List Edge)])]⟩
              [(0 ≤ ((i : Nat) : Int) ∧ ((i : Nat) : Int) ≤ 64), (0 ≤ (((DrawSubsetSize code).2) / 2 ^ i) ∧ 0 < (2 : Int))] (by kernel_rfl) ?_ ?_
            · refine ⟨?_, ?_, trivial⟩
              · -- r11.0: 0 ≤ ((i : Nat) : Int) ∧ ((i : Nat) : Int) ≤ 64
                first | omega | (dsimp only; omega) | (simp only [List.length_set, List.length_append, List.length_replicate, List.length_cons, List.length_nil, List.length_take, List.length_drop] at *; omega)
              · -- r11.1: 0 ≤ (((DrawSubsetSize code).2) / 2 ^ i) ∧ 0 < (2 : Int)
                first | omega | exact ⟨Int.ediv_nonneg (by have := hcS.2; omega) (Int.pow_nonneg (by decide)), by decide⟩
            refine AW.cond (b := (((((DrawSubsetSize code).2) / 2 ^ i) % 2) == 1)) (by kernel_rfl) ?_ ?_
            · intro h48
              have h48q : ((((DrawSubsetSize code).2) / 2 ^ i) % 2) = 1 := (Go.Am.beq_pos h48)
              have e49 := e47.trans (Go.Am.bif_t h48)
              refine AW.reg hC  false [] [3, 4, 5, 6, 7] [12]
                ⟨[(3, .ref 12 1 0), (4, .int .i64 ((DrawSubsetSize code).2)), (5, .int .i64 (iSubsetSize ((DrawSubsetSize code).1) ((DrawSubsetSize code).2))), (6, .int .i64 (product1 * (List.getD (Graph.Rows ((DrawSubsetSize code).1)) i 0))), (7, .int .i64 ((i : Nat) : Int))], [(12, .box 1 [.data (.slice (.int .i64)) ((Graph.Rows ((DrawSubsetSize code).1)) : List Int), .data (.slice (.named 0)) ((Graph.Edges ((DrawSubsetSize code).1)) : List Edge)])]⟩
                [(0 ≤ ((i : Nat) : Int) ∧ ((i : Nat) : Int) < ((List.length (Graph.Rows ((DrawSubsetSize code).1)) : Nat) : Int)), (-9223372036854775808 ≤ (product1 * (List.getD (Graph.Rows ((DrawSubsetSize code).1)) i 0)) ∧ (product1 * (List.getD (Graph.Rows ((DrawSubsetSize code).1)) i 0)) ≤ 9223372036854775807)] (by kernel_rfl) ?_ ?_
              · refine ⟨?_, ?_, trivial⟩
                · -- r12.0: 0 ≤ ((i : Nat) : Int) ∧ ((i : Nat) : Int) < ((List.length (Graph.Rows ((DrawSubsetSize code).1)) : Nat) : Int)
                  first | omega | (dsimp only; omega) | (simp only [List.length_set, List.length_append, List.length_replicate, List.length_cons, List.length_nil, List.length_take, List.length_drop] at *; omega)
                · -- r12.1: -9223372036854775808 ≤ (product1 * (List.getD (Graph.Rows ((DrawSubsetSize code).1)) i 0)) ∧ (product1 * (List.getD (Graph.Rows ((DrawSubsetSize code).1)) i 0)) ≤ 9223372036854775807
                  have := times hI0.1.1 hI0.1.2 (hr (by omega)).1 (hr (by omega)).2
                  have := hp5 (by omega)
                  omega
              refine AW.reg hC  false [] [3, 4, 5, 6, 7] [12]
                ⟨[(3, .ref 12 1 0), (4, .int .i64 ((DrawSubsetSize code).2)), (5, .int .i64 (iSubsetSize ((DrawSubsetSize code).1) ((DrawSubsetSize code).2))), (6, .int .i64 (product1 * (List.getD (Graph.Rows ((DrawSubsetSize code).1)) i 0))), (7, .int .i64 ((i + 1 : Nat) : Int))], [(12, .box 1 [.data (.slice (.int .i64)) ((Graph.Rows ((DrawSubsetSize code).1)) : List Int), .data (.slice (.named 0)) ((Graph.Edges ((DrawSubsetSize code).1)) : List Edge)])]⟩
                [(-9223372036854775808 ≤ ((i + 1 : Nat) : Int) ∧ ((i + 1 : Nat) : Int) ≤ 9223372036854775807)] (by kernel_rfl) ?_ ?_
              · refine ⟨?_, trivial⟩
                · -- r10.0: -9223372036854775808 ≤ ((i + 1 : Nat) : Int) ∧ ((i + 1 : Nat) : Int) ≤ 9223372036854775807
                  first | omega | (dsimp only; omega) | (simp only [List.length_set, List.length_append, List.length_replicate, List.length_cons, List.length_nil, List.length_take, List.length_drop] at *; omega)
              refine AW.back (x := (product1, i)) ((product1 * (List.getD (Graph.Rows ((DrawSubsetSize code).1)) i 0)), i + 1) (by kernel_rfl) ⟨?_, k45q, ?_, e49⟩ ?_
              · show (1 ≤ (product1 * (List.getD (Graph.Rows ((DrawSubsetSize code).1)) i 0)) ∧ (product1 * (List.getD (Graph.Rows ((DrawSubsetSize code).1)) i 0)) ≤ 1000 ^ (i + 1)) ∧ (i + 1) ≤ 5
                exact ⟨times hI0.1.1 hI0.1.2 (hr (by omega)).1 (hr (by omega)).2, by omega⟩
              · show (List.length (Graph.Rows ((DrawSubsetSize code).1))) - (i + 1) < k45q
                first | omega | (simp only [List.length_set, List.length_append, List.length_replicate, List.length_cons, List.length_nil, List.length_take, List.length_drop]; omega)
              · show (List.length (Graph.Rows ((DrawSubsetSize code).1))) - (i + 1) < (List.length (Graph.Rows ((DrawSubsetSize code).1))) - i
                first | omega | (simp only [List.length_set, List.length_append, List.length_replicate, List.length_cons, List.length_nil, List.length_take, List.length_drop]; omega)
            · intro h50
              have h50q : ((((DrawSubsetSize code).2) / 2 ^ i) % 2) ≠ 1 := (Go.Am.beq_neg h50)
              have e51 := e47.trans (Go.Am.bif_f h50)
              refine AW.keep [3, 4, 5, 6, 7] [12] ⟨[(3, .ref 12 1 0), (4, .int .i64 ((DrawSubsetSize code).2)), (5, .int .i64 (iSubsetSize ((DrawSubsetSize code).1) ((DrawSubsetSize code).2))), (6, .int .i64 product1), (7, .int .i64 ((i : Nat) : Int))], [(12, .box 1 [.data (.slice (.int .i64)) ((Graph.Rows ((DrawSubsetSize code).1)) : List Int), .data (.slice (.named 0)) ((Graph.Edges ((DrawSubsetSize code).1)) : List Edge)])]⟩ (by kernel_rfl) ?_
              refine AW.skip ?_
              refine AW.reg hC  false [] [3, 4, 5, 6, 7] [12]
                ⟨[(3, .ref 12 1 0), (4, .int .i64 ((DrawSubsetSize code).2)), (5, .int .i64 (iSubsetSize ((DrawSubsetSize code).1) ((DrawSubsetSize code).2))), (6, .int .i64 product1), (7, .int .i64 ((i + 1 : Nat) : Int))], [(12, .box 1 [.data (.slice (.int .i64)) ((Graph.Rows ((DrawSubsetSize code).1)) : List Int), .data (.slice (.named 0)) ((Graph.Edges ((DrawSubsetSize code).1)) : List Edge)])]⟩
                [(-9223372036854775808 ≤ ((i + 1 : Nat) : Int) ∧ ((i + 1 : Nat) : Int) ≤ 9223372036854775807)] (by kernel_rfl) ?_ ?_
              · refine ⟨?_, trivial⟩
                · -- r10.0: -9223372036854775808 ≤ ((i + 1 : Nat) : Int) ∧ ((i + 1 : Nat) : Int) ≤ 9223372036854775807
                  first | omega | (dsimp only; omega) | (simp only [List.length_set, List.length_append, List.length_replicate, List.length_cons, List.length_nil, List.length_take, List.length_drop] at *; omega)
              refine AW.back (x := (product1, i)) (product1, i + 1) (by kernel_rfl) ⟨?_, k45q, ?_, e51⟩ ?_
              · show (1 ≤ product1 ∧ product1 ≤ 1000 ^ (i + 1)) ∧ (i + 1) ≤ 5
                exact ⟨⟨hI0.1.1, grow5 hI0.1.2⟩, by omega⟩
              · show (List.length (Graph.Rows ((DrawSubsetSize code).1))) - (i + 1) < k45q
                first | omega | (simp only [List.length_set, List.length_append, List.length_replicate, List.length_cons, List.length_nil, List.length_take, List.length_drop]; omega)
              · show (List.length (Graph.Rows ((DrawSubsetSize code).1))) - (i + 1) < (List.length (Graph.Rows ((DrawSubsetSize code).1))) - i
                first | omega | (simp only [List.length_set, List.length_append, List.length_replicate, List.length_cons, List.length_nil, List.length_take, List.length_drop]; omega)
          · intro h52
            have h52q : ¬ (((i : Nat) : Int) < ((List.length (Graph.Rows ((DrawSubsetSize code).1)) : Nat) : Int)) := (of_decide_eq_false h52)
            have e53 := e44.trans (Go.Am.bif_f h52)
            refine AW.keep [3, 4, 5, 6] [12] ⟨[(3, .ref 12 1 0), (4, .int .i64 ((DrawSubsetSize code).2)), (5, .int .i64 (iSubsetSize ((DrawSubsetSize code).1) ((DrawSubsetSize code).2))), (6, .int .i64 product1)], [(12, .box 1 [.data (.slice (.int .i64)) ((Graph.Rows ((DrawSubsetSize code).1)) : List Int), .data (.slice (.named 0)) ((Graph.Edges ((DrawSubsetSize code).1)) : List Edge)])]⟩ (by kernel_rfl) ?_
            refine AW.exit ?_
            refine AW.meet product1 (by kernel_rfl) ⟨?_, e53⟩
            show 1 ≤ product1
            exact hI0.1.1
      · intro product1 hR
        obtain ⟨hJ0, e54⟩ := hR
        replace hJ0 : 1 ≤ product1 := hJ0
        have e55 := e10.trans (Go.Am.then_eq e54)
        refine AW.seq ?_
        refine AW.regD hC hM  false [] [3, 4, 5, 6, 8] [12, 32]
          ⟨[(3, .ref 12 1 0), (4, .int .i64 ((DrawSubsetSize code).2)), (5, .int .i64 (iSubsetSize ((DrawSubsetSize code).1) ((DrawSubsetSize code).2))), (6, .int .i64 product1), (8, .ref 32 1 0)], [(12, .box 1 [.data (.slice (.int .i64)) ((Graph.Rows ((DrawSubsetSize code).1)) : List Int), .data (.slice (.named 0)) ((Graph.Edges ((DrawSubsetSize code).1)) : List Edge)]), (32, .box 1 [.data (.slice (.int .i64)) ((Graph.Rows ((DrawSubsetSize code).1)) : List Int), .data (.slice (.named 0)) ((List.take (Int.toNat (((List.length (Graph.Edges ((DrawSubsetSize code).1)) : Nat) : Int) / 2)) (Graph.Edges ((DrawSubsetSize code).1))) : List Edge)])]⟩
          [(0 ≤ ((List.length (Graph.Edges ((DrawSubsetSize code).1)) : Nat) : Int) ∧ 0 < (2 : Int)), (0 ≤ (((List.length (Graph.Edges ((DrawSubsetSize code).1)) : Nat) : Int) / 2) ∧ (((List.length (Graph.Edges ((DrawSubsetSize code).1)) : Nat) : Int) / 2) ≤ ((List.length (Graph.Edges ((DrawSubsetSize code).1)) : Nat) : Int))] (by kernel_rfl) ?_ ?_
        · refine ⟨?_, ?_, trivial⟩
          · -- r13.0: 0 ≤ ((List.length (Graph.Edges ((DrawSubsetSize code).1)) : Nat) : Int) ∧ 0 < (2 : Int)
            first | omega | exact ⟨Int.ediv_nonneg (by have := hcS.2; omega) (Int.pow_nonneg (by decide)), by decide⟩
          · -- r13.1: 0 ≤ (((List.length (Graph.Edges ((DrawSubsetSize code).1)) : Nat) : Int) / 2) ∧ (((List.length (Graph.Edges ((DrawSubsetSize code).1)) : Nat) : Int) / 2) ≤ ((List.length (Graph.Edges ((DrawSubsetSize code).1)) : Nat) : Int)
            first | omega | (dsimp only; omega) | (simp only [List.length_set, List.length_append, List.length_replicate, List.length_cons, List.length_nil, List.length_take, List.length_drop] at *; omega)
        refine AW.seq ?_
        refine AW.reg hC  false [] [2] []
          ⟨[(2, .bool (bif (bif (decide (1 ≤ (iSubsetSize ((DrawSubsetSize code).1) ((DrawSubsetSize code).2)))) then ((iSubsetSize (Graph.mk (Graph.Rows ((DrawSubsetSize code).1)) []) ((DrawSubsetSize code).2)) == product1) else false) then (decide ((iSubsetSize ((DrawSubsetSize code).1) ((DrawSubsetSize code).2)) ≤ (iSubsetSize (Graph.mk (Graph.Rows ((DrawSubsetSize code).1)) (List.take (Int.toNat (((List.length (Graph.Edges ((DrawSubsetSize code).1)) : Nat) : Int) / 2)) (Graph.Edges ((DrawSubsetSize code).1)))) ((DrawSubsetSize code).2)))) else false))], []⟩
          [(((decide (1 ≤ (iSubsetSize ((DrawSubsetSize code).1) ((DrawSubsetSize code).2)))) = true) → (((decide (1 ≤ (iSubsetSize ((DrawSubsetSize code).1) ((DrawSubsetSize code).2)))) = true))), (((decide (1 ≤ (iSubsetSize ((DrawSubsetSize code).1) ((DrawSubsetSize code).2)))) = true) → (((decide (1 ≤ (iSubsetSize ((DrawSubsetSize code).1) ((DrawSubsetSize code).2)))) = true))), (((decide (1 ≤ (iSubsetSize ((DrawSubsetSize code).1) ((DrawSubsetSize code).2)))) = true) → (((decide (1 ≤ (iSubsetSize ((DrawSubsetSize code).1) ((DrawSubsetSize code).2)))) = true))), (((decide (1 ≤ (iSubsetSize ((DrawSubsetSize code).1) ((DrawSubsetSize code).2)))) = true) → (((decide (1 ≤ (iSubsetSize ((DrawSubsetSize code).1) ((DrawSubsetSize code).2)))) = true))), (((decide (1 ≤ (iSubsetSize ((DrawSubsetSize code).1) ((DrawSubsetSize code).2)))) = true) → (True)), (((decide (1 ≤ (iSubsetSize ((DrawSubsetSize code).1) ((DrawSubsetSize code).2)))) = true) → (((decide (1 ≤ (iSubsetSize ((DrawSubsetSize code).1) ((DrawSubsetSize code).2)))) = true))), (((decide (1 ≤ (iSubsetSize ((DrawSubsetSize code).1) ((DrawSubsetSize code).2)))) = true) → (((decide (1 ≤ (iSubsetSize ((DrawSubsetSize code).1) ((DrawSubsetSize code).2)))) = true))), (((decide (1 ≤ (iSubsetSize ((DrawSubsetSize code).1) ((DrawSubsetSize code).2)))) = true) → (((decide (1 ≤ (iSubsetSize ((DrawSubsetSize code).1) ((DrawSubsetSize code).2)))) = true))), (((bif (decide (1 ≤ (iSubsetSize ((DrawSubsetSize code).1) ((DrawSubsetSize code).2)))) then ((iSubsetSize (Graph.mk (Graph.Rows ((DrawSubsetSize code).1)) []) ((DrawSubsetSize code).2)) == product1) else false) = true) → (((bif (decide (1 ≤ (iSubsetSize ((DrawSubsetSize code).1) ((DrawSubsetSize code).2)))) then ((iSubsetSize (Graph.mk (Graph.Rows ((DrawSubsetSize code).1)) []) ((DrawSubsetSize code).2)) == product1) else false) = true))), (((bif (decide (1 ≤ (iSubsetSize ((DrawSubsetSize code).1) ((DrawSubsetSize code).2)))) then ((iSubsetSize (Graph.mk (Graph.Rows ((DrawSubsetSize code).1)) []) ((DrawSubsetSize code).2)) == product1) else false) = true) → (((bif (decide (1 ≤ (iSubsetSize ((DrawSubsetSize code).1) ((DrawSubsetSize code).2)))) then ((iSubsetSize (Graph.mk (Graph.Rows ((DrawSubsetSize code).1)) []) ((DrawSubsetSize code).2)) == product1) else false) = true))), (((bif (decide (1 ≤ (iSubsetSize ((DrawSubsetSize code).1) ((DrawSubsetSize code).2)))) then ((iSubsetSize (Graph.mk (Graph.Rows ((DrawSubsetSize code).1)) []) ((DrawSubsetSize code).2)) == product1) else false) = true) → (True)), (((bif (decide (1 ≤ (iSubsetSize ((DrawSubsetSize code).1) ((DrawSubsetSize code).2)))) then ((iSubsetSize (Graph.mk (Graph.Rows ((DrawSubsetSize code).1)) []) ((DrawSubsetSize code).2)) == product1) else false) = true) → (((bif (decide (1 ≤ (iSubsetSize ((DrawSubsetSize code).1) ((DrawSubsetSize code).2)))) then ((iSubsetSize (Graph.mk (Graph.Rows ((DrawSubsetSize code).1)) []) ((DrawSubsetSize code).2)) == product1) else false) = true))), (((bif (decide (1 ≤ (iSubsetSize ((DrawSubsetSize code).1) ((DrawSubsetSize code).2)))) then ((iSubsetSize (Graph.mk (Graph.Rows ((DrawSubsetSize code).1)) []) ((DrawSubsetSize code).2)) == product1) else false) = true) → (((bif (decide (1 ≤ (iSubsetSize ((DrawSubsetSize code).1) ((DrawSubsetSize code).2)))) then ((iSubsetSize (Graph.mk (Graph.Rows ((DrawSubsetSize code).1)) []) ((DrawSubsetSize code).2)) == product1) else false) = true))), (((bif (decide (1 ≤ (iSubsetSize ((DrawSubsetSize code).1) ((DrawSubsetSize code).2)))) then ((iSubsetSize (Graph.mk (Graph.Rows ((DrawSubsetSize code).1)) []) ((DrawSubsetSize code).2)) == product1) else false) = true) → (((bif (decide (1 ≤ (iSubsetSize ((DrawSubsetSize code).1) ((DrawSubsetSize code).2)))) then ((iSubsetSize (Graph.mk (Graph.Rows ((DrawSubsetSize code).1)) []) ((DrawSubsetSize code).2)) == product1) else false) = true)))] (by kernel_rfl) ?_ ?_
        · refine ⟨?_, ?_, ?_, ?_, ?_, ?_, ?_, ?_, ?_, ?_, ?_, ?_, ?_, ?_, trivial⟩
          · intro g56
            have g56p0 : 1 ≤ (iSubsetSize ((DrawSubsetSize code).1) ((DrawSubsetSize code).2)) := (of_decide_eq_true g56)
            first | assumption | exact ⟨by assumption, by assumption⟩
          · intro g57
            have g57p0 : 1 ≤ (iSubsetSize ((DrawSubsetSize code).1) ((DrawSubsetSize code).2)) := (of_decide_eq_true g57)
            first | assumption | exact ⟨by assumption, by assumption⟩
          · intro g58
            have g58p0 : 1 ≤ (iSubsetSize ((DrawSubsetSize code).1) ((DrawSubsetSize code).2)) := (of_decide_eq_true g58)
            first | assumption | exact ⟨by assumption, by assumption⟩
          · intro g59
            have g59p0 : 1 ≤ (iSubsetSize ((DrawSubsetSize code).1) ((DrawSubsetSize code).2)) := (of_decide_eq_true g59)
            first | assumption | exact ⟨by assumption, by assumption⟩
          · intro g60
            have g60p0 : 1 ≤ (iSubsetSize ((DrawSubsetSize code).1) ((DrawSubsetSize code).2)) := (of_decide_eq_true g60)
            trivial
          · intro g61
            have g61p0 : 1 ≤ (iSubsetSize ((DrawSubsetSize code).1) ((DrawSubsetSize code).2)) := (of_decide_eq_true g61)
            first | assumption | exact ⟨by assumption, by assumption⟩
          · intro g62
            have g62p0 : 1 ≤ (iSubsetSize ((DrawSubsetSize code).1) ((DrawSubsetSize code).2)) := (of_decide_eq_true g62)
            first | assumption | exact ⟨by assumption, by assumption⟩
          · intro g63
            have g63p0 : 1 ≤ (iSubsetSize ((DrawSubsetSize code).1) ((DrawSubsetSize code).2)) := (of_decide_eq_true g63)
            first | assumption | exact ⟨by assumption, by assumption⟩
          · intro g64
            have g64p0 : (1 ≤ (iSubsetSize ((DrawSubsetSize code).1) ((DrawSubsetSize code).2))) ∧ ((iSubsetSize (Graph.mk (Graph.Rows ((DrawSubsetSize code).1)) []) ((DrawSubsetSize code).2)) = product1) := (And.imp (fun h => (of_decide_eq_true h)) (fun h => (Go.Am.beq_pos h)) (Go.Am.and_pos g64))
            first | assumption | exact ⟨by assumption, by assumption⟩
          · intro g65
            have g65p0 : (1 ≤ (iSubsetSize ((DrawSubsetSize code).1) ((DrawSubsetSize code).2))) ∧ ((iSubsetSize (Graph.mk (Graph.Rows ((DrawSubsetSize code).1)) []) ((DrawSubsetSize code).2)) = product1) := (And.imp (fun h => (of_decide_eq_true h)) (fun h => (Go.Am.beq_pos h)) (Go.Am.and_pos g65))
            first | assumption | exact ⟨by assumption, by assumption⟩
          · intro g66
            have g66p0 : (1 ≤ (iSubsetSize ((DrawSubsetSize code).1) ((DrawSubsetSize code).2))) ∧ ((iSubsetSize (Graph.mk (Graph.Rows ((DrawSubsetSize code).1)) []) ((DrawSubsetSize code).2)) = product1) := (And.imp (fun h => (of_decide_eq_true h)) (fun h => (Go.Am.beq_pos h)) (Go.Am.and_pos g66))
            trivial
          · intro g67
            have g67p0 : (1 ≤ (iSubsetSize ((DrawSubsetSize code).1) ((DrawSubsetSize code).2))) ∧ ((iSubsetSize (Graph.mk (Graph.Rows ((DrawSubsetSize code).1)) []) ((DrawSubsetSize code).2)) = product1) := (And.imp (fun h => (of_decide_eq_true h)) (fun h => (Go.Am.beq_pos h)) (Go.Am.and_pos g67))
            first | assumption | exact ⟨by assumption, by assumption⟩
          · intro g68
            have g68p0 : (1 ≤ (iSubsetSize ((DrawSubsetSize code).1) ((DrawSubsetSize code).2))) ∧ ((iSubsetSize (Graph.mk (Graph.Rows ((DrawSubsetSize code).1)) []) ((DrawSubsetSize code).2)) = product1) := (And.imp (fun h => (of_decide_eq_true h)) (fun h => (Go.Am.beq_pos h)) (Go.Am.and_pos g68))
            first | assumption | exact ⟨by assumption, by assumption⟩
          · intro g69
            have g69p0 : (1 ≤ (iSubsetSize ((DrawSubsetSize code).1) ((DrawSubsetSize code).2))) ∧ ((iSubsetSize (Graph.mk (Graph.Rows ((DrawSubsetSize code).1)) []) ((DrawSubsetSize code).2)) = product1) := (And.imp (fun h => (of_decide_eq_true h)) (fun h => (Go.Am.beq_pos h)) (Go.Am.and_pos g69))
            first | assumption | exact ⟨by assumption, by assumption⟩
        refine AW.ret ?_
        exact AW.retE (β := Bool) (fun v => [⟨.bool, v⟩]) (fun v => []) (v := (bif (bif (decide (1 ≤ (iSubsetSize ((DrawSubsetSize code).1) ((DrawSubsetSize code).2)))) then ((iSubsetSize (Graph.mk (Graph.Rows ((DrawSubsetSize code).1)) []) ((DrawSubsetSize code).2)) == product1) else false) then (decide ((iSubsetSize ((DrawSubsetSize code).1) ((DrawSubsetSize code).2)) ≤ (iSubsetSize (Graph.mk (Graph.Rows ((DrawSubsetSize code).1)) (List.take (Int.toNat (((List.length (Graph.Edges ((DrawSubsetSize code).1)) : Nat) : Int) / 2)) (Graph.Edges ((DrawSubsetSize code).1)))) ((DrawSubsetSize code).2)))) else false)) e55 (by kernel_rfl) rfl rfl

end
end Go.Proofs.Ytpoohhjlpepmfaa
