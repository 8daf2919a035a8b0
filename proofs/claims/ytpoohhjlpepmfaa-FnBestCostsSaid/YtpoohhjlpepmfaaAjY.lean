/-
  A part of the proof of this claim (AjY): what functions of the program compute, and plain facts of that. No conditions.
-/
import Derived.Test.YtpoohhjlpepmfaaAjX
import Derived.Test.YtpoohhjlpepmfaaAjK
set_option linter.all false
namespace Go.Proofs.Ytpoohhjlpepmfaa
open Go Go.Am
noncomputable section

def FnCheckCosts (code : List Int) : Bool := (bif (decide (1048576 < ((List.length code : Nat) : Int))) then true else (bif (bif ((iCheckCosts ((DrawCheckCosts code).1) ((DrawCheckCosts code).2)) != (CheckCosts ((DrawCheckCosts code).1) ((DrawCheckCosts code).2))) then true else (!(ValidGraph ((DrawCheckCosts code).1)))) then ((iCheckCosts ((DrawCheckCosts code).1) ((DrawCheckCosts code).2)) == (CheckCosts ((DrawCheckCosts code).1) ((DrawCheckCosts code).2))) else (bif ((iCheckCosts ((DrawCheckCosts code).1) ((DrawCheckCosts code).2)) == (equalInts ((DrawCheckCosts code).2) (iBestCosts ((DrawCheckCosts code).1)))) then (iCheckCosts ((DrawCheckCosts code).1) (iBestCosts ((DrawCheckCosts code).1))) else false)))

def FnCheckCosts_sp : FnSpec := mkSpec [.val (.slice (.int .u8))] [.val .bool] (fun (code : List Int) => True) (fun (code : List Int) => [⟨.bool, (FnCheckCosts code)⟩])

theorem FnCheckCosts_ok : FnOK Try.prog 10 FnCheckCosts_sp := by
 have hC : CtxOK Try.prog (mkCtx tyL [(22, iBestCosts_sp), (23, equalInts_sp), (27, CheckCosts_sp), (29, iCheckCosts_sp), (41, DrawCheckCosts_sp), (42, ValidGraph_sp)]) := CtxOK.cons iBestCosts_ok (CtxOK.cons equalInts_ok (CtxOK.cons CheckCosts_ok (CtxOK.cons iCheckCosts_ok (CtxOK.cons DrawCheckCosts_ok (CtxOK.cons ValidGraph_ok (CtxOK.nil tyOK))))))
 refine FnOK.of_body Try.func10 (by kernel_rfl) rfl (C := (mkCtx tyL [(22, iBestCosts_sp), (23, equalInts_sp), (27, CheckCosts_sp), (29, iCheckCosts_sp), (41, DrawCheckCosts_sp), (42, ValidGraph_sp)])) hC.ty (by kernel_rfl) ?_
 intro (code : List Int) hwf hpre E
 have hpre : True := hpre
 have hw_code : Wf ⟨(.slice (.int .u8)), (code : List Int)⟩ := hwf _ (List.Mem.head _)
 have hl_code : ((List.length code : Nat) : Int) ≤ 9223372036854775807 := hw_code.len
 have e0 : FnCheckCosts code = FnCheckCosts code := rfl
 refine AW.seq (AW.r1 hC [0] [] ⟨[(0, .data (.slice (.int .u8)) (code : List Int))], []⟩ ?_)
 refine AW.seq (AW.seq (AW.r1 hC [0, 9] [] ⟨[(0, .data (.slice (.int .u8)) (code : List Int)), (9, .bool (decide (1048576 < ((List.length code : Nat) : Int))))], []⟩ ?_))
 refine AW.cd (decide (1048576 < ((List.length code : Nat) : Int))) ?_ ?_
 ·
  intro h1
  have h1q : 1048576 < ((List.length code : Nat) : Int) := (of_decide_eq_true h1)
  have e2 := e0.trans (Go.Am.bif_t h1)
  refine AW.seq (AW.r1 hC [2] [] ⟨[(2, .bool true)], []⟩ ?_)
  exact AW.ret (AW.retE (β := Bool) (fun v => [⟨.bool, v⟩]) (fun v => []) (v := true) e2 (by kernel_rfl) rfl rfl)
 ·
  intro h3
  have h3q : ¬ (1048576 < ((List.length code : Nat) : Int)) := (of_decide_eq_false h3)
  have e4 := e0.trans (Go.Am.bif_f h3)
  refine AW.kp [0] [] ⟨[(0, .data (.slice (.int .u8)) (code : List Int))], []⟩ ?_
  refine AW.skip (AW.seq (AW.r0 hC [3, 4] [12, 49] ⟨[(3, .ref 12 1 0), (4, .arr 49 1)], [(12, .box 1 [.data (.slice (.int .i64)) ((Graph.Rows ((DrawCheckCosts code).1)) : List Int), .data (.slice (.named 0)) ((Graph.Edges ((DrawCheckCosts code).1)) : List Edge)]), (49, .arr 1 (.int .i64) (((DrawCheckCosts code).2) : List Int))]⟩ [(True)] ?_ ?_))
  ·
   refine ⟨?_, trivial⟩
   ·
    trivial
  refine AW.seq (AW.r0 hC [3, 4, 5] [12, 49] ⟨[(3, .ref 12 1 0), (4, .arr 49 1), (5, .bool (iCheckCosts ((DrawCheckCosts code).1) ((DrawCheckCosts code).2)))], [(12, .box 1 [.data (.slice (.int .i64)) ((Graph.Rows ((DrawCheckCosts code).1)) : List Int), .data (.slice (.named 0)) ((Graph.Edges ((DrawCheckCosts code).1)) : List Edge)]), (49, .arr 1 (.int .i64) (((DrawCheckCosts code).2) : List Int))]⟩ [(True)] ?_ ?_)
  ·
   refine ⟨?_, trivial⟩
   ·
    trivial
  refine AW.seq (AW.seq (AW.r0 hC [3, 4, 5, 27] [12, 49] ⟨[(3, .ref 12 1 0), (4, .arr 49 1), (5, .bool (iCheckCosts ((DrawCheckCosts code).1) ((DrawCheckCosts code).2))), (27, .bool (bif ((iCheckCosts ((DrawCheckCosts code).1) ((DrawCheckCosts code).2)) != (CheckCosts ((DrawCheckCosts code).1) ((DrawCheckCosts code).2))) then true else (!(ValidGraph ((DrawCheckCosts code).1)))))], [(12, .box 1 [.data (.slice (.int .i64)) ((Graph.Rows ((DrawCheckCosts code).1)) : List Int), .data (.slice (.named 0)) ((Graph.Edges ((DrawCheckCosts code).1)) : List Edge)]), (49, .arr 1 (.int .i64) (((DrawCheckCosts code).2) : List Int))]⟩ [(True), ((((iCheckCosts ((DrawCheckCosts code).1) ((DrawCheckCosts code).2)) != (CheckCosts ((DrawCheckCosts code).1) ((DrawCheckCosts code).2))) = false) → ((((iCheckCosts ((DrawCheckCosts code).1) ((DrawCheckCosts code).2)) != (CheckCosts ((DrawCheckCosts code).1) ((DrawCheckCosts code).2))) = false))), ((((iCheckCosts ((DrawCheckCosts code).1) ((DrawCheckCosts code).2)) != (CheckCosts ((DrawCheckCosts code).1) ((DrawCheckCosts code).2))) = false) → (True)), ((((iCheckCosts ((DrawCheckCosts code).1) ((DrawCheckCosts code).2)) != (CheckCosts ((DrawCheckCosts code).1) ((DrawCheckCosts code).2))) = false) → ((((iCheckCosts ((DrawCheckCosts code).1) ((DrawCheckCosts code).2)) != (CheckCosts ((DrawCheckCosts code).1) ((DrawCheckCosts code).2))) = false))), ((((iCheckCosts ((DrawCheckCosts code).1) ((DrawCheckCosts code).2)) != (CheckCosts ((DrawCheckCosts code).1) ((DrawCheckCosts code).2))) = false) → ((((iCheckCosts ((DrawCheckCosts code).1) ((DrawCheckCosts code).2)) != (CheckCosts ((DrawCheckCosts code).1) ((DrawCheckCosts code).2))) = false)))] ?_ ?_))
  ·
   refine ⟨?_, ?_, ?_, ?_, ?_, trivial⟩
   ·
    trivial
   ·
    intro g5
    have g5p0 : ((iCheckCosts ((DrawCheckCosts code).1) ((DrawCheckCosts code).2)) != (CheckCosts ((DrawCheckCosts code).1) ((DrawCheckCosts code).2))) = false := g5
    first | assumption | exact ⟨by assumption, by assumption⟩
   ·
    intro g6
    have g6p0 : ((iCheckCosts ((DrawCheckCosts code).1) ((DrawCheckCosts code).2)) != (CheckCosts ((DrawCheckCosts code).1) ((DrawCheckCosts code).2))) = false := g6
    trivial
   ·
    intro g7
    have g7p0 : ((iCheckCosts ((DrawCheckCosts code).1) ((DrawCheckCosts code).2)) != (CheckCosts ((DrawCheckCosts code).1) ((DrawCheckCosts code).2))) = false := g7
    first | assumption | exact ⟨by assumption, by assumption⟩
   ·
    intro g8
    have g8p0 : ((iCheckCosts ((DrawCheckCosts code).1) ((DrawCheckCosts code).2)) != (CheckCosts ((DrawCheckCosts code).1) ((DrawCheckCosts code).2))) = false := g8
    first | assumption | exact ⟨by assumption, by assumption⟩
  refine AW.cd (bif ((iCheckCosts ((DrawCheckCosts code).1) ((DrawCheckCosts code).2)) != (CheckCosts ((DrawCheckCosts code).1) ((DrawCheckCosts code).2))) then true else (!(ValidGraph ((DrawCheckCosts code).1)))) ?_ ?_
  ·
   intro h9
   have h9q : (((iCheckCosts ((DrawCheckCosts code).1) ((DrawCheckCosts code).2)) != (CheckCosts ((DrawCheckCosts code).1) ((DrawCheckCosts code).2))) = true) ∨ ((ValidGraph ((DrawCheckCosts code).1)) = false) := (Or.imp (fun h => h) (fun h => (Go.Am.not_pos h)) (Go.Am.or_pos h9))
   have e10 := e4.trans (Go.Am.bif_t h9)
   refine AW.seq (AW.r0 hC [2] [] ⟨[(2, .bool ((iCheckCosts ((DrawCheckCosts code).1) ((DrawCheckCosts code).2)) == (CheckCosts ((DrawCheckCosts code).1) ((DrawCheckCosts code).2))))], []⟩ [(True)] ?_ ?_)
   ·
    refine ⟨?_, trivial⟩
    ·
     trivial
   exact AW.ret (AW.retE (β := Bool) (fun v => [⟨.bool, v⟩]) (fun v => []) (v := ((iCheckCosts ((DrawCheckCosts code).1) ((DrawCheckCosts code).2)) == (CheckCosts ((DrawCheckCosts code).1) ((DrawCheckCosts code).2)))) e10 (by kernel_rfl) rfl rfl)
  ·
   intro h11
   have h11q : (((iCheckCosts ((DrawCheckCosts code).1) ((DrawCheckCosts code).2)) != (CheckCosts ((DrawCheckCosts code).1) ((DrawCheckCosts code).2))) = false) ∧ ((ValidGraph ((DrawCheckCosts code).1)) = true) := (And.imp (fun h => h) (fun h => (Go.Am.not_neg h)) (Go.Am.or_neg h11))
   have e12 := e4.trans (Go.Am.bif_f h11)
   refine AW.kp [3, 4, 5] [12, 49] ⟨[(3, .ref 12 1 0), (4, .arr 49 1), (5, .bool (iCheckCosts ((DrawCheckCosts code).1) ((DrawCheckCosts code).2)))], [(12, .box 1 [.data (.slice (.int .i64)) ((Graph.Rows ((DrawCheckCosts code).1)) : List Int), .data (.slice (.named 0)) ((Graph.Edges ((DrawCheckCosts code).1)) : List Edge)]), (49, .arr 1 (.int .i64) (((DrawCheckCosts code).2) : List Int))]⟩ ?_
   refine AW.skip (AW.seq (AW.r0 hC [3, 4, 5, 6] [12, 49, 136] ⟨[(3, .ref 12 1 0), (4, .arr 49 1), (5, .bool (iCheckCosts ((DrawCheckCosts code).1) ((DrawCheckCosts code).2))), (6, .arr 136 1)], [(12, .box 1 [.data (.slice (.int .i64)) ((Graph.Rows ((DrawCheckCosts code).1)) : List Int), .data (.slice (.named 0)) ((Graph.Edges ((DrawCheckCosts code).1)) : List Edge)]), (49, .arr 1 (.int .i64) (((DrawCheckCosts code).2) : List Int)), (136, .arr 1 (.int .i64) ((iBestCosts ((DrawCheckCosts code).1)) : List Int))]⟩ [(True)] ?_ ?_))
   ·
    refine ⟨?_, trivial⟩
    ·
     trivial
   refine AW.seq (AW.r0 hC [2] [] ⟨[(2, .bool (bif ((iCheckCosts ((DrawCheckCosts code).1) ((DrawCheckCosts code).2)) == (equalInts ((DrawCheckCosts code).2) (iBestCosts ((DrawCheckCosts code).1)))) then (iCheckCosts ((DrawCheckCosts code).1) (iBestCosts ((DrawCheckCosts code).1))) else false))], []⟩ [(True), ((((iCheckCosts ((DrawCheckCosts code).1) ((DrawCheckCosts code).2)) == (equalInts ((DrawCheckCosts code).2) (iBestCosts ((DrawCheckCosts code).1)))) = true) → ((((iCheckCosts ((DrawCheckCosts code).1) ((DrawCheckCosts code).2)) == (equalInts ((DrawCheckCosts code).2) (iBestCosts ((DrawCheckCosts code).1)))) = true))), ((((iCheckCosts ((DrawCheckCosts code).1) ((DrawCheckCosts code).2)) == (equalInts ((DrawCheckCosts code).2) (iBestCosts ((DrawCheckCosts code).1)))) = true) → ((((iCheckCosts ((DrawCheckCosts code).1) ((DrawCheckCosts code).2)) == (equalInts ((DrawCheckCosts code).2) (iBestCosts ((DrawCheckCosts code).1)))) = true))), ((((iCheckCosts ((DrawCheckCosts code).1) ((DrawCheckCosts code).2)) == (equalInts ((DrawCheckCosts code).2) (iBestCosts ((DrawCheckCosts code).1)))) = true) → (True)), ((((iCheckCosts ((DrawCheckCosts code).1) ((DrawCheckCosts code).2)) == (equalInts ((DrawCheckCosts code).2) (iBestCosts ((DrawCheckCosts code).1)))) = true) → ((((iCheckCosts ((DrawCheckCosts code).1) ((DrawCheckCosts code).2)) == (equalInts ((DrawCheckCosts code).2) (iBestCosts ((DrawCheckCosts code).1)))) = true)))] ?_ ?_)
   ·
    refine ⟨?_, ?_, ?_, ?_, ?_, trivial⟩
    ·
     trivial
    ·
     intro g13
     have g13p0 : ((iCheckCosts ((DrawCheckCosts code).1) ((DrawCheckCosts code).2)) == (equalInts ((DrawCheckCosts code).2) (iBestCosts ((DrawCheckCosts code).1)))) = true := g13
     first | assumption | exact ⟨by assumption, by assumption⟩
    ·
     intro g14
     have g14p0 : ((iCheckCosts ((DrawCheckCosts code).1) ((DrawCheckCosts code).2)) == (equalInts ((DrawCheckCosts code).2) (iBestCosts ((DrawCheckCosts code).1)))) = true := g14
     first | assumption | exact ⟨by assumption, by assumption⟩
    ·
     intro g15
     have g15p0 : ((iCheckCosts ((DrawCheckCosts code).1) ((DrawCheckCosts code).2)) == (equalInts ((DrawCheckCosts code).2) (iBestCosts ((DrawCheckCosts code).1)))) = true := g15
     trivial
    ·
     intro g16
     have g16p0 : ((iCheckCosts ((DrawCheckCosts code).1) ((DrawCheckCosts code).2)) == (equalInts ((DrawCheckCosts code).2) (iBestCosts ((DrawCheckCosts code).1)))) = true := g16
     first | assumption | exact ⟨by assumption, by assumption⟩
   exact AW.ret (AW.retE (β := Bool) (fun v => [⟨.bool, v⟩]) (fun v => []) (v := (bif ((iCheckCosts ((DrawCheckCosts code).1) ((DrawCheckCosts code).2)) == (equalInts ((DrawCheckCosts code).2) (iBestCosts ((DrawCheckCosts code).1)))) then (iCheckCosts ((DrawCheckCosts code).1) (iBestCosts ((DrawCheckCosts code).1))) else false)) e12 (by kernel_rfl) rfl rfl)

theorem orf : ∀ (n : Fin 6) (i k : Fin 5), i.val < n.val → k.val < i.val → 1 ≤ bits .or .i64 ((1 : Int) * 2 ^ i.val) ((1 : Int) * 2 ^ k.val) ∧ bits .or .i64 ((1 : Int) * 2 ^ i.val) ((1 : Int) * 2 ^ k.val) < (1 : Int) * 2 ^ n.val := by decide +kernel

theorem orf' {n i k : Nat} (hn : n ≤ 5) (hi : i < n) (hk : k < i) : 1 ≤ bits .or .i64 ((1 : Int) * 2 ^ i) ((1 : Int) * 2 ^ k) ∧ bits .or .i64 ((1 : Int) * 2 ^ i) ((1 : Int) * 2 ^ k) < (1 : Int) * 2 ^ n :=
 orf ⟨n, by omega⟩ ⟨i, by omega⟩ ⟨k, by omega⟩ hi hk

theorem powf : ∀ (n : Fin 6) (i : Fin 5), i.val < n.val → (1 : Int) ≤ (1 : Int) * 2 ^ i.val ∧ (1 : Int) * 2 ^ i.val < (1 : Int) * 2 ^ n.val := by decide +kernel

theorem powf' {n i : Nat} (hn : n ≤ 5) (hi : i < n) : (1 : Int) ≤ (1 : Int) * 2 ^ i ∧ (1 : Int) * 2 ^ i < (1 : Int) * 2 ^ n := powf ⟨n, by omega⟩ ⟨i, by omega⟩ hi

theorem iBest_V {g : Graph} (h : (List.length (iBestCosts g) : Int) ≠ 0) : VG g ∧ (List.length (iBestCosts g) : Int) = (1 : Int) * 2 ^ (List.length (Graph.Rows g)) ∧ iBestCosts g = (bestCosts g).1 := by
 unfold iBestCosts at *
 cases hv : ValidGraph g with
 | false =>
  rw [hv] at h
  exact absurd rfl h
 | true =>
  have hV := ValidGraph_iff.1 hv
  have hA := gAll_b hV
  have hG : gAll g + 1 = 1 * 2 ^ (List.length (Graph.Rows g)) := by unfold gAll; omega
  have h := (impl_best hV).1
  simp only [Bool.not_true, cond_false]
  exact ⟨hV, by omega, trivial⟩

def FnBestCosts_l1 (code : List Int) (i : Nat) : Nat → Nat → Unit ⊕ Bool
 | 0, k1 => .inl ()
 | k + 1, k1 => (bif (decide (((k1 : Nat) : Int) < ((i : Nat) : Int))) then (bif ((List.getD (iBestCosts (DrawBestCosts code)) (Int.toNat (bits .or .i64 ((1 : Int) * 2 ^ i) ((1 : Int) * 2 ^ k1))) 0) != (iSubsetSize (DrawBestCosts code) (bits .or .i64 ((1 : Int) * 2 ^ i) ((1 : Int) * 2 ^ k1)))) then (.inr false) else (FnBestCosts_l1 code i k (k1 + 1))) else (.inl ()))

def FnBestCosts_l0 (code : List Int) : Nat → Nat → Unit ⊕ Bool
 | 0, i => .inl ()
 | k + 1, i => (bif (decide (((i : Nat) : Int) < ((List.length (Graph.Rows (DrawBestCosts code)) : Nat) : Int))) then (Sum.elim (fun _ => (bif ((List.getD (iBestCosts (DrawBestCosts code)) (Int.toNat ((1 : Int) * 2 ^ i)) 0) != 0) then (.inr false) else (FnBestCosts_l0 code k (i + 1)))) (fun r => (.inr r)) (FnBestCosts_l1 code i (i - 0 + 1) 0)) else (.inl ()))

def FnBestCosts (code : List Int) : Bool := (bif (decide (1048576 < ((List.length code : Nat) : Int))) then true else (bif (bif (!(equalInts (iBestCosts (DrawBestCosts code)) (BestCosts (DrawBestCosts code)))) then true else (((List.length (iBestCosts (DrawBestCosts code)) : Nat) : Int) == 0)) then (equalInts (iBestCosts (DrawBestCosts code)) (BestCosts (DrawBestCosts code))) else (Sum.elim (fun _ => (bif (((List.length (iBestCosts (DrawBestCosts code)) : Nat) : Int) == ((1 : Int) * 2 ^ (List.length (Graph.Rows (DrawBestCosts code))))) then ((List.getD (iBestCosts (DrawBestCosts code)) (Int.toNat (lawsAll (DrawBestCosts code))) 0) == ((iBestTree (DrawBestCosts code)).2)) else false)) (fun r => r) (FnBestCosts_l0 code ((List.length (Graph.Rows (DrawBestCosts code))) - 0 + 1) 0))))

def FnBestCosts_sp : FnSpec := mkSpec [.val (.slice (.int .u8))] [.val .bool] (fun (code : List Int) => True) (fun (code : List Int) => [⟨.bool, (FnBestCosts code)⟩])

theorem FnBestCosts_ok : FnOK Try.prog 5 FnBestCosts_sp := by
 have hC : CtxOK Try.prog (mkCtx tyL [(16, iSubsetSize_sp), (21, DrawBestCosts_sp), (22, iBestCosts_sp), (23, equalInts_sp), (24, BestCosts_sp), (25, iBestTree_sp), (26, lawsAll_sp)]) := CtxOK.cons iSubsetSize_ok (CtxOK.cons DrawBestCosts_ok (CtxOK.cons iBestCosts_ok (CtxOK.cons equalInts_ok (CtxOK.cons BestCosts_ok (CtxOK.cons iBestTree_ok (CtxOK.cons lawsAll_ok (CtxOK.nil tyOK)))))))
 have hM : Try.prog.follows .mixedOrders = true := Try.checked.mixed
 refine FnOK.of_body Try.func5 (by kernel_rfl) rfl (C := (mkCtx tyL [(16, iSubsetSize_sp), (21, DrawBestCosts_sp), (22, iBestCosts_sp), (23, equalInts_sp), (24, BestCosts_sp), (25, iBestTree_sp), (26, lawsAll_sp)])) hC.ty (by kernel_rfl) ?_
 intro (code : List Int) hwf hpre E
 have hpre : True := hpre
 have hw_code : Wf ⟨(.slice (.int .u8)), (code : List Int)⟩ := hwf _ (List.Mem.head _)
 have hl_code : ((List.length code : Nat) : Int) ≤ 9223372036854775807 := hw_code.len
 have e0 : FnBestCosts code = FnBestCosts code := rfl
 refine AW.seq (AW.r1 hC [0] [] ⟨[(0, .data (.slice (.int .u8)) (code : List Int))], []⟩ ?_)
 refine AW.seq (AW.seq (AW.r1 hC [0, 11] [] ⟨[(0, .data (.slice (.int .u8)) (code : List Int)), (11, .bool (decide (1048576 < ((List.length code : Nat) : Int))))], []⟩ ?_))
 refine AW.cd (decide (1048576 < ((List.length code : Nat) : Int))) ?_ ?_
 ·
  intro h1
  have h1q : 1048576 < ((List.length code : Nat) : Int) := (of_decide_eq_true h1)
  have e2 := e0.trans (Go.Am.bif_t h1)
  refine AW.seq (AW.r1 hC [2] [] ⟨[(2, .bool true)], []⟩ ?_)
  exact AW.ret (AW.retE (β := Bool) (fun v => [⟨.bool, v⟩]) (fun v => []) (v := true) e2 (by kernel_rfl) rfl rfl)
 ·
  intro h3
  have h3q : ¬ (1048576 < ((List.length code : Nat) : Int)) := (of_decide_eq_false h3)
  have e4 := e0.trans (Go.Am.bif_f h3)
  refine AW.kp [0] [] ⟨[(0, .data (.slice (.int .u8)) (code : List Int))], []⟩ ?_
  refine AW.skip (AW.seq (AW.r0 hC [3] [12] ⟨[(3, .ref 12 1 0)], [(12, .box 1 [.data (.slice (.int .i64)) ((Graph.Rows (DrawBestCosts code)) : List Int), .data (.slice (.named 0)) ((Graph.Edges (DrawBestCosts code)) : List Edge)])]⟩ [(True)] ?_ ?_))
  ·
   refine ⟨?_, trivial⟩
   ·
    trivial
  refine AW.seq (AW.r0 hC [3, 4] [12, 60] ⟨[(3, .ref 12 1 0), (4, .arr 60 1)], [(12, .box 1 [.data (.slice (.int .i64)) ((Graph.Rows (DrawBestCosts code)) : List Int), .data (.slice (.named 0)) ((Graph.Edges (DrawBestCosts code)) : List Edge)]), (60, .arr 1 (.int .i64) ((iBestCosts (DrawBestCosts code)) : List Int))]⟩ [(True)] ?_ ?_)
  ·
   refine ⟨?_, trivial⟩
   ·
    trivial
  refine AW.seq (AW.seq (AW.r0 hC [3, 4, 25] [12, 60] ⟨[(3, .ref 12 1 0), (4, .arr 60 1), (25, .bool (bif (!(equalInts (iBestCosts (DrawBestCosts code)) (BestCosts (DrawBestCosts code)))) then true else (((List.length (iBestCosts (DrawBestCosts code)) : Nat) : Int) == 0)))], [(12, .box 1 [.data (.slice (.int .i64)) ((Graph.Rows (DrawBestCosts code)) : List Int), .data (.slice (.named 0)) ((Graph.Edges (DrawBestCosts code)) : List Edge)]), (60, .arr 1 (.int .i64) ((iBestCosts (DrawBestCosts code)) : List Int))]⟩ [(True), (True), (((!(equalInts (iBestCosts (DrawBestCosts code)) (BestCosts (DrawBestCosts code)))) = false) → (((!(equalInts (iBestCosts (DrawBestCosts code)) (BestCosts (DrawBestCosts code)))) = false))), (((!(equalInts (iBestCosts (DrawBestCosts code)) (BestCosts (DrawBestCosts code)))) = false) → (((!(equalInts (iBestCosts (DrawBestCosts code)) (BestCosts (DrawBestCosts code)))) = false))), (((!(equalInts (iBestCosts (DrawBestCosts code)) (BestCosts (DrawBestCosts code)))) = false) → (((!(equalInts (iBestCosts (DrawBestCosts code)) (BestCosts (DrawBestCosts code)))) = false)))] ?_ ?_))
  ·
   refine ⟨?_, ?_, ?_, ?_, ?_, trivial⟩
   ·
    trivial
   ·
    trivial
   ·
    intro g5
    have g5p0 : (equalInts (iBestCosts (DrawBestCosts code)) (BestCosts (DrawBestCosts code))) = true := (Go.Am.not_neg g5)
    first | assumption | exact ⟨by assumption, by assumption⟩
   ·
    intro g6
    have g6p0 : (equalInts (iBestCosts (DrawBestCosts code)) (BestCosts (DrawBestCosts code))) = true := (Go.Am.not_neg g6)
    first | assumption | exact ⟨by assumption, by assumption⟩
   ·
    intro g7
    have g7p0 : (equalInts (iBestCosts (DrawBestCosts code)) (BestCosts (DrawBestCosts code))) = true := (Go.Am.not_neg g7)
    first | assumption | exact ⟨by assumption, by assumption⟩
  refine AW.cd (bif (!(equalInts (iBestCosts (DrawBestCosts code)) (BestCosts (DrawBestCosts code)))) then true else (((List.length (iBestCosts (DrawBestCosts code)) : Nat) : Int) == 0)) ?_ ?_
  ·
   intro h8
   have h8q : ((equalInts (iBestCosts (DrawBestCosts code)) (BestCosts (DrawBestCosts code))) = false) ∨ (((List.length (iBestCosts (DrawBestCosts code)) : Nat) : Int) = 0) := (Or.imp (fun h => (Go.Am.not_pos h)) (fun h => (Go.Am.beq_pos h)) (Go.Am.or_pos h8))
   have e9 := e4.trans (Go.Am.bif_t h8)
   refine AW.seq (AW.r0 hC [2] [] ⟨[(2, .bool (equalInts (iBestCosts (DrawBestCosts code)) (BestCosts (DrawBestCosts code))))], []⟩ [(True), (True)] ?_ ?_)
   ·
    refine ⟨?_, ?_, trivial⟩
    ·
     trivial
    ·
     trivial
   exact AW.ret (AW.retE (β := Bool) (fun v => [⟨.bool, v⟩]) (fun v => []) (v := (equalInts (iBestCosts (DrawBestCosts code)) (BestCosts (DrawBestCosts code)))) e9 (by kernel_rfl) rfl rfl)
  ·
   intro h10
   have h10q : ((equalInts (iBestCosts (DrawBestCosts code)) (BestCosts (DrawBestCosts code))) = true) ∧ (((List.length (iBestCosts (DrawBestCosts code)) : Nat) : Int) ≠ 0) := (And.imp (fun h => (Go.Am.not_neg h)) (fun h => (Go.Am.beq_neg h)) (Go.Am.or_neg h10))
   have e11 := e4.trans (Go.Am.bif_f h10)
   refine AW.kp [3, 4] [12, 60] ⟨[(3, .ref 12 1 0), (4, .arr 60 1)], [(12, .box 1 [.data (.slice (.int .i64)) ((Graph.Rows (DrawBestCosts code)) : List Int), .data (.slice (.named 0)) ((Graph.Edges (DrawBestCosts code)) : List Edge)]), (60, .arr 1 (.int .i64) ((iBestCosts (DrawBestCosts code)) : List Int))]⟩ ?_
   refine AW.skip (AW.seq (AW.r0 hC [3, 4, 6] [12, 60] ⟨[(3, .ref 12 1 0), (4, .arr 60 1), (6, .int .i64 ((iBestTree (DrawBestCosts code)).2))], [(12, .box 1 [.data (.slice (.int .i64)) ((Graph.Rows (DrawBestCosts code)) : List Int), .data (.slice (.named 0)) ((Graph.Edges (DrawBestCosts code)) : List Edge)]), (60, .arr 1 (.int .i64) ((iBestCosts (DrawBestCosts code)) : List Int))]⟩ [(True)] ?_ ?_))
   ·
    refine ⟨?_, trivial⟩
    ·
     trivial
   refine AW.seq (AW.seq (AW.r1 hC [3, 4, 6, 7] [12, 60] ⟨[(3, .ref 12 1 0), (4, .arr 60 1), (6, .int .i64 ((iBestTree (DrawBestCosts code)).2)), (7, .int .i64 0)], [(12, .box 1 [.data (.slice (.int .i64)) ((Graph.Rows (DrawBestCosts code)) : List Int), .data (.slice (.named 0)) ((Graph.Edges (DrawBestCosts code)) : List Edge)]), (60, .arr 1 (.int .i64) ((iBestCosts (DrawBestCosts code)) : List Int))]⟩ ?_))
   refine AW.cutQ (α := Unit) (fun x => ⟨[(3, .ref 12 1 0), (4, .arr 60 1), (6, .int .i64 ((iBestTree (DrawBestCosts code)).2))], [(12, .box 1 [.data (.slice (.int .i64)) ((Graph.Rows (DrawBestCosts code)) : List Int), .data (.slice (.named 0)) ((Graph.Edges (DrawBestCosts code)) : List Edge)]), (60, .arr 1 (.int .i64) ((iBestCosts (DrawBestCosts code)) : List Int))]⟩) (fun x => (True) ∧ (FnBestCosts_l0 code ((List.length (Graph.Rows (DrawBestCosts code))) - 0 + 1) 0) = (.inl ())) ?_ ?_
   ·
    skip
    refine AW.block (AW.loop (α := Nat) (fun x => ⟨[(3, .ref 12 1 0), (4, .arr 60 1), (6, .int .i64 ((iBestTree (DrawBestCosts code)).2)), (7, .int .i64 ((x : Nat) : Int))], [(12, .box 1 [.data (.slice (.int .i64)) ((Graph.Rows (DrawBestCosts code)) : List Int), .data (.slice (.named 0)) ((Graph.Edges (DrawBestCosts code)) : List Edge)]), (60, .arr 1 (.int .i64) ((iBestCosts (DrawBestCosts code)) : List Int))]⟩) (fun x => (True) ∧ ∃ k, (List.length (Graph.Rows (DrawBestCosts code))) - x < k ∧ (FnBestCosts_l0 code ((List.length (Graph.Rows (DrawBestCosts code))) - 0 + 1) 0) = FnBestCosts_l0 code k x) (fun x => (List.length (Graph.Rows (DrawBestCosts code))) - x) 0 (by kernel_rfl) ⟨?_, _, Nat.lt_succ_self _, rfl⟩ ?_)
    ·
     show True
     first | exact trivial | (refine ⟨?_, ?_⟩ <;> first | omega | simp) | omega | simp
    ·
     intro i hR
     obtain ⟨hI0, k176, hk174, e175⟩ := hR
     replace hI0 : True := hI0
     replace hk174 : (List.length (Graph.Rows (DrawBestCosts code))) - i < k176 := hk174
     obtain ⟨k176q, rfl⟩ : ∃ k, k176 = k + 1 := ⟨k176 - 1, by omega⟩
     have hB := iBest_V (g := DrawBestCosts code) (by omega)
     have hV5 := hB.1.n5
     have hVl := hB.2.1
     have hpi := fun (h : i < List.length (Graph.Rows (DrawBestCosts code))) => powf' hV5 h
     refine AW.seq (AW.seq (AW.r1 hC [3, 4, 6, 7, 39] [12, 60] ⟨[(3, .ref 12 1 0), (4, .arr 60 1), (6, .int .i64 ((iBestTree (DrawBestCosts code)).2)), (7, .int .i64 ((i : Nat) : Int)), (39, .bool (decide (((i : Nat) : Int) < ((List.length (Graph.Rows (DrawBestCosts code)) : Nat) : Int))))], [(12, .box 1 [.data (.slice (.int .i64)) ((Graph.Rows (DrawBestCosts code)) : List Int), .data (.slice (.named 0)) ((Graph.Edges (DrawBestCosts code)) : List Edge)]), (60, .arr 1 (.int .i64) ((iBestCosts (DrawBestCosts code)) : List Int))]⟩ ?_))
     refine AW.cd (decide (((i : Nat) : Int) < ((List.length (Graph.Rows (DrawBestCosts code)) : Nat) : Int))) ?_ ?_
     ·
      intro h177
      have h177q : ((i : Nat) : Int) < ((List.length (Graph.Rows (DrawBestCosts code)) : Nat) : Int) := (of_decide_eq_true h177)
      have e178 := e175.trans (Go.Am.bif_t h177)
      refine AW.kp [3, 4, 6, 7] [12, 60] ⟨[(3, .ref 12 1 0), (4, .arr 60 1), (6, .int .i64 ((iBestTree (DrawBestCosts code)).2)), (7, .int .i64 ((i : Nat) : Int))], [(12, .box 1 [.data (.slice (.int .i64)) ((Graph.Rows (DrawBestCosts code)) : List Int), .data (.slice (.named 0)) ((Graph.Edges (DrawBestCosts code)) : List Edge)]), (60, .arr 1 (.int .i64) ((iBestCosts (DrawBestCosts code)) : List Int))]⟩ ?_
      refine AW.skip (AW.seq (AW.block (AW.seq (AW.seq (AW.r1 hC [3, 4, 6, 7, 8] [12, 60] ⟨[(3, .ref 12 1 0), (4, .arr 60 1), (6, .int .i64 ((iBestTree (DrawBestCosts code)).2)), (7, .int .i64 ((i : Nat) : Int)), (8, .int .i64 0)], [(12, .box 1 [.data (.slice (.int .i64)) ((Graph.Rows (DrawBestCosts code)) : List Int), .data (.slice (.named 0)) ((Graph.Edges (DrawBestCosts code)) : List Edge)]), (60, .arr 1 (.int .i64) ((iBestCosts (DrawBestCosts code)) : List Int))]⟩ ?_)))))
      refine AW.cutQ (α := Unit) (fun x => ⟨[(3, .ref 12 1 0), (4, .arr 60 1), (6, .int .i64 ((iBestTree (DrawBestCosts code)).2)), (7, .int .i64 ((i : Nat) : Int))], [(12, .box 1 [.data (.slice (.int .i64)) ((Graph.Rows (DrawBestCosts code)) : List Int), .data (.slice (.named 0)) ((Graph.Edges (DrawBestCosts code)) : List Edge)]), (60, .arr 1 (.int .i64) ((iBestCosts (DrawBestCosts code)) : List Int))]⟩) (fun x => (True) ∧ (FnBestCosts_l1 code i (i - 0 + 1) 0) = (.inl ())) ?_ ?_
      ·
       skip
       refine AW.block (AW.loop (α := Nat) (fun x => ⟨[(3, .ref 12 1 0), (4, .arr 60 1), (6, .int .i64 ((iBestTree (DrawBestCosts code)).2)), (7, .int .i64 ((i : Nat) : Int)), (8, .int .i64 ((x : Nat) : Int))], [(12, .box 1 [.data (.slice (.int .i64)) ((Graph.Rows (DrawBestCosts code)) : List Int), .data (.slice (.named 0)) ((Graph.Edges (DrawBestCosts code)) : List Edge)]), (60, .arr 1 (.int .i64) ((iBestCosts (DrawBestCosts code)) : List Int))]⟩) (fun x => (True) ∧ ∃ k, i - x < k ∧ (FnBestCosts_l1 code i (i - 0 + 1) 0) = FnBestCosts_l1 code i k x) (fun x => i - x) 0 (by kernel_rfl) ⟨?_, _, Nat.lt_succ_self _, rfl⟩ ?_)
       ·
        show True
        first | exact trivial | (refine ⟨?_, ?_⟩ <;> first | omega | simp) | omega | simp
       ·
        intro k1 hR
        obtain ⟨hI1, k211, hk209, e210⟩ := hR
        replace hI1 : True := hI1
        replace hk209 : i - k1 < k211 := hk209
        obtain ⟨k211q, rfl⟩ : ∃ k, k211 = k + 1 := ⟨k211 - 1, by omega⟩
        have hor := fun (h : k1 < i) => orf' hV5 (i := i) (k := k1) (by omega) h
        have hpk := fun (h : k1 < i) => powf' hV5 (i := k1) (by omega)
        refine AW.seq (AW.seq (AW.r1 hC [3, 4, 6, 7, 8, 44] [12, 60] ⟨[(3, .ref 12 1 0), (4, .arr 60 1), (6, .int .i64 ((iBestTree (DrawBestCosts code)).2)), (7, .int .i64 ((i : Nat) : Int)), (8, .int .i64 ((k1 : Nat) : Int)), (44, .bool (decide (((k1 : Nat) : Int) < ((i : Nat) : Int))))], [(12, .box 1 [.data (.slice (.int .i64)) ((Graph.Rows (DrawBestCosts code)) : List Int), .data (.slice (.named 0)) ((Graph.Edges (DrawBestCosts code)) : List Edge)]), (60, .arr 1 (.int .i64) ((iBestCosts (DrawBestCosts code)) : List Int))]⟩ ?_))
        refine AW.cd (decide (((k1 : Nat) : Int) < ((i : Nat) : Int))) ?_ ?_
        ·
         intro h212
         have h212q : ((k1 : Nat) : Int) < ((i : Nat) : Int) := (of_decide_eq_true h212)
         have e213 := e210.trans (Go.Am.bif_t h212)
         refine AW.kp [3, 4, 6, 7, 8] [12, 60] ⟨[(3, .ref 12 1 0), (4, .arr 60 1), (6, .int .i64 ((iBestTree (DrawBestCosts code)).2)), (7, .int .i64 ((i : Nat) : Int)), (8, .int .i64 ((k1 : Nat) : Int))], [(12, .box 1 [.data (.slice (.int .i64)) ((Graph.Rows (DrawBestCosts code)) : List Int), .data (.slice (.named 0)) ((Graph.Edges (DrawBestCosts code)) : List Edge)]), (60, .arr 1 (.int .i64) ((iBestCosts (DrawBestCosts code)) : List Int))]⟩ ?_
         refine AW.skip (AW.seq (AW.block (AW.seq (AW.d0 hC hM [3, 4, 6, 7, 8, 62] [12, 60] ⟨[(3, .ref 12 1 0), (4, .arr 60 1), (6, .int .i64 ((iBestTree (DrawBestCosts code)).2)), (7, .int .i64 ((i : Nat) : Int)), (8, .int .i64 ((k1 : Nat) : Int)), (62, .bool ((List.getD (iBestCosts (DrawBestCosts code)) (Int.toNat (bits .or .i64 ((1 : Int) * 2 ^ i) ((1 : Int) * 2 ^ k1))) 0) != (iSubsetSize (DrawBestCosts code) (bits .or .i64 ((1 : Int) * 2 ^ i) ((1 : Int) * 2 ^ k1)))))], [(12, .box 1 [.data (.slice (.int .i64)) ((Graph.Rows (DrawBestCosts code)) : List Int), .data (.slice (.named 0)) ((Graph.Edges (DrawBestCosts code)) : List Edge)]), (60, .arr 1 (.int .i64) ((iBestCosts (DrawBestCosts code)) : List Int))]⟩ [(0 ≤ ((i : Nat) : Int) ∧ ((i : Nat) : Int) ≤ 64), (-9223372036854775808 ≤ ((1 : Int) * 2 ^ i) ∧ ((1 : Int) * 2 ^ i) ≤ 9223372036854775807), (0 ≤ ((k1 : Nat) : Int) ∧ ((k1 : Nat) : Int) ≤ 64), (-9223372036854775808 ≤ ((1 : Int) * 2 ^ k1) ∧ ((1 : Int) * 2 ^ k1) ≤ 9223372036854775807), (0 ≤ (bits .or .i64 ((1 : Int) * 2 ^ i) ((1 : Int) * 2 ^ k1)) ∧ (bits .or .i64 ((1 : Int) * 2 ^ i) ((1 : Int) * 2 ^ k1)) < ((List.length (iBestCosts (DrawBestCosts code)) : Nat) : Int)), (0 ≤ ((i : Nat) : Int) ∧ ((i : Nat) : Int) ≤ 64), (-9223372036854775808 ≤ ((1 : Int) * 2 ^ i) ∧ ((1 : Int) * 2 ^ i) ≤ 9223372036854775807), (0 ≤ ((k1 : Nat) : Int) ∧ ((k1 : Nat) : Int) ≤ 64), (-9223372036854775808 ≤ ((1 : Int) * 2 ^ k1) ∧ ((1 : Int) * 2 ^ k1) ≤ 9223372036854775807), (True)] ?_ ?_))))
         ·
          refine ⟨?_, ?_, ?_, ?_, ?_, ?_, ?_, ?_, ?_, ?_, trivial⟩
          ·
           first | omega | (dsimp only; omega) | (simp only [lens] at *; omega)
          ·
           first | omega | (have := hor (by omega); have := hpk (by omega); have := hpi (by omega); omega) | (have := hpi (by omega); omega) | (have hB := iBest_V (g := DrawBestCosts code) (by omega); have hV5 := hB.1.n5; have hVl := hB.2.1; have := g32 hB.1; omega)
          ·
           first | omega | (dsimp only; omega) | (simp only [lens] at *; omega)
          ·
           first | omega | (have := hor (by omega); have := hpk (by omega); have := hpi (by omega); omega) | (have := hpi (by omega); omega) | (have hB := iBest_V (g := DrawBestCosts code) (by omega); have hV5 := hB.1.n5; have hVl := hB.2.1; have := g32 hB.1; omega)
          ·
           first | omega | (have := hor (by omega); have := hpk (by omega); have := hpi (by omega); omega) | (have := hpi (by omega); omega) | (have hB := iBest_V (g := DrawBestCosts code) (by omega); have hV5 := hB.1.n5; have hVl := hB.2.1; have := g32 hB.1; omega)
          ·
           first | omega | (dsimp only; omega) | (simp only [lens] at *; omega)
          ·
           first | omega | (have := hor (by omega); have := hpk (by omega); have := hpi (by omega); omega) | (have := hpi (by omega); omega) | (have hB := iBest_V (g := DrawBestCosts code) (by omega); have hV5 := hB.1.n5; have hVl := hB.2.1; have := g32 hB.1; omega)
          ·
           first | omega | (dsimp only; omega) | (simp only [lens] at *; omega)
          ·
           first | omega | (have := hor (by omega); have := hpk (by omega); have := hpi (by omega); omega) | (have := hpi (by omega); omega) | (have hB := iBest_V (g := DrawBestCosts code) (by omega); have hV5 := hB.1.n5; have hVl := hB.2.1; have := g32 hB.1; omega)
          ·
           trivial
         refine AW.cd ((List.getD (iBestCosts (DrawBestCosts code)) (Int.toNat (bits .or .i64 ((1 : Int) * 2 ^ i) ((1 : Int) * 2 ^ k1))) 0) != (iSubsetSize (DrawBestCosts code) (bits .or .i64 ((1 : Int) * 2 ^ i) ((1 : Int) * 2 ^ k1)))) ?_ ?_
         ·
          intro h214
          have h214q : (List.getD (iBestCosts (DrawBestCosts code)) (Int.toNat (bits .or .i64 ((1 : Int) * 2 ^ i) ((1 : Int) * 2 ^ k1))) 0) ≠ (iSubsetSize (DrawBestCosts code) (bits .or .i64 ((1 : Int) * 2 ^ i) ((1 : Int) * 2 ^ k1))) := (Go.Am.bne_pos h214)
          have e215 := e213.trans (Go.Am.bif_t h214)
          refine AW.seq (AW.r1 hC [2] [] ⟨[(2, .bool false)], []⟩ ?_)
          refine AW.ret ?_
          have e216 := e178.trans (Go.Am.elim_r e215)
          have e217 := e11.trans (Go.Am.elim_r e216)
          exact AW.retE (β := Bool) (fun v => [⟨.bool, v⟩]) (fun v => []) (v := false) e217 (by kernel_rfl) rfl rfl
         ·
          intro h218
          have h218q : (List.getD (iBestCosts (DrawBestCosts code)) (Int.toNat (bits .or .i64 ((1 : Int) * 2 ^ i) ((1 : Int) * 2 ^ k1))) 0) = (iSubsetSize (DrawBestCosts code) (bits .or .i64 ((1 : Int) * 2 ^ i) ((1 : Int) * 2 ^ k1))) := (Go.Am.bne_neg h218)
          have e219 := e213.trans (Go.Am.bif_f h218)
          refine AW.kp [3, 4, 6, 7, 8] [12, 60] ⟨[(3, .ref 12 1 0), (4, .arr 60 1), (6, .int .i64 ((iBestTree (DrawBestCosts code)).2)), (7, .int .i64 ((i : Nat) : Int)), (8, .int .i64 ((k1 : Nat) : Int))], [(12, .box 1 [.data (.slice (.int .i64)) ((Graph.Rows (DrawBestCosts code)) : List Int), .data (.slice (.named 0)) ((Graph.Edges (DrawBestCosts code)) : List Edge)]), (60, .arr 1 (.int .i64) ((iBestCosts (DrawBestCosts code)) : List Int))]⟩ ?_
          refine AW.skip (AW.r0 hC [3, 4, 6, 7, 8] [12, 60] ⟨[(3, .ref 12 1 0), (4, .arr 60 1), (6, .int .i64 ((iBestTree (DrawBestCosts code)).2)), (7, .int .i64 ((i : Nat) : Int)), (8, .int .i64 ((k1 + 1 : Nat) : Int))], [(12, .box 1 [.data (.slice (.int .i64)) ((Graph.Rows (DrawBestCosts code)) : List Int), .data (.slice (.named 0)) ((Graph.Edges (DrawBestCosts code)) : List Edge)]), (60, .arr 1 (.int .i64) ((iBestCosts (DrawBestCosts code)) : List Int))]⟩ [(-9223372036854775808 ≤ ((k1 + 1 : Nat) : Int) ∧ ((k1 + 1 : Nat) : Int) ≤ 9223372036854775807)] ?_ ?_)
          ·
           refine ⟨?_, trivial⟩
           ·
            first | omega | (dsimp only; omega) | (simp only [lens] at *; omega)
          refine AW.back (x := k1) (k1 + 1) (by kernel_rfl) ⟨?_, k211q, ?_, e219⟩ ?_
          ·
           show True
           first | assumption | exact trivial | (refine ⟨?_, ?_⟩ <;> first | omega | (simp only [lens] at *; omega)) | omega | (simp only [lens] at *; omega)
          ·
           show i - (k1 + 1) < k211q
           first | omega | (simp only [lens]; omega)
          ·
           show i - (k1 + 1) < i - k1
           first | omega | (simp only [lens]; omega)
        ·
         intro h220
         have h220q : ¬ (((k1 : Nat) : Int) < ((i : Nat) : Int)) := (of_decide_eq_false h220)
         have e221 := e210.trans (Go.Am.bif_f h220)
         refine AW.kp [3, 4, 6, 7] [12, 60] ⟨[(3, .ref 12 1 0), (4, .arr 60 1), (6, .int .i64 ((iBestTree (DrawBestCosts code)).2)), (7, .int .i64 ((i : Nat) : Int))], [(12, .box 1 [.data (.slice (.int .i64)) ((Graph.Rows (DrawBestCosts code)) : List Int), .data (.slice (.named 0)) ((Graph.Edges (DrawBestCosts code)) : List Edge)]), (60, .arr 1 (.int .i64) ((iBestCosts (DrawBestCosts code)) : List Int))]⟩ ?_
         refine AW.exit ?_
         refine AW.meet () (by kernel_rfl) ⟨?_, e221⟩
         show True
         first | assumption | exact trivial | omega
      ·
       intro x hR
       obtain ⟨hJ1, e222⟩ := hR
       replace hJ1 : True := hJ1
       have e223 := e178.trans (Go.Am.elim_l e222)
       refine AW.seq (AW.r0 hC [3, 4, 6, 7, 68] [12, 60] ⟨[(3, .ref 12 1 0), (4, .arr 60 1), (6, .int .i64 ((iBestTree (DrawBestCosts code)).2)), (7, .int .i64 ((i : Nat) : Int)), (68, .bool ((List.getD (iBestCosts (DrawBestCosts code)) (Int.toNat ((1 : Int) * 2 ^ i)) 0) != 0))], [(12, .box 1 [.data (.slice (.int .i64)) ((Graph.Rows (DrawBestCosts code)) : List Int), .data (.slice (.named 0)) ((Graph.Edges (DrawBestCosts code)) : List Edge)]), (60, .arr 1 (.int .i64) ((iBestCosts (DrawBestCosts code)) : List Int))]⟩ [(0 ≤ ((i : Nat) : Int) ∧ ((i : Nat) : Int) ≤ 64), (-9223372036854775808 ≤ ((1 : Int) * 2 ^ i) ∧ ((1 : Int) * 2 ^ i) ≤ 9223372036854775807), (0 ≤ ((1 : Int) * 2 ^ i) ∧ ((1 : Int) * 2 ^ i) < ((List.length (iBestCosts (DrawBestCosts code)) : Nat) : Int))] ?_ ?_)
       ·
        refine ⟨?_, ?_, ?_, trivial⟩
        ·
         first | omega | (dsimp only; omega) | (simp only [lens] at *; omega)
        ·
         first | omega | (have := hor (by omega); have := hpk (by omega); have := hpi (by omega); omega) | (have := hpi (by omega); omega) | (have hB := iBest_V (g := DrawBestCosts code) (by omega); have hV5 := hB.1.n5; have hVl := hB.2.1; have := g32 hB.1; omega)
        ·
         first | omega | (have := hor (by omega); have := hpk (by omega); have := hpi (by omega); omega) | (have := hpi (by omega); omega) | (have hB := iBest_V (g := DrawBestCosts code) (by omega); have hV5 := hB.1.n5; have hVl := hB.2.1; have := g32 hB.1; omega)
       refine AW.cd ((List.getD (iBestCosts (DrawBestCosts code)) (Int.toNat ((1 : Int) * 2 ^ i)) 0) != 0) ?_ ?_
       ·
        intro h224
        have h224q : (List.getD (iBestCosts (DrawBestCosts code)) (Int.toNat ((1 : Int) * 2 ^ i)) 0) ≠ 0 := (Go.Am.bne_pos h224)
        have e225 := e223.trans (Go.Am.bif_t h224)
        refine AW.seq (AW.r1 hC [2] [] ⟨[(2, .bool false)], []⟩ ?_)
        refine AW.ret ?_
        have e226 := e11.trans (Go.Am.elim_r e225)
        exact AW.retE (β := Bool) (fun v => [⟨.bool, v⟩]) (fun v => []) (v := false) e226 (by kernel_rfl) rfl rfl
       ·
        intro h227
        have h227q : (List.getD (iBestCosts (DrawBestCosts code)) (Int.toNat ((1 : Int) * 2 ^ i)) 0) = 0 := (Go.Am.bne_neg h227)
        have e228 := e223.trans (Go.Am.bif_f h227)
        refine AW.kp [3, 4, 6, 7] [12, 60] ⟨[(3, .ref 12 1 0), (4, .arr 60 1), (6, .int .i64 ((iBestTree (DrawBestCosts code)).2)), (7, .int .i64 ((i : Nat) : Int))], [(12, .box 1 [.data (.slice (.int .i64)) ((Graph.Rows (DrawBestCosts code)) : List Int), .data (.slice (.named 0)) ((Graph.Edges (DrawBestCosts code)) : List Edge)]), (60, .arr 1 (.int .i64) ((iBestCosts (DrawBestCosts code)) : List Int))]⟩ ?_
        refine AW.skip (AW.r0 hC [3, 4, 6, 7] [12, 60] ⟨[(3, .ref 12 1 0), (4, .arr 60 1), (6, .int .i64 ((iBestTree (DrawBestCosts code)).2)), (7, .int .i64 ((i + 1 : Nat) : Int))], [(12, .box 1 [.data (.slice (.int .i64)) ((Graph.Rows (DrawBestCosts code)) : List Int), .data (.slice (.named 0)) ((Graph.Edges (DrawBestCosts code)) : List Edge)]), (60, .arr 1 (.int .i64) ((iBestCosts (DrawBestCosts code)) : List Int))]⟩ [(-9223372036854775808 ≤ ((i + 1 : Nat) : Int) ∧ ((i + 1 : Nat) : Int) ≤ 9223372036854775807)] ?_ ?_)
        ·
         refine ⟨?_, trivial⟩
         ·
          first | omega | (dsimp only; omega) | (simp only [lens] at *; omega)
        refine AW.back (x := i) (i + 1) (by kernel_rfl) ⟨?_, k176q, ?_, e228⟩ ?_
        ·
         show True
         first | assumption | exact trivial | (refine ⟨?_, ?_⟩ <;> first | omega | (simp only [lens] at *; omega)) | omega | (simp only [lens] at *; omega)
        ·
         show (List.length (Graph.Rows (DrawBestCosts code))) - (i + 1) < k176q
         first | omega | (simp only [lens]; omega)
        ·
         show (List.length (Graph.Rows (DrawBestCosts code))) - (i + 1) < (List.length (Graph.Rows (DrawBestCosts code))) - i
         first | omega | (simp only [lens]; omega)
     ·
      intro h229
      have h229q : ¬ (((i : Nat) : Int) < ((List.length (Graph.Rows (DrawBestCosts code)) : Nat) : Int)) := (of_decide_eq_false h229)
      have e230 := e175.trans (Go.Am.bif_f h229)
      refine AW.kp [3, 4, 6] [12, 60] ⟨[(3, .ref 12 1 0), (4, .arr 60 1), (6, .int .i64 ((iBestTree (DrawBestCosts code)).2))], [(12, .box 1 [.data (.slice (.int .i64)) ((Graph.Rows (DrawBestCosts code)) : List Int), .data (.slice (.named 0)) ((Graph.Edges (DrawBestCosts code)) : List Edge)]), (60, .arr 1 (.int .i64) ((iBestCosts (DrawBestCosts code)) : List Int))]⟩ ?_
      refine AW.exit ?_
      refine AW.meet () (by kernel_rfl) ⟨?_, e230⟩
      show True
      first | assumption | exact trivial | omega
   ·
    intro x hR
    obtain ⟨hJ0, e231⟩ := hR
    replace hJ0 : True := hJ0
    have e232 := e11.trans (Go.Am.elim_l e231)
    refine AW.seq (AW.r0 hC [2] [] ⟨[(2, .bool (bif (((List.length (iBestCosts (DrawBestCosts code)) : Nat) : Int) == ((1 : Int) * 2 ^ (List.length (Graph.Rows (DrawBestCosts code))))) then ((List.getD (iBestCosts (DrawBestCosts code)) (Int.toNat (lawsAll (DrawBestCosts code))) 0) == ((iBestTree (DrawBestCosts code)).2)) else false))], []⟩ [(0 ≤ ((List.length (Graph.Rows (DrawBestCosts code)) : Nat) : Int) ∧ ((List.length (Graph.Rows (DrawBestCosts code)) : Nat) : Int) ≤ 64), (-9223372036854775808 ≤ ((1 : Int) * 2 ^ (List.length (Graph.Rows (DrawBestCosts code)))) ∧ ((1 : Int) * 2 ^ (List.length (Graph.Rows (DrawBestCosts code)))) ≤ 9223372036854775807), (((((List.length (iBestCosts (DrawBestCosts code)) : Nat) : Int) == ((1 : Int) * 2 ^ (List.length (Graph.Rows (DrawBestCosts code))))) = true) → (((((List.length (iBestCosts (DrawBestCosts code)) : Nat) : Int) == ((1 : Int) * 2 ^ (List.length (Graph.Rows (DrawBestCosts code))))) = true))), (((((List.length (iBestCosts (DrawBestCosts code)) : Nat) : Int) == ((1 : Int) * 2 ^ (List.length (Graph.Rows (DrawBestCosts code))))) = true) → ((DrawBestCosts code).Rows.length ≤ 40)), (((((List.length (iBestCosts (DrawBestCosts code)) : Nat) : Int) == ((1 : Int) * 2 ^ (List.length (Graph.Rows (DrawBestCosts code))))) = true) → (((((List.length (iBestCosts (DrawBestCosts code)) : Nat) : Int) == ((1 : Int) * 2 ^ (List.length (Graph.Rows (DrawBestCosts code))))) = true))), (((((List.length (iBestCosts (DrawBestCosts code)) : Nat) : Int) == ((1 : Int) * 2 ^ (List.length (Graph.Rows (DrawBestCosts code))))) = true) → (((((List.length (iBestCosts (DrawBestCosts code)) : Nat) : Int) == ((1 : Int) * 2 ^ (List.length (Graph.Rows (DrawBestCosts code))))) = true))), (((((List.length (iBestCosts (DrawBestCosts code)) : Nat) : Int) == ((1 : Int) * 2 ^ (List.length (Graph.Rows (DrawBestCosts code))))) = true) → (0 ≤ (lawsAll (DrawBestCosts code)) ∧ (lawsAll (DrawBestCosts code)) < ((List.length (iBestCosts (DrawBestCosts code)) : Nat) : Int))), (((((List.length (iBestCosts (DrawBestCosts code)) : Nat) : Int) == ((1 : Int) * 2 ^ (List.length (Graph.Rows (DrawBestCosts code))))) = true) → (((((List.length (iBestCosts (DrawBestCosts code)) : Nat) : Int) == ((1 : Int) * 2 ^ (List.length (Graph.Rows (DrawBestCosts code))))) = true))), (((((List.length (iBestCosts (DrawBestCosts code)) : Nat) : Int) == ((1 : Int) * 2 ^ (List.length (Graph.Rows (DrawBestCosts code))))) = true) → (((((List.length (iBestCosts (DrawBestCosts code)) : Nat) : Int) == ((1 : Int) * 2 ^ (List.length (Graph.Rows (DrawBestCosts code))))) = true))), (((((List.length (iBestCosts (DrawBestCosts code)) : Nat) : Int) == ((1 : Int) * 2 ^ (List.length (Graph.Rows (DrawBestCosts code))))) = true) → (((((List.length (iBestCosts (DrawBestCosts code)) : Nat) : Int) == ((1 : Int) * 2 ^ (List.length (Graph.Rows (DrawBestCosts code))))) = true))), (((((List.length (iBestCosts (DrawBestCosts code)) : Nat) : Int) == ((1 : Int) * 2 ^ (List.length (Graph.Rows (DrawBestCosts code))))) = true) → (((((List.length (iBestCosts (DrawBestCosts code)) : Nat) : Int) == ((1 : Int) * 2 ^ (List.length (Graph.Rows (DrawBestCosts code))))) = true)))] ?_ ?_)
    ·
     refine ⟨?_, ?_, ?_, ?_, ?_, ?_, ?_, ?_, ?_, ?_, ?_, trivial⟩
     ·
      have hB := iBest_V (g := DrawBestCosts code) (by omega)
      have hV5 := hB.1.n5
      have hVl := hB.2.1
      omega
     ·
      first | omega | (have := hor (by omega); have := hpk (by omega); have := hpi (by omega); omega) | (have := hpi (by omega); omega) | (have hB := iBest_V (g := DrawBestCosts code) (by omega); have hV5 := hB.1.n5; have hVl := hB.2.1; have := g32 hB.1; omega)
     ·
      intro g233
      have g233p0 : ((List.length (iBestCosts (DrawBestCosts code)) : Nat) : Int) = ((1 : Int) * 2 ^ (List.length (Graph.Rows (DrawBestCosts code)))) := (Go.Am.beq_pos g233)
      first | assumption | exact ⟨by assumption, by assumption⟩
     ·
      intro g234
      have g234p0 : ((List.length (iBestCosts (DrawBestCosts code)) : Nat) : Int) = ((1 : Int) * 2 ^ (List.length (Graph.Rows (DrawBestCosts code)))) := (Go.Am.beq_pos g234)
      have hB := iBest_V (g := DrawBestCosts code) (by omega)
      have hV5 := hB.1.n5
      have hVl := hB.2.1
      omega
     ·
      intro g235
      have g235p0 : ((List.length (iBestCosts (DrawBestCosts code)) : Nat) : Int) = ((1 : Int) * 2 ^ (List.length (Graph.Rows (DrawBestCosts code)))) := (Go.Am.beq_pos g235)
      first | assumption | exact ⟨by assumption, by assumption⟩
     ·
      intro g236
      have g236p0 : ((List.length (iBestCosts (DrawBestCosts code)) : Nat) : Int) = ((1 : Int) * 2 ^ (List.length (Graph.Rows (DrawBestCosts code)))) := (Go.Am.beq_pos g236)
      first | assumption | exact ⟨by assumption, by assumption⟩
     ·
      intro g237
      have g237p0 : ((List.length (iBestCosts (DrawBestCosts code)) : Nat) : Int) = ((1 : Int) * 2 ^ (List.length (Graph.Rows (DrawBestCosts code)))) := (Go.Am.beq_pos g237)
      have hB := iBest_V (g := DrawBestCosts code) (by omega)
      have hV5 := hB.1.n5
      have hVl := hB.2.1
      unfold lawsAll
      have := g32 hB.1
      omega
     ·
      intro g238
      have g238p0 : ((List.length (iBestCosts (DrawBestCosts code)) : Nat) : Int) = ((1 : Int) * 2 ^ (List.length (Graph.Rows (DrawBestCosts code)))) := (Go.Am.beq_pos g238)
      first | assumption | exact ⟨by assumption, by assumption⟩
     ·
      intro g239
      have g239p0 : ((List.length (iBestCosts (DrawBestCosts code)) : Nat) : Int) = ((1 : Int) * 2 ^ (List.length (Graph.Rows (DrawBestCosts code)))) := (Go.Am.beq_pos g239)
      first | assumption | exact ⟨by assumption, by assumption⟩
     ·
      intro g240
      have g240p0 : ((List.length (iBestCosts (DrawBestCosts code)) : Nat) : Int) = ((1 : Int) * 2 ^ (List.length (Graph.Rows (DrawBestCosts code)))) := (Go.Am.beq_pos g240)
      first | assumption | exact ⟨by assumption, by assumption⟩
     ·
      intro g241
      have g241p0 : ((List.length (iBestCosts (DrawBestCosts code)) : Nat) : Int) = ((1 : Int) * 2 ^ (List.length (Graph.Rows (DrawBestCosts code)))) := (Go.Am.beq_pos g241)
      first | assumption | exact ⟨by assumption, by assumption⟩
    exact AW.ret (AW.retE (β := Bool) (fun v => [⟨.bool, v⟩]) (fun v => []) (v := (bif (((List.length (iBestCosts (DrawBestCosts code)) : Nat) : Int) == ((1 : Int) * 2 ^ (List.length (Graph.Rows (DrawBestCosts code))))) then ((List.getD (iBestCosts (DrawBestCosts code)) (Int.toNat (lawsAll (DrawBestCosts code))) 0) == ((iBestTree (DrawBestCosts code)).2)) else false)) e232 (by kernel_rfl) rfl rfl)

end
end Go.Proofs.Ytpoohhjlpepmfaa
