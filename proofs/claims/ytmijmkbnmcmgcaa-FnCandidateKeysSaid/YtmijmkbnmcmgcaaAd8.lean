/-
  A part of the proof of this claim (Ad8): what functions of the program compute, and plain facts of that. No conditions.
-/
import Derived.Test.YtmijmkbnmcmgcaaAdK
set_option linter.all false
namespace Go.Proofs.Ytmijmkbnmcmgcaa
open Go Go.Am

def FnCandidateKeys_l1 (code : List Int) (i : Nat) : Nat → Nat → Unit ⊕ Bool
  | 0, k1 => .inl ()
  | k + 1, k1 => (bif (decide (((k1 : Nat) : Int) < ((List.length (iCandidateKeys ((DrawCandidateKeys code).1) ((DrawCandidateKeys code).2)) : Nat) : Int))) then (bif (bif (((i : Nat) : Int) != ((k1 : Nat) : Int)) then ((bits .and .i64 (List.getD (iCandidateKeys ((DrawCandidateKeys code).1) ((DrawCandidateKeys code).2)) i 0) (List.getD (iCandidateKeys ((DrawCandidateKeys code).1) ((DrawCandidateKeys code).2)) k1 0)) == (List.getD (iCandidateKeys ((DrawCandidateKeys code).1) ((DrawCandidateKeys code).2)) i 0)) else false) then (.inr false) else (FnCandidateKeys_l1 code i k (k1 + 1))) else (.inl ()))

def FnCandidateKeys_l0 (code : List Int) (more : List Int) : Nat → Bool → Nat → Bool ⊕ Bool
  | 0, is, i => .inl is
  | k + 1, is, i => (bif (decide (((i : Nat) : Int) < ((List.length (iCandidateKeys ((DrawCandidateKeys code).1) ((DrawCandidateKeys code).2)) : Nat) : Int))) then (Sum.elim (fun _ => (bif (!(iIsKey ((DrawCandidateKeys code).1) ((DrawCandidateKeys code).2) (List.getD (iCandidateKeys ((DrawCandidateKeys code).1) ((DrawCandidateKeys code).2)) i 0))) then (.inr false) else (FnCandidateKeys_l0 code more k (bif is then true else ((bits .and .i64 (List.getD (iCandidateKeys ((DrawCandidateKeys code).1) ((DrawCandidateKeys code).2)) i 0) (((List.length more : Nat) : Int) % ((1 : Int) * 2 ^ (Int.toNat ((DrawCandidateKeys code).2))))) == (List.getD (iCandidateKeys ((DrawCandidateKeys code).1) ((DrawCandidateKeys code).2)) i 0))) (i + 1)))) (fun r => (.inr r)) (FnCandidateKeys_l1 code i ((List.length (iCandidateKeys ((DrawCandidateKeys code).1) ((DrawCandidateKeys code).2))) - 0 + 1) 0)) else (.inl is))

def FnCandidateKeys (code : List Int) (more : List Int) : Bool := (bif (bif (decide (1048576 < ((List.length code : Nat) : Int))) then true else (decide (1048576 < ((List.length more : Nat) : Int)))) then true else (bif (bif (!(equalInts (iCandidateKeys ((DrawCandidateKeys code).1) ((DrawCandidateKeys code).2)) (CandidateKeys ((DrawCandidateKeys code).1) ((DrawCandidateKeys code).2)))) then true else (!(ValidDependencies ((DrawCandidateKeys code).1) ((DrawCandidateKeys code).2)))) then (equalInts (iCandidateKeys ((DrawCandidateKeys code).1) ((DrawCandidateKeys code).2)) (CandidateKeys ((DrawCandidateKeys code).1) ((DrawCandidateKeys code).2))) else (Sum.elim (fun z => (fun (is : Bool) => (bif (decide (0 < ((List.length (iCandidateKeys ((DrawCandidateKeys code).1) ((DrawCandidateKeys code).2)) : Nat) : Int))) then (is == (iIsKey ((DrawCandidateKeys code).1) ((DrawCandidateKeys code).2) (((List.length more : Nat) : Int) % ((1 : Int) * 2 ^ (Int.toNat ((DrawCandidateKeys code).2)))))) else false)) z) (fun r => r) (FnCandidateKeys_l0 code more ((List.length (iCandidateKeys ((DrawCandidateKeys code).1) ((DrawCandidateKeys code).2))) - 0 + 1) false 0))))

def FnCandidateKeys_sp : FnSpec := mkSpec [.val (.slice (.int .u8)), .val (.slice (.int .u8))] [.val .bool] (fun (code : List Int) (more : List Int) => True) (fun (code : List Int) (more : List Int) => [⟨.bool, (FnCandidateKeys code more)⟩])

theorem FnCandidateKeys_ok : FnOK Try.prog 7 FnCandidateKeys_sp := by
  have hC : CtxOK Try.prog (mkCtx tyL [(15, iIsKey_sp), (18, ValidDependencies_sp), (22, DrawCandidateKeys_sp), (23, iCandidateKeys_sp), (24, equalInts_sp), (25, CandidateKeys_sp)]) := CtxOK.cons iIsKey_ok (CtxOK.cons ValidDependencies_ok (CtxOK.cons DrawCandidateKeys_ok (CtxOK.cons iCandidateKeys_ok (CtxOK.cons equalInts_ok (CtxOK.cons CandidateKeys_ok (CtxOK.nil tyOK))))))
  have hM : Try.prog.follows .mixedOrders = true := Try.checked.mixed
  refine FnOK.of_body Try.func7 (by kernel_rfl) rfl (C := (mkCtx tyL [(15, iIsKey_sp), (18, ValidDependencies_sp), (22, DrawCandidateKeys_sp), (23, iCandidateKeys_sp), (24, equalInts_sp), (25, CandidateKeys_sp)])) hC.ty (by decide) ?_
  intro (code : List Int) (more : List Int) hwf hpre E
  have hpre : True := hpre
  have hw_code : Wf ⟨(.slice (.int .u8)), (code : List Int)⟩ := hwf _ (List.Mem.head _)
  have hl_code : ((List.length code : Nat) : Int) ≤ 9223372036854775807 := hw_code.len
  have hw_more : Wf ⟨(.slice (.int .u8)), (more : List Int)⟩ := hwf _ (List.Mem.tail _ (List.Mem.head _))
  have hl_more : ((List.length more : Nat) : Int) ≤ 9223372036854775807 := hw_more.len
  have e0 : FnCandidateKeys code more = FnCandidateKeys code more := rfl
  refine AW.seq ?_
  refine AW.reg hC  false [] [0, 1] []
    ⟨[(0, .data (.slice (.int .u8)) (code : List Int)), (1, .data (.slice (.int .u8)) (more : List Int))], []⟩
    [] (by kernel_rfl) ?_ ?_
  · exact trivial
  refine AW.seq ?_
  refine AW.seq ?_
  refine AW.reg hC  false [] [0, 1, 19] []
    ⟨[(0, .data (.slice (.int .u8)) (code : List Int)), (1, .data (.slice (.int .u8)) (more : List Int)), (19, .bool (bif (decide (1048576 < ((List.length code : Nat) : Int))) then true else (decide (1048576 < ((List.length more : Nat) : Int)))))], []⟩
    [(((decide (1048576 < ((List.length code : Nat) : Int))) = false) → (((decide (1048576 < ((List.length code : Nat) : Int))) = false))), (((decide (1048576 < ((List.length code : Nat) : Int))) = false) → (((decide (1048576 < ((List.length code : Nat) : Int))) = false))), (((decide (1048576 < ((List.length code : Nat) : Int))) = false) → (((decide (1048576 < ((List.length code : Nat) : Int))) = false)))] (by kernel_rfl) ?_ ?_
  · refine ⟨?_, ?_, ?_, trivial⟩
    · intro g1
      have g1p0 : ¬ (1048576 < ((List.length code : Nat) : Int)) := (of_decide_eq_false g1)
      first | assumption | exact ⟨by assumption, by assumption⟩
    · intro g2
      have g2p0 : ¬ (1048576 < ((List.length code : Nat) : Int)) := (of_decide_eq_false g2)
      first | assumption | exact ⟨by assumption, by assumption⟩
    · intro g3
      have g3p0 : ¬ (1048576 < ((List.length code : Nat) : Int)) := (of_decide_eq_false g3)
      first | assumption | exact ⟨by assumption, by assumption⟩
  refine AW.cond (b := (bif (decide (1048576 < ((List.length code : Nat) : Int))) then true else (decide (1048576 < ((List.length more : Nat) : Int))))) (by kernel_rfl) ?_ ?_
  · intro h4
    have h4q : (1048576 < ((List.length code : Nat) : Int)) ∨ (1048576 < ((List.length more : Nat) : Int)) := (Or.imp (fun h => (of_decide_eq_true h)) (fun h => (of_decide_eq_true h)) (Go.Am.or_pos h4))
    have e5 := e0.trans (Go.Am.bif_t h4)
    refine AW.seq ?_
    refine AW.reg hC  false [] [4] []
      ⟨[(4, .bool true)], []⟩
      [] (by kernel_rfl) ?_ ?_
    · exact trivial
    refine AW.ret ?_
    exact AW.retE (β := Bool) (fun v => [⟨.bool, v⟩]) (fun v => []) (v := true) e5 (by kernel_rfl) rfl rfl
  · intro h6
    have h6q : (¬ (1048576 < ((List.length code : Nat) : Int))) ∧ (¬ (1048576 < ((List.length more : Nat) : Int))) := (And.imp (fun h => (of_decide_eq_false h)) (fun h => (of_decide_eq_false h)) (Go.Am.or_neg h6))
    have e7 := e0.trans (Go.Am.bif_f h6)
    refine AW.keep [0, 1] [] ⟨[(0, .data (.slice (.int .u8)) (code : List Int)), (1, .data (.slice (.int .u8)) (more : List Int))], []⟩ (by kernel_rfl) ?_
    refine AW.skip ?_
    refine AW.seq ?_
    refine AW.reg hC  false [] [1, 5, 6] [88]
      ⟨[(1, .data (.slice (.int .u8)) (more : List Int)), (5, .arr 88 1), (6, .int .i64 ((DrawCandidateKeys code).2))], [(88, .arr 1 (.named 0) (((DrawCandidateKeys code).1) : List Dep))]⟩
      [(True)] (by kernel_rfl) ?_ ?_
    · refine ⟨?_, trivial⟩
      · trivial
    refine AW.seq ?_
    refine AW.wf_arr (id := 88) (ep := 1) (t := (.named 0)) (xs := (((DrawCandidateKeys code).1) : List Dep)) (by kernel_rfl) fun ha8 _ => ?_
    replace ha8 : ((List.length ((DrawCandidateKeys code).1) : Nat) : Int) ≤ 4294967296 := ha8
    refine AW.reg hC  false [] [1, 5, 6, 7] [88, 108]
      ⟨[(1, .data (.slice (.int .u8)) (more : List Int)), (5, .arr 88 1), (6, .int .i64 ((DrawCandidateKeys code).2)), (7, .arr 108 1)], [(88, .arr 1 (.named 0) (((DrawCandidateKeys code).1) : List Dep)), (108, .arr 1 (.int .i64) ((iCandidateKeys ((DrawCandidateKeys code).1) ((DrawCandidateKeys code).2)) : List Int))]⟩
      [(True)] (by kernel_rfl) ?_ ?_
    · refine ⟨?_, trivial⟩
      · trivial
    refine AW.seq ?_
    refine AW.seq ?_
    refine AW.wf_arr (id := 88) (ep := 1) (t := (.named 0)) (xs := (((DrawCandidateKeys code).1) : List Dep)) (by kernel_rfl) fun ha9 _ => ?_
    replace ha9 : ((List.length ((DrawCandidateKeys code).1) : Nat) : Int) ≤ 4294967296 := ha9
    refine AW.wf_arr (id := 108) (ep := 1) (t := (.int .i64)) (xs := ((iCandidateKeys ((DrawCandidateKeys code).1) ((DrawCandidateKeys code).2)) : List Int)) (by kernel_rfl) fun ha10 _ => ?_
    replace ha10 : ((List.length (iCandidateKeys ((DrawCandidateKeys code).1) ((DrawCandidateKeys code).2)) : Nat) : Int) ≤ 4294967296 := ha10
    refine AW.reg hC  false [] [1, 5, 6, 7, 39] [88, 108]
      ⟨[(1, .data (.slice (.int .u8)) (more : List Int)), (5, .arr 88 1), (6, .int .i64 ((DrawCandidateKeys code).2)), (7, .arr 108 1), (39, .bool (bif (!(equalInts (iCandidateKeys ((DrawCandidateKeys code).1) ((DrawCandidateKeys code).2)) (CandidateKeys ((DrawCandidateKeys code).1) ((DrawCandidateKeys code).2)))) then true else (!(ValidDependencies ((DrawCandidateKeys code).1) ((DrawCandidateKeys code).2)))))], [(88, .arr 1 (.named 0) (((DrawCandidateKeys code).1) : List Dep)), (108, .arr 1 (.int .i64) ((iCandidateKeys ((DrawCandidateKeys code).1) ((DrawCandidateKeys code).2)) : List Int))]⟩
      [(True), (True), (((!(equalInts (iCandidateKeys ((DrawCandidateKeys code).1) ((DrawCandidateKeys code).2)) (CandidateKeys ((DrawCandidateKeys code).1) ((DrawCandidateKeys code).2)))) = false) → (((!(equalInts (iCandidateKeys ((DrawCandidateKeys code).1) ((DrawCandidateKeys code).2)) (CandidateKeys ((DrawCandidateKeys code).1) ((DrawCandidateKeys code).2)))) = false))), (((!(equalInts (iCandidateKeys ((DrawCandidateKeys code).1) ((DrawCandidateKeys code).2)) (CandidateKeys ((DrawCandidateKeys code).1) ((DrawCandidateKeys code).2)))) = false) → (((!(equalInts (iCandidateKeys ((DrawCandidateKeys code).1) ((DrawCandidateKeys code).2)) (CandidateKeys ((DrawCandidateKeys code).1) ((DrawCandidateKeys code).2)))) = false))), (((!(equalInts (iCandidateKeys ((DrawCandidateKeys code).1) ((DrawCandidateKeys code).2)) (CandidateKeys ((DrawCandidateKeys code).1) ((DrawCandidateKeys code).2)))) = false) → (True)), (((!(equalInts (iCandidateKeys ((DrawCandidateKeys code).1) ((DrawCandidateKeys code).2)) (CandidateKeys ((DrawCandidateKeys code).1) ((DrawCandidateKeys code).2)))) = false) → (((!(equalInts (iCandidateKeys ((DrawCandidateKeys code).1) ((DrawCandidateKeys code).2)) (CandidateKeys ((DrawCandidateKeys code).1) ((DrawCandidateKeys code).2)))) = false))), (((!(equalInts (iCandidateKeys ((DrawCandidateKeys code).1) ((DrawCandidateKeys code).2)) (CandidateKeys ((DrawCandidateKeys code).1) ((DrawCandidateKeys code).2)))) = false) → (((!(equalInts (iCandidateKeys ((DrawCandidateKeys code).1) ((DrawCandidateKeys code).2)) (CandidateKeys ((DrawCandidateKeys code).1) ((DrawCandidateKeys code).2)))) = false)))] (by kernel_rfl) ?_ ?_
    · refine ⟨?_, ?_, ?_, ?_, ?_, ?_, ?_, trivial⟩
      · trivial
      · trivial
      · intro g11
        have g11p0 : (equalInts (iCandidateKeys ((DrawCandidateKeys code).1) ((DrawCandidateKeys code).2)) (CandidateKeys ((DrawCandidateKeys code).1) ((DrawCandidateKeys code).2))) = true := (Go.Am.not_neg g11)
        first | assumption | exact ⟨by assumption, by assumption⟩
      · intro g12
        have g12p0 : (equalInts (iCandidateKeys ((DrawCandidateKeys code).1) ((DrawCandidateKeys code).2)) (CandidateKeys ((DrawCandidateKeys code).1) ((DrawCandidateKeys code).2))) = true := (Go.Am.not_neg g12)
        first | assumption | exact ⟨by assumption, by assumption⟩
      · intro g13
        have g13p0 : (equalInts (iCandidateKeys ((DrawCandidateKeys code).1) ((DrawCandidateKeys code).2)) (CandidateKeys ((DrawCandidateKeys code).1) ((DrawCandidateKeys code).2))) = true := (Go.Am.not_neg g13)
        trivial
      · intro g14
        have g14p0 : (equalInts (iCandidateKeys ((DrawCandidateKeys code).1) ((DrawCandidateKeys code).2)) (CandidateKeys ((DrawCandidateKeys code).1) ((DrawCandidateKeys code).2))) = true := (Go.Am.not_neg g14)
        first | assumption | exact ⟨by assumption, by assumption⟩
      · intro g15
        have g15p0 : (equalInts (iCandidateKeys ((DrawCandidateKeys code).1) ((DrawCandidateKeys code).2)) (CandidateKeys ((DrawCandidateKeys code).1) ((DrawCandidateKeys code).2))) = true := (Go.Am.not_neg g15)
        first | assumption | exact ⟨by assumption, by assumption⟩
    refine AW.cond (b := (bif (!(equalInts (iCandidateKeys ((DrawCandidateKeys code).1) ((DrawCandidateKeys code).2)) (CandidateKeys ((DrawCandidateKeys code).1) ((DrawCandidateKeys code).2)))) then true else (!(ValidDependencies ((DrawCandidateKeys code).1) ((DrawCandidateKeys code).2))))) (by kernel_rfl) ?_ ?_
    · intro h16
      have h16q : ((equalInts (iCandidateKeys ((DrawCandidateKeys code).1) ((DrawCandidateKeys code).2)) (CandidateKeys ((DrawCandidateKeys code).1) ((DrawCandidateKeys code).2))) = false) ∨ ((ValidDependencies ((DrawCandidateKeys code).1) ((DrawCandidateKeys code).2)) = false) := (Or.imp (fun h => (Go.Am.not_pos h)) (fun h => (Go.Am.not_pos h)) (Go.Am.or_pos h16))
      have e17 := e7.trans (Go.Am.bif_t h16)
      refine AW.seq ?_
      refine AW.wf_arr (id := 88) (ep := 1) (t := (.named 0)) (xs := (((DrawCandidateKeys code).1) : List Dep)) (by kernel_rfl) fun ha18 _ => ?_
      replace ha18 : ((List.length ((DrawCandidateKeys code).1) : Nat) : Int) ≤ 4294967296 := ha18
      refine AW.wf_arr (id := 108) (ep := 1) (t := (.int .i64)) (xs := ((iCandidateKeys ((DrawCandidateKeys code).1) ((DrawCandidateKeys code).2)) : List Int)) (by kernel_rfl) fun ha19 _ => ?_
      replace ha19 : ((List.length (iCandidateKeys ((DrawCandidateKeys code).1) ((DrawCandidateKeys code).2)) : Nat) : Int) ≤ 4294967296 := ha19
      refine AW.reg hC  false [] [4] []
        ⟨[(4, .bool (equalInts (iCandidateKeys ((DrawCandidateKeys code).1) ((DrawCandidateKeys code).2)) (CandidateKeys ((DrawCandidateKeys code).1) ((DrawCandidateKeys code).2))))], []⟩
        [(True), (True)] (by kernel_rfl) ?_ ?_
      · refine ⟨?_, ?_, trivial⟩
        · trivial
        · trivial
      refine AW.ret ?_
      exact AW.retE (β := Bool) (fun v => [⟨.bool, v⟩]) (fun v => []) (v := (equalInts (iCandidateKeys ((DrawCandidateKeys code).1) ((DrawCandidateKeys code).2)) (CandidateKeys ((DrawCandidateKeys code).1) ((DrawCandidateKeys code).2)))) e17 (by kernel_rfl) rfl rfl
    · intro h20
      have h20q : ((equalInts (iCandidateKeys ((DrawCandidateKeys code).1) ((DrawCandidateKeys code).2)) (CandidateKeys ((DrawCandidateKeys code).1) ((DrawCandidateKeys code).2))) = true) ∧ ((ValidDependencies ((DrawCandidateKeys code).1) ((DrawCandidateKeys code).2)) = true) := (And.imp (fun h => (Go.Am.not_neg h)) (fun h => (Go.Am.not_neg h)) (Go.Am.or_neg h20))
      have e21 := e7.trans (Go.Am.bif_f h20)
      refine AW.keep [1, 5, 6, 7] [88, 108] ⟨[(1, .data (.slice (.int .u8)) (more : List Int)), (5, .arr 88 1), (6, .int .i64 ((DrawCandidateKeys code).2)), (7, .arr 108 1)], [(88, .arr 1 (.named 0) (((DrawCandidateKeys code).1) : List Dep)), (108, .arr 1 (.int .i64) ((iCandidateKeys ((DrawCandidateKeys code).1) ((DrawCandidateKeys code).2)) : List Int))]⟩ (by kernel_rfl) ?_
      refine AW.skip ?_
      refine AW.seq ?_
      refine AW.wf_arr (id := 88) (ep := 1) (t := (.named 0)) (xs := (((DrawCandidateKeys code).1) : List Dep)) (by kernel_rfl) fun ha22 _ => ?_
      replace ha22 : ((List.length ((DrawCandidateKeys code).1) : Nat) : Int) ≤ 4294967296 := ha22
      refine AW.wf_arr (id := 108) (ep := 1) (t := (.int .i64)) (xs := ((iCandidateKeys ((DrawCandidateKeys code).1) ((DrawCandidateKeys code).2)) : List Int)) (by kernel_rfl) fun ha23 _ => ?_
      replace ha23 : ((List.length (iCandidateKeys ((DrawCandidateKeys code).1) ((DrawCandidateKeys code).2)) : Nat) : Int) ≤ 4294967296 := ha23
      refine AW.reg hC  false [] [5, 6, 7, 8] [88, 108]
        ⟨[(5, .arr 88 1), (6, .int .i64 ((DrawCandidateKeys code).2)), (7, .arr 108 1), (8, .int .i64 (((List.length more : Nat) : Int) % ((1 : Int) * 2 ^ (Int.toNat ((DrawCandidateKeys code).2)))))], [(88, .arr 1 (.named 0) (((DrawCandidateKeys code).1) : List Dep)), (108, .arr 1 (.int .i64) ((iCandidateKeys ((DrawCandidateKeys code).1) ((DrawCandidateKeys code).2)) : List Int))]⟩
        [(0 ≤ ((DrawCandidateKeys code).2) ∧ ((DrawCandidateKeys code).2) ≤ 64), (-9223372036854775808 ≤ ((1 : Int) * 2 ^ (Int.toNat ((DrawCandidateKeys code).2))) ∧ ((1 : Int) * 2 ^ (Int.toNat ((DrawCandidateKeys code).2))) ≤ 9223372036854775807), (0 ≤ ((List.length more : Nat) : Int) ∧ 0 < ((1 : Int) * 2 ^ (Int.toNat ((DrawCandidateKeys code).2))))] (by kernel_rfl) ?_ ?_
      · refine ⟨?_, ?_, ?_, trivial⟩
        · -- r7.0: 0 ≤ ((DrawCandidateKeys code).2) ∧ ((DrawCandidateKeys code).2) ≤ 64
          first | omega | (have hw := (valid_deps (by first | exact trivial.2 | exact h20q.2 | exact h6q.2 | exact trivial.2 | exact trivial.2 | exact trivial.2)).1; have := pow32 (w := (DrawCandidateKeys code).2) hw.2 (by omega); omega)
        · -- r7.1: -9223372036854775808 ≤ ((1 : Int) * 2 ^ (Int.toNat ((DrawCandidateKeys code).2))) ∧ ((1 : Int) * 2 ^ (Int.toNat ((DrawCandidateKeys code).2))) ≤ 9223372036854775807
          first | omega | (have hw := (valid_deps (by first | exact trivial.2 | exact h20q.2 | exact h6q.2 | exact trivial.2 | exact trivial.2 | exact trivial.2)).1; have := pow32 (w := (DrawCandidateKeys code).2) hw.2 (by omega); omega)
        · -- r7.2: 0 ≤ ((List.length more : Nat) : Int) ∧ 0 < ((1 : Int) * 2 ^ (Int.toNat ((DrawCandidateKeys code).2)))
          first | omega | (have hw := (valid_deps (by first | exact trivial.2 | exact h20q.2 | exact h6q.2 | exact trivial.2 | exact trivial.2 | exact trivial.2)).1; have := pow32 (w := (DrawCandidateKeys code).2) hw.2 (by omega); omega)
      refine AW.seq ?_
      refine AW.wf_arr (id := 88) (ep := 1) (t := (.named 0)) (xs := (((DrawCandidateKeys code).1) : List Dep)) (by kernel_rfl) fun ha24 _ => ?_
      replace ha24 : ((List.length ((DrawCandidateKeys code).1) : Nat) : Int) ≤ 4294967296 := ha24
      refine AW.wf_arr (id := 108) (ep := 1) (t := (.int .i64)) (xs := ((iCandidateKeys ((DrawCandidateKeys code).1) ((DrawCandidateKeys code).2)) : List Int)) (by kernel_rfl) fun ha25 _ => ?_
      replace ha25 : ((List.length (iCandidateKeys ((DrawCandidateKeys code).1) ((DrawCandidateKeys code).2)) : Nat) : Int) ≤ 4294967296 := ha25
      refine AW.reg hC  false [] [5, 6, 7, 8, 9] [88, 108]
        ⟨[(5, .arr 88 1), (6, .int .i64 ((DrawCandidateKeys code).2)), (7, .arr 108 1), (8, .int .i64 (((List.length more : Nat) : Int) % ((1 : Int) * 2 ^ (Int.toNat ((DrawCandidateKeys code).2))))), (9, .bool false)], [(88, .arr 1 (.named 0) (((DrawCandidateKeys code).1) : List Dep)), (108, .arr 1 (.int .i64) ((iCandidateKeys ((DrawCandidateKeys code).1) ((DrawCandidateKeys code).2)) : List Int))]⟩
        [] (by kernel_rfl) ?_ ?_
      · exact trivial
      refine AW.seq ?_
      refine AW.seq ?_
      refine AW.wf_arr (id := 88) (ep := 1) (t := (.named 0)) (xs := (((DrawCandidateKeys code).1) : List Dep)) (by kernel_rfl) fun ha26 _ => ?_
      replace ha26 : ((List.length ((DrawCandidateKeys code).1) : Nat) : Int) ≤ 4294967296 := ha26
      refine AW.wf_arr (id := 108) (ep := 1) (t := (.int .i64)) (xs := ((iCandidateKeys ((DrawCandidateKeys code).1) ((DrawCandidateKeys code).2)) : List Int)) (by kernel_rfl) fun ha27 _ => ?_
      replace ha27 : ((List.length (iCandidateKeys ((DrawCandidateKeys code).1) ((DrawCandidateKeys code).2)) : Nat) : Int) ≤ 4294967296 := ha27
      refine AW.reg hC  false [] [5, 6, 7, 8, 9, 10] [88, 108]
        ⟨[(5, .arr 88 1), (6, .int .i64 ((DrawCandidateKeys code).2)), (7, .arr 108 1), (8, .int .i64 (((List.length more : Nat) : Int) % ((1 : Int) * 2 ^ (Int.toNat ((DrawCandidateKeys code).2))))), (9, .bool false), (10, .int .i64 0)], [(88, .arr 1 (.named 0) (((DrawCandidateKeys code).1) : List Dep)), (108, .arr 1 (.int .i64) ((iCandidateKeys ((DrawCandidateKeys code).1) ((DrawCandidateKeys code).2)) : List Int))]⟩
        [] (by kernel_rfl) ?_ ?_
      · exact trivial
      refine AW.cutQ (α := Bool) (fun x => ⟨[(5, .arr 88 1), (6, .int .i64 ((DrawCandidateKeys code).2)), (7, .arr 108 1), (8, .int .i64 (((List.length more : Nat) : Int) % ((1 : Int) * 2 ^ (Int.toNat ((DrawCandidateKeys code).2))))), (9, .bool x)], [(88, .arr 1 (.named 0) (((DrawCandidateKeys code).1) : List Dep)), (108, .arr 1 (.int .i64) ((iCandidateKeys ((DrawCandidateKeys code).1) ((DrawCandidateKeys code).2)) : List Int))]⟩) (fun x => (True) ∧ (FnCandidateKeys_l0 code more ((List.length (iCandidateKeys ((DrawCandidateKeys code).1) ((DrawCandidateKeys code).2))) - 0 + 1) false 0) = (.inl x)) ?_ ?_
      · skip
        refine AW.block ?_
        refine AW.loop (α := Bool × Nat) (fun x => ⟨[(5, .arr 88 1), (6, .int .i64 ((DrawCandidateKeys code).2)), (7, .arr 108 1), (8, .int .i64 (((List.length more : Nat) : Int) % ((1 : Int) * 2 ^ (Int.toNat ((DrawCandidateKeys code).2))))), (9, .bool x.1), (10, .int .i64 ((x.2 : Nat) : Int))], [(88, .arr 1 (.named 0) (((DrawCandidateKeys code).1) : List Dep)), (108, .arr 1 (.int .i64) ((iCandidateKeys ((DrawCandidateKeys code).1) ((DrawCandidateKeys code).2)) : List Int))]⟩) (fun x => (True) ∧ ∃ k, (List.length (iCandidateKeys ((DrawCandidateKeys code).1) ((DrawCandidateKeys code).2))) - x.2 < k ∧ (FnCandidateKeys_l0 code more ((List.length (iCandidateKeys ((DrawCandidateKeys code).1) ((DrawCandidateKeys code).2))) - 0 + 1) false 0) = FnCandidateKeys_l0 code more k x.1 x.2) (fun x => (List.length (iCandidateKeys ((DrawCandidateKeys code).1) ((DrawCandidateKeys code).2))) - x.2) (false, 0) (by kernel_rfl) ⟨?_, _, Nat.lt_succ_self _, rfl⟩ ?_
        · show True
          first | exact trivial | (refine ⟨?_, ?_⟩ <;> first | omega | simp) | omega | simp
        · intro x hR
          obtain ⟨is, i⟩ := x
          obtain ⟨hI0, k324, hk322, e323⟩ := hR
          replace hI0 : True := hI0
          replace hk322 : (List.length (iCandidateKeys ((DrawCandidateKeys code).1) ((DrawCandidateKeys code).2))) - i < k324 := hk322
          obtain ⟨k324q, rfl⟩ : ∃ k, k324 = k + 1 := ⟨k324 - 1, by omega⟩
          refine AW.seq ?_
          refine AW.seq ?_
          refine AW.wf_arr (id := 88) (ep := 1) (t := (.named 0)) (xs := (((DrawCandidateKeys code).1) : List Dep)) (by kernel_rfl) fun ha325 _ => ?_
          replace ha325 : ((List.length ((DrawCandidateKeys code).1) : Nat) : Int) ≤ 4294967296 := ha325
          refine AW.wf_arr (id := 108) (ep := 1) (t := (.int .i64)) (xs := ((iCandidateKeys ((DrawCandidateKeys code).1) ((DrawCandidateKeys code).2)) : List Int)) (by kernel_rfl) fun ha326 _ => ?_
          replace ha326 : ((List.length (iCandidateKeys ((DrawCandidateKeys code).1) ((DrawCandidateKeys code).2)) : Nat) : Int) ≤ 4294967296 := ha326
          refine AW.reg hC  false [] [5, 6, 7, 8, 9, 10, 53] [88, 108]
            ⟨[(5, .arr 88 1), (6, .int .i64 ((DrawCandidateKeys code).2)), (7, .arr 108 1), (8, .int .i64 (((List.length more : Nat) : Int) % ((1 : Int) * 2 ^ (Int.toNat ((DrawCandidateKeys code).2))))), (9, .bool is), (10, .int .i64 ((i : Nat) : Int)), (53, .bool (decide (((i : Nat) : Int) < ((List.length (iCandidateKeys ((DrawCandidateKeys code).1) ((DrawCandidateKeys code).2)) : Nat) : Int))))], [(88, .arr 1 (.named 0) (((DrawCandidateKeys code).1) : List Dep)), (108, .arr 1 (.int .i64) ((iCandidateKeys ((DrawCandidateKeys code).1) ((DrawCandidateKeys code).2)) : List Int))]⟩
            [] (by kernel_rfl) ?_ ?_
          · exact trivial
          refine AW.cond (b := (decide (((i : Nat) : Int) < ((List.length (iCandidateKeys ((DrawCandidateKeys code).1) ((DrawCandidateKeys code).2)) : Nat) : Int)))) (by kernel_rfl) ?_ ?_
          · intro h327
            have h327q : ((i : Nat) : Int) < ((List.length (iCandidateKeys ((DrawCandidateKeys code).1) ((DrawCandidateKeys code).2)) : Nat) : Int) := (of_decide_eq_true h327)
            have e328 := e323.trans (Go.Am.bif_t h327)
            refine AW.keep [5, 6, 7, 8, 9, 10] [88, 108] ⟨[(5, .arr 88 1), (6, .int .i64 ((DrawCandidateKeys code).2)), (7, .arr 108 1), (8, .int .i64 (((List.length more : Nat) : Int) % ((1 : Int) * 2 ^ (Int.toNat ((DrawCandidateKeys code).2))))), (9, .bool is), (10, .int .i64 ((i : Nat) : Int))], [(88, .arr 1 (.named 0) (((DrawCandidateKeys code).1) : List Dep)), (108, .arr 1 (.int .i64) ((iCandidateKeys ((DrawCandidateKeys code).1) ((DrawCandidateKeys code).2)) : List Int))]⟩ (by kernel_rfl) ?_
            refine AW.skip ?_
            refine AW.seq ?_
            refine AW.block ?_
            refine AW.seq ?_
            refine AW.wf_arr (id := 88) (ep := 1) (t := (.named 0)) (xs := (((DrawCandidateKeys code).1) : List Dep)) (by kernel_rfl) fun ha329 _ => ?_
            replace ha329 : ((List.length ((DrawCandidateKeys code).1) : Nat) : Int) ≤ 4294967296 := ha329
            refine AW.wf_arr (id := 108) (ep := 1) (t := (.int .i64)) (xs := ((iCandidateKeys ((DrawCandidateKeys code).1) ((DrawCandidateKeys code).2)) : List Int)) (by kernel_rfl) fun ha330 _ => ?_
            replace ha330 : ((List.length (iCandidateKeys ((DrawCandidateKeys code).1) ((DrawCandidateKeys code).2)) : Nat) : Int) ≤ 4294967296 := ha330
            refine AW.regD hC hM  false [] [5, 6, 7, 8, 9, 10] [88, 108]
              ⟨[(5, .arr 88 1), (6, .int .i64 ((DrawCandidateKeys code).2)), (7, .arr 108 1), (8, .int .i64 (((List.length more : Nat) : Int) % ((1 : Int) * 2 ^ (Int.toNat ((DrawCandidateKeys code).2))))), (9, .bool (bif is then true else ((bits .and .i64 (List.getD (iCandidateKeys ((DrawCandidateKeys code).1) ((DrawCandidateKeys code).2)) i 0) (((List.length more : Nat) : Int) % ((1 : Int) * 2 ^ (Int.toNat ((DrawCandidateKeys code).2))))) == (List.getD (iCandidateKeys ((DrawCandidateKeys code).1) ((DrawCandidateKeys code).2)) i 0)))), (10, .int .i64 ((i : Nat) : Int))], [(88, .arr 1 (.named 0) (((DrawCandidateKeys code).1) : List Dep)), (108, .arr 1 (.int .i64) ((iCandidateKeys ((DrawCandidateKeys code).1) ((DrawCandidateKeys code).2)) : List Int))]⟩
              [((is = false) → ((is = false))), ((is = false) → ((is = false))), ((is = false) → (0 ≤ ((i : Nat) : Int) ∧ ((i : Nat) : Int) < ((List.length (iCandidateKeys ((DrawCandidateKeys code).1) ((DrawCandidateKeys code).2)) : Nat) : Int))), ((is = false) → ((is = false))), ((is = false) → ((is = false))), ((is = false) → ((is = false))), ((is = false) → ((is = false))), ((is = false) → ((is = false))), ((is = false) → (0 ≤ ((i : Nat) : Int) ∧ ((i : Nat) : Int) < ((List.length (iCandidateKeys ((DrawCandidateKeys code).1) ((DrawCandidateKeys code).2)) : Nat) : Int))), ((is = false) → ((is = false))), ((is = false) → ((is = false))), ((is = false) → ((is = false))), ((is = false) → ((is = false)))] (by kernel_rfl) ?_ ?_
            · refine ⟨?_, ?_, ?_, ?_, ?_, ?_, ?_, ?_, ?_, ?_, ?_, ?_, ?_, trivial⟩
              · intro g331
                have g331p0 : is = false := g331
                first | assumption | exact ⟨by assumption, by assumption⟩
              · intro g332
                have g332p0 : is = false := g332
                first | assumption | exact ⟨by assumption, by assumption⟩
              · intro g333
                have g333p0 : is = false := g333
                -- r12.2: 0 ≤ ((i : Nat) : Int) ∧ ((i : Nat) : Int) < ((List.length (iCandidateKeys ((DrawCandidateKeys code).1) ((DrawCandidateKeys code).2)) : Nat) : Int)
                first | omega | (have hw := (valid_deps (by first | exact g333p0.2 | exact h327q.2 | exact h20q.2 | exact h6q.2 | exact trivial.2 | exact trivial.2)).1; have := pow32 (w := (DrawCandidateKeys code).2) hw.2 (by omega); omega)
              · intro g334
                have g334p0 : is = false := g334
                first | assumption | exact ⟨by assumption, by assumption⟩
              · intro g335
                have g335p0 : is = false := g335
                first | assumption | exact ⟨by assumption, by assumption⟩
              · intro g336
                have g336p0 : is = false := g336
                first | assumption | exact ⟨by assumption, by assumption⟩
              · intro g337
                have g337p0 : is = false := g337
                first | assumption | exact ⟨by assumption, by assumption⟩
              · intro g338
                have g338p0 : is = false := g338
                first | assumption | exact ⟨by assumption, by assumption⟩
              · intro g339
                have g339p0 : is = false := g339
                -- r12.8: 0 ≤ ((i : Nat) : Int) ∧ ((i : Nat) : Int) < ((List.length (iCandidateKeys ((DrawCandidateKeys code).1) ((DrawCandidateKeys code).2)) : Nat) : Int)
                first | omega | (have hw := (valid_deps (by first | exact g339p0.2 | exact h327q.2 | exact h20q.2 | exact h6q.2 | exact trivial.2 | exact trivial.2)).1; have := pow32 (w := (DrawCandidateKeys code).2) hw.2 (by omega); omega)
              · intro g340
                have g340p0 : is = false := g340
                first | assumption | exact ⟨by assumption, by assumption⟩
              · intro g341
                have g341p0 : is = false := g341
                first | assumption | exact ⟨by assumption, by assumption⟩
              · intro g342
                have g342p0 : is = false := g342
                first | assumption | exact ⟨by assumption, by assumption⟩
              · intro g343
                have g343p0 : is = false := g343
                first | assumption | exact ⟨by assumption, by assumption⟩
            refine AW.seq ?_
            refine AW.seq ?_
            refine AW.wf_arr (id := 88) (ep := 1) (t := (.named 0)) (xs := (((DrawCandidateKeys code).1) : List Dep)) (by kernel_rfl) fun ha344 _ => ?_
            replace ha344 : ((List.length ((DrawCandidateKeys code).1) : Nat) : Int) ≤ 4294967296 := ha344
            refine AW.wf_arr (id := 108) (ep := 1) (t := (.int .i64)) (xs := ((iCandidateKeys ((DrawCandidateKeys code).1) ((DrawCandidateKeys code).2)) : List Int)) (by kernel_rfl) fun ha345 _ => ?_
            replace ha345 : ((List.length (iCandidateKeys ((DrawCandidateKeys code).1) ((DrawCandidateKeys code).2)) : Nat) : Int) ≤ 4294967296 := ha345
            refine AW.reg hC  false [] [5, 6, 7, 8, 9, 10, 11] [88, 108]
              ⟨[(5, .arr 88 1), (6, .int .i64 ((DrawCandidateKeys code).2)), (7, .arr 108 1), (8, .int .i64 (((List.length more : Nat) : Int) % ((1 : Int) * 2 ^ (Int.toNat ((DrawCandidateKeys code).2))))), (9, .bool (bif is then true else ((bits .and .i64 (List.getD (iCandidateKeys ((DrawCandidateKeys code).1) ((DrawCandidateKeys code).2)) i 0) (((List.length more : Nat) : Int) % ((1 : Int) * 2 ^ (Int.toNat ((DrawCandidateKeys code).2))))) == (List.getD (iCandidateKeys ((DrawCandidateKeys code).1) ((DrawCandidateKeys code).2)) i 0)))), (10, .int .i64 ((i : Nat) : Int)), (11, .int .i64 0)], [(88, .arr 1 (.named 0) (((DrawCandidateKeys code).1) : List Dep)), (108, .arr 1 (.int .i64) ((iCandidateKeys ((DrawCandidateKeys code).1) ((DrawCandidateKeys code).2)) : List Int))]⟩
              [] (by kernel_rfl) ?_ ?_
            · exact trivial
            refine AW.cutQ (α := Unit) (fun x => ⟨[(5, .arr 88 1), (6, .int .i64 ((DrawCandidateKeys code).2)), (7, .arr 108 1), (8, .int .i64 (((List.length more : Nat) : Int) % ((1 : Int) * 2 ^ (Int.toNat ((DrawCandidateKeys code).2))))), (9, .bool (bif is then true else ((bits .and .i64 (List.getD (iCandidateKeys ((DrawCandidateKeys code).1) ((DrawCandidateKeys code).2)) i 0) (((List.length more : Nat) : Int) % ((1 : Int) * 2 ^ (Int.toNat ((DrawCandidateKeys code).2))))) == (List.getD (iCandidateKeys ((DrawCandidateKeys code).1) ((DrawCandidateKeys code).2)) i 0)))), (10, .int .i64 ((i : Nat) : Int))], [(88, .arr 1 (.named 0) (((DrawCandidateKeys code).1) : List Dep)), (108, .arr 1 (.int .i64) ((iCandidateKeys ((DrawCandidateKeys code).1) ((DrawCandidateKeys code).2)) : List Int))]⟩) (fun x => (True) ∧ (FnCandidateKeys_l1 code i ((List.length (iCandidateKeys ((DrawCandidateKeys code).1) ((DrawCandidateKeys code).2))) - 0 + 1) 0) = (.inl ())) ?_ ?_
            · skip
              refine AW.block ?_
              refine AW.loop (α := Nat) (fun x => ⟨[(5, .arr 88 1), (6, .int .i64 ((DrawCandidateKeys code).2)), (7, .arr 108 1), (8, .int .i64 (((List.length more : Nat) : Int) % ((1 : Int) * 2 ^ (Int.toNat ((DrawCandidateKeys code).2))))), (9, .bool (bif is then true else ((bits .and .i64 (List.getD (iCandidateKeys ((DrawCandidateKeys code).1) ((DrawCandidateKeys code).2)) i 0) (((List.length more : Nat) : Int) % ((1 : Int) * 2 ^ (Int.toNat ((DrawCandidateKeys code).2))))) == (List.getD (iCandidateKeys ((DrawCandidateKeys code).1) ((DrawCandidateKeys code).2)) i 0)))), (10, .int .i64 ((i : Nat) : Int)), (11, .int .i64 ((x : Nat) : Int))], [(88, .arr 1 (.named 0) (((DrawCandidateKeys code).1) : List Dep)), (108, .arr 1 (.int .i64) ((iCandidateKeys ((DrawCandidateKeys code).1) ((DrawCandidateKeys code).2)) : List Int))]⟩) (fun x => (True) ∧ ∃ k, (List.length (iCandidateKeys ((DrawCandidateKeys code).1) ((DrawCandidateKeys code).2))) - x < k ∧ (FnCandidateKeys_l1 code i ((List.length (iCandidateKeys ((DrawCandidateKeys code).1) ((DrawCandidateKeys code).2))) - 0 + 1) 0) = FnCandidateKeys_l1 code i k x) (fun x => (List.length (iCandidateKeys ((DrawCandidateKeys code).1) ((DrawCandidateKeys code).2))) - x) 0 (by kernel_rfl) ⟨?_, _, Nat.lt_succ_self _, rfl⟩ ?_
              · show True
                first | exact trivial | (refine ⟨?_, ?_⟩ <;> first | omega | simp) | omega | simp
              · intro k1 hR
                obtain ⟨hI1, k402, hk400, e401⟩ := hR
                replace hI1 : True := hI1
                replace hk400 : (List.length (iCandidateKeys ((DrawCandidateKeys code).1) ((DrawCandidateKeys code).2))) - k1 < k402 := hk400
                obtain ⟨k402q, rfl⟩ : ∃ k, k402 = k + 1 := ⟨k402 - 1, by omega⟩
                refine AW.seq ?_
                refine AW.seq ?_
                refine AW.wf_arr (id := 88) (ep := 1) (t := (.named 0)) (xs := (((DrawCandidateKeys code).1) : List Dep)) (by kernel_rfl) fun ha403 _ => ?_
                replace ha403 : ((List.length ((DrawCandidateKeys code).1) : Nat) : Int) ≤ 4294967296 := ha403
                refine AW.wf_arr (id := 108) (ep := 1) (t := (.int .i64)) (xs := ((iCandidateKeys ((DrawCandidateKeys code).1) ((DrawCandidateKeys code).2)) : List Int)) (by kernel_rfl) fun ha404 _ => ?_
                replace ha404 : ((List.length (iCandidateKeys ((DrawCandidateKeys code).1) ((DrawCandidateKeys code).2)) : Nat) : Int) ≤ 4294967296 := ha404
                refine AW.reg hC  false [] [5, 6, 7, 8, 9, 10, 11, 73] [88, 108]
                  ⟨[(5, .arr 88 1), (6, .int .i64 ((DrawCandidateKeys code).2)), (7, .arr 108 1), (8, .int .i64 (((List.length more : Nat) : Int) % ((1 : Int) * 2 ^ (Int.toNat ((DrawCandidateKeys code).2))))), (9, .bool (bif is then true else ((bits .and .i64 (List.getD (iCandidateKeys ((DrawCandidateKeys code).1) ((DrawCandidateKeys code).2)) i 0) (((List.length more : Nat) : Int) % ((1 : Int) * 2 ^ (Int.toNat ((DrawCandidateKeys code).2))))) == (List.getD (iCandidateKeys ((DrawCandidateKeys code).1) ((DrawCandidateKeys code).2)) i 0)))), (10, .int .i64 ((i : Nat) : Int)), (11, .int .i64 ((k1 : Nat) : Int)), (73, .bool (decide (((k1 : Nat) : Int) < ((List.length (iCandidateKeys ((DrawCandidateKeys code).1) ((DrawCandidateKeys code).2)) : Nat) : Int))))], [(88, .arr 1 (.named 0) (((DrawCandidateKeys code).1) : List Dep)), (108, .arr 1 (.int .i64) ((iCandidateKeys ((DrawCandidateKeys code).1) ((DrawCandidateKeys code).2)) : List Int))]⟩
                  [] (by kernel_rfl) ?_ ?_
                · exact trivial
                refine AW.cond (b := (decide (((k1 : Nat) : Int) < ((List.length (iCandidateKeys ((DrawCandidateKeys code).1) ((DrawCandidateKeys code).2)) : Nat) : Int)))) (by kernel_rfl) ?_ ?_
                · intro h405
                  have h405q : ((k1 : Nat) : Int) < ((List.length (iCandidateKeys ((DrawCandidateKeys code).1) ((DrawCandidateKeys code).2)) : Nat) : Int) := (of_decide_eq_true h405)
                  have e406 := e401.trans (Go.Am.bif_t h405)
                  refine AW.keep [5, 6, 7, 8, 9, 10, 11] [88, 108] ⟨[(5, .arr 88 1), (6, .int .i64 ((DrawCandidateKeys code).2)), (7, .arr 108 1), (8, .int .i64 (((List.length more : Nat) : Int) % ((1 : Int) * 2 ^ (Int.toNat ((DrawCandidateKeys code).2))))), (9, .bool (bif is then true else ((bits .and .i64 (List.getD (iCandidateKeys ((DrawCandidateKeys code).1) ((DrawCandidateKeys code).2)) i 0) (((List.length more : Nat) : Int) % ((1 : Int) * 2 ^ (Int.toNat ((DrawCandidateKeys code).2))))) == (List.getD (iCandidateKeys ((DrawCandidateKeys code).1) ((DrawCandidateKeys code).2)) i 0)))), (10, .int .i64 ((i : Nat) : Int)), (11, .int .i64 ((k1 : Nat) : Int))], [(88, .arr 1 (.named 0) (((DrawCandidateKeys code).1) : List Dep)), (108, .arr 1 (.int .i64) ((iCandidateKeys ((DrawCandidateKeys code).1) ((DrawCandidateKeys code).2)) : List Int))]⟩ (by kernel_rfl) ?_
                  refine AW.skip ?_
                  refine AW.seq ?_
                  refine AW.block ?_
                  refine AW.seq ?_
                  refine AW.wf_arr (id := 88) (ep := 1) (t := (.named 0)) (xs := (((DrawCandidateKeys code).1) : List Dep)) (by kernel_rfl) fun ha407 _ => ?_
                  replace ha407 : ((List.length ((DrawCandidateKeys code).1) : Nat) : Int) ≤ 4294967296 := ha407
                  refine AW.wf_arr (id := 108) (ep := 1) (t := (.int .i64)) (xs := ((iCandidateKeys ((DrawCandidateKeys code).1) ((DrawCandidateKeys code).2)) : List Int)) (by kernel_rfl) fun ha408 _ => ?_
                  replace ha408 : ((List.length (iCandidateKeys ((DrawCandidateKeys code).1) ((DrawCandidateKeys code).2)) : Nat) : Int) ≤ 4294967296 := ha408
                  refine AW.regD hC hM  false [] [5, 6, 7, 8, 9, 10, 11, 94] [88, 108]
                    ⟨[(5, .arr 88 1), (6, .int .i64 ((DrawCandidateKeys code).2)), (7, .arr 108 1), (8, .int .i64 (((List.length more : Nat) : Int) % ((1 : Int) * 2 ^ (Int.toNat ((DrawCandidateKeys code).2))))), (9, .bool (bif is then true else ((bits .and .i64 (List.getD (iCandidateKeys ((DrawCandidateKeys code).1) ((DrawCandidateKeys code).2)) i 0) (((List.length more : Nat) : Int) % ((1 : Int) * 2 ^ (Int.toNat ((DrawCandidateKeys code).2))))) == (List.getD (iCandidateKeys ((DrawCandidateKeys code).1) ((DrawCandidateKeys code).2)) i 0)))), (10, .int .i64 ((i : Nat) : Int)), (11, .int .i64 ((k1 : Nat) : Int)), (94, .bool (bif (((i : Nat) : Int) != ((k1 : Nat) : Int)) then ((bits .and .i64 (List.getD (iCandidateKeys ((DrawCandidateKeys code).1) ((DrawCandidateKeys code).2)) i 0) (List.getD (iCandidateKeys ((DrawCandidateKeys code).1) ((DrawCandidateKeys code).2)) k1 0)) == (List.getD (iCandidateKeys ((DrawCandidateKeys code).1) ((DrawCandidateKeys code).2)) i 0)) else false))], [(88, .arr 1 (.named 0) (((DrawCandidateKeys code).1) : List Dep)), (108, .arr 1 (.int .i64) ((iCandidateKeys ((DrawCandidateKeys code).1) ((DrawCandidateKeys code).2)) : List Int))]⟩
                    [(((((i : Nat) : Int) != ((k1 : Nat) : Int)) = true) → (((((i : Nat) : Int) != ((k1 : Nat) : Int)) = true))), (((((i : Nat) : Int) != ((k1 : Nat) : Int)) = true) → (((((i : Nat) : Int) != ((k1 : Nat) : Int)) = true))), (((((i : Nat) : Int) != ((k1 : Nat) : Int)) = true) → (0 ≤ ((i : Nat) : Int) ∧ ((i : Nat) : Int) < ((List.length (iCandidateKeys ((DrawCandidateKeys code).1) ((DrawCandidateKeys code).2)) : Nat) : Int))), (((((i : Nat) : Int) != ((k1 : Nat) : Int)) = true) → (((((i : Nat) : Int) != ((k1 : Nat) : Int)) = true))), (((((i : Nat) : Int) != ((k1 : Nat) : Int)) = true) → (((((i : Nat) : Int) != ((k1 : Nat) : Int)) = true))), (((((i : Nat) : Int) != ((k1 : Nat) : Int)) = true) → (((((i : Nat) : Int) != ((k1 : Nat) : Int)) = true))), (((((i : Nat) : Int) != ((k1 : Nat) : Int)) = true) → (0 ≤ ((k1 : Nat) : Int) ∧ ((k1 : Nat) : Int) < ((List.length (iCandidateKeys ((DrawCandidateKeys code).1) ((DrawCandidateKeys code).2)) : Nat) : Int))), (((((i : Nat) : Int) != ((k1 : Nat) : Int)) = true) → (((((i : Nat) : Int) != ((k1 : Nat) : Int)) = true))), (((((i : Nat) : Int) != ((k1 : Nat) : Int)) = true) → (((((i : Nat) : Int) != ((k1 : Nat) : Int)) = true))), (((((i : Nat) : Int) != ((k1 : Nat) : Int)) = true) → (((((i : Nat) : Int) != ((k1 : Nat) : Int)) = true))), (((((i : Nat) : Int) != ((k1 : Nat) : Int)) = true) → (((((i : Nat) : Int) != ((k1 : Nat) : Int)) = true))), (((((i : Nat) : Int) != ((k1 : Nat) : Int)) = true) → (((((i : Nat) : Int) != ((k1 : Nat) : Int)) = true))), (((((i : Nat) : Int) != ((k1 : Nat) : Int)) = true) → (0 ≤ ((i : Nat) : Int) ∧ ((i : Nat) : Int) < ((List.length (iCandidateKeys ((DrawCandidateKeys code).1) ((DrawCandidateKeys code).2)) : Nat) : Int))), (((((i : Nat) : Int) != ((k1 : Nat) : Int)) = true) → (((((i : Nat) : Int) != ((k1 : Nat) : Int)) = true))), (((((i : Nat) : Int) != ((k1 : Nat) : Int)) = true) → (((((i : Nat) : Int) != ((k1 : Nat) : Int)) = true))), (((((i : Nat) : Int) != ((k1 : Nat) : Int)) = true) → (((((i : Nat) : Int) != ((k1 : Nat) : Int)) = true))), (((((i : Nat) : Int) != ((k1 : Nat) : Int)) = true) → (((((i : Nat) : Int) != ((k1 : Nat) : Int)) = true)))] (by kernel_rfl) ?_ ?_
                  · refine ⟨?_, ?_, ?_, ?_, ?_, ?_, ?_, ?_, ?_, ?_, ?_, ?_, ?_, ?_, ?_, ?_, ?_, trivial⟩
                    · intro g409
                      have g409p0 : ((i : Nat) : Int) ≠ ((k1 : Nat) : Int) := (Go.Am.bne_pos g409)
                      first | assumption | exact ⟨by assumption, by assumption⟩
                    · intro g410
                      have g410p0 : ((i : Nat) : Int) ≠ ((k1 : Nat) : Int) := (Go.Am.bne_pos g410)
                      first | assumption | exact ⟨by assumption, by assumption⟩
                    · intro g411
                      have g411p0 : ((i : Nat) : Int) ≠ ((k1 : Nat) : Int) := (Go.Am.bne_pos g411)
                      -- r16.2: 0 ≤ ((i : Nat) : Int) ∧ ((i : Nat) : Int) < ((List.length (iCandidateKeys ((DrawCandidateKeys code).1) ((DrawCandidateKeys code).2)) : Nat) : Int)
                      first | omega | (have hw := (valid_deps (by first | exact g411p0.2 | exact h405q.2 | exact h327q.2 | exact h20q.2 | exact h6q.2 | exact trivial.2)).1; have := pow32 (w := (DrawCandidateKeys code).2) hw.2 (by omega); omega)
                    · intro g412
                      have g412p0 : ((i : Nat) : Int) ≠ ((k1 : Nat) : Int) := (Go.Am.bne_pos g412)
                      first | assumption | exact ⟨by assumption, by assumption⟩
                    · intro g413
                      have g413p0 : ((i : Nat) : Int) ≠ ((k1 : Nat) : Int) := (Go.Am.bne_pos g413)
                      first | assumption | exact ⟨by assumption, by assumption⟩
                    · intro g414
                      have g414p0 : ((i : Nat) : Int) ≠ ((k1 : Nat) : Int) := (Go.Am.bne_pos g414)
                      first | assumption | exact ⟨by assumption, by assumption⟩
                    · intro g415
                      have g415p0 : ((i : Nat) : Int) ≠ ((k1 : Nat) : Int) := (Go.Am.bne_pos g415)
                      -- r16.6: 0 ≤ ((k1 : Nat) : Int) ∧ ((k1 : Nat) : Int) < ((List.length (iCandidateKeys ((DrawCandidateKeys code).1) ((DrawCandidateKeys code).2)) : Nat) : Int)
                      first | omega | (have hw := (valid_deps (by first | exact g415p0.2 | exact h405q.2 | exact h327q.2 | exact h20q.2 | exact h6q.2 | exact trivial.2)).1; have := pow32 (w := (DrawCandidateKeys code).2) hw.2 (by omega); omega)
                    · intro g416
                      have g416p0 : ((i : Nat) : Int) ≠ ((k1 : Nat) : Int) := (Go.Am.bne_pos g416)
                      first | assumption | exact ⟨by assumption, by assumption⟩
                    · intro g417
                      have g417p0 : ((i : Nat) : Int) ≠ ((k1 : Nat) : Int) := (Go.Am.bne_pos g417)
                      first | assumption | exact ⟨by assumption, by assumption⟩
                    · intro g418
                      have g418p0 : ((i : Nat) : Int) ≠ ((k1 : Nat) : Int) := (Go.Am.bne_pos g418)
                      first | assumption | exact ⟨by assumption, by assumption⟩
                    · intro g419
                      have g419p0 : ((i : Nat) : Int) ≠ ((k1 : Nat) : Int) := (Go.Am.bne_pos g419)
                      first | assumption | exact ⟨by assumption, by assumption⟩
                    · intro g420
                      have g420p0 : ((i : Nat) : Int) ≠ ((k1 : Nat) : Int) := (Go.Am.bne_pos g420)
                      first | assumption | exact ⟨by assumption, by assumption⟩
                    · intro g421
                      have g421p0 : ((i : Nat) : Int) ≠ ((k1 : Nat) : Int) := (Go.Am.bne_pos g421)
                      -- r16.12: 0 ≤ ((i : Nat) : Int) ∧ ((i : Nat) : Int) < ((List.length (iCandidateKeys ((DrawCandidateKeys code).1) ((DrawCandidateKeys code).2)) : Nat) : Int)
                      first | omega | (have hw := (valid_deps (by first | exact g421p0.2 | exact h405q.2 | exact h327q.2 | exact h20q.2 | exact h6q.2 | exact trivial.2)).1; have := pow32 (w := (DrawCandidateKeys code).2) hw.2 (by omega); omega)
                    · intro g422
                      have g422p0 : ((i : Nat) : Int) ≠ ((k1 : Nat) : Int) := (Go.Am.bne_pos g422)
                      first | assumption | exact ⟨by assumption, by assumption⟩
                    · intro g423
                      have g423p0 : ((i : Nat) : Int) ≠ ((k1 : Nat) : Int) := (Go.Am.bne_pos g423)
                      first | assumption | exact ⟨by assumption, by assumption⟩
                    · intro g424
                      have g424p0 : ((i : Nat) : Int) ≠ ((k1 : Nat) : Int) := (Go.Am.bne_pos g424)
                      first | assumption | exact ⟨by assumption, by assumption⟩
                    · intro g425
                      have g425p0 : ((i : Nat) : Int) ≠ ((k1 : Nat) : Int) := (Go.Am.bne_pos g425)
                      first | assumption | exact ⟨by assumption, by assumption⟩
                  refine AW.cond (b := (bif (((i : Nat) : Int) != ((k1 : Nat) : Int)) then ((bits .and .i64 (List.getD (iCandidateKeys ((DrawCandidateKeys code).1) ((DrawCandidateKeys code).2)) i 0) (List.getD (iCandidateKeys ((DrawCandidateKeys code).1) ((DrawCandidateKeys code).2)) k1 0)) == (List.getD (iCandidateKeys ((DrawCandidateKeys code).1) ((DrawCandidateKeys code).2)) i 0)) else false)) (by kernel_rfl) ?_ ?_
                  · intro h426
                    have h426q : (((i : Nat) : Int) ≠ ((k1 : Nat) : Int)) ∧ ((bits .and .i64 (List.getD (iCandidateKeys ((DrawCandidateKeys code).1) ((DrawCandidateKeys code).2)) i 0) (List.getD (iCandidateKeys ((DrawCandidateKeys code).1) ((DrawCandidateKeys code).2)) k1 0)) = (List.getD (iCandidateKeys ((DrawCandidateKeys code).1) ((DrawCandidateKeys code).2)) i 0)) := (And.imp (fun h => (Go.Am.bne_pos h)) (fun h => (Go.Am.beq_pos h)) (Go.Am.and_pos h426))
                    have e427 := e406.trans (Go.Am.bif_t h426)
                    refine AW.seq ?_
                    refine AW.wf_arr (id := 88) (ep := 1) (t := (.named 0)) (xs := (((DrawCandidateKeys code).1) : List Dep)) (by kernel_rfl) fun ha428 _ => ?_
                    replace ha428 : ((List.length ((DrawCandidateKeys code).1) : Nat) : Int) ≤ 4294967296 := ha428
                    refine AW.wf_arr (id := 108) (ep := 1) (t := (.int .i64)) (xs := ((iCandidateKeys ((DrawCandidateKeys code).1) ((DrawCandidateKeys code).2)) : List Int)) (by kernel_rfl) fun ha429 _ => ?_
                    replace ha429 : ((List.length (iCandidateKeys ((DrawCandidateKeys code).1) ((DrawCandidateKeys code).2)) : Nat) : Int) ≤ 4294967296 := ha429
                    refine AW.reg hC  false [] [4] []
                      ⟨[(4, .bool false)], []⟩
                      [] (by kernel_rfl) ?_ ?_
                    · exact trivial
                    refine AW.ret ?_
                    have e430 := e328.trans (Go.Am.elim_r e427)
                    have e431 := e21.trans (Go.Am.elim_r e430)
                    exact AW.retE (β := Bool) (fun v => [⟨.bool, v⟩]) (fun v => []) (v := false) e431 (by kernel_rfl) rfl rfl
                  · intro h432
                    have h432q : (((i : Nat) : Int) = ((k1 : Nat) : Int)) ∨ ((bits .and .i64 (List.getD (iCandidateKeys ((DrawCandidateKeys code).1) ((DrawCandidateKeys code).2)) i 0) (List.getD (iCandidateKeys ((DrawCandidateKeys code).1) ((DrawCandidateKeys code).2)) k1 0)) ≠ (List.getD (iCandidateKeys ((DrawCandidateKeys code).1) ((DrawCandidateKeys code).2)) i 0)) := (Or.imp (fun h => (Go.Am.bne_neg h)) (fun h => (Go.Am.beq_neg h)) (Go.Am.and_neg h432))
                    have e433 := e406.trans (Go.Am.bif_f h432)
                    refine AW.keep [5, 6, 7, 8, 9, 10, 11] [88, 108] ⟨[(5, .arr 88 1), (6, .int .i64 ((DrawCandidateKeys code).2)), (7, .arr 108 1), (8, .int .i64 (((List.length more : Nat) : Int) % ((1 : Int) * 2 ^ (Int.toNat ((DrawCandidateKeys code).2))))), (9, .bool (bif is then true else ((bits .and .i64 (List.getD (iCandidateKeys ((DrawCandidateKeys code).1) ((DrawCandidateKeys code).2)) i 0) (((List.length more : Nat) : Int) % ((1 : Int) * 2 ^ (Int.toNat ((DrawCandidateKeys code).2))))) == (List.getD (iCandidateKeys ((DrawCandidateKeys code).1) ((DrawCandidateKeys code).2)) i 0)))), (10, .int .i64 ((i : Nat) : Int)), (11, .int .i64 ((k1 : Nat) : Int))], [(88, .arr 1 (.named 0) (((DrawCandidateKeys code).1) : List Dep)), (108, .arr 1 (.int .i64) ((iCandidateKeys ((DrawCandidateKeys code).1) ((DrawCandidateKeys code).2)) : List Int))]⟩ (by kernel_rfl) ?_
                    refine AW.skip ?_
                    refine AW.wf_arr (id := 88) (ep := 1) (t := (.named 0)) (xs := (((DrawCandidateKeys code).1) : List Dep)) (by kernel_rfl) fun ha434 _ => ?_
                    replace ha434 : ((List.length ((DrawCandidateKeys code).1) : Nat) : Int) ≤ 4294967296 := ha434
                    refine AW.wf_arr (id := 108) (ep := 1) (t := (.int .i64)) (xs := ((iCandidateKeys ((DrawCandidateKeys code).1) ((DrawCandidateKeys code).2)) : List Int)) (by kernel_rfl) fun ha435 _ => ?_
                    replace ha435 : ((List.length (iCandidateKeys ((DrawCandidateKeys code).1) ((DrawCandidateKeys code).2)) : Nat) : Int) ≤ 4294967296 := ha435
                    refine AW.reg hC  false [] [5, 6, 7, 8, 9, 10, 11] [88, 108]
                      ⟨[(5, .arr 88 1), (6, .int .i64 ((DrawCandidateKeys code).2)), (7, .arr 108 1), (8, .int .i64 (((List.length more : Nat) : Int) % ((1 : Int) * 2 ^ (Int.toNat ((DrawCandidateKeys code).2))))), (9, .bool (bif is then true else ((bits .and .i64 (List.getD (iCandidateKeys ((DrawCandidateKeys code).1) ((DrawCandidateKeys code).2)) i 0) (((List.length more : Nat) : Int) % ((1 : Int) * 2 ^ (Int.toNat ((DrawCandidateKeys code).2))))) == (List.getD (iCandidateKeys ((DrawCandidateKeys code).1) ((DrawCandidateKeys code).2)) i 0)))), (10, .int .i64 ((i : Nat) : Int)), (11, .int .i64 ((k1 + 1 : Nat) : Int))], [(88, .arr 1 (.named 0) (((DrawCandidateKeys code).1) : List Dep)), (108, .arr 1 (.int .i64) ((iCandidateKeys ((DrawCandidateKeys code).1) ((DrawCandidateKeys code).2)) : List Int))]⟩
                      [(-9223372036854775808 ≤ ((k1 + 1 : Nat) : Int) ∧ ((k1 + 1 : Nat) : Int) ≤ 9223372036854775807)] (by kernel_rfl) ?_ ?_
                    · refine ⟨?_, trivial⟩
                      · -- r15.0: -9223372036854775808 ≤ ((k1 + 1 : Nat) : Int) ∧ ((k1 + 1 : Nat) : Int) ≤ 9223372036854775807
                        first | omega | (have hw := (valid_deps (by first | exact trivial.2 | exact h432q.2 | exact h405q.2 | exact h327q.2 | exact h20q.2 | exact h6q.2)).1; have := pow32 (w := (DrawCandidateKeys code).2) hw.2 (by omega); omega)
                    refine AW.back (x := k1) (k1 + 1) (by kernel_rfl) ⟨?_, k402q, ?_, e433⟩ ?_
                    · show True
                      first | assumption | exact trivial | (refine ⟨?_, ?_⟩ <;> first | omega | (simp only [List.length_set, List.length_append, List.length_replicate, List.length_cons, List.length_nil, List.length_take, List.length_drop] at *; omega)) | omega | (simp only [List.length_set, List.length_append, List.length_replicate, List.length_cons, List.length_nil, List.length_take, List.length_drop] at *; omega)
                    · show (List.length (iCandidateKeys ((DrawCandidateKeys code).1) ((DrawCandidateKeys code).2))) - (k1 + 1) < k402q
                      first | omega | (simp only [List.length_set, List.length_append, List.length_replicate, List.length_cons, List.length_nil, List.length_take, List.length_drop]; omega)
                    · show (List.length (iCandidateKeys ((DrawCandidateKeys code).1) ((DrawCandidateKeys code).2))) - (k1 + 1) < (List.length (iCandidateKeys ((DrawCandidateKeys code).1) ((DrawCandidateKeys code).2))) - k1
                      first | omega | (simp only [List.length_set, List.length_append, List.length_replicate, List.length_cons, List.length_nil, List.length_take, List.length_drop]; omega)
                · intro h436
                  have h436q : ¬ (((k1 : Nat) : Int) < ((List.length (iCandidateKeys ((DrawCandidateKeys code).1) ((DrawCandidateKeys code).2)) : Nat) : Int)) := (of_decide_eq_false h436)
                  have e437 := e401.trans (Go.Am.bif_f h436)
                  refine AW.keep [5, 6, 7, 8, 9, 10] [88, 108] ⟨[(5, .arr 88 1), (6, .int .i64 ((DrawCandidateKeys code).2)), (7, .arr 108 1), (8, .int .i64 (((List.length more : Nat) : Int) % ((1 : Int) * 2 ^ (Int.toNat ((DrawCandidateKeys code).2))))), (9, .bool (bif is then true else ((bits .and .i64 (List.getD (iCandidateKeys ((DrawCandidateKeys code).1) ((DrawCandidateKeys code).2)) i 0) (((List.length more : Nat) : Int) % ((1 : Int) * 2 ^ (Int.toNat ((DrawCandidateKeys code).2))))) == (List.getD (iCandidateKeys ((DrawCandidateKeys code).1) ((DrawCandidateKeys code).2)) i 0)))), (10, .int .i64 ((i : Nat) : Int))], [(88, .arr 1 (.named 0) (((DrawCandidateKeys code).1) : List Dep)), (108, .arr 1 (.int .i64) ((iCandidateKeys ((DrawCandidateKeys code).1) ((DrawCandidateKeys code).2)) : List Int))]⟩ (by kernel_rfl) ?_
                  refine AW.exit ?_
                  refine AW.meet () (by kernel_rfl) ⟨?_, e437⟩
                  show True
                  first | assumption | exact trivial | omega
            · intro x hR
              obtain ⟨hJ1, e438⟩ := hR
              replace hJ1 : True := hJ1
              have e439 := e328.trans (Go.Am.elim_l e438)
              refine AW.seq ?_
              refine AW.wf_arr (id := 88) (ep := 1) (t := (.named 0)) (xs := (((DrawCandidateKeys code).1) : List Dep)) (by kernel_rfl) fun ha440 _ => ?_
              replace ha440 : ((List.length ((DrawCandidateKeys code).1) : Nat) : Int) ≤ 4294967296 := ha440
              refine AW.wf_arr (id := 108) (ep := 1) (t := (.int .i64)) (xs := ((iCandidateKeys ((DrawCandidateKeys code).1) ((DrawCandidateKeys code).2)) : List Int)) (by kernel_rfl) fun ha441 _ => ?_
              replace ha441 : ((List.length (iCandidateKeys ((DrawCandidateKeys code).1) ((DrawCandidateKeys code).2)) : Nat) : Int) ≤ 4294967296 := ha441
              refine AW.reg hC  false [] [5, 6, 7, 8, 9, 10, 102] [88, 108]
                ⟨[(5, .arr 88 1), (6, .int .i64 ((DrawCandidateKeys code).2)), (7, .arr 108 1), (8, .int .i64 (((List.length more : Nat) : Int) % ((1 : Int) * 2 ^ (Int.toNat ((DrawCandidateKeys code).2))))), (9, .bool (bif is then true else ((bits .and .i64 (List.getD (iCandidateKeys ((DrawCandidateKeys code).1) ((DrawCandidateKeys code).2)) i 0) (((List.length more : Nat) : Int) % ((1 : Int) * 2 ^ (Int.toNat ((DrawCandidateKeys code).2))))) == (List.getD (iCandidateKeys ((DrawCandidateKeys code).1) ((DrawCandidateKeys code).2)) i 0)))), (10, .int .i64 ((i : Nat) : Int)), (102, .bool (!(iIsKey ((DrawCandidateKeys code).1) ((DrawCandidateKeys code).2) (List.getD (iCandidateKeys ((DrawCandidateKeys code).1) ((DrawCandidateKeys code).2)) i 0))))], [(88, .arr 1 (.named 0) (((DrawCandidateKeys code).1) : List Dep)), (108, .arr 1 (.int .i64) ((iCandidateKeys ((DrawCandidateKeys code).1) ((DrawCandidateKeys code).2)) : List Int))]⟩
                [(0 ≤ ((i : Nat) : Int) ∧ ((i : Nat) : Int) < ((List.length (iCandidateKeys ((DrawCandidateKeys code).1) ((DrawCandidateKeys code).2)) : Nat) : Int)), (True)] (by kernel_rfl) ?_ ?_
              · refine ⟨?_, ?_, trivial⟩
                · -- r18.0: 0 ≤ ((i : Nat) : Int) ∧ ((i : Nat) : Int) < ((List.length (iCandidateKeys ((DrawCandidateKeys code).1) ((DrawCandidateKeys code).2)) : Nat) : Int)
                  first | omega | (have hw := (valid_deps (by first | exact trivial.2 | exact h327q.2 | exact h20q.2 | exact h6q.2 | exact trivial.2 | exact trivial.2)).1; have := pow32 (w := (DrawCandidateKeys code).2) hw.2 (by omega); omega)
                · trivial
              refine AW.cond (b := (!(iIsKey ((DrawCandidateKeys code).1) ((DrawCandidateKeys code).2) (List.getD (iCandidateKeys ((DrawCandidateKeys code).1) ((DrawCandidateKeys code).2)) i 0)))) (by kernel_rfl) ?_ ?_
              · intro h442
                have h442q : (iIsKey ((DrawCandidateKeys code).1) ((DrawCandidateKeys code).2) (List.getD (iCandidateKeys ((DrawCandidateKeys code).1) ((DrawCandidateKeys code).2)) i 0)) = false := (Go.Am.not_pos h442)
                have e443 := e439.trans (Go.Am.bif_t h442)
                refine AW.seq ?_
                refine AW.wf_arr (id := 88) (ep := 1) (t := (.named 0)) (xs := (((DrawCandidateKeys code).1) : List Dep)) (by kernel_rfl) fun ha444 _ => ?_
                replace ha444 : ((List.length ((DrawCandidateKeys code).1) : Nat) : Int) ≤ 4294967296 := ha444
                refine AW.wf_arr (id := 108) (ep := 1) (t := (.int .i64)) (xs := ((iCandidateKeys ((DrawCandidateKeys code).1) ((DrawCandidateKeys code).2)) : List Int)) (by kernel_rfl) fun ha445 _ => ?_
                replace ha445 : ((List.length (iCandidateKeys ((DrawCandidateKeys code).1) ((DrawCandidateKeys code).2)) : Nat) : Int) ≤ 4294967296 := ha445
                refine AW.reg hC  false [] [4] []
                  ⟨[(4, .bool false)], []⟩
                  [] (by kernel_rfl) ?_ ?_
                · exact trivial
                refine AW.ret ?_
                have e446 := e21.trans (Go.Am.elim_r e443)
                exact AW.retE (β := Bool) (fun v => [⟨.bool, v⟩]) (fun v => []) (v := false) e446 (by kernel_rfl) rfl rfl
              · intro h447
                have h447q : (iIsKey ((DrawCandidateKeys code).1) ((DrawCandidateKeys code).2) (List.getD (iCandidateKeys ((DrawCandidateKeys code).1) ((DrawCandidateKeys code).2)) i 0)) = true := (Go.Am.not_neg h447)
                have e448 := e439.trans (Go.Am.bif_f h447)
                refine AW.keep [5, 6, 7, 8, 9, 10] [88, 108] ⟨[(5, .arr 88 1), (6, .int .i64 ((DrawCandidateKeys code).2)), (7, .arr 108 1), (8, .int .i64 (((List.length more : Nat) : Int) % ((1 : Int) * 2 ^ (Int.toNat ((DrawCandidateKeys code).2))))), (9, .bool (bif is then true else ((bits .and .i64 (List.getD (iCandidateKeys ((DrawCandidateKeys code).1) ((DrawCandidateKeys code).2)) i 0) (((List.length more : Nat) : Int) % ((1 : Int) * 2 ^ (Int.toNat ((DrawCandidateKeys code).2))))) == (List.getD (iCandidateKeys ((DrawCandidateKeys code).1) ((DrawCandidateKeys code).2)) i 0)))), (10, .int .i64 ((i : Nat) : Int))], [(88, .arr 1 (.named 0) (((DrawCandidateKeys code).1) : List Dep)), (108, .arr 1 (.int .i64) ((iCandidateKeys ((DrawCandidateKeys code).1) ((DrawCandidateKeys code).2)) : List Int))]⟩ (by kernel_rfl) ?_
                refine AW.skip ?_
                refine AW.wf_arr (id := 88) (ep := 1) (t := (.named 0)) (xs := (((DrawCandidateKeys code).1) : List Dep)) (by kernel_rfl) fun ha449 _ => ?_
                replace ha449 : ((List.length ((DrawCandidateKeys code).1) : Nat) : Int) ≤ 4294967296 := ha449
                refine AW.wf_arr (id := 108) (ep := 1) (t := (.int .i64)) (xs := ((iCandidateKeys ((DrawCandidateKeys code).1) ((DrawCandidateKeys code).2)) : List Int)) (by kernel_rfl) fun ha450 _ => ?_
                replace ha450 : ((List.length (iCandidateKeys ((DrawCandidateKeys code).1) ((DrawCandidateKeys code).2)) : Nat) : Int) ≤ 4294967296 := ha450
                refine AW.reg hC  false [] [5, 6, 7, 8, 9, 10] [88, 108]
                  ⟨[(5, .arr 88 1), (6, .int .i64 ((DrawCandidateKeys code).2)), (7, .arr 108 1), (8, .int .i64 (((List.length more : Nat) : Int) % ((1 : Int) * 2 ^ (Int.toNat ((DrawCandidateKeys code).2))))), (9, .bool (bif is then true else ((bits .and .i64 (List.getD (iCandidateKeys ((DrawCandidateKeys code).1) ((DrawCandidateKeys code).2)) i 0) (((List.length more : Nat) : Int) % ((1 : Int) * 2 ^ (Int.toNat ((DrawCandidateKeys code).2))))) == (List.getD (iCandidateKeys ((DrawCandidateKeys code).1) ((DrawCandidateKeys code).2)) i 0)))), (10, .int .i64 ((i + 1 : Nat) : Int))], [(88, .arr 1 (.named 0) (((DrawCandidateKeys code).1) : List Dep)), (108, .arr 1 (.int .i64) ((iCandidateKeys ((DrawCandidateKeys code).1) ((DrawCandidateKeys code).2)) : List Int))]⟩
                  [(-9223372036854775808 ≤ ((i + 1 : Nat) : Int) ∧ ((i + 1 : Nat) : Int) ≤ 9223372036854775807)] (by kernel_rfl) ?_ ?_
                · refine ⟨?_, trivial⟩
                  · -- r11.0: -9223372036854775808 ≤ ((i + 1 : Nat) : Int) ∧ ((i + 1 : Nat) : Int) ≤ 9223372036854775807
                    first | omega | (have hw := (valid_deps (by first | exact trivial.2 | exact h447q.2 | exact h327q.2 | exact h20q.2 | exact h6q.2 | exact trivial.2)).1; have := pow32 (w := (DrawCandidateKeys code).2) hw.2 (by omega); omega)
                refine AW.back (x := (is, i)) ((bif is then true else ((bits .and .i64 (List.getD (iCandidateKeys ((DrawCandidateKeys code).1) ((DrawCandidateKeys code).2)) i 0) (((List.length more : Nat) : Int) % ((1 : Int) * 2 ^ (Int.toNat ((DrawCandidateKeys code).2))))) == (List.getD (iCandidateKeys ((DrawCandidateKeys code).1) ((DrawCandidateKeys code).2)) i 0))), i + 1) (by kernel_rfl) ⟨?_, k324q, ?_, e448⟩ ?_
                · show True
                  first | assumption | exact trivial | (refine ⟨?_, ?_⟩ <;> first | omega | (simp only [List.length_set, List.length_append, List.length_replicate, List.length_cons, List.length_nil, List.length_take, List.length_drop] at *; omega)) | omega | (simp only [List.length_set, List.length_append, List.length_replicate, List.length_cons, List.length_nil, List.length_take, List.length_drop] at *; omega)
                · show (List.length (iCandidateKeys ((DrawCandidateKeys code).1) ((DrawCandidateKeys code).2))) - (i + 1) < k324q
                  first | omega | (simp only [List.length_set, List.length_append, List.length_replicate, List.length_cons, List.length_nil, List.length_take, List.length_drop]; omega)
                · show (List.length (iCandidateKeys ((DrawCandidateKeys code).1) ((DrawCandidateKeys code).2))) - (i + 1) < (List.length (iCandidateKeys ((DrawCandidateKeys code).1) ((DrawCandidateKeys code).2))) - i
                  first | omega | (simp only [List.length_set, List.length_append, List.length_replicate, List.length_cons, List.length_nil, List.length_take, List.length_drop]; omega)
          · intro h451
            have h451q : ¬ (((i : Nat) : Int) < ((List.length (iCandidateKeys ((DrawCandidateKeys code).1) ((DrawCandidateKeys code).2)) : Nat) : Int)) := (of_decide_eq_false h451)
            have e452 := e323.trans (Go.Am.bif_f h451)
            refine AW.keep [5, 6, 7, 8, 9] [88, 108] ⟨[(5, .arr 88 1), (6, .int .i64 ((DrawCandidateKeys code).2)), (7, .arr 108 1), (8, .int .i64 (((List.length more : Nat) : Int) % ((1 : Int) * 2 ^ (Int.toNat ((DrawCandidateKeys code).2))))), (9, .bool is)], [(88, .arr 1 (.named 0) (((DrawCandidateKeys code).1) : List Dep)), (108, .arr 1 (.int .i64) ((iCandidateKeys ((DrawCandidateKeys code).1) ((DrawCandidateKeys code).2)) : List Int))]⟩ (by kernel_rfl) ?_
            refine AW.exit ?_
            refine AW.meet is (by kernel_rfl) ⟨?_, e452⟩
            show True
            first | assumption | exact trivial | omega
      · intro is hR
        obtain ⟨hJ0, e453⟩ := hR
        replace hJ0 : True := hJ0
        have e454 := e21.trans (Go.Am.elim_l e453)
        refine AW.seq ?_
        refine AW.wf_arr (id := 88) (ep := 1) (t := (.named 0)) (xs := (((DrawCandidateKeys code).1) : List Dep)) (by kernel_rfl) fun ha455 _ => ?_
        replace ha455 : ((List.length ((DrawCandidateKeys code).1) : Nat) : Int) ≤ 4294967296 := ha455
        refine AW.wf_arr (id := 108) (ep := 1) (t := (.int .i64)) (xs := ((iCandidateKeys ((DrawCandidateKeys code).1) ((DrawCandidateKeys code).2)) : List Int)) (by kernel_rfl) fun ha456 _ => ?_
        replace ha456 : ((List.length (iCandidateKeys ((DrawCandidateKeys code).1) ((DrawCandidateKeys code).2)) : Nat) : Int) ≤ 4294967296 := ha456
        refine AW.reg hC  false [] [4] []
          ⟨[(4, .bool (bif (decide (0 < ((List.length (iCandidateKeys ((DrawCandidateKeys code).1) ((DrawCandidateKeys code).2)) : Nat) : Int))) then (is == (iIsKey ((DrawCandidateKeys code).1) ((DrawCandidateKeys code).2) (((List.length more : Nat) : Int) % ((1 : Int) * 2 ^ (Int.toNat ((DrawCandidateKeys code).2)))))) else false))], []⟩
          [(((decide (0 < ((List.length (iCandidateKeys ((DrawCandidateKeys code).1) ((DrawCandidateKeys code).2)) : Nat) : Int))) = true) → (((decide (0 < ((List.length (iCandidateKeys ((DrawCandidateKeys code).1) ((DrawCandidateKeys code).2)) : Nat) : Int))) = true))), (((decide (0 < ((List.length (iCandidateKeys ((DrawCandidateKeys code).1) ((DrawCandidateKeys code).2)) : Nat) : Int))) = true) → (((decide (0 < ((List.length (iCandidateKeys ((DrawCandidateKeys code).1) ((DrawCandidateKeys code).2)) : Nat) : Int))) = true))), (((decide (0 < ((List.length (iCandidateKeys ((DrawCandidateKeys code).1) ((DrawCandidateKeys code).2)) : Nat) : Int))) = true) → (((decide (0 < ((List.length (iCandidateKeys ((DrawCandidateKeys code).1) ((DrawCandidateKeys code).2)) : Nat) : Int))) = true))), (((decide (0 < ((List.length (iCandidateKeys ((DrawCandidateKeys code).1) ((DrawCandidateKeys code).2)) : Nat) : Int))) = true) → (True)), (((decide (0 < ((List.length (iCandidateKeys ((DrawCandidateKeys code).1) ((DrawCandidateKeys code).2)) : Nat) : Int))) = true) → (((decide (0 < ((List.length (iCandidateKeys ((DrawCandidateKeys code).1) ((DrawCandidateKeys code).2)) : Nat) : Int))) = true))), (((decide (0 < ((List.length (iCandidateKeys ((DrawCandidateKeys code).1) ((DrawCandidateKeys code).2)) : Nat) : Int))) = true) → (((decide (0 < ((List.length (iCandidateKeys ((DrawCandidateKeys code).1) ((DrawCandidateKeys code).2)) : Nat) : Int))) = true))), (((decide (0 < ((List.length (iCandidateKeys ((DrawCandidateKeys code).1) ((DrawCandidateKeys code).2)) : Nat) : Int))) = true) → (((decide (0 < ((List.length (iCandidateKeys ((DrawCandidateKeys code).1) ((DrawCandidateKeys code).2)) : Nat) : Int))) = true)))] (by kernel_rfl) ?_ ?_
        · refine ⟨?_, ?_, ?_, ?_, ?_, ?_, ?_, trivial⟩
          · intro g457
            have g457p0 : 0 < ((List.length (iCandidateKeys ((DrawCandidateKeys code).1) ((DrawCandidateKeys code).2)) : Nat) : Int) := (of_decide_eq_true g457)
            first | assumption | exact ⟨by assumption, by assumption⟩
          · intro g458
            have g458p0 : 0 < ((List.length (iCandidateKeys ((DrawCandidateKeys code).1) ((DrawCandidateKeys code).2)) : Nat) : Int) := (of_decide_eq_true g458)
            first | assumption | exact ⟨by assumption, by assumption⟩
          · intro g459
            have g459p0 : 0 < ((List.length (iCandidateKeys ((DrawCandidateKeys code).1) ((DrawCandidateKeys code).2)) : Nat) : Int) := (of_decide_eq_true g459)
            first | assumption | exact ⟨by assumption, by assumption⟩
          · intro g460
            have g460p0 : 0 < ((List.length (iCandidateKeys ((DrawCandidateKeys code).1) ((DrawCandidateKeys code).2)) : Nat) : Int) := (of_decide_eq_true g460)
            trivial
          · intro g461
            have g461p0 : 0 < ((List.length (iCandidateKeys ((DrawCandidateKeys code).1) ((DrawCandidateKeys code).2)) : Nat) : Int) := (of_decide_eq_true g461)
            first | assumption | exact ⟨by assumption, by assumption⟩
          · intro g462
            have g462p0 : 0 < ((List.length (iCandidateKeys ((DrawCandidateKeys code).1) ((DrawCandidateKeys code).2)) : Nat) : Int) := (of_decide_eq_true g462)
            first | assumption | exact ⟨by assumption, by assumption⟩
          · intro g463
            have g463p0 : 0 < ((List.length (iCandidateKeys ((DrawCandidateKeys code).1) ((DrawCandidateKeys code).2)) : Nat) : Int) := (of_decide_eq_true g463)
            first | assumption | exact ⟨by assumption, by assumption⟩
        refine AW.ret ?_
        exact AW.retE (β := Bool) (fun v => [⟨.bool, v⟩]) (fun v => []) (v := (bif (decide (0 < ((List.length (iCandidateKeys ((DrawCandidateKeys code).1) ((DrawCandidateKeys code).2)) : Nat) : Int))) then (is == (iIsKey ((DrawCandidateKeys code).1) ((DrawCandidateKeys code).2) (((List.length more : Nat) : Int) % ((1 : Int) * 2 ^ (Int.toNat ((DrawCandidateKeys code).2)))))) else false)) e454 (by kernel_rfl) rfl rfl

end Go.Proofs.Ytmijmkbnmcmgcaa
