/-
  A part of the proof of this claim (AwH): what functions of the program compute, and plain facts of that. No conditions.
-/
import Derived.Test.YtjcjpeckfikfkaaAwG
set_option linter.all false
namespace Go.Proofs.Ytjcjpeckfikfkaa
open Go Go.Am
noncomputable section

def FnTableOf_l0 (code : List Int) : Nat → Int → (List (List Val)) → (List (List Val))
 | 0, i, back => back
 | k + 1, i, back => (bif (decide (0 ≤ i)) then (FnTableOf_l0 code k (i - 1) (back ++ ([(List.getD ((DrawTableOf code).2) (Int.toNat i) [])] : List (List Val)))) else back)

def FnTableOf (code : List Int) : Bool := (bif (decide (1048576 < ((List.length code : Nat) : Int))) then true else (bif (bif (bif (((iTableOf ((DrawTableOf code).1) ((DrawTableOf code).2)).2) != ((sTableOf ((DrawTableOf code).1) ((DrawTableOf code).2)).2)) then true else (!(equalTables ((iTableOf ((DrawTableOf code).1) ((DrawTableOf code).2)).1) ((sTableOf ((DrawTableOf code).1) ((DrawTableOf code).2)).1)))) then true else (!((iTableOf ((DrawTableOf code).1) ((DrawTableOf code).2)).2))) then (bif (((iTableOf ((DrawTableOf code).1) ((DrawTableOf code).2)).2) == ((sTableOf ((DrawTableOf code).1) ((DrawTableOf code).2)).2)) then (equalTables ((iTableOf ((DrawTableOf code).1) ((DrawTableOf code).2)).1) ((sTableOf ((DrawTableOf code).1) ((DrawTableOf code).2)).1)) else false) else (Go.Am.andThen (FnTableOf_l0 code (Int.toNat ((((List.length ((DrawTableOf code).2) : Nat) : Int) - 1) + 1) + 1) (((List.length ((DrawTableOf code).2) : Nat) : Int) - 1) ([] : List (List Val))) (fun z => (fun (back : List (List Val)) => (bif (bif (bif (bif (bif (ValidTable ((iTableOf ((DrawTableOf code).1) ((DrawTableOf code).2)).1)) then (((List.length (Tab.Rows ((iTableOf ((DrawTableOf code).1) ((DrawTableOf code).2)).1)) : Nat) : Int) == ((List.length ((DrawTableOf code).2) : Nat) : Int)) else false) then ((iTableOf ((DrawTableOf code).1) back).2) else false) then (equalTables ((iTableOf ((DrawTableOf code).1) back).1) ((iTableOf ((DrawTableOf code).1) ((DrawTableOf code).2)).1)) else false) then ((iTableOf ((DrawTableOf code).1) (Tab.Rows ((iTableOf ((DrawTableOf code).1) ((DrawTableOf code).2)).1))).2) else false) then (equalTables ((iTableOf ((DrawTableOf code).1) (Tab.Rows ((iTableOf ((DrawTableOf code).1) ((DrawTableOf code).2)).1))).1) ((iTableOf ((DrawTableOf code).1) ((DrawTableOf code).2)).1)) else false)) z))))

def FnTableOf_sp : FnSpec := mkSpec [.val (.slice (.int .u8))] [.val .bool] (fun (code : List Int) => True) (fun (code : List Int) => [⟨.bool, (FnTableOf code)⟩])

theorem FnTableOf_ok : FnOK Try.prog 3 FnTableOf_sp := by
 have hC : CtxOK Try.prog (mkCtx tyL [(15, DrawTableOf_sp), (16, iTableOf_sp), (17, sTableOf_sp), (18, equalTables_sp), (19, ValidTable_sp)]) := CtxOK.cons DrawTableOf_ok (CtxOK.cons iTableOf_ok (CtxOK.cons sTableOf_ok (CtxOK.cons equalTables_ok (CtxOK.cons ValidTable_ok (CtxOK.nil tyOK)))))
 refine FnOK.of_body Try.func3 (by kernel_rfl) rfl (C := (mkCtx tyL [(15, DrawTableOf_sp), (16, iTableOf_sp), (17, sTableOf_sp), (18, equalTables_sp), (19, ValidTable_sp)])) hC.ty (by kernel_rfl) ?_
 intro (code : List Int) hwf hpre E
 have hpre : True := hpre
 have hw_code : Wf ⟨(.slice (.int .u8)), (code : List Int)⟩ := hwf _ (List.Mem.head _)
 have hl_code : ((List.length code : Nat) : Int) ≤ 9223372036854775807 := hw_code.len
 have e0 : FnTableOf code = FnTableOf code := rfl
 refine AW.seq (AW.r1 hC [0] [] ⟨[(0, .data (.slice (.int .u8)) (code : List Int))], []⟩ ?_)
 refine AW.seq (AW.seq (AW.r1 hC [0, 17] [] ⟨[(0, .data (.slice (.int .u8)) (code : List Int)), (17, .bool (decide (1048576 < ((List.length code : Nat) : Int))))], []⟩ ?_))
 refine AW.cd (decide (1048576 < ((List.length code : Nat) : Int))) ?_ ?_
 ·
  intro h1
  have h1q : 1048576 < ((List.length code : Nat) : Int) := (of_decide_eq_true h1)
  have e2 := e0.trans (Go.Am.bif_t h1)
  refine AW.seq (AW.r1 hC [2] [] ⟨[(2, .bool true)], []⟩ ?_)
  exact AW.ret (AW.retE (β := Bool) (fun v => [⟨.bool, v⟩]) (fun v => []) (v := true) e2 (by kernel_rfl) rfl rfl)
 ·
  intro h3
  have h3q : ¬ (1048576 < ((List.length code : Nat) : Int)) := (of_decide_eq_false h3)
  have e4 := e0.trans (Go.Am.bif_f h3)
  refine AW.kp [0] [] ⟨[(0, .data (.slice (.int .u8)) (code : List Int))], []⟩ ?_
  refine AW.skip (AW.seq (AW.r0 hC [3, 4] [81] ⟨[(3, .int .i64 ((DrawTableOf code).1)), (4, .arr 81 1)], [(81, .arr 1 (.slice (.named 1)) (((DrawTableOf code).2) : List (List Val)))]⟩ [(True)] ?_ ?_))
  ·
   refine ⟨?_, trivial⟩
   ·
    trivial
  refine AW.seq (AW.wf_arr (id := 81) (ep := 1) (t := (.slice (.named 1))) (xs := (((DrawTableOf code).2) : List (List Val))) (by kernel_rfl) fun ha5 _ => ?_)
  replace ha5 : ((List.length ((DrawTableOf code).2) : Nat) : Int) ≤ 4294967296 := ha5
  refine AW.frz 81 ⟨[(3, .int .i64 ((DrawTableOf code).1)), (4, .data (.slice (.slice (.named 1))) (((DrawTableOf code).2) : List (List Val)))], []⟩ (by kernel_rfl) ?_
  refine AW.r0 hC [3, 4, 5, 6] [20] ⟨[(3, .int .i64 ((DrawTableOf code).1)), (4, .data (.slice (.slice (.named 1))) (((DrawTableOf code).2) : List (List Val))), (5, .ref 20 1 0), (6, .bool ((iTableOf ((DrawTableOf code).1) ((DrawTableOf code).2)).2))], [(20, .box 1 [.int .i64 (Tab.Width ((iTableOf ((DrawTableOf code).1) ((DrawTableOf code).2)).1)), .data (.slice (.slice (.named 1))) ((Tab.Rows ((iTableOf ((DrawTableOf code).1) ((DrawTableOf code).2)).1)) : List (List Val))])]⟩ [(True)] ?_ ?_
  ·
   refine ⟨?_, trivial⟩
   ·
    trivial
  refine AW.seq (AW.r0 hC [3, 4, 5, 6, 7, 8] [20, 28] ⟨[(3, .int .i64 ((DrawTableOf code).1)), (4, .data (.slice (.slice (.named 1))) (((DrawTableOf code).2) : List (List Val))), (5, .ref 20 1 0), (6, .bool ((iTableOf ((DrawTableOf code).1) ((DrawTableOf code).2)).2)), (7, .ref 28 1 0), (8, .bool ((sTableOf ((DrawTableOf code).1) ((DrawTableOf code).2)).2))], [(20, .box 1 [.int .i64 (Tab.Width ((iTableOf ((DrawTableOf code).1) ((DrawTableOf code).2)).1)), .data (.slice (.slice (.named 1))) ((Tab.Rows ((iTableOf ((DrawTableOf code).1) ((DrawTableOf code).2)).1)) : List (List Val))]), (28, .box 1 [.int .i64 (Tab.Width ((sTableOf ((DrawTableOf code).1) ((DrawTableOf code).2)).1)), .data (.slice (.slice (.named 1))) ((Tab.Rows ((sTableOf ((DrawTableOf code).1) ((DrawTableOf code).2)).1)) : List (List Val))])]⟩ [(True)] ?_ ?_)
  ·
   refine ⟨?_, trivial⟩
   ·
    trivial
  refine AW.seq (AW.seq (AW.r0 hC [3, 4, 5, 6, 7, 8, 47] [20, 28] ⟨[(3, .int .i64 ((DrawTableOf code).1)), (4, .data (.slice (.slice (.named 1))) (((DrawTableOf code).2) : List (List Val))), (5, .ref 20 1 0), (6, .bool ((iTableOf ((DrawTableOf code).1) ((DrawTableOf code).2)).2)), (7, .ref 28 1 0), (8, .bool ((sTableOf ((DrawTableOf code).1) ((DrawTableOf code).2)).2)), (47, .bool (bif (bif (((iTableOf ((DrawTableOf code).1) ((DrawTableOf code).2)).2) != ((sTableOf ((DrawTableOf code).1) ((DrawTableOf code).2)).2)) then true else (!(equalTables ((iTableOf ((DrawTableOf code).1) ((DrawTableOf code).2)).1) ((sTableOf ((DrawTableOf code).1) ((DrawTableOf code).2)).1)))) then true else (!((iTableOf ((DrawTableOf code).1) ((DrawTableOf code).2)).2))))], [(20, .box 1 [.int .i64 (Tab.Width ((iTableOf ((DrawTableOf code).1) ((DrawTableOf code).2)).1)), .data (.slice (.slice (.named 1))) ((Tab.Rows ((iTableOf ((DrawTableOf code).1) ((DrawTableOf code).2)).1)) : List (List Val))]), (28, .box 1 [.int .i64 (Tab.Width ((sTableOf ((DrawTableOf code).1) ((DrawTableOf code).2)).1)), .data (.slice (.slice (.named 1))) ((Tab.Rows ((sTableOf ((DrawTableOf code).1) ((DrawTableOf code).2)).1)) : List (List Val))])]⟩ [(((((iTableOf ((DrawTableOf code).1) ((DrawTableOf code).2)).2) != ((sTableOf ((DrawTableOf code).1) ((DrawTableOf code).2)).2)) = false) → (((((iTableOf ((DrawTableOf code).1) ((DrawTableOf code).2)).2) != ((sTableOf ((DrawTableOf code).1) ((DrawTableOf code).2)).2)) = false))), (((((iTableOf ((DrawTableOf code).1) ((DrawTableOf code).2)).2) != ((sTableOf ((DrawTableOf code).1) ((DrawTableOf code).2)).2)) = false) → (((((iTableOf ((DrawTableOf code).1) ((DrawTableOf code).2)).2) != ((sTableOf ((DrawTableOf code).1) ((DrawTableOf code).2)).2)) = false))), (((((iTableOf ((DrawTableOf code).1) ((DrawTableOf code).2)).2) != ((sTableOf ((DrawTableOf code).1) ((DrawTableOf code).2)).2)) = false) → (True)), (((((iTableOf ((DrawTableOf code).1) ((DrawTableOf code).2)).2) != ((sTableOf ((DrawTableOf code).1) ((DrawTableOf code).2)).2)) = false) → (((((iTableOf ((DrawTableOf code).1) ((DrawTableOf code).2)).2) != ((sTableOf ((DrawTableOf code).1) ((DrawTableOf code).2)).2)) = false))), (((((iTableOf ((DrawTableOf code).1) ((DrawTableOf code).2)).2) != ((sTableOf ((DrawTableOf code).1) ((DrawTableOf code).2)).2)) = false) → (((((iTableOf ((DrawTableOf code).1) ((DrawTableOf code).2)).2) != ((sTableOf ((DrawTableOf code).1) ((DrawTableOf code).2)).2)) = false))), (((bif (((iTableOf ((DrawTableOf code).1) ((DrawTableOf code).2)).2) != ((sTableOf ((DrawTableOf code).1) ((DrawTableOf code).2)).2)) then true else (!(equalTables ((iTableOf ((DrawTableOf code).1) ((DrawTableOf code).2)).1) ((sTableOf ((DrawTableOf code).1) ((DrawTableOf code).2)).1)))) = false) → (((bif (((iTableOf ((DrawTableOf code).1) ((DrawTableOf code).2)).2) != ((sTableOf ((DrawTableOf code).1) ((DrawTableOf code).2)).2)) then true else (!(equalTables ((iTableOf ((DrawTableOf code).1) ((DrawTableOf code).2)).1) ((sTableOf ((DrawTableOf code).1) ((DrawTableOf code).2)).1)))) = false))), (((bif (((iTableOf ((DrawTableOf code).1) ((DrawTableOf code).2)).2) != ((sTableOf ((DrawTableOf code).1) ((DrawTableOf code).2)).2)) then true else (!(equalTables ((iTableOf ((DrawTableOf code).1) ((DrawTableOf code).2)).1) ((sTableOf ((DrawTableOf code).1) ((DrawTableOf code).2)).1)))) = false) → (((bif (((iTableOf ((DrawTableOf code).1) ((DrawTableOf code).2)).2) != ((sTableOf ((DrawTableOf code).1) ((DrawTableOf code).2)).2)) then true else (!(equalTables ((iTableOf ((DrawTableOf code).1) ((DrawTableOf code).2)).1) ((sTableOf ((DrawTableOf code).1) ((DrawTableOf code).2)).1)))) = false)))] ?_ ?_))
  ·
   refine ⟨?_, ?_, ?_, ?_, ?_, ?_, ?_, trivial⟩
   ·
    intro g6
    have g6p0 : (((iTableOf ((DrawTableOf code).1) ((DrawTableOf code).2)).2) != ((sTableOf ((DrawTableOf code).1) ((DrawTableOf code).2)).2)) = false := g6
    assumption
   ·
    intro g7
    have g7p0 : (((iTableOf ((DrawTableOf code).1) ((DrawTableOf code).2)).2) != ((sTableOf ((DrawTableOf code).1) ((DrawTableOf code).2)).2)) = false := g7
    assumption
   ·
    intro g8
    have g8p0 : (((iTableOf ((DrawTableOf code).1) ((DrawTableOf code).2)).2) != ((sTableOf ((DrawTableOf code).1) ((DrawTableOf code).2)).2)) = false := g8
    trivial
   ·
    intro g9
    have g9p0 : (((iTableOf ((DrawTableOf code).1) ((DrawTableOf code).2)).2) != ((sTableOf ((DrawTableOf code).1) ((DrawTableOf code).2)).2)) = false := g9
    assumption
   ·
    intro g10
    have g10p0 : (((iTableOf ((DrawTableOf code).1) ((DrawTableOf code).2)).2) != ((sTableOf ((DrawTableOf code).1) ((DrawTableOf code).2)).2)) = false := g10
    assumption
   ·
    intro g11
    have g11p0 : ((((iTableOf ((DrawTableOf code).1) ((DrawTableOf code).2)).2) != ((sTableOf ((DrawTableOf code).1) ((DrawTableOf code).2)).2)) = false) ∧ ((equalTables ((iTableOf ((DrawTableOf code).1) ((DrawTableOf code).2)).1) ((sTableOf ((DrawTableOf code).1) ((DrawTableOf code).2)).1)) = true) := (And.imp (fun h => h) (fun h => (Go.Am.not_neg h)) (Go.Am.or_neg g11))
    assumption
   ·
    intro g12
    have g12p0 : ((((iTableOf ((DrawTableOf code).1) ((DrawTableOf code).2)).2) != ((sTableOf ((DrawTableOf code).1) ((DrawTableOf code).2)).2)) = false) ∧ ((equalTables ((iTableOf ((DrawTableOf code).1) ((DrawTableOf code).2)).1) ((sTableOf ((DrawTableOf code).1) ((DrawTableOf code).2)).1)) = true) := (And.imp (fun h => h) (fun h => (Go.Am.not_neg h)) (Go.Am.or_neg g12))
    assumption
  refine AW.cd (bif (bif (((iTableOf ((DrawTableOf code).1) ((DrawTableOf code).2)).2) != ((sTableOf ((DrawTableOf code).1) ((DrawTableOf code).2)).2)) then true else (!(equalTables ((iTableOf ((DrawTableOf code).1) ((DrawTableOf code).2)).1) ((sTableOf ((DrawTableOf code).1) ((DrawTableOf code).2)).1)))) then true else (!((iTableOf ((DrawTableOf code).1) ((DrawTableOf code).2)).2))) ?_ ?_
  ·
   intro h13
   have h13q : (((((iTableOf ((DrawTableOf code).1) ((DrawTableOf code).2)).2) != ((sTableOf ((DrawTableOf code).1) ((DrawTableOf code).2)).2)) = true) ∨ ((equalTables ((iTableOf ((DrawTableOf code).1) ((DrawTableOf code).2)).1) ((sTableOf ((DrawTableOf code).1) ((DrawTableOf code).2)).1)) = false)) ∨ (((iTableOf ((DrawTableOf code).1) ((DrawTableOf code).2)).2) = false) := (Or.imp (fun h => (Or.imp (fun h => h) (fun h => (Go.Am.not_pos h)) (Go.Am.or_pos h))) (fun h => (Go.Am.not_pos h)) (Go.Am.or_pos h13))
   have e14 := e4.trans (Go.Am.bif_t h13)
   refine AW.seq (AW.r0 hC [2] [] ⟨[(2, .bool (bif (((iTableOf ((DrawTableOf code).1) ((DrawTableOf code).2)).2) == ((sTableOf ((DrawTableOf code).1) ((DrawTableOf code).2)).2)) then (equalTables ((iTableOf ((DrawTableOf code).1) ((DrawTableOf code).2)).1) ((sTableOf ((DrawTableOf code).1) ((DrawTableOf code).2)).1)) else false))], []⟩ [(((((iTableOf ((DrawTableOf code).1) ((DrawTableOf code).2)).2) == ((sTableOf ((DrawTableOf code).1) ((DrawTableOf code).2)).2)) = true) → (((((iTableOf ((DrawTableOf code).1) ((DrawTableOf code).2)).2) == ((sTableOf ((DrawTableOf code).1) ((DrawTableOf code).2)).2)) = true))), (((((iTableOf ((DrawTableOf code).1) ((DrawTableOf code).2)).2) == ((sTableOf ((DrawTableOf code).1) ((DrawTableOf code).2)).2)) = true) → (((((iTableOf ((DrawTableOf code).1) ((DrawTableOf code).2)).2) == ((sTableOf ((DrawTableOf code).1) ((DrawTableOf code).2)).2)) = true))), (((((iTableOf ((DrawTableOf code).1) ((DrawTableOf code).2)).2) == ((sTableOf ((DrawTableOf code).1) ((DrawTableOf code).2)).2)) = true) → (True)), (((((iTableOf ((DrawTableOf code).1) ((DrawTableOf code).2)).2) == ((sTableOf ((DrawTableOf code).1) ((DrawTableOf code).2)).2)) = true) → (((((iTableOf ((DrawTableOf code).1) ((DrawTableOf code).2)).2) == ((sTableOf ((DrawTableOf code).1) ((DrawTableOf code).2)).2)) = true)))] ?_ ?_)
   ·
    refine ⟨?_, ?_, ?_, ?_, trivial⟩
    ·
     intro g15
     have g15p0 : (((iTableOf ((DrawTableOf code).1) ((DrawTableOf code).2)).2) == ((sTableOf ((DrawTableOf code).1) ((DrawTableOf code).2)).2)) = true := g15
     assumption
    ·
     intro g16
     have g16p0 : (((iTableOf ((DrawTableOf code).1) ((DrawTableOf code).2)).2) == ((sTableOf ((DrawTableOf code).1) ((DrawTableOf code).2)).2)) = true := g16
     assumption
    ·
     intro g17
     have g17p0 : (((iTableOf ((DrawTableOf code).1) ((DrawTableOf code).2)).2) == ((sTableOf ((DrawTableOf code).1) ((DrawTableOf code).2)).2)) = true := g17
     trivial
    ·
     intro g18
     have g18p0 : (((iTableOf ((DrawTableOf code).1) ((DrawTableOf code).2)).2) == ((sTableOf ((DrawTableOf code).1) ((DrawTableOf code).2)).2)) = true := g18
     assumption
   exact AW.ret (AW.retE (β := Bool) (fun v => [⟨.bool, v⟩]) (fun v => []) (v := (bif (((iTableOf ((DrawTableOf code).1) ((DrawTableOf code).2)).2) == ((sTableOf ((DrawTableOf code).1) ((DrawTableOf code).2)).2)) then (equalTables ((iTableOf ((DrawTableOf code).1) ((DrawTableOf code).2)).1) ((sTableOf ((DrawTableOf code).1) ((DrawTableOf code).2)).1)) else false)) e14 (by kernel_rfl) rfl rfl)
  ·
   intro h19
   have h19q : (((((iTableOf ((DrawTableOf code).1) ((DrawTableOf code).2)).2) != ((sTableOf ((DrawTableOf code).1) ((DrawTableOf code).2)).2)) = false) ∧ ((equalTables ((iTableOf ((DrawTableOf code).1) ((DrawTableOf code).2)).1) ((sTableOf ((DrawTableOf code).1) ((DrawTableOf code).2)).1)) = true)) ∧ (((iTableOf ((DrawTableOf code).1) ((DrawTableOf code).2)).2) = true) := (And.imp (fun h => (And.imp (fun h => h) (fun h => (Go.Am.not_neg h)) (Go.Am.or_neg h))) (fun h => (Go.Am.not_neg h)) (Go.Am.or_neg h19))
   have e20 := e4.trans (Go.Am.bif_f h19)
   refine AW.kp [3, 4, 5] [20] ⟨[(3, .int .i64 ((DrawTableOf code).1)), (4, .data (.slice (.slice (.named 1))) (((DrawTableOf code).2) : List (List Val))), (5, .ref 20 1 0)], [(20, .box 1 [.int .i64 (Tab.Width ((iTableOf ((DrawTableOf code).1) ((DrawTableOf code).2)).1)), .data (.slice (.slice (.named 1))) ((Tab.Rows ((iTableOf ((DrawTableOf code).1) ((DrawTableOf code).2)).1)) : List (List Val))])]⟩ ?_
   refine AW.skip (AW.seq (AW.r1 hC [3, 4, 5, 9] [20, 224] ⟨[(3, .int .i64 ((DrawTableOf code).1)), (4, .data (.slice (.slice (.named 1))) (((DrawTableOf code).2) : List (List Val))), (5, .ref 20 1 0), (9, .arr 224 1)], [(20, .box 1 [.int .i64 (Tab.Width ((iTableOf ((DrawTableOf code).1) ((DrawTableOf code).2)).1)), .data (.slice (.slice (.named 1))) ((Tab.Rows ((iTableOf ((DrawTableOf code).1) ((DrawTableOf code).2)).1)) : List (List Val))]), (224, .arr 1 (.slice (.named 1)) (([] : List (List Val)) : List (List Val)))]⟩ ?_))
   refine AW.seq (AW.seq (AW.wf_arr (id := 224) (ep := 1) (t := (.slice (.named 1))) (xs := (([] : List (List Val)) : List (List Val))) (by kernel_rfl) fun ha21 _ => ?_))
   replace ha21 : ((List.length ([] : List (List Val)) : Nat) : Int) ≤ 4294967296 := ha21
   refine AW.r0 hC [3, 4, 5, 9, 10] [20, 224] ⟨[(3, .int .i64 ((DrawTableOf code).1)), (4, .data (.slice (.slice (.named 1))) (((DrawTableOf code).2) : List (List Val))), (5, .ref 20 1 0), (9, .arr 224 1), (10, .int .i64 (((List.length ((DrawTableOf code).2) : Nat) : Int) - 1))], [(20, .box 1 [.int .i64 (Tab.Width ((iTableOf ((DrawTableOf code).1) ((DrawTableOf code).2)).1)), .data (.slice (.slice (.named 1))) ((Tab.Rows ((iTableOf ((DrawTableOf code).1) ((DrawTableOf code).2)).1)) : List (List Val))]), (224, .arr 1 (.slice (.named 1)) (([] : List (List Val)) : List (List Val)))]⟩ [(-9223372036854775808 ≤ (((List.length ((DrawTableOf code).2) : Nat) : Int) - 1) ∧ (((List.length ((DrawTableOf code).2) : Nat) : Int) - 1) ≤ 9223372036854775807)] ?_ ?_
   ·
    refine ⟨?_, trivial⟩
    ·
     omega
   refine AW.cutQ (α := (List (List Val))) (fun x => ⟨[(3, .int .i64 ((DrawTableOf code).1)), (4, .data (.slice (.slice (.named 1))) (((DrawTableOf code).2) : List (List Val))), (5, .ref 20 1 0), (9, .arr 224 1)], [(20, .box 1 [.int .i64 (Tab.Width ((iTableOf ((DrawTableOf code).1) ((DrawTableOf code).2)).1)), .data (.slice (.slice (.named 1))) ((Tab.Rows ((iTableOf ((DrawTableOf code).1) ((DrawTableOf code).2)).1)) : List (List Val))]), (224, .arr 1 (.slice (.named 1)) (x : List (List Val)))]⟩) (fun x => (True) ∧ (FnTableOf_l0 code (Int.toNat ((((List.length ((DrawTableOf code).2) : Nat) : Int) - 1) + 1) + 1) (((List.length ((DrawTableOf code).2) : Nat) : Int) - 1) ([] : List (List Val))) = x) ?_ ?_
   ·
    skip
    refine AW.block (AW.loop (α := Int × (List (List Val))) (fun x => ⟨[(3, .int .i64 ((DrawTableOf code).1)), (4, .data (.slice (.slice (.named 1))) (((DrawTableOf code).2) : List (List Val))), (5, .ref 20 1 0), (9, .arr 224 1), (10, .int .i64 x.1)], [(20, .box 1 [.int .i64 (Tab.Width ((iTableOf ((DrawTableOf code).1) ((DrawTableOf code).2)).1)), .data (.slice (.slice (.named 1))) ((Tab.Rows ((iTableOf ((DrawTableOf code).1) ((DrawTableOf code).2)).1)) : List (List Val))]), (224, .arr 1 (.slice (.named 1)) (x.2 : List (List Val)))]⟩) (fun x => ((List.length x.2 : Int) + x.1 + 1 = (List.length (DrawTableOf code).2 : Int) ∧ -1 ≤ x.1) ∧ ∃ k, Int.toNat (x.1 + 1) < k ∧ (FnTableOf_l0 code (Int.toNat ((((List.length ((DrawTableOf code).2) : Nat) : Int) - 1) + 1) + 1) (((List.length ((DrawTableOf code).2) : Nat) : Int) - 1) ([] : List (List Val))) = FnTableOf_l0 code k x.1 x.2) (fun x => Int.toNat (x.1 + 1)) ((((List.length ((DrawTableOf code).2) : Nat) : Int) - 1), ([] : List (List Val))) (by kernel_rfl) ⟨?_, _, Nat.lt_succ_self _, rfl⟩ ?_)
    ·
     show (List.length ([] : List (List Val)) : Int) + (((List.length ((DrawTableOf code).2) : Nat) : Int) - 1) + 1 = (List.length (DrawTableOf code).2 : Int) ∧ -1 ≤ (((List.length ((DrawTableOf code).2) : Nat) : Int) - 1)
     simp only [List.length_nil]
     omega
    ·
     intro x hR
     obtain ⟨i, back⟩ := x
     obtain ⟨hI0, k45, hk43, e44⟩ := hR
     replace hI0 : (List.length back : Int) + i + 1 = (List.length (DrawTableOf code).2 : Int) ∧ -1 ≤ i := hI0
     replace hk43 : Int.toNat (i + 1) < k45 := hk43
     obtain ⟨k45q, rfl⟩ : ∃ k, k45 = k + 1 := ⟨k45 - 1, by omega⟩
     refine AW.seq (AW.seq (AW.wf_arr (id := 224) (ep := 1) (t := (.slice (.named 1))) (xs := (back : List (List Val))) (by kernel_rfl) fun ha46 _ => ?_))
     replace ha46 : ((List.length back : Nat) : Int) ≤ 4294967296 := ha46
     refine AW.r1 hC [3, 4, 5, 9, 10, 61] [20, 224] ⟨[(3, .int .i64 ((DrawTableOf code).1)), (4, .data (.slice (.slice (.named 1))) (((DrawTableOf code).2) : List (List Val))), (5, .ref 20 1 0), (9, .arr 224 1), (10, .int .i64 i), (61, .bool (decide (0 ≤ i)))], [(20, .box 1 [.int .i64 (Tab.Width ((iTableOf ((DrawTableOf code).1) ((DrawTableOf code).2)).1)), .data (.slice (.slice (.named 1))) ((Tab.Rows ((iTableOf ((DrawTableOf code).1) ((DrawTableOf code).2)).1)) : List (List Val))]), (224, .arr 1 (.slice (.named 1)) (back : List (List Val)))]⟩ ?_
     refine AW.cd (decide (0 ≤ i)) ?_ ?_
     ·
      intro h47
      have h47q : 0 ≤ i := (of_decide_eq_true h47)
      have e48 := e44.trans (Go.Am.bif_t h47)
      refine AW.kp [3, 4, 5, 9, 10] [20, 224] ⟨[(3, .int .i64 ((DrawTableOf code).1)), (4, .data (.slice (.slice (.named 1))) (((DrawTableOf code).2) : List (List Val))), (5, .ref 20 1 0), (9, .arr 224 1), (10, .int .i64 i)], [(20, .box 1 [.int .i64 (Tab.Width ((iTableOf ((DrawTableOf code).1) ((DrawTableOf code).2)).1)), .data (.slice (.slice (.named 1))) ((Tab.Rows ((iTableOf ((DrawTableOf code).1) ((DrawTableOf code).2)).1)) : List (List Val))]), (224, .arr 1 (.slice (.named 1)) (back : List (List Val)))]⟩ ?_
      refine AW.skip (AW.seq (AW.block (AW.wf_arr (id := 224) (ep := 1) (t := (.slice (.named 1))) (xs := (back : List (List Val))) (by kernel_rfl) fun ha49 _ => ?_)))
      replace ha49 : ((List.length back : Nat) : Int) ≤ 4294967296 := ha49
      refine AW.r0 hC [3, 4, 5, 9, 10] [20, 224] ⟨[(3, .int .i64 ((DrawTableOf code).1)), (4, .data (.slice (.slice (.named 1))) (((DrawTableOf code).2) : List (List Val))), (5, .ref 20 1 0), (9, .arr 224 1), (10, .int .i64 i)], [(20, .box 1 [.int .i64 (Tab.Width ((iTableOf ((DrawTableOf code).1) ((DrawTableOf code).2)).1)), .data (.slice (.slice (.named 1))) ((Tab.Rows ((iTableOf ((DrawTableOf code).1) ((DrawTableOf code).2)).1)) : List (List Val))]), (224, .arr 1 (.slice (.named 1)) ((back ++ ([(List.getD ((DrawTableOf code).2) (Int.toNat i) [])] : List (List Val))) : List (List Val)))]⟩ [(0 ≤ i ∧ i < ((List.length ((DrawTableOf code).2) : Nat) : Int)), (((List.length back : Nat) : Int) + ((List.length ([(List.getD ((DrawTableOf code).2) (Int.toNat i) [])] : List (List Val)) : Nat) : Int) ≤ 4294967296)] ?_ ?_
      ·
       refine ⟨?_, ?_, trivial⟩
       ·
        omega
       ·
        simp only [lens] at *; omega
      refine AW.wf_arr (id := 224) (ep := 1) (t := (.slice (.named 1))) (xs := ((back ++ ([(List.getD ((DrawTableOf code).2) (Int.toNat i) [])] : List (List Val))) : List (List Val))) (by kernel_rfl) fun ha50 _ => ?_
      replace ha50 : ((List.length (back ++ ([(List.getD ((DrawTableOf code).2) (Int.toNat i) [])] : List (List Val))) : Nat) : Int) ≤ 4294967296 := ha50
      refine AW.r0 hC [3, 4, 5, 9, 10] [20, 224] ⟨[(3, .int .i64 ((DrawTableOf code).1)), (4, .data (.slice (.slice (.named 1))) (((DrawTableOf code).2) : List (List Val))), (5, .ref 20 1 0), (9, .arr 224 1), (10, .int .i64 (i - 1))], [(20, .box 1 [.int .i64 (Tab.Width ((iTableOf ((DrawTableOf code).1) ((DrawTableOf code).2)).1)), .data (.slice (.slice (.named 1))) ((Tab.Rows ((iTableOf ((DrawTableOf code).1) ((DrawTableOf code).2)).1)) : List (List Val))]), (224, .arr 1 (.slice (.named 1)) ((back ++ ([(List.getD ((DrawTableOf code).2) (Int.toNat i) [])] : List (List Val))) : List (List Val)))]⟩ [(-9223372036854775808 ≤ (i - 1) ∧ (i - 1) ≤ 9223372036854775807)] ?_ ?_
      ·
       refine ⟨?_, trivial⟩
       ·
        omega
      refine AW.back (x := (i, back)) ((i - 1), (back ++ ([(List.getD ((DrawTableOf code).2) (Int.toNat i) [])] : List (List Val)))) (by kernel_rfl) ⟨?_, k45q, ?_, e48⟩ ?_
      ·
       show (List.length (back ++ ([(List.getD ((DrawTableOf code).2) (Int.toNat i) [])] : List (List Val))) : Int) + (i - 1) + 1 = (List.length (DrawTableOf code).2 : Int) ∧ -1 ≤ (i - 1)
       simp only [List.length_append, List.length_cons, List.length_nil]
       omega
      ·
       show Int.toNat ((i - 1) + 1) < k45q
       omega
      ·
       show Int.toNat ((i - 1) + 1) < Int.toNat (i + 1)
       omega
     ·
      intro h51
      have h51q : ¬ (0 ≤ i) := (of_decide_eq_false h51)
      have e52 := e44.trans (Go.Am.bif_f h51)
      refine AW.kp [3, 4, 5, 9] [20, 224] ⟨[(3, .int .i64 ((DrawTableOf code).1)), (4, .data (.slice (.slice (.named 1))) (((DrawTableOf code).2) : List (List Val))), (5, .ref 20 1 0), (9, .arr 224 1)], [(20, .box 1 [.int .i64 (Tab.Width ((iTableOf ((DrawTableOf code).1) ((DrawTableOf code).2)).1)), .data (.slice (.slice (.named 1))) ((Tab.Rows ((iTableOf ((DrawTableOf code).1) ((DrawTableOf code).2)).1)) : List (List Val))]), (224, .arr 1 (.slice (.named 1)) (back : List (List Val)))]⟩ ?_
      refine AW.exit ?_
      refine AW.meet back (by kernel_rfl) ⟨?_, e52⟩
      show True
      trivial
   ·
    intro back hR
    obtain ⟨hJ0, e53⟩ := hR
    replace hJ0 : True := hJ0
    have e54 := e20.trans (Go.Am.then_eq e53)
    refine AW.seq (AW.wf_arr (id := 224) (ep := 1) (t := (.slice (.named 1))) (xs := (back : List (List Val))) (by kernel_rfl) fun ha55 _ => ?_)
    replace ha55 : ((List.length back : Nat) : Int) ≤ 4294967296 := ha55
    refine AW.r0 hC [3, 4, 5, 11, 12] [20, 44] ⟨[(3, .int .i64 ((DrawTableOf code).1)), (4, .data (.slice (.slice (.named 1))) (((DrawTableOf code).2) : List (List Val))), (5, .ref 20 1 0), (11, .ref 44 1 0), (12, .bool ((iTableOf ((DrawTableOf code).1) back).2))], [(20, .box 1 [.int .i64 (Tab.Width ((iTableOf ((DrawTableOf code).1) ((DrawTableOf code).2)).1)), .data (.slice (.slice (.named 1))) ((Tab.Rows ((iTableOf ((DrawTableOf code).1) ((DrawTableOf code).2)).1)) : List (List Val))]), (44, .box 1 [.int .i64 (Tab.Width ((iTableOf ((DrawTableOf code).1) back).1)), .data (.slice (.slice (.named 1))) ((Tab.Rows ((iTableOf ((DrawTableOf code).1) back).1)) : List (List Val))])]⟩ [(True)] ?_ ?_
    ·
     refine ⟨?_, trivial⟩
     ·
      trivial
    refine AW.seq (AW.r0 hC [4, 5, 11, 12, 13, 14] [20, 44, 52] ⟨[(4, .data (.slice (.slice (.named 1))) (((DrawTableOf code).2) : List (List Val))), (5, .ref 20 1 0), (11, .ref 44 1 0), (12, .bool ((iTableOf ((DrawTableOf code).1) back).2)), (13, .ref 52 1 0), (14, .bool ((iTableOf ((DrawTableOf code).1) (Tab.Rows ((iTableOf ((DrawTableOf code).1) ((DrawTableOf code).2)).1))).2))], [(20, .box 1 [.int .i64 (Tab.Width ((iTableOf ((DrawTableOf code).1) ((DrawTableOf code).2)).1)), .data (.slice (.slice (.named 1))) ((Tab.Rows ((iTableOf ((DrawTableOf code).1) ((DrawTableOf code).2)).1)) : List (List Val))]), (44, .box 1 [.int .i64 (Tab.Width ((iTableOf ((DrawTableOf code).1) back).1)), .data (.slice (.slice (.named 1))) ((Tab.Rows ((iTableOf ((DrawTableOf code).1) back).1)) : List (List Val))]), (52, .box 1 [.int .i64 (Tab.Width ((iTableOf ((DrawTableOf code).1) (Tab.Rows ((iTableOf ((DrawTableOf code).1) ((DrawTableOf code).2)).1))).1)), .data (.slice (.slice (.named 1))) ((Tab.Rows ((iTableOf ((DrawTableOf code).1) (Tab.Rows ((iTableOf ((DrawTableOf code).1) ((DrawTableOf code).2)).1))).1)) : List (List Val))])]⟩ [(True)] ?_ ?_)
    ·
     refine ⟨?_, trivial⟩
     ·
      trivial
    refine AW.seq (AW.r0 hC [2] [] ⟨[(2, .bool (bif (bif (bif (bif (bif (ValidTable ((iTableOf ((DrawTableOf code).1) ((DrawTableOf code).2)).1)) then (((List.length (Tab.Rows ((iTableOf ((DrawTableOf code).1) ((DrawTableOf code).2)).1)) : Nat) : Int) == ((List.length ((DrawTableOf code).2) : Nat) : Int)) else false) then ((iTableOf ((DrawTableOf code).1) back).2) else false) then (equalTables ((iTableOf ((DrawTableOf code).1) back).1) ((iTableOf ((DrawTableOf code).1) ((DrawTableOf code).2)).1)) else false) then ((iTableOf ((DrawTableOf code).1) (Tab.Rows ((iTableOf ((DrawTableOf code).1) ((DrawTableOf code).2)).1))).2) else false) then (equalTables ((iTableOf ((DrawTableOf code).1) (Tab.Rows ((iTableOf ((DrawTableOf code).1) ((DrawTableOf code).2)).1))).1) ((iTableOf ((DrawTableOf code).1) ((DrawTableOf code).2)).1)) else false))], []⟩ [(True), (((ValidTable ((iTableOf ((DrawTableOf code).1) ((DrawTableOf code).2)).1)) = true) → (((ValidTable ((iTableOf ((DrawTableOf code).1) ((DrawTableOf code).2)).1)) = true))), (((ValidTable ((iTableOf ((DrawTableOf code).1) ((DrawTableOf code).2)).1)) = true) → (((ValidTable ((iTableOf ((DrawTableOf code).1) ((DrawTableOf code).2)).1)) = true))), (((ValidTable ((iTableOf ((DrawTableOf code).1) ((DrawTableOf code).2)).1)) = true) → (((ValidTable ((iTableOf ((DrawTableOf code).1) ((DrawTableOf code).2)).1)) = true))), (((ValidTable ((iTableOf ((DrawTableOf code).1) ((DrawTableOf code).2)).1)) = true) → (((ValidTable ((iTableOf ((DrawTableOf code).1) ((DrawTableOf code).2)).1)) = true))), (((ValidTable ((iTableOf ((DrawTableOf code).1) ((DrawTableOf code).2)).1)) = true) → (((ValidTable ((iTableOf ((DrawTableOf code).1) ((DrawTableOf code).2)).1)) = true))), (((ValidTable ((iTableOf ((DrawTableOf code).1) ((DrawTableOf code).2)).1)) = true) → (((ValidTable ((iTableOf ((DrawTableOf code).1) ((DrawTableOf code).2)).1)) = true))), (((bif (ValidTable ((iTableOf ((DrawTableOf code).1) ((DrawTableOf code).2)).1)) then (((List.length (Tab.Rows ((iTableOf ((DrawTableOf code).1) ((DrawTableOf code).2)).1)) : Nat) : Int) == ((List.length ((DrawTableOf code).2) : Nat) : Int)) else false) = true) → (((bif (ValidTable ((iTableOf ((DrawTableOf code).1) ((DrawTableOf code).2)).1)) then (((List.length (Tab.Rows ((iTableOf ((DrawTableOf code).1) ((DrawTableOf code).2)).1)) : Nat) : Int) == ((List.length ((DrawTableOf code).2) : Nat) : Int)) else false) = true))), (((bif (bif (ValidTable ((iTableOf ((DrawTableOf code).1) ((DrawTableOf code).2)).1)) then (((List.length (Tab.Rows ((iTableOf ((DrawTableOf code).1) ((DrawTableOf code).2)).1)) : Nat) : Int) == ((List.length ((DrawTableOf code).2) : Nat) : Int)) else false) then ((iTableOf ((DrawTableOf code).1) back).2) else false) = true) → (((bif (bif (ValidTable ((iTableOf ((DrawTableOf code).1) ((DrawTableOf code).2)).1)) then (((List.length (Tab.Rows ((iTableOf ((DrawTableOf code).1) ((DrawTableOf code).2)).1)) : Nat) : Int) == ((List.length ((DrawTableOf code).2) : Nat) : Int)) else false) then ((iTableOf ((DrawTableOf code).1) back).2) else false) = true))), (((bif (bif (ValidTable ((iTableOf ((DrawTableOf code).1) ((DrawTableOf code).2)).1)) then (((List.length (Tab.Rows ((iTableOf ((DrawTableOf code).1) ((DrawTableOf code).2)).1)) : Nat) : Int) == ((List.length ((DrawTableOf code).2) : Nat) : Int)) else false) then ((iTableOf ((DrawTableOf code).1) back).2) else false) = true) → (((bif (bif (ValidTable ((iTableOf ((DrawTableOf code).1) ((DrawTableOf code).2)).1)) then (((List.length (Tab.Rows ((iTableOf ((DrawTableOf code).1) ((DrawTableOf code).2)).1)) : Nat) : Int) == ((List.length ((DrawTableOf code).2) : Nat) : Int)) else false) then ((iTableOf ((DrawTableOf code).1) back).2) else false) = true))), (((bif (bif (ValidTable ((iTableOf ((DrawTableOf code).1) ((DrawTableOf code).2)).1)) then (((List.length (Tab.Rows ((iTableOf ((DrawTableOf code).1) ((DrawTableOf code).2)).1)) : Nat) : Int) == ((List.length ((DrawTableOf code).2) : Nat) : Int)) else false) then ((iTableOf ((DrawTableOf code).1) back).2) else false) = true) → (True)), (((bif (bif (ValidTable ((iTableOf ((DrawTableOf code).1) ((DrawTableOf code).2)).1)) then (((List.length (Tab.Rows ((iTableOf ((DrawTableOf code).1) ((DrawTableOf code).2)).1)) : Nat) : Int) == ((List.length ((DrawTableOf code).2) : Nat) : Int)) else false) then ((iTableOf ((DrawTableOf code).1) back).2) else false) = true) → (((bif (bif (ValidTable ((iTableOf ((DrawTableOf code).1) ((DrawTableOf code).2)).1)) then (((List.length (Tab.Rows ((iTableOf ((DrawTableOf code).1) ((DrawTableOf code).2)).1)) : Nat) : Int) == ((List.length ((DrawTableOf code).2) : Nat) : Int)) else false) then ((iTableOf ((DrawTableOf code).1) back).2) else false) = true))), (((bif (bif (bif (ValidTable ((iTableOf ((DrawTableOf code).1) ((DrawTableOf code).2)).1)) then (((List.length (Tab.Rows ((iTableOf ((DrawTableOf code).1) ((DrawTableOf code).2)).1)) : Nat) : Int) == ((List.length ((DrawTableOf code).2) : Nat) : Int)) else false) then ((iTableOf ((DrawTableOf code).1) back).2) else false) then (equalTables ((iTableOf ((DrawTableOf code).1) back).1) ((iTableOf ((DrawTableOf code).1) ((DrawTableOf code).2)).1)) else false) = true) → (((bif (bif (bif (ValidTable ((iTableOf ((DrawTableOf code).1) ((DrawTableOf code).2)).1)) then (((List.length (Tab.Rows ((iTableOf ((DrawTableOf code).1) ((DrawTableOf code).2)).1)) : Nat) : Int) == ((List.length ((DrawTableOf code).2) : Nat) : Int)) else false) then ((iTableOf ((DrawTableOf code).1) back).2) else false) then (equalTables ((iTableOf ((DrawTableOf code).1) back).1) ((iTableOf ((DrawTableOf code).1) ((DrawTableOf code).2)).1)) else false) = true))), (((bif (bif (bif (bif (ValidTable ((iTableOf ((DrawTableOf code).1) ((DrawTableOf code).2)).1)) then (((List.length (Tab.Rows ((iTableOf ((DrawTableOf code).1) ((DrawTableOf code).2)).1)) : Nat) : Int) == ((List.length ((DrawTableOf code).2) : Nat) : Int)) else false) then ((iTableOf ((DrawTableOf code).1) back).2) else false) then (equalTables ((iTableOf ((DrawTableOf code).1) back).1) ((iTableOf ((DrawTableOf code).1) ((DrawTableOf code).2)).1)) else false) then ((iTableOf ((DrawTableOf code).1) (Tab.Rows ((iTableOf ((DrawTableOf code).1) ((DrawTableOf code).2)).1))).2) else false) = true) → (((bif (bif (bif (bif (ValidTable ((iTableOf ((DrawTableOf code).1) ((DrawTableOf code).2)).1)) then (((List.length (Tab.Rows ((iTableOf ((DrawTableOf code).1) ((DrawTableOf code).2)).1)) : Nat) : Int) == ((List.length ((DrawTableOf code).2) : Nat) : Int)) else false) then ((iTableOf ((DrawTableOf code).1) back).2) else false) then (equalTables ((iTableOf ((DrawTableOf code).1) back).1) ((iTableOf ((DrawTableOf code).1) ((DrawTableOf code).2)).1)) else false) then ((iTableOf ((DrawTableOf code).1) (Tab.Rows ((iTableOf ((DrawTableOf code).1) ((DrawTableOf code).2)).1))).2) else false) = true))), (((bif (bif (bif (bif (ValidTable ((iTableOf ((DrawTableOf code).1) ((DrawTableOf code).2)).1)) then (((List.length (Tab.Rows ((iTableOf ((DrawTableOf code).1) ((DrawTableOf code).2)).1)) : Nat) : Int) == ((List.length ((DrawTableOf code).2) : Nat) : Int)) else false) then ((iTableOf ((DrawTableOf code).1) back).2) else false) then (equalTables ((iTableOf ((DrawTableOf code).1) back).1) ((iTableOf ((DrawTableOf code).1) ((DrawTableOf code).2)).1)) else false) then ((iTableOf ((DrawTableOf code).1) (Tab.Rows ((iTableOf ((DrawTableOf code).1) ((DrawTableOf code).2)).1))).2) else false) = true) → (((bif (bif (bif (bif (ValidTable ((iTableOf ((DrawTableOf code).1) ((DrawTableOf code).2)).1)) then (((List.length (Tab.Rows ((iTableOf ((DrawTableOf code).1) ((DrawTableOf code).2)).1)) : Nat) : Int) == ((List.length ((DrawTableOf code).2) : Nat) : Int)) else false) then ((iTableOf ((DrawTableOf code).1) back).2) else false) then (equalTables ((iTableOf ((DrawTableOf code).1) back).1) ((iTableOf ((DrawTableOf code).1) ((DrawTableOf code).2)).1)) else false) then ((iTableOf ((DrawTableOf code).1) (Tab.Rows ((iTableOf ((DrawTableOf code).1) ((DrawTableOf code).2)).1))).2) else false) = true))), (((bif (bif (bif (bif (ValidTable ((iTableOf ((DrawTableOf code).1) ((DrawTableOf code).2)).1)) then (((List.length (Tab.Rows ((iTableOf ((DrawTableOf code).1) ((DrawTableOf code).2)).1)) : Nat) : Int) == ((List.length ((DrawTableOf code).2) : Nat) : Int)) else false) then ((iTableOf ((DrawTableOf code).1) back).2) else false) then (equalTables ((iTableOf ((DrawTableOf code).1) back).1) ((iTableOf ((DrawTableOf code).1) ((DrawTableOf code).2)).1)) else false) then ((iTableOf ((DrawTableOf code).1) (Tab.Rows ((iTableOf ((DrawTableOf code).1) ((DrawTableOf code).2)).1))).2) else false) = true) → (True)), (((bif (bif (bif (bif (ValidTable ((iTableOf ((DrawTableOf code).1) ((DrawTableOf code).2)).1)) then (((List.length (Tab.Rows ((iTableOf ((DrawTableOf code).1) ((DrawTableOf code).2)).1)) : Nat) : Int) == ((List.length ((DrawTableOf code).2) : Nat) : Int)) else false) then ((iTableOf ((DrawTableOf code).1) back).2) else false) then (equalTables ((iTableOf ((DrawTableOf code).1) back).1) ((iTableOf ((DrawTableOf code).1) ((DrawTableOf code).2)).1)) else false) then ((iTableOf ((DrawTableOf code).1) (Tab.Rows ((iTableOf ((DrawTableOf code).1) ((DrawTableOf code).2)).1))).2) else false) = true) → (((bif (bif (bif (bif (ValidTable ((iTableOf ((DrawTableOf code).1) ((DrawTableOf code).2)).1)) then (((List.length (Tab.Rows ((iTableOf ((DrawTableOf code).1) ((DrawTableOf code).2)).1)) : Nat) : Int) == ((List.length ((DrawTableOf code).2) : Nat) : Int)) else false) then ((iTableOf ((DrawTableOf code).1) back).2) else false) then (equalTables ((iTableOf ((DrawTableOf code).1) back).1) ((iTableOf ((DrawTableOf code).1) ((DrawTableOf code).2)).1)) else false) then ((iTableOf ((DrawTableOf code).1) (Tab.Rows ((iTableOf ((DrawTableOf code).1) ((DrawTableOf code).2)).1))).2) else false) = true)))] ?_ ?_)
    ·
     refine ⟨?_, ?_, ?_, ?_, ?_, ?_, ?_, ?_, ?_, ?_, ?_, ?_, ?_, ?_, ?_, ?_, ?_, trivial⟩
     ·
      trivial
     ·
      intro g56
      have g56p0 : (ValidTable ((iTableOf ((DrawTableOf code).1) ((DrawTableOf code).2)).1)) = true := g56
      assumption
     ·
      intro g57
      have g57p0 : (ValidTable ((iTableOf ((DrawTableOf code).1) ((DrawTableOf code).2)).1)) = true := g57
      assumption
     ·
      intro g58
      have g58p0 : (ValidTable ((iTableOf ((DrawTableOf code).1) ((DrawTableOf code).2)).1)) = true := g58
      assumption
     ·
      intro g59
      have g59p0 : (ValidTable ((iTableOf ((DrawTableOf code).1) ((DrawTableOf code).2)).1)) = true := g59
      assumption
     ·
      intro g60
      have g60p0 : (ValidTable ((iTableOf ((DrawTableOf code).1) ((DrawTableOf code).2)).1)) = true := g60
      assumption
     ·
      intro g61
      have g61p0 : (ValidTable ((iTableOf ((DrawTableOf code).1) ((DrawTableOf code).2)).1)) = true := g61
      assumption
     ·
      intro g62
      have g62p0 : ((ValidTable ((iTableOf ((DrawTableOf code).1) ((DrawTableOf code).2)).1)) = true) ∧ (((List.length (Tab.Rows ((iTableOf ((DrawTableOf code).1) ((DrawTableOf code).2)).1)) : Nat) : Int) = ((List.length ((DrawTableOf code).2) : Nat) : Int)) := (And.imp (fun h => h) (fun h => (Go.Am.beq_pos h)) (Go.Am.and_pos g62))
      assumption
     ·
      intro g63
      have g63p0 : (((ValidTable ((iTableOf ((DrawTableOf code).1) ((DrawTableOf code).2)).1)) = true) ∧ (((List.length (Tab.Rows ((iTableOf ((DrawTableOf code).1) ((DrawTableOf code).2)).1)) : Nat) : Int) = ((List.length ((DrawTableOf code).2) : Nat) : Int))) ∧ (((iTableOf ((DrawTableOf code).1) back).2) = true) := (And.imp (fun h => (And.imp (fun h => h) (fun h => (Go.Am.beq_pos h)) (Go.Am.and_pos h))) (fun h => h) (Go.Am.and_pos g63))
      assumption
     ·
      intro g64
      have g64p0 : (((ValidTable ((iTableOf ((DrawTableOf code).1) ((DrawTableOf code).2)).1)) = true) ∧ (((List.length (Tab.Rows ((iTableOf ((DrawTableOf code).1) ((DrawTableOf code).2)).1)) : Nat) : Int) = ((List.length ((DrawTableOf code).2) : Nat) : Int))) ∧ (((iTableOf ((DrawTableOf code).1) back).2) = true) := (And.imp (fun h => (And.imp (fun h => h) (fun h => (Go.Am.beq_pos h)) (Go.Am.and_pos h))) (fun h => h) (Go.Am.and_pos g64))
      assumption
     ·
      intro g65
      have g65p0 : (((ValidTable ((iTableOf ((DrawTableOf code).1) ((DrawTableOf code).2)).1)) = true) ∧ (((List.length (Tab.Rows ((iTableOf ((DrawTableOf code).1) ((DrawTableOf code).2)).1)) : Nat) : Int) = ((List.length ((DrawTableOf code).2) : Nat) : Int))) ∧ (((iTableOf ((DrawTableOf code).1) back).2) = true) := (And.imp (fun h => (And.imp (fun h => h) (fun h => (Go.Am.beq_pos h)) (Go.Am.and_pos h))) (fun h => h) (Go.Am.and_pos g65))
      trivial
     ·
      intro g66
      have g66p0 : (((ValidTable ((iTableOf ((DrawTableOf code).1) ((DrawTableOf code).2)).1)) = true) ∧ (((List.length (Tab.Rows ((iTableOf ((DrawTableOf code).1) ((DrawTableOf code).2)).1)) : Nat) : Int) = ((List.length ((DrawTableOf code).2) : Nat) : Int))) ∧ (((iTableOf ((DrawTableOf code).1) back).2) = true) := (And.imp (fun h => (And.imp (fun h => h) (fun h => (Go.Am.beq_pos h)) (Go.Am.and_pos h))) (fun h => h) (Go.Am.and_pos g66))
      assumption
     ·
      intro g67
      have g67p0 : ((((ValidTable ((iTableOf ((DrawTableOf code).1) ((DrawTableOf code).2)).1)) = true) ∧ (((List.length (Tab.Rows ((iTableOf ((DrawTableOf code).1) ((DrawTableOf code).2)).1)) : Nat) : Int) = ((List.length ((DrawTableOf code).2) : Nat) : Int))) ∧ (((iTableOf ((DrawTableOf code).1) back).2) = true)) ∧ ((equalTables ((iTableOf ((DrawTableOf code).1) back).1) ((iTableOf ((DrawTableOf code).1) ((DrawTableOf code).2)).1)) = true) := (And.imp (fun h => (And.imp (fun h => (And.imp (fun h => h) (fun h => (Go.Am.beq_pos h)) (Go.Am.and_pos h))) (fun h => h) (Go.Am.and_pos h))) (fun h => h) (Go.Am.and_pos g67))
      assumption
     ·
      intro g68
      have g68p0 : (((((ValidTable ((iTableOf ((DrawTableOf code).1) ((DrawTableOf code).2)).1)) = true) ∧ (((List.length (Tab.Rows ((iTableOf ((DrawTableOf code).1) ((DrawTableOf code).2)).1)) : Nat) : Int) = ((List.length ((DrawTableOf code).2) : Nat) : Int))) ∧ (((iTableOf ((DrawTableOf code).1) back).2) = true)) ∧ ((equalTables ((iTableOf ((DrawTableOf code).1) back).1) ((iTableOf ((DrawTableOf code).1) ((DrawTableOf code).2)).1)) = true)) ∧ (((iTableOf ((DrawTableOf code).1) (Tab.Rows ((iTableOf ((DrawTableOf code).1) ((DrawTableOf code).2)).1))).2) = true) := (And.imp (fun h => (And.imp (fun h => (And.imp (fun h => (And.imp (fun h => h) (fun h => (Go.Am.beq_pos h)) (Go.Am.and_pos h))) (fun h => h) (Go.Am.and_pos h))) (fun h => h) (Go.Am.and_pos h))) (fun h => h) (Go.Am.and_pos g68))
      assumption
     ·
      intro g69
      have g69p0 : (((((ValidTable ((iTableOf ((DrawTableOf code).1) ((DrawTableOf code).2)).1)) = true) ∧ (((List.length (Tab.Rows ((iTableOf ((DrawTableOf code).1) ((DrawTableOf code).2)).1)) : Nat) : Int) = ((List.length ((DrawTableOf code).2) : Nat) : Int))) ∧ (((iTableOf ((DrawTableOf code).1) back).2) = true)) ∧ ((equalTables ((iTableOf ((DrawTableOf code).1) back).1) ((iTableOf ((DrawTableOf code).1) ((DrawTableOf code).2)).1)) = true)) ∧ (((iTableOf ((DrawTableOf code).1) (Tab.Rows ((iTableOf ((DrawTableOf code).1) ((DrawTableOf code).2)).1))).2) = true) := (And.imp (fun h => (And.imp (fun h => (And.imp (fun h => (And.imp (fun h => h) (fun h => (Go.Am.beq_pos h)) (Go.Am.and_pos h))) (fun h => h) (Go.Am.and_pos h))) (fun h => h) (Go.Am.and_pos h))) (fun h => h) (Go.Am.and_pos g69))
      assumption
     ·
      intro g70
      have g70p0 : (((((ValidTable ((iTableOf ((DrawTableOf code).1) ((DrawTableOf code).2)).1)) = true) ∧ (((List.length (Tab.Rows ((iTableOf ((DrawTableOf code).1) ((DrawTableOf code).2)).1)) : Nat) : Int) = ((List.length ((DrawTableOf code).2) : Nat) : Int))) ∧ (((iTableOf ((DrawTableOf code).1) back).2) = true)) ∧ ((equalTables ((iTableOf ((DrawTableOf code).1) back).1) ((iTableOf ((DrawTableOf code).1) ((DrawTableOf code).2)).1)) = true)) ∧ (((iTableOf ((DrawTableOf code).1) (Tab.Rows ((iTableOf ((DrawTableOf code).1) ((DrawTableOf code).2)).1))).2) = true) := (And.imp (fun h => (And.imp (fun h => (And.imp (fun h => (And.imp (fun h => h) (fun h => (Go.Am.beq_pos h)) (Go.Am.and_pos h))) (fun h => h) (Go.Am.and_pos h))) (fun h => h) (Go.Am.and_pos h))) (fun h => h) (Go.Am.and_pos g70))
      trivial
     ·
      intro g71
      have g71p0 : (((((ValidTable ((iTableOf ((DrawTableOf code).1) ((DrawTableOf code).2)).1)) = true) ∧ (((List.length (Tab.Rows ((iTableOf ((DrawTableOf code).1) ((DrawTableOf code).2)).1)) : Nat) : Int) = ((List.length ((DrawTableOf code).2) : Nat) : Int))) ∧ (((iTableOf ((DrawTableOf code).1) back).2) = true)) ∧ ((equalTables ((iTableOf ((DrawTableOf code).1) back).1) ((iTableOf ((DrawTableOf code).1) ((DrawTableOf code).2)).1)) = true)) ∧ (((iTableOf ((DrawTableOf code).1) (Tab.Rows ((iTableOf ((DrawTableOf code).1) ((DrawTableOf code).2)).1))).2) = true) := (And.imp (fun h => (And.imp (fun h => (And.imp (fun h => (And.imp (fun h => h) (fun h => (Go.Am.beq_pos h)) (Go.Am.and_pos h))) (fun h => h) (Go.Am.and_pos h))) (fun h => h) (Go.Am.and_pos h))) (fun h => h) (Go.Am.and_pos g71))
      assumption
    exact AW.ret (AW.retE (β := Bool) (fun v => [⟨.bool, v⟩]) (fun v => []) (v := (bif (bif (bif (bif (bif (ValidTable ((iTableOf ((DrawTableOf code).1) ((DrawTableOf code).2)).1)) then (((List.length (Tab.Rows ((iTableOf ((DrawTableOf code).1) ((DrawTableOf code).2)).1)) : Nat) : Int) == ((List.length ((DrawTableOf code).2) : Nat) : Int)) else false) then ((iTableOf ((DrawTableOf code).1) back).2) else false) then (equalTables ((iTableOf ((DrawTableOf code).1) back).1) ((iTableOf ((DrawTableOf code).1) ((DrawTableOf code).2)).1)) else false) then ((iTableOf ((DrawTableOf code).1) (Tab.Rows ((iTableOf ((DrawTableOf code).1) ((DrawTableOf code).2)).1))).2) else false) then (equalTables ((iTableOf ((DrawTableOf code).1) (Tab.Rows ((iTableOf ((DrawTableOf code).1) ((DrawTableOf code).2)).1))).1) ((iTableOf ((DrawTableOf code).1) ((DrawTableOf code).2)).1)) else false)) e54 (by kernel_rfl) rfl rfl)

end
end Go.Proofs.Ytjcjpeckfikfkaa
