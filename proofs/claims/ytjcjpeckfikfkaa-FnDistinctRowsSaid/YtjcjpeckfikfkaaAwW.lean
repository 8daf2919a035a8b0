/-
  A part of the proof of this claim (AwW): what functions of the program compute, and plain facts of that. No conditions.
-/
import Derived.Test.YtjcjpeckfikfkaaAwV
set_option linter.all false
namespace Go.Proofs.Ytjcjpeckfikfkaa
open Go Go.Am
noncomputable section

def FnDistinctRows_l0 (code : List Int) : Nat → Nat → Unit ⊕ Bool
 | 0, i => .inl ()
 | k + 1, i => (bif (decide (((i : Nat) : Int) < ((List.length (Tab.Rows (DrawDistinctRows code)) : Nat) : Int))) then (bif ((iCountRow ((iDistinctRows (DrawDistinctRows code)).1) (List.getD (Tab.Rows (DrawDistinctRows code)) i [])) != 1) then (.inr false) else (FnDistinctRows_l0 code k (i + 1))) else (.inl ()))

def FnDistinctRows (code : List Int) : Bool := (bif (decide (1048576 < ((List.length code : Nat) : Int))) then true else (bif (bif (bif (((iDistinctRows (DrawDistinctRows code)).2) != ((sDistinctRows (DrawDistinctRows code)).2)) then true else (!(equalTables ((iDistinctRows (DrawDistinctRows code)).1) ((sDistinctRows (DrawDistinctRows code)).1)))) then true else (!((iDistinctRows (DrawDistinctRows code)).2))) then (bif (((iDistinctRows (DrawDistinctRows code)).2) == ((sDistinctRows (DrawDistinctRows code)).2)) then (equalTables ((iDistinctRows (DrawDistinctRows code)).1) ((sDistinctRows (DrawDistinctRows code)).1)) else false) else (Sum.elim (fun _ => (bif (bif (bif ((iDistinctRows ((iDistinctRows (DrawDistinctRows code)).1)).2) then (equalTables ((iDistinctRows ((iDistinctRows (DrawDistinctRows code)).1)).1) ((iDistinctRows (DrawDistinctRows code)).1)) else false) then (ValidTable ((iDistinctRows (DrawDistinctRows code)).1)) else false) then (decide (((List.length (Tab.Rows ((iDistinctRows (DrawDistinctRows code)).1)) : Nat) : Int) ≤ ((List.length (Tab.Rows (DrawDistinctRows code)) : Nat) : Int))) else false)) (fun r => r) (FnDistinctRows_l0 code ((List.length (Tab.Rows (DrawDistinctRows code))) - 0 + 1) 0))))

def FnDistinctRows_sp : FnSpec := mkSpec [.val (.slice (.int .u8))] [.val .bool] (fun (code : List Int) => True) (fun (code : List Int) => [⟨.bool, (FnDistinctRows code)⟩])

theorem FnDistinctRows_ok : FnOK Try.prog 6 FnDistinctRows_sp := by
 have hC : CtxOK Try.prog (mkCtx tyL [(18, equalTables_sp), (19, ValidTable_sp), (28, iCountRow_sp), (30, iDistinctRows_sp), (32, DrawDistinctRows_sp), (33, sDistinctRows_sp)]) := CtxOK.cons equalTables_ok (CtxOK.cons ValidTable_ok (CtxOK.cons iCountRow_ok (CtxOK.cons iDistinctRows_ok (CtxOK.cons DrawDistinctRows_ok (CtxOK.cons sDistinctRows_ok (CtxOK.nil tyOK))))))
 have hM : Try.prog.follows .mixedOrders = true := Try.checked.mixed
 refine FnOK.of_body Try.func6 (by kernel_rfl) rfl (C := (mkCtx tyL [(18, equalTables_sp), (19, ValidTable_sp), (28, iCountRow_sp), (30, iDistinctRows_sp), (32, DrawDistinctRows_sp), (33, sDistinctRows_sp)])) hC.ty (by kernel_rfl) ?_
 intro (code : List Int) hwf hpre E
 have hpre : True := hpre
 have hw_code : Wf ⟨(.slice (.int .u8)), (code : List Int)⟩ := hwf _ (List.Mem.head _)
 have hl_code : ((List.length code : Nat) : Int) ≤ 9223372036854775807 := hw_code.len
 have hdl := (DrawDistinctRows_drawn code).len
 have e0 : FnDistinctRows code = FnDistinctRows code := rfl
 refine AW.seq (AW.r1 hC [0] [] ⟨[(0, .data (.slice (.int .u8)) (code : List Int))], []⟩ ?_)
 refine AW.seq (AW.seq (AW.r1 hC [0, 13] [] ⟨[(0, .data (.slice (.int .u8)) (code : List Int)), (13, .bool (decide (1048576 < ((List.length code : Nat) : Int))))], []⟩ ?_))
 refine AW.cd (decide (1048576 < ((List.length code : Nat) : Int))) ?_ ?_
 ·
  intro h1
  have h1q : 1048576 < ((List.length code : Nat) : Int) := (of_decide_eq_true h1)
  have e2 := e0.trans (Go.Am.bif_t h1)
  refine AW.seq (AW.r1 hC [2] [] ⟨[(2, .bool true)], []⟩ ?_)
  exact AW.ret (AW.retE (β := Bool) (fun v => [⟨.bool, v⟩]) (fun v => []) (v := true) e2 (by kernel_rfl) rfl rfl)
 ·
  intro h3
  have h3q : ¬ (1048576 < ((List.length code : Nat) : Int)) := (of_decide_eq_false h3)
  have e4 := e0.trans (Go.Am.bif_f h3)
  refine AW.kp [0] [] ⟨[(0, .data (.slice (.int .u8)) (code : List Int))], []⟩ ?_
  refine AW.skip (AW.seq (AW.r0 hC [3] [12] ⟨[(3, .ref 12 1 0)], [(12, .box 1 [.int .i64 (Tab.Width (DrawDistinctRows code)), .data (.slice (.slice (.named 1))) ((Tab.Rows (DrawDistinctRows code)) : List (List Val))])]⟩ [(True)] ?_ ?_))
  ·
   refine ⟨?_, trivial⟩
   ·
    trivial
  refine AW.seq (AW.r0 hC [3, 4, 5] [12, 16] ⟨[(3, .ref 12 1 0), (4, .ref 16 1 0), (5, .bool ((iDistinctRows (DrawDistinctRows code)).2))], [(12, .box 1 [.int .i64 (Tab.Width (DrawDistinctRows code)), .data (.slice (.slice (.named 1))) ((Tab.Rows (DrawDistinctRows code)) : List (List Val))]), (16, .box 1 [.int .i64 (Tab.Width ((iDistinctRows (DrawDistinctRows code)).1)), .data (.slice (.slice (.named 1))) ((Tab.Rows ((iDistinctRows (DrawDistinctRows code)).1)) : List (List Val))])]⟩ [(True)] ?_ ?_)
  ·
   refine ⟨?_, trivial⟩
   ·
    trivial
  refine AW.seq (AW.r0 hC [3, 4, 5, 6, 7] [12, 16, 24] ⟨[(3, .ref 12 1 0), (4, .ref 16 1 0), (5, .bool ((iDistinctRows (DrawDistinctRows code)).2)), (6, .ref 24 1 0), (7, .bool ((sDistinctRows (DrawDistinctRows code)).2))], [(12, .box 1 [.int .i64 (Tab.Width (DrawDistinctRows code)), .data (.slice (.slice (.named 1))) ((Tab.Rows (DrawDistinctRows code)) : List (List Val))]), (16, .box 1 [.int .i64 (Tab.Width ((iDistinctRows (DrawDistinctRows code)).1)), .data (.slice (.slice (.named 1))) ((Tab.Rows ((iDistinctRows (DrawDistinctRows code)).1)) : List (List Val))]), (24, .box 1 [.int .i64 (Tab.Width ((sDistinctRows (DrawDistinctRows code)).1)), .data (.slice (.slice (.named 1))) ((Tab.Rows ((sDistinctRows (DrawDistinctRows code)).1)) : List (List Val))])]⟩ [(True)] ?_ ?_)
  ·
   refine ⟨?_, trivial⟩
   ·
    trivial
  refine AW.seq (AW.seq (AW.r0 hC [3, 4, 5, 6, 7, 38] [12, 16, 24] ⟨[(3, .ref 12 1 0), (4, .ref 16 1 0), (5, .bool ((iDistinctRows (DrawDistinctRows code)).2)), (6, .ref 24 1 0), (7, .bool ((sDistinctRows (DrawDistinctRows code)).2)), (38, .bool (bif (bif (((iDistinctRows (DrawDistinctRows code)).2) != ((sDistinctRows (DrawDistinctRows code)).2)) then true else (!(equalTables ((iDistinctRows (DrawDistinctRows code)).1) ((sDistinctRows (DrawDistinctRows code)).1)))) then true else (!((iDistinctRows (DrawDistinctRows code)).2))))], [(12, .box 1 [.int .i64 (Tab.Width (DrawDistinctRows code)), .data (.slice (.slice (.named 1))) ((Tab.Rows (DrawDistinctRows code)) : List (List Val))]), (16, .box 1 [.int .i64 (Tab.Width ((iDistinctRows (DrawDistinctRows code)).1)), .data (.slice (.slice (.named 1))) ((Tab.Rows ((iDistinctRows (DrawDistinctRows code)).1)) : List (List Val))]), (24, .box 1 [.int .i64 (Tab.Width ((sDistinctRows (DrawDistinctRows code)).1)), .data (.slice (.slice (.named 1))) ((Tab.Rows ((sDistinctRows (DrawDistinctRows code)).1)) : List (List Val))])]⟩ [(((((iDistinctRows (DrawDistinctRows code)).2) != ((sDistinctRows (DrawDistinctRows code)).2)) = false) → (((((iDistinctRows (DrawDistinctRows code)).2) != ((sDistinctRows (DrawDistinctRows code)).2)) = false))), (((((iDistinctRows (DrawDistinctRows code)).2) != ((sDistinctRows (DrawDistinctRows code)).2)) = false) → (((((iDistinctRows (DrawDistinctRows code)).2) != ((sDistinctRows (DrawDistinctRows code)).2)) = false))), (((((iDistinctRows (DrawDistinctRows code)).2) != ((sDistinctRows (DrawDistinctRows code)).2)) = false) → (True)), (((((iDistinctRows (DrawDistinctRows code)).2) != ((sDistinctRows (DrawDistinctRows code)).2)) = false) → (((((iDistinctRows (DrawDistinctRows code)).2) != ((sDistinctRows (DrawDistinctRows code)).2)) = false))), (((((iDistinctRows (DrawDistinctRows code)).2) != ((sDistinctRows (DrawDistinctRows code)).2)) = false) → (((((iDistinctRows (DrawDistinctRows code)).2) != ((sDistinctRows (DrawDistinctRows code)).2)) = false))), (((bif (((iDistinctRows (DrawDistinctRows code)).2) != ((sDistinctRows (DrawDistinctRows code)).2)) then true else (!(equalTables ((iDistinctRows (DrawDistinctRows code)).1) ((sDistinctRows (DrawDistinctRows code)).1)))) = false) → (((bif (((iDistinctRows (DrawDistinctRows code)).2) != ((sDistinctRows (DrawDistinctRows code)).2)) then true else (!(equalTables ((iDistinctRows (DrawDistinctRows code)).1) ((sDistinctRows (DrawDistinctRows code)).1)))) = false))), (((bif (((iDistinctRows (DrawDistinctRows code)).2) != ((sDistinctRows (DrawDistinctRows code)).2)) then true else (!(equalTables ((iDistinctRows (DrawDistinctRows code)).1) ((sDistinctRows (DrawDistinctRows code)).1)))) = false) → (((bif (((iDistinctRows (DrawDistinctRows code)).2) != ((sDistinctRows (DrawDistinctRows code)).2)) then true else (!(equalTables ((iDistinctRows (DrawDistinctRows code)).1) ((sDistinctRows (DrawDistinctRows code)).1)))) = false)))] ?_ ?_))
  ·
   refine ⟨?_, ?_, ?_, ?_, ?_, ?_, ?_, trivial⟩
   ·
    intro g5
    have g5p0 : (((iDistinctRows (DrawDistinctRows code)).2) != ((sDistinctRows (DrawDistinctRows code)).2)) = false := g5
    assumption
   ·
    intro g6
    have g6p0 : (((iDistinctRows (DrawDistinctRows code)).2) != ((sDistinctRows (DrawDistinctRows code)).2)) = false := g6
    assumption
   ·
    intro g7
    have g7p0 : (((iDistinctRows (DrawDistinctRows code)).2) != ((sDistinctRows (DrawDistinctRows code)).2)) = false := g7
    trivial
   ·
    intro g8
    have g8p0 : (((iDistinctRows (DrawDistinctRows code)).2) != ((sDistinctRows (DrawDistinctRows code)).2)) = false := g8
    assumption
   ·
    intro g9
    have g9p0 : (((iDistinctRows (DrawDistinctRows code)).2) != ((sDistinctRows (DrawDistinctRows code)).2)) = false := g9
    assumption
   ·
    intro g10
    have g10p0 : ((((iDistinctRows (DrawDistinctRows code)).2) != ((sDistinctRows (DrawDistinctRows code)).2)) = false) ∧ ((equalTables ((iDistinctRows (DrawDistinctRows code)).1) ((sDistinctRows (DrawDistinctRows code)).1)) = true) := (And.imp (fun h => h) (fun h => (Go.Am.not_neg h)) (Go.Am.or_neg g10))
    assumption
   ·
    intro g11
    have g11p0 : ((((iDistinctRows (DrawDistinctRows code)).2) != ((sDistinctRows (DrawDistinctRows code)).2)) = false) ∧ ((equalTables ((iDistinctRows (DrawDistinctRows code)).1) ((sDistinctRows (DrawDistinctRows code)).1)) = true) := (And.imp (fun h => h) (fun h => (Go.Am.not_neg h)) (Go.Am.or_neg g11))
    assumption
  refine AW.cd (bif (bif (((iDistinctRows (DrawDistinctRows code)).2) != ((sDistinctRows (DrawDistinctRows code)).2)) then true else (!(equalTables ((iDistinctRows (DrawDistinctRows code)).1) ((sDistinctRows (DrawDistinctRows code)).1)))) then true else (!((iDistinctRows (DrawDistinctRows code)).2))) ?_ ?_
  ·
   intro h12
   have h12q : (((((iDistinctRows (DrawDistinctRows code)).2) != ((sDistinctRows (DrawDistinctRows code)).2)) = true) ∨ ((equalTables ((iDistinctRows (DrawDistinctRows code)).1) ((sDistinctRows (DrawDistinctRows code)).1)) = false)) ∨ (((iDistinctRows (DrawDistinctRows code)).2) = false) := (Or.imp (fun h => (Or.imp (fun h => h) (fun h => (Go.Am.not_pos h)) (Go.Am.or_pos h))) (fun h => (Go.Am.not_pos h)) (Go.Am.or_pos h12))
   have e13 := e4.trans (Go.Am.bif_t h12)
   refine AW.seq (AW.r0 hC [2] [] ⟨[(2, .bool (bif (((iDistinctRows (DrawDistinctRows code)).2) == ((sDistinctRows (DrawDistinctRows code)).2)) then (equalTables ((iDistinctRows (DrawDistinctRows code)).1) ((sDistinctRows (DrawDistinctRows code)).1)) else false))], []⟩ [(((((iDistinctRows (DrawDistinctRows code)).2) == ((sDistinctRows (DrawDistinctRows code)).2)) = true) → (((((iDistinctRows (DrawDistinctRows code)).2) == ((sDistinctRows (DrawDistinctRows code)).2)) = true))), (((((iDistinctRows (DrawDistinctRows code)).2) == ((sDistinctRows (DrawDistinctRows code)).2)) = true) → (((((iDistinctRows (DrawDistinctRows code)).2) == ((sDistinctRows (DrawDistinctRows code)).2)) = true))), (((((iDistinctRows (DrawDistinctRows code)).2) == ((sDistinctRows (DrawDistinctRows code)).2)) = true) → (True)), (((((iDistinctRows (DrawDistinctRows code)).2) == ((sDistinctRows (DrawDistinctRows code)).2)) = true) → (((((iDistinctRows (DrawDistinctRows code)).2) == ((sDistinctRows (DrawDistinctRows code)).2)) = true)))] ?_ ?_)
   ·
    refine ⟨?_, ?_, ?_, ?_, trivial⟩
    ·
     intro g14
     have g14p0 : (((iDistinctRows (DrawDistinctRows code)).2) == ((sDistinctRows (DrawDistinctRows code)).2)) = true := g14
     assumption
    ·
     intro g15
     have g15p0 : (((iDistinctRows (DrawDistinctRows code)).2) == ((sDistinctRows (DrawDistinctRows code)).2)) = true := g15
     assumption
    ·
     intro g16
     have g16p0 : (((iDistinctRows (DrawDistinctRows code)).2) == ((sDistinctRows (DrawDistinctRows code)).2)) = true := g16
     trivial
    ·
     intro g17
     have g17p0 : (((iDistinctRows (DrawDistinctRows code)).2) == ((sDistinctRows (DrawDistinctRows code)).2)) = true := g17
     assumption
   exact AW.ret (AW.retE (β := Bool) (fun v => [⟨.bool, v⟩]) (fun v => []) (v := (bif (((iDistinctRows (DrawDistinctRows code)).2) == ((sDistinctRows (DrawDistinctRows code)).2)) then (equalTables ((iDistinctRows (DrawDistinctRows code)).1) ((sDistinctRows (DrawDistinctRows code)).1)) else false)) e13 (by kernel_rfl) rfl rfl)
  ·
   intro h18
   have h18q : (((((iDistinctRows (DrawDistinctRows code)).2) != ((sDistinctRows (DrawDistinctRows code)).2)) = false) ∧ ((equalTables ((iDistinctRows (DrawDistinctRows code)).1) ((sDistinctRows (DrawDistinctRows code)).1)) = true)) ∧ (((iDistinctRows (DrawDistinctRows code)).2) = true) := (And.imp (fun h => (And.imp (fun h => h) (fun h => (Go.Am.not_neg h)) (Go.Am.or_neg h))) (fun h => (Go.Am.not_neg h)) (Go.Am.or_neg h18))
   have e19 := e4.trans (Go.Am.bif_f h18)
   refine AW.kp [3, 4] [12, 16] ⟨[(3, .ref 12 1 0), (4, .ref 16 1 0)], [(12, .box 1 [.int .i64 (Tab.Width (DrawDistinctRows code)), .data (.slice (.slice (.named 1))) ((Tab.Rows (DrawDistinctRows code)) : List (List Val))]), (16, .box 1 [.int .i64 (Tab.Width ((iDistinctRows (DrawDistinctRows code)).1)), .data (.slice (.slice (.named 1))) ((Tab.Rows ((iDistinctRows (DrawDistinctRows code)).1)) : List (List Val))])]⟩ ?_
   refine AW.skip (AW.seq (AW.r0 hC [3, 4, 8, 9] [12, 16, 32] ⟨[(3, .ref 12 1 0), (4, .ref 16 1 0), (8, .ref 32 1 0), (9, .bool ((iDistinctRows ((iDistinctRows (DrawDistinctRows code)).1)).2))], [(12, .box 1 [.int .i64 (Tab.Width (DrawDistinctRows code)), .data (.slice (.slice (.named 1))) ((Tab.Rows (DrawDistinctRows code)) : List (List Val))]), (16, .box 1 [.int .i64 (Tab.Width ((iDistinctRows (DrawDistinctRows code)).1)), .data (.slice (.slice (.named 1))) ((Tab.Rows ((iDistinctRows (DrawDistinctRows code)).1)) : List (List Val))]), (32, .box 1 [.int .i64 (Tab.Width ((iDistinctRows ((iDistinctRows (DrawDistinctRows code)).1)).1)), .data (.slice (.slice (.named 1))) ((Tab.Rows ((iDistinctRows ((iDistinctRows (DrawDistinctRows code)).1)).1)) : List (List Val))])]⟩ [(True)] ?_ ?_))
   ·
    refine ⟨?_, trivial⟩
    ·
     trivial
   refine AW.seq (AW.seq (AW.r1 hC [3, 4, 8, 9, 10] [12, 16, 32] ⟨[(3, .ref 12 1 0), (4, .ref 16 1 0), (8, .ref 32 1 0), (9, .bool ((iDistinctRows ((iDistinctRows (DrawDistinctRows code)).1)).2)), (10, .int .i64 0)], [(12, .box 1 [.int .i64 (Tab.Width (DrawDistinctRows code)), .data (.slice (.slice (.named 1))) ((Tab.Rows (DrawDistinctRows code)) : List (List Val))]), (16, .box 1 [.int .i64 (Tab.Width ((iDistinctRows (DrawDistinctRows code)).1)), .data (.slice (.slice (.named 1))) ((Tab.Rows ((iDistinctRows (DrawDistinctRows code)).1)) : List (List Val))]), (32, .box 1 [.int .i64 (Tab.Width ((iDistinctRows ((iDistinctRows (DrawDistinctRows code)).1)).1)), .data (.slice (.slice (.named 1))) ((Tab.Rows ((iDistinctRows ((iDistinctRows (DrawDistinctRows code)).1)).1)) : List (List Val))])]⟩ ?_))
   refine AW.cutQ (α := Unit) (fun x => ⟨[(3, .ref 12 1 0), (4, .ref 16 1 0), (8, .ref 32 1 0), (9, .bool ((iDistinctRows ((iDistinctRows (DrawDistinctRows code)).1)).2))], [(12, .box 1 [.int .i64 (Tab.Width (DrawDistinctRows code)), .data (.slice (.slice (.named 1))) ((Tab.Rows (DrawDistinctRows code)) : List (List Val))]), (16, .box 1 [.int .i64 (Tab.Width ((iDistinctRows (DrawDistinctRows code)).1)), .data (.slice (.slice (.named 1))) ((Tab.Rows ((iDistinctRows (DrawDistinctRows code)).1)) : List (List Val))]), (32, .box 1 [.int .i64 (Tab.Width ((iDistinctRows ((iDistinctRows (DrawDistinctRows code)).1)).1)), .data (.slice (.slice (.named 1))) ((Tab.Rows ((iDistinctRows ((iDistinctRows (DrawDistinctRows code)).1)).1)) : List (List Val))])]⟩) (fun x => (True) ∧ (FnDistinctRows_l0 code ((List.length (Tab.Rows (DrawDistinctRows code))) - 0 + 1) 0) = (.inl ())) ?_ ?_
   ·
    skip
    refine AW.block (AW.loop (α := Nat) (fun x => ⟨[(3, .ref 12 1 0), (4, .ref 16 1 0), (8, .ref 32 1 0), (9, .bool ((iDistinctRows ((iDistinctRows (DrawDistinctRows code)).1)).2)), (10, .int .i64 ((x : Nat) : Int))], [(12, .box 1 [.int .i64 (Tab.Width (DrawDistinctRows code)), .data (.slice (.slice (.named 1))) ((Tab.Rows (DrawDistinctRows code)) : List (List Val))]), (16, .box 1 [.int .i64 (Tab.Width ((iDistinctRows (DrawDistinctRows code)).1)), .data (.slice (.slice (.named 1))) ((Tab.Rows ((iDistinctRows (DrawDistinctRows code)).1)) : List (List Val))]), (32, .box 1 [.int .i64 (Tab.Width ((iDistinctRows ((iDistinctRows (DrawDistinctRows code)).1)).1)), .data (.slice (.slice (.named 1))) ((Tab.Rows ((iDistinctRows ((iDistinctRows (DrawDistinctRows code)).1)).1)) : List (List Val))])]⟩) (fun x => (True) ∧ ∃ k, (List.length (Tab.Rows (DrawDistinctRows code))) - x < k ∧ (FnDistinctRows_l0 code ((List.length (Tab.Rows (DrawDistinctRows code))) - 0 + 1) 0) = FnDistinctRows_l0 code k x) (fun x => (List.length (Tab.Rows (DrawDistinctRows code))) - x) 0 (by kernel_rfl) ⟨?_, _, Nat.lt_succ_self _, rfl⟩ ?_)
    ·
     show True
     exact trivial
    ·
     intro i hR
     obtain ⟨hI0, k49, hk47, e48⟩ := hR
     replace hI0 : True := hI0
     replace hk47 : (List.length (Tab.Rows (DrawDistinctRows code))) - i < k49 := hk47
     obtain ⟨k49q, rfl⟩ : ∃ k, k49 = k + 1 := ⟨k49 - 1, by omega⟩
     refine AW.seq (AW.seq (AW.r1 hC [3, 4, 8, 9, 10, 56] [12, 16, 32] ⟨[(3, .ref 12 1 0), (4, .ref 16 1 0), (8, .ref 32 1 0), (9, .bool ((iDistinctRows ((iDistinctRows (DrawDistinctRows code)).1)).2)), (10, .int .i64 ((i : Nat) : Int)), (56, .bool (decide (((i : Nat) : Int) < ((List.length (Tab.Rows (DrawDistinctRows code)) : Nat) : Int))))], [(12, .box 1 [.int .i64 (Tab.Width (DrawDistinctRows code)), .data (.slice (.slice (.named 1))) ((Tab.Rows (DrawDistinctRows code)) : List (List Val))]), (16, .box 1 [.int .i64 (Tab.Width ((iDistinctRows (DrawDistinctRows code)).1)), .data (.slice (.slice (.named 1))) ((Tab.Rows ((iDistinctRows (DrawDistinctRows code)).1)) : List (List Val))]), (32, .box 1 [.int .i64 (Tab.Width ((iDistinctRows ((iDistinctRows (DrawDistinctRows code)).1)).1)), .data (.slice (.slice (.named 1))) ((Tab.Rows ((iDistinctRows ((iDistinctRows (DrawDistinctRows code)).1)).1)) : List (List Val))])]⟩ ?_))
     refine AW.cd (decide (((i : Nat) : Int) < ((List.length (Tab.Rows (DrawDistinctRows code)) : Nat) : Int))) ?_ ?_
     ·
      intro h50
      have h50q : ((i : Nat) : Int) < ((List.length (Tab.Rows (DrawDistinctRows code)) : Nat) : Int) := (of_decide_eq_true h50)
      have e51 := e48.trans (Go.Am.bif_t h50)
      refine AW.kp [3, 4, 8, 9, 10] [12, 16, 32] ⟨[(3, .ref 12 1 0), (4, .ref 16 1 0), (8, .ref 32 1 0), (9, .bool ((iDistinctRows ((iDistinctRows (DrawDistinctRows code)).1)).2)), (10, .int .i64 ((i : Nat) : Int))], [(12, .box 1 [.int .i64 (Tab.Width (DrawDistinctRows code)), .data (.slice (.slice (.named 1))) ((Tab.Rows (DrawDistinctRows code)) : List (List Val))]), (16, .box 1 [.int .i64 (Tab.Width ((iDistinctRows (DrawDistinctRows code)).1)), .data (.slice (.slice (.named 1))) ((Tab.Rows ((iDistinctRows (DrawDistinctRows code)).1)) : List (List Val))]), (32, .box 1 [.int .i64 (Tab.Width ((iDistinctRows ((iDistinctRows (DrawDistinctRows code)).1)).1)), .data (.slice (.slice (.named 1))) ((Tab.Rows ((iDistinctRows ((iDistinctRows (DrawDistinctRows code)).1)).1)) : List (List Val))])]⟩ ?_
      refine AW.skip (AW.seq (AW.block (AW.seq (AW.d0 hC hM [3, 4, 8, 9, 10, 66] [12, 16, 32] ⟨[(3, .ref 12 1 0), (4, .ref 16 1 0), (8, .ref 32 1 0), (9, .bool ((iDistinctRows ((iDistinctRows (DrawDistinctRows code)).1)).2)), (10, .int .i64 ((i : Nat) : Int)), (66, .bool ((iCountRow ((iDistinctRows (DrawDistinctRows code)).1) (List.getD (Tab.Rows (DrawDistinctRows code)) i [])) != 1))], [(12, .box 1 [.int .i64 (Tab.Width (DrawDistinctRows code)), .data (.slice (.slice (.named 1))) ((Tab.Rows (DrawDistinctRows code)) : List (List Val))]), (16, .box 1 [.int .i64 (Tab.Width ((iDistinctRows (DrawDistinctRows code)).1)), .data (.slice (.slice (.named 1))) ((Tab.Rows ((iDistinctRows (DrawDistinctRows code)).1)) : List (List Val))]), (32, .box 1 [.int .i64 (Tab.Width ((iDistinctRows ((iDistinctRows (DrawDistinctRows code)).1)).1)), .data (.slice (.slice (.named 1))) ((Tab.Rows ((iDistinctRows ((iDistinctRows (DrawDistinctRows code)).1)).1)) : List (List Val))])]⟩ [(0 ≤ ((i : Nat) : Int) ∧ ((i : Nat) : Int) < ((List.length (Tab.Rows (DrawDistinctRows code)) : Nat) : Int)), (True)] ?_ ?_))))
      ·
       refine ⟨?_, ?_, trivial⟩
       ·
        omega
       ·
        trivial
      refine AW.cd ((iCountRow ((iDistinctRows (DrawDistinctRows code)).1) (List.getD (Tab.Rows (DrawDistinctRows code)) i [])) != 1) ?_ ?_
      ·
       intro h52
       have h52q : (iCountRow ((iDistinctRows (DrawDistinctRows code)).1) (List.getD (Tab.Rows (DrawDistinctRows code)) i [])) ≠ 1 := (Go.Am.bne_pos h52)
       have e53 := e51.trans (Go.Am.bif_t h52)
       refine AW.seq (AW.r1 hC [2] [] ⟨[(2, .bool false)], []⟩ ?_)
       refine AW.ret ?_
       have e54 := e19.trans (Go.Am.elim_r e53)
       exact AW.retE (β := Bool) (fun v => [⟨.bool, v⟩]) (fun v => []) (v := false) e54 (by kernel_rfl) rfl rfl
      ·
       intro h55
       have h55q : (iCountRow ((iDistinctRows (DrawDistinctRows code)).1) (List.getD (Tab.Rows (DrawDistinctRows code)) i [])) = 1 := (Go.Am.bne_neg h55)
       have e56 := e51.trans (Go.Am.bif_f h55)
       refine AW.kp [3, 4, 8, 9, 10] [12, 16, 32] ⟨[(3, .ref 12 1 0), (4, .ref 16 1 0), (8, .ref 32 1 0), (9, .bool ((iDistinctRows ((iDistinctRows (DrawDistinctRows code)).1)).2)), (10, .int .i64 ((i : Nat) : Int))], [(12, .box 1 [.int .i64 (Tab.Width (DrawDistinctRows code)), .data (.slice (.slice (.named 1))) ((Tab.Rows (DrawDistinctRows code)) : List (List Val))]), (16, .box 1 [.int .i64 (Tab.Width ((iDistinctRows (DrawDistinctRows code)).1)), .data (.slice (.slice (.named 1))) ((Tab.Rows ((iDistinctRows (DrawDistinctRows code)).1)) : List (List Val))]), (32, .box 1 [.int .i64 (Tab.Width ((iDistinctRows ((iDistinctRows (DrawDistinctRows code)).1)).1)), .data (.slice (.slice (.named 1))) ((Tab.Rows ((iDistinctRows ((iDistinctRows (DrawDistinctRows code)).1)).1)) : List (List Val))])]⟩ ?_
       refine AW.skip (AW.r0 hC [3, 4, 8, 9, 10] [12, 16, 32] ⟨[(3, .ref 12 1 0), (4, .ref 16 1 0), (8, .ref 32 1 0), (9, .bool ((iDistinctRows ((iDistinctRows (DrawDistinctRows code)).1)).2)), (10, .int .i64 ((i + 1 : Nat) : Int))], [(12, .box 1 [.int .i64 (Tab.Width (DrawDistinctRows code)), .data (.slice (.slice (.named 1))) ((Tab.Rows (DrawDistinctRows code)) : List (List Val))]), (16, .box 1 [.int .i64 (Tab.Width ((iDistinctRows (DrawDistinctRows code)).1)), .data (.slice (.slice (.named 1))) ((Tab.Rows ((iDistinctRows (DrawDistinctRows code)).1)) : List (List Val))]), (32, .box 1 [.int .i64 (Tab.Width ((iDistinctRows ((iDistinctRows (DrawDistinctRows code)).1)).1)), .data (.slice (.slice (.named 1))) ((Tab.Rows ((iDistinctRows ((iDistinctRows (DrawDistinctRows code)).1)).1)) : List (List Val))])]⟩ [(-9223372036854775808 ≤ ((i + 1 : Nat) : Int) ∧ ((i + 1 : Nat) : Int) ≤ 9223372036854775807)] ?_ ?_)
       ·
        refine ⟨?_, trivial⟩
        ·
         omega
       refine AW.back (x := i) (i + 1) (by kernel_rfl) ⟨?_, k49q, ?_, e56⟩ ?_
       ·
        show True
        assumption
       ·
        show (List.length (Tab.Rows (DrawDistinctRows code))) - (i + 1) < k49q
        omega
       ·
        show (List.length (Tab.Rows (DrawDistinctRows code))) - (i + 1) < (List.length (Tab.Rows (DrawDistinctRows code))) - i
        omega
     ·
      intro h57
      have h57q : ¬ (((i : Nat) : Int) < ((List.length (Tab.Rows (DrawDistinctRows code)) : Nat) : Int)) := (of_decide_eq_false h57)
      have e58 := e48.trans (Go.Am.bif_f h57)
      refine AW.kp [3, 4, 8, 9] [12, 16, 32] ⟨[(3, .ref 12 1 0), (4, .ref 16 1 0), (8, .ref 32 1 0), (9, .bool ((iDistinctRows ((iDistinctRows (DrawDistinctRows code)).1)).2))], [(12, .box 1 [.int .i64 (Tab.Width (DrawDistinctRows code)), .data (.slice (.slice (.named 1))) ((Tab.Rows (DrawDistinctRows code)) : List (List Val))]), (16, .box 1 [.int .i64 (Tab.Width ((iDistinctRows (DrawDistinctRows code)).1)), .data (.slice (.slice (.named 1))) ((Tab.Rows ((iDistinctRows (DrawDistinctRows code)).1)) : List (List Val))]), (32, .box 1 [.int .i64 (Tab.Width ((iDistinctRows ((iDistinctRows (DrawDistinctRows code)).1)).1)), .data (.slice (.slice (.named 1))) ((Tab.Rows ((iDistinctRows ((iDistinctRows (DrawDistinctRows code)).1)).1)) : List (List Val))])]⟩ ?_
      refine AW.exit ?_
      refine AW.meet () (by kernel_rfl) ⟨?_, e58⟩
      show True
      assumption
   ·
    intro x hR
    obtain ⟨hJ0, e59⟩ := hR
    replace hJ0 : True := hJ0
    have e60 := e19.trans (Go.Am.elim_l e59)
    refine AW.seq (AW.r0 hC [2] [] ⟨[(2, .bool (bif (bif (bif ((iDistinctRows ((iDistinctRows (DrawDistinctRows code)).1)).2) then (equalTables ((iDistinctRows ((iDistinctRows (DrawDistinctRows code)).1)).1) ((iDistinctRows (DrawDistinctRows code)).1)) else false) then (ValidTable ((iDistinctRows (DrawDistinctRows code)).1)) else false) then (decide (((List.length (Tab.Rows ((iDistinctRows (DrawDistinctRows code)).1)) : Nat) : Int) ≤ ((List.length (Tab.Rows (DrawDistinctRows code)) : Nat) : Int))) else false))], []⟩ [((((iDistinctRows ((iDistinctRows (DrawDistinctRows code)).1)).2) = true) → ((((iDistinctRows ((iDistinctRows (DrawDistinctRows code)).1)).2) = true))), ((((iDistinctRows ((iDistinctRows (DrawDistinctRows code)).1)).2) = true) → ((((iDistinctRows ((iDistinctRows (DrawDistinctRows code)).1)).2) = true))), ((((iDistinctRows ((iDistinctRows (DrawDistinctRows code)).1)).2) = true) → (True)), ((((iDistinctRows ((iDistinctRows (DrawDistinctRows code)).1)).2) = true) → ((((iDistinctRows ((iDistinctRows (DrawDistinctRows code)).1)).2) = true))), (((bif ((iDistinctRows ((iDistinctRows (DrawDistinctRows code)).1)).2) then (equalTables ((iDistinctRows ((iDistinctRows (DrawDistinctRows code)).1)).1) ((iDistinctRows (DrawDistinctRows code)).1)) else false) = true) → (((bif ((iDistinctRows ((iDistinctRows (DrawDistinctRows code)).1)).2) then (equalTables ((iDistinctRows ((iDistinctRows (DrawDistinctRows code)).1)).1) ((iDistinctRows (DrawDistinctRows code)).1)) else false) = true))), (((bif ((iDistinctRows ((iDistinctRows (DrawDistinctRows code)).1)).2) then (equalTables ((iDistinctRows ((iDistinctRows (DrawDistinctRows code)).1)).1) ((iDistinctRows (DrawDistinctRows code)).1)) else false) = true) → (True)), (((bif ((iDistinctRows ((iDistinctRows (DrawDistinctRows code)).1)).2) then (equalTables ((iDistinctRows ((iDistinctRows (DrawDistinctRows code)).1)).1) ((iDistinctRows (DrawDistinctRows code)).1)) else false) = true) → (((bif ((iDistinctRows ((iDistinctRows (DrawDistinctRows code)).1)).2) then (equalTables ((iDistinctRows ((iDistinctRows (DrawDistinctRows code)).1)).1) ((iDistinctRows (DrawDistinctRows code)).1)) else false) = true))), (((bif (bif ((iDistinctRows ((iDistinctRows (DrawDistinctRows code)).1)).2) then (equalTables ((iDistinctRows ((iDistinctRows (DrawDistinctRows code)).1)).1) ((iDistinctRows (DrawDistinctRows code)).1)) else false) then (ValidTable ((iDistinctRows (DrawDistinctRows code)).1)) else false) = true) → (((bif (bif ((iDistinctRows ((iDistinctRows (DrawDistinctRows code)).1)).2) then (equalTables ((iDistinctRows ((iDistinctRows (DrawDistinctRows code)).1)).1) ((iDistinctRows (DrawDistinctRows code)).1)) else false) then (ValidTable ((iDistinctRows (DrawDistinctRows code)).1)) else false) = true))), (((bif (bif ((iDistinctRows ((iDistinctRows (DrawDistinctRows code)).1)).2) then (equalTables ((iDistinctRows ((iDistinctRows (DrawDistinctRows code)).1)).1) ((iDistinctRows (DrawDistinctRows code)).1)) else false) then (ValidTable ((iDistinctRows (DrawDistinctRows code)).1)) else false) = true) → (((bif (bif ((iDistinctRows ((iDistinctRows (DrawDistinctRows code)).1)).2) then (equalTables ((iDistinctRows ((iDistinctRows (DrawDistinctRows code)).1)).1) ((iDistinctRows (DrawDistinctRows code)).1)) else false) then (ValidTable ((iDistinctRows (DrawDistinctRows code)).1)) else false) = true))), (((bif (bif ((iDistinctRows ((iDistinctRows (DrawDistinctRows code)).1)).2) then (equalTables ((iDistinctRows ((iDistinctRows (DrawDistinctRows code)).1)).1) ((iDistinctRows (DrawDistinctRows code)).1)) else false) then (ValidTable ((iDistinctRows (DrawDistinctRows code)).1)) else false) = true) → (((bif (bif ((iDistinctRows ((iDistinctRows (DrawDistinctRows code)).1)).2) then (equalTables ((iDistinctRows ((iDistinctRows (DrawDistinctRows code)).1)).1) ((iDistinctRows (DrawDistinctRows code)).1)) else false) then (ValidTable ((iDistinctRows (DrawDistinctRows code)).1)) else false) = true))), (((bif (bif ((iDistinctRows ((iDistinctRows (DrawDistinctRows code)).1)).2) then (equalTables ((iDistinctRows ((iDistinctRows (DrawDistinctRows code)).1)).1) ((iDistinctRows (DrawDistinctRows code)).1)) else false) then (ValidTable ((iDistinctRows (DrawDistinctRows code)).1)) else false) = true) → (((bif (bif ((iDistinctRows ((iDistinctRows (DrawDistinctRows code)).1)).2) then (equalTables ((iDistinctRows ((iDistinctRows (DrawDistinctRows code)).1)).1) ((iDistinctRows (DrawDistinctRows code)).1)) else false) then (ValidTable ((iDistinctRows (DrawDistinctRows code)).1)) else false) = true))), (((bif (bif ((iDistinctRows ((iDistinctRows (DrawDistinctRows code)).1)).2) then (equalTables ((iDistinctRows ((iDistinctRows (DrawDistinctRows code)).1)).1) ((iDistinctRows (DrawDistinctRows code)).1)) else false) then (ValidTable ((iDistinctRows (DrawDistinctRows code)).1)) else false) = true) → (((bif (bif ((iDistinctRows ((iDistinctRows (DrawDistinctRows code)).1)).2) then (equalTables ((iDistinctRows ((iDistinctRows (DrawDistinctRows code)).1)).1) ((iDistinctRows (DrawDistinctRows code)).1)) else false) then (ValidTable ((iDistinctRows (DrawDistinctRows code)).1)) else false) = true))), (((bif (bif ((iDistinctRows ((iDistinctRows (DrawDistinctRows code)).1)).2) then (equalTables ((iDistinctRows ((iDistinctRows (DrawDistinctRows code)).1)).1) ((iDistinctRows (DrawDistinctRows code)).1)) else false) then (ValidTable ((iDistinctRows (DrawDistinctRows code)).1)) else false) = true) → (((bif (bif ((iDistinctRows ((iDistinctRows (DrawDistinctRows code)).1)).2) then (equalTables ((iDistinctRows ((iDistinctRows (DrawDistinctRows code)).1)).1) ((iDistinctRows (DrawDistinctRows code)).1)) else false) then (ValidTable ((iDistinctRows (DrawDistinctRows code)).1)) else false) = true))), (((bif (bif ((iDistinctRows ((iDistinctRows (DrawDistinctRows code)).1)).2) then (equalTables ((iDistinctRows ((iDistinctRows (DrawDistinctRows code)).1)).1) ((iDistinctRows (DrawDistinctRows code)).1)) else false) then (ValidTable ((iDistinctRows (DrawDistinctRows code)).1)) else false) = true) → (((bif (bif ((iDistinctRows ((iDistinctRows (DrawDistinctRows code)).1)).2) then (equalTables ((iDistinctRows ((iDistinctRows (DrawDistinctRows code)).1)).1) ((iDistinctRows (DrawDistinctRows code)).1)) else false) then (ValidTable ((iDistinctRows (DrawDistinctRows code)).1)) else false) = true)))] ?_ ?_)
    ·
     refine ⟨?_, ?_, ?_, ?_, ?_, ?_, ?_, ?_, ?_, ?_, ?_, ?_, ?_, ?_, trivial⟩
     ·
      intro g61
      have g61p0 : ((iDistinctRows ((iDistinctRows (DrawDistinctRows code)).1)).2) = true := g61
      assumption
     ·
      intro g62
      have g62p0 : ((iDistinctRows ((iDistinctRows (DrawDistinctRows code)).1)).2) = true := g62
      assumption
     ·
      intro g63
      have g63p0 : ((iDistinctRows ((iDistinctRows (DrawDistinctRows code)).1)).2) = true := g63
      trivial
     ·
      intro g64
      have g64p0 : ((iDistinctRows ((iDistinctRows (DrawDistinctRows code)).1)).2) = true := g64
      assumption
     ·
      intro g65
      have g65p0 : (((iDistinctRows ((iDistinctRows (DrawDistinctRows code)).1)).2) = true) ∧ ((equalTables ((iDistinctRows ((iDistinctRows (DrawDistinctRows code)).1)).1) ((iDistinctRows (DrawDistinctRows code)).1)) = true) := (And.imp (fun h => h) (fun h => h) (Go.Am.and_pos g65))
      assumption
     ·
      intro g66
      have g66p0 : (((iDistinctRows ((iDistinctRows (DrawDistinctRows code)).1)).2) = true) ∧ ((equalTables ((iDistinctRows ((iDistinctRows (DrawDistinctRows code)).1)).1) ((iDistinctRows (DrawDistinctRows code)).1)) = true) := (And.imp (fun h => h) (fun h => h) (Go.Am.and_pos g66))
      trivial
     ·
      intro g67
      have g67p0 : (((iDistinctRows ((iDistinctRows (DrawDistinctRows code)).1)).2) = true) ∧ ((equalTables ((iDistinctRows ((iDistinctRows (DrawDistinctRows code)).1)).1) ((iDistinctRows (DrawDistinctRows code)).1)) = true) := (And.imp (fun h => h) (fun h => h) (Go.Am.and_pos g67))
      assumption
     ·
      intro g68
      have g68p0 : ((((iDistinctRows ((iDistinctRows (DrawDistinctRows code)).1)).2) = true) ∧ ((equalTables ((iDistinctRows ((iDistinctRows (DrawDistinctRows code)).1)).1) ((iDistinctRows (DrawDistinctRows code)).1)) = true)) ∧ ((ValidTable ((iDistinctRows (DrawDistinctRows code)).1)) = true) := (And.imp (fun h => (And.imp (fun h => h) (fun h => h) (Go.Am.and_pos h))) (fun h => h) (Go.Am.and_pos g68))
      assumption
     ·
      intro g69
      have g69p0 : ((((iDistinctRows ((iDistinctRows (DrawDistinctRows code)).1)).2) = true) ∧ ((equalTables ((iDistinctRows ((iDistinctRows (DrawDistinctRows code)).1)).1) ((iDistinctRows (DrawDistinctRows code)).1)) = true)) ∧ ((ValidTable ((iDistinctRows (DrawDistinctRows code)).1)) = true) := (And.imp (fun h => (And.imp (fun h => h) (fun h => h) (Go.Am.and_pos h))) (fun h => h) (Go.Am.and_pos g69))
      assumption
     ·
      intro g70
      have g70p0 : ((((iDistinctRows ((iDistinctRows (DrawDistinctRows code)).1)).2) = true) ∧ ((equalTables ((iDistinctRows ((iDistinctRows (DrawDistinctRows code)).1)).1) ((iDistinctRows (DrawDistinctRows code)).1)) = true)) ∧ ((ValidTable ((iDistinctRows (DrawDistinctRows code)).1)) = true) := (And.imp (fun h => (And.imp (fun h => h) (fun h => h) (Go.Am.and_pos h))) (fun h => h) (Go.Am.and_pos g70))
      assumption
     ·
      intro g71
      have g71p0 : ((((iDistinctRows ((iDistinctRows (DrawDistinctRows code)).1)).2) = true) ∧ ((equalTables ((iDistinctRows ((iDistinctRows (DrawDistinctRows code)).1)).1) ((iDistinctRows (DrawDistinctRows code)).1)) = true)) ∧ ((ValidTable ((iDistinctRows (DrawDistinctRows code)).1)) = true) := (And.imp (fun h => (And.imp (fun h => h) (fun h => h) (Go.Am.and_pos h))) (fun h => h) (Go.Am.and_pos g71))
      assumption
     ·
      intro g72
      have g72p0 : ((((iDistinctRows ((iDistinctRows (DrawDistinctRows code)).1)).2) = true) ∧ ((equalTables ((iDistinctRows ((iDistinctRows (DrawDistinctRows code)).1)).1) ((iDistinctRows (DrawDistinctRows code)).1)) = true)) ∧ ((ValidTable ((iDistinctRows (DrawDistinctRows code)).1)) = true) := (And.imp (fun h => (And.imp (fun h => h) (fun h => h) (Go.Am.and_pos h))) (fun h => h) (Go.Am.and_pos g72))
      assumption
     ·
      intro g73
      have g73p0 : ((((iDistinctRows ((iDistinctRows (DrawDistinctRows code)).1)).2) = true) ∧ ((equalTables ((iDistinctRows ((iDistinctRows (DrawDistinctRows code)).1)).1) ((iDistinctRows (DrawDistinctRows code)).1)) = true)) ∧ ((ValidTable ((iDistinctRows (DrawDistinctRows code)).1)) = true) := (And.imp (fun h => (And.imp (fun h => h) (fun h => h) (Go.Am.and_pos h))) (fun h => h) (Go.Am.and_pos g73))
      assumption
     ·
      intro g74
      have g74p0 : ((((iDistinctRows ((iDistinctRows (DrawDistinctRows code)).1)).2) = true) ∧ ((equalTables ((iDistinctRows ((iDistinctRows (DrawDistinctRows code)).1)).1) ((iDistinctRows (DrawDistinctRows code)).1)) = true)) ∧ ((ValidTable ((iDistinctRows (DrawDistinctRows code)).1)) = true) := (And.imp (fun h => (And.imp (fun h => h) (fun h => h) (Go.Am.and_pos h))) (fun h => h) (Go.Am.and_pos g74))
      assumption
    exact AW.ret (AW.retE (β := Bool) (fun v => [⟨.bool, v⟩]) (fun v => []) (v := (bif (bif (bif ((iDistinctRows ((iDistinctRows (DrawDistinctRows code)).1)).2) then (equalTables ((iDistinctRows ((iDistinctRows (DrawDistinctRows code)).1)).1) ((iDistinctRows (DrawDistinctRows code)).1)) else false) then (ValidTable ((iDistinctRows (DrawDistinctRows code)).1)) else false) then (decide (((List.length (Tab.Rows ((iDistinctRows (DrawDistinctRows code)).1)) : Nat) : Int) ≤ ((List.length (Tab.Rows (DrawDistinctRows code)) : Nat) : Int))) else false)) e60 (by kernel_rfl) rfl rfl)

def FnCountRow_l0 (code : List Int) : Nat → Int → Bool → Nat → Int × Bool
 | 0, total1, is, i => (total1, is)
 | k + 1, total1, is, i => (bif (decide (((i : Nat) : Int) < ((List.length (Tab.Rows ((iDistinctRows ((DrawCountRow code).1)).1)) : Nat) : Int))) then (FnCountRow_l0 code k (total1 + (iCountRow ((DrawCountRow code).1) (List.getD (Tab.Rows ((iDistinctRows ((DrawCountRow code).1)).1)) i []))) (bif is then true else (equalRows (List.getD (Tab.Rows ((iDistinctRows ((DrawCountRow code).1)).1)) i []) ((DrawCountRow code).2))) (i + 1)) else (total1, is))

def FnCountRow (code : List Int) : Bool := (bif (decide (1048576 < ((List.length code : Nat) : Int))) then true else (bif (bif ((iCountRow ((DrawCountRow code).1) ((DrawCountRow code).2)) != (sCountRow ((DrawCountRow code).1) ((DrawCountRow code).2))) then true else (decide ((iCountRow ((DrawCountRow code).1) ((DrawCountRow code).2)) < 0))) then ((iCountRow ((DrawCountRow code).1) ((DrawCountRow code).2)) == (sCountRow ((DrawCountRow code).1) ((DrawCountRow code).2))) else (Go.Am.andThen (FnCountRow_l0 code ((List.length (Tab.Rows ((iDistinctRows ((DrawCountRow code).1)).1))) - 0 + 1) 0 false 0) (fun z => (fun (total1 : Int) (is : Bool) => (bif (bif ((iDistinctRows ((DrawCountRow code).1)).2) then (total1 == ((List.length (Tab.Rows ((DrawCountRow code).1)) : Nat) : Int)) else false) then (is == (decide (0 < (iCountRow ((DrawCountRow code).1) ((DrawCountRow code).2))))) else false)) z.1 z.2))))

def FnCountRow_sp : FnSpec := mkSpec [.val (.slice (.int .u8))] [.val .bool] (fun (code : List Int) => True) (fun (code : List Int) => [⟨.bool, (FnCountRow code)⟩])

theorem FnCountRow_ok : FnOK Try.prog 5 FnCountRow_sp := by
 have hC : CtxOK Try.prog (mkCtx tyL [(27, DrawCountRow_sp), (28, iCountRow_sp), (29, sCountRow_sp), (30, iDistinctRows_sp), (31, equalRows_sp)]) := CtxOK.cons DrawCountRow_ok (CtxOK.cons iCountRow_ok (CtxOK.cons sCountRow_ok (CtxOK.cons iDistinctRows_ok (CtxOK.cons equalRows_ok (CtxOK.nil tyOK)))))
 have hM : Try.prog.follows .mixedOrders = true := Try.checked.mixed
 refine FnOK.of_body Try.func5 (by kernel_rfl) rfl (C := (mkCtx tyL [(27, DrawCountRow_sp), (28, iCountRow_sp), (29, sCountRow_sp), (30, iDistinctRows_sp), (31, equalRows_sp)])) hC.ty (by kernel_rfl) ?_
 intro (code : List Int) hwf hpre E
 have hpre : True := hpre
 have hw_code : Wf ⟨(.slice (.int .u8)), (code : List Int)⟩ := hwf _ (List.Mem.head _)
 have hl_code : ((List.length code : Nat) : Int) ≤ 9223372036854775807 := hw_code.len
 have hdl := iDistinctRows_len (DrawCountRow code).1
 have hcr := fun i => iCountRow_rng (DrawCountRow code).1 (List.getD (Tab.Rows (iDistinctRows (DrawCountRow code).1).1) i [])
 have e0 : FnCountRow code = FnCountRow code := rfl
 refine AW.seq (AW.r1 hC [0] [] ⟨[(0, .data (.slice (.int .u8)) (code : List Int))], []⟩ ?_)
 refine AW.seq (AW.seq (AW.r1 hC [0, 13] [] ⟨[(0, .data (.slice (.int .u8)) (code : List Int)), (13, .bool (decide (1048576 < ((List.length code : Nat) : Int))))], []⟩ ?_))
 refine AW.cd (decide (1048576 < ((List.length code : Nat) : Int))) ?_ ?_
 ·
  intro h1
  have h1q : 1048576 < ((List.length code : Nat) : Int) := (of_decide_eq_true h1)
  have e2 := e0.trans (Go.Am.bif_t h1)
  refine AW.seq (AW.r1 hC [2] [] ⟨[(2, .bool true)], []⟩ ?_)
  exact AW.ret (AW.retE (β := Bool) (fun v => [⟨.bool, v⟩]) (fun v => []) (v := true) e2 (by kernel_rfl) rfl rfl)
 ·
  intro h3
  have h3q : ¬ (1048576 < ((List.length code : Nat) : Int)) := (of_decide_eq_false h3)
  have e4 := e0.trans (Go.Am.bif_f h3)
  refine AW.kp [0] [] ⟨[(0, .data (.slice (.int .u8)) (code : List Int))], []⟩ ?_
  refine AW.skip (AW.seq (AW.r0 hC [3, 4] [12] ⟨[(3, .ref 12 1 0), (4, .data (.slice (.named 1)) (((DrawCountRow code).2) : List Val))], [(12, .box 1 [.int .i64 (Tab.Width ((DrawCountRow code).1)), .data (.slice (.slice (.named 1))) ((Tab.Rows ((DrawCountRow code).1)) : List (List Val))])]⟩ [(True)] ?_ ?_))
  ·
   refine ⟨?_, trivial⟩
   ·
    trivial
  refine AW.seq (AW.r0 hC [3, 4, 5] [12] ⟨[(3, .ref 12 1 0), (4, .data (.slice (.named 1)) (((DrawCountRow code).2) : List Val)), (5, .int .i64 (iCountRow ((DrawCountRow code).1) ((DrawCountRow code).2)))], [(12, .box 1 [.int .i64 (Tab.Width ((DrawCountRow code).1)), .data (.slice (.slice (.named 1))) ((Tab.Rows ((DrawCountRow code).1)) : List (List Val))])]⟩ [(True)] ?_ ?_)
  ·
   refine ⟨?_, trivial⟩
   ·
    trivial
  refine AW.seq (AW.seq (AW.r0 hC [3, 4, 5, 30] [12] ⟨[(3, .ref 12 1 0), (4, .data (.slice (.named 1)) (((DrawCountRow code).2) : List Val)), (5, .int .i64 (iCountRow ((DrawCountRow code).1) ((DrawCountRow code).2))), (30, .bool (bif ((iCountRow ((DrawCountRow code).1) ((DrawCountRow code).2)) != (sCountRow ((DrawCountRow code).1) ((DrawCountRow code).2))) then true else (decide ((iCountRow ((DrawCountRow code).1) ((DrawCountRow code).2)) < 0))))], [(12, .box 1 [.int .i64 (Tab.Width ((DrawCountRow code).1)), .data (.slice (.slice (.named 1))) ((Tab.Rows ((DrawCountRow code).1)) : List (List Val))])]⟩ [(True), ((((iCountRow ((DrawCountRow code).1) ((DrawCountRow code).2)) != (sCountRow ((DrawCountRow code).1) ((DrawCountRow code).2))) = false) → ((((iCountRow ((DrawCountRow code).1) ((DrawCountRow code).2)) != (sCountRow ((DrawCountRow code).1) ((DrawCountRow code).2))) = false))), ((((iCountRow ((DrawCountRow code).1) ((DrawCountRow code).2)) != (sCountRow ((DrawCountRow code).1) ((DrawCountRow code).2))) = false) → ((((iCountRow ((DrawCountRow code).1) ((DrawCountRow code).2)) != (sCountRow ((DrawCountRow code).1) ((DrawCountRow code).2))) = false)))] ?_ ?_))
  ·
   refine ⟨?_, ?_, ?_, trivial⟩
   ·
    trivial
   ·
    intro g5
    have g5p0 : (iCountRow ((DrawCountRow code).1) ((DrawCountRow code).2)) = (sCountRow ((DrawCountRow code).1) ((DrawCountRow code).2)) := (Go.Am.bne_neg g5)
    assumption
   ·
    intro g6
    have g6p0 : (iCountRow ((DrawCountRow code).1) ((DrawCountRow code).2)) = (sCountRow ((DrawCountRow code).1) ((DrawCountRow code).2)) := (Go.Am.bne_neg g6)
    assumption
  refine AW.cd (bif ((iCountRow ((DrawCountRow code).1) ((DrawCountRow code).2)) != (sCountRow ((DrawCountRow code).1) ((DrawCountRow code).2))) then true else (decide ((iCountRow ((DrawCountRow code).1) ((DrawCountRow code).2)) < 0))) ?_ ?_
  ·
   intro h7
   have h7q : ((iCountRow ((DrawCountRow code).1) ((DrawCountRow code).2)) ≠ (sCountRow ((DrawCountRow code).1) ((DrawCountRow code).2))) ∨ ((iCountRow ((DrawCountRow code).1) ((DrawCountRow code).2)) < 0) := (Or.imp (fun h => (Go.Am.bne_pos h)) (fun h => (of_decide_eq_true h)) (Go.Am.or_pos h7))
   have e8 := e4.trans (Go.Am.bif_t h7)
   refine AW.seq (AW.r0 hC [2] [] ⟨[(2, .bool ((iCountRow ((DrawCountRow code).1) ((DrawCountRow code).2)) == (sCountRow ((DrawCountRow code).1) ((DrawCountRow code).2))))], []⟩ [(True)] ?_ ?_)
   ·
    refine ⟨?_, trivial⟩
    ·
     trivial
   exact AW.ret (AW.retE (β := Bool) (fun v => [⟨.bool, v⟩]) (fun v => []) (v := ((iCountRow ((DrawCountRow code).1) ((DrawCountRow code).2)) == (sCountRow ((DrawCountRow code).1) ((DrawCountRow code).2)))) e8 (by kernel_rfl) rfl rfl)
  ·
   intro h9
   have h9q : ((iCountRow ((DrawCountRow code).1) ((DrawCountRow code).2)) = (sCountRow ((DrawCountRow code).1) ((DrawCountRow code).2))) ∧ (¬ ((iCountRow ((DrawCountRow code).1) ((DrawCountRow code).2)) < 0)) := (And.imp (fun h => (Go.Am.bne_neg h)) (fun h => (of_decide_eq_false h)) (Go.Am.or_neg h9))
   have e10 := e4.trans (Go.Am.bif_f h9)
   refine AW.kp [3, 4, 5] [12] ⟨[(3, .ref 12 1 0), (4, .data (.slice (.named 1)) (((DrawCountRow code).2) : List Val)), (5, .int .i64 (iCountRow ((DrawCountRow code).1) ((DrawCountRow code).2)))], [(12, .box 1 [.int .i64 (Tab.Width ((DrawCountRow code).1)), .data (.slice (.slice (.named 1))) ((Tab.Rows ((DrawCountRow code).1)) : List (List Val))])]⟩ ?_
   refine AW.skip (AW.seq (AW.r0 hC [3, 4, 5, 6, 7] [12, 24] ⟨[(3, .ref 12 1 0), (4, .data (.slice (.named 1)) (((DrawCountRow code).2) : List Val)), (5, .int .i64 (iCountRow ((DrawCountRow code).1) ((DrawCountRow code).2))), (6, .ref 24 1 0), (7, .bool ((iDistinctRows ((DrawCountRow code).1)).2))], [(12, .box 1 [.int .i64 (Tab.Width ((DrawCountRow code).1)), .data (.slice (.slice (.named 1))) ((Tab.Rows ((DrawCountRow code).1)) : List (List Val))]), (24, .box 1 [.int .i64 (Tab.Width ((iDistinctRows ((DrawCountRow code).1)).1)), .data (.slice (.slice (.named 1))) ((Tab.Rows ((iDistinctRows ((DrawCountRow code).1)).1)) : List (List Val))])]⟩ [(True)] ?_ ?_))
   ·
    refine ⟨?_, trivial⟩
    ·
     trivial
   refine AW.seq (AW.r1 hC [3, 4, 5, 6, 7, 8] [12, 24] ⟨[(3, .ref 12 1 0), (4, .data (.slice (.named 1)) (((DrawCountRow code).2) : List Val)), (5, .int .i64 (iCountRow ((DrawCountRow code).1) ((DrawCountRow code).2))), (6, .ref 24 1 0), (7, .bool ((iDistinctRows ((DrawCountRow code).1)).2)), (8, .int .i64 0)], [(12, .box 1 [.int .i64 (Tab.Width ((DrawCountRow code).1)), .data (.slice (.slice (.named 1))) ((Tab.Rows ((DrawCountRow code).1)) : List (List Val))]), (24, .box 1 [.int .i64 (Tab.Width ((iDistinctRows ((DrawCountRow code).1)).1)), .data (.slice (.slice (.named 1))) ((Tab.Rows ((iDistinctRows ((DrawCountRow code).1)).1)) : List (List Val))])]⟩ ?_)
   refine AW.seq (AW.r1 hC [3, 4, 5, 6, 7, 8, 9] [12, 24] ⟨[(3, .ref 12 1 0), (4, .data (.slice (.named 1)) (((DrawCountRow code).2) : List Val)), (5, .int .i64 (iCountRow ((DrawCountRow code).1) ((DrawCountRow code).2))), (6, .ref 24 1 0), (7, .bool ((iDistinctRows ((DrawCountRow code).1)).2)), (8, .int .i64 0), (9, .bool false)], [(12, .box 1 [.int .i64 (Tab.Width ((DrawCountRow code).1)), .data (.slice (.slice (.named 1))) ((Tab.Rows ((DrawCountRow code).1)) : List (List Val))]), (24, .box 1 [.int .i64 (Tab.Width ((iDistinctRows ((DrawCountRow code).1)).1)), .data (.slice (.slice (.named 1))) ((Tab.Rows ((iDistinctRows ((DrawCountRow code).1)).1)) : List (List Val))])]⟩ ?_)
   refine AW.seq (AW.seq (AW.r1 hC [3, 4, 5, 6, 7, 8, 9, 10] [12, 24] ⟨[(3, .ref 12 1 0), (4, .data (.slice (.named 1)) (((DrawCountRow code).2) : List Val)), (5, .int .i64 (iCountRow ((DrawCountRow code).1) ((DrawCountRow code).2))), (6, .ref 24 1 0), (7, .bool ((iDistinctRows ((DrawCountRow code).1)).2)), (8, .int .i64 0), (9, .bool false), (10, .int .i64 0)], [(12, .box 1 [.int .i64 (Tab.Width ((DrawCountRow code).1)), .data (.slice (.slice (.named 1))) ((Tab.Rows ((DrawCountRow code).1)) : List (List Val))]), (24, .box 1 [.int .i64 (Tab.Width ((iDistinctRows ((DrawCountRow code).1)).1)), .data (.slice (.slice (.named 1))) ((Tab.Rows ((iDistinctRows ((DrawCountRow code).1)).1)) : List (List Val))])]⟩ ?_))
   refine AW.cutQ (α := Int × Bool) (fun x => ⟨[(3, .ref 12 1 0), (5, .int .i64 (iCountRow ((DrawCountRow code).1) ((DrawCountRow code).2))), (7, .bool ((iDistinctRows ((DrawCountRow code).1)).2)), (8, .int .i64 x.1), (9, .bool x.2)], [(12, .box 1 [.int .i64 (Tab.Width ((DrawCountRow code).1)), .data (.slice (.slice (.named 1))) ((Tab.Rows ((DrawCountRow code).1)) : List (List Val))])]⟩) (fun x => (True) ∧ (FnCountRow_l0 code ((List.length (Tab.Rows ((iDistinctRows ((DrawCountRow code).1)).1))) - 0 + 1) 0 false 0) = x) ?_ ?_
   ·
    skip
    refine AW.block (AW.loop (α := Int × Bool × Nat) (fun x => ⟨[(3, .ref 12 1 0), (4, .data (.slice (.named 1)) (((DrawCountRow code).2) : List Val)), (5, .int .i64 (iCountRow ((DrawCountRow code).1) ((DrawCountRow code).2))), (6, .ref 24 1 0), (7, .bool ((iDistinctRows ((DrawCountRow code).1)).2)), (8, .int .i64 x.1), (9, .bool x.2.1), (10, .int .i64 ((x.2.2 : Nat) : Int))], [(12, .box 1 [.int .i64 (Tab.Width ((DrawCountRow code).1)), .data (.slice (.slice (.named 1))) ((Tab.Rows ((DrawCountRow code).1)) : List (List Val))]), (24, .box 1 [.int .i64 (Tab.Width ((iDistinctRows ((DrawCountRow code).1)).1)), .data (.slice (.slice (.named 1))) ((Tab.Rows ((iDistinctRows ((DrawCountRow code).1)).1)) : List (List Val))])]⟩) (fun x => ((-(x.2.2 : Int) ≤ x.1 ∧ x.1 ≤ 400 * (x.2.2 : Int)) ∧ x.2.2 ≤ 400) ∧ ∃ k, (List.length (Tab.Rows ((iDistinctRows ((DrawCountRow code).1)).1))) - x.2.2 < k ∧ (FnCountRow_l0 code ((List.length (Tab.Rows ((iDistinctRows ((DrawCountRow code).1)).1))) - 0 + 1) 0 false 0) = FnCountRow_l0 code k x.1 x.2.1 x.2.2) (fun x => (List.length (Tab.Rows ((iDistinctRows ((DrawCountRow code).1)).1))) - x.2.2) (0, false, 0) (by kernel_rfl) ⟨?_, _, Nat.lt_succ_self _, rfl⟩ ?_)
    ·
     show (-(0 : Int) ≤ 0 ∧ 0 ≤ 400 * (0 : Int)) ∧ 0 ≤ 400
     omega
    ·
     intro x hR
     obtain ⟨total1, is, i⟩ := x
     obtain ⟨hI0, k29, hk27, e28⟩ := hR
     replace hI0 : (-(i : Int) ≤ total1 ∧ total1 ≤ 400 * (i : Int)) ∧ i ≤ 400 := hI0
     replace hk27 : (List.length (Tab.Rows ((iDistinctRows ((DrawCountRow code).1)).1))) - i < k29 := hk27
     obtain ⟨k29q, rfl⟩ : ∃ k, k29 = k + 1 := ⟨k29 - 1, by omega⟩
     have hci := hcr i
     refine AW.seq (AW.seq (AW.r1 hC [3, 4, 5, 6, 7, 8, 9, 10, 45] [12, 24] ⟨[(3, .ref 12 1 0), (4, .data (.slice (.named 1)) (((DrawCountRow code).2) : List Val)), (5, .int .i64 (iCountRow ((DrawCountRow code).1) ((DrawCountRow code).2))), (6, .ref 24 1 0), (7, .bool ((iDistinctRows ((DrawCountRow code).1)).2)), (8, .int .i64 total1), (9, .bool is), (10, .int .i64 ((i : Nat) : Int)), (45, .bool (decide (((i : Nat) : Int) < ((List.length (Tab.Rows ((iDistinctRows ((DrawCountRow code).1)).1)) : Nat) : Int))))], [(12, .box 1 [.int .i64 (Tab.Width ((DrawCountRow code).1)), .data (.slice (.slice (.named 1))) ((Tab.Rows ((DrawCountRow code).1)) : List (List Val))]), (24, .box 1 [.int .i64 (Tab.Width ((iDistinctRows ((DrawCountRow code).1)).1)), .data (.slice (.slice (.named 1))) ((Tab.Rows ((iDistinctRows ((DrawCountRow code).1)).1)) : List (List Val))])]⟩ ?_))
     refine AW.cd (decide (((i : Nat) : Int) < ((List.length (Tab.Rows ((iDistinctRows ((DrawCountRow code).1)).1)) : Nat) : Int))) ?_ ?_
     ·
      intro h30
      have h30q : ((i : Nat) : Int) < ((List.length (Tab.Rows ((iDistinctRows ((DrawCountRow code).1)).1)) : Nat) : Int) := (of_decide_eq_true h30)
      have e31 := e28.trans (Go.Am.bif_t h30)
      refine AW.kp [3, 4, 5, 6, 7, 8, 9, 10] [12, 24] ⟨[(3, .ref 12 1 0), (4, .data (.slice (.named 1)) (((DrawCountRow code).2) : List Val)), (5, .int .i64 (iCountRow ((DrawCountRow code).1) ((DrawCountRow code).2))), (6, .ref 24 1 0), (7, .bool ((iDistinctRows ((DrawCountRow code).1)).2)), (8, .int .i64 total1), (9, .bool is), (10, .int .i64 ((i : Nat) : Int))], [(12, .box 1 [.int .i64 (Tab.Width ((DrawCountRow code).1)), .data (.slice (.slice (.named 1))) ((Tab.Rows ((DrawCountRow code).1)) : List (List Val))]), (24, .box 1 [.int .i64 (Tab.Width ((iDistinctRows ((DrawCountRow code).1)).1)), .data (.slice (.slice (.named 1))) ((Tab.Rows ((iDistinctRows ((DrawCountRow code).1)).1)) : List (List Val))])]⟩ ?_
      refine AW.skip (AW.seq (AW.block (AW.seq (AW.d0 hC hM [3, 4, 5, 6, 7, 8, 9, 10] [12, 24] ⟨[(3, .ref 12 1 0), (4, .data (.slice (.named 1)) (((DrawCountRow code).2) : List Val)), (5, .int .i64 (iCountRow ((DrawCountRow code).1) ((DrawCountRow code).2))), (6, .ref 24 1 0), (7, .bool ((iDistinctRows ((DrawCountRow code).1)).2)), (8, .int .i64 (total1 + (iCountRow ((DrawCountRow code).1) (List.getD (Tab.Rows ((iDistinctRows ((DrawCountRow code).1)).1)) i [])))), (9, .bool is), (10, .int .i64 ((i : Nat) : Int))], [(12, .box 1 [.int .i64 (Tab.Width ((DrawCountRow code).1)), .data (.slice (.slice (.named 1))) ((Tab.Rows ((DrawCountRow code).1)) : List (List Val))]), (24, .box 1 [.int .i64 (Tab.Width ((iDistinctRows ((DrawCountRow code).1)).1)), .data (.slice (.slice (.named 1))) ((Tab.Rows ((iDistinctRows ((DrawCountRow code).1)).1)) : List (List Val))])]⟩ [(0 ≤ ((i : Nat) : Int) ∧ ((i : Nat) : Int) < ((List.length (Tab.Rows ((iDistinctRows ((DrawCountRow code).1)).1)) : Nat) : Int)), (True), (-9223372036854775808 ≤ (total1 + (iCountRow ((DrawCountRow code).1) (List.getD (Tab.Rows ((iDistinctRows ((DrawCountRow code).1)).1)) i []))) ∧ (total1 + (iCountRow ((DrawCountRow code).1) (List.getD (Tab.Rows ((iDistinctRows ((DrawCountRow code).1)).1)) i []))) ≤ 9223372036854775807)] ?_ ?_))))
      ·
       refine ⟨?_, ?_, ?_, trivial⟩
       ·
        omega
       ·
        trivial
       ·
        omega
      refine AW.r0 hC [3, 4, 5, 6, 7, 8, 9, 10] [12, 24] ⟨[(3, .ref 12 1 0), (4, .data (.slice (.named 1)) (((DrawCountRow code).2) : List Val)), (5, .int .i64 (iCountRow ((DrawCountRow code).1) ((DrawCountRow code).2))), (6, .ref 24 1 0), (7, .bool ((iDistinctRows ((DrawCountRow code).1)).2)), (8, .int .i64 (total1 + (iCountRow ((DrawCountRow code).1) (List.getD (Tab.Rows ((iDistinctRows ((DrawCountRow code).1)).1)) i [])))), (9, .bool (bif is then true else (equalRows (List.getD (Tab.Rows ((iDistinctRows ((DrawCountRow code).1)).1)) i []) ((DrawCountRow code).2)))), (10, .int .i64 ((i : Nat) : Int))], [(12, .box 1 [.int .i64 (Tab.Width ((DrawCountRow code).1)), .data (.slice (.slice (.named 1))) ((Tab.Rows ((DrawCountRow code).1)) : List (List Val))]), (24, .box 1 [.int .i64 (Tab.Width ((iDistinctRows ((DrawCountRow code).1)).1)), .data (.slice (.slice (.named 1))) ((Tab.Rows ((iDistinctRows ((DrawCountRow code).1)).1)) : List (List Val))])]⟩ [((is = false) → ((is = false))), ((is = false) → ((is = false))), ((is = false) → ((is = false))), ((is = false) → (0 ≤ ((i : Nat) : Int) ∧ ((i : Nat) : Int) < ((List.length (Tab.Rows ((iDistinctRows ((DrawCountRow code).1)).1)) : Nat) : Int))), ((is = false) → ((is = false))), ((is = false) → ((is = false))), ((is = false) → ((is = false))), ((is = false) → (True)), ((is = false) → ((is = false)))] ?_ ?_
      ·
       refine ⟨?_, ?_, ?_, ?_, ?_, ?_, ?_, ?_, ?_, trivial⟩
       ·
        intro g32
        have g32p0 : is = false := g32
        assumption
       ·
        intro g33
        have g33p0 : is = false := g33
        assumption
       ·
        intro g34
        have g34p0 : is = false := g34
        assumption
       ·
        intro g35
        have g35p0 : is = false := g35
        omega
       ·
        intro g36
        have g36p0 : is = false := g36
        assumption
       ·
        intro g37
        have g37p0 : is = false := g37
        assumption
       ·
        intro g38
        have g38p0 : is = false := g38
        assumption
       ·
        intro g39
        have g39p0 : is = false := g39
        trivial
       ·
        intro g40
        have g40p0 : is = false := g40
        assumption
      refine AW.r0 hC [3, 4, 5, 6, 7, 8, 9, 10] [12, 24] ⟨[(3, .ref 12 1 0), (4, .data (.slice (.named 1)) (((DrawCountRow code).2) : List Val)), (5, .int .i64 (iCountRow ((DrawCountRow code).1) ((DrawCountRow code).2))), (6, .ref 24 1 0), (7, .bool ((iDistinctRows ((DrawCountRow code).1)).2)), (8, .int .i64 (total1 + (iCountRow ((DrawCountRow code).1) (List.getD (Tab.Rows ((iDistinctRows ((DrawCountRow code).1)).1)) i [])))), (9, .bool (bif is then true else (equalRows (List.getD (Tab.Rows ((iDistinctRows ((DrawCountRow code).1)).1)) i []) ((DrawCountRow code).2)))), (10, .int .i64 ((i + 1 : Nat) : Int))], [(12, .box 1 [.int .i64 (Tab.Width ((DrawCountRow code).1)), .data (.slice (.slice (.named 1))) ((Tab.Rows ((DrawCountRow code).1)) : List (List Val))]), (24, .box 1 [.int .i64 (Tab.Width ((iDistinctRows ((DrawCountRow code).1)).1)), .data (.slice (.slice (.named 1))) ((Tab.Rows ((iDistinctRows ((DrawCountRow code).1)).1)) : List (List Val))])]⟩ [(-9223372036854775808 ≤ ((i + 1 : Nat) : Int) ∧ ((i + 1 : Nat) : Int) ≤ 9223372036854775807)] ?_ ?_
      ·
       refine ⟨?_, trivial⟩
       ·
        omega
      refine AW.back (x := (total1, is, i)) ((total1 + (iCountRow ((DrawCountRow code).1) (List.getD (Tab.Rows ((iDistinctRows ((DrawCountRow code).1)).1)) i []))), (bif is then true else (equalRows (List.getD (Tab.Rows ((iDistinctRows ((DrawCountRow code).1)).1)) i []) ((DrawCountRow code).2))), i + 1) (by kernel_rfl) ⟨?_, k29q, ?_, e31⟩ ?_
      ·
       show (-((i + 1) : Int) ≤ (total1 + (iCountRow ((DrawCountRow code).1) (List.getD (Tab.Rows ((iDistinctRows ((DrawCountRow code).1)).1)) i []))) ∧ (total1 + (iCountRow ((DrawCountRow code).1) (List.getD (Tab.Rows ((iDistinctRows ((DrawCountRow code).1)).1)) i []))) ≤ 400 * ((i + 1) : Int)) ∧ (i + 1) ≤ 400
       omega
      ·
       show (List.length (Tab.Rows ((iDistinctRows ((DrawCountRow code).1)).1))) - (i + 1) < k29q
       omega
      ·
       show (List.length (Tab.Rows ((iDistinctRows ((DrawCountRow code).1)).1))) - (i + 1) < (List.length (Tab.Rows ((iDistinctRows ((DrawCountRow code).1)).1))) - i
       omega
     ·
      intro h41
      have h41q : ¬ (((i : Nat) : Int) < ((List.length (Tab.Rows ((iDistinctRows ((DrawCountRow code).1)).1)) : Nat) : Int)) := (of_decide_eq_false h41)
      have e42 := e28.trans (Go.Am.bif_f h41)
      refine AW.kp [3, 5, 7, 8, 9] [12] ⟨[(3, .ref 12 1 0), (5, .int .i64 (iCountRow ((DrawCountRow code).1) ((DrawCountRow code).2))), (7, .bool ((iDistinctRows ((DrawCountRow code).1)).2)), (8, .int .i64 total1), (9, .bool is)], [(12, .box 1 [.int .i64 (Tab.Width ((DrawCountRow code).1)), .data (.slice (.slice (.named 1))) ((Tab.Rows ((DrawCountRow code).1)) : List (List Val))])]⟩ ?_
      refine AW.exit ?_
      refine AW.meet (total1, is) (by kernel_rfl) ⟨?_, e42⟩
      show True
      trivial
   ·
    intro x hR
    obtain ⟨total1, is⟩ := x
    obtain ⟨hJ0, e43⟩ := hR
    replace hJ0 : True := hJ0
    have e44 := e10.trans (Go.Am.then_eq e43)
    refine AW.seq (AW.r0 hC [2] [] ⟨[(2, .bool (bif (bif ((iDistinctRows ((DrawCountRow code).1)).2) then (total1 == ((List.length (Tab.Rows ((DrawCountRow code).1)) : Nat) : Int)) else false) then (is == (decide (0 < (iCountRow ((DrawCountRow code).1) ((DrawCountRow code).2))))) else false))], []⟩ [((((iDistinctRows ((DrawCountRow code).1)).2) = true) → ((((iDistinctRows ((DrawCountRow code).1)).2) = true))), ((((iDistinctRows ((DrawCountRow code).1)).2) = true) → ((((iDistinctRows ((DrawCountRow code).1)).2) = true))), ((((iDistinctRows ((DrawCountRow code).1)).2) = true) → ((((iDistinctRows ((DrawCountRow code).1)).2) = true))), ((((iDistinctRows ((DrawCountRow code).1)).2) = true) → ((((iDistinctRows ((DrawCountRow code).1)).2) = true))), ((((iDistinctRows ((DrawCountRow code).1)).2) = true) → ((((iDistinctRows ((DrawCountRow code).1)).2) = true))), (((bif ((iDistinctRows ((DrawCountRow code).1)).2) then (total1 == ((List.length (Tab.Rows ((DrawCountRow code).1)) : Nat) : Int)) else false) = true) → (((bif ((iDistinctRows ((DrawCountRow code).1)).2) then (total1 == ((List.length (Tab.Rows ((DrawCountRow code).1)) : Nat) : Int)) else false) = true))), (((bif ((iDistinctRows ((DrawCountRow code).1)).2) then (total1 == ((List.length (Tab.Rows ((DrawCountRow code).1)) : Nat) : Int)) else false) = true) → (((bif ((iDistinctRows ((DrawCountRow code).1)).2) then (total1 == ((List.length (Tab.Rows ((DrawCountRow code).1)) : Nat) : Int)) else false) = true))), (((bif ((iDistinctRows ((DrawCountRow code).1)).2) then (total1 == ((List.length (Tab.Rows ((DrawCountRow code).1)) : Nat) : Int)) else false) = true) → (((bif ((iDistinctRows ((DrawCountRow code).1)).2) then (total1 == ((List.length (Tab.Rows ((DrawCountRow code).1)) : Nat) : Int)) else false) = true))), (((bif ((iDistinctRows ((DrawCountRow code).1)).2) then (total1 == ((List.length (Tab.Rows ((DrawCountRow code).1)) : Nat) : Int)) else false) = true) → (((bif ((iDistinctRows ((DrawCountRow code).1)).2) then (total1 == ((List.length (Tab.Rows ((DrawCountRow code).1)) : Nat) : Int)) else false) = true)))] ?_ ?_)
    ·
     refine ⟨?_, ?_, ?_, ?_, ?_, ?_, ?_, ?_, ?_, trivial⟩
     ·
      intro g45
      have g45p0 : ((iDistinctRows ((DrawCountRow code).1)).2) = true := g45
      assumption
     ·
      intro g46
      have g46p0 : ((iDistinctRows ((DrawCountRow code).1)).2) = true := g46
      assumption
     ·
      intro g47
      have g47p0 : ((iDistinctRows ((DrawCountRow code).1)).2) = true := g47
      assumption
     ·
      intro g48
      have g48p0 : ((iDistinctRows ((DrawCountRow code).1)).2) = true := g48
      assumption
     ·
      intro g49
      have g49p0 : ((iDistinctRows ((DrawCountRow code).1)).2) = true := g49
      assumption
     ·
      intro g50
      have g50p0 : (((iDistinctRows ((DrawCountRow code).1)).2) = true) ∧ (total1 = ((List.length (Tab.Rows ((DrawCountRow code).1)) : Nat) : Int)) := (And.imp (fun h => h) (fun h => (Go.Am.beq_pos h)) (Go.Am.and_pos g50))
      assumption
     ·
      intro g51
      have g51p0 : (((iDistinctRows ((DrawCountRow code).1)).2) = true) ∧ (total1 = ((List.length (Tab.Rows ((DrawCountRow code).1)) : Nat) : Int)) := (And.imp (fun h => h) (fun h => (Go.Am.beq_pos h)) (Go.Am.and_pos g51))
      assumption
     ·
      intro g52
      have g52p0 : (((iDistinctRows ((DrawCountRow code).1)).2) = true) ∧ (total1 = ((List.length (Tab.Rows ((DrawCountRow code).1)) : Nat) : Int)) := (And.imp (fun h => h) (fun h => (Go.Am.beq_pos h)) (Go.Am.and_pos g52))
      assumption
     ·
      intro g53
      have g53p0 : (((iDistinctRows ((DrawCountRow code).1)).2) = true) ∧ (total1 = ((List.length (Tab.Rows ((DrawCountRow code).1)) : Nat) : Int)) := (And.imp (fun h => h) (fun h => (Go.Am.beq_pos h)) (Go.Am.and_pos g53))
      assumption
    exact AW.ret (AW.retE (β := Bool) (fun v => [⟨.bool, v⟩]) (fun v => []) (v := (bif (bif ((iDistinctRows ((DrawCountRow code).1)).2) then (total1 == ((List.length (Tab.Rows ((DrawCountRow code).1)) : Nat) : Int)) else false) then (is == (decide (0 < (iCountRow ((DrawCountRow code).1) ((DrawCountRow code).2))))) else false)) e44 (by kernel_rfl) rfl rfl)

def FnUnionAll_l0 (code : List Int) : Nat → Nat → Unit ⊕ Bool
 | 0, i => .inl ()
 | k + 1, i => (bif (decide (((i : Nat) : Int) < ((List.length (Tab.Rows ((iUnionAll ((DrawUnionAll code).1) ((DrawUnionAll code).2)).1)) : Nat) : Int))) then (bif ((iCountRow ((iUnionAll ((DrawUnionAll code).1) ((DrawUnionAll code).2)).1) (List.getD (Tab.Rows ((iUnionAll ((DrawUnionAll code).1) ((DrawUnionAll code).2)).1)) i [])) != ((iCountRow ((DrawUnionAll code).1) (List.getD (Tab.Rows ((iUnionAll ((DrawUnionAll code).1) ((DrawUnionAll code).2)).1)) i [])) + (iCountRow ((DrawUnionAll code).2) (List.getD (Tab.Rows ((iUnionAll ((DrawUnionAll code).1) ((DrawUnionAll code).2)).1)) i [])))) then (.inr false) else (FnUnionAll_l0 code k (i + 1))) else (.inl ()))

def FnUnionAll (code : List Int) : Bool := (bif (decide (1048576 < ((List.length code : Nat) : Int))) then true else (bif (bif (bif (((iUnionAll ((DrawUnionAll code).1) ((DrawUnionAll code).2)).2) != ((sUnionAll ((DrawUnionAll code).1) ((DrawUnionAll code).2)).2)) then true else (!(equalTables ((iUnionAll ((DrawUnionAll code).1) ((DrawUnionAll code).2)).1) ((sUnionAll ((DrawUnionAll code).1) ((DrawUnionAll code).2)).1)))) then true else (!((iUnionAll ((DrawUnionAll code).1) ((DrawUnionAll code).2)).2))) then (bif (((iUnionAll ((DrawUnionAll code).1) ((DrawUnionAll code).2)).2) == ((sUnionAll ((DrawUnionAll code).1) ((DrawUnionAll code).2)).2)) then (equalTables ((iUnionAll ((DrawUnionAll code).1) ((DrawUnionAll code).2)).1) ((sUnionAll ((DrawUnionAll code).1) ((DrawUnionAll code).2)).1)) else false) else (Sum.elim (fun _ => (bif (bif (bif ((iUnionAll ((DrawUnionAll code).2) ((DrawUnionAll code).1)).2) then (equalTables ((iUnionAll ((DrawUnionAll code).2) ((DrawUnionAll code).1)).1) ((iUnionAll ((DrawUnionAll code).1) ((DrawUnionAll code).2)).1)) else false) then (((List.length (Tab.Rows ((iUnionAll ((DrawUnionAll code).1) ((DrawUnionAll code).2)).1)) : Nat) : Int) == (((List.length (Tab.Rows ((DrawUnionAll code).1))) + (List.length (Tab.Rows ((DrawUnionAll code).2))) : Nat) : Int)) else false) then (ValidTable ((iUnionAll ((DrawUnionAll code).1) ((DrawUnionAll code).2)).1)) else false)) (fun r => r) (FnUnionAll_l0 code ((List.length (Tab.Rows ((iUnionAll ((DrawUnionAll code).1) ((DrawUnionAll code).2)).1))) - 0 + 1) 0))))

def FnUnionAll_sp : FnSpec := mkSpec [.val (.slice (.int .u8))] [.val .bool] (fun (code : List Int) => True) (fun (code : List Int) => [⟨.bool, (FnUnionAll code)⟩])

theorem FnUnionAll_ok : FnOK Try.prog 8 FnUnionAll_sp := by
 have hC : CtxOK Try.prog (mkCtx tyL [(18, equalTables_sp), (19, ValidTable_sp), (28, iCountRow_sp), (36, DrawUnionAll_sp), (37, iUnionAll_sp), (38, sUnionAll_sp)]) := CtxOK.cons equalTables_ok (CtxOK.cons ValidTable_ok (CtxOK.cons iCountRow_ok (CtxOK.cons DrawUnionAll_ok (CtxOK.cons iUnionAll_ok (CtxOK.cons sUnionAll_ok (CtxOK.nil tyOK))))))
 have hM : Try.prog.follows .mixedOrders = true := Try.checked.mixed
 refine FnOK.of_body Try.func8 (by kernel_rfl) rfl (C := (mkCtx tyL [(18, equalTables_sp), (19, ValidTable_sp), (28, iCountRow_sp), (36, DrawUnionAll_sp), (37, iUnionAll_sp), (38, sUnionAll_sp)])) hC.ty (by kernel_rfl) ?_
 intro (code : List Int) hwf hpre E
 have hpre : True := hpre
 have hw_code : Wf ⟨(.slice (.int .u8)), (code : List Int)⟩ := hwf _ (List.Mem.head _)
 have hl_code : ((List.length code : Nat) : Int) ≤ 9223372036854775807 := hw_code.len
 have hd1 := (DrawUnionAll_drawn code).1.len
 have hd2 := (DrawUnionAll_drawn code).2.len
 have hul := iUnionAll_len (DrawUnionAll code).1 (DrawUnionAll code).2
 have hc1 := fun r => iCountRow_rng (DrawUnionAll code).1 r
 have hc2 := fun r => iCountRow_rng (DrawUnionAll code).2 r
 have e0 : FnUnionAll code = FnUnionAll code := rfl
 refine AW.seq (AW.r1 hC [0] [] ⟨[(0, .data (.slice (.int .u8)) (code : List Int))], []⟩ ?_)
 refine AW.seq (AW.seq (AW.r1 hC [0, 14] [] ⟨[(0, .data (.slice (.int .u8)) (code : List Int)), (14, .bool (decide (1048576 < ((List.length code : Nat) : Int))))], []⟩ ?_))
 refine AW.cd (decide (1048576 < ((List.length code : Nat) : Int))) ?_ ?_
 ·
  intro h1
  have h1q : 1048576 < ((List.length code : Nat) : Int) := (of_decide_eq_true h1)
  have e2 := e0.trans (Go.Am.bif_t h1)
  refine AW.seq (AW.r1 hC [2] [] ⟨[(2, .bool true)], []⟩ ?_)
  exact AW.ret (AW.retE (β := Bool) (fun v => [⟨.bool, v⟩]) (fun v => []) (v := true) e2 (by kernel_rfl) rfl rfl)
 ·
  intro h3
  have h3q : ¬ (1048576 < ((List.length code : Nat) : Int)) := (of_decide_eq_false h3)
  have e4 := e0.trans (Go.Am.bif_f h3)
  refine AW.kp [0] [] ⟨[(0, .data (.slice (.int .u8)) (code : List Int))], []⟩ ?_
  refine AW.skip (AW.seq (AW.r0 hC [3, 4] [12, 16] ⟨[(3, .ref 12 1 0), (4, .ref 16 1 0)], [(12, .box 1 [.int .i64 (Tab.Width ((DrawUnionAll code).1)), .data (.slice (.slice (.named 1))) ((Tab.Rows ((DrawUnionAll code).1)) : List (List Val))]), (16, .box 1 [.int .i64 (Tab.Width ((DrawUnionAll code).2)), .data (.slice (.slice (.named 1))) ((Tab.Rows ((DrawUnionAll code).2)) : List (List Val))])]⟩ [(True)] ?_ ?_))
  ·
   refine ⟨?_, trivial⟩
   ·
    trivial
  refine AW.seq (AW.r0 hC [3, 4, 5, 6] [12, 16, 20] ⟨[(3, .ref 12 1 0), (4, .ref 16 1 0), (5, .ref 20 1 0), (6, .bool ((iUnionAll ((DrawUnionAll code).1) ((DrawUnionAll code).2)).2))], [(12, .box 1 [.int .i64 (Tab.Width ((DrawUnionAll code).1)), .data (.slice (.slice (.named 1))) ((Tab.Rows ((DrawUnionAll code).1)) : List (List Val))]), (16, .box 1 [.int .i64 (Tab.Width ((DrawUnionAll code).2)), .data (.slice (.slice (.named 1))) ((Tab.Rows ((DrawUnionAll code).2)) : List (List Val))]), (20, .box 1 [.int .i64 (Tab.Width ((iUnionAll ((DrawUnionAll code).1) ((DrawUnionAll code).2)).1)), .data (.slice (.slice (.named 1))) ((Tab.Rows ((iUnionAll ((DrawUnionAll code).1) ((DrawUnionAll code).2)).1)) : List (List Val))])]⟩ [(True)] ?_ ?_)
  ·
   refine ⟨?_, trivial⟩
   ·
    trivial
  refine AW.seq (AW.r0 hC [3, 4, 5, 6, 7, 8] [12, 16, 20, 28] ⟨[(3, .ref 12 1 0), (4, .ref 16 1 0), (5, .ref 20 1 0), (6, .bool ((iUnionAll ((DrawUnionAll code).1) ((DrawUnionAll code).2)).2)), (7, .ref 28 1 0), (8, .bool ((sUnionAll ((DrawUnionAll code).1) ((DrawUnionAll code).2)).2))], [(12, .box 1 [.int .i64 (Tab.Width ((DrawUnionAll code).1)), .data (.slice (.slice (.named 1))) ((Tab.Rows ((DrawUnionAll code).1)) : List (List Val))]), (16, .box 1 [.int .i64 (Tab.Width ((DrawUnionAll code).2)), .data (.slice (.slice (.named 1))) ((Tab.Rows ((DrawUnionAll code).2)) : List (List Val))]), (20, .box 1 [.int .i64 (Tab.Width ((iUnionAll ((DrawUnionAll code).1) ((DrawUnionAll code).2)).1)), .data (.slice (.slice (.named 1))) ((Tab.Rows ((iUnionAll ((DrawUnionAll code).1) ((DrawUnionAll code).2)).1)) : List (List Val))]), (28, .box 1 [.int .i64 (Tab.Width ((sUnionAll ((DrawUnionAll code).1) ((DrawUnionAll code).2)).1)), .data (.slice (.slice (.named 1))) ((Tab.Rows ((sUnionAll ((DrawUnionAll code).1) ((DrawUnionAll code).2)).1)) : List (List Val))])]⟩ [(True)] ?_ ?_)
  ·
   refine ⟨?_, trivial⟩
   ·
    trivial
  refine AW.seq (AW.seq (AW.r0 hC [3, 4, 5, 6, 7, 8, 44] [12, 16, 20, 28] ⟨[(3, .ref 12 1 0), (4, .ref 16 1 0), (5, .ref 20 1 0), (6, .bool ((iUnionAll ((DrawUnionAll code).1) ((DrawUnionAll code).2)).2)), (7, .ref 28 1 0), (8, .bool ((sUnionAll ((DrawUnionAll code).1) ((DrawUnionAll code).2)).2)), (44, .bool (bif (bif (((iUnionAll ((DrawUnionAll code).1) ((DrawUnionAll code).2)).2) != ((sUnionAll ((DrawUnionAll code).1) ((DrawUnionAll code).2)).2)) then true else (!(equalTables ((iUnionAll ((DrawUnionAll code).1) ((DrawUnionAll code).2)).1) ((sUnionAll ((DrawUnionAll code).1) ((DrawUnionAll code).2)).1)))) then true else (!((iUnionAll ((DrawUnionAll code).1) ((DrawUnionAll code).2)).2))))], [(12, .box 1 [.int .i64 (Tab.Width ((DrawUnionAll code).1)), .data (.slice (.slice (.named 1))) ((Tab.Rows ((DrawUnionAll code).1)) : List (List Val))]), (16, .box 1 [.int .i64 (Tab.Width ((DrawUnionAll code).2)), .data (.slice (.slice (.named 1))) ((Tab.Rows ((DrawUnionAll code).2)) : List (List Val))]), (20, .box 1 [.int .i64 (Tab.Width ((iUnionAll ((DrawUnionAll code).1) ((DrawUnionAll code).2)).1)), .data (.slice (.slice (.named 1))) ((Tab.Rows ((iUnionAll ((DrawUnionAll code).1) ((DrawUnionAll code).2)).1)) : List (List Val))]), (28, .box 1 [.int .i64 (Tab.Width ((sUnionAll ((DrawUnionAll code).1) ((DrawUnionAll code).2)).1)), .data (.slice (.slice (.named 1))) ((Tab.Rows ((sUnionAll ((DrawUnionAll code).1) ((DrawUnionAll code).2)).1)) : List (List Val))])]⟩ [(((((iUnionAll ((DrawUnionAll code).1) ((DrawUnionAll code).2)).2) != ((sUnionAll ((DrawUnionAll code).1) ((DrawUnionAll code).2)).2)) = false) → (((((iUnionAll ((DrawUnionAll code).1) ((DrawUnionAll code).2)).2) != ((sUnionAll ((DrawUnionAll code).1) ((DrawUnionAll code).2)).2)) = false))), (((((iUnionAll ((DrawUnionAll code).1) ((DrawUnionAll code).2)).2) != ((sUnionAll ((DrawUnionAll code).1) ((DrawUnionAll code).2)).2)) = false) → (((((iUnionAll ((DrawUnionAll code).1) ((DrawUnionAll code).2)).2) != ((sUnionAll ((DrawUnionAll code).1) ((DrawUnionAll code).2)).2)) = false))), (((((iUnionAll ((DrawUnionAll code).1) ((DrawUnionAll code).2)).2) != ((sUnionAll ((DrawUnionAll code).1) ((DrawUnionAll code).2)).2)) = false) → (True)), (((((iUnionAll ((DrawUnionAll code).1) ((DrawUnionAll code).2)).2) != ((sUnionAll ((DrawUnionAll code).1) ((DrawUnionAll code).2)).2)) = false) → (((((iUnionAll ((DrawUnionAll code).1) ((DrawUnionAll code).2)).2) != ((sUnionAll ((DrawUnionAll code).1) ((DrawUnionAll code).2)).2)) = false))), (((((iUnionAll ((DrawUnionAll code).1) ((DrawUnionAll code).2)).2) != ((sUnionAll ((DrawUnionAll code).1) ((DrawUnionAll code).2)).2)) = false) → (((((iUnionAll ((DrawUnionAll code).1) ((DrawUnionAll code).2)).2) != ((sUnionAll ((DrawUnionAll code).1) ((DrawUnionAll code).2)).2)) = false))), (((bif (((iUnionAll ((DrawUnionAll code).1) ((DrawUnionAll code).2)).2) != ((sUnionAll ((DrawUnionAll code).1) ((DrawUnionAll code).2)).2)) then true else (!(equalTables ((iUnionAll ((DrawUnionAll code).1) ((DrawUnionAll code).2)).1) ((sUnionAll ((DrawUnionAll code).1) ((DrawUnionAll code).2)).1)))) = false) → (((bif (((iUnionAll ((DrawUnionAll code).1) ((DrawUnionAll code).2)).2) != ((sUnionAll ((DrawUnionAll code).1) ((DrawUnionAll code).2)).2)) then true else (!(equalTables ((iUnionAll ((DrawUnionAll code).1) ((DrawUnionAll code).2)).1) ((sUnionAll ((DrawUnionAll code).1) ((DrawUnionAll code).2)).1)))) = false))), (((bif (((iUnionAll ((DrawUnionAll code).1) ((DrawUnionAll code).2)).2) != ((sUnionAll ((DrawUnionAll code).1) ((DrawUnionAll code).2)).2)) then true else (!(equalTables ((iUnionAll ((DrawUnionAll code).1) ((DrawUnionAll code).2)).1) ((sUnionAll ((DrawUnionAll code).1) ((DrawUnionAll code).2)).1)))) = false) → (((bif (((iUnionAll ((DrawUnionAll code).1) ((DrawUnionAll code).2)).2) != ((sUnionAll ((DrawUnionAll code).1) ((DrawUnionAll code).2)).2)) then true else (!(equalTables ((iUnionAll ((DrawUnionAll code).1) ((DrawUnionAll code).2)).1) ((sUnionAll ((DrawUnionAll code).1) ((DrawUnionAll code).2)).1)))) = false)))] ?_ ?_))
  ·
   refine ⟨?_, ?_, ?_, ?_, ?_, ?_, ?_, trivial⟩
   ·
    intro g5
    have g5p0 : (((iUnionAll ((DrawUnionAll code).1) ((DrawUnionAll code).2)).2) != ((sUnionAll ((DrawUnionAll code).1) ((DrawUnionAll code).2)).2)) = false := g5
    assumption
   ·
    intro g6
    have g6p0 : (((iUnionAll ((DrawUnionAll code).1) ((DrawUnionAll code).2)).2) != ((sUnionAll ((DrawUnionAll code).1) ((DrawUnionAll code).2)).2)) = false := g6
    assumption
   ·
    intro g7
    have g7p0 : (((iUnionAll ((DrawUnionAll code).1) ((DrawUnionAll code).2)).2) != ((sUnionAll ((DrawUnionAll code).1) ((DrawUnionAll code).2)).2)) = false := g7
    trivial
   ·
    intro g8
    have g8p0 : (((iUnionAll ((DrawUnionAll code).1) ((DrawUnionAll code).2)).2) != ((sUnionAll ((DrawUnionAll code).1) ((DrawUnionAll code).2)).2)) = false := g8
    assumption
   ·
    intro g9
    have g9p0 : (((iUnionAll ((DrawUnionAll code).1) ((DrawUnionAll code).2)).2) != ((sUnionAll ((DrawUnionAll code).1) ((DrawUnionAll code).2)).2)) = false := g9
    assumption
   ·
    intro g10
    have g10p0 : ((((iUnionAll ((DrawUnionAll code).1) ((DrawUnionAll code).2)).2) != ((sUnionAll ((DrawUnionAll code).1) ((DrawUnionAll code).2)).2)) = false) ∧ ((equalTables ((iUnionAll ((DrawUnionAll code).1) ((DrawUnionAll code).2)).1) ((sUnionAll ((DrawUnionAll code).1) ((DrawUnionAll code).2)).1)) = true) := (And.imp (fun h => h) (fun h => (Go.Am.not_neg h)) (Go.Am.or_neg g10))
    assumption
   ·
    intro g11
    have g11p0 : ((((iUnionAll ((DrawUnionAll code).1) ((DrawUnionAll code).2)).2) != ((sUnionAll ((DrawUnionAll code).1) ((DrawUnionAll code).2)).2)) = false) ∧ ((equalTables ((iUnionAll ((DrawUnionAll code).1) ((DrawUnionAll code).2)).1) ((sUnionAll ((DrawUnionAll code).1) ((DrawUnionAll code).2)).1)) = true) := (And.imp (fun h => h) (fun h => (Go.Am.not_neg h)) (Go.Am.or_neg g11))
    assumption
  refine AW.cd (bif (bif (((iUnionAll ((DrawUnionAll code).1) ((DrawUnionAll code).2)).2) != ((sUnionAll ((DrawUnionAll code).1) ((DrawUnionAll code).2)).2)) then true else (!(equalTables ((iUnionAll ((DrawUnionAll code).1) ((DrawUnionAll code).2)).1) ((sUnionAll ((DrawUnionAll code).1) ((DrawUnionAll code).2)).1)))) then true else (!((iUnionAll ((DrawUnionAll code).1) ((DrawUnionAll code).2)).2))) ?_ ?_
  ·
   intro h12
   have h12q : (((((iUnionAll ((DrawUnionAll code).1) ((DrawUnionAll code).2)).2) != ((sUnionAll ((DrawUnionAll code).1) ((DrawUnionAll code).2)).2)) = true) ∨ ((equalTables ((iUnionAll ((DrawUnionAll code).1) ((DrawUnionAll code).2)).1) ((sUnionAll ((DrawUnionAll code).1) ((DrawUnionAll code).2)).1)) = false)) ∨ (((iUnionAll ((DrawUnionAll code).1) ((DrawUnionAll code).2)).2) = false) := (Or.imp (fun h => (Or.imp (fun h => h) (fun h => (Go.Am.not_pos h)) (Go.Am.or_pos h))) (fun h => (Go.Am.not_pos h)) (Go.Am.or_pos h12))
   have e13 := e4.trans (Go.Am.bif_t h12)
   refine AW.seq (AW.r0 hC [2] [] ⟨[(2, .bool (bif (((iUnionAll ((DrawUnionAll code).1) ((DrawUnionAll code).2)).2) == ((sUnionAll ((DrawUnionAll code).1) ((DrawUnionAll code).2)).2)) then (equalTables ((iUnionAll ((DrawUnionAll code).1) ((DrawUnionAll code).2)).1) ((sUnionAll ((DrawUnionAll code).1) ((DrawUnionAll code).2)).1)) else false))], []⟩ [(((((iUnionAll ((DrawUnionAll code).1) ((DrawUnionAll code).2)).2) == ((sUnionAll ((DrawUnionAll code).1) ((DrawUnionAll code).2)).2)) = true) → (((((iUnionAll ((DrawUnionAll code).1) ((DrawUnionAll code).2)).2) == ((sUnionAll ((DrawUnionAll code).1) ((DrawUnionAll code).2)).2)) = true))), (((((iUnionAll ((DrawUnionAll code).1) ((DrawUnionAll code).2)).2) == ((sUnionAll ((DrawUnionAll code).1) ((DrawUnionAll code).2)).2)) = true) → (((((iUnionAll ((DrawUnionAll code).1) ((DrawUnionAll code).2)).2) == ((sUnionAll ((DrawUnionAll code).1) ((DrawUnionAll code).2)).2)) = true))), (((((iUnionAll ((DrawUnionAll code).1) ((DrawUnionAll code).2)).2) == ((sUnionAll ((DrawUnionAll code).1) ((DrawUnionAll code).2)).2)) = true) → (True)), (((((iUnionAll ((DrawUnionAll code).1) ((DrawUnionAll code).2)).2) == ((sUnionAll ((DrawUnionAll code).1) ((DrawUnionAll code).2)).2)) = true) → (((((iUnionAll ((DrawUnionAll code).1) ((DrawUnionAll code).2)).2) == ((sUnionAll ((DrawUnionAll code).1) ((DrawUnionAll code).2)).2)) = true)))] ?_ ?_)
   ·
    refine ⟨?_, ?_, ?_, ?_, trivial⟩
    ·
     intro g14
     have g14p0 : (((iUnionAll ((DrawUnionAll code).1) ((DrawUnionAll code).2)).2) == ((sUnionAll ((DrawUnionAll code).1) ((DrawUnionAll code).2)).2)) = true := g14
     assumption
    ·
     intro g15
     have g15p0 : (((iUnionAll ((DrawUnionAll code).1) ((DrawUnionAll code).2)).2) == ((sUnionAll ((DrawUnionAll code).1) ((DrawUnionAll code).2)).2)) = true := g15
     assumption
    ·
     intro g16
     have g16p0 : (((iUnionAll ((DrawUnionAll code).1) ((DrawUnionAll code).2)).2) == ((sUnionAll ((DrawUnionAll code).1) ((DrawUnionAll code).2)).2)) = true := g16
     trivial
    ·
     intro g17
     have g17p0 : (((iUnionAll ((DrawUnionAll code).1) ((DrawUnionAll code).2)).2) == ((sUnionAll ((DrawUnionAll code).1) ((DrawUnionAll code).2)).2)) = true := g17
     assumption
   exact AW.ret (AW.retE (β := Bool) (fun v => [⟨.bool, v⟩]) (fun v => []) (v := (bif (((iUnionAll ((DrawUnionAll code).1) ((DrawUnionAll code).2)).2) == ((sUnionAll ((DrawUnionAll code).1) ((DrawUnionAll code).2)).2)) then (equalTables ((iUnionAll ((DrawUnionAll code).1) ((DrawUnionAll code).2)).1) ((sUnionAll ((DrawUnionAll code).1) ((DrawUnionAll code).2)).1)) else false)) e13 (by kernel_rfl) rfl rfl)
  ·
   intro h18
   have h18q : (((((iUnionAll ((DrawUnionAll code).1) ((DrawUnionAll code).2)).2) != ((sUnionAll ((DrawUnionAll code).1) ((DrawUnionAll code).2)).2)) = false) ∧ ((equalTables ((iUnionAll ((DrawUnionAll code).1) ((DrawUnionAll code).2)).1) ((sUnionAll ((DrawUnionAll code).1) ((DrawUnionAll code).2)).1)) = true)) ∧ (((iUnionAll ((DrawUnionAll code).1) ((DrawUnionAll code).2)).2) = true) := (And.imp (fun h => (And.imp (fun h => h) (fun h => (Go.Am.not_neg h)) (Go.Am.or_neg h))) (fun h => (Go.Am.not_neg h)) (Go.Am.or_neg h18))
   have e19 := e4.trans (Go.Am.bif_f h18)
   refine AW.kp [3, 4, 5] [12, 16, 20] ⟨[(3, .ref 12 1 0), (4, .ref 16 1 0), (5, .ref 20 1 0)], [(12, .box 1 [.int .i64 (Tab.Width ((DrawUnionAll code).1)), .data (.slice (.slice (.named 1))) ((Tab.Rows ((DrawUnionAll code).1)) : List (List Val))]), (16, .box 1 [.int .i64 (Tab.Width ((DrawUnionAll code).2)), .data (.slice (.slice (.named 1))) ((Tab.Rows ((DrawUnionAll code).2)) : List (List Val))]), (20, .box 1 [.int .i64 (Tab.Width ((iUnionAll ((DrawUnionAll code).1) ((DrawUnionAll code).2)).1)), .data (.slice (.slice (.named 1))) ((Tab.Rows ((iUnionAll ((DrawUnionAll code).1) ((DrawUnionAll code).2)).1)) : List (List Val))])]⟩ ?_
   refine AW.skip (AW.seq (AW.r0 hC [3, 4, 5, 9, 10] [12, 16, 20, 36] ⟨[(3, .ref 12 1 0), (4, .ref 16 1 0), (5, .ref 20 1 0), (9, .ref 36 1 0), (10, .bool ((iUnionAll ((DrawUnionAll code).2) ((DrawUnionAll code).1)).2))], [(12, .box 1 [.int .i64 (Tab.Width ((DrawUnionAll code).1)), .data (.slice (.slice (.named 1))) ((Tab.Rows ((DrawUnionAll code).1)) : List (List Val))]), (16, .box 1 [.int .i64 (Tab.Width ((DrawUnionAll code).2)), .data (.slice (.slice (.named 1))) ((Tab.Rows ((DrawUnionAll code).2)) : List (List Val))]), (20, .box 1 [.int .i64 (Tab.Width ((iUnionAll ((DrawUnionAll code).1) ((DrawUnionAll code).2)).1)), .data (.slice (.slice (.named 1))) ((Tab.Rows ((iUnionAll ((DrawUnionAll code).1) ((DrawUnionAll code).2)).1)) : List (List Val))]), (36, .box 1 [.int .i64 (Tab.Width ((iUnionAll ((DrawUnionAll code).2) ((DrawUnionAll code).1)).1)), .data (.slice (.slice (.named 1))) ((Tab.Rows ((iUnionAll ((DrawUnionAll code).2) ((DrawUnionAll code).1)).1)) : List (List Val))])]⟩ [(True)] ?_ ?_))
   ·
    refine ⟨?_, trivial⟩
    ·
     trivial
   refine AW.seq (AW.seq (AW.r1 hC [3, 4, 5, 9, 10, 11] [12, 16, 20, 36] ⟨[(3, .ref 12 1 0), (4, .ref 16 1 0), (5, .ref 20 1 0), (9, .ref 36 1 0), (10, .bool ((iUnionAll ((DrawUnionAll code).2) ((DrawUnionAll code).1)).2)), (11, .int .i64 0)], [(12, .box 1 [.int .i64 (Tab.Width ((DrawUnionAll code).1)), .data (.slice (.slice (.named 1))) ((Tab.Rows ((DrawUnionAll code).1)) : List (List Val))]), (16, .box 1 [.int .i64 (Tab.Width ((DrawUnionAll code).2)), .data (.slice (.slice (.named 1))) ((Tab.Rows ((DrawUnionAll code).2)) : List (List Val))]), (20, .box 1 [.int .i64 (Tab.Width ((iUnionAll ((DrawUnionAll code).1) ((DrawUnionAll code).2)).1)), .data (.slice (.slice (.named 1))) ((Tab.Rows ((iUnionAll ((DrawUnionAll code).1) ((DrawUnionAll code).2)).1)) : List (List Val))]), (36, .box 1 [.int .i64 (Tab.Width ((iUnionAll ((DrawUnionAll code).2) ((DrawUnionAll code).1)).1)), .data (.slice (.slice (.named 1))) ((Tab.Rows ((iUnionAll ((DrawUnionAll code).2) ((DrawUnionAll code).1)).1)) : List (List Val))])]⟩ ?_))
   refine AW.cutQ (α := Unit) (fun x => ⟨[(3, .ref 12 1 0), (4, .ref 16 1 0), (5, .ref 20 1 0), (9, .ref 36 1 0), (10, .bool ((iUnionAll ((DrawUnionAll code).2) ((DrawUnionAll code).1)).2))], [(12, .box 1 [.int .i64 (Tab.Width ((DrawUnionAll code).1)), .data (.slice (.slice (.named 1))) ((Tab.Rows ((DrawUnionAll code).1)) : List (List Val))]), (16, .box 1 [.int .i64 (Tab.Width ((DrawUnionAll code).2)), .data (.slice (.slice (.named 1))) ((Tab.Rows ((DrawUnionAll code).2)) : List (List Val))]), (20, .box 1 [.int .i64 (Tab.Width ((iUnionAll ((DrawUnionAll code).1) ((DrawUnionAll code).2)).1)), .data (.slice (.slice (.named 1))) ((Tab.Rows ((iUnionAll ((DrawUnionAll code).1) ((DrawUnionAll code).2)).1)) : List (List Val))]), (36, .box 1 [.int .i64 (Tab.Width ((iUnionAll ((DrawUnionAll code).2) ((DrawUnionAll code).1)).1)), .data (.slice (.slice (.named 1))) ((Tab.Rows ((iUnionAll ((DrawUnionAll code).2) ((DrawUnionAll code).1)).1)) : List (List Val))])]⟩) (fun x => (True) ∧ (FnUnionAll_l0 code ((List.length (Tab.Rows ((iUnionAll ((DrawUnionAll code).1) ((DrawUnionAll code).2)).1))) - 0 + 1) 0) = (.inl ())) ?_ ?_
   ·
    skip
    refine AW.block (AW.loop (α := Nat) (fun x => ⟨[(3, .ref 12 1 0), (4, .ref 16 1 0), (5, .ref 20 1 0), (9, .ref 36 1 0), (10, .bool ((iUnionAll ((DrawUnionAll code).2) ((DrawUnionAll code).1)).2)), (11, .int .i64 ((x : Nat) : Int))], [(12, .box 1 [.int .i64 (Tab.Width ((DrawUnionAll code).1)), .data (.slice (.slice (.named 1))) ((Tab.Rows ((DrawUnionAll code).1)) : List (List Val))]), (16, .box 1 [.int .i64 (Tab.Width ((DrawUnionAll code).2)), .data (.slice (.slice (.named 1))) ((Tab.Rows ((DrawUnionAll code).2)) : List (List Val))]), (20, .box 1 [.int .i64 (Tab.Width ((iUnionAll ((DrawUnionAll code).1) ((DrawUnionAll code).2)).1)), .data (.slice (.slice (.named 1))) ((Tab.Rows ((iUnionAll ((DrawUnionAll code).1) ((DrawUnionAll code).2)).1)) : List (List Val))]), (36, .box 1 [.int .i64 (Tab.Width ((iUnionAll ((DrawUnionAll code).2) ((DrawUnionAll code).1)).1)), .data (.slice (.slice (.named 1))) ((Tab.Rows ((iUnionAll ((DrawUnionAll code).2) ((DrawUnionAll code).1)).1)) : List (List Val))])]⟩) (fun x => (True) ∧ ∃ k, (List.length (Tab.Rows ((iUnionAll ((DrawUnionAll code).1) ((DrawUnionAll code).2)).1))) - x < k ∧ (FnUnionAll_l0 code ((List.length (Tab.Rows ((iUnionAll ((DrawUnionAll code).1) ((DrawUnionAll code).2)).1))) - 0 + 1) 0) = FnUnionAll_l0 code k x) (fun x => (List.length (Tab.Rows ((iUnionAll ((DrawUnionAll code).1) ((DrawUnionAll code).2)).1))) - x) 0 (by kernel_rfl) ⟨?_, _, Nat.lt_succ_self _, rfl⟩ ?_)
    ·
     show True
     exact trivial
    ·
     intro i hR
     obtain ⟨hI0, k49, hk47, e48⟩ := hR
     replace hI0 : True := hI0
     replace hk47 : (List.length (Tab.Rows ((iUnionAll ((DrawUnionAll code).1) ((DrawUnionAll code).2)).1))) - i < k49 := hk47
     obtain ⟨k49q, rfl⟩ : ∃ k, k49 = k + 1 := ⟨k49 - 1, by omega⟩
     refine AW.seq (AW.seq (AW.r1 hC [3, 4, 5, 9, 10, 11, 63] [12, 16, 20, 36] ⟨[(3, .ref 12 1 0), (4, .ref 16 1 0), (5, .ref 20 1 0), (9, .ref 36 1 0), (10, .bool ((iUnionAll ((DrawUnionAll code).2) ((DrawUnionAll code).1)).2)), (11, .int .i64 ((i : Nat) : Int)), (63, .bool (decide (((i : Nat) : Int) < ((List.length (Tab.Rows ((iUnionAll ((DrawUnionAll code).1) ((DrawUnionAll code).2)).1)) : Nat) : Int))))], [(12, .box 1 [.int .i64 (Tab.Width ((DrawUnionAll code).1)), .data (.slice (.slice (.named 1))) ((Tab.Rows ((DrawUnionAll code).1)) : List (List Val))]), (16, .box 1 [.int .i64 (Tab.Width ((DrawUnionAll code).2)), .data (.slice (.slice (.named 1))) ((Tab.Rows ((DrawUnionAll code).2)) : List (List Val))]), (20, .box 1 [.int .i64 (Tab.Width ((iUnionAll ((DrawUnionAll code).1) ((DrawUnionAll code).2)).1)), .data (.slice (.slice (.named 1))) ((Tab.Rows ((iUnionAll ((DrawUnionAll code).1) ((DrawUnionAll code).2)).1)) : List (List Val))]), (36, .box 1 [.int .i64 (Tab.Width ((iUnionAll ((DrawUnionAll code).2) ((DrawUnionAll code).1)).1)), .data (.slice (.slice (.named 1))) ((Tab.Rows ((iUnionAll ((DrawUnionAll code).2) ((DrawUnionAll code).1)).1)) : List (List Val))])]⟩ ?_))
     refine AW.cd (decide (((i : Nat) : Int) < ((List.length (Tab.Rows ((iUnionAll ((DrawUnionAll code).1) ((DrawUnionAll code).2)).1)) : Nat) : Int))) ?_ ?_
     ·
      intro h50
      have h50q : ((i : Nat) : Int) < ((List.length (Tab.Rows ((iUnionAll ((DrawUnionAll code).1) ((DrawUnionAll code).2)).1)) : Nat) : Int) := (of_decide_eq_true h50)
      have e51 := e48.trans (Go.Am.bif_t h50)
      refine AW.kp [3, 4, 5, 9, 10, 11] [12, 16, 20, 36] ⟨[(3, .ref 12 1 0), (4, .ref 16 1 0), (5, .ref 20 1 0), (9, .ref 36 1 0), (10, .bool ((iUnionAll ((DrawUnionAll code).2) ((DrawUnionAll code).1)).2)), (11, .int .i64 ((i : Nat) : Int))], [(12, .box 1 [.int .i64 (Tab.Width ((DrawUnionAll code).1)), .data (.slice (.slice (.named 1))) ((Tab.Rows ((DrawUnionAll code).1)) : List (List Val))]), (16, .box 1 [.int .i64 (Tab.Width ((DrawUnionAll code).2)), .data (.slice (.slice (.named 1))) ((Tab.Rows ((DrawUnionAll code).2)) : List (List Val))]), (20, .box 1 [.int .i64 (Tab.Width ((iUnionAll ((DrawUnionAll code).1) ((DrawUnionAll code).2)).1)), .data (.slice (.slice (.named 1))) ((Tab.Rows ((iUnionAll ((DrawUnionAll code).1) ((DrawUnionAll code).2)).1)) : List (List Val))]), (36, .box 1 [.int .i64 (Tab.Width ((iUnionAll ((DrawUnionAll code).2) ((DrawUnionAll code).1)).1)), .data (.slice (.slice (.named 1))) ((Tab.Rows ((iUnionAll ((DrawUnionAll code).2) ((DrawUnionAll code).1)).1)) : List (List Val))])]⟩ ?_
      refine AW.skip (AW.seq (AW.block (AW.seq (AW.d0 hC hM [3, 4, 5, 9, 10, 11, 88] [12, 16, 20, 36] ⟨[(3, .ref 12 1 0), (4, .ref 16 1 0), (5, .ref 20 1 0), (9, .ref 36 1 0), (10, .bool ((iUnionAll ((DrawUnionAll code).2) ((DrawUnionAll code).1)).2)), (11, .int .i64 ((i : Nat) : Int)), (88, .bool ((iCountRow ((iUnionAll ((DrawUnionAll code).1) ((DrawUnionAll code).2)).1) (List.getD (Tab.Rows ((iUnionAll ((DrawUnionAll code).1) ((DrawUnionAll code).2)).1)) i [])) != ((iCountRow ((DrawUnionAll code).1) (List.getD (Tab.Rows ((iUnionAll ((DrawUnionAll code).1) ((DrawUnionAll code).2)).1)) i [])) + (iCountRow ((DrawUnionAll code).2) (List.getD (Tab.Rows ((iUnionAll ((DrawUnionAll code).1) ((DrawUnionAll code).2)).1)) i [])))))], [(12, .box 1 [.int .i64 (Tab.Width ((DrawUnionAll code).1)), .data (.slice (.slice (.named 1))) ((Tab.Rows ((DrawUnionAll code).1)) : List (List Val))]), (16, .box 1 [.int .i64 (Tab.Width ((DrawUnionAll code).2)), .data (.slice (.slice (.named 1))) ((Tab.Rows ((DrawUnionAll code).2)) : List (List Val))]), (20, .box 1 [.int .i64 (Tab.Width ((iUnionAll ((DrawUnionAll code).1) ((DrawUnionAll code).2)).1)), .data (.slice (.slice (.named 1))) ((Tab.Rows ((iUnionAll ((DrawUnionAll code).1) ((DrawUnionAll code).2)).1)) : List (List Val))]), (36, .box 1 [.int .i64 (Tab.Width ((iUnionAll ((DrawUnionAll code).2) ((DrawUnionAll code).1)).1)), .data (.slice (.slice (.named 1))) ((Tab.Rows ((iUnionAll ((DrawUnionAll code).2) ((DrawUnionAll code).1)).1)) : List (List Val))])]⟩ [(0 ≤ ((i : Nat) : Int) ∧ ((i : Nat) : Int) < ((List.length (Tab.Rows ((iUnionAll ((DrawUnionAll code).1) ((DrawUnionAll code).2)).1)) : Nat) : Int)), (True), (0 ≤ ((i : Nat) : Int) ∧ ((i : Nat) : Int) < ((List.length (Tab.Rows ((iUnionAll ((DrawUnionAll code).1) ((DrawUnionAll code).2)).1)) : Nat) : Int)), (True), (0 ≤ ((i : Nat) : Int) ∧ ((i : Nat) : Int) < ((List.length (Tab.Rows ((iUnionAll ((DrawUnionAll code).1) ((DrawUnionAll code).2)).1)) : Nat) : Int)), (True), (-9223372036854775808 ≤ ((iCountRow ((DrawUnionAll code).1) (List.getD (Tab.Rows ((iUnionAll ((DrawUnionAll code).1) ((DrawUnionAll code).2)).1)) i [])) + (iCountRow ((DrawUnionAll code).2) (List.getD (Tab.Rows ((iUnionAll ((DrawUnionAll code).1) ((DrawUnionAll code).2)).1)) i []))) ∧ ((iCountRow ((DrawUnionAll code).1) (List.getD (Tab.Rows ((iUnionAll ((DrawUnionAll code).1) ((DrawUnionAll code).2)).1)) i [])) + (iCountRow ((DrawUnionAll code).2) (List.getD (Tab.Rows ((iUnionAll ((DrawUnionAll code).1) ((DrawUnionAll code).2)).1)) i []))) ≤ 9223372036854775807)] ?_ ?_))))
      ·
       refine ⟨?_, ?_, ?_, ?_, ?_, ?_, ?_, trivial⟩
       ·
        omega
       ·
        trivial
       ·
        omega
       ·
        trivial
       ·
        omega
       ·
        trivial
       ·
        have q1 := hc1 (List.getD (iUnionAll (DrawUnionAll code).1 (DrawUnionAll code).2).1.Rows i [])
        have q2 := hc2 (List.getD (iUnionAll (DrawUnionAll code).1 (DrawUnionAll code).2).1.Rows i [])
        omega
      refine AW.cd ((iCountRow ((iUnionAll ((DrawUnionAll code).1) ((DrawUnionAll code).2)).1) (List.getD (Tab.Rows ((iUnionAll ((DrawUnionAll code).1) ((DrawUnionAll code).2)).1)) i [])) != ((iCountRow ((DrawUnionAll code).1) (List.getD (Tab.Rows ((iUnionAll ((DrawUnionAll code).1) ((DrawUnionAll code).2)).1)) i [])) + (iCountRow ((DrawUnionAll code).2) (List.getD (Tab.Rows ((iUnionAll ((DrawUnionAll code).1) ((DrawUnionAll code).2)).1)) i [])))) ?_ ?_
      ·
       intro h52
       have h52q : (iCountRow ((iUnionAll ((DrawUnionAll code).1) ((DrawUnionAll code).2)).1) (List.getD (Tab.Rows ((iUnionAll ((DrawUnionAll code).1) ((DrawUnionAll code).2)).1)) i [])) ≠ ((iCountRow ((DrawUnionAll code).1) (List.getD (Tab.Rows ((iUnionAll ((DrawUnionAll code).1) ((DrawUnionAll code).2)).1)) i [])) + (iCountRow ((DrawUnionAll code).2) (List.getD (Tab.Rows ((iUnionAll ((DrawUnionAll code).1) ((DrawUnionAll code).2)).1)) i []))) := (Go.Am.bne_pos h52)
       have e53 := e51.trans (Go.Am.bif_t h52)
       refine AW.seq (AW.r1 hC [2] [] ⟨[(2, .bool false)], []⟩ ?_)
       refine AW.ret ?_
       have e54 := e19.trans (Go.Am.elim_r e53)
       exact AW.retE (β := Bool) (fun v => [⟨.bool, v⟩]) (fun v => []) (v := false) e54 (by kernel_rfl) rfl rfl
      ·
       intro h55
       have h55q : (iCountRow ((iUnionAll ((DrawUnionAll code).1) ((DrawUnionAll code).2)).1) (List.getD (Tab.Rows ((iUnionAll ((DrawUnionAll code).1) ((DrawUnionAll code).2)).1)) i [])) = ((iCountRow ((DrawUnionAll code).1) (List.getD (Tab.Rows ((iUnionAll ((DrawUnionAll code).1) ((DrawUnionAll code).2)).1)) i [])) + (iCountRow ((DrawUnionAll code).2) (List.getD (Tab.Rows ((iUnionAll ((DrawUnionAll code).1) ((DrawUnionAll code).2)).1)) i []))) := (Go.Am.bne_neg h55)
       have e56 := e51.trans (Go.Am.bif_f h55)
       refine AW.kp [3, 4, 5, 9, 10, 11] [12, 16, 20, 36] ⟨[(3, .ref 12 1 0), (4, .ref 16 1 0), (5, .ref 20 1 0), (9, .ref 36 1 0), (10, .bool ((iUnionAll ((DrawUnionAll code).2) ((DrawUnionAll code).1)).2)), (11, .int .i64 ((i : Nat) : Int))], [(12, .box 1 [.int .i64 (Tab.Width ((DrawUnionAll code).1)), .data (.slice (.slice (.named 1))) ((Tab.Rows ((DrawUnionAll code).1)) : List (List Val))]), (16, .box 1 [.int .i64 (Tab.Width ((DrawUnionAll code).2)), .data (.slice (.slice (.named 1))) ((Tab.Rows ((DrawUnionAll code).2)) : List (List Val))]), (20, .box 1 [.int .i64 (Tab.Width ((iUnionAll ((DrawUnionAll code).1) ((DrawUnionAll code).2)).1)), .data (.slice (.slice (.named 1))) ((Tab.Rows ((iUnionAll ((DrawUnionAll code).1) ((DrawUnionAll code).2)).1)) : List (List Val))]), (36, .box 1 [.int .i64 (Tab.Width ((iUnionAll ((DrawUnionAll code).2) ((DrawUnionAll code).1)).1)), .data (.slice (.slice (.named 1))) ((Tab.Rows ((iUnionAll ((DrawUnionAll code).2) ((DrawUnionAll code).1)).1)) : List (List Val))])]⟩ ?_
       refine AW.skip (AW.r0 hC [3, 4, 5, 9, 10, 11] [12, 16, 20, 36] ⟨[(3, .ref 12 1 0), (4, .ref 16 1 0), (5, .ref 20 1 0), (9, .ref 36 1 0), (10, .bool ((iUnionAll ((DrawUnionAll code).2) ((DrawUnionAll code).1)).2)), (11, .int .i64 ((i + 1 : Nat) : Int))], [(12, .box 1 [.int .i64 (Tab.Width ((DrawUnionAll code).1)), .data (.slice (.slice (.named 1))) ((Tab.Rows ((DrawUnionAll code).1)) : List (List Val))]), (16, .box 1 [.int .i64 (Tab.Width ((DrawUnionAll code).2)), .data (.slice (.slice (.named 1))) ((Tab.Rows ((DrawUnionAll code).2)) : List (List Val))]), (20, .box 1 [.int .i64 (Tab.Width ((iUnionAll ((DrawUnionAll code).1) ((DrawUnionAll code).2)).1)), .data (.slice (.slice (.named 1))) ((Tab.Rows ((iUnionAll ((DrawUnionAll code).1) ((DrawUnionAll code).2)).1)) : List (List Val))]), (36, .box 1 [.int .i64 (Tab.Width ((iUnionAll ((DrawUnionAll code).2) ((DrawUnionAll code).1)).1)), .data (.slice (.slice (.named 1))) ((Tab.Rows ((iUnionAll ((DrawUnionAll code).2) ((DrawUnionAll code).1)).1)) : List (List Val))])]⟩ [(-9223372036854775808 ≤ ((i + 1 : Nat) : Int) ∧ ((i + 1 : Nat) : Int) ≤ 9223372036854775807)] ?_ ?_)
       ·
        refine ⟨?_, trivial⟩
        ·
         omega
       refine AW.back (x := i) (i + 1) (by kernel_rfl) ⟨?_, k49q, ?_, e56⟩ ?_
       ·
        show True
        assumption
       ·
        show (List.length (Tab.Rows ((iUnionAll ((DrawUnionAll code).1) ((DrawUnionAll code).2)).1))) - (i + 1) < k49q
        omega
       ·
        show (List.length (Tab.Rows ((iUnionAll ((DrawUnionAll code).1) ((DrawUnionAll code).2)).1))) - (i + 1) < (List.length (Tab.Rows ((iUnionAll ((DrawUnionAll code).1) ((DrawUnionAll code).2)).1))) - i
        omega
     ·
      intro h57
      have h57q : ¬ (((i : Nat) : Int) < ((List.length (Tab.Rows ((iUnionAll ((DrawUnionAll code).1) ((DrawUnionAll code).2)).1)) : Nat) : Int)) := (of_decide_eq_false h57)
      have e58 := e48.trans (Go.Am.bif_f h57)
      refine AW.kp [3, 4, 5, 9, 10] [12, 16, 20, 36] ⟨[(3, .ref 12 1 0), (4, .ref 16 1 0), (5, .ref 20 1 0), (9, .ref 36 1 0), (10, .bool ((iUnionAll ((DrawUnionAll code).2) ((DrawUnionAll code).1)).2))], [(12, .box 1 [.int .i64 (Tab.Width ((DrawUnionAll code).1)), .data (.slice (.slice (.named 1))) ((Tab.Rows ((DrawUnionAll code).1)) : List (List Val))]), (16, .box 1 [.int .i64 (Tab.Width ((DrawUnionAll code).2)), .data (.slice (.slice (.named 1))) ((Tab.Rows ((DrawUnionAll code).2)) : List (List Val))]), (20, .box 1 [.int .i64 (Tab.Width ((iUnionAll ((DrawUnionAll code).1) ((DrawUnionAll code).2)).1)), .data (.slice (.slice (.named 1))) ((Tab.Rows ((iUnionAll ((DrawUnionAll code).1) ((DrawUnionAll code).2)).1)) : List (List Val))]), (36, .box 1 [.int .i64 (Tab.Width ((iUnionAll ((DrawUnionAll code).2) ((DrawUnionAll code).1)).1)), .data (.slice (.slice (.named 1))) ((Tab.Rows ((iUnionAll ((DrawUnionAll code).2) ((DrawUnionAll code).1)).1)) : List (List Val))])]⟩ ?_
      refine AW.exit ?_
      refine AW.meet () (by kernel_rfl) ⟨?_, e58⟩
      show True
      assumption
   ·
    intro x hR
    obtain ⟨hJ0, e59⟩ := hR
    replace hJ0 : True := hJ0
    have e60 := e19.trans (Go.Am.elim_l e59)
    refine AW.seq (AW.r0 hC [2] [] ⟨[(2, .bool (bif (bif (bif ((iUnionAll ((DrawUnionAll code).2) ((DrawUnionAll code).1)).2) then (equalTables ((iUnionAll ((DrawUnionAll code).2) ((DrawUnionAll code).1)).1) ((iUnionAll ((DrawUnionAll code).1) ((DrawUnionAll code).2)).1)) else false) then (((List.length (Tab.Rows ((iUnionAll ((DrawUnionAll code).1) ((DrawUnionAll code).2)).1)) : Nat) : Int) == (((List.length (Tab.Rows ((DrawUnionAll code).1))) + (List.length (Tab.Rows ((DrawUnionAll code).2))) : Nat) : Int)) else false) then (ValidTable ((iUnionAll ((DrawUnionAll code).1) ((DrawUnionAll code).2)).1)) else false))], []⟩ [((((iUnionAll ((DrawUnionAll code).2) ((DrawUnionAll code).1)).2) = true) → ((((iUnionAll ((DrawUnionAll code).2) ((DrawUnionAll code).1)).2) = true))), ((((iUnionAll ((DrawUnionAll code).2) ((DrawUnionAll code).1)).2) = true) → ((((iUnionAll ((DrawUnionAll code).2) ((DrawUnionAll code).1)).2) = true))), ((((iUnionAll ((DrawUnionAll code).2) ((DrawUnionAll code).1)).2) = true) → (True)), ((((iUnionAll ((DrawUnionAll code).2) ((DrawUnionAll code).1)).2) = true) → ((((iUnionAll ((DrawUnionAll code).2) ((DrawUnionAll code).1)).2) = true))), (((bif ((iUnionAll ((DrawUnionAll code).2) ((DrawUnionAll code).1)).2) then (equalTables ((iUnionAll ((DrawUnionAll code).2) ((DrawUnionAll code).1)).1) ((iUnionAll ((DrawUnionAll code).1) ((DrawUnionAll code).2)).1)) else false) = true) → (((bif ((iUnionAll ((DrawUnionAll code).2) ((DrawUnionAll code).1)).2) then (equalTables ((iUnionAll ((DrawUnionAll code).2) ((DrawUnionAll code).1)).1) ((iUnionAll ((DrawUnionAll code).1) ((DrawUnionAll code).2)).1)) else false) = true))), (((bif ((iUnionAll ((DrawUnionAll code).2) ((DrawUnionAll code).1)).2) then (equalTables ((iUnionAll ((DrawUnionAll code).2) ((DrawUnionAll code).1)).1) ((iUnionAll ((DrawUnionAll code).1) ((DrawUnionAll code).2)).1)) else false) = true) → (((bif ((iUnionAll ((DrawUnionAll code).2) ((DrawUnionAll code).1)).2) then (equalTables ((iUnionAll ((DrawUnionAll code).2) ((DrawUnionAll code).1)).1) ((iUnionAll ((DrawUnionAll code).1) ((DrawUnionAll code).2)).1)) else false) = true))), (((bif ((iUnionAll ((DrawUnionAll code).2) ((DrawUnionAll code).1)).2) then (equalTables ((iUnionAll ((DrawUnionAll code).2) ((DrawUnionAll code).1)).1) ((iUnionAll ((DrawUnionAll code).1) ((DrawUnionAll code).2)).1)) else false) = true) → (((bif ((iUnionAll ((DrawUnionAll code).2) ((DrawUnionAll code).1)).2) then (equalTables ((iUnionAll ((DrawUnionAll code).2) ((DrawUnionAll code).1)).1) ((iUnionAll ((DrawUnionAll code).1) ((DrawUnionAll code).2)).1)) else false) = true))), (((bif ((iUnionAll ((DrawUnionAll code).2) ((DrawUnionAll code).1)).2) then (equalTables ((iUnionAll ((DrawUnionAll code).2) ((DrawUnionAll code).1)).1) ((iUnionAll ((DrawUnionAll code).1) ((DrawUnionAll code).2)).1)) else false) = true) → (((bif ((iUnionAll ((DrawUnionAll code).2) ((DrawUnionAll code).1)).2) then (equalTables ((iUnionAll ((DrawUnionAll code).2) ((DrawUnionAll code).1)).1) ((iUnionAll ((DrawUnionAll code).1) ((DrawUnionAll code).2)).1)) else false) = true))), (((bif ((iUnionAll ((DrawUnionAll code).2) ((DrawUnionAll code).1)).2) then (equalTables ((iUnionAll ((DrawUnionAll code).2) ((DrawUnionAll code).1)).1) ((iUnionAll ((DrawUnionAll code).1) ((DrawUnionAll code).2)).1)) else false) = true) → (((bif ((iUnionAll ((DrawUnionAll code).2) ((DrawUnionAll code).1)).2) then (equalTables ((iUnionAll ((DrawUnionAll code).2) ((DrawUnionAll code).1)).1) ((iUnionAll ((DrawUnionAll code).1) ((DrawUnionAll code).2)).1)) else false) = true))), (((bif ((iUnionAll ((DrawUnionAll code).2) ((DrawUnionAll code).1)).2) then (equalTables ((iUnionAll ((DrawUnionAll code).2) ((DrawUnionAll code).1)).1) ((iUnionAll ((DrawUnionAll code).1) ((DrawUnionAll code).2)).1)) else false) = true) → (((bif ((iUnionAll ((DrawUnionAll code).2) ((DrawUnionAll code).1)).2) then (equalTables ((iUnionAll ((DrawUnionAll code).2) ((DrawUnionAll code).1)).1) ((iUnionAll ((DrawUnionAll code).1) ((DrawUnionAll code).2)).1)) else false) = true))), (((bif ((iUnionAll ((DrawUnionAll code).2) ((DrawUnionAll code).1)).2) then (equalTables ((iUnionAll ((DrawUnionAll code).2) ((DrawUnionAll code).1)).1) ((iUnionAll ((DrawUnionAll code).1) ((DrawUnionAll code).2)).1)) else false) = true) → (((bif ((iUnionAll ((DrawUnionAll code).2) ((DrawUnionAll code).1)).2) then (equalTables ((iUnionAll ((DrawUnionAll code).2) ((DrawUnionAll code).1)).1) ((iUnionAll ((DrawUnionAll code).1) ((DrawUnionAll code).2)).1)) else false) = true))), (((bif ((iUnionAll ((DrawUnionAll code).2) ((DrawUnionAll code).1)).2) then (equalTables ((iUnionAll ((DrawUnionAll code).2) ((DrawUnionAll code).1)).1) ((iUnionAll ((DrawUnionAll code).1) ((DrawUnionAll code).2)).1)) else false) = true) → (((bif ((iUnionAll ((DrawUnionAll code).2) ((DrawUnionAll code).1)).2) then (equalTables ((iUnionAll ((DrawUnionAll code).2) ((DrawUnionAll code).1)).1) ((iUnionAll ((DrawUnionAll code).1) ((DrawUnionAll code).2)).1)) else false) = true))), (((bif ((iUnionAll ((DrawUnionAll code).2) ((DrawUnionAll code).1)).2) then (equalTables ((iUnionAll ((DrawUnionAll code).2) ((DrawUnionAll code).1)).1) ((iUnionAll ((DrawUnionAll code).1) ((DrawUnionAll code).2)).1)) else false) = true) → (-9223372036854775808 ≤ (((List.length (Tab.Rows ((DrawUnionAll code).1))) + (List.length (Tab.Rows ((DrawUnionAll code).2))) : Nat) : Int) ∧ (((List.length (Tab.Rows ((DrawUnionAll code).1))) + (List.length (Tab.Rows ((DrawUnionAll code).2))) : Nat) : Int) ≤ 9223372036854775807)), (((bif ((iUnionAll ((DrawUnionAll code).2) ((DrawUnionAll code).1)).2) then (equalTables ((iUnionAll ((DrawUnionAll code).2) ((DrawUnionAll code).1)).1) ((iUnionAll ((DrawUnionAll code).1) ((DrawUnionAll code).2)).1)) else false) = true) → (((bif ((iUnionAll ((DrawUnionAll code).2) ((DrawUnionAll code).1)).2) then (equalTables ((iUnionAll ((DrawUnionAll code).2) ((DrawUnionAll code).1)).1) ((iUnionAll ((DrawUnionAll code).1) ((DrawUnionAll code).2)).1)) else false) = true))), (((bif ((iUnionAll ((DrawUnionAll code).2) ((DrawUnionAll code).1)).2) then (equalTables ((iUnionAll ((DrawUnionAll code).2) ((DrawUnionAll code).1)).1) ((iUnionAll ((DrawUnionAll code).1) ((DrawUnionAll code).2)).1)) else false) = true) → (((bif ((iUnionAll ((DrawUnionAll code).2) ((DrawUnionAll code).1)).2) then (equalTables ((iUnionAll ((DrawUnionAll code).2) ((DrawUnionAll code).1)).1) ((iUnionAll ((DrawUnionAll code).1) ((DrawUnionAll code).2)).1)) else false) = true))), (((bif ((iUnionAll ((DrawUnionAll code).2) ((DrawUnionAll code).1)).2) then (equalTables ((iUnionAll ((DrawUnionAll code).2) ((DrawUnionAll code).1)).1) ((iUnionAll ((DrawUnionAll code).1) ((DrawUnionAll code).2)).1)) else false) = true) → (((bif ((iUnionAll ((DrawUnionAll code).2) ((DrawUnionAll code).1)).2) then (equalTables ((iUnionAll ((DrawUnionAll code).2) ((DrawUnionAll code).1)).1) ((iUnionAll ((DrawUnionAll code).1) ((DrawUnionAll code).2)).1)) else false) = true))), (((bif (bif ((iUnionAll ((DrawUnionAll code).2) ((DrawUnionAll code).1)).2) then (equalTables ((iUnionAll ((DrawUnionAll code).2) ((DrawUnionAll code).1)).1) ((iUnionAll ((DrawUnionAll code).1) ((DrawUnionAll code).2)).1)) else false) then (((List.length (Tab.Rows ((iUnionAll ((DrawUnionAll code).1) ((DrawUnionAll code).2)).1)) : Nat) : Int) == (((List.length (Tab.Rows ((DrawUnionAll code).1))) + (List.length (Tab.Rows ((DrawUnionAll code).2))) : Nat) : Int)) else false) = true) → (((bif (bif ((iUnionAll ((DrawUnionAll code).2) ((DrawUnionAll code).1)).2) then (equalTables ((iUnionAll ((DrawUnionAll code).2) ((DrawUnionAll code).1)).1) ((iUnionAll ((DrawUnionAll code).1) ((DrawUnionAll code).2)).1)) else false) then (((List.length (Tab.Rows ((iUnionAll ((DrawUnionAll code).1) ((DrawUnionAll code).2)).1)) : Nat) : Int) == (((List.length (Tab.Rows ((DrawUnionAll code).1))) + (List.length (Tab.Rows ((DrawUnionAll code).2))) : Nat) : Int)) else false) = true))), (((bif (bif ((iUnionAll ((DrawUnionAll code).2) ((DrawUnionAll code).1)).2) then (equalTables ((iUnionAll ((DrawUnionAll code).2) ((DrawUnionAll code).1)).1) ((iUnionAll ((DrawUnionAll code).1) ((DrawUnionAll code).2)).1)) else false) then (((List.length (Tab.Rows ((iUnionAll ((DrawUnionAll code).1) ((DrawUnionAll code).2)).1)) : Nat) : Int) == (((List.length (Tab.Rows ((DrawUnionAll code).1))) + (List.length (Tab.Rows ((DrawUnionAll code).2))) : Nat) : Int)) else false) = true) → (True)), (((bif (bif ((iUnionAll ((DrawUnionAll code).2) ((DrawUnionAll code).1)).2) then (equalTables ((iUnionAll ((DrawUnionAll code).2) ((DrawUnionAll code).1)).1) ((iUnionAll ((DrawUnionAll code).1) ((DrawUnionAll code).2)).1)) else false) then (((List.length (Tab.Rows ((iUnionAll ((DrawUnionAll code).1) ((DrawUnionAll code).2)).1)) : Nat) : Int) == (((List.length (Tab.Rows ((DrawUnionAll code).1))) + (List.length (Tab.Rows ((DrawUnionAll code).2))) : Nat) : Int)) else false) = true) → (((bif (bif ((iUnionAll ((DrawUnionAll code).2) ((DrawUnionAll code).1)).2) then (equalTables ((iUnionAll ((DrawUnionAll code).2) ((DrawUnionAll code).1)).1) ((iUnionAll ((DrawUnionAll code).1) ((DrawUnionAll code).2)).1)) else false) then (((List.length (Tab.Rows ((iUnionAll ((DrawUnionAll code).1) ((DrawUnionAll code).2)).1)) : Nat) : Int) == (((List.length (Tab.Rows ((DrawUnionAll code).1))) + (List.length (Tab.Rows ((DrawUnionAll code).2))) : Nat) : Int)) else false) = true)))] ?_ ?_)
    ·
     refine ⟨?_, ?_, ?_, ?_, ?_, ?_, ?_, ?_, ?_, ?_, ?_, ?_, ?_, ?_, ?_, ?_, ?_, ?_, ?_, trivial⟩
     ·
      intro g61
      have g61p0 : ((iUnionAll ((DrawUnionAll code).2) ((DrawUnionAll code).1)).2) = true := g61
      assumption
     ·
      intro g62
      have g62p0 : ((iUnionAll ((DrawUnionAll code).2) ((DrawUnionAll code).1)).2) = true := g62
      assumption
     ·
      intro g63
      have g63p0 : ((iUnionAll ((DrawUnionAll code).2) ((DrawUnionAll code).1)).2) = true := g63
      trivial
     ·
      intro g64
      have g64p0 : ((iUnionAll ((DrawUnionAll code).2) ((DrawUnionAll code).1)).2) = true := g64
      assumption
     ·
      intro g65
      have g65p0 : (((iUnionAll ((DrawUnionAll code).2) ((DrawUnionAll code).1)).2) = true) ∧ ((equalTables ((iUnionAll ((DrawUnionAll code).2) ((DrawUnionAll code).1)).1) ((iUnionAll ((DrawUnionAll code).1) ((DrawUnionAll code).2)).1)) = true) := (And.imp (fun h => h) (fun h => h) (Go.Am.and_pos g65))
      assumption
     ·
      intro g66
      have g66p0 : (((iUnionAll ((DrawUnionAll code).2) ((DrawUnionAll code).1)).2) = true) ∧ ((equalTables ((iUnionAll ((DrawUnionAll code).2) ((DrawUnionAll code).1)).1) ((iUnionAll ((DrawUnionAll code).1) ((DrawUnionAll code).2)).1)) = true) := (And.imp (fun h => h) (fun h => h) (Go.Am.and_pos g66))
      assumption
     ·
      intro g67
      have g67p0 : (((iUnionAll ((DrawUnionAll code).2) ((DrawUnionAll code).1)).2) = true) ∧ ((equalTables ((iUnionAll ((DrawUnionAll code).2) ((DrawUnionAll code).1)).1) ((iUnionAll ((DrawUnionAll code).1) ((DrawUnionAll code).2)).1)) = true) := (And.imp (fun h => h) (fun h => h) (Go.Am.and_pos g67))
      assumption
     ·
      intro g68
      have g68p0 : (((iUnionAll ((DrawUnionAll code).2) ((DrawUnionAll code).1)).2) = true) ∧ ((equalTables ((iUnionAll ((DrawUnionAll code).2) ((DrawUnionAll code).1)).1) ((iUnionAll ((DrawUnionAll code).1) ((DrawUnionAll code).2)).1)) = true) := (And.imp (fun h => h) (fun h => h) (Go.Am.and_pos g68))
      assumption
     ·
      intro g69
      have g69p0 : (((iUnionAll ((DrawUnionAll code).2) ((DrawUnionAll code).1)).2) = true) ∧ ((equalTables ((iUnionAll ((DrawUnionAll code).2) ((DrawUnionAll code).1)).1) ((iUnionAll ((DrawUnionAll code).1) ((DrawUnionAll code).2)).1)) = true) := (And.imp (fun h => h) (fun h => h) (Go.Am.and_pos g69))
      assumption
     ·
      intro g70
      have g70p0 : (((iUnionAll ((DrawUnionAll code).2) ((DrawUnionAll code).1)).2) = true) ∧ ((equalTables ((iUnionAll ((DrawUnionAll code).2) ((DrawUnionAll code).1)).1) ((iUnionAll ((DrawUnionAll code).1) ((DrawUnionAll code).2)).1)) = true) := (And.imp (fun h => h) (fun h => h) (Go.Am.and_pos g70))
      assumption
     ·
      intro g71
      have g71p0 : (((iUnionAll ((DrawUnionAll code).2) ((DrawUnionAll code).1)).2) = true) ∧ ((equalTables ((iUnionAll ((DrawUnionAll code).2) ((DrawUnionAll code).1)).1) ((iUnionAll ((DrawUnionAll code).1) ((DrawUnionAll code).2)).1)) = true) := (And.imp (fun h => h) (fun h => h) (Go.Am.and_pos g71))
      assumption
     ·
      intro g72
      have g72p0 : (((iUnionAll ((DrawUnionAll code).2) ((DrawUnionAll code).1)).2) = true) ∧ ((equalTables ((iUnionAll ((DrawUnionAll code).2) ((DrawUnionAll code).1)).1) ((iUnionAll ((DrawUnionAll code).1) ((DrawUnionAll code).2)).1)) = true) := (And.imp (fun h => h) (fun h => h) (Go.Am.and_pos g72))
      assumption
     ·
      intro g73
      have g73p0 : (((iUnionAll ((DrawUnionAll code).2) ((DrawUnionAll code).1)).2) = true) ∧ ((equalTables ((iUnionAll ((DrawUnionAll code).2) ((DrawUnionAll code).1)).1) ((iUnionAll ((DrawUnionAll code).1) ((DrawUnionAll code).2)).1)) = true) := (And.imp (fun h => h) (fun h => h) (Go.Am.and_pos g73))
      omega
     ·
      intro g74
      have g74p0 : (((iUnionAll ((DrawUnionAll code).2) ((DrawUnionAll code).1)).2) = true) ∧ ((equalTables ((iUnionAll ((DrawUnionAll code).2) ((DrawUnionAll code).1)).1) ((iUnionAll ((DrawUnionAll code).1) ((DrawUnionAll code).2)).1)) = true) := (And.imp (fun h => h) (fun h => h) (Go.Am.and_pos g74))
      assumption
     ·
      intro g75
      have g75p0 : (((iUnionAll ((DrawUnionAll code).2) ((DrawUnionAll code).1)).2) = true) ∧ ((equalTables ((iUnionAll ((DrawUnionAll code).2) ((DrawUnionAll code).1)).1) ((iUnionAll ((DrawUnionAll code).1) ((DrawUnionAll code).2)).1)) = true) := (And.imp (fun h => h) (fun h => h) (Go.Am.and_pos g75))
      assumption
     ·
      intro g76
      have g76p0 : (((iUnionAll ((DrawUnionAll code).2) ((DrawUnionAll code).1)).2) = true) ∧ ((equalTables ((iUnionAll ((DrawUnionAll code).2) ((DrawUnionAll code).1)).1) ((iUnionAll ((DrawUnionAll code).1) ((DrawUnionAll code).2)).1)) = true) := (And.imp (fun h => h) (fun h => h) (Go.Am.and_pos g76))
      assumption
     ·
      intro g77
      have g77p0 : ((((iUnionAll ((DrawUnionAll code).2) ((DrawUnionAll code).1)).2) = true) ∧ ((equalTables ((iUnionAll ((DrawUnionAll code).2) ((DrawUnionAll code).1)).1) ((iUnionAll ((DrawUnionAll code).1) ((DrawUnionAll code).2)).1)) = true)) ∧ (((List.length (Tab.Rows ((iUnionAll ((DrawUnionAll code).1) ((DrawUnionAll code).2)).1)) : Nat) : Int) = (((List.length (Tab.Rows ((DrawUnionAll code).1))) + (List.length (Tab.Rows ((DrawUnionAll code).2))) : Nat) : Int)) := (And.imp (fun h => (And.imp (fun h => h) (fun h => h) (Go.Am.and_pos h))) (fun h => (Go.Am.beq_pos h)) (Go.Am.and_pos g77))
      assumption
     ·
      intro g78
      have g78p0 : ((((iUnionAll ((DrawUnionAll code).2) ((DrawUnionAll code).1)).2) = true) ∧ ((equalTables ((iUnionAll ((DrawUnionAll code).2) ((DrawUnionAll code).1)).1) ((iUnionAll ((DrawUnionAll code).1) ((DrawUnionAll code).2)).1)) = true)) ∧ (((List.length (Tab.Rows ((iUnionAll ((DrawUnionAll code).1) ((DrawUnionAll code).2)).1)) : Nat) : Int) = (((List.length (Tab.Rows ((DrawUnionAll code).1))) + (List.length (Tab.Rows ((DrawUnionAll code).2))) : Nat) : Int)) := (And.imp (fun h => (And.imp (fun h => h) (fun h => h) (Go.Am.and_pos h))) (fun h => (Go.Am.beq_pos h)) (Go.Am.and_pos g78))
      trivial
     ·
      intro g79
      have g79p0 : ((((iUnionAll ((DrawUnionAll code).2) ((DrawUnionAll code).1)).2) = true) ∧ ((equalTables ((iUnionAll ((DrawUnionAll code).2) ((DrawUnionAll code).1)).1) ((iUnionAll ((DrawUnionAll code).1) ((DrawUnionAll code).2)).1)) = true)) ∧ (((List.length (Tab.Rows ((iUnionAll ((DrawUnionAll code).1) ((DrawUnionAll code).2)).1)) : Nat) : Int) = (((List.length (Tab.Rows ((DrawUnionAll code).1))) + (List.length (Tab.Rows ((DrawUnionAll code).2))) : Nat) : Int)) := (And.imp (fun h => (And.imp (fun h => h) (fun h => h) (Go.Am.and_pos h))) (fun h => (Go.Am.beq_pos h)) (Go.Am.and_pos g79))
      assumption
    exact AW.ret (AW.retE (β := Bool) (fun v => [⟨.bool, v⟩]) (fun v => []) (v := (bif (bif (bif ((iUnionAll ((DrawUnionAll code).2) ((DrawUnionAll code).1)).2) then (equalTables ((iUnionAll ((DrawUnionAll code).2) ((DrawUnionAll code).1)).1) ((iUnionAll ((DrawUnionAll code).1) ((DrawUnionAll code).2)).1)) else false) then (((List.length (Tab.Rows ((iUnionAll ((DrawUnionAll code).1) ((DrawUnionAll code).2)).1)) : Nat) : Int) == (((List.length (Tab.Rows ((DrawUnionAll code).1))) + (List.length (Tab.Rows ((DrawUnionAll code).2))) : Nat) : Int)) else false) then (ValidTable ((iUnionAll ((DrawUnionAll code).1) ((DrawUnionAll code).2)).1)) else false)) e60 (by kernel_rfl) rfl rfl)

end
end Go.Proofs.Ytjcjpeckfikfkaa
