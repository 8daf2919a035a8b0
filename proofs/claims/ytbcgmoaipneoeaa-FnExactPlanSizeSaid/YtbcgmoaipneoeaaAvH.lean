/-
  A part of the proof of this claim (AvH): what functions of the program compute, and plain facts of that. No conditions.
-/
import Derived.Test.YtbcgmoaipneoeaaAvG
set_option linter.all false
namespace Go.Proofs.Ytbcgmoaipneoeaa
open Go Go.Am
noncomputable section

def szIntS (a : List Int) (left : Int) : Int := (bif (decide ((left - ((List.length a : Nat) : Int)) < 0)) then (-1) else (left - ((List.length a : Nat) : Int)))

def szIntS_sp : FnSpec := mkSpec [.val (.slice (.int .i64)), .val (.int .i64)] [.val (.int .i64)] (fun (a : List Int) (left : Int) => 0 ≤ left) (fun (a : List Int) (left : Int) => [⟨(.int .i64), (szIntS a left)⟩])

theorem szIntS_ok : FnOK Try.prog 12 szIntS_sp := by
 have hC : CtxOK Try.prog (mkCtx tyL []) := CtxOK.nil tyOK
 refine FnOK.of_body Try.func12 (by kernel_rfl) rfl (C := (mkCtx tyL [])) hC.ty (by kernel_rfl) ?_
 intro (a : List Int) (left : Int) hwf hpre E
 have hpre : 0 ≤ left := hpre
 have hw_a : Wf ⟨(.slice (.int .i64)), (a : List Int)⟩ := hwf _ (List.Mem.head _)
 have hl_a : ((List.length a : Nat) : Int) ≤ 9223372036854775807 := hw_a.len
 have hw_left : Wf ⟨(.int .i64), (left : Int)⟩ := hwf _ (List.Mem.tail _ (List.Mem.head _))
 have hr_left : -9223372036854775808 ≤ left ∧ left ≤ 9223372036854775807 := hw_left.int_inv
 have e0 : szIntS a left = szIntS a left := rfl
 refine AW.seq (AW.r1 hC [0, 1] [] ⟨[(0, sD9 a), (1, sI left)], []⟩ ?_)
 refine AW.seq (AW.r0 hC [1] [] ⟨[(1, sI (left - ((List.length a : Nat) : Int)))], []⟩ [R64 (left - ((List.length a : Nat) : Int))] ?_ ?_)
 ·
  refine ⟨?_, trivial⟩
  ·
   refine R64.of ?_
   first | omega | (dsimp only; omega) | (simp only [lens] at *; omega)
 refine AW.seq (AW.seq (AW.r1 hC [1, 10] [] ⟨[(1, sI (left - ((List.length a : Nat) : Int))), (10, sB (decide ((left - ((List.length a : Nat) : Int)) < 0)))], []⟩ ?_))
 refine AW.cd (decide ((left - ((List.length a : Nat) : Int)) < 0)) ?_ ?_
 ·
  intro h1
  have h1q := (of_decide_eq_true h1)
  have e2 := e0.trans (Go.Am.bif_t h1)
  refine AW.seq (AW.r1 hC [4] [] ⟨[(4, sI (-1))], []⟩ ?_)
  exact AW.ret (AW.rI (-1) e2)
 ·
  intro h3
  have h3q := (of_decide_eq_false h3)
  have e4 := e0.trans (Go.Am.bif_f h3)
  refine AW.kp [1] [] ⟨[(1, sI (left - ((List.length a : Nat) : Int)))], []⟩ ?_
  refine AW.skip (AW.seq (AW.r1 hC [4] [] ⟨[(4, sI (left - ((List.length a : Nat) : Int)))], []⟩ ?_))
  exact AW.ret (AW.rI (left - ((List.length a : Nat) : Int)) e4)

def szExprS_l0 (a : List Xpr) : Nat → Int → Nat → Int ⊕ Int
 | 0, left1, i => .inl left1
 | k + 1, left1, i => (bif (decide (((i : Nat) : Int) < ((List.length a : Nat) : Int))) then (bif (decide ((szExpr (List.getD a i Xpr.zero) left1) < 0)) then (.inr (-1)) else (szExprS_l0 a k (szExpr (List.getD a i Xpr.zero) left1) (i + 1))) else (.inl left1))

def szExprS (a : List Xpr) (left : Int) : Int := (bif (decide ((left - ((List.length a : Nat) : Int)) < 0)) then (-1) else (Sum.elim (fun z => (fun (left1 : Int) => left1) z) (fun r => r) (szExprS_l0 a ((List.length a) - 0 + 1) (left - ((List.length a : Nat) : Int)) 0)))

def szExprS_sp : FnSpec := mkSpec [.val (.slice (.named 1)), .val (.int .i64)] [.val (.int .i64)] (fun (a : List Xpr) (left : Int) => 0 ≤ left) (fun (a : List Xpr) (left : Int) => [⟨(.int .i64), (szExprS a left)⟩])

theorem szExprS_ok : FnOK Try.prog 11 szExprS_sp := by
 have hC : CtxOK Try.prog (mkCtx tyL [(23, szExpr_sp)]) := CtxOK.cons szExpr_ok (CtxOK.nil tyOK)
 refine FnOK.of_body Try.func11 (by kernel_rfl) rfl (C := (mkCtx tyL [(23, szExpr_sp)])) hC.ty (by kernel_rfl) ?_
 intro (a : List Xpr) (left : Int) hwf hpre E
 have hpre : 0 ≤ left := hpre
 have hw_a : Wf ⟨(.slice (.named 1)), (a : List Xpr)⟩ := hwf _ (List.Mem.head _)
 have hl_a : ((List.length a : Nat) : Int) ≤ 9223372036854775807 := hw_a.len
 have hw_left : Wf ⟨(.int .i64), (left : Int)⟩ := hwf _ (List.Mem.tail _ (List.Mem.head _))
 have hr_left : -9223372036854775808 ≤ left ∧ left ≤ 9223372036854775807 := hw_left.int_inv
 have e0 : szExprS a left = szExprS a left := rfl
 refine AW.seq (AW.r1 hC [0, 1] [] ⟨[(0, sD10 a), (1, sI left)], []⟩ ?_)
 refine AW.seq (AW.r0 hC [0, 1] [] ⟨[(0, sD10 a), (1, sI (left - ((List.length a : Nat) : Int)))], []⟩ [R64 (left - ((List.length a : Nat) : Int))] ?_ ?_)
 ·
  refine ⟨?_, trivial⟩
  ·
   refine R64.of ?_
   first | omega | (dsimp only; omega) | (simp only [lens] at *; omega)
 refine AW.seq (AW.seq (AW.r1 hC [0, 1, 11] [] ⟨[(0, sD10 a), (1, sI (left - ((List.length a : Nat) : Int))), (11, sB (decide ((left - ((List.length a : Nat) : Int)) < 0)))], []⟩ ?_))
 refine AW.cd (decide ((left - ((List.length a : Nat) : Int)) < 0)) ?_ ?_
 ·
  intro h1
  have h1q := (of_decide_eq_true h1)
  have e2 := e0.trans (Go.Am.bif_t h1)
  refine AW.seq (AW.r1 hC [4] [] ⟨[(4, sI (-1))], []⟩ ?_)
  exact AW.ret (AW.rI (-1) e2)
 ·
  intro h3
  have h3q := (of_decide_eq_false h3)
  have e4 := e0.trans (Go.Am.bif_f h3)
  refine AW.kp [0, 1] [] ⟨[(0, sD10 a), (1, sI (left - ((List.length a : Nat) : Int)))], []⟩ ?_
  refine AW.skip (AW.seq (AW.seq (AW.r1 hC [0, 1, 5] [] ⟨[(0, sD10 a), (1, sI (left - ((List.length a : Nat) : Int))), (5, sI 0)], []⟩ ?_)))
  refine AW.cutQ (α := Int) (fun x => ⟨[(1, sI x)], []⟩) (fun x => (0 ≤ x) ∧ (szExprS_l0 a ((List.length a) - 0 + 1) (left - ((List.length a : Nat) : Int)) 0) = (.inl x)) ?_ ?_
  ·
   skip
   refine AW.block (AW.loop (α := Int × Nat) (fun x => ⟨[(0, sD10 a), (1, sI x.1), (5, sI ((x.2 : Nat) : Int))], []⟩) (fun x => (0 ≤ x.1) ∧ ∃ k, (List.length a) - x.2 < k ∧ (szExprS_l0 a ((List.length a) - 0 + 1) (left - ((List.length a : Nat) : Int)) 0) = szExprS_l0 a k x.1 x.2) (fun x => (List.length a) - x.2) ((left - ((List.length a : Nat) : Int)), 0) (by kernel_rfl) ⟨?_, _, Nat.lt_succ_self _, rfl⟩ ?_)
   ·
    show 0 ≤ (left - ((List.length a : Nat) : Int))
    first | exact trivial | (refine ⟨?_, ?_⟩ <;> first | omega | simp) | omega | simp
   ·
    intro x hR
    obtain ⟨left1, i⟩ := x
    obtain ⟨hI0, k37, hk35, e36⟩ := hR
    replace hI0 : 0 ≤ left1 := hI0
    replace hk35 : (List.length a) - i < k37 := hk35
    obtain ⟨k37q, rfl⟩ : ∃ k, k37 = k + 1 := ⟨k37 - 1, by omega⟩
    refine AW.seq (AW.seq (AW.r1 hC [0, 1, 5, 15] [] ⟨[(0, sD10 a), (1, sI left1), (5, sI ((i : Nat) : Int)), (15, sB (decide (((i : Nat) : Int) < ((List.length a : Nat) : Int))))], []⟩ ?_))
    refine AW.cd (decide (((i : Nat) : Int) < ((List.length a : Nat) : Int))) ?_ ?_
    ·
     intro h38
     have h38q := (of_decide_eq_true h38)
     have e39 := e36.trans (Go.Am.bif_t h38)
     refine AW.kp [0, 1, 5] [] ⟨[(0, sD10 a), (1, sI left1), (5, sI ((i : Nat) : Int))], []⟩ ?_
     refine AW.skip (AW.seq (AW.block (AW.seq (AW.r0 hC [0, 1, 5] [] ⟨[(0, sD10 a), (1, sI (szExpr (List.getD a i Xpr.zero) left1)), (5, sI ((i : Nat) : Int))], []⟩ [IX ((i : Nat) : Int) ((List.length a : Nat) : Int), (0 ≤ left1)] ?_ ?_))))
     ·
      refine ⟨?_, ?_, trivial⟩
      ·
       refine IX.of ?_
       first | omega | (dsimp only; omega) | (simp only [lens] at *; omega)
      ·
       first | omega | (dsimp only; omega) | (simp only [lens] at *; omega)
     refine AW.seq (AW.wf_int (s := 1) (k := .i64) (n := (szExpr (List.getD a i Xpr.zero) left1)) (by kernel_rfl) fun hw40 => ?_)
     replace hw40 : -9223372036854775808 ≤ (szExpr (List.getD a i Xpr.zero) left1) ∧ (szExpr (List.getD a i Xpr.zero) left1) ≤ 9223372036854775807 := hw40
     refine AW.r1 hC [0, 1, 5, 25] [] ⟨[(0, sD10 a), (1, sI (szExpr (List.getD a i Xpr.zero) left1)), (5, sI ((i : Nat) : Int)), (25, sB (decide ((szExpr (List.getD a i Xpr.zero) left1) < 0)))], []⟩ ?_
     refine AW.cd (decide ((szExpr (List.getD a i Xpr.zero) left1) < 0)) ?_ ?_
     ·
      intro h41
      have h41q := (of_decide_eq_true h41)
      have e42 := e39.trans (Go.Am.bif_t h41)
      refine AW.seq (AW.r1 hC [4] [] ⟨[(4, sI (-1))], []⟩ ?_)
      refine AW.ret ?_
      have e43 := e4.trans (Go.Am.elim_r e42)
      exact AW.rI (-1) e43
     ·
      intro h44
      have h44q := (of_decide_eq_false h44)
      have e45 := e39.trans (Go.Am.bif_f h44)
      refine AW.kp [0, 1, 5] [] ⟨[(0, sD10 a), (1, sI (szExpr (List.getD a i Xpr.zero) left1)), (5, sI ((i : Nat) : Int))], []⟩ ?_
      refine AW.skip (AW.r0 hC [0, 1, 5] [] ⟨[(0, sD10 a), (1, sI (szExpr (List.getD a i Xpr.zero) left1)), (5, sI ((i + 1 : Nat) : Int))], []⟩ [R64 ((i + 1 : Nat) : Int)] ?_ ?_)
      ·
       refine ⟨?_, trivial⟩
       ·
        refine R64.of ?_
        first | omega | (dsimp only; omega) | (simp only [lens] at *; omega)
      refine AW.back (x := (left1, i)) ((szExpr (List.getD a i Xpr.zero) left1), i + 1) (by kernel_rfl) ⟨?_, k37q, ?_, e45⟩ ?_
      ·
       show 0 ≤ (szExpr (List.getD a i Xpr.zero) left1)
       first | assumption | exact trivial | (refine ⟨?_, ?_⟩ <;> first | omega | (simp only [lens] at *; omega)) | omega | (simp only [lens] at *; omega)
      ·
       show (List.length a) - (i + 1) < k37q
       first | omega | (simp only [lens]; omega)
      ·
       show (List.length a) - (i + 1) < (List.length a) - i
       first | omega | (simp only [lens]; omega)
    ·
     intro h46
     have h46q := (of_decide_eq_false h46)
     have e47 := e36.trans (Go.Am.bif_f h46)
     refine AW.kp [1] [] ⟨[(1, sI left1)], []⟩ ?_
     refine AW.exit ?_
     refine AW.meet left1 (by kernel_rfl) ⟨?_, e47⟩
     show 0 ≤ left1
     first | assumption | exact trivial | omega
  ·
   intro left1 hR
   obtain ⟨hJ0, e48⟩ := hR
   replace hJ0 : 0 ≤ left1 := hJ0
   have e49 := e4.trans (Go.Am.elim_l e48)
   refine AW.seq (AW.r1 hC [4] [] ⟨[(4, sI left1)], []⟩ ?_)
   exact AW.ret (AW.rI left1 e49)

def szPlan_l0 (self : Pln → Int → Int) (a : Pln) : Nat → Int → Nat → Int ⊕ Int
 | 0, left1, i => .inl left1
 | k + 1, left1, i => (bif (decide (((i : Nat) : Int) < ((List.length (Pln.Kids a) : Nat) : Int))) then (bif (decide ((self (List.getD (Pln.Kids a) i Pln.zero) left1) < 0)) then (.inr (-1)) else (szPlan_l0 self a k (self (List.getD (Pln.Kids a) i Pln.zero) left1) (i + 1))) else (.inl left1))

def szPlan_c0 (self : Pln → Int → Int) (a : Pln) (left : Int) : Int :=
 (bif (decide (((szIntS (Pln.Cols a) (szExprS (Pln.Exprs a) left)) - ((List.length (Pln.Kids a) : Nat) : Int)) < 0)) then (-1) else (Sum.elim (fun z => (fun (left1 : Int) => left1) z) (fun r => r) (szPlan_l0 self a ((List.length (Pln.Kids a)) - 0 + 1) ((szIntS (Pln.Cols a) (szExprS (Pln.Exprs a) left)) - ((List.length (Pln.Kids a) : Nat) : Int)) 0)))

def szPlan_r : Nat → Pln → Int → Int
 | 0, a, left => 0
 | fuel + 1, a, left => (bif (decide ((szExprS (Pln.Exprs a) left) < 0)) then (-1) else (bif (decide ((szIntS (Pln.Cols a) (szExprS (Pln.Exprs a) left)) < 0)) then (-1) else (Go.Am.andThen (szPlan_c0 (szPlan_r fuel) a left) (fun z => (fun (v20 : Int) => (bif (decide (v20 < 0)) then (-1) else v20)) z))))

def szPlan (a : Pln) (left : Int) : Int := szPlan_r (SizeOf.sizeOf a + 1) a left

def szPlan_spn (fuel : Nat) : FnSpec := mkSpec [.val (.named 2), .val (.int .i64)] [.val (.int .i64)] (fun (a : Pln) (left : Int) => (0 ≤ left) ∧ SizeOf.sizeOf a < fuel) (fun (a : Pln) (left : Int) => [⟨(.int .i64), (szPlan_r fuel a left)⟩])

def szPlan_sp : FnSpec := mkSpec [.val (.named 2), .val (.int .i64)] [.val (.int .i64)] (fun (a : Pln) (left : Int) => 0 ≤ left) (fun (a : Pln) (left : Int) => [⟨(.int .i64), (szPlan a left)⟩])

theorem szPlan_okn (fuel : Nat) : FnOK Try.prog 4 (szPlan_spn fuel) := by
 induction fuel with
 | zero => exact FnOK.never Try.func4 (by kernel_rfl) rfl (fun _ _ h => absurd h.2 (Nat.not_lt_zero _))
 | succ fuel ih => ?_
 have hC : CtxOK Try.prog (mkCtx tyL [(4, (szPlan_spn fuel)), (11, szExprS_sp), (12, szIntS_sp)]) := CtxOK.cons ih (CtxOK.cons szExprS_ok (CtxOK.cons szIntS_ok (CtxOK.nil tyOK)))
 have hC1 := hC.rebase 1000
 refine FnOK.of_body Try.func4 (by kernel_rfl) rfl (C := (mkCtx tyL [(4, (szPlan_spn fuel)), (11, szExprS_sp), (12, szIntS_sp)])) hC.ty (by kernel_rfl) ?_
 intro (a : Pln) (left : Int) hwf hpre E
 have hpre : (0 ≤ left) ∧ SizeOf.sizeOf a < fuel + 1 := hpre
 have hw_a : Wf ⟨(.named 2), (a : Pln)⟩ := hwf _ (List.Mem.head _)
 obtain ⟨hr_a_Kind, hr_a_Table, hl_a_Exprs, hl_a_Cols, hl_a_Kids⟩ := Pln.wfl hw_a
 have hw_left : Wf ⟨(.int .i64), (left : Int)⟩ := hwf _ (List.Mem.tail _ (List.Mem.head _))
 have hr_left : -9223372036854775808 ≤ left ∧ left ≤ 9223372036854775807 := hw_left.int_inv
 have e0 : szPlan_r (fuel + 1) a left = szPlan_r (fuel + 1) a left := rfl
 refine AW.seq (AW.r1 hC [1, 2] [8] ⟨[(1, sI left), (2, .ref 8 1 0)], [(8, .box 1 [sI (Pln.Kind a), sI (Pln.Table a), sD10 (Pln.Exprs a), sD9 (Pln.Cols a), sD11 (Pln.Kids a)])]⟩ ?_)
 refine AW.seq (AW.r0 hC [1, 2] [8] ⟨[(1, sI (szExprS (Pln.Exprs a) left)), (2, .ref 8 1 0)], [(8, .box 1 [sI (Pln.Kind a), sI (Pln.Table a), sD10 (Pln.Exprs a), sD9 (Pln.Cols a), sD11 (Pln.Kids a)])]⟩ [(0 ≤ left)] ?_ ?_)
 ·
  refine ⟨?_, trivial⟩
  ·
   first | omega | (dsimp only; omega) | (simp only [lens] at *; omega)
 refine AW.seq (AW.seq (AW.r1 hC [1, 2, 10] [8] ⟨[(1, sI (szExprS (Pln.Exprs a) left)), (2, .ref 8 1 0), (10, sB (decide ((szExprS (Pln.Exprs a) left) < 0)))], [(8, .box 1 [sI (Pln.Kind a), sI (Pln.Table a), sD10 (Pln.Exprs a), sD9 (Pln.Cols a), sD11 (Pln.Kids a)])]⟩ ?_))
 refine AW.cd (decide ((szExprS (Pln.Exprs a) left) < 0)) ?_ ?_
 ·
  intro h1
  have h1q := (of_decide_eq_true h1)
  have e2 := e0.trans (Go.Am.bif_t h1)
  refine AW.seq (AW.r1 hC [4] [] ⟨[(4, sI (-1))], []⟩ ?_)
  exact AW.ret (AW.rI (-1) e2)
 ·
  intro h3
  have h3q := (of_decide_eq_false h3)
  have e4 := e0.trans (Go.Am.bif_f h3)
  refine AW.kp [1, 2] [8] ⟨[(1, sI (szExprS (Pln.Exprs a) left)), (2, .ref 8 1 0)], [(8, .box 1 [sI (Pln.Kind a), sI (Pln.Table a), sD10 (Pln.Exprs a), sD9 (Pln.Cols a), sD11 (Pln.Kids a)])]⟩ ?_
  refine AW.skip (AW.seq (AW.r0 hC [1, 2] [8] ⟨[(1, sI (szIntS (Pln.Cols a) (szExprS (Pln.Exprs a) left))), (2, .ref 8 1 0)], [(8, .box 1 [sI (Pln.Kind a), sI (Pln.Table a), sD10 (Pln.Exprs a), sD9 (Pln.Cols a), sD11 (Pln.Kids a)])]⟩ [(0 ≤ (szExprS (Pln.Exprs a) left))] ?_ ?_))
  ·
   refine ⟨?_, trivial⟩
   ·
    first | omega | (dsimp only; omega) | (simp only [lens] at *; omega)
  refine AW.seq (AW.seq (AW.r1 hC [1, 2, 16] [8] ⟨[(1, sI (szIntS (Pln.Cols a) (szExprS (Pln.Exprs a) left))), (2, .ref 8 1 0), (16, sB (decide ((szIntS (Pln.Cols a) (szExprS (Pln.Exprs a) left)) < 0)))], [(8, .box 1 [sI (Pln.Kind a), sI (Pln.Table a), sD10 (Pln.Exprs a), sD9 (Pln.Cols a), sD11 (Pln.Kids a)])]⟩ ?_))
  refine AW.cd (decide ((szIntS (Pln.Cols a) (szExprS (Pln.Exprs a) left)) < 0)) ?_ ?_
  ·
   intro h5
   have h5q := (of_decide_eq_true h5)
   have e6 := e4.trans (Go.Am.bif_t h5)
   refine AW.seq (AW.r1 hC [4] [] ⟨[(4, sI (-1))], []⟩ ?_)
   exact AW.ret (AW.rI (-1) e6)
  ·
   intro h7
   have h7q := (of_decide_eq_false h7)
   have e8 := e4.trans (Go.Am.bif_f h7)
   refine AW.kp [1, 2] [8] ⟨[(1, sI (szIntS (Pln.Cols a) (szExprS (Pln.Exprs a) left))), (2, .ref 8 1 0)], [(8, .box 1 [sI (Pln.Kind a), sI (Pln.Table a), sD10 (Pln.Exprs a), sD9 (Pln.Cols a), sD11 (Pln.Kids a)])]⟩ ?_
   refine AW.skip (AW.seq (AW.regionO [0, 1, 2, 3, 4] (by rfl) ?_))
   refine AWO.run hC false [] [0, 1, 2] [3, 4] [18, 19] []
    ⟨[(18, sD11 (Pln.Kids a)), (19, sI (szIntS (Pln.Cols a) (szExprS (Pln.Exprs a) left)))], []⟩
    [] (by rfl) (by kernel_rfl) ?_ ?_
   ·
    exact trivial
   refine AWO.callJ hC.ty [20] [] (α := Int) (fun x => ⟨[(20, sI x)], []⟩) (fun x => (True) ∧ (szPlan_c0 (szPlan_r fuel) a left) = x) (vs := [sD11 (Pln.Kids a), sI (szIntS (Pln.Cols a) (szExprS (Pln.Exprs a) left))]) (caps := []) (by rfl) rfl (.inl rfl) (by decide) (by kernel_rfl) (by kernel_rfl) Try.func13 (by kernel_rfl) rfl (by kernel_rfl) ?_ ?_
   ·
    intro o1
    have e105 : (szPlan_c0 (szPlan_r fuel) a left) = (szPlan_c0 (szPlan_r fuel) a left) := rfl
    refine AW.kp [0, 1] [] ⟨[(0, sD11 (Pln.Kids a)), (1, sI (szIntS (Pln.Cols a) (szExprS (Pln.Exprs a) left)))], []⟩ ?_
    refine AW.seq (AW.r1 hC1 [0, 1] [] ⟨[(0, sD11 (Pln.Kids a)), (1, sI (szIntS (Pln.Cols a) (szExprS (Pln.Exprs a) left)))], []⟩ ?_)
    refine AW.seq (AW.wf_int (s := 1) (k := .i64) (n := (szIntS (Pln.Cols a) (szExprS (Pln.Exprs a) left))) (by kernel_rfl) fun hw106 => ?_)
    replace hw106 : -9223372036854775808 ≤ (szIntS (Pln.Cols a) (szExprS (Pln.Exprs a) left)) ∧ (szIntS (Pln.Cols a) (szExprS (Pln.Exprs a) left)) ≤ 9223372036854775807 := hw106
    refine AW.r0 hC1 [0, 1] [] ⟨[(0, sD11 (Pln.Kids a)), (1, sI ((szIntS (Pln.Cols a) (szExprS (Pln.Exprs a) left)) - ((List.length (Pln.Kids a) : Nat) : Int)))], []⟩ [R64 ((szIntS (Pln.Cols a) (szExprS (Pln.Exprs a) left)) - ((List.length (Pln.Kids a) : Nat) : Int))] ?_ ?_
    ·
     refine ⟨?_, trivial⟩
     ·
      refine R64.of ?_
      first | omega | (dsimp only; omega) | (simp only [lens] at *; omega)
    refine AW.seq (AW.seq (AW.r1 hC1 [0, 1, 11] [] ⟨[(0, sD11 (Pln.Kids a)), (1, sI ((szIntS (Pln.Cols a) (szExprS (Pln.Exprs a) left)) - ((List.length (Pln.Kids a) : Nat) : Int))), (11, sB (decide (((szIntS (Pln.Cols a) (szExprS (Pln.Exprs a) left)) - ((List.length (Pln.Kids a) : Nat) : Int)) < 0)))], []⟩ ?_))
    refine AW.cd (decide (((szIntS (Pln.Cols a) (szExprS (Pln.Exprs a) left)) - ((List.length (Pln.Kids a) : Nat) : Int)) < 0)) ?_ ?_
    ·
     intro h107
     have h107q := (of_decide_eq_true h107)
     have e108 := e105.trans (Go.Am.bif_t h107)
     refine AW.seq (AW.r1 hC1 [4] [] ⟨[(4, sI (-1))], []⟩ ?_)
     refine AW.ret ?_
     refine ⟨(-1), [sI (-1)], by kernel_rfl, by kernel_rfl, ?_, e108⟩
     show True
     first | exact trivial | assumption | omega
    ·
     intro h109
     have h109q := (of_decide_eq_false h109)
     have e110 := e105.trans (Go.Am.bif_f h109)
     refine AW.kp [0, 1] [] ⟨[(0, sD11 (Pln.Kids a)), (1, sI ((szIntS (Pln.Cols a) (szExprS (Pln.Exprs a) left)) - ((List.length (Pln.Kids a) : Nat) : Int)))], []⟩ ?_
     refine AW.skip (AW.seq (AW.seq (AW.r1 hC1 [0, 1, 5] [] ⟨[(0, sD11 (Pln.Kids a)), (1, sI ((szIntS (Pln.Cols a) (szExprS (Pln.Exprs a) left)) - ((List.length (Pln.Kids a) : Nat) : Int))), (5, sI 0)], []⟩ ?_)))
     refine AW.cutQ (α := Int) (fun x => ⟨[(1, sI x)], []⟩) (fun x => (0 ≤ x) ∧ (szPlan_l0 (szPlan_r fuel) a ((List.length (Pln.Kids a)) - 0 + 1) ((szIntS (Pln.Cols a) (szExprS (Pln.Exprs a) left)) - ((List.length (Pln.Kids a) : Nat) : Int)) 0) = (.inl x)) ?_ ?_
     ·
      skip
      refine AW.block (AW.loop (α := Int × Nat) (fun x => ⟨[(0, sD11 (Pln.Kids a)), (1, sI x.1), (5, sI ((x.2 : Nat) : Int))], []⟩) (fun x => (0 ≤ x.1) ∧ ∃ k, (List.length (Pln.Kids a)) - x.2 < k ∧ (szPlan_l0 (szPlan_r fuel) a ((List.length (Pln.Kids a)) - 0 + 1) ((szIntS (Pln.Cols a) (szExprS (Pln.Exprs a) left)) - ((List.length (Pln.Kids a) : Nat) : Int)) 0) = szPlan_l0 (szPlan_r fuel) a k x.1 x.2) (fun x => (List.length (Pln.Kids a)) - x.2) (((szIntS (Pln.Cols a) (szExprS (Pln.Exprs a) left)) - ((List.length (Pln.Kids a) : Nat) : Int)), 0) (by kernel_rfl) ⟨?_, _, Nat.lt_succ_self _, rfl⟩ ?_)
      ·
       show 0 ≤ ((szIntS (Pln.Cols a) (szExprS (Pln.Exprs a) left)) - ((List.length (Pln.Kids a) : Nat) : Int))
       first | exact trivial | (refine ⟨?_, ?_⟩ <;> first | omega | simp) | omega | simp
      ·
       intro x hR
       obtain ⟨left1, i⟩ := x
       obtain ⟨hI0, k143, hk141, e142⟩ := hR
       replace hI0 : 0 ≤ left1 := hI0
       replace hk141 : (List.length (Pln.Kids a)) - i < k143 := hk141
       obtain ⟨k143q, rfl⟩ : ∃ k, k143 = k + 1 := ⟨k143 - 1, by omega⟩
       refine AW.seq (AW.seq (AW.r1 hC1 [0, 1, 5, 15] [] ⟨[(0, sD11 (Pln.Kids a)), (1, sI left1), (5, sI ((i : Nat) : Int)), (15, sB (decide (((i : Nat) : Int) < ((List.length (Pln.Kids a) : Nat) : Int))))], []⟩ ?_))
       refine AW.cd (decide (((i : Nat) : Int) < ((List.length (Pln.Kids a) : Nat) : Int))) ?_ ?_
       ·
        intro h144
        have h144q := (of_decide_eq_true h144)
        have e145 := e142.trans (Go.Am.bif_t h144)
        refine AW.kp [0, 1, 5] [] ⟨[(0, sD11 (Pln.Kids a)), (1, sI left1), (5, sI ((i : Nat) : Int))], []⟩ ?_
        refine AW.skip (AW.seq (AW.block (AW.seq (AW.r0 hC1 [0, 1, 5] [] ⟨[(0, sD11 (Pln.Kids a)), (1, sI ((szPlan_r fuel) (List.getD (Pln.Kids a) i Pln.zero) left1)), (5, sI ((i : Nat) : Int))], []⟩ [IX ((i : Nat) : Int) ((List.length (Pln.Kids a) : Nat) : Int), ((0 ≤ left1) ∧ SizeOf.sizeOf (List.getD (Pln.Kids a) i Pln.zero) < fuel)] ?_ ?_))))
        ·
         refine ⟨?_, ?_, trivial⟩
         ·
          refine IX.of ?_
          first | omega | (dsimp only; omega) | (simp only [lens] at *; omega)
         ·
          exact ⟨by omega, Nat.lt_of_lt_of_le (pkid_lt (by omega)) (Nat.le_of_lt_succ hpre.2)⟩
        refine AW.seq (AW.wf_int (s := 1) (k := .i64) (n := ((szPlan_r fuel) (List.getD (Pln.Kids a) i Pln.zero) left1)) (by kernel_rfl) fun hw146 => ?_)
        replace hw146 : -9223372036854775808 ≤ ((szPlan_r fuel) (List.getD (Pln.Kids a) i Pln.zero) left1) ∧ ((szPlan_r fuel) (List.getD (Pln.Kids a) i Pln.zero) left1) ≤ 9223372036854775807 := hw146
        refine AW.r1 hC1 [0, 1, 5, 25] [] ⟨[(0, sD11 (Pln.Kids a)), (1, sI ((szPlan_r fuel) (List.getD (Pln.Kids a) i Pln.zero) left1)), (5, sI ((i : Nat) : Int)), (25, sB (decide (((szPlan_r fuel) (List.getD (Pln.Kids a) i Pln.zero) left1) < 0)))], []⟩ ?_
        refine AW.cd (decide (((szPlan_r fuel) (List.getD (Pln.Kids a) i Pln.zero) left1) < 0)) ?_ ?_
        ·
         intro h147
         have h147q := (of_decide_eq_true h147)
         have e148 := e145.trans (Go.Am.bif_t h147)
         refine AW.seq (AW.r1 hC1 [4] [] ⟨[(4, sI (-1))], []⟩ ?_)
         refine AW.ret ?_
         have e149 := e110.trans (Go.Am.elim_r e148)
         refine ⟨(-1), [sI (-1)], by kernel_rfl, by kernel_rfl, ?_, e149⟩
         show True
         first | exact trivial | assumption | omega
        ·
         intro h150
         have h150q := (of_decide_eq_false h150)
         have e151 := e145.trans (Go.Am.bif_f h150)
         refine AW.kp [0, 1, 5] [] ⟨[(0, sD11 (Pln.Kids a)), (1, sI ((szPlan_r fuel) (List.getD (Pln.Kids a) i Pln.zero) left1)), (5, sI ((i : Nat) : Int))], []⟩ ?_
         refine AW.skip (AW.r0 hC1 [0, 1, 5] [] ⟨[(0, sD11 (Pln.Kids a)), (1, sI ((szPlan_r fuel) (List.getD (Pln.Kids a) i Pln.zero) left1)), (5, sI ((i + 1 : Nat) : Int))], []⟩ [R64 ((i + 1 : Nat) : Int)] ?_ ?_)
         ·
          refine ⟨?_, trivial⟩
          ·
           refine R64.of ?_
           first | omega | (dsimp only; omega) | (simp only [lens] at *; omega)
         refine AW.back (x := (left1, i)) (((szPlan_r fuel) (List.getD (Pln.Kids a) i Pln.zero) left1), i + 1) (by kernel_rfl) ⟨?_, k143q, ?_, e151⟩ ?_
         ·
          show 0 ≤ ((szPlan_r fuel) (List.getD (Pln.Kids a) i Pln.zero) left1)
          first | assumption | exact trivial | (refine ⟨?_, ?_⟩ <;> first | omega | (simp only [lens] at *; omega)) | omega | (simp only [lens] at *; omega)
         ·
          show (List.length (Pln.Kids a)) - (i + 1) < k143q
          first | omega | (simp only [lens]; omega)
         ·
          show (List.length (Pln.Kids a)) - (i + 1) < (List.length (Pln.Kids a)) - i
          first | omega | (simp only [lens]; omega)
       ·
        intro h152
        have h152q := (of_decide_eq_false h152)
        have e153 := e142.trans (Go.Am.bif_f h152)
        refine AW.kp [1] [] ⟨[(1, sI left1)], []⟩ ?_
        refine AW.exit ?_
        refine AW.meet left1 (by kernel_rfl) ⟨?_, e153⟩
        show 0 ≤ left1
        first | assumption | exact trivial | omega
     ·
      intro left1 hR
      obtain ⟨hJ0, e154⟩ := hR
      replace hJ0 : 0 ≤ left1 := hJ0
      have e155 := e110.trans (Go.Am.elim_l e154)
      refine AW.seq (AW.r1 hC1 [4] [] ⟨[(4, sI left1)], []⟩ ?_)
      refine AW.ret ?_
      refine ⟨left1, [sI left1], by kernel_rfl, by kernel_rfl, ?_, e155⟩
      show True
      first | exact trivial | assumption | omega
   ·
    intro v20 hR
    obtain ⟨hK0, e156⟩ := hR
    replace hK0 : True := hK0
    have e157 := e8.trans (Go.Am.then_eq e156)
    refine AWO.run hC false [] [4] [] [1] []
     ⟨[(1, sI v20)], []⟩
     [] (by rfl) (by kernel_rfl) ?_ ?_
    ·
     exact trivial
    refine AWO.nil ?_
    refine AW.seq (AW.seq (AW.r1 hC [1, 22] [] ⟨[(1, sI v20), (22, sB (decide (v20 < 0)))], []⟩ ?_))
    refine AW.cd (decide (v20 < 0)) ?_ ?_
    ·
     intro h158
     have h158q := (of_decide_eq_true h158)
     have e159 := e157.trans (Go.Am.bif_t h158)
     refine AW.seq (AW.r1 hC [4] [] ⟨[(4, sI (-1))], []⟩ ?_)
     exact AW.ret (AW.rI (-1) e159)
    ·
     intro h160
     have h160q := (of_decide_eq_false h160)
     have e161 := e157.trans (Go.Am.bif_f h160)
     refine AW.kp [1] [] ⟨[(1, sI v20)], []⟩ ?_
     refine AW.skip (AW.seq (AW.r1 hC [4] [] ⟨[(4, sI v20)], []⟩ ?_))
     exact AW.ret (AW.rI v20 e161)

theorem szPlan_fu : AllTV (szPlan_sp.ps.map PK.ty) (fun tvs => szPlan_sp.pre tvs → ∃ k, (szPlan_spn k).pre tvs ∧ (szPlan_spn k).fn tvs = szPlan_sp.fn tvs ∧ (szPlan_spn k).bx tvs = szPlan_sp.bx tvs) :=
 (fun (a : Pln) (left : Int) h => ⟨SizeOf.sizeOf a + 1, (show (0 ≤ left) ∧ SizeOf.sizeOf a < SizeOf.sizeOf a + 1 from ⟨h, Nat.lt_succ_self _⟩), (show (szPlan_spn (SizeOf.sizeOf a + 1)).fn [⟨(.named 2), (a : Pln)⟩, ⟨(.int .i64), (left : Int)⟩] = ([⟨(.int .i64), (szPlan_r (SizeOf.sizeOf a + 1) a left)⟩] : List TV) from by kernel_rfl).trans (show ([⟨(.int .i64), (szPlan_r (SizeOf.sizeOf a + 1) a left)⟩] : List TV) = szPlan_sp.fn [⟨(.named 2), (a : Pln)⟩, ⟨(.int .i64), (left : Int)⟩] from by kernel_rfl), by kernel_rfl⟩)

theorem szPlan_ok : FnOK Try.prog 4 szPlan_sp := FnOK.of_fuel szPlan_okn (fun _ => rfl) (fun _ => rfl) (AllTV.get szPlan_fu)

theorem szIntS_le {a : List Int} {l : Int} (h : ¬ szIntS a l < 0) : (List.length a : Int) ≤ l ∧ szIntS a l ≤ l := by
 unfold szIntS at *
 by_cases e : l - ((List.length a : Nat) : Int) < 0
 ·
  rw [show decide (l - ((List.length a : Nat) : Int) < 0) = true by simp [e], cond_true] at h
  omega
 ·
  rw [show decide (l - ((List.length a : Nat) : Int) < 0) = false by simp; omega, cond_false] at *
  omega

theorem szExpr_le (t : Xpr) {l : Int} (h : 0 ≤ l) : szExpr t l ≤ l := sz_le _ t l h

theorem szExprS_loop (a : List Xpr) : ∀ (k : Nat) (left : Int) (i : Nat), a.length - i < k → 0 ≤ left → left ≤ 1048576 → 0 ≤ Sum.elim (fun z => (fun (left1 : Int) => left1) z) (fun r => r) (szExprS_l0 a k left i) →
  Sum.elim (fun z => (fun (left1 : Int) => left1) z) (fun r => r) (szExprS_l0 a k left i) ≤ left ∧ ∀ j, i ≤ j → j < a.length → Fits (a.getD j Xpr.zero) := by
 intro k
 induction k with
 | zero => intro left i h; omega
 | succ k ih =>
  intro left i h h1 h2 h3
  unfold szExprS_l0 at h3 ⊢
  by_cases hi : i < a.length
  ·
   rw [lt_dec hi, cond_true] at h3 ⊢
   by_cases hn : szExpr (a.getD i Xpr.zero) left < 0
   ·
    rw [decide_eq_true hn] at h3
    exact absurd h3 (by simp only [cond_true, Sum.elim_inr]; decide)
   ·
    rw [decide_eq_false hn, cond_false] at h3 ⊢
    have hle := szExpr_le (a.getD i Xpr.zero) h1
    obtain ⟨b1, b2⟩ := ih _ (i + 1) (by omega) (by omega) (by omega) h3
    refine ⟨by omega, fun j hj hjl => ?_⟩
    rcases Nat.eq_or_lt_of_le hj with rfl | hj
    ·
     exact Fits.of ⟨h1, h2⟩ hn
    ·
     exact b2 j (by omega) hjl
  ·
   rw [ge_dec hi, cond_false]
   exact ⟨Int.le_refl _, fun j hj hjl => by omega⟩

structure FitS (a : List Xpr) : Prop where
 len : ((a.length : Nat) : Int) ≤ 1048576
 el : ∀ j, j < a.length → Fits (a.getD j Xpr.zero)

theorem szExprS_le {a : List Xpr} {l : Int} (hl : 0 ≤ l ∧ l ≤ 1048576) (h : ¬ szExprS a l < 0) : szExprS a l ≤ l ∧ FitS a := by
 unfold szExprS at *
 by_cases e : l - ((List.length a : Nat) : Int) < 0
 ·
  rw [decide_eq_true e, cond_true] at h
  omega
 ·
  rw [decide_eq_false e, cond_false] at *
  obtain ⟨a1, a2⟩ := szExprS_loop a _ _ 0 (by omega) (by omega) (by omega) (Int.not_lt.1 h)
  exact ⟨by omega, by omega, fun j hj => a2 j (by omega) hj⟩

theorem szExprS_ub {a : List Xpr} {l : Int} (h : 0 ≤ l) : szExprS a l ≤ l := by
 have key : ∀ (k : Nat) (left : Int) (i : Nat), 0 ≤ left → left ≤ l → Sum.elim (fun z => (fun (left1 : Int) => left1) z) (fun r => r) (szExprS_l0 a k left i) ≤ l := by
  intro k
  induction k with
  | zero => intro left i _ h2; exact h2
  | succ k ihk =>
   intro left i h1 h2
   unfold szExprS_l0
   cases decide (((i : Nat) : Int) < ((List.length a : Nat) : Int)) with
   | false => exact h2
   | true =>
    simp only [cond_true]
    by_cases hn : szExpr (List.getD a i Xpr.zero) left < 0
    ·
     rw [decide_eq_true hn]
     simp only [cond_true, Sum.elim_inr]
     omega
    ·
     rw [decide_eq_false hn, cond_false]
     have := szExpr_le (List.getD a i Xpr.zero) h1
     exact ihk _ _ (by omega) (by omega)
 unfold szExprS
 by_cases e : l - ((List.length a : Nat) : Int) < 0
 ·
  rw [decide_eq_true e, cond_true]; omega
 ·
  rw [decide_eq_false e, cond_false]
  exact key _ _ _ (by omega) (by omega)

theorem szP_le : ∀ (f : Nat) (t : Pln) (l : Int), 0 ≤ l → szPlan_r f t l ≤ l := by
 intro f
 induction f with
 | zero => intro t l h; exact h
 | succ f ih =>
  intro t l h
  have hl : ∀ (k : Nat) (left : Int) (i : Nat), 0 ≤ left → left ≤ l → Sum.elim (fun z => (fun (left1 : Int) => left1) z) (fun r => r) (szPlan_l0 (szPlan_r f) t k left i) ≤ l := by
   intro k
   induction k with
   | zero => intro left i _ h2; exact h2
   | succ k ihk =>
    intro left i h1 h2
    unfold szPlan_l0
    cases decide (((i : Nat) : Int) < ((List.length (Pln.Kids t) : Nat) : Int)) with
    | false => exact h2
    | true =>
     simp only [cond_true]
     by_cases hn : szPlan_r f (List.getD (Pln.Kids t) i Pln.zero) left < 0
     ·
      rw [decide_eq_true hn]
      simp only [cond_true, Sum.elim_inr]
      omega
     ·
      rw [decide_eq_false hn, cond_false]
      have := ih (List.getD (Pln.Kids t) i Pln.zero) left h1
      exact ihk _ _ (by omega) (by omega)
  have h1 := szExprS_ub (a := t.Exprs) h
  simp only [szPlan_r, Go.Am.andThen]
  by_cases n1 : szExprS t.Exprs l < 0
  ·
   rw [decide_eq_true n1, cond_true]; omega
  ·
   rw [decide_eq_false n1, cond_false]
   by_cases n2 : szIntS t.Cols (szExprS t.Exprs l) < 0
   ·
    rw [decide_eq_true n2, cond_true]; omega
   ·
    rw [decide_eq_false n2, cond_false]
    have h2 := szIntS_le n2
    have hc : szPlan_c0 (szPlan_r f) t l ≤ l := by
     unfold szPlan_c0
     by_cases hn : szIntS t.Cols (szExprS t.Exprs l) - ((List.length (Pln.Kids t) : Nat) : Int) < 0
     ·
      rw [decide_eq_true hn, cond_true]; omega
     ·
      rw [decide_eq_false hn, cond_false]
      exact hl _ _ _ (by omega) (by omega)
    by_cases hn : szPlan_c0 (szPlan_r f) t l < 0
    ·
     rw [decide_eq_true hn, cond_true]; omega
    ·
     rw [decide_eq_false hn, cond_false]; exact hc

def FitsP (a : Pln) : Prop := ∃ f l, SizeOf.sizeOf a < f ∧ (0 ≤ l ∧ l ≤ 1048576) ∧ 0 ≤ szPlan_r f a l

theorem FitsP.of {a : Pln} {l : Int} (hl : 0 ≤ l ∧ l ≤ 1048576) (h : ¬ szPlan a l < 0) : FitsP a := ⟨SizeOf.sizeOf a + 1, l, Nat.lt_succ_self _, hl, by unfold szPlan at h; omega⟩

structure PF (a : Pln) : Prop where
 exprs : FitS a.Exprs
 cols : ((a.Cols.length : Nat) : Int) ≤ 1048576
 kids : ((a.Kids.length : Nat) : Int) ≤ 1048576
 el : ∀ i, i < a.Kids.length → FitsP (List.getD a.Kids i Pln.zero)

theorem FitsP.parts {a : Pln} (h : FitsP a) : PF a := by
 obtain ⟨f, l, hf, hl, h0⟩ := h
 cases f with
 | zero => omega
 | succ f =>
  simp only [szPlan_r, Go.Am.andThen] at h0
  by_cases n1 : szExprS a.Exprs l < 0
  ·
   rw [decide_eq_true n1, cond_true] at h0; omega
  ·
   rw [decide_eq_false n1, cond_false] at h0
   obtain ⟨x1, x2⟩ := szExprS_le hl n1
   by_cases n2 : szIntS a.Cols (szExprS a.Exprs l) < 0
   ·
    rw [decide_eq_true n2, cond_true] at h0; omega
   ·
    rw [decide_eq_false n2, cond_false] at h0
    have x3 := szIntS_le n2
    have hc : 0 ≤ szPlan_c0 (szPlan_r f) a l := by
     by_cases hn : szPlan_c0 (szPlan_r f) a l < 0
     ·
      rw [decide_eq_true hn, cond_true] at h0; omega
     ·
      omega
    unfold szPlan_c0 at hc
    by_cases hn : szIntS a.Cols (szExprS a.Exprs l) - ((List.length (Pln.Kids a) : Nat) : Int) < 0
    ·
     rw [decide_eq_true hn, cond_true] at hc; omega
    ·
     rw [decide_eq_false hn, cond_false] at hc
     refine ⟨x2, by omega, by omega, ?_⟩
     have key : ∀ (k : Nat) (left : Int) (i : Nat), a.Kids.length - i < k → 0 ≤ left → left ≤ l → 0 ≤ Sum.elim (fun z => (fun (left1 : Int) => left1) z) (fun r => r) (szPlan_l0 (szPlan_r f) a k left i) →
       ∀ j, i ≤ j → j < a.Kids.length → FitsP (List.getD a.Kids j Pln.zero) := by
      intro k
      induction k with
      | zero => intro left i hk; omega
      | succ k ihk =>
       intro left i hk h1 h2 h3 j hj hjl
       unfold szPlan_l0 at h3
       rw [lt_dec (show i < a.Kids.length by omega), cond_true] at h3
       by_cases hn : szPlan_r f (List.getD (Pln.Kids a) i Pln.zero) left < 0
       ·
        rw [decide_eq_true hn] at h3
        simp only [cond_true, Sum.elim_inr] at h3
        exact absurd h3 (by decide)
       ·
        rw [decide_eq_false hn, cond_false] at h3
        rcases Nat.eq_or_lt_of_le hj with rfl | hj
        ·
         exact ⟨f, left, Nat.lt_of_lt_of_le (pkid_lt hjl) (Nat.le_of_lt_succ hf), ⟨h1, by omega⟩, by omega⟩
        ·
         have := szP_le f (List.getD (Pln.Kids a) i Pln.zero) left h1
         exact ihk _ _ (by omega) (by omega) (by omega) h3 j hj hjl
     exact fun i hi => key _ _ 0 (by omega) (by omega) (by omega) hc i (Nat.zero_le _) hi

def toExprS_l0 (a : List Xpr) : Nat → Nat → (List Xpr) → (List Xpr)
 | 0, i, out => out
 | k + 1, i, out => (bif (decide (((i : Nat) : Int) < ((List.length a : Nat) : Int))) then (toExprS_l0 a k (i + 1) (List.set out i (toExpr (List.getD a i Xpr.zero)))) else out)

def toExprS (a : List Xpr) : (List Xpr) := (Go.Am.andThen (toExprS_l0 a ((List.length a) - 0 + 1) 0 (List.replicate (List.length a) Xpr.zero : List Xpr)) (fun z => (fun (out : List Xpr) => out) z))

def toExprS_sp : FnSpec := mkSpec [.val (.slice (.named 1))] [.own (.named 1)] (fun (a : List Xpr) => FitS a) (fun (a : List Xpr) => [⟨(.slice (.named 1)), (toExprS a)⟩])

theorem toExprS_ok : FnOK Try.prog 16 toExprS_sp := by
 have hC : CtxOK Try.prog (mkCtx tyL [(26, toExpr_sp)]) := CtxOK.cons toExpr_ok (CtxOK.nil tyOK)
 refine FnOK.of_body Try.func16 (by kernel_rfl) rfl (C := (mkCtx tyL [(26, toExpr_sp)])) hC.ty (by kernel_rfl) ?_
 intro (a : List Xpr) hwf hpre E
 have hpre : FitS a := hpre
 have hw_a : Wf ⟨(.slice (.named 1)), (a : List Xpr)⟩ := hwf _ (List.Mem.head _)
 have hl_a : ((List.length a : Nat) : Int) ≤ 9223372036854775807 := hw_a.len
 have e0 : toExprS a = toExprS a := rfl
 refine AW.seq (AW.r1 hC [0] [] ⟨[(0, sD10 a)], []⟩ ?_)
 refine AW.seq (AW.r0 hC [0, 3] [28] ⟨[(0, sD10 a), (3, .arr 28 1)], [(28, .arr 1 (.named 1) ((List.replicate (List.length a) Xpr.zero : List Xpr) : List Xpr))]⟩ [(0 ≤ ((List.length a : Nat) : Int) ∧ ((List.length a : Nat) : Int) ≤ ((List.length a : Nat) : Int) ∧ ((List.length a : Nat) : Int) ≤ 4294967296)] ?_ ?_)
 ·
  refine ⟨?_, trivial⟩
  ·
   have := hpre.len
   omega
 refine AW.seq (AW.seq (AW.r1 hC [0, 3, 4] [28] ⟨[(0, sD10 a), (3, .arr 28 1), (4, sI 0)], [(28, .arr 1 (.named 1) ((List.replicate (List.length a) Xpr.zero : List Xpr) : List Xpr))]⟩ ?_))
 refine AW.cutQ (α := (List Xpr)) (fun x => ⟨[(3, .arr 28 1)], [(28, .arr 1 (.named 1) (x : List Xpr))]⟩) (fun x => (List.length x = List.length a) ∧ (toExprS_l0 a ((List.length a) - 0 + 1) 0 (List.replicate (List.length a) Xpr.zero : List Xpr)) = x) ?_ ?_
 ·
  skip
  refine AW.block (AW.loop (α := Nat × (List Xpr)) (fun x => ⟨[(0, sD10 a), (3, .arr 28 1), (4, sI ((x.1 : Nat) : Int))], [(28, .arr 1 (.named 1) (x.2 : List Xpr))]⟩) (fun x => (List.length x.2 = List.length a) ∧ ∃ k, (List.length a) - x.1 < k ∧ (toExprS_l0 a ((List.length a) - 0 + 1) 0 (List.replicate (List.length a) Xpr.zero : List Xpr)) = toExprS_l0 a k x.1 x.2) (fun x => (List.length a) - x.1) (0, (List.replicate (List.length a) Xpr.zero : List Xpr)) (by kernel_rfl) ⟨?_, _, Nat.lt_succ_self _, rfl⟩ ?_)
  ·
   show List.length (List.replicate (List.length a) Xpr.zero : List Xpr) = List.length a
   first | exact trivial | (refine ⟨?_, ?_⟩ <;> first | omega | simp) | omega | simp
  ·
   intro x hR
   obtain ⟨i, out⟩ := x
   obtain ⟨hI0, k15, hk13, e14⟩ := hR
   replace hI0 : List.length out = List.length a := hI0
   replace hk13 : (List.length a) - i < k15 := hk13
   obtain ⟨k15q, rfl⟩ : ∃ k, k15 = k + 1 := ⟨k15 - 1, by omega⟩
   refine AW.seq (AW.seq (AW.r1 hC [0, 3, 4, 11] [28] ⟨[(0, sD10 a), (3, .arr 28 1), (4, sI ((i : Nat) : Int)), (11, sB (decide (((i : Nat) : Int) < ((List.length a : Nat) : Int))))], [(28, .arr 1 (.named 1) (out : List Xpr))]⟩ ?_))
   refine AW.cd (decide (((i : Nat) : Int) < ((List.length a : Nat) : Int))) ?_ ?_
   ·
    intro h16
    have h16q := (of_decide_eq_true h16)
    have e17 := e14.trans (Go.Am.bif_t h16)
    refine AW.kp [0, 3, 4] [28] ⟨[(0, sD10 a), (3, .arr 28 1), (4, sI ((i : Nat) : Int))], [(28, .arr 1 (.named 1) (out : List Xpr))]⟩ ?_
    refine AW.skip (AW.seq (AW.block (AW.r0 hC [0, 3, 4] [28] ⟨[(0, sD10 a), (3, .arr 28 1), (4, sI ((i : Nat) : Int))], [(28, .arr 1 (.named 1) ((List.set out i (toExpr (List.getD a i Xpr.zero))) : List Xpr))]⟩ [IX ((i : Nat) : Int) ((List.length a : Nat) : Int), (Fits (List.getD a i Xpr.zero)), IX ((i : Nat) : Int) ((List.length out : Nat) : Int)] ?_ ?_)))
    ·
     refine ⟨?_, ?_, ?_, trivial⟩
     ·
      refine IX.of ?_
      have := hpre.len
      omega
     ·
      exact hpre.el _ (by omega)
     ·
      refine IX.of ?_
      have := hpre.len
      omega
    refine AW.r0 hC [0, 3, 4] [28] ⟨[(0, sD10 a), (3, .arr 28 1), (4, sI ((i + 1 : Nat) : Int))], [(28, .arr 1 (.named 1) ((List.set out i (toExpr (List.getD a i Xpr.zero))) : List Xpr))]⟩ [R64 ((i + 1 : Nat) : Int)] ?_ ?_
    ·
     refine ⟨?_, trivial⟩
     ·
      refine R64.of ?_
      have := hpre.len
      omega
    refine AW.back (x := (i, out)) (i + 1, (List.set out i (toExpr (List.getD a i Xpr.zero)))) (by kernel_rfl) ⟨?_, k15q, ?_, e17⟩ ?_
    ·
     show List.length (List.set out i (toExpr (List.getD a i Xpr.zero))) = List.length a
     first | assumption | exact trivial | (refine ⟨?_, ?_⟩ <;> first | omega | (simp only [lens] at *; omega)) | omega | (simp only [lens] at *; omega)
    ·
     show (List.length a) - (i + 1) < k15q
     first | omega | (simp only [lens]; omega)
    ·
     show (List.length a) - (i + 1) < (List.length a) - i
     first | omega | (simp only [lens]; omega)
   ·
    intro h18
    have h18q := (of_decide_eq_false h18)
    have e19 := e14.trans (Go.Am.bif_f h18)
    refine AW.kp [3] [28] ⟨[(3, .arr 28 1)], [(28, .arr 1 (.named 1) (out : List Xpr))]⟩ ?_
    refine AW.exit ?_
    refine AW.meet out (by kernel_rfl) ⟨?_, e19⟩
    show List.length out = List.length a
    first | assumption | exact trivial | omega
 ·
  intro out hR
  obtain ⟨hJ0, e20⟩ := hR
  replace hJ0 : List.length out = List.length a := hJ0
  have e21 := e0.trans (Go.Am.then_eq e20)
  refine AW.seq (AW.r1 hC [2] [28] ⟨[(2, .arr 28 1)], [(28, .arr 1 (.named 1) (out : List Xpr))]⟩ ?_)
  exact AW.ret (AW.retE (β := (List Xpr)) (fun v => [⟨(.slice (.named 1)), v⟩]) (fun v => []) (v := out) e21 (by kernel_rfl) rfl rfl)

def eqExprS_l0 (a : List Xpr) (b : List Xpr) : Nat → Nat → Unit ⊕ Bool
 | 0, i => .inl ()
 | k + 1, i => (bif (decide (((i : Nat) : Int) < ((List.length a : Nat) : Int))) then (bif (!(eqExpr (List.getD a i Xpr.zero) (List.getD b i Xpr.zero))) then (.inr false) else (eqExprS_l0 a b k (i + 1))) else (.inl ()))

def eqExprS (a : List Xpr) (b : List Xpr) : Bool := (bif (((List.length a : Nat) : Int) != ((List.length b : Nat) : Int)) then false else (Sum.elim (fun _ => true) (fun r => r) (eqExprS_l0 a b ((List.length a) - 0 + 1) 0)))

def eqExprS_sp : FnSpec := mkSpec [.val (.slice (.named 1)), .val (.slice (.named 1))] [.val .bool] (fun (a : List Xpr) (b : List Xpr) => True) (fun (a : List Xpr) (b : List Xpr) => [⟨.bool, (eqExprS a b)⟩])

theorem eqExprS_ok : FnOK Try.prog 21 eqExprS_sp := by
 have hC : CtxOK Try.prog (mkCtx tyL [(29, eqExpr_sp)]) := CtxOK.cons eqExpr_ok (CtxOK.nil tyOK)
 have hM : Try.prog.follows .mixedOrders = true := Try.checked.mixed
 refine FnOK.of_body Try.func21 (by kernel_rfl) rfl (C := (mkCtx tyL [(29, eqExpr_sp)])) hC.ty (by kernel_rfl) ?_
 intro (a : List Xpr) (b : List Xpr) hwf hpre E
 have hpre : True := hpre
 have hw_a : Wf ⟨(.slice (.named 1)), (a : List Xpr)⟩ := hwf _ (List.Mem.head _)
 have hl_a : ((List.length a : Nat) : Int) ≤ 9223372036854775807 := hw_a.len
 have hw_b : Wf ⟨(.slice (.named 1)), (b : List Xpr)⟩ := hwf _ (List.Mem.tail _ (List.Mem.head _))
 have hl_b : ((List.length b : Nat) : Int) ≤ 9223372036854775807 := hw_b.len
 have e0 : eqExprS a b = eqExprS a b := rfl
 refine AW.seq (AW.r1 hC [0, 1] [] ⟨[(0, sD10 a), (1, sD10 b)], []⟩ ?_)
 refine AW.seq (AW.seq (AW.r1 hC [0, 1, 10] [] ⟨[(0, sD10 a), (1, sD10 b), (10, sB (((List.length a : Nat) : Int) != ((List.length b : Nat) : Int)))], []⟩ ?_))
 refine AW.cd (((List.length a : Nat) : Int) != ((List.length b : Nat) : Int)) ?_ ?_
 ·
  intro h1
  have h1q := (Go.Am.bne_pos h1)
  have e2 := e0.trans (Go.Am.bif_t h1)
  refine AW.seq (AW.r1 hC [4] [] ⟨[(4, sB false)], []⟩ ?_)
  exact AW.ret (AW.rB false e2)
 ·
  intro h3
  have h3q := (Go.Am.bne_neg h3)
  have e4 := e0.trans (Go.Am.bif_f h3)
  refine AW.kp [0, 1] [] ⟨[(0, sD10 a), (1, sD10 b)], []⟩ ?_
  refine AW.skip (AW.seq (AW.seq (AW.r1 hC [0, 1, 5] [] ⟨[(0, sD10 a), (1, sD10 b), (5, sI 0)], []⟩ ?_)))
  refine AW.cutQ (α := Unit) (fun x => ⟨[], []⟩) (fun x => (True) ∧ (eqExprS_l0 a b ((List.length a) - 0 + 1) 0) = (.inl ())) ?_ ?_
  ·
   skip
   refine AW.block (AW.loop (α := Nat) (fun x => ⟨[(0, sD10 a), (1, sD10 b), (5, sI ((x : Nat) : Int))], []⟩) (fun x => (True) ∧ ∃ k, (List.length a) - x < k ∧ (eqExprS_l0 a b ((List.length a) - 0 + 1) 0) = eqExprS_l0 a b k x) (fun x => (List.length a) - x) 0 (by kernel_rfl) ⟨?_, _, Nat.lt_succ_self _, rfl⟩ ?_)
   ·
    show True
    first | exact trivial | (refine ⟨?_, ?_⟩ <;> first | omega | simp) | omega | simp
   ·
    intro i hR
    obtain ⟨hI0, k34, hk32, e33⟩ := hR
    replace hI0 : True := hI0
    replace hk32 : (List.length a) - i < k34 := hk32
    obtain ⟨k34q, rfl⟩ : ∃ k, k34 = k + 1 := ⟨k34 - 1, by omega⟩
    refine AW.seq (AW.seq (AW.r1 hC [0, 1, 5, 14] [] ⟨[(0, sD10 a), (1, sD10 b), (5, sI ((i : Nat) : Int)), (14, sB (decide (((i : Nat) : Int) < ((List.length a : Nat) : Int))))], []⟩ ?_))
    refine AW.cd (decide (((i : Nat) : Int) < ((List.length a : Nat) : Int))) ?_ ?_
    ·
     intro h35
     have h35q := (of_decide_eq_true h35)
     have e36 := e33.trans (Go.Am.bif_t h35)
     refine AW.kp [0, 1, 5] [] ⟨[(0, sD10 a), (1, sD10 b), (5, sI ((i : Nat) : Int))], []⟩ ?_
     refine AW.skip (AW.seq (AW.block (AW.seq (AW.d0 hC hM [0, 1, 5, 26] [] ⟨[(0, sD10 a), (1, sD10 b), (5, sI ((i : Nat) : Int)), (26, sB (!(eqExpr (List.getD a i Xpr.zero) (List.getD b i Xpr.zero))))], []⟩ [IX ((i : Nat) : Int) ((List.length a : Nat) : Int), IX ((i : Nat) : Int) ((List.length b : Nat) : Int), (True)] ?_ ?_))))
     ·
      refine ⟨?_, ?_, ?_, trivial⟩
      ·
       refine IX.of ?_
       first | omega | (dsimp only; omega) | (simp only [lens] at *; omega)
      ·
       refine IX.of ?_
       first | omega | (dsimp only; omega) | (simp only [lens] at *; omega)
      ·
       trivial
     refine AW.cd (!(eqExpr (List.getD a i Xpr.zero) (List.getD b i Xpr.zero))) ?_ ?_
     ·
      intro h37
      have h37q := (Go.Am.not_pos h37)
      have e38 := e36.trans (Go.Am.bif_t h37)
      refine AW.seq (AW.r1 hC [4] [] ⟨[(4, sB false)], []⟩ ?_)
      refine AW.ret ?_
      have e39 := e4.trans (Go.Am.elim_r e38)
      exact AW.rB false e39
     ·
      intro h40
      have h40q := (Go.Am.not_neg h40)
      have e41 := e36.trans (Go.Am.bif_f h40)
      refine AW.kp [0, 1, 5] [] ⟨[(0, sD10 a), (1, sD10 b), (5, sI ((i : Nat) : Int))], []⟩ ?_
      refine AW.skip (AW.r0 hC [0, 1, 5] [] ⟨[(0, sD10 a), (1, sD10 b), (5, sI ((i + 1 : Nat) : Int))], []⟩ [R64 ((i + 1 : Nat) : Int)] ?_ ?_)
      ·
       refine ⟨?_, trivial⟩
       ·
        refine R64.of ?_
        first | omega | (dsimp only; omega) | (simp only [lens] at *; omega)
      refine AW.back (x := i) (i + 1) (by kernel_rfl) ⟨?_, k34q, ?_, e41⟩ ?_
      ·
       show True
       first | assumption | exact trivial | (refine ⟨?_, ?_⟩ <;> first | omega | (simp only [lens] at *; omega)) | omega | (simp only [lens] at *; omega)
      ·
       show (List.length a) - (i + 1) < k34q
       first | omega | (simp only [lens]; omega)
      ·
       show (List.length a) - (i + 1) < (List.length a) - i
       first | omega | (simp only [lens]; omega)
    ·
     intro h42
     have h42q := (of_decide_eq_false h42)
     have e43 := e33.trans (Go.Am.bif_f h42)
     refine AW.kp [] [] ⟨[], []⟩ ?_
     refine AW.exit ?_
     refine AW.meet () (by kernel_rfl) ⟨?_, e43⟩
     show True
     first | assumption | exact trivial | omega
  ·
   intro x hR
   obtain ⟨hJ0, e44⟩ := hR
   replace hJ0 : True := hJ0
   have e45 := e4.trans (Go.Am.elim_l e44)
   refine AW.seq (AW.r1 hC [4] [] ⟨[(4, sB true)], []⟩ ?_)
   exact AW.ret (AW.rB true e45)

def toPlan_l0 (self : Pln → Pln) (a : Pln) : Nat → Nat → (List Pln) → (List Pln)
 | 0, i, out => out
 | k + 1, i, out => (bif (decide (((i : Nat) : Int) < ((List.length (Pln.Kids a) : Nat) : Int))) then (toPlan_l0 self a k (i + 1) (List.set out i (self (List.getD (Pln.Kids a) i Pln.zero)))) else out)

def toPlan_r : Nat → Pln → Pln
 | 0, a => Pln.zero
 | fuel + 1, a => (Go.Am.andThen (toPlan_l0 (toPlan_r fuel) a ((List.length (Pln.Kids a)) - 0 + 1) 0 (List.replicate (List.length (Pln.Kids a)) Pln.zero : List Pln)) (fun z => (fun (out : List Pln) => (Pln.mk (Pln.Kind a) (Pln.Table a) (toExprS (Pln.Exprs a)) (toIntS (Pln.Cols a)) out)) z))

def toPlan (a : Pln) : Pln := toPlan_r (SizeOf.sizeOf a + 1) a

def toPlan_spn (fuel : Nat) : FnSpec := mkSpec [.val (.named 2)] [.val (.named 2)] (fun (a : Pln) => (FitsP a) ∧ SizeOf.sizeOf a < fuel) (fun (a : Pln) => [⟨(.named 2), (toPlan_r fuel a)⟩])

def toPlan_sp : FnSpec := mkSpec [.val (.named 2)] [.val (.named 2)] (fun (a : Pln) => FitsP a) (fun (a : Pln) => [⟨(.named 2), (toPlan a)⟩])

theorem toPlan_okn (fuel : Nat) : FnOK Try.prog 6 (toPlan_spn fuel) := by
 induction fuel with
 | zero => exact FnOK.never Try.func6 (by kernel_rfl) rfl (fun _ h => absurd h.2 (Nat.not_lt_zero _))
 | succ fuel ih => ?_
 have hC : CtxOK Try.prog (mkCtx tyL [(6, (toPlan_spn fuel)), (7, toIntS_sp), (16, toExprS_sp)]) := CtxOK.cons ih (CtxOK.cons toIntS_ok (CtxOK.cons toExprS_ok (CtxOK.nil tyOK)))
 have hC1 := hC.rebase 1000
 refine FnOK.of_body Try.func6 (by kernel_rfl) rfl (C := (mkCtx tyL [(6, (toPlan_spn fuel)), (7, toIntS_sp), (16, toExprS_sp)])) hC.ty (by kernel_rfl) ?_
 intro (a : Pln) hwf hpre E
 have hpre : (FitsP a) ∧ SizeOf.sizeOf a < fuel + 1 := hpre
 have hw_a : Wf ⟨(.named 2), (a : Pln)⟩ := hwf _ (List.Mem.head _)
 obtain ⟨hr_a_Kind, hr_a_Table, hl_a_Exprs, hl_a_Cols, hl_a_Kids⟩ := Pln.wfl hw_a
 have e0 : toPlan_r (fuel + 1) a = toPlan_r (fuel + 1) a := rfl
 refine AW.seq (AW.r1 hC [1, 2] [4, 8] ⟨[(1, .ref 4 1 0), (2, .ref 8 1 0)], [(4, .box 1 [sI (Pln.Kind a), sI (Pln.Table a), sD10 (Pln.Exprs a), sD9 (Pln.Cols a), sD11 (Pln.Kids a)]), (8, .box 1 [sI 0, sI 0, .nilsl, .nilsl, .nilsl])]⟩ ?_)
 refine AW.seq (AW.r1 hC [1, 2, 3] [4, 8, 12] ⟨[(1, .ref 4 1 0), (2, .ref 8 1 0), (3, .ref 12 1 0)], [(4, .box 1 [sI (Pln.Kind a), sI (Pln.Table a), sD10 (Pln.Exprs a), sD9 (Pln.Cols a), sD11 (Pln.Kids a)]), (8, .box 1 [sI 0, sI 0, .nilsl, .nilsl, .nilsl]), (12, .box 1 [sI 0, sI 0, .nilsl, .nilsl, .nilsl])]⟩ ?_)
 refine AW.seq (AW.r1 hC [1, 2, 3] [4, 8, 12] ⟨[(1, .ref 4 1 0), (2, .ref 8 1 0), (3, .ref 12 1 0)], [(4, .box 1 [sI (Pln.Kind a), sI (Pln.Table a), sD10 (Pln.Exprs a), sD9 (Pln.Cols a), sD11 (Pln.Kids a)]), (8, .box 1 [sI 0, sI 0, .nilsl, .nilsl, .nilsl]), (12, .box 1 [sI (Pln.Kind a), sI 0, .nilsl, .nilsl, .nilsl])]⟩ ?_)
 refine AW.seq (AW.r1 hC [1, 2, 3] [4, 8, 12] ⟨[(1, .ref 4 1 0), (2, .ref 8 1 0), (3, .ref 12 1 0)], [(4, .box 1 [sI (Pln.Kind a), sI (Pln.Table a), sD10 (Pln.Exprs a), sD9 (Pln.Cols a), sD11 (Pln.Kids a)]), (8, .box 1 [sI 0, sI 0, .nilsl, .nilsl, .nilsl]), (12, .box 1 [sI (Pln.Kind a), sI (Pln.Table a), .nilsl, .nilsl, .nilsl])]⟩ ?_)
 refine AW.seq (AW.r0 hC [1, 2, 3] [4, 8, 12, 48] ⟨[(1, .ref 4 1 0), (2, .ref 8 1 0), (3, .ref 12 1 0)], [(4, .box 1 [sI (Pln.Kind a), sI (Pln.Table a), sD10 (Pln.Exprs a), sD9 (Pln.Cols a), sD11 (Pln.Kids a)]), (8, .box 1 [sI 0, sI 0, .nilsl, .nilsl, .nilsl]), (12, .box 1 [sI (Pln.Kind a), sI (Pln.Table a), .arr 48 1, .nilsl, .nilsl]), (48, .arr 1 (.named 1) ((toExprS (Pln.Exprs a)) : List Xpr))]⟩ [(FitS (Pln.Exprs a))] ?_ ?_)
 ·
  refine ⟨?_, trivial⟩
  ·
   exact hpre.1.parts.exprs
 refine AW.seq (AW.r0 hC [1, 2, 3] [4, 8, 12, 48, 64] ⟨[(1, .ref 4 1 0), (2, .ref 8 1 0), (3, .ref 12 1 0)], [(4, .box 1 [sI (Pln.Kind a), sI (Pln.Table a), sD10 (Pln.Exprs a), sD9 (Pln.Cols a), sD11 (Pln.Kids a)]), (8, .box 1 [sI 0, sI 0, .nilsl, .nilsl, .nilsl]), (12, .box 1 [sI (Pln.Kind a), sI (Pln.Table a), .arr 48 1, .arr 64 1, .nilsl]), (48, .arr 1 (.named 1) ((toExprS (Pln.Exprs a)) : List Xpr)), (64, .arr 1 (.int .i64) ((toIntS (Pln.Cols a)) : List Int))]⟩ [((List.length (Pln.Cols a) : Int) ≤ 1048576)] ?_ ?_)
 ·
  refine ⟨?_, trivial⟩
  ·
   exact hpre.1.parts.cols
 refine AW.seq (AW.regionO [0, 1, 2, 3, 4] (by rfl) ?_)
 refine AWO.run hC false [] [0, 1] [2, 3, 4] [2, 3, 19] [8, 12, 48, 64]
  ⟨[(2, .ref 8 1 0), (3, .ref 12 1 0), (19, sD11 (Pln.Kids a))], [(8, .box 1 [sI 0, sI 0, .nilsl, .nilsl, .nilsl]), (12, .box 1 [sI (Pln.Kind a), sI (Pln.Table a), .arr 48 1, .arr 64 1, .nilsl]), (48, .arr 1 (.named 1) ((toExprS (Pln.Exprs a)) : List Xpr)), (64, .arr 1 (.int .i64) ((toIntS (Pln.Cols a)) : List Int))]⟩
  [] (by rfl) (by kernel_rfl) ?_ ?_
 ·
  exact trivial
 refine AWO.call hC.ty (vs := [sD11 (Pln.Kids a)]) (caps := []) (by rfl) rfl (.inl rfl) (by decide) (by kernel_rfl) (by kernel_rfl) Try.func17 (by kernel_rfl) rfl (by kernel_rfl) ?_
 intro o1
 refine AW.kp [0, 1002, 1003] [8, 12, 48, 64] ⟨[(0, sD11 (Pln.Kids a)), (1002, .ref 8 1 0), (1003, .ref 12 1 0)], [(8, .box 1 [sI 0, sI 0, .nilsl, .nilsl, .nilsl]), (12, .box 1 [sI (Pln.Kind a), sI (Pln.Table a), .arr 48 1, .arr 64 1, .nilsl]), (48, .arr 1 (.named 1) ((toExprS (Pln.Exprs a)) : List Xpr)), (64, .arr 1 (.int .i64) ((toIntS (Pln.Cols a)) : List Int))]⟩ ?_
 refine AW.seq (AW.r1 hC1 [0, 1002, 1003] [8, 12, 48, 64] ⟨[(0, sD11 (Pln.Kids a)), (1002, .ref 8 1 0), (1003, .ref 12 1 0)], [(8, .box 1 [sI 0, sI 0, .nilsl, .nilsl, .nilsl]), (12, .box 1 [sI (Pln.Kind a), sI (Pln.Table a), .arr 48 1, .arr 64 1, .nilsl]), (48, .arr 1 (.named 1) ((toExprS (Pln.Exprs a)) : List Xpr)), (64, .arr 1 (.int .i64) ((toIntS (Pln.Cols a)) : List Int))]⟩ ?_)
 refine AW.seq (AW.r0 hC1 [0, 3, 1002, 1003] [8, 12, 48, 64, 4028] ⟨[(0, sD11 (Pln.Kids a)), (3, .arr 4028 1), (1002, .ref 8 1 0), (1003, .ref 12 1 0)], [(8, .box 1 [sI 0, sI 0, .nilsl, .nilsl, .nilsl]), (12, .box 1 [sI (Pln.Kind a), sI (Pln.Table a), .arr 48 1, .arr 64 1, .nilsl]), (48, .arr 1 (.named 1) ((toExprS (Pln.Exprs a)) : List Xpr)), (64, .arr 1 (.int .i64) ((toIntS (Pln.Cols a)) : List Int)), (4028, .arr 1 (.named 2) ((List.replicate (List.length (Pln.Kids a)) Pln.zero : List Pln) : List Pln))]⟩ [(0 ≤ ((List.length (Pln.Kids a) : Nat) : Int) ∧ ((List.length (Pln.Kids a) : Nat) : Int) ≤ ((List.length (Pln.Kids a) : Nat) : Int) ∧ ((List.length (Pln.Kids a) : Nat) : Int) ≤ 4294967296)] ?_ ?_)
 ·
  refine ⟨?_, trivial⟩
  ·
   have := hpre.1.parts.kids
   omega
 refine AW.seq (AW.seq (AW.r1 hC1 [0, 3, 4, 1002, 1003] [8, 12, 48, 64, 4028] ⟨[(0, sD11 (Pln.Kids a)), (3, .arr 4028 1), (4, sI 0), (1002, .ref 8 1 0), (1003, .ref 12 1 0)], [(8, .box 1 [sI 0, sI 0, .nilsl, .nilsl, .nilsl]), (12, .box 1 [sI (Pln.Kind a), sI (Pln.Table a), .arr 48 1, .arr 64 1, .nilsl]), (48, .arr 1 (.named 1) ((toExprS (Pln.Exprs a)) : List Xpr)), (64, .arr 1 (.int .i64) ((toIntS (Pln.Cols a)) : List Int)), (4028, .arr 1 (.named 2) ((List.replicate (List.length (Pln.Kids a)) Pln.zero : List Pln) : List Pln))]⟩ ?_))
 refine AW.cutQ (α := (List Pln)) (fun x => ⟨[(3, .arr 4028 1), (1002, .ref 8 1 0), (1003, .ref 12 1 0)], [(8, .box 1 [sI 0, sI 0, .nilsl, .nilsl, .nilsl]), (12, .box 1 [sI (Pln.Kind a), sI (Pln.Table a), .arr 48 1, .arr 64 1, .nilsl]), (48, .arr 1 (.named 1) ((toExprS (Pln.Exprs a)) : List Xpr)), (64, .arr 1 (.int .i64) ((toIntS (Pln.Cols a)) : List Int)), (4028, .arr 1 (.named 2) (x : List Pln))]⟩) (fun x => (List.length x = List.length (Pln.Kids a)) ∧ (toPlan_l0 (toPlan_r fuel) a ((List.length (Pln.Kids a)) - 0 + 1) 0 (List.replicate (List.length (Pln.Kids a)) Pln.zero : List Pln)) = x) ?_ ?_
 ·
  skip
  refine AW.block (AW.loop (α := Nat × (List Pln)) (fun x => ⟨[(0, sD11 (Pln.Kids a)), (3, .arr 4028 1), (4, sI ((x.1 : Nat) : Int)), (1002, .ref 8 1 0), (1003, .ref 12 1 0)], [(8, .box 1 [sI 0, sI 0, .nilsl, .nilsl, .nilsl]), (12, .box 1 [sI (Pln.Kind a), sI (Pln.Table a), .arr 48 1, .arr 64 1, .nilsl]), (48, .arr 1 (.named 1) ((toExprS (Pln.Exprs a)) : List Xpr)), (64, .arr 1 (.int .i64) ((toIntS (Pln.Cols a)) : List Int)), (4028, .arr 1 (.named 2) (x.2 : List Pln))]⟩) (fun x => (List.length x.2 = List.length (Pln.Kids a)) ∧ ∃ k, (List.length (Pln.Kids a)) - x.1 < k ∧ (toPlan_l0 (toPlan_r fuel) a ((List.length (Pln.Kids a)) - 0 + 1) 0 (List.replicate (List.length (Pln.Kids a)) Pln.zero : List Pln)) = toPlan_l0 (toPlan_r fuel) a k x.1 x.2) (fun x => (List.length (Pln.Kids a)) - x.1) (0, (List.replicate (List.length (Pln.Kids a)) Pln.zero : List Pln)) (by kernel_rfl) ⟨?_, _, Nat.lt_succ_self _, rfl⟩ ?_)
  ·
   show List.length (List.replicate (List.length (Pln.Kids a)) Pln.zero : List Pln) = List.length (Pln.Kids a)
   first | exact trivial | (refine ⟨?_, ?_⟩ <;> first | omega | simp) | omega | simp
  ·
   intro x hR
   obtain ⟨i, out⟩ := x
   obtain ⟨hI0, k20, hk18, e19⟩ := hR
   replace hI0 : List.length out = List.length (Pln.Kids a) := hI0
   replace hk18 : (List.length (Pln.Kids a)) - i < k20 := hk18
   obtain ⟨k20q, rfl⟩ : ∃ k, k20 = k + 1 := ⟨k20 - 1, by omega⟩
   have hF := hpre.1.parts
   refine AW.seq (AW.seq (AW.r1 hC1 [0, 3, 4, 11, 1002, 1003] [8, 12, 48, 64, 4028] ⟨[(0, sD11 (Pln.Kids a)), (3, .arr 4028 1), (4, sI ((i : Nat) : Int)), (11, sB (decide (((i : Nat) : Int) < ((List.length (Pln.Kids a) : Nat) : Int)))), (1002, .ref 8 1 0), (1003, .ref 12 1 0)], [(8, .box 1 [sI 0, sI 0, .nilsl, .nilsl, .nilsl]), (12, .box 1 [sI (Pln.Kind a), sI (Pln.Table a), .arr 48 1, .arr 64 1, .nilsl]), (48, .arr 1 (.named 1) ((toExprS (Pln.Exprs a)) : List Xpr)), (64, .arr 1 (.int .i64) ((toIntS (Pln.Cols a)) : List Int)), (4028, .arr 1 (.named 2) (out : List Pln))]⟩ ?_))
   refine AW.cd (decide (((i : Nat) : Int) < ((List.length (Pln.Kids a) : Nat) : Int))) ?_ ?_
   ·
    intro h21
    have h21q := (of_decide_eq_true h21)
    have e22 := e19.trans (Go.Am.bif_t h21)
    refine AW.kp [0, 3, 4, 1002, 1003] [8, 12, 48, 64, 4028] ⟨[(0, sD11 (Pln.Kids a)), (3, .arr 4028 1), (4, sI ((i : Nat) : Int)), (1002, .ref 8 1 0), (1003, .ref 12 1 0)], [(8, .box 1 [sI 0, sI 0, .nilsl, .nilsl, .nilsl]), (12, .box 1 [sI (Pln.Kind a), sI (Pln.Table a), .arr 48 1, .arr 64 1, .nilsl]), (48, .arr 1 (.named 1) ((toExprS (Pln.Exprs a)) : List Xpr)), (64, .arr 1 (.int .i64) ((toIntS (Pln.Cols a)) : List Int)), (4028, .arr 1 (.named 2) (out : List Pln))]⟩ ?_
    refine AW.skip (AW.seq (AW.block (AW.r0 hC1 [0, 3, 4, 1002, 1003] [8, 12, 48, 64, 4028] ⟨[(0, sD11 (Pln.Kids a)), (3, .arr 4028 1), (4, sI ((i : Nat) : Int)), (1002, .ref 8 1 0), (1003, .ref 12 1 0)], [(8, .box 1 [sI 0, sI 0, .nilsl, .nilsl, .nilsl]), (12, .box 1 [sI (Pln.Kind a), sI (Pln.Table a), .arr 48 1, .arr 64 1, .nilsl]), (48, .arr 1 (.named 1) ((toExprS (Pln.Exprs a)) : List Xpr)), (64, .arr 1 (.int .i64) ((toIntS (Pln.Cols a)) : List Int)), (4028, .arr 1 (.named 2) ((List.set out i ((toPlan_r fuel) (List.getD (Pln.Kids a) i Pln.zero))) : List Pln))]⟩ [IX ((i : Nat) : Int) ((List.length (Pln.Kids a) : Nat) : Int), ((FitsP (List.getD (Pln.Kids a) i Pln.zero)) ∧ SizeOf.sizeOf (List.getD (Pln.Kids a) i Pln.zero) < fuel), IX ((i : Nat) : Int) ((List.length out : Nat) : Int)] ?_ ?_)))
    ·
     refine ⟨?_, ?_, ?_, trivial⟩
     ·
      refine IX.of ?_
      first | omega | (dsimp only; omega) | (simp only [lens] at *; omega)
     ·
      exact ⟨hpre.1.parts.el _ (by omega), Nat.lt_of_lt_of_le (pkid_lt (by omega)) (Nat.le_of_lt_succ hpre.2)⟩
     ·
      refine IX.of ?_
      first | omega | (dsimp only; omega) | (simp only [lens] at *; omega)
    refine AW.r0 hC1 [0, 3, 4, 1002, 1003] [8, 12, 48, 64, 4028] ⟨[(0, sD11 (Pln.Kids a)), (3, .arr 4028 1), (4, sI ((i + 1 : Nat) : Int)), (1002, .ref 8 1 0), (1003, .ref 12 1 0)], [(8, .box 1 [sI 0, sI 0, .nilsl, .nilsl, .nilsl]), (12, .box 1 [sI (Pln.Kind a), sI (Pln.Table a), .arr 48 1, .arr 64 1, .nilsl]), (48, .arr 1 (.named 1) ((toExprS (Pln.Exprs a)) : List Xpr)), (64, .arr 1 (.int .i64) ((toIntS (Pln.Cols a)) : List Int)), (4028, .arr 1 (.named 2) ((List.set out i ((toPlan_r fuel) (List.getD (Pln.Kids a) i Pln.zero))) : List Pln))]⟩ [R64 ((i + 1 : Nat) : Int)] ?_ ?_
    ·
     refine ⟨?_, trivial⟩
     ·
      refine R64.of ?_
      first | omega | (dsimp only; omega) | (simp only [lens] at *; omega)
    refine AW.back (x := (i, out)) (i + 1, (List.set out i ((toPlan_r fuel) (List.getD (Pln.Kids a) i Pln.zero)))) (by kernel_rfl) ⟨?_, k20q, ?_, e22⟩ ?_
    ·
     show List.length (List.set out i ((toPlan_r fuel) (List.getD (Pln.Kids a) i Pln.zero))) = List.length (Pln.Kids a)
     first | assumption | exact trivial | (refine ⟨?_, ?_⟩ <;> first | omega | (simp only [lens] at *; omega)) | omega | (simp only [lens] at *; omega)
    ·
     show (List.length (Pln.Kids a)) - (i + 1) < k20q
     first | omega | (simp only [lens]; omega)
    ·
     show (List.length (Pln.Kids a)) - (i + 1) < (List.length (Pln.Kids a)) - i
     first | omega | (simp only [lens]; omega)
   ·
    intro h23
    have h23q := (of_decide_eq_false h23)
    have e24 := e19.trans (Go.Am.bif_f h23)
    refine AW.kp [3, 1002, 1003] [8, 12, 48, 64, 4028] ⟨[(3, .arr 4028 1), (1002, .ref 8 1 0), (1003, .ref 12 1 0)], [(8, .box 1 [sI 0, sI 0, .nilsl, .nilsl, .nilsl]), (12, .box 1 [sI (Pln.Kind a), sI (Pln.Table a), .arr 48 1, .arr 64 1, .nilsl]), (48, .arr 1 (.named 1) ((toExprS (Pln.Exprs a)) : List Xpr)), (64, .arr 1 (.int .i64) ((toIntS (Pln.Cols a)) : List Int)), (4028, .arr 1 (.named 2) (out : List Pln))]⟩ ?_
    refine AW.exit ?_
    refine AW.meet out (by kernel_rfl) ⟨?_, e24⟩
    show List.length out = List.length (Pln.Kids a)
    first | assumption | exact trivial | omega
 ·
  intro out hR
  obtain ⟨hJ0, e25⟩ := hR
  replace hJ0 : List.length out = List.length (Pln.Kids a) := hJ0
  have e26 := e0.trans (Go.Am.then_eq e25)
  refine AW.seq (AW.r1 hC1 [2, 1002, 1003] [8, 12, 48, 64, 4028] ⟨[(2, .arr 4028 1), (1002, .ref 8 1 0), (1003, .ref 12 1 0)], [(8, .box 1 [sI 0, sI 0, .nilsl, .nilsl, .nilsl]), (12, .box 1 [sI (Pln.Kind a), sI (Pln.Table a), .arr 48 1, .arr 64 1, .nilsl]), (48, .arr 1 (.named 1) ((toExprS (Pln.Exprs a)) : List Xpr)), (64, .arr 1 (.int .i64) ((toIntS (Pln.Cols a)) : List Int)), (4028, .arr 1 (.named 2) (out : List Pln))]⟩ ?_)
  refine AW.ret ?_
  refine ⟨[.arr 4028 1], by kernel_rfl, ?_⟩
  refine AWO.keep [2, 3, 20] [8, 12, 48, 64, 4028] ⟨[(2, .ref 8 1 0), (3, .ref 12 1 0), (20, .arr 4028 1)], [(8, .box 1 [sI 0, sI 0, .nilsl, .nilsl, .nilsl]), (12, .box 1 [sI (Pln.Kind a), sI (Pln.Table a), .arr 48 1, .arr 64 1, .nilsl]), (48, .arr 1 (.named 1) ((toExprS (Pln.Exprs a)) : List Xpr)), (64, .arr 1 (.int .i64) ((toIntS (Pln.Cols a)) : List Int)), (4028, .arr 1 (.named 2) (out : List Pln))]⟩ (by kernel_rfl) ?_
  refine AWO.run hC false [] [3, 4] [] [2, 3] [8, 12, 48, 64, 4028]
   ⟨[(2, .ref 8 1 0), (3, .ref 12 1 0)], [(8, .box 1 [sI 0, sI 0, .nilsl, .nilsl, .nilsl]), (12, .box 1 [sI (Pln.Kind a), sI (Pln.Table a), .arr 48 1, .arr 64 1, .arr 4028 1]), (48, .arr 1 (.named 1) ((toExprS (Pln.Exprs a)) : List Xpr)), (64, .arr 1 (.int .i64) ((toIntS (Pln.Cols a)) : List Int)), (4028, .arr 1 (.named 2) (out : List Pln))]⟩
   [] (by rfl) (by kernel_rfl) ?_ ?_
  ·
   exact trivial
  refine AWO.nil ?_
  refine AW.seq (AW.r1 hC [2] [8, 48, 64, 4028] ⟨[(2, .ref 8 1 0)], [(8, .box 1 [sI (Pln.Kind a), sI (Pln.Table a), .arr 48 1, .arr 64 1, .arr 4028 1]), (48, .arr 1 (.named 1) ((toExprS (Pln.Exprs a)) : List Xpr)), (64, .arr 1 (.int .i64) ((toIntS (Pln.Cols a)) : List Int)), (4028, .arr 1 (.named 2) (out : List Pln))]⟩ ?_)
  exact AW.ret (AW.retE (β := Pln) (fun v => [⟨(.named 2), v⟩]) (fun v => []) (v := (Pln.mk (Pln.Kind a) (Pln.Table a) (toExprS (Pln.Exprs a)) (toIntS (Pln.Cols a)) out)) e26 (by kernel_rfl) rfl rfl)

theorem toPlan_fu : AllTV (toPlan_sp.ps.map PK.ty) (fun tvs => toPlan_sp.pre tvs → ∃ k, (toPlan_spn k).pre tvs ∧ (toPlan_spn k).fn tvs = toPlan_sp.fn tvs ∧ (toPlan_spn k).bx tvs = toPlan_sp.bx tvs) :=
 (fun (a : Pln) h => ⟨SizeOf.sizeOf a + 1, (show (FitsP a) ∧ SizeOf.sizeOf a < SizeOf.sizeOf a + 1 from ⟨h, Nat.lt_succ_self _⟩), (show (toPlan_spn (SizeOf.sizeOf a + 1)).fn [⟨(.named 2), (a : Pln)⟩] = ([⟨(.named 2), (toPlan_r (SizeOf.sizeOf a + 1) a)⟩] : List TV) from by kernel_rfl).trans (show ([⟨(.named 2), (toPlan_r (SizeOf.sizeOf a + 1) a)⟩] : List TV) = toPlan_sp.fn [⟨(.named 2), (a : Pln)⟩] from by kernel_rfl), by kernel_rfl⟩)

theorem toPlan_ok : FnOK Try.prog 6 toPlan_sp := FnOK.of_fuel toPlan_okn (fun _ => rfl) (fun _ => rfl) (AllTV.get toPlan_fu)

def eqPlan_l0 (self : Pln → Pln → Bool) (a : Pln) (b : Pln) : Nat → Nat → Unit ⊕ Bool
 | 0, i => .inl ()
 | k + 1, i => (bif (decide (((i : Nat) : Int) < ((List.length (Pln.Kids a) : Nat) : Int))) then (bif (!(self (List.getD (Pln.Kids a) i Pln.zero) (List.getD (Pln.Kids b) i Pln.zero))) then (.inr false) else (eqPlan_l0 self a b k (i + 1))) else (.inl ()))

def eqPlan_c0 (self : Pln → Pln → Bool) (a : Pln) (b : Pln) : Bool :=
 (bif (((List.length (Pln.Kids a) : Nat) : Int) != ((List.length (Pln.Kids b) : Nat) : Int)) then false else (Sum.elim (fun _ => true) (fun r => r) (eqPlan_l0 self a b ((List.length (Pln.Kids a)) - 0 + 1) 0)))

def eqPlan_r : Nat → Pln → Pln → Bool
 | 0, a, b => false
 | fuel + 1, a, b => (bif ((Pln.Kind a) != (Pln.Kind b)) then false else (bif ((Pln.Table a) != (Pln.Table b)) then false else (bif (!(eqExprS (Pln.Exprs a) (Pln.Exprs b))) then false else (bif (!(eqIntS (Pln.Cols a) (Pln.Cols b))) then false else (Go.Am.andThen (eqPlan_c0 (eqPlan_r fuel) a b) (fun z => (fun (v31 : Bool) => (bif (!v31) then false else true)) z))))))

def eqPlan (a : Pln) (b : Pln) : Bool := eqPlan_r (SizeOf.sizeOf a + 1) a b

def eqPlan_spn (fuel : Nat) : FnSpec := mkSpec [.val (.named 2), .val (.named 2)] [.val .bool] (fun (a : Pln) (b : Pln) => (True) ∧ SizeOf.sizeOf a < fuel) (fun (a : Pln) (b : Pln) => [⟨.bool, (eqPlan_r fuel a b)⟩])

def eqPlan_sp : FnSpec := mkSpec [.val (.named 2), .val (.named 2)] [.val .bool] (fun (a : Pln) (b : Pln) => True) (fun (a : Pln) (b : Pln) => [⟨.bool, (eqPlan a b)⟩])

theorem eqPlan_okn (fuel : Nat) : FnOK Try.prog 9 (eqPlan_spn fuel) := by
 induction fuel with
 | zero => exact FnOK.never Try.func9 (by kernel_rfl) rfl (fun _ _ h => absurd h.2 (Nat.not_lt_zero _))
 | succ fuel ih => ?_
 have hC : CtxOK Try.prog (mkCtx tyL [(9, (eqPlan_spn fuel)), (10, eqIntS_sp), (21, eqExprS_sp)]) := CtxOK.cons ih (CtxOK.cons eqIntS_ok (CtxOK.cons eqExprS_ok (CtxOK.nil tyOK)))
 have hM : Try.prog.follows .mixedOrders = true := Try.checked.mixed
 have hC1 := hC.rebase 1000
 refine FnOK.of_body Try.func9 (by kernel_rfl) rfl (C := (mkCtx tyL [(9, (eqPlan_spn fuel)), (10, eqIntS_sp), (21, eqExprS_sp)])) hC.ty (by kernel_rfl) ?_
 intro (a : Pln) (b : Pln) hwf hpre E
 have hpre : (True) ∧ SizeOf.sizeOf a < fuel + 1 := hpre
 have hw_a : Wf ⟨(.named 2), (a : Pln)⟩ := hwf _ (List.Mem.head _)
 obtain ⟨hr_a_Kind, hr_a_Table, hl_a_Exprs, hl_a_Cols, hl_a_Kids⟩ := Pln.wfl hw_a
 have hw_b : Wf ⟨(.named 2), (b : Pln)⟩ := hwf _ (List.Mem.tail _ (List.Mem.head _))
 obtain ⟨hr_b_Kind, hr_b_Table, hl_b_Exprs, hl_b_Cols, hl_b_Kids⟩ := Pln.wfl hw_b
 have e0 : eqPlan_r (fuel + 1) a b = eqPlan_r (fuel + 1) a b := rfl
 refine AW.seq (AW.r1 hC [2, 3] [8, 12] ⟨[(2, .ref 8 1 0), (3, .ref 12 1 0)], [(8, .box 1 [sI (Pln.Kind a), sI (Pln.Table a), sD10 (Pln.Exprs a), sD9 (Pln.Cols a), sD11 (Pln.Kids a)]), (12, .box 1 [sI (Pln.Kind b), sI (Pln.Table b), sD10 (Pln.Exprs b), sD9 (Pln.Cols b), sD11 (Pln.Kids b)])]⟩ ?_)
 refine AW.seq (AW.seq (AW.r1 hC [2, 3, 9] [8, 12] ⟨[(2, .ref 8 1 0), (3, .ref 12 1 0), (9, sB ((Pln.Kind a) != (Pln.Kind b)))], [(8, .box 1 [sI (Pln.Kind a), sI (Pln.Table a), sD10 (Pln.Exprs a), sD9 (Pln.Cols a), sD11 (Pln.Kids a)]), (12, .box 1 [sI (Pln.Kind b), sI (Pln.Table b), sD10 (Pln.Exprs b), sD9 (Pln.Cols b), sD11 (Pln.Kids b)])]⟩ ?_))
 refine AW.cd ((Pln.Kind a) != (Pln.Kind b)) ?_ ?_
 ·
  intro h1
  have h1q := (Go.Am.bne_pos h1)
  have e2 := e0.trans (Go.Am.bif_t h1)
  refine AW.seq (AW.r1 hC [4] [] ⟨[(4, sB false)], []⟩ ?_)
  exact AW.ret (AW.rB false e2)
 ·
  intro h3
  have h3q := (Go.Am.bne_neg h3)
  have e4 := e0.trans (Go.Am.bif_f h3)
  refine AW.kp [2, 3] [8, 12] ⟨[(2, .ref 8 1 0), (3, .ref 12 1 0)], [(8, .box 1 [sI (Pln.Kind a), sI (Pln.Table a), sD10 (Pln.Exprs a), sD9 (Pln.Cols a), sD11 (Pln.Kids a)]), (12, .box 1 [sI (Pln.Kind b), sI (Pln.Table b), sD10 (Pln.Exprs b), sD9 (Pln.Cols b), sD11 (Pln.Kids b)])]⟩ ?_
  refine AW.skip (AW.seq (AW.seq (AW.r1 hC [2, 3, 14] [8, 12] ⟨[(2, .ref 8 1 0), (3, .ref 12 1 0), (14, sB ((Pln.Table a) != (Pln.Table b)))], [(8, .box 1 [sI (Pln.Kind a), sI (Pln.Table a), sD10 (Pln.Exprs a), sD9 (Pln.Cols a), sD11 (Pln.Kids a)]), (12, .box 1 [sI (Pln.Kind b), sI (Pln.Table b), sD10 (Pln.Exprs b), sD9 (Pln.Cols b), sD11 (Pln.Kids b)])]⟩ ?_)))
  refine AW.cd ((Pln.Table a) != (Pln.Table b)) ?_ ?_
  ·
   intro h5
   have h5q := (Go.Am.bne_pos h5)
   have e6 := e4.trans (Go.Am.bif_t h5)
   refine AW.seq (AW.r1 hC [4] [] ⟨[(4, sB false)], []⟩ ?_)
   exact AW.ret (AW.rB false e6)
  ·
   intro h7
   have h7q := (Go.Am.bne_neg h7)
   have e8 := e4.trans (Go.Am.bif_f h7)
   refine AW.kp [2, 3] [8, 12] ⟨[(2, .ref 8 1 0), (3, .ref 12 1 0)], [(8, .box 1 [sI (Pln.Kind a), sI (Pln.Table a), sD10 (Pln.Exprs a), sD9 (Pln.Cols a), sD11 (Pln.Kids a)]), (12, .box 1 [sI (Pln.Kind b), sI (Pln.Table b), sD10 (Pln.Exprs b), sD9 (Pln.Cols b), sD11 (Pln.Kids b)])]⟩ ?_
   refine AW.skip (AW.seq (AW.seq (AW.r0 hC [2, 3, 20] [8, 12] ⟨[(2, .ref 8 1 0), (3, .ref 12 1 0), (20, sB (!(eqExprS (Pln.Exprs a) (Pln.Exprs b))))], [(8, .box 1 [sI (Pln.Kind a), sI (Pln.Table a), sD10 (Pln.Exprs a), sD9 (Pln.Cols a), sD11 (Pln.Kids a)]), (12, .box 1 [sI (Pln.Kind b), sI (Pln.Table b), sD10 (Pln.Exprs b), sD9 (Pln.Cols b), sD11 (Pln.Kids b)])]⟩ [(True)] ?_ ?_)))
   ·
    refine ⟨?_, trivial⟩
    ·
     trivial
   refine AW.cd (!(eqExprS (Pln.Exprs a) (Pln.Exprs b))) ?_ ?_
   ·
    intro h9
    have h9q := (Go.Am.not_pos h9)
    have e10 := e8.trans (Go.Am.bif_t h9)
    refine AW.seq (AW.r1 hC [4] [] ⟨[(4, sB false)], []⟩ ?_)
    exact AW.ret (AW.rB false e10)
   ·
    intro h11
    have h11q := (Go.Am.not_neg h11)
    have e12 := e8.trans (Go.Am.bif_f h11)
    refine AW.kp [2, 3] [8, 12] ⟨[(2, .ref 8 1 0), (3, .ref 12 1 0)], [(8, .box 1 [sI (Pln.Kind a), sI (Pln.Table a), sD10 (Pln.Exprs a), sD9 (Pln.Cols a), sD11 (Pln.Kids a)]), (12, .box 1 [sI (Pln.Kind b), sI (Pln.Table b), sD10 (Pln.Exprs b), sD9 (Pln.Cols b), sD11 (Pln.Kids b)])]⟩ ?_
    refine AW.skip (AW.seq (AW.seq (AW.r0 hC [2, 3, 26] [8, 12] ⟨[(2, .ref 8 1 0), (3, .ref 12 1 0), (26, sB (!(eqIntS (Pln.Cols a) (Pln.Cols b))))], [(8, .box 1 [sI (Pln.Kind a), sI (Pln.Table a), sD10 (Pln.Exprs a), sD9 (Pln.Cols a), sD11 (Pln.Kids a)]), (12, .box 1 [sI (Pln.Kind b), sI (Pln.Table b), sD10 (Pln.Exprs b), sD9 (Pln.Cols b), sD11 (Pln.Kids b)])]⟩ [(True)] ?_ ?_)))
    ·
     refine ⟨?_, trivial⟩
     ·
      trivial
    refine AW.cd (!(eqIntS (Pln.Cols a) (Pln.Cols b))) ?_ ?_
    ·
     intro h13
     have h13q := (Go.Am.not_pos h13)
     have e14 := e12.trans (Go.Am.bif_t h13)
     refine AW.seq (AW.r1 hC [4] [] ⟨[(4, sB false)], []⟩ ?_)
     exact AW.ret (AW.rB false e14)
    ·
     intro h15
     have h15q := (Go.Am.not_neg h15)
     have e16 := e12.trans (Go.Am.bif_f h15)
     refine AW.kp [2, 3] [8, 12] ⟨[(2, .ref 8 1 0), (3, .ref 12 1 0)], [(8, .box 1 [sI (Pln.Kind a), sI (Pln.Table a), sD10 (Pln.Exprs a), sD9 (Pln.Cols a), sD11 (Pln.Kids a)]), (12, .box 1 [sI (Pln.Kind b), sI (Pln.Table b), sD10 (Pln.Exprs b), sD9 (Pln.Cols b), sD11 (Pln.Kids b)])]⟩ ?_
     refine AW.skip (AW.seq (AW.seq (AW.regionO [0, 1, 2, 3, 4, 5] (by rfl) ?_)))
     refine AWO.run hC false [] [0, 1, 2, 3] [4, 5] [28, 30] []
      ⟨[(28, sD11 (Pln.Kids a)), (30, sD11 (Pln.Kids b))], []⟩
      [] (by rfl) (by kernel_rfl) ?_ ?_
     ·
      exact trivial
     refine AWO.callJ hC.ty [31] [] (α := Bool) (fun x => ⟨[(31, sB x)], []⟩) (fun x => (True) ∧ (eqPlan_c0 (eqPlan_r fuel) a b) = x) (vs := [sD11 (Pln.Kids a), sD11 (Pln.Kids b)]) (caps := []) (by rfl) rfl (.inl rfl) (by decide) (by kernel_rfl) (by kernel_rfl) Try.func22 (by kernel_rfl) rfl (by kernel_rfl) ?_ ?_
     ·
      intro o1
      have e103 : (eqPlan_c0 (eqPlan_r fuel) a b) = (eqPlan_c0 (eqPlan_r fuel) a b) := rfl
      refine AW.kp [0, 1] [] ⟨[(0, sD11 (Pln.Kids a)), (1, sD11 (Pln.Kids b))], []⟩ ?_
      refine AW.seq (AW.r1 hC1 [0, 1] [] ⟨[(0, sD11 (Pln.Kids a)), (1, sD11 (Pln.Kids b))], []⟩ ?_)
      refine AW.seq (AW.seq (AW.r1 hC1 [0, 1, 10] [] ⟨[(0, sD11 (Pln.Kids a)), (1, sD11 (Pln.Kids b)), (10, sB (((List.length (Pln.Kids a) : Nat) : Int) != ((List.length (Pln.Kids b) : Nat) : Int)))], []⟩ ?_))
      refine AW.cd (((List.length (Pln.Kids a) : Nat) : Int) != ((List.length (Pln.Kids b) : Nat) : Int)) ?_ ?_
      ·
       intro h104
       have h104q := (Go.Am.bne_pos h104)
       have e105 := e103.trans (Go.Am.bif_t h104)
       refine AW.seq (AW.r1 hC1 [4] [] ⟨[(4, sB false)], []⟩ ?_)
       refine AW.ret ?_
       refine ⟨false, [sB false], by kernel_rfl, by kernel_rfl, ?_, e105⟩
       show True
       first | exact trivial | assumption | omega
      ·
       intro h106
       have h106q := (Go.Am.bne_neg h106)
       have e107 := e103.trans (Go.Am.bif_f h106)
       refine AW.kp [0, 1] [] ⟨[(0, sD11 (Pln.Kids a)), (1, sD11 (Pln.Kids b))], []⟩ ?_
       refine AW.skip (AW.seq (AW.seq (AW.r1 hC1 [0, 1, 5] [] ⟨[(0, sD11 (Pln.Kids a)), (1, sD11 (Pln.Kids b)), (5, sI 0)], []⟩ ?_)))
       refine AW.cutQ (α := Unit) (fun x => ⟨[], []⟩) (fun x => (True) ∧ (eqPlan_l0 (eqPlan_r fuel) a b ((List.length (Pln.Kids a)) - 0 + 1) 0) = (.inl ())) ?_ ?_
       ·
        skip
        refine AW.block (AW.loop (α := Nat) (fun x => ⟨[(0, sD11 (Pln.Kids a)), (1, sD11 (Pln.Kids b)), (5, sI ((x : Nat) : Int))], []⟩) (fun x => (True) ∧ ∃ k, (List.length (Pln.Kids a)) - x < k ∧ (eqPlan_l0 (eqPlan_r fuel) a b ((List.length (Pln.Kids a)) - 0 + 1) 0) = eqPlan_l0 (eqPlan_r fuel) a b k x) (fun x => (List.length (Pln.Kids a)) - x) 0 (by kernel_rfl) ⟨?_, _, Nat.lt_succ_self _, rfl⟩ ?_)
        ·
         show True
         first | exact trivial | (refine ⟨?_, ?_⟩ <;> first | omega | simp) | omega | simp
        ·
         intro i hR
         obtain ⟨hI0, k137, hk135, e136⟩ := hR
         replace hI0 : True := hI0
         replace hk135 : (List.length (Pln.Kids a)) - i < k137 := hk135
         obtain ⟨k137q, rfl⟩ : ∃ k, k137 = k + 1 := ⟨k137 - 1, by omega⟩
         refine AW.seq (AW.seq (AW.r1 hC1 [0, 1, 5, 14] [] ⟨[(0, sD11 (Pln.Kids a)), (1, sD11 (Pln.Kids b)), (5, sI ((i : Nat) : Int)), (14, sB (decide (((i : Nat) : Int) < ((List.length (Pln.Kids a) : Nat) : Int))))], []⟩ ?_))
         refine AW.cd (decide (((i : Nat) : Int) < ((List.length (Pln.Kids a) : Nat) : Int))) ?_ ?_
         ·
          intro h138
          have h138q := (of_decide_eq_true h138)
          have e139 := e136.trans (Go.Am.bif_t h138)
          refine AW.kp [0, 1, 5] [] ⟨[(0, sD11 (Pln.Kids a)), (1, sD11 (Pln.Kids b)), (5, sI ((i : Nat) : Int))], []⟩ ?_
          refine AW.skip (AW.seq (AW.block (AW.seq (AW.d0 hC1 hM [0, 1, 5, 26] [] ⟨[(0, sD11 (Pln.Kids a)), (1, sD11 (Pln.Kids b)), (5, sI ((i : Nat) : Int)), (26, sB (!((eqPlan_r fuel) (List.getD (Pln.Kids a) i Pln.zero) (List.getD (Pln.Kids b) i Pln.zero))))], []⟩ [IX ((i : Nat) : Int) ((List.length (Pln.Kids a) : Nat) : Int), IX ((i : Nat) : Int) ((List.length (Pln.Kids b) : Nat) : Int), ((True) ∧ SizeOf.sizeOf (List.getD (Pln.Kids a) i Pln.zero) < fuel)] ?_ ?_))))
          ·
           refine ⟨?_, ?_, ?_, trivial⟩
           ·
            refine IX.of ?_
            first | omega | (dsimp only; omega) | (simp only [lens] at *; omega)
           ·
            refine IX.of ?_
            first | omega | (dsimp only; omega) | (simp only [lens] at *; omega)
           ·
            exact ⟨trivial, Nat.lt_of_lt_of_le (pkid_lt (by omega)) (Nat.le_of_lt_succ hpre.2)⟩
          refine AW.cd (!((eqPlan_r fuel) (List.getD (Pln.Kids a) i Pln.zero) (List.getD (Pln.Kids b) i Pln.zero))) ?_ ?_
          ·
           intro h140
           have h140q := (Go.Am.not_pos h140)
           have e141 := e139.trans (Go.Am.bif_t h140)
           refine AW.seq (AW.r1 hC1 [4] [] ⟨[(4, sB false)], []⟩ ?_)
           refine AW.ret ?_
           have e142 := e107.trans (Go.Am.elim_r e141)
           refine ⟨false, [sB false], by kernel_rfl, by kernel_rfl, ?_, e142⟩
           show True
           first | exact trivial | assumption | omega
          ·
           intro h143
           have h143q := (Go.Am.not_neg h143)
           have e144 := e139.trans (Go.Am.bif_f h143)
           refine AW.kp [0, 1, 5] [] ⟨[(0, sD11 (Pln.Kids a)), (1, sD11 (Pln.Kids b)), (5, sI ((i : Nat) : Int))], []⟩ ?_
           refine AW.skip (AW.r0 hC1 [0, 1, 5] [] ⟨[(0, sD11 (Pln.Kids a)), (1, sD11 (Pln.Kids b)), (5, sI ((i + 1 : Nat) : Int))], []⟩ [R64 ((i + 1 : Nat) : Int)] ?_ ?_)
           ·
            refine ⟨?_, trivial⟩
            ·
             refine R64.of ?_
             first | omega | (dsimp only; omega) | (simp only [lens] at *; omega)
           refine AW.back (x := i) (i + 1) (by kernel_rfl) ⟨?_, k137q, ?_, e144⟩ ?_
           ·
            show True
            first | assumption | exact trivial | (refine ⟨?_, ?_⟩ <;> first | omega | (simp only [lens] at *; omega)) | omega | (simp only [lens] at *; omega)
           ·
            show (List.length (Pln.Kids a)) - (i + 1) < k137q
            first | omega | (simp only [lens]; omega)
           ·
            show (List.length (Pln.Kids a)) - (i + 1) < (List.length (Pln.Kids a)) - i
            first | omega | (simp only [lens]; omega)
         ·
          intro h145
          have h145q := (of_decide_eq_false h145)
          have e146 := e136.trans (Go.Am.bif_f h145)
          refine AW.kp [] [] ⟨[], []⟩ ?_
          refine AW.exit ?_
          refine AW.meet () (by kernel_rfl) ⟨?_, e146⟩
          show True
          first | assumption | exact trivial | omega
       ·
        intro x hR
        obtain ⟨hJ0, e147⟩ := hR
        replace hJ0 : True := hJ0
        have e148 := e107.trans (Go.Am.elim_l e147)
        refine AW.seq (AW.r1 hC1 [4] [] ⟨[(4, sB true)], []⟩ ?_)
        refine AW.ret ?_
        refine ⟨true, [sB true], by kernel_rfl, by kernel_rfl, ?_, e148⟩
        show True
        first | exact trivial | assumption | omega
     ·
      intro v31 hR
      obtain ⟨hK0, e149⟩ := hR
      replace hK0 : True := hK0
      have e150 := e16.trans (Go.Am.then_eq e149)
      refine AWO.run hC false [] [5] [] [32] []
       ⟨[(32, sB (!v31))], []⟩
       [] (by rfl) (by kernel_rfl) ?_ ?_
      ·
       exact trivial
      refine AWO.nil ?_
      refine AW.cd (!v31) ?_ ?_
      ·
       intro h151
       have h151q := (Go.Am.not_pos h151)
       have e152 := e150.trans (Go.Am.bif_t h151)
       refine AW.seq (AW.r1 hC [4] [] ⟨[(4, sB false)], []⟩ ?_)
       exact AW.ret (AW.rB false e152)
      ·
       intro h153
       have h153q := (Go.Am.not_neg h153)
       have e154 := e150.trans (Go.Am.bif_f h153)
       refine AW.kp [] [] ⟨[], []⟩ ?_
       refine AW.skip (AW.seq (AW.r1 hC [4] [] ⟨[(4, sB true)], []⟩ ?_))
       exact AW.ret (AW.rB true e154)

theorem eqPlan_fu : AllTV (eqPlan_sp.ps.map PK.ty) (fun tvs => eqPlan_sp.pre tvs → ∃ k, (eqPlan_spn k).pre tvs ∧ (eqPlan_spn k).fn tvs = eqPlan_sp.fn tvs ∧ (eqPlan_spn k).bx tvs = eqPlan_sp.bx tvs) :=
 (fun (a : Pln) (b : Pln) h => ⟨SizeOf.sizeOf a + 1, (show (True) ∧ SizeOf.sizeOf a < SizeOf.sizeOf a + 1 from ⟨h, Nat.lt_succ_self _⟩), (show (eqPlan_spn (SizeOf.sizeOf a + 1)).fn [⟨(.named 2), (a : Pln)⟩, ⟨(.named 2), (b : Pln)⟩] = ([⟨.bool, (eqPlan_r (SizeOf.sizeOf a + 1) a b)⟩] : List TV) from by kernel_rfl).trans (show ([⟨.bool, (eqPlan_r (SizeOf.sizeOf a + 1) a b)⟩] : List TV) = eqPlan_sp.fn [⟨(.named 2), (a : Pln)⟩, ⟨(.named 2), (b : Pln)⟩] from by kernel_rfl), by kernel_rfl⟩)

theorem eqPlan_ok : FnOK Try.prog 9 eqPlan_sp := FnOK.of_fuel eqPlan_okn (fun _ => rfl) (fun _ => rfl) (AllTV.get eqPlan_fu)

end
end Go.Proofs.Ytbcgmoaipneoeaa
