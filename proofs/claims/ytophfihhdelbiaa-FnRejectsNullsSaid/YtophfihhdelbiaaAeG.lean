/-
  A part of the proof of this claim (AeG): what functions of the program compute, and plain facts of that. No conditions.
-/
import Derived.Test.YtophfihhdelbiaaAeF
set_option linter.all false
namespace Go.Proofs.Ytophfihhdelbiaa
open Go Go.Am
noncomputable section

def validRow_l0 (row : List Val) : Nat → Nat → Unit ⊕ Bool
 | 0, v11 => .inl ()
 | k + 1, v11 => (bif (decide (((v11 : Nat) : Int) < ((List.length row : Nat) : Int))) then (bif (!(valValid (List.getD row v11 Val.zero))) then (.inr false) else (validRow_l0 row k (v11 + 1))) else (.inl ()))

def validRow (row : List Val) : Bool := (bif (!(validWidth ((List.length row : Nat) : Int))) then false else (Sum.elim (fun _ => true) (fun r => r) (validRow_l0 row ((List.length row) - 0 + 1) 0)))

def validRow_sp : FnSpec := mkSpec [.val (.slice (.named 0))] [.val .bool] (fun (row : List Val) => True) (fun (row : List Val) => [⟨.bool, (validRow row)⟩])

theorem validRow_ok : FnOK Try.prog 25 validRow_sp := by
 have hC : CtxOK Try.prog (mkCtx tyL [(31, validWidth_sp), (39, valValid_sp)]) := CtxOK.cons validWidth_ok (CtxOK.cons valValid_ok (CtxOK.nil tyOK))
 refine FnOK.of_body Try.func25 (by kernel_rfl) rfl (C := (mkCtx tyL [(31, validWidth_sp), (39, valValid_sp)])) hC.ty (by kernel_rfl) ?_
 intro (row : List Val) hwf hpre E
 have hpre : True := hpre
 have hw_row : Wf ⟨(.slice (.named 0)), (row : List Val)⟩ := hwf _ (List.Mem.head _)
 have hl_row : ((List.length row : Nat) : Int) ≤ 9223372036854775807 := hw_row.len
 have e0 : validRow row = validRow row := rfl
 refine AW.seq (AW.r1 hC [0] [] ⟨[(0, sD8 row)], []⟩ ?_)
 refine AW.seq (AW.seq (AW.r0 hC [0, 8] [] ⟨[(0, sD8 row), (8, sB (!(validWidth ((List.length row : Nat) : Int))))], []⟩ [(True)] ?_ ?_))
 ·
  refine ⟨?_, trivial⟩
  ·
   trivial
 refine AW.cd (!(validWidth ((List.length row : Nat) : Int))) ?_ ?_
 ·
  intro h1
  have h1q := (Go.Am.not_pos h1)
  have e2 := e0.trans (Go.Am.bif_t h1)
  refine AW.seq (AW.r1 hC [2] [] ⟨[(2, sB false)], []⟩ ?_)
  exact AW.ret (AW.rB false e2)
 ·
  intro h3
  have h3q := (Go.Am.not_neg h3)
  have e4 := e0.trans (Go.Am.bif_f h3)
  refine AW.kp [0] [] ⟨[(0, sD8 row)], []⟩ ?_
  refine AW.skip (AW.seq (AW.seq (AW.r1 hC [9, 10, 11] [] ⟨[(9, sD8 row), (10, sI ((List.length row : Nat) : Int)), (11, sI 0)], []⟩ ?_)))
  refine AW.cutQ (α := Unit) (fun x => ⟨[], []⟩) (fun x => (True) ∧ (validRow_l0 row ((List.length row) - 0 + 1) 0) = (.inl ())) ?_ ?_
  ·
   skip
   refine AW.block (AW.loop (α := Nat) (fun x => ⟨[(9, sD8 row), (10, sI ((List.length row : Nat) : Int)), (11, sI ((x : Nat) : Int))], []⟩) (fun x => (True) ∧ ∃ k, (List.length row) - x < k ∧ (validRow_l0 row ((List.length row) - 0 + 1) 0) = validRow_l0 row k x) (fun x => (List.length row) - x) 0 (by kernel_rfl) ⟨?_, _, Nat.lt_succ_self _, rfl⟩ ?_)
   ·
    show True
    first | exact trivial | (refine ⟨?_, ?_⟩ <;> first | omega | simp) | omega | simp
   ·
    intro v11 hR
    obtain ⟨hI0, k34, hk32, e33⟩ := hR
    replace hI0 : True := hI0
    replace hk32 : (List.length row) - v11 < k34 := hk32
    obtain ⟨k34q, rfl⟩ : ∃ k, k34 = k + 1 := ⟨k34 - 1, by omega⟩
    refine AW.seq (AW.r1 hC [9, 10, 11, 12] [] ⟨[(9, sD8 row), (10, sI ((List.length row : Nat) : Int)), (11, sI ((v11 : Nat) : Int)), (12, sB (decide (((v11 : Nat) : Int) < ((List.length row : Nat) : Int))))], []⟩ ?_)
    refine AW.seq (AW.cd (decide (((v11 : Nat) : Int) < ((List.length row : Nat) : Int))) ?_ ?_)
    ·
     intro h35
     have h35q := (of_decide_eq_true h35)
     have e36 := e33.trans (Go.Am.bif_t h35)
     refine AW.kp [9, 10, 11] [] ⟨[(9, sD8 row), (10, sI ((List.length row : Nat) : Int)), (11, sI ((v11 : Nat) : Int))], []⟩ ?_
     refine AW.skip (AW.seq (AW.block (AW.seq (AW.r0 hC [4, 9, 10, 11] [16] ⟨[(4, .ref 16 1 0), (9, sD8 row), (10, sI ((List.length row : Nat) : Int)), (11, sI ((v11 : Nat) : Int))], [(16, .box 1 [sB (Val.Null (List.getD row v11 Val.zero)), sI (Val.N (List.getD row v11 Val.zero))])]⟩ [IX ((v11 : Nat) : Int) ((List.length row : Nat) : Int)] ?_ ?_))))
     ·
      refine ⟨?_, trivial⟩
      ·
       refine IX.of ?_
       first | omega | (dsimp only; omega) | (simp only [lens] at *; omega)
     refine AW.seq (AW.r0 hC [9, 10, 11, 17] [] ⟨[(9, sD8 row), (10, sI ((List.length row : Nat) : Int)), (11, sI ((v11 : Nat) : Int)), (17, sB (!(valValid (List.getD row v11 Val.zero))))], []⟩ [(True)] ?_ ?_)
     ·
      refine ⟨?_, trivial⟩
      ·
       trivial
     refine AW.cd (!(valValid (List.getD row v11 Val.zero))) ?_ ?_
     ·
      intro h37
      have h37q := (Go.Am.not_pos h37)
      have e38 := e36.trans (Go.Am.bif_t h37)
      refine AW.seq (AW.r1 hC [2] [] ⟨[(2, sB false)], []⟩ ?_)
      refine AW.ret ?_
      have e39 := e4.trans (Go.Am.elim_r e38)
      exact AW.rB false e39
     ·
      intro h40
      have h40q := (Go.Am.not_neg h40)
      have e41 := e36.trans (Go.Am.bif_f h40)
      refine AW.kp [9, 10, 11] [] ⟨[(9, sD8 row), (10, sI ((List.length row : Nat) : Int)), (11, sI ((v11 : Nat) : Int))], []⟩ ?_
      refine AW.skip (AW.r0 hC [9, 10, 11] [] ⟨[(9, sD8 row), (10, sI ((List.length row : Nat) : Int)), (11, sI ((v11 + 1 : Nat) : Int))], []⟩ [R64 ((v11 + 1 : Nat) : Int)] ?_ ?_)
      ·
       refine ⟨?_, trivial⟩
       ·
        refine R64.of ?_
        first | omega | (dsimp only; omega) | (simp only [lens] at *; omega)
      refine AW.back (x := v11) (v11 + 1) (by kernel_rfl) ⟨?_, k34q, ?_, e41⟩ ?_
      ·
       show True
       first | assumption | exact trivial | (refine ⟨?_, ?_⟩ <;> first | omega | (simp only [lens] at *; omega)) | omega | (simp only [lens] at *; omega)
      ·
       show (List.length row) - (v11 + 1) < k34q
       first | omega | (simp only [lens]; omega)
      ·
       show (List.length row) - (v11 + 1) < (List.length row) - v11
       first | omega | (simp only [lens]; omega)
    ·
     intro h42
     have h42q := (of_decide_eq_false h42)
     have e43 := e33.trans (Go.Am.bif_f h42)
     refine AW.kp [] [] ⟨[], []⟩ ?_
     refine AW.exit ?_
     refine AW.meet () (by kernel_rfl) ⟨?_, e43⟩
     show True
     first | assumption | exact trivial | omega
  ·
   intro x hR
   obtain ⟨hJ0, e44⟩ := hR
   replace hJ0 : True := hJ0
   have e45 := e4.trans (Go.Am.elim_l e44)
   refine AW.seq (AW.r1 hC [2] [] ⟨[(2, sB true)], []⟩ ?_)
   exact AW.ret (AW.rB true e45)

theorem validRow_iff {row : List Val} : validRow row = true ↔ (1 ≤ ((row.length : Nat) : Int) ∧ ((row.length : Nat) : Int) ≤ 6) ∧ VRw row := by
 unfold validRow
 have h := loop_iff (validRow_l0 row) row.length (fun i => valValid (List.getD row i Val.zero)) true (fun k i => rfl)
 cases hw : validWidth ((List.length row : Nat) : Int) with
 | false =>
  refine ⟨fun h => absurd h (by simp), fun h => ?_⟩
  rw [validWidth_iff.2 h.1] at hw
  cases hw
 | true =>
  rw [Bool.not_true, cond_false, h]
  exact ⟨fun h => ⟨validWidth_iff.1 hw, fun j hj => valValid_iff.1 (h.2 j hj)⟩, fun h => ⟨rfl, fun j hj => valValid_iff.2 (h.2 j hj)⟩⟩

def EvalExpr (e : Xpr) (row : List Val) : Val × Bool := (bif (bif (!(validRow row)) then true else (!(iValidExpr (Xpr.mk (Xpr.Kind e) (Xpr.Col e) (Xpr.V e) (Xpr.Kids e)) ((List.length row : Nat) : Int)))) then ((Val.mk false 0), false) else ((value (Xpr.mk (Xpr.Kind e) (Xpr.Col e) (Xpr.V e) (Xpr.Kids e)) row), true))

def EvalExpr_sp : FnSpec := mkSpec [.val (.named 1), .val (.slice (.named 0))] [.val (.named 0), .val .bool] (fun (e : Xpr) (row : List Val) => True) (fun (e : Xpr) (row : List Val) => [⟨(.named 0), ((EvalExpr e row).1)⟩, ⟨.bool, ((EvalExpr e row).2)⟩])

theorem EvalExpr_ok : FnOK Try.prog 10 EvalExpr_sp := by
 have hC : CtxOK Try.prog (mkCtx tyL [(20, iValidExpr_sp), (25, validRow_sp), (26, value_sp)]) := CtxOK.cons iValidExpr_ok (CtxOK.cons validRow_ok (CtxOK.cons value_ok (CtxOK.nil tyOK)))
 refine FnOK.of_body Try.func10 (by kernel_rfl) rfl (C := (mkCtx tyL [(20, iValidExpr_sp), (25, validRow_sp), (26, value_sp)])) hC.ty (by kernel_rfl) ?_
 intro (e : Xpr) (row : List Val) hwf hpre E
 have hpre : True := hpre
 have hw_e : Wf ⟨(.named 1), (e : Xpr)⟩ := hwf _ (List.Mem.head _)
 obtain ⟨hr_e_Kind, hr_e_Col, hl_e_Kids⟩ := Xpr.wfl hw_e
 have hw_row : Wf ⟨(.slice (.named 0)), (row : List Val)⟩ := hwf _ (List.Mem.tail _ (List.Mem.head _))
 have hl_row : ((List.length row : Nat) : Int) ≤ 9223372036854775807 := hw_row.len
 have e0 : EvalExpr e row = EvalExpr e row := rfl
 refine AW.seq (AW.r1 hC [1, 2, 4] [8, 16] ⟨[(1, sD8 row), (2, .ref 8 1 0), (4, .ref 16 1 0)], [(8, .box 1 [sI (Xpr.Kind e), sI (Xpr.Col e), sB (Val.Null (Xpr.V e)), sI (Val.N (Xpr.V e)), sD9 (Xpr.Kids e)]), (16, .box 1 [sB false, sI 0])]⟩ ?_)
 refine AW.seq (AW.seq (AW.r0 hC [1, 2, 4, 15] [8, 16] ⟨[(1, sD8 row), (2, .ref 8 1 0), (4, .ref 16 1 0), (15, sB (bif (!(validRow row)) then true else (!(iValidExpr (Xpr.mk (Xpr.Kind e) (Xpr.Col e) (Xpr.V e) (Xpr.Kids e)) ((List.length row : Nat) : Int)))))], [(8, .box 1 [sI (Xpr.Kind e), sI (Xpr.Col e), sB (Val.Null (Xpr.V e)), sI (Val.N (Xpr.V e)), sD9 (Xpr.Kids e)]), (16, .box 1 [sB false, sI 0])]⟩ [(True), (((!(validRow row)) = false) → (((!(validRow row)) = false))), (((!(validRow row)) = false) → (((!(validRow row)) = false))), (((!(validRow row)) = false) → (((!(validRow row)) = false))), (((!(validRow row)) = false) → (True)), (((!(validRow row)) = false) → (((!(validRow row)) = false))), (((!(validRow row)) = false) → (((!(validRow row)) = false)))] ?_ ?_))
 ·
  refine ⟨?_, ?_, ?_, ?_, ?_, ?_, ?_, trivial⟩
  ·
   trivial
  ·
   intro g1
   have g1p0 : (validRow row) = true := (Go.Am.not_neg g1)
   first | assumption | exact ⟨by assumption, by assumption⟩
  ·
   intro g2
   have g2p0 : (validRow row) = true := (Go.Am.not_neg g2)
   first | assumption | exact ⟨by assumption, by assumption⟩
  ·
   intro g3
   have g3p0 : (validRow row) = true := (Go.Am.not_neg g3)
   first | assumption | exact ⟨by assumption, by assumption⟩
  ·
   intro g4
   have g4p0 : (validRow row) = true := (Go.Am.not_neg g4)
   trivial
  ·
   intro g5
   have g5p0 : (validRow row) = true := (Go.Am.not_neg g5)
   first | assumption | exact ⟨by assumption, by assumption⟩
  ·
   intro g6
   have g6p0 : (validRow row) = true := (Go.Am.not_neg g6)
   first | assumption | exact ⟨by assumption, by assumption⟩
 refine AW.cd (bif (!(validRow row)) then true else (!(iValidExpr (Xpr.mk (Xpr.Kind e) (Xpr.Col e) (Xpr.V e) (Xpr.Kids e)) ((List.length row : Nat) : Int)))) ?_ ?_
 ·
  intro h7
  have h7q : ((validRow row) = false) ∨ ((iValidExpr (Xpr.mk (Xpr.Kind e) (Xpr.Col e) (Xpr.V e) (Xpr.Kids e)) ((List.length row : Nat) : Int)) = false) := (Or.imp (fun h => (Go.Am.not_pos h)) (fun h => (Go.Am.not_pos h)) (Go.Am.or_pos h7))
  have e8 := e0.trans (Go.Am.bif_t h7)
  refine AW.seq (AW.r1 hC [4, 5] [16] ⟨[(4, .ref 16 1 0), (5, sB false)], [(16, .box 1 [sB false, sI 0])]⟩ ?_)
  exact AW.ret (AW.retE (β := Val × Bool) (fun v => [⟨(.named 0), v.1⟩, ⟨.bool, v.2⟩]) (fun v => []) (v := ((Val.mk false 0), false)) e8 (by kernel_rfl) rfl rfl)
 ·
  intro h9
  have h9q : ((validRow row) = true) ∧ ((iValidExpr (Xpr.mk (Xpr.Kind e) (Xpr.Col e) (Xpr.V e) (Xpr.Kids e)) ((List.length row : Nat) : Int)) = true) := (And.imp (fun h => (Go.Am.not_neg h)) (fun h => (Go.Am.not_neg h)) (Go.Am.or_neg h9))
  have e10 := e0.trans (Go.Am.bif_f h9)
  refine AW.kp [1, 2, 4] [8, 16] ⟨[(1, sD8 row), (2, .ref 8 1 0), (4, .ref 16 1 0)], [(8, .box 1 [sI (Xpr.Kind e), sI (Xpr.Col e), sB (Val.Null (Xpr.V e)), sI (Val.N (Xpr.V e)), sD9 (Xpr.Kids e)]), (16, .box 1 [sB false, sI 0])]⟩ ?_
  refine AW.skip (AW.seq (AW.r0 hC [4, 5] [16] ⟨[(4, .ref 16 1 0), (5, sB true)], [(16, .box 1 [sB (Val.Null (value (Xpr.mk (Xpr.Kind e) (Xpr.Col e) (Xpr.V e) (Xpr.Kids e)) row)), sI (Val.N (value (Xpr.mk (Xpr.Kind e) (Xpr.Col e) (Xpr.V e) (Xpr.Kids e)) row))])]⟩ [(VXr row (Xpr.mk (Xpr.Kind e) (Xpr.Col e) (Xpr.V e) (Xpr.Kids e)))] ?_ ?_))
  ·
   refine ⟨?_, trivial⟩
   ·
    rw [Xpr.eta]
    exact ⟨(validRow_iff.1 h9q.1).2, 8, (iValidExpr_iff.1 (Xpr.eta e ▸ h9q.2)).2⟩
  exact AW.ret (AW.retE (β := Val × Bool) (fun v => [⟨(.named 0), v.1⟩, ⟨.bool, v.2⟩]) (fun v => []) (v := ((value (Xpr.mk (Xpr.Kind e) (Xpr.Col e) (Xpr.V e) (Xpr.Kids e)) row), true)) e10 (by kernel_rfl) rfl rfl)

theorem EvalExpr_eq {e : Xpr} {row : List Val} (h : 1 ≤ ((row.length : Nat) : Int) ∧ ((row.length : Nat) : Int) ≤ 6) (hV : VRw row) (hE : VE ((row.length : Nat) : Int) 8 e) : EvalExpr e row = (value e row, true) := by
 unfold EvalExpr
 rw [Xpr.eta, validRow_iff.2 ⟨h, hV⟩, iValidExpr_iff.2 ⟨h, hE⟩]
 rfl

def FnOutcomes_l0 (code : List Int) (more : List Int) : Nat → Nat → (List Val) → (List Val)
 | 0, i, row => row
 | k + 1, i, row => (bif (decide (((i : Nat) : Int) < ((List.length ((DrawOutcomes code).2) : Nat) : Int))) then (bif (bif ((bits .and .i64 (List.getD ((DrawOutcomes code).2) i 0) 4) != 0) then (bif (((((List.length more) + i : Nat) : Int) % 3) == 0) then true else ((List.getD ((DrawOutcomes code).2) i 0) == 4)) else false) then (FnOutcomes_l0 code more k (i + 1) (row ++ ([(Val.mk true 0)] : List Val))) else (bif (bif ((bits .and .i64 (List.getD ((DrawOutcomes code).2) i 0) 2) != 0) then (bif (((((List.length more) + i : Nat) : Int) % 2) == 0) then true else ((bits .and .i64 (List.getD ((DrawOutcomes code).2) i 0) 1) == 0)) else false) then (FnOutcomes_l0 code more k (i + 1) (row ++ ([(Val.mk false (1 + ((((List.length more) + i : Nat) : Int) % 3)))] : List Val))) else (bif ((bits .and .i64 (List.getD ((DrawOutcomes code).2) i 0) 1) != 0) then (FnOutcomes_l0 code more k (i + 1) (row ++ ([(Val.mk false 0)] : List Val))) else (FnOutcomes_l0 code more k (i + 1) (row ++ ([(Val.mk true 0)] : List Val)))))) else row)

def FnOutcomes (code : List Int) (more : List Int) : Bool := (bif (bif (decide (1048576 < ((List.length code : Nat) : Int))) then true else (decide (1048576 < ((List.length more : Nat) : Int)))) then true else (bif (bif ((iOutcomes (Xpr.mk (Xpr.Kind ((DrawOutcomes code).1)) (Xpr.Col ((DrawOutcomes code).1)) (Xpr.V ((DrawOutcomes code).1)) (Xpr.Kids ((DrawOutcomes code).1))) ((DrawOutcomes code).2)) != (Outcomes (Xpr.mk (Xpr.Kind ((DrawOutcomes code).1)) (Xpr.Col ((DrawOutcomes code).1)) (Xpr.V ((DrawOutcomes code).1)) (Xpr.Kids ((DrawOutcomes code).1))) ((DrawOutcomes code).2))) then true else ((iOutcomes (Xpr.mk (Xpr.Kind ((DrawOutcomes code).1)) (Xpr.Col ((DrawOutcomes code).1)) (Xpr.V ((DrawOutcomes code).1)) (Xpr.Kids ((DrawOutcomes code).1))) ((DrawOutcomes code).2)) == 0)) then ((iOutcomes (Xpr.mk (Xpr.Kind ((DrawOutcomes code).1)) (Xpr.Col ((DrawOutcomes code).1)) (Xpr.V ((DrawOutcomes code).1)) (Xpr.Kids ((DrawOutcomes code).1))) ((DrawOutcomes code).2)) == (Outcomes (Xpr.mk (Xpr.Kind ((DrawOutcomes code).1)) (Xpr.Col ((DrawOutcomes code).1)) (Xpr.V ((DrawOutcomes code).1)) (Xpr.Kids ((DrawOutcomes code).1))) ((DrawOutcomes code).2))) else (Go.Am.andThen (FnOutcomes_l0 code more ((List.length ((DrawOutcomes code).2)) - 0 + 1) 0 ([] : List Val)) (fun z => (fun (row : List Val) => (bif (Val.Null ((EvalExpr (Xpr.mk (Xpr.Kind ((DrawOutcomes code).1)) (Xpr.Col ((DrawOutcomes code).1)) (Xpr.V ((DrawOutcomes code).1)) (Xpr.Kids ((DrawOutcomes code).1))) row).1)) then (bif (bif ((EvalExpr (Xpr.mk (Xpr.Kind ((DrawOutcomes code).1)) (Xpr.Col ((DrawOutcomes code).1)) (Xpr.V ((DrawOutcomes code).1)) (Xpr.Kids ((DrawOutcomes code).1))) row).2) then ((bits .and .i64 (iOutcomes (Xpr.mk (Xpr.Kind ((DrawOutcomes code).1)) (Xpr.Col ((DrawOutcomes code).1)) (Xpr.V ((DrawOutcomes code).1)) (Xpr.Kids ((DrawOutcomes code).1))) ((DrawOutcomes code).2)) 4) != 0) else false) then (decide ((iOutcomes (Xpr.mk (Xpr.Kind ((DrawOutcomes code).1)) (Xpr.Col ((DrawOutcomes code).1)) (Xpr.V ((DrawOutcomes code).1)) (Xpr.Kids ((DrawOutcomes code).1))) ((DrawOutcomes code).2)) ≤ 7)) else false) else (bif ((Val.N ((EvalExpr (Xpr.mk (Xpr.Kind ((DrawOutcomes code).1)) (Xpr.Col ((DrawOutcomes code).1)) (Xpr.V ((DrawOutcomes code).1)) (Xpr.Kids ((DrawOutcomes code).1))) row).1)) == 0) then (bif (bif ((EvalExpr (Xpr.mk (Xpr.Kind ((DrawOutcomes code).1)) (Xpr.Col ((DrawOutcomes code).1)) (Xpr.V ((DrawOutcomes code).1)) (Xpr.Kids ((DrawOutcomes code).1))) row).2) then ((bits .and .i64 (iOutcomes (Xpr.mk (Xpr.Kind ((DrawOutcomes code).1)) (Xpr.Col ((DrawOutcomes code).1)) (Xpr.V ((DrawOutcomes code).1)) (Xpr.Kids ((DrawOutcomes code).1))) ((DrawOutcomes code).2)) 1) != 0) else false) then (decide ((iOutcomes (Xpr.mk (Xpr.Kind ((DrawOutcomes code).1)) (Xpr.Col ((DrawOutcomes code).1)) (Xpr.V ((DrawOutcomes code).1)) (Xpr.Kids ((DrawOutcomes code).1))) ((DrawOutcomes code).2)) ≤ 7)) else false) else (bif (bif ((EvalExpr (Xpr.mk (Xpr.Kind ((DrawOutcomes code).1)) (Xpr.Col ((DrawOutcomes code).1)) (Xpr.V ((DrawOutcomes code).1)) (Xpr.Kids ((DrawOutcomes code).1))) row).2) then ((bits .and .i64 (iOutcomes (Xpr.mk (Xpr.Kind ((DrawOutcomes code).1)) (Xpr.Col ((DrawOutcomes code).1)) (Xpr.V ((DrawOutcomes code).1)) (Xpr.Kids ((DrawOutcomes code).1))) ((DrawOutcomes code).2)) 2) != 0) else false) then (decide ((iOutcomes (Xpr.mk (Xpr.Kind ((DrawOutcomes code).1)) (Xpr.Col ((DrawOutcomes code).1)) (Xpr.V ((DrawOutcomes code).1)) (Xpr.Kids ((DrawOutcomes code).1))) ((DrawOutcomes code).2)) ≤ 7)) else false)))) z))))

def FnOutcomes_sp : FnSpec := mkSpec [.val (.slice (.int .u8)), .val (.slice (.int .u8))] [.val .bool] (fun (code : List Int) (more : List Int) => True) (fun (code : List Int) (more : List Int) => [⟨.bool, (FnOutcomes code more)⟩])

theorem FnOutcomes_ok : FnOK Try.prog 4 FnOutcomes_sp := by
 have hC : CtxOK Try.prog (mkCtx tyL [(7, DrawOutcomes_sp), (8, iOutcomes_sp), (9, Outcomes_sp), (10, EvalExpr_sp)]) := CtxOK.cons DrawOutcomes_ok (CtxOK.cons iOutcomes_ok (CtxOK.cons Outcomes_ok (CtxOK.cons EvalExpr_ok (CtxOK.nil tyOK))))
 refine FnOK.of_body Try.func4 (by kernel_rfl) rfl (C := (mkCtx tyL [(7, DrawOutcomes_sp), (8, iOutcomes_sp), (9, Outcomes_sp), (10, EvalExpr_sp)])) hC.ty (by kernel_rfl) ?_
 intro (code : List Int) (more : List Int) hwf hpre E
 have hpre : True := hpre
 have hw_code : Wf ⟨(.slice (.int .u8)), (code : List Int)⟩ := hwf _ (List.Mem.head _)
 have hl_code : ((List.length code : Nat) : Int) ≤ 9223372036854775807 := hw_code.len
 have hw_more : Wf ⟨(.slice (.int .u8)), (more : List Int)⟩ := hwf _ (List.Mem.tail _ (List.Mem.head _))
 have hl_more : ((List.length more : Nat) : Int) ≤ 9223372036854775807 := hw_more.len
 have e0 : FnOutcomes code more = FnOutcomes code more := rfl
 refine AW.seq (AW.r1 hC [0, 1] [] ⟨[(0, sD7 code), (1, sD7 more)], []⟩ ?_)
 refine AW.seq (AW.seq (AW.r0 hC [0, 1, 21] [] ⟨[(0, sD7 code), (1, sD7 more), (21, sB (bif (decide (1048576 < ((List.length code : Nat) : Int))) then true else (decide (1048576 < ((List.length more : Nat) : Int)))))], []⟩ [(((decide (1048576 < ((List.length code : Nat) : Int))) = false) → (((decide (1048576 < ((List.length code : Nat) : Int))) = false))), (((decide (1048576 < ((List.length code : Nat) : Int))) = false) → (((decide (1048576 < ((List.length code : Nat) : Int))) = false))), (((decide (1048576 < ((List.length code : Nat) : Int))) = false) → (((decide (1048576 < ((List.length code : Nat) : Int))) = false)))] ?_ ?_))
 ·
  refine ⟨?_, ?_, ?_, trivial⟩
  ·
   intro g1
   have g1p0 : ¬ (1048576 < ((List.length code : Nat) : Int)) := (of_decide_eq_false g1)
   first | assumption | exact ⟨by assumption, by assumption⟩
  ·
   intro g2
   have g2p0 : ¬ (1048576 < ((List.length code : Nat) : Int)) := (of_decide_eq_false g2)
   first | assumption | exact ⟨by assumption, by assumption⟩
  ·
   intro g3
   have g3p0 : ¬ (1048576 < ((List.length code : Nat) : Int)) := (of_decide_eq_false g3)
   first | assumption | exact ⟨by assumption, by assumption⟩
 refine AW.cd (bif (decide (1048576 < ((List.length code : Nat) : Int))) then true else (decide (1048576 < ((List.length more : Nat) : Int)))) ?_ ?_
 ·
  intro h4
  have h4q : (1048576 < ((List.length code : Nat) : Int)) ∨ (1048576 < ((List.length more : Nat) : Int)) := (Or.imp (fun h => (of_decide_eq_true h)) (fun h => (of_decide_eq_true h)) (Go.Am.or_pos h4))
  have e5 := e0.trans (Go.Am.bif_t h4)
  refine AW.seq (AW.r1 hC [4] [] ⟨[(4, sB true)], []⟩ ?_)
  exact AW.ret (AW.rB true e5)
 ·
  intro h6
  have h6q : (¬ (1048576 < ((List.length code : Nat) : Int))) ∧ (¬ (1048576 < ((List.length more : Nat) : Int))) := (And.imp (fun h => (of_decide_eq_false h)) (fun h => (of_decide_eq_false h)) (Go.Am.or_neg h6))
  have e7 := e0.trans (Go.Am.bif_f h6)
  refine AW.kp [0, 1] [] ⟨[(0, sD7 code), (1, sD7 more)], []⟩ ?_
  refine AW.skip (AW.seq (AW.r0 hC [1, 5, 6] [20, 97] ⟨[(1, sD7 more), (5, .ref 20 1 0), (6, .arr 97 1)], [(20, .box 1 [sI (Xpr.Kind ((DrawOutcomes code).1)), sI (Xpr.Col ((DrawOutcomes code).1)), sB (Val.Null (Xpr.V ((DrawOutcomes code).1))), sI (Val.N (Xpr.V ((DrawOutcomes code).1))), sD9 (Xpr.Kids ((DrawOutcomes code).1))]), (97, .arr 1 (.int .i64) (((DrawOutcomes code).2) : List Int))]⟩ [(True)] ?_ ?_))
  ·
   refine ⟨?_, trivial⟩
   ·
    trivial
  refine AW.seq (AW.r0 hC [1, 5, 6, 7] [20, 97] ⟨[(1, sD7 more), (5, .ref 20 1 0), (6, .arr 97 1), (7, sI (iOutcomes (Xpr.mk (Xpr.Kind ((DrawOutcomes code).1)) (Xpr.Col ((DrawOutcomes code).1)) (Xpr.V ((DrawOutcomes code).1)) (Xpr.Kids ((DrawOutcomes code).1))) ((DrawOutcomes code).2)))], [(20, .box 1 [sI (Xpr.Kind ((DrawOutcomes code).1)), sI (Xpr.Col ((DrawOutcomes code).1)), sB (Val.Null (Xpr.V ((DrawOutcomes code).1))), sI (Val.N (Xpr.V ((DrawOutcomes code).1))), sD9 (Xpr.Kids ((DrawOutcomes code).1))]), (97, .arr 1 (.int .i64) (((DrawOutcomes code).2) : List Int))]⟩ [(True)] ?_ ?_)
  ·
   refine ⟨?_, trivial⟩
   ·
    trivial
  refine AW.seq (AW.seq (AW.r0 hC [1, 5, 6, 7, 38] [20, 97] ⟨[(1, sD7 more), (5, .ref 20 1 0), (6, .arr 97 1), (7, sI (iOutcomes (Xpr.mk (Xpr.Kind ((DrawOutcomes code).1)) (Xpr.Col ((DrawOutcomes code).1)) (Xpr.V ((DrawOutcomes code).1)) (Xpr.Kids ((DrawOutcomes code).1))) ((DrawOutcomes code).2))), (38, sB (bif ((iOutcomes (Xpr.mk (Xpr.Kind ((DrawOutcomes code).1)) (Xpr.Col ((DrawOutcomes code).1)) (Xpr.V ((DrawOutcomes code).1)) (Xpr.Kids ((DrawOutcomes code).1))) ((DrawOutcomes code).2)) != (Outcomes (Xpr.mk (Xpr.Kind ((DrawOutcomes code).1)) (Xpr.Col ((DrawOutcomes code).1)) (Xpr.V ((DrawOutcomes code).1)) (Xpr.Kids ((DrawOutcomes code).1))) ((DrawOutcomes code).2))) then true else ((iOutcomes (Xpr.mk (Xpr.Kind ((DrawOutcomes code).1)) (Xpr.Col ((DrawOutcomes code).1)) (Xpr.V ((DrawOutcomes code).1)) (Xpr.Kids ((DrawOutcomes code).1))) ((DrawOutcomes code).2)) == 0)))], [(20, .box 1 [sI (Xpr.Kind ((DrawOutcomes code).1)), sI (Xpr.Col ((DrawOutcomes code).1)), sB (Val.Null (Xpr.V ((DrawOutcomes code).1))), sI (Val.N (Xpr.V ((DrawOutcomes code).1))), sD9 (Xpr.Kids ((DrawOutcomes code).1))]), (97, .arr 1 (.int .i64) (((DrawOutcomes code).2) : List Int))]⟩ [(True), ((((iOutcomes (Xpr.mk (Xpr.Kind ((DrawOutcomes code).1)) (Xpr.Col ((DrawOutcomes code).1)) (Xpr.V ((DrawOutcomes code).1)) (Xpr.Kids ((DrawOutcomes code).1))) ((DrawOutcomes code).2)) != (Outcomes (Xpr.mk (Xpr.Kind ((DrawOutcomes code).1)) (Xpr.Col ((DrawOutcomes code).1)) (Xpr.V ((DrawOutcomes code).1)) (Xpr.Kids ((DrawOutcomes code).1))) ((DrawOutcomes code).2))) = false) → ((((iOutcomes (Xpr.mk (Xpr.Kind ((DrawOutcomes code).1)) (Xpr.Col ((DrawOutcomes code).1)) (Xpr.V ((DrawOutcomes code).1)) (Xpr.Kids ((DrawOutcomes code).1))) ((DrawOutcomes code).2)) != (Outcomes (Xpr.mk (Xpr.Kind ((DrawOutcomes code).1)) (Xpr.Col ((DrawOutcomes code).1)) (Xpr.V ((DrawOutcomes code).1)) (Xpr.Kids ((DrawOutcomes code).1))) ((DrawOutcomes code).2))) = false))), ((((iOutcomes (Xpr.mk (Xpr.Kind ((DrawOutcomes code).1)) (Xpr.Col ((DrawOutcomes code).1)) (Xpr.V ((DrawOutcomes code).1)) (Xpr.Kids ((DrawOutcomes code).1))) ((DrawOutcomes code).2)) != (Outcomes (Xpr.mk (Xpr.Kind ((DrawOutcomes code).1)) (Xpr.Col ((DrawOutcomes code).1)) (Xpr.V ((DrawOutcomes code).1)) (Xpr.Kids ((DrawOutcomes code).1))) ((DrawOutcomes code).2))) = false) → ((((iOutcomes (Xpr.mk (Xpr.Kind ((DrawOutcomes code).1)) (Xpr.Col ((DrawOutcomes code).1)) (Xpr.V ((DrawOutcomes code).1)) (Xpr.Kids ((DrawOutcomes code).1))) ((DrawOutcomes code).2)) != (Outcomes (Xpr.mk (Xpr.Kind ((DrawOutcomes code).1)) (Xpr.Col ((DrawOutcomes code).1)) (Xpr.V ((DrawOutcomes code).1)) (Xpr.Kids ((DrawOutcomes code).1))) ((DrawOutcomes code).2))) = false)))] ?_ ?_))
  ·
   refine ⟨?_, ?_, ?_, trivial⟩
   ·
    trivial
   ·
    intro g8
    have g8p0 : (iOutcomes (Xpr.mk (Xpr.Kind ((DrawOutcomes code).1)) (Xpr.Col ((DrawOutcomes code).1)) (Xpr.V ((DrawOutcomes code).1)) (Xpr.Kids ((DrawOutcomes code).1))) ((DrawOutcomes code).2)) = (Outcomes (Xpr.mk (Xpr.Kind ((DrawOutcomes code).1)) (Xpr.Col ((DrawOutcomes code).1)) (Xpr.V ((DrawOutcomes code).1)) (Xpr.Kids ((DrawOutcomes code).1))) ((DrawOutcomes code).2)) := (Go.Am.bne_neg g8)
    first | assumption | exact ⟨by assumption, by assumption⟩
   ·
    intro g9
    have g9p0 : (iOutcomes (Xpr.mk (Xpr.Kind ((DrawOutcomes code).1)) (Xpr.Col ((DrawOutcomes code).1)) (Xpr.V ((DrawOutcomes code).1)) (Xpr.Kids ((DrawOutcomes code).1))) ((DrawOutcomes code).2)) = (Outcomes (Xpr.mk (Xpr.Kind ((DrawOutcomes code).1)) (Xpr.Col ((DrawOutcomes code).1)) (Xpr.V ((DrawOutcomes code).1)) (Xpr.Kids ((DrawOutcomes code).1))) ((DrawOutcomes code).2)) := (Go.Am.bne_neg g9)
    first | assumption | exact ⟨by assumption, by assumption⟩
  refine AW.cd (bif ((iOutcomes (Xpr.mk (Xpr.Kind ((DrawOutcomes code).1)) (Xpr.Col ((DrawOutcomes code).1)) (Xpr.V ((DrawOutcomes code).1)) (Xpr.Kids ((DrawOutcomes code).1))) ((DrawOutcomes code).2)) != (Outcomes (Xpr.mk (Xpr.Kind ((DrawOutcomes code).1)) (Xpr.Col ((DrawOutcomes code).1)) (Xpr.V ((DrawOutcomes code).1)) (Xpr.Kids ((DrawOutcomes code).1))) ((DrawOutcomes code).2))) then true else ((iOutcomes (Xpr.mk (Xpr.Kind ((DrawOutcomes code).1)) (Xpr.Col ((DrawOutcomes code).1)) (Xpr.V ((DrawOutcomes code).1)) (Xpr.Kids ((DrawOutcomes code).1))) ((DrawOutcomes code).2)) == 0)) ?_ ?_
  ·
   intro h10
   have h10q : ((iOutcomes (Xpr.mk (Xpr.Kind ((DrawOutcomes code).1)) (Xpr.Col ((DrawOutcomes code).1)) (Xpr.V ((DrawOutcomes code).1)) (Xpr.Kids ((DrawOutcomes code).1))) ((DrawOutcomes code).2)) ≠ (Outcomes (Xpr.mk (Xpr.Kind ((DrawOutcomes code).1)) (Xpr.Col ((DrawOutcomes code).1)) (Xpr.V ((DrawOutcomes code).1)) (Xpr.Kids ((DrawOutcomes code).1))) ((DrawOutcomes code).2))) ∨ ((iOutcomes (Xpr.mk (Xpr.Kind ((DrawOutcomes code).1)) (Xpr.Col ((DrawOutcomes code).1)) (Xpr.V ((DrawOutcomes code).1)) (Xpr.Kids ((DrawOutcomes code).1))) ((DrawOutcomes code).2)) = 0) := (Or.imp (fun h => (Go.Am.bne_pos h)) (fun h => (Go.Am.beq_pos h)) (Go.Am.or_pos h10))
   have e11 := e7.trans (Go.Am.bif_t h10)
   refine AW.seq (AW.r0 hC [4] [] ⟨[(4, sB ((iOutcomes (Xpr.mk (Xpr.Kind ((DrawOutcomes code).1)) (Xpr.Col ((DrawOutcomes code).1)) (Xpr.V ((DrawOutcomes code).1)) (Xpr.Kids ((DrawOutcomes code).1))) ((DrawOutcomes code).2)) == (Outcomes (Xpr.mk (Xpr.Kind ((DrawOutcomes code).1)) (Xpr.Col ((DrawOutcomes code).1)) (Xpr.V ((DrawOutcomes code).1)) (Xpr.Kids ((DrawOutcomes code).1))) ((DrawOutcomes code).2))))], []⟩ [(True)] ?_ ?_)
   ·
    refine ⟨?_, trivial⟩
    ·
     trivial
   exact AW.ret (AW.rB ((iOutcomes (Xpr.mk (Xpr.Kind ((DrawOutcomes code).1)) (Xpr.Col ((DrawOutcomes code).1)) (Xpr.V ((DrawOutcomes code).1)) (Xpr.Kids ((DrawOutcomes code).1))) ((DrawOutcomes code).2)) == (Outcomes (Xpr.mk (Xpr.Kind ((DrawOutcomes code).1)) (Xpr.Col ((DrawOutcomes code).1)) (Xpr.V ((DrawOutcomes code).1)) (Xpr.Kids ((DrawOutcomes code).1))) ((DrawOutcomes code).2))) e11)
  ·
   intro h12
   have h12q : ((iOutcomes (Xpr.mk (Xpr.Kind ((DrawOutcomes code).1)) (Xpr.Col ((DrawOutcomes code).1)) (Xpr.V ((DrawOutcomes code).1)) (Xpr.Kids ((DrawOutcomes code).1))) ((DrawOutcomes code).2)) = (Outcomes (Xpr.mk (Xpr.Kind ((DrawOutcomes code).1)) (Xpr.Col ((DrawOutcomes code).1)) (Xpr.V ((DrawOutcomes code).1)) (Xpr.Kids ((DrawOutcomes code).1))) ((DrawOutcomes code).2))) ∧ ((iOutcomes (Xpr.mk (Xpr.Kind ((DrawOutcomes code).1)) (Xpr.Col ((DrawOutcomes code).1)) (Xpr.V ((DrawOutcomes code).1)) (Xpr.Kids ((DrawOutcomes code).1))) ((DrawOutcomes code).2)) ≠ 0) := (And.imp (fun h => (Go.Am.bne_neg h)) (fun h => (Go.Am.beq_neg h)) (Go.Am.or_neg h12))
   have e13 := e7.trans (Go.Am.bif_f h12)
   refine AW.kp [1, 5, 6, 7] [20, 97] ⟨[(1, sD7 more), (5, .ref 20 1 0), (6, .arr 97 1), (7, sI (iOutcomes (Xpr.mk (Xpr.Kind ((DrawOutcomes code).1)) (Xpr.Col ((DrawOutcomes code).1)) (Xpr.V ((DrawOutcomes code).1)) (Xpr.Kids ((DrawOutcomes code).1))) ((DrawOutcomes code).2)))], [(20, .box 1 [sI (Xpr.Kind ((DrawOutcomes code).1)), sI (Xpr.Col ((DrawOutcomes code).1)), sB (Val.Null (Xpr.V ((DrawOutcomes code).1))), sI (Val.N (Xpr.V ((DrawOutcomes code).1))), sD9 (Xpr.Kids ((DrawOutcomes code).1))]), (97, .arr 1 (.int .i64) (((DrawOutcomes code).2) : List Int))]⟩ ?_
   refine AW.skip (AW.seq ?_)
   have hQ := iOutcomes_ne (e := (DrawOutcomes code).1) (st := (DrawOutcomes code).2) (by have h := h12q.2; rw [Xpr.eta] at h; exact h)
   have hQ1 := hQ.1.1
   refine AW.r1 hC [1, 5, 6, 7, 8] [20, 97, 176] ⟨[(1, sD7 more), (5, .ref 20 1 0), (6, .arr 97 1), (7, sI (iOutcomes (Xpr.mk (Xpr.Kind ((DrawOutcomes code).1)) (Xpr.Col ((DrawOutcomes code).1)) (Xpr.V ((DrawOutcomes code).1)) (Xpr.Kids ((DrawOutcomes code).1))) ((DrawOutcomes code).2))), (8, .arr 176 1)], [(20, .box 1 [sI (Xpr.Kind ((DrawOutcomes code).1)), sI (Xpr.Col ((DrawOutcomes code).1)), sB (Val.Null (Xpr.V ((DrawOutcomes code).1))), sI (Val.N (Xpr.V ((DrawOutcomes code).1))), sD9 (Xpr.Kids ((DrawOutcomes code).1))]), (97, .arr 1 (.int .i64) (((DrawOutcomes code).2) : List Int)), (176, .arr 1 (.named 0) (([] : List Val) : List Val))]⟩ ?_
   refine AW.seq (AW.seq (AW.r1 hC [1, 5, 6, 7, 8, 9] [20, 97, 176] ⟨[(1, sD7 more), (5, .ref 20 1 0), (6, .arr 97 1), (7, sI (iOutcomes (Xpr.mk (Xpr.Kind ((DrawOutcomes code).1)) (Xpr.Col ((DrawOutcomes code).1)) (Xpr.V ((DrawOutcomes code).1)) (Xpr.Kids ((DrawOutcomes code).1))) ((DrawOutcomes code).2))), (8, .arr 176 1), (9, sI 0)], [(20, .box 1 [sI (Xpr.Kind ((DrawOutcomes code).1)), sI (Xpr.Col ((DrawOutcomes code).1)), sB (Val.Null (Xpr.V ((DrawOutcomes code).1))), sI (Val.N (Xpr.V ((DrawOutcomes code).1))), sD9 (Xpr.Kids ((DrawOutcomes code).1))]), (97, .arr 1 (.int .i64) (((DrawOutcomes code).2) : List Int)), (176, .arr 1 (.named 0) (([] : List Val) : List Val))]⟩ ?_))
   refine AW.cutQ (α := (List Val)) (fun x => ⟨[(5, .ref 20 1 0), (7, sI (iOutcomes (Xpr.mk (Xpr.Kind ((DrawOutcomes code).1)) (Xpr.Col ((DrawOutcomes code).1)) (Xpr.V ((DrawOutcomes code).1)) (Xpr.Kids ((DrawOutcomes code).1))) ((DrawOutcomes code).2))), (8, .arr 176 1)], [(20, .box 1 [sI (Xpr.Kind ((DrawOutcomes code).1)), sI (Xpr.Col ((DrawOutcomes code).1)), sB (Val.Null (Xpr.V ((DrawOutcomes code).1))), sI (Val.N (Xpr.V ((DrawOutcomes code).1))), sD9 (Xpr.Kids ((DrawOutcomes code).1))]), (176, .arr 1 (.named 0) (x : List Val))]⟩) (fun x => (True) ∧ (FnOutcomes_l0 code more ((List.length ((DrawOutcomes code).2)) - 0 + 1) 0 ([] : List Val)) = x) ?_ ?_
   ·
    skip
    refine AW.block (AW.loop (α := Nat × (List Val)) (fun x => ⟨[(1, sD7 more), (5, .ref 20 1 0), (6, .arr 97 1), (7, sI (iOutcomes (Xpr.mk (Xpr.Kind ((DrawOutcomes code).1)) (Xpr.Col ((DrawOutcomes code).1)) (Xpr.V ((DrawOutcomes code).1)) (Xpr.Kids ((DrawOutcomes code).1))) ((DrawOutcomes code).2))), (8, .arr 176 1), (9, sI ((x.1 : Nat) : Int))], [(20, .box 1 [sI (Xpr.Kind ((DrawOutcomes code).1)), sI (Xpr.Col ((DrawOutcomes code).1)), sB (Val.Null (Xpr.V ((DrawOutcomes code).1))), sI (Val.N (Xpr.V ((DrawOutcomes code).1))), sD9 (Xpr.Kids ((DrawOutcomes code).1))]), (97, .arr 1 (.int .i64) (((DrawOutcomes code).2) : List Int)), (176, .arr 1 (.named 0) (x.2 : List Val))]⟩) (fun x => (List.length x.2 = x.1 ∧ x.1 ≤ 6) ∧ ∃ k, (List.length ((DrawOutcomes code).2)) - x.1 < k ∧ (FnOutcomes_l0 code more ((List.length ((DrawOutcomes code).2)) - 0 + 1) 0 ([] : List Val)) = FnOutcomes_l0 code more k x.1 x.2) (fun x => (List.length ((DrawOutcomes code).2)) - x.1) (0, ([] : List Val)) (by kernel_rfl) ⟨?_, _, Nat.lt_succ_self _, rfl⟩ ?_)
    ·
     show List.length ([] : List Val) = 0 ∧ 0 ≤ 6
     first | exact trivial | (refine ⟨?_, ?_⟩ <;> first | omega | simp) | omega | simp
    ·
     intro x hR
     obtain ⟨i, row⟩ := x
     obtain ⟨hI0, k64, hk62, e63⟩ := hR
     replace hI0 : List.length row = i ∧ i ≤ 6 := hI0
     replace hk62 : (List.length ((DrawOutcomes code).2)) - i < k64 := hk62
     obtain ⟨k64q, rfl⟩ : ∃ k, k64 = k + 1 := ⟨k64 - 1, by omega⟩
     refine AW.seq (AW.seq (AW.r1 hC [1, 5, 6, 7, 8, 9, 48] [20, 97, 176] ⟨[(1, sD7 more), (5, .ref 20 1 0), (6, .arr 97 1), (7, sI (iOutcomes (Xpr.mk (Xpr.Kind ((DrawOutcomes code).1)) (Xpr.Col ((DrawOutcomes code).1)) (Xpr.V ((DrawOutcomes code).1)) (Xpr.Kids ((DrawOutcomes code).1))) ((DrawOutcomes code).2))), (8, .arr 176 1), (9, sI ((i : Nat) : Int)), (48, sB (decide (((i : Nat) : Int) < ((List.length ((DrawOutcomes code).2) : Nat) : Int))))], [(20, .box 1 [sI (Xpr.Kind ((DrawOutcomes code).1)), sI (Xpr.Col ((DrawOutcomes code).1)), sB (Val.Null (Xpr.V ((DrawOutcomes code).1))), sI (Val.N (Xpr.V ((DrawOutcomes code).1))), sD9 (Xpr.Kids ((DrawOutcomes code).1))]), (97, .arr 1 (.int .i64) (((DrawOutcomes code).2) : List Int)), (176, .arr 1 (.named 0) (row : List Val))]⟩ ?_))
     refine AW.cd (decide (((i : Nat) : Int) < ((List.length ((DrawOutcomes code).2) : Nat) : Int))) ?_ ?_
     ·
      intro h65
      have h65q := (of_decide_eq_true h65)
      have e66 := e63.trans (Go.Am.bif_t h65)
      refine AW.kp [1, 5, 6, 7, 8, 9] [20, 97, 176] ⟨[(1, sD7 more), (5, .ref 20 1 0), (6, .arr 97 1), (7, sI (iOutcomes (Xpr.mk (Xpr.Kind ((DrawOutcomes code).1)) (Xpr.Col ((DrawOutcomes code).1)) (Xpr.V ((DrawOutcomes code).1)) (Xpr.Kids ((DrawOutcomes code).1))) ((DrawOutcomes code).2))), (8, .arr 176 1), (9, sI ((i : Nat) : Int))], [(20, .box 1 [sI (Xpr.Kind ((DrawOutcomes code).1)), sI (Xpr.Col ((DrawOutcomes code).1)), sB (Val.Null (Xpr.V ((DrawOutcomes code).1))), sI (Val.N (Xpr.V ((DrawOutcomes code).1))), sD9 (Xpr.Kids ((DrawOutcomes code).1))]), (97, .arr 1 (.int .i64) (((DrawOutcomes code).2) : List Int)), (176, .arr 1 (.named 0) (row : List Val))]⟩ ?_
      refine AW.skip (AW.seq (AW.block (AW.seq (AW.r0 hC [1, 5, 6, 7, 8, 9, 10] [20, 97, 176] ⟨[(1, sD7 more), (5, .ref 20 1 0), (6, .arr 97 1), (7, sI (iOutcomes (Xpr.mk (Xpr.Kind ((DrawOutcomes code).1)) (Xpr.Col ((DrawOutcomes code).1)) (Xpr.V ((DrawOutcomes code).1)) (Xpr.Kids ((DrawOutcomes code).1))) ((DrawOutcomes code).2))), (8, .arr 176 1), (9, sI ((i : Nat) : Int)), (10, sI (((List.length more) + i : Nat) : Int))], [(20, .box 1 [sI (Xpr.Kind ((DrawOutcomes code).1)), sI (Xpr.Col ((DrawOutcomes code).1)), sB (Val.Null (Xpr.V ((DrawOutcomes code).1))), sI (Val.N (Xpr.V ((DrawOutcomes code).1))), sD9 (Xpr.Kids ((DrawOutcomes code).1))]), (97, .arr 1 (.int .i64) (((DrawOutcomes code).2) : List Int)), (176, .arr 1 (.named 0) (row : List Val))]⟩ [R64 (((List.length more) + i : Nat) : Int)] ?_ ?_))))
      ·
       refine ⟨?_, trivial⟩
       ·
        refine R64.of ?_
        first | omega | (simp only [List.length_append, List.length_cons, List.length_nil]; omega)
      refine AW.block (AW.seq (AW.r0 hC [1, 5, 6, 7, 8, 9, 10, 59] [20, 97, 176] ⟨[(1, sD7 more), (5, .ref 20 1 0), (6, .arr 97 1), (7, sI (iOutcomes (Xpr.mk (Xpr.Kind ((DrawOutcomes code).1)) (Xpr.Col ((DrawOutcomes code).1)) (Xpr.V ((DrawOutcomes code).1)) (Xpr.Kids ((DrawOutcomes code).1))) ((DrawOutcomes code).2))), (8, .arr 176 1), (9, sI ((i : Nat) : Int)), (10, sI (((List.length more) + i : Nat) : Int)), (59, sB (bif ((bits .and .i64 (List.getD ((DrawOutcomes code).2) i 0) 4) != 0) then (bif (((((List.length more) + i : Nat) : Int) % 3) == 0) then true else ((List.getD ((DrawOutcomes code).2) i 0) == 4)) else false))], [(20, .box 1 [sI (Xpr.Kind ((DrawOutcomes code).1)), sI (Xpr.Col ((DrawOutcomes code).1)), sB (Val.Null (Xpr.V ((DrawOutcomes code).1))), sI (Val.N (Xpr.V ((DrawOutcomes code).1))), sD9 (Xpr.Kids ((DrawOutcomes code).1))]), (97, .arr 1 (.int .i64) (((DrawOutcomes code).2) : List Int)), (176, .arr 1 (.named 0) (row : List Val))]⟩ [IX ((i : Nat) : Int) ((List.length ((DrawOutcomes code).2) : Nat) : Int), ((((bits .and .i64 (List.getD ((DrawOutcomes code).2) i 0) 4) != 0) = true) → ((((bits .and .i64 (List.getD ((DrawOutcomes code).2) i 0) 4) != 0) = true))), ((((bits .and .i64 (List.getD ((DrawOutcomes code).2) i 0) 4) != 0) = true) → (0 ≤ (((List.length more) + i : Nat) : Int) ∧ 0 < (3 : Int))), ((((bits .and .i64 (List.getD ((DrawOutcomes code).2) i 0) 4) != 0) = true) → ((((bits .and .i64 (List.getD ((DrawOutcomes code).2) i 0) 4) != 0) = true))), ((((bits .and .i64 (List.getD ((DrawOutcomes code).2) i 0) 4) != 0) = true) → ((((bits .and .i64 (List.getD ((DrawOutcomes code).2) i 0) 4) != 0) = true))), (((((bits .and .i64 (List.getD ((DrawOutcomes code).2) i 0) 4) != 0) = true) ∧ ((((((List.length more) + i : Nat) : Int) % 3) == 0) = false)) → (((((bits .and .i64 (List.getD ((DrawOutcomes code).2) i 0) 4) != 0) = true) ∧ ((((((List.length more) + i : Nat) : Int) % 3) == 0) = false)))), (((((bits .and .i64 (List.getD ((DrawOutcomes code).2) i 0) 4) != 0) = true) ∧ ((((((List.length more) + i : Nat) : Int) % 3) == 0) = false)) → (((((bits .and .i64 (List.getD ((DrawOutcomes code).2) i 0) 4) != 0) = true) ∧ ((((((List.length more) + i : Nat) : Int) % 3) == 0) = false)))), (((((bits .and .i64 (List.getD ((DrawOutcomes code).2) i 0) 4) != 0) = true) ∧ ((((((List.length more) + i : Nat) : Int) % 3) == 0) = false)) → IX ((i : Nat) : Int) ((List.length ((DrawOutcomes code).2) : Nat) : Int)), (((((bits .and .i64 (List.getD ((DrawOutcomes code).2) i 0) 4) != 0) = true) ∧ ((((((List.length more) + i : Nat) : Int) % 3) == 0) = false)) → (((((bits .and .i64 (List.getD ((DrawOutcomes code).2) i 0) 4) != 0) = true) ∧ ((((((List.length more) + i : Nat) : Int) % 3) == 0) = false)))), (((((bits .and .i64 (List.getD ((DrawOutcomes code).2) i 0) 4) != 0) = true) ∧ ((((((List.length more) + i : Nat) : Int) % 3) == 0) = false)) → (((((bits .and .i64 (List.getD ((DrawOutcomes code).2) i 0) 4) != 0) = true) ∧ ((((((List.length more) + i : Nat) : Int) % 3) == 0) = false)))), ((((bits .and .i64 (List.getD ((DrawOutcomes code).2) i 0) 4) != 0) = true) → ((((bits .and .i64 (List.getD ((DrawOutcomes code).2) i 0) 4) != 0) = true))), ((((bits .and .i64 (List.getD ((DrawOutcomes code).2) i 0) 4) != 0) = true) → (((((((List.length more) + i : Nat) : Int) % 3) == 0) = false) → (((((bits .and .i64 (List.getD ((DrawOutcomes code).2) i 0) 4) != 0) = true) ∧ ((((((List.length more) + i : Nat) : Int) % 3) == 0) = false))))), ((((bits .and .i64 (List.getD ((DrawOutcomes code).2) i 0) 4) != 0) = true) → ((((bits .and .i64 (List.getD ((DrawOutcomes code).2) i 0) 4) != 0) = true)))] ?_ ?_))
      ·
       refine ⟨?_, ?_, ?_, ?_, ?_, ?_, ?_, ?_, ?_, ?_, ?_, ?_, ?_, trivial⟩
       ·
        refine IX.of ?_
        first | omega | (simp only [List.length_append, List.length_cons, List.length_nil]; omega)
       ·
        intro g67
        have g67p0 : (bits .and .i64 (List.getD ((DrawOutcomes code).2) i 0) 4) ≠ 0 := (Go.Am.bne_pos g67)
        first | assumption | exact ⟨by assumption, by assumption⟩
       ·
        intro g68
        have g68p0 : (bits .and .i64 (List.getD ((DrawOutcomes code).2) i 0) 4) ≠ 0 := (Go.Am.bne_pos g68)
        first | omega | (simp only [List.length_append, List.length_cons, List.length_nil]; omega)
       ·
        intro g69
        have g69p0 : (bits .and .i64 (List.getD ((DrawOutcomes code).2) i 0) 4) ≠ 0 := (Go.Am.bne_pos g69)
        first | assumption | exact ⟨by assumption, by assumption⟩
       ·
        intro g70
        have g70p0 : (bits .and .i64 (List.getD ((DrawOutcomes code).2) i 0) 4) ≠ 0 := (Go.Am.bne_pos g70)
        first | assumption | exact ⟨by assumption, by assumption⟩
       ·
        intro g71
        have g71p0 : (bits .and .i64 (List.getD ((DrawOutcomes code).2) i 0) 4) ≠ 0 := (Go.Am.bne_pos (g71).1)
        have g71p1 : ((((List.length more) + i : Nat) : Int) % 3) ≠ 0 := (Go.Am.beq_neg (g71).2)
        first | assumption | exact ⟨by assumption, by assumption⟩
       ·
        intro g72
        have g72p0 : (bits .and .i64 (List.getD ((DrawOutcomes code).2) i 0) 4) ≠ 0 := (Go.Am.bne_pos (g72).1)
        have g72p1 : ((((List.length more) + i : Nat) : Int) % 3) ≠ 0 := (Go.Am.beq_neg (g72).2)
        first | assumption | exact ⟨by assumption, by assumption⟩
       ·
        intro g73
        have g73p0 : (bits .and .i64 (List.getD ((DrawOutcomes code).2) i 0) 4) ≠ 0 := (Go.Am.bne_pos (g73).1)
        have g73p1 : ((((List.length more) + i : Nat) : Int) % 3) ≠ 0 := (Go.Am.beq_neg (g73).2)
        refine IX.of ?_
        first | omega | (simp only [List.length_append, List.length_cons, List.length_nil]; omega)
       ·
        intro g74
        have g74p0 : (bits .and .i64 (List.getD ((DrawOutcomes code).2) i 0) 4) ≠ 0 := (Go.Am.bne_pos (g74).1)
        have g74p1 : ((((List.length more) + i : Nat) : Int) % 3) ≠ 0 := (Go.Am.beq_neg (g74).2)
        first | assumption | exact ⟨by assumption, by assumption⟩
       ·
        intro g75
        have g75p0 : (bits .and .i64 (List.getD ((DrawOutcomes code).2) i 0) 4) ≠ 0 := (Go.Am.bne_pos (g75).1)
        have g75p1 : ((((List.length more) + i : Nat) : Int) % 3) ≠ 0 := (Go.Am.beq_neg (g75).2)
        first | assumption | exact ⟨by assumption, by assumption⟩
       ·
        intro g76
        have g76p0 : (bits .and .i64 (List.getD ((DrawOutcomes code).2) i 0) 4) ≠ 0 := (Go.Am.bne_pos g76)
        first | assumption | exact ⟨by assumption, by assumption⟩
       ·
        intro g77
        have g77p0 : (bits .and .i64 (List.getD ((DrawOutcomes code).2) i 0) 4) ≠ 0 := (Go.Am.bne_pos g77)
        intro g78
        have g78p0 : ((((List.length more) + i : Nat) : Int) % 3) ≠ 0 := (Go.Am.beq_neg g78)
        first | assumption | exact ⟨by assumption, by assumption⟩
       ·
        intro g79
        have g79p0 : (bits .and .i64 (List.getD ((DrawOutcomes code).2) i 0) 4) ≠ 0 := (Go.Am.bne_pos g79)
        first | assumption | exact ⟨by assumption, by assumption⟩
      refine AW.cd (bif ((bits .and .i64 (List.getD ((DrawOutcomes code).2) i 0) 4) != 0) then (bif (((((List.length more) + i : Nat) : Int) % 3) == 0) then true else ((List.getD ((DrawOutcomes code).2) i 0) == 4)) else false) ?_ ?_
      ·
       intro h80
       have h80q : ((bits .and .i64 (List.getD ((DrawOutcomes code).2) i 0) 4) ≠ 0) ∧ ((((((List.length more) + i : Nat) : Int) % 3) = 0) ∨ ((List.getD ((DrawOutcomes code).2) i 0) = 4)) := (And.imp (fun h => (Go.Am.bne_pos h)) (fun h => (Or.imp (fun h => (Go.Am.beq_pos h)) (fun h => (Go.Am.beq_pos h)) (Go.Am.or_pos h))) (Go.Am.and_pos h80))
       have e81 := e66.trans (Go.Am.bif_t h80)
       refine AW.r0 hC [1, 5, 6, 7, 8, 9] [20, 97, 176] ⟨[(1, sD7 more), (5, .ref 20 1 0), (6, .arr 97 1), (7, sI (iOutcomes (Xpr.mk (Xpr.Kind ((DrawOutcomes code).1)) (Xpr.Col ((DrawOutcomes code).1)) (Xpr.V ((DrawOutcomes code).1)) (Xpr.Kids ((DrawOutcomes code).1))) ((DrawOutcomes code).2))), (8, .arr 176 1), (9, sI ((i : Nat) : Int))], [(20, .box 1 [sI (Xpr.Kind ((DrawOutcomes code).1)), sI (Xpr.Col ((DrawOutcomes code).1)), sB (Val.Null (Xpr.V ((DrawOutcomes code).1))), sI (Val.N (Xpr.V ((DrawOutcomes code).1))), sD9 (Xpr.Kids ((DrawOutcomes code).1))]), (97, .arr 1 (.int .i64) (((DrawOutcomes code).2) : List Int)), (176, .arr 1 (.named 0) ((row ++ ([(Val.mk true 0)] : List Val)) : List Val))]⟩ [(((List.length row : Nat) : Int) + ((List.length ([(Val.mk true 0)] : List Val) : Nat) : Int) ≤ 4294967296)] ?_ ?_
       ·
        refine ⟨?_, trivial⟩
        ·
         first | omega | (simp only [List.length_append, List.length_cons, List.length_nil]; omega)
       refine AW.r0 hC [1, 5, 6, 7, 8, 9] [20, 97, 176] ⟨[(1, sD7 more), (5, .ref 20 1 0), (6, .arr 97 1), (7, sI (iOutcomes (Xpr.mk (Xpr.Kind ((DrawOutcomes code).1)) (Xpr.Col ((DrawOutcomes code).1)) (Xpr.V ((DrawOutcomes code).1)) (Xpr.Kids ((DrawOutcomes code).1))) ((DrawOutcomes code).2))), (8, .arr 176 1), (9, sI ((i + 1 : Nat) : Int))], [(20, .box 1 [sI (Xpr.Kind ((DrawOutcomes code).1)), sI (Xpr.Col ((DrawOutcomes code).1)), sB (Val.Null (Xpr.V ((DrawOutcomes code).1))), sI (Val.N (Xpr.V ((DrawOutcomes code).1))), sD9 (Xpr.Kids ((DrawOutcomes code).1))]), (97, .arr 1 (.int .i64) (((DrawOutcomes code).2) : List Int)), (176, .arr 1 (.named 0) ((row ++ ([(Val.mk true 0)] : List Val)) : List Val))]⟩ [R64 ((i + 1 : Nat) : Int)] ?_ ?_
       ·
        refine ⟨?_, trivial⟩
        ·
         refine R64.of ?_
         first | omega | (simp only [List.length_append, List.length_cons, List.length_nil]; omega)
       refine AW.back (x := (i, row)) (i + 1, (row ++ ([(Val.mk true 0)] : List Val))) (by kernel_rfl) ⟨?_, k64q, ?_, e81⟩ ?_
       ·
        show List.length (row ++ ([(Val.mk true 0)] : List Val)) = (i + 1) ∧ (i + 1) ≤ 6
        first | assumption | exact trivial | (refine ⟨?_, ?_⟩ <;> first | omega | (simp only [lens] at *; omega)) | omega | (simp only [lens] at *; omega)
       ·
        show (List.length ((DrawOutcomes code).2)) - (i + 1) < k64q
        first | omega | (simp only [lens]; omega)
       ·
        show (List.length ((DrawOutcomes code).2)) - (i + 1) < (List.length ((DrawOutcomes code).2)) - i
        first | omega | (simp only [lens]; omega)
      ·
       intro h82
       have h82q : ((bits .and .i64 (List.getD ((DrawOutcomes code).2) i 0) 4) = 0) ∨ ((((((List.length more) + i : Nat) : Int) % 3) ≠ 0) ∧ ((List.getD ((DrawOutcomes code).2) i 0) ≠ 4)) := (Or.imp (fun h => (Go.Am.bne_neg h)) (fun h => (And.imp (fun h => (Go.Am.beq_neg h)) (fun h => (Go.Am.beq_neg h)) (Go.Am.or_neg h))) (Go.Am.and_neg h82))
       have e83 := e66.trans (Go.Am.bif_f h82)
       refine AW.seq (AW.r0 hC [1, 5, 6, 7, 8, 9, 10, 82] [20, 97, 176] ⟨[(1, sD7 more), (5, .ref 20 1 0), (6, .arr 97 1), (7, sI (iOutcomes (Xpr.mk (Xpr.Kind ((DrawOutcomes code).1)) (Xpr.Col ((DrawOutcomes code).1)) (Xpr.V ((DrawOutcomes code).1)) (Xpr.Kids ((DrawOutcomes code).1))) ((DrawOutcomes code).2))), (8, .arr 176 1), (9, sI ((i : Nat) : Int)), (10, sI (((List.length more) + i : Nat) : Int)), (82, sB (bif ((bits .and .i64 (List.getD ((DrawOutcomes code).2) i 0) 2) != 0) then (bif (((((List.length more) + i : Nat) : Int) % 2) == 0) then true else ((bits .and .i64 (List.getD ((DrawOutcomes code).2) i 0) 1) == 0)) else false))], [(20, .box 1 [sI (Xpr.Kind ((DrawOutcomes code).1)), sI (Xpr.Col ((DrawOutcomes code).1)), sB (Val.Null (Xpr.V ((DrawOutcomes code).1))), sI (Val.N (Xpr.V ((DrawOutcomes code).1))), sD9 (Xpr.Kids ((DrawOutcomes code).1))]), (97, .arr 1 (.int .i64) (((DrawOutcomes code).2) : List Int)), (176, .arr 1 (.named 0) (row : List Val))]⟩ [IX ((i : Nat) : Int) ((List.length ((DrawOutcomes code).2) : Nat) : Int), ((((bits .and .i64 (List.getD ((DrawOutcomes code).2) i 0) 2) != 0) = true) → ((((bits .and .i64 (List.getD ((DrawOutcomes code).2) i 0) 2) != 0) = true))), ((((bits .and .i64 (List.getD ((DrawOutcomes code).2) i 0) 2) != 0) = true) → (0 ≤ (((List.length more) + i : Nat) : Int) ∧ 0 < (2 : Int))), ((((bits .and .i64 (List.getD ((DrawOutcomes code).2) i 0) 2) != 0) = true) → ((((bits .and .i64 (List.getD ((DrawOutcomes code).2) i 0) 2) != 0) = true))), ((((bits .and .i64 (List.getD ((DrawOutcomes code).2) i 0) 2) != 0) = true) → ((((bits .and .i64 (List.getD ((DrawOutcomes code).2) i 0) 2) != 0) = true))), (((((bits .and .i64 (List.getD ((DrawOutcomes code).2) i 0) 2) != 0) = true) ∧ ((((((List.length more) + i : Nat) : Int) % 2) == 0) = false)) → (((((bits .and .i64 (List.getD ((DrawOutcomes code).2) i 0) 2) != 0) = true) ∧ ((((((List.length more) + i : Nat) : Int) % 2) == 0) = false)))), (((((bits .and .i64 (List.getD ((DrawOutcomes code).2) i 0) 2) != 0) = true) ∧ ((((((List.length more) + i : Nat) : Int) % 2) == 0) = false)) → (((((bits .and .i64 (List.getD ((DrawOutcomes code).2) i 0) 2) != 0) = true) ∧ ((((((List.length more) + i : Nat) : Int) % 2) == 0) = false)))), (((((bits .and .i64 (List.getD ((DrawOutcomes code).2) i 0) 2) != 0) = true) ∧ ((((((List.length more) + i : Nat) : Int) % 2) == 0) = false)) → IX ((i : Nat) : Int) ((List.length ((DrawOutcomes code).2) : Nat) : Int)), (((((bits .and .i64 (List.getD ((DrawOutcomes code).2) i 0) 2) != 0) = true) ∧ ((((((List.length more) + i : Nat) : Int) % 2) == 0) = false)) → (((((bits .and .i64 (List.getD ((DrawOutcomes code).2) i 0) 2) != 0) = true) ∧ ((((((List.length more) + i : Nat) : Int) % 2) == 0) = false)))), (((((bits .and .i64 (List.getD ((DrawOutcomes code).2) i 0) 2) != 0) = true) ∧ ((((((List.length more) + i : Nat) : Int) % 2) == 0) = false)) → (((((bits .and .i64 (List.getD ((DrawOutcomes code).2) i 0) 2) != 0) = true) ∧ ((((((List.length more) + i : Nat) : Int) % 2) == 0) = false)))), (((((bits .and .i64 (List.getD ((DrawOutcomes code).2) i 0) 2) != 0) = true) ∧ ((((((List.length more) + i : Nat) : Int) % 2) == 0) = false)) → (((((bits .and .i64 (List.getD ((DrawOutcomes code).2) i 0) 2) != 0) = true) ∧ ((((((List.length more) + i : Nat) : Int) % 2) == 0) = false)))), ((((bits .and .i64 (List.getD ((DrawOutcomes code).2) i 0) 2) != 0) = true) → ((((bits .and .i64 (List.getD ((DrawOutcomes code).2) i 0) 2) != 0) = true))), ((((bits .and .i64 (List.getD ((DrawOutcomes code).2) i 0) 2) != 0) = true) → (((((((List.length more) + i : Nat) : Int) % 2) == 0) = false) → (((((bits .and .i64 (List.getD ((DrawOutcomes code).2) i 0) 2) != 0) = true) ∧ ((((((List.length more) + i : Nat) : Int) % 2) == 0) = false))))), ((((bits .and .i64 (List.getD ((DrawOutcomes code).2) i 0) 2) != 0) = true) → ((((bits .and .i64 (List.getD ((DrawOutcomes code).2) i 0) 2) != 0) = true)))] ?_ ?_)
       ·
        refine ⟨?_, ?_, ?_, ?_, ?_, ?_, ?_, ?_, ?_, ?_, ?_, ?_, ?_, ?_, trivial⟩
        ·
         refine IX.of ?_
         first | omega | (simp only [List.length_append, List.length_cons, List.length_nil]; omega)
        ·
         intro g84
         have g84p0 : (bits .and .i64 (List.getD ((DrawOutcomes code).2) i 0) 2) ≠ 0 := (Go.Am.bne_pos g84)
         first | assumption | exact ⟨by assumption, by assumption⟩
        ·
         intro g85
         have g85p0 : (bits .and .i64 (List.getD ((DrawOutcomes code).2) i 0) 2) ≠ 0 := (Go.Am.bne_pos g85)
         first | omega | (simp only [List.length_append, List.length_cons, List.length_nil]; omega)
        ·
         intro g86
         have g86p0 : (bits .and .i64 (List.getD ((DrawOutcomes code).2) i 0) 2) ≠ 0 := (Go.Am.bne_pos g86)
         first | assumption | exact ⟨by assumption, by assumption⟩
        ·
         intro g87
         have g87p0 : (bits .and .i64 (List.getD ((DrawOutcomes code).2) i 0) 2) ≠ 0 := (Go.Am.bne_pos g87)
         first | assumption | exact ⟨by assumption, by assumption⟩
        ·
         intro g88
         have g88p0 : (bits .and .i64 (List.getD ((DrawOutcomes code).2) i 0) 2) ≠ 0 := (Go.Am.bne_pos (g88).1)
         have g88p1 : ((((List.length more) + i : Nat) : Int) % 2) ≠ 0 := (Go.Am.beq_neg (g88).2)
         first | assumption | exact ⟨by assumption, by assumption⟩
        ·
         intro g89
         have g89p0 : (bits .and .i64 (List.getD ((DrawOutcomes code).2) i 0) 2) ≠ 0 := (Go.Am.bne_pos (g89).1)
         have g89p1 : ((((List.length more) + i : Nat) : Int) % 2) ≠ 0 := (Go.Am.beq_neg (g89).2)
         first | assumption | exact ⟨by assumption, by assumption⟩
        ·
         intro g90
         have g90p0 : (bits .and .i64 (List.getD ((DrawOutcomes code).2) i 0) 2) ≠ 0 := (Go.Am.bne_pos (g90).1)
         have g90p1 : ((((List.length more) + i : Nat) : Int) % 2) ≠ 0 := (Go.Am.beq_neg (g90).2)
         refine IX.of ?_
         first | omega | (simp only [List.length_append, List.length_cons, List.length_nil]; omega)
        ·
         intro g91
         have g91p0 : (bits .and .i64 (List.getD ((DrawOutcomes code).2) i 0) 2) ≠ 0 := (Go.Am.bne_pos (g91).1)
         have g91p1 : ((((List.length more) + i : Nat) : Int) % 2) ≠ 0 := (Go.Am.beq_neg (g91).2)
         first | assumption | exact ⟨by assumption, by assumption⟩
        ·
         intro g92
         have g92p0 : (bits .and .i64 (List.getD ((DrawOutcomes code).2) i 0) 2) ≠ 0 := (Go.Am.bne_pos (g92).1)
         have g92p1 : ((((List.length more) + i : Nat) : Int) % 2) ≠ 0 := (Go.Am.beq_neg (g92).2)
         first | assumption | exact ⟨by assumption, by assumption⟩
        ·
         intro g93
         have g93p0 : (bits .and .i64 (List.getD ((DrawOutcomes code).2) i 0) 2) ≠ 0 := (Go.Am.bne_pos (g93).1)
         have g93p1 : ((((List.length more) + i : Nat) : Int) % 2) ≠ 0 := (Go.Am.beq_neg (g93).2)
         first | assumption | exact ⟨by assumption, by assumption⟩
        ·
         intro g94
         have g94p0 : (bits .and .i64 (List.getD ((DrawOutcomes code).2) i 0) 2) ≠ 0 := (Go.Am.bne_pos g94)
         first | assumption | exact ⟨by assumption, by assumption⟩
        ·
         intro g95
         have g95p0 : (bits .and .i64 (List.getD ((DrawOutcomes code).2) i 0) 2) ≠ 0 := (Go.Am.bne_pos g95)
         intro g96
         have g96p0 : ((((List.length more) + i : Nat) : Int) % 2) ≠ 0 := (Go.Am.beq_neg g96)
         first | assumption | exact ⟨by assumption, by assumption⟩
        ·
         intro g97
         have g97p0 : (bits .and .i64 (List.getD ((DrawOutcomes code).2) i 0) 2) ≠ 0 := (Go.Am.bne_pos g97)
         first | assumption | exact ⟨by assumption, by assumption⟩
       refine AW.cd (bif ((bits .and .i64 (List.getD ((DrawOutcomes code).2) i 0) 2) != 0) then (bif (((((List.length more) + i : Nat) : Int) % 2) == 0) then true else ((bits .and .i64 (List.getD ((DrawOutcomes code).2) i 0) 1) == 0)) else false) ?_ ?_
       ·
        intro h98
        have h98q : ((bits .and .i64 (List.getD ((DrawOutcomes code).2) i 0) 2) ≠ 0) ∧ ((((((List.length more) + i : Nat) : Int) % 2) = 0) ∨ ((bits .and .i64 (List.getD ((DrawOutcomes code).2) i 0) 1) = 0)) := (And.imp (fun h => (Go.Am.bne_pos h)) (fun h => (Or.imp (fun h => (Go.Am.beq_pos h)) (fun h => (Go.Am.beq_pos h)) (Go.Am.or_pos h))) (Go.Am.and_pos h98))
        have e99 := e83.trans (Go.Am.bif_t h98)
        refine AW.r0 hC [1, 5, 6, 7, 8, 9] [20, 97, 176] ⟨[(1, sD7 more), (5, .ref 20 1 0), (6, .arr 97 1), (7, sI (iOutcomes (Xpr.mk (Xpr.Kind ((DrawOutcomes code).1)) (Xpr.Col ((DrawOutcomes code).1)) (Xpr.V ((DrawOutcomes code).1)) (Xpr.Kids ((DrawOutcomes code).1))) ((DrawOutcomes code).2))), (8, .arr 176 1), (9, sI ((i : Nat) : Int))], [(20, .box 1 [sI (Xpr.Kind ((DrawOutcomes code).1)), sI (Xpr.Col ((DrawOutcomes code).1)), sB (Val.Null (Xpr.V ((DrawOutcomes code).1))), sI (Val.N (Xpr.V ((DrawOutcomes code).1))), sD9 (Xpr.Kids ((DrawOutcomes code).1))]), (97, .arr 1 (.int .i64) (((DrawOutcomes code).2) : List Int)), (176, .arr 1 (.named 0) ((row ++ ([(Val.mk false (1 + ((((List.length more) + i : Nat) : Int) % 3)))] : List Val)) : List Val))]⟩ [(0 ≤ (((List.length more) + i : Nat) : Int) ∧ 0 < (3 : Int)), R64 (1 + ((((List.length more) + i : Nat) : Int) % 3)), (((List.length row : Nat) : Int) + ((List.length ([(Val.mk false (1 + ((((List.length more) + i : Nat) : Int) % 3)))] : List Val) : Nat) : Int) ≤ 4294967296)] ?_ ?_
        ·
         refine ⟨?_, ?_, ?_, trivial⟩
         ·
          first | omega | (simp only [List.length_append, List.length_cons, List.length_nil]; omega)
         ·
          refine R64.of ?_
          first | omega | (simp only [List.length_append, List.length_cons, List.length_nil]; omega)
         ·
          first | omega | (simp only [List.length_append, List.length_cons, List.length_nil]; omega)
        refine AW.r0 hC [1, 5, 6, 7, 8, 9] [20, 97, 176] ⟨[(1, sD7 more), (5, .ref 20 1 0), (6, .arr 97 1), (7, sI (iOutcomes (Xpr.mk (Xpr.Kind ((DrawOutcomes code).1)) (Xpr.Col ((DrawOutcomes code).1)) (Xpr.V ((DrawOutcomes code).1)) (Xpr.Kids ((DrawOutcomes code).1))) ((DrawOutcomes code).2))), (8, .arr 176 1), (9, sI ((i + 1 : Nat) : Int))], [(20, .box 1 [sI (Xpr.Kind ((DrawOutcomes code).1)), sI (Xpr.Col ((DrawOutcomes code).1)), sB (Val.Null (Xpr.V ((DrawOutcomes code).1))), sI (Val.N (Xpr.V ((DrawOutcomes code).1))), sD9 (Xpr.Kids ((DrawOutcomes code).1))]), (97, .arr 1 (.int .i64) (((DrawOutcomes code).2) : List Int)), (176, .arr 1 (.named 0) ((row ++ ([(Val.mk false (1 + ((((List.length more) + i : Nat) : Int) % 3)))] : List Val)) : List Val))]⟩ [R64 ((i + 1 : Nat) : Int)] ?_ ?_
        ·
         refine ⟨?_, trivial⟩
         ·
          refine R64.of ?_
          first | omega | (simp only [List.length_append, List.length_cons, List.length_nil]; omega)
        refine AW.back (x := (i, row)) (i + 1, (row ++ ([(Val.mk false (1 + ((((List.length more) + i : Nat) : Int) % 3)))] : List Val))) (by kernel_rfl) ⟨?_, k64q, ?_, e99⟩ ?_
        ·
         show List.length (row ++ ([(Val.mk false (1 + ((((List.length more) + i : Nat) : Int) % 3)))] : List Val)) = (i + 1) ∧ (i + 1) ≤ 6
         first | assumption | exact trivial | (refine ⟨?_, ?_⟩ <;> first | omega | (simp only [lens] at *; omega)) | omega | (simp only [lens] at *; omega)
        ·
         show (List.length ((DrawOutcomes code).2)) - (i + 1) < k64q
         first | omega | (simp only [lens]; omega)
        ·
         show (List.length ((DrawOutcomes code).2)) - (i + 1) < (List.length ((DrawOutcomes code).2)) - i
         first | omega | (simp only [lens]; omega)
       ·
        intro h100
        have h100q : ((bits .and .i64 (List.getD ((DrawOutcomes code).2) i 0) 2) = 0) ∨ ((((((List.length more) + i : Nat) : Int) % 2) ≠ 0) ∧ ((bits .and .i64 (List.getD ((DrawOutcomes code).2) i 0) 1) ≠ 0)) := (Or.imp (fun h => (Go.Am.bne_neg h)) (fun h => (And.imp (fun h => (Go.Am.beq_neg h)) (fun h => (Go.Am.beq_neg h)) (Go.Am.or_neg h))) (Go.Am.and_neg h100))
        have e101 := e83.trans (Go.Am.bif_f h100)
        refine AW.seq (AW.r0 hC [1, 5, 6, 7, 8, 9, 109] [20, 97, 176] ⟨[(1, sD7 more), (5, .ref 20 1 0), (6, .arr 97 1), (7, sI (iOutcomes (Xpr.mk (Xpr.Kind ((DrawOutcomes code).1)) (Xpr.Col ((DrawOutcomes code).1)) (Xpr.V ((DrawOutcomes code).1)) (Xpr.Kids ((DrawOutcomes code).1))) ((DrawOutcomes code).2))), (8, .arr 176 1), (9, sI ((i : Nat) : Int)), (109, sB ((bits .and .i64 (List.getD ((DrawOutcomes code).2) i 0) 1) != 0))], [(20, .box 1 [sI (Xpr.Kind ((DrawOutcomes code).1)), sI (Xpr.Col ((DrawOutcomes code).1)), sB (Val.Null (Xpr.V ((DrawOutcomes code).1))), sI (Val.N (Xpr.V ((DrawOutcomes code).1))), sD9 (Xpr.Kids ((DrawOutcomes code).1))]), (97, .arr 1 (.int .i64) (((DrawOutcomes code).2) : List Int)), (176, .arr 1 (.named 0) (row : List Val))]⟩ [IX ((i : Nat) : Int) ((List.length ((DrawOutcomes code).2) : Nat) : Int)] ?_ ?_)
        ·
         refine ⟨?_, trivial⟩
         ·
          refine IX.of ?_
          first | omega | (simp only [List.length_append, List.length_cons, List.length_nil]; omega)
        refine AW.cd ((bits .and .i64 (List.getD ((DrawOutcomes code).2) i 0) 1) != 0) ?_ ?_
        ·
         intro h102
         have h102q := (Go.Am.bne_pos h102)
         have e103 := e101.trans (Go.Am.bif_t h102)
         refine AW.r0 hC [1, 5, 6, 7, 8, 9] [20, 97, 176] ⟨[(1, sD7 more), (5, .ref 20 1 0), (6, .arr 97 1), (7, sI (iOutcomes (Xpr.mk (Xpr.Kind ((DrawOutcomes code).1)) (Xpr.Col ((DrawOutcomes code).1)) (Xpr.V ((DrawOutcomes code).1)) (Xpr.Kids ((DrawOutcomes code).1))) ((DrawOutcomes code).2))), (8, .arr 176 1), (9, sI ((i : Nat) : Int))], [(20, .box 1 [sI (Xpr.Kind ((DrawOutcomes code).1)), sI (Xpr.Col ((DrawOutcomes code).1)), sB (Val.Null (Xpr.V ((DrawOutcomes code).1))), sI (Val.N (Xpr.V ((DrawOutcomes code).1))), sD9 (Xpr.Kids ((DrawOutcomes code).1))]), (97, .arr 1 (.int .i64) (((DrawOutcomes code).2) : List Int)), (176, .arr 1 (.named 0) ((row ++ ([(Val.mk false 0)] : List Val)) : List Val))]⟩ [(((List.length row : Nat) : Int) + ((List.length ([(Val.mk false 0)] : List Val) : Nat) : Int) ≤ 4294967296)] ?_ ?_
         ·
          refine ⟨?_, trivial⟩
          ·
           first | omega | (simp only [List.length_append, List.length_cons, List.length_nil]; omega)
         refine AW.r0 hC [1, 5, 6, 7, 8, 9] [20, 97, 176] ⟨[(1, sD7 more), (5, .ref 20 1 0), (6, .arr 97 1), (7, sI (iOutcomes (Xpr.mk (Xpr.Kind ((DrawOutcomes code).1)) (Xpr.Col ((DrawOutcomes code).1)) (Xpr.V ((DrawOutcomes code).1)) (Xpr.Kids ((DrawOutcomes code).1))) ((DrawOutcomes code).2))), (8, .arr 176 1), (9, sI ((i + 1 : Nat) : Int))], [(20, .box 1 [sI (Xpr.Kind ((DrawOutcomes code).1)), sI (Xpr.Col ((DrawOutcomes code).1)), sB (Val.Null (Xpr.V ((DrawOutcomes code).1))), sI (Val.N (Xpr.V ((DrawOutcomes code).1))), sD9 (Xpr.Kids ((DrawOutcomes code).1))]), (97, .arr 1 (.int .i64) (((DrawOutcomes code).2) : List Int)), (176, .arr 1 (.named 0) ((row ++ ([(Val.mk false 0)] : List Val)) : List Val))]⟩ [R64 ((i + 1 : Nat) : Int)] ?_ ?_
         ·
          refine ⟨?_, trivial⟩
          ·
           refine R64.of ?_
           first | omega | (simp only [List.length_append, List.length_cons, List.length_nil]; omega)
         refine AW.back (x := (i, row)) (i + 1, (row ++ ([(Val.mk false 0)] : List Val))) (by kernel_rfl) ⟨?_, k64q, ?_, e103⟩ ?_
         ·
          show List.length (row ++ ([(Val.mk false 0)] : List Val)) = (i + 1) ∧ (i + 1) ≤ 6
          first | assumption | exact trivial | (refine ⟨?_, ?_⟩ <;> first | omega | (simp only [lens] at *; omega)) | omega | (simp only [lens] at *; omega)
         ·
          show (List.length ((DrawOutcomes code).2)) - (i + 1) < k64q
          first | omega | (simp only [lens]; omega)
         ·
          show (List.length ((DrawOutcomes code).2)) - (i + 1) < (List.length ((DrawOutcomes code).2)) - i
          first | omega | (simp only [lens]; omega)
        ·
         intro h104
         have h104q := (Go.Am.bne_neg h104)
         have e105 := e101.trans (Go.Am.bif_f h104)
         refine AW.r0 hC [1, 5, 6, 7, 8, 9] [20, 97, 176] ⟨[(1, sD7 more), (5, .ref 20 1 0), (6, .arr 97 1), (7, sI (iOutcomes (Xpr.mk (Xpr.Kind ((DrawOutcomes code).1)) (Xpr.Col ((DrawOutcomes code).1)) (Xpr.V ((DrawOutcomes code).1)) (Xpr.Kids ((DrawOutcomes code).1))) ((DrawOutcomes code).2))), (8, .arr 176 1), (9, sI ((i : Nat) : Int))], [(20, .box 1 [sI (Xpr.Kind ((DrawOutcomes code).1)), sI (Xpr.Col ((DrawOutcomes code).1)), sB (Val.Null (Xpr.V ((DrawOutcomes code).1))), sI (Val.N (Xpr.V ((DrawOutcomes code).1))), sD9 (Xpr.Kids ((DrawOutcomes code).1))]), (97, .arr 1 (.int .i64) (((DrawOutcomes code).2) : List Int)), (176, .arr 1 (.named 0) ((row ++ ([(Val.mk true 0)] : List Val)) : List Val))]⟩ [(((List.length row : Nat) : Int) + ((List.length ([(Val.mk true 0)] : List Val) : Nat) : Int) ≤ 4294967296)] ?_ ?_
         ·
          refine ⟨?_, trivial⟩
          ·
           first | omega | (simp only [List.length_append, List.length_cons, List.length_nil]; omega)
         refine AW.r0 hC [1, 5, 6, 7, 8, 9] [20, 97, 176] ⟨[(1, sD7 more), (5, .ref 20 1 0), (6, .arr 97 1), (7, sI (iOutcomes (Xpr.mk (Xpr.Kind ((DrawOutcomes code).1)) (Xpr.Col ((DrawOutcomes code).1)) (Xpr.V ((DrawOutcomes code).1)) (Xpr.Kids ((DrawOutcomes code).1))) ((DrawOutcomes code).2))), (8, .arr 176 1), (9, sI ((i + 1 : Nat) : Int))], [(20, .box 1 [sI (Xpr.Kind ((DrawOutcomes code).1)), sI (Xpr.Col ((DrawOutcomes code).1)), sB (Val.Null (Xpr.V ((DrawOutcomes code).1))), sI (Val.N (Xpr.V ((DrawOutcomes code).1))), sD9 (Xpr.Kids ((DrawOutcomes code).1))]), (97, .arr 1 (.int .i64) (((DrawOutcomes code).2) : List Int)), (176, .arr 1 (.named 0) ((row ++ ([(Val.mk true 0)] : List Val)) : List Val))]⟩ [R64 ((i + 1 : Nat) : Int)] ?_ ?_
         ·
          refine ⟨?_, trivial⟩
          ·
           refine R64.of ?_
           first | omega | (simp only [List.length_append, List.length_cons, List.length_nil]; omega)
         refine AW.back (x := (i, row)) (i + 1, (row ++ ([(Val.mk true 0)] : List Val))) (by kernel_rfl) ⟨?_, k64q, ?_, e105⟩ ?_
         ·
          show List.length (row ++ ([(Val.mk true 0)] : List Val)) = (i + 1) ∧ (i + 1) ≤ 6
          first | assumption | exact trivial | (refine ⟨?_, ?_⟩ <;> first | omega | (simp only [lens] at *; omega)) | omega | (simp only [lens] at *; omega)
         ·
          show (List.length ((DrawOutcomes code).2)) - (i + 1) < k64q
          first | omega | (simp only [lens]; omega)
         ·
          show (List.length ((DrawOutcomes code).2)) - (i + 1) < (List.length ((DrawOutcomes code).2)) - i
          first | omega | (simp only [lens]; omega)
     ·
      intro h106
      have h106q := (of_decide_eq_false h106)
      have e107 := e63.trans (Go.Am.bif_f h106)
      refine AW.kp [5, 7, 8] [20, 176] ⟨[(5, .ref 20 1 0), (7, sI (iOutcomes (Xpr.mk (Xpr.Kind ((DrawOutcomes code).1)) (Xpr.Col ((DrawOutcomes code).1)) (Xpr.V ((DrawOutcomes code).1)) (Xpr.Kids ((DrawOutcomes code).1))) ((DrawOutcomes code).2))), (8, .arr 176 1)], [(20, .box 1 [sI (Xpr.Kind ((DrawOutcomes code).1)), sI (Xpr.Col ((DrawOutcomes code).1)), sB (Val.Null (Xpr.V ((DrawOutcomes code).1))), sI (Val.N (Xpr.V ((DrawOutcomes code).1))), sD9 (Xpr.Kids ((DrawOutcomes code).1))]), (176, .arr 1 (.named 0) (row : List Val))]⟩ ?_
      refine AW.exit ?_
      refine AW.meet row (by kernel_rfl) ⟨?_, e107⟩
      show True
      first | assumption | exact trivial | omega
   ·
    intro row hR
    obtain ⟨hJ0, e108⟩ := hR
    replace hJ0 : True := hJ0
    have e109 := e13.trans (Go.Am.then_eq e108)
    refine AW.seq (AW.r0 hC [7, 11, 12] [44] ⟨[(7, sI (iOutcomes (Xpr.mk (Xpr.Kind ((DrawOutcomes code).1)) (Xpr.Col ((DrawOutcomes code).1)) (Xpr.V ((DrawOutcomes code).1)) (Xpr.Kids ((DrawOutcomes code).1))) ((DrawOutcomes code).2))), (11, .ref 44 1 0), (12, sB ((EvalExpr (Xpr.mk (Xpr.Kind ((DrawOutcomes code).1)) (Xpr.Col ((DrawOutcomes code).1)) (Xpr.V ((DrawOutcomes code).1)) (Xpr.Kids ((DrawOutcomes code).1))) row).2))], [(44, .box 1 [sB (Val.Null ((EvalExpr (Xpr.mk (Xpr.Kind ((DrawOutcomes code).1)) (Xpr.Col ((DrawOutcomes code).1)) (Xpr.V ((DrawOutcomes code).1)) (Xpr.Kids ((DrawOutcomes code).1))) row).1)), sI (Val.N ((EvalExpr (Xpr.mk (Xpr.Kind ((DrawOutcomes code).1)) (Xpr.Col ((DrawOutcomes code).1)) (Xpr.V ((DrawOutcomes code).1)) (Xpr.Kids ((DrawOutcomes code).1))) row).1))])]⟩ [(True)] ?_ ?_)
    ·
     refine ⟨?_, trivial⟩
     ·
      trivial
    refine AW.seq (AW.r1 hC [7, 11, 12, 13] [44] ⟨[(7, sI (iOutcomes (Xpr.mk (Xpr.Kind ((DrawOutcomes code).1)) (Xpr.Col ((DrawOutcomes code).1)) (Xpr.V ((DrawOutcomes code).1)) (Xpr.Kids ((DrawOutcomes code).1))) ((DrawOutcomes code).2))), (11, .ref 44 1 0), (12, sB ((EvalExpr (Xpr.mk (Xpr.Kind ((DrawOutcomes code).1)) (Xpr.Col ((DrawOutcomes code).1)) (Xpr.V ((DrawOutcomes code).1)) (Xpr.Kids ((DrawOutcomes code).1))) row).2)), (13, sI 2)], [(44, .box 1 [sB (Val.Null ((EvalExpr (Xpr.mk (Xpr.Kind ((DrawOutcomes code).1)) (Xpr.Col ((DrawOutcomes code).1)) (Xpr.V ((DrawOutcomes code).1)) (Xpr.Kids ((DrawOutcomes code).1))) row).1)), sI (Val.N ((EvalExpr (Xpr.mk (Xpr.Kind ((DrawOutcomes code).1)) (Xpr.Col ((DrawOutcomes code).1)) (Xpr.V ((DrawOutcomes code).1)) (Xpr.Kids ((DrawOutcomes code).1))) row).1))])]⟩ ?_)
    refine AW.seq (AW.seq (AW.r1 hC [7, 11, 12, 13, 127] [44] ⟨[(7, sI (iOutcomes (Xpr.mk (Xpr.Kind ((DrawOutcomes code).1)) (Xpr.Col ((DrawOutcomes code).1)) (Xpr.V ((DrawOutcomes code).1)) (Xpr.Kids ((DrawOutcomes code).1))) ((DrawOutcomes code).2))), (11, .ref 44 1 0), (12, sB ((EvalExpr (Xpr.mk (Xpr.Kind ((DrawOutcomes code).1)) (Xpr.Col ((DrawOutcomes code).1)) (Xpr.V ((DrawOutcomes code).1)) (Xpr.Kids ((DrawOutcomes code).1))) row).2)), (13, sI 2), (127, sB (Val.Null ((EvalExpr (Xpr.mk (Xpr.Kind ((DrawOutcomes code).1)) (Xpr.Col ((DrawOutcomes code).1)) (Xpr.V ((DrawOutcomes code).1)) (Xpr.Kids ((DrawOutcomes code).1))) row).1)))], [(44, .box 1 [sB (Val.Null ((EvalExpr (Xpr.mk (Xpr.Kind ((DrawOutcomes code).1)) (Xpr.Col ((DrawOutcomes code).1)) (Xpr.V ((DrawOutcomes code).1)) (Xpr.Kids ((DrawOutcomes code).1))) row).1)), sI (Val.N ((EvalExpr (Xpr.mk (Xpr.Kind ((DrawOutcomes code).1)) (Xpr.Col ((DrawOutcomes code).1)) (Xpr.V ((DrawOutcomes code).1)) (Xpr.Kids ((DrawOutcomes code).1))) row).1))])]⟩ ?_))
    refine AW.cd (Val.Null ((EvalExpr (Xpr.mk (Xpr.Kind ((DrawOutcomes code).1)) (Xpr.Col ((DrawOutcomes code).1)) (Xpr.V ((DrawOutcomes code).1)) (Xpr.Kids ((DrawOutcomes code).1))) row).1)) ?_ ?_
    ·
     intro h110
     have h110q : (Val.Null ((EvalExpr (Xpr.mk (Xpr.Kind ((DrawOutcomes code).1)) (Xpr.Col ((DrawOutcomes code).1)) (Xpr.V ((DrawOutcomes code).1)) (Xpr.Kids ((DrawOutcomes code).1))) row).1)) = true := h110
     have e111 := e109.trans (Go.Am.bif_t h110)
     refine AW.r1 hC [7, 12, 13] [] ⟨[(7, sI (iOutcomes (Xpr.mk (Xpr.Kind ((DrawOutcomes code).1)) (Xpr.Col ((DrawOutcomes code).1)) (Xpr.V ((DrawOutcomes code).1)) (Xpr.Kids ((DrawOutcomes code).1))) ((DrawOutcomes code).2))), (12, sB ((EvalExpr (Xpr.mk (Xpr.Kind ((DrawOutcomes code).1)) (Xpr.Col ((DrawOutcomes code).1)) (Xpr.V ((DrawOutcomes code).1)) (Xpr.Kids ((DrawOutcomes code).1))) row).2)), (13, sI 4)], []⟩ ?_
     refine AW.seq (AW.r0 hC [4] [] ⟨[(4, sB (bif (bif ((EvalExpr (Xpr.mk (Xpr.Kind ((DrawOutcomes code).1)) (Xpr.Col ((DrawOutcomes code).1)) (Xpr.V ((DrawOutcomes code).1)) (Xpr.Kids ((DrawOutcomes code).1))) row).2) then ((bits .and .i64 (iOutcomes (Xpr.mk (Xpr.Kind ((DrawOutcomes code).1)) (Xpr.Col ((DrawOutcomes code).1)) (Xpr.V ((DrawOutcomes code).1)) (Xpr.Kids ((DrawOutcomes code).1))) ((DrawOutcomes code).2)) 4) != 0) else false) then (decide ((iOutcomes (Xpr.mk (Xpr.Kind ((DrawOutcomes code).1)) (Xpr.Col ((DrawOutcomes code).1)) (Xpr.V ((DrawOutcomes code).1)) (Xpr.Kids ((DrawOutcomes code).1))) ((DrawOutcomes code).2)) ≤ 7)) else false))], []⟩ [((((EvalExpr (Xpr.mk (Xpr.Kind ((DrawOutcomes code).1)) (Xpr.Col ((DrawOutcomes code).1)) (Xpr.V ((DrawOutcomes code).1)) (Xpr.Kids ((DrawOutcomes code).1))) row).2) = true) → ((((EvalExpr (Xpr.mk (Xpr.Kind ((DrawOutcomes code).1)) (Xpr.Col ((DrawOutcomes code).1)) (Xpr.V ((DrawOutcomes code).1)) (Xpr.Kids ((DrawOutcomes code).1))) row).2) = true))), ((((EvalExpr (Xpr.mk (Xpr.Kind ((DrawOutcomes code).1)) (Xpr.Col ((DrawOutcomes code).1)) (Xpr.V ((DrawOutcomes code).1)) (Xpr.Kids ((DrawOutcomes code).1))) row).2) = true) → ((((EvalExpr (Xpr.mk (Xpr.Kind ((DrawOutcomes code).1)) (Xpr.Col ((DrawOutcomes code).1)) (Xpr.V ((DrawOutcomes code).1)) (Xpr.Kids ((DrawOutcomes code).1))) row).2) = true))), ((((EvalExpr (Xpr.mk (Xpr.Kind ((DrawOutcomes code).1)) (Xpr.Col ((DrawOutcomes code).1)) (Xpr.V ((DrawOutcomes code).1)) (Xpr.Kids ((DrawOutcomes code).1))) row).2) = true) → ((((EvalExpr (Xpr.mk (Xpr.Kind ((DrawOutcomes code).1)) (Xpr.Col ((DrawOutcomes code).1)) (Xpr.V ((DrawOutcomes code).1)) (Xpr.Kids ((DrawOutcomes code).1))) row).2) = true))), ((((EvalExpr (Xpr.mk (Xpr.Kind ((DrawOutcomes code).1)) (Xpr.Col ((DrawOutcomes code).1)) (Xpr.V ((DrawOutcomes code).1)) (Xpr.Kids ((DrawOutcomes code).1))) row).2) = true) → ((((EvalExpr (Xpr.mk (Xpr.Kind ((DrawOutcomes code).1)) (Xpr.Col ((DrawOutcomes code).1)) (Xpr.V ((DrawOutcomes code).1)) (Xpr.Kids ((DrawOutcomes code).1))) row).2) = true))), (((bif ((EvalExpr (Xpr.mk (Xpr.Kind ((DrawOutcomes code).1)) (Xpr.Col ((DrawOutcomes code).1)) (Xpr.V ((DrawOutcomes code).1)) (Xpr.Kids ((DrawOutcomes code).1))) row).2) then ((bits .and .i64 (iOutcomes (Xpr.mk (Xpr.Kind ((DrawOutcomes code).1)) (Xpr.Col ((DrawOutcomes code).1)) (Xpr.V ((DrawOutcomes code).1)) (Xpr.Kids ((DrawOutcomes code).1))) ((DrawOutcomes code).2)) 4) != 0) else false) = true) → (((bif ((EvalExpr (Xpr.mk (Xpr.Kind ((DrawOutcomes code).1)) (Xpr.Col ((DrawOutcomes code).1)) (Xpr.V ((DrawOutcomes code).1)) (Xpr.Kids ((DrawOutcomes code).1))) row).2) then ((bits .and .i64 (iOutcomes (Xpr.mk (Xpr.Kind ((DrawOutcomes code).1)) (Xpr.Col ((DrawOutcomes code).1)) (Xpr.V ((DrawOutcomes code).1)) (Xpr.Kids ((DrawOutcomes code).1))) ((DrawOutcomes code).2)) 4) != 0) else false) = true))), (((bif ((EvalExpr (Xpr.mk (Xpr.Kind ((DrawOutcomes code).1)) (Xpr.Col ((DrawOutcomes code).1)) (Xpr.V ((DrawOutcomes code).1)) (Xpr.Kids ((DrawOutcomes code).1))) row).2) then ((bits .and .i64 (iOutcomes (Xpr.mk (Xpr.Kind ((DrawOutcomes code).1)) (Xpr.Col ((DrawOutcomes code).1)) (Xpr.V ((DrawOutcomes code).1)) (Xpr.Kids ((DrawOutcomes code).1))) ((DrawOutcomes code).2)) 4) != 0) else false) = true) → (((bif ((EvalExpr (Xpr.mk (Xpr.Kind ((DrawOutcomes code).1)) (Xpr.Col ((DrawOutcomes code).1)) (Xpr.V ((DrawOutcomes code).1)) (Xpr.Kids ((DrawOutcomes code).1))) row).2) then ((bits .and .i64 (iOutcomes (Xpr.mk (Xpr.Kind ((DrawOutcomes code).1)) (Xpr.Col ((DrawOutcomes code).1)) (Xpr.V ((DrawOutcomes code).1)) (Xpr.Kids ((DrawOutcomes code).1))) ((DrawOutcomes code).2)) 4) != 0) else false) = true)))] ?_ ?_)
     ·
      refine ⟨?_, ?_, ?_, ?_, ?_, ?_, trivial⟩
      ·
       intro g112
       have g112p0 : ((EvalExpr (Xpr.mk (Xpr.Kind ((DrawOutcomes code).1)) (Xpr.Col ((DrawOutcomes code).1)) (Xpr.V ((DrawOutcomes code).1)) (Xpr.Kids ((DrawOutcomes code).1))) row).2) = true := g112
       first | assumption | exact ⟨by assumption, by assumption⟩
      ·
       intro g113
       have g113p0 : ((EvalExpr (Xpr.mk (Xpr.Kind ((DrawOutcomes code).1)) (Xpr.Col ((DrawOutcomes code).1)) (Xpr.V ((DrawOutcomes code).1)) (Xpr.Kids ((DrawOutcomes code).1))) row).2) = true := g113
       first | assumption | exact ⟨by assumption, by assumption⟩
      ·
       intro g114
       have g114p0 : ((EvalExpr (Xpr.mk (Xpr.Kind ((DrawOutcomes code).1)) (Xpr.Col ((DrawOutcomes code).1)) (Xpr.V ((DrawOutcomes code).1)) (Xpr.Kids ((DrawOutcomes code).1))) row).2) = true := g114
       first | assumption | exact ⟨by assumption, by assumption⟩
      ·
       intro g115
       have g115p0 : ((EvalExpr (Xpr.mk (Xpr.Kind ((DrawOutcomes code).1)) (Xpr.Col ((DrawOutcomes code).1)) (Xpr.V ((DrawOutcomes code).1)) (Xpr.Kids ((DrawOutcomes code).1))) row).2) = true := g115
       first | assumption | exact ⟨by assumption, by assumption⟩
      ·
       intro g116
       have g116p0 : (((EvalExpr (Xpr.mk (Xpr.Kind ((DrawOutcomes code).1)) (Xpr.Col ((DrawOutcomes code).1)) (Xpr.V ((DrawOutcomes code).1)) (Xpr.Kids ((DrawOutcomes code).1))) row).2) = true) ∧ ((bits .and .i64 (iOutcomes (Xpr.mk (Xpr.Kind ((DrawOutcomes code).1)) (Xpr.Col ((DrawOutcomes code).1)) (Xpr.V ((DrawOutcomes code).1)) (Xpr.Kids ((DrawOutcomes code).1))) ((DrawOutcomes code).2)) 4) ≠ 0) := (And.imp (fun h => h) (fun h => (Go.Am.bne_pos h)) (Go.Am.and_pos g116))
       first | assumption | exact ⟨by assumption, by assumption⟩
      ·
       intro g117
       have g117p0 : (((EvalExpr (Xpr.mk (Xpr.Kind ((DrawOutcomes code).1)) (Xpr.Col ((DrawOutcomes code).1)) (Xpr.V ((DrawOutcomes code).1)) (Xpr.Kids ((DrawOutcomes code).1))) row).2) = true) ∧ ((bits .and .i64 (iOutcomes (Xpr.mk (Xpr.Kind ((DrawOutcomes code).1)) (Xpr.Col ((DrawOutcomes code).1)) (Xpr.V ((DrawOutcomes code).1)) (Xpr.Kids ((DrawOutcomes code).1))) ((DrawOutcomes code).2)) 4) ≠ 0) := (And.imp (fun h => h) (fun h => (Go.Am.bne_pos h)) (Go.Am.and_pos g117))
       first | assumption | exact ⟨by assumption, by assumption⟩
     exact AW.ret (AW.rB (bif (bif ((EvalExpr (Xpr.mk (Xpr.Kind ((DrawOutcomes code).1)) (Xpr.Col ((DrawOutcomes code).1)) (Xpr.V ((DrawOutcomes code).1)) (Xpr.Kids ((DrawOutcomes code).1))) row).2) then ((bits .and .i64 (iOutcomes (Xpr.mk (Xpr.Kind ((DrawOutcomes code).1)) (Xpr.Col ((DrawOutcomes code).1)) (Xpr.V ((DrawOutcomes code).1)) (Xpr.Kids ((DrawOutcomes code).1))) ((DrawOutcomes code).2)) 4) != 0) else false) then (decide ((iOutcomes (Xpr.mk (Xpr.Kind ((DrawOutcomes code).1)) (Xpr.Col ((DrawOutcomes code).1)) (Xpr.V ((DrawOutcomes code).1)) (Xpr.Kids ((DrawOutcomes code).1))) ((DrawOutcomes code).2)) ≤ 7)) else false) e111)
    ·
     intro h118
     have h118q : (Val.Null ((EvalExpr (Xpr.mk (Xpr.Kind ((DrawOutcomes code).1)) (Xpr.Col ((DrawOutcomes code).1)) (Xpr.V ((DrawOutcomes code).1)) (Xpr.Kids ((DrawOutcomes code).1))) row).1)) = false := h118
     have e119 := e109.trans (Go.Am.bif_f h118)
     refine AW.seq (AW.r1 hC [7, 12, 13, 130] [] ⟨[(7, sI (iOutcomes (Xpr.mk (Xpr.Kind ((DrawOutcomes code).1)) (Xpr.Col ((DrawOutcomes code).1)) (Xpr.V ((DrawOutcomes code).1)) (Xpr.Kids ((DrawOutcomes code).1))) ((DrawOutcomes code).2))), (12, sB ((EvalExpr (Xpr.mk (Xpr.Kind ((DrawOutcomes code).1)) (Xpr.Col ((DrawOutcomes code).1)) (Xpr.V ((DrawOutcomes code).1)) (Xpr.Kids ((DrawOutcomes code).1))) row).2)), (13, sI 2), (130, sB ((Val.N ((EvalExpr (Xpr.mk (Xpr.Kind ((DrawOutcomes code).1)) (Xpr.Col ((DrawOutcomes code).1)) (Xpr.V ((DrawOutcomes code).1)) (Xpr.Kids ((DrawOutcomes code).1))) row).1)) == 0))], []⟩ ?_)
     refine AW.cd ((Val.N ((EvalExpr (Xpr.mk (Xpr.Kind ((DrawOutcomes code).1)) (Xpr.Col ((DrawOutcomes code).1)) (Xpr.V ((DrawOutcomes code).1)) (Xpr.Kids ((DrawOutcomes code).1))) row).1)) == 0) ?_ ?_
     ·
      intro h120
      have h120q := (Go.Am.beq_pos h120)
      have e121 := e119.trans (Go.Am.bif_t h120)
      refine AW.r1 hC [7, 12, 13] [] ⟨[(7, sI (iOutcomes (Xpr.mk (Xpr.Kind ((DrawOutcomes code).1)) (Xpr.Col ((DrawOutcomes code).1)) (Xpr.V ((DrawOutcomes code).1)) (Xpr.Kids ((DrawOutcomes code).1))) ((DrawOutcomes code).2))), (12, sB ((EvalExpr (Xpr.mk (Xpr.Kind ((DrawOutcomes code).1)) (Xpr.Col ((DrawOutcomes code).1)) (Xpr.V ((DrawOutcomes code).1)) (Xpr.Kids ((DrawOutcomes code).1))) row).2)), (13, sI 1)], []⟩ ?_
      refine AW.seq (AW.r0 hC [4] [] ⟨[(4, sB (bif (bif ((EvalExpr (Xpr.mk (Xpr.Kind ((DrawOutcomes code).1)) (Xpr.Col ((DrawOutcomes code).1)) (Xpr.V ((DrawOutcomes code).1)) (Xpr.Kids ((DrawOutcomes code).1))) row).2) then ((bits .and .i64 (iOutcomes (Xpr.mk (Xpr.Kind ((DrawOutcomes code).1)) (Xpr.Col ((DrawOutcomes code).1)) (Xpr.V ((DrawOutcomes code).1)) (Xpr.Kids ((DrawOutcomes code).1))) ((DrawOutcomes code).2)) 1) != 0) else false) then (decide ((iOutcomes (Xpr.mk (Xpr.Kind ((DrawOutcomes code).1)) (Xpr.Col ((DrawOutcomes code).1)) (Xpr.V ((DrawOutcomes code).1)) (Xpr.Kids ((DrawOutcomes code).1))) ((DrawOutcomes code).2)) ≤ 7)) else false))], []⟩ [((((EvalExpr (Xpr.mk (Xpr.Kind ((DrawOutcomes code).1)) (Xpr.Col ((DrawOutcomes code).1)) (Xpr.V ((DrawOutcomes code).1)) (Xpr.Kids ((DrawOutcomes code).1))) row).2) = true) → ((((EvalExpr (Xpr.mk (Xpr.Kind ((DrawOutcomes code).1)) (Xpr.Col ((DrawOutcomes code).1)) (Xpr.V ((DrawOutcomes code).1)) (Xpr.Kids ((DrawOutcomes code).1))) row).2) = true))), ((((EvalExpr (Xpr.mk (Xpr.Kind ((DrawOutcomes code).1)) (Xpr.Col ((DrawOutcomes code).1)) (Xpr.V ((DrawOutcomes code).1)) (Xpr.Kids ((DrawOutcomes code).1))) row).2) = true) → ((((EvalExpr (Xpr.mk (Xpr.Kind ((DrawOutcomes code).1)) (Xpr.Col ((DrawOutcomes code).1)) (Xpr.V ((DrawOutcomes code).1)) (Xpr.Kids ((DrawOutcomes code).1))) row).2) = true))), ((((EvalExpr (Xpr.mk (Xpr.Kind ((DrawOutcomes code).1)) (Xpr.Col ((DrawOutcomes code).1)) (Xpr.V ((DrawOutcomes code).1)) (Xpr.Kids ((DrawOutcomes code).1))) row).2) = true) → ((((EvalExpr (Xpr.mk (Xpr.Kind ((DrawOutcomes code).1)) (Xpr.Col ((DrawOutcomes code).1)) (Xpr.V ((DrawOutcomes code).1)) (Xpr.Kids ((DrawOutcomes code).1))) row).2) = true))), ((((EvalExpr (Xpr.mk (Xpr.Kind ((DrawOutcomes code).1)) (Xpr.Col ((DrawOutcomes code).1)) (Xpr.V ((DrawOutcomes code).1)) (Xpr.Kids ((DrawOutcomes code).1))) row).2) = true) → ((((EvalExpr (Xpr.mk (Xpr.Kind ((DrawOutcomes code).1)) (Xpr.Col ((DrawOutcomes code).1)) (Xpr.V ((DrawOutcomes code).1)) (Xpr.Kids ((DrawOutcomes code).1))) row).2) = true))), (((bif ((EvalExpr (Xpr.mk (Xpr.Kind ((DrawOutcomes code).1)) (Xpr.Col ((DrawOutcomes code).1)) (Xpr.V ((DrawOutcomes code).1)) (Xpr.Kids ((DrawOutcomes code).1))) row).2) then ((bits .and .i64 (iOutcomes (Xpr.mk (Xpr.Kind ((DrawOutcomes code).1)) (Xpr.Col ((DrawOutcomes code).1)) (Xpr.V ((DrawOutcomes code).1)) (Xpr.Kids ((DrawOutcomes code).1))) ((DrawOutcomes code).2)) 1) != 0) else false) = true) → (((bif ((EvalExpr (Xpr.mk (Xpr.Kind ((DrawOutcomes code).1)) (Xpr.Col ((DrawOutcomes code).1)) (Xpr.V ((DrawOutcomes code).1)) (Xpr.Kids ((DrawOutcomes code).1))) row).2) then ((bits .and .i64 (iOutcomes (Xpr.mk (Xpr.Kind ((DrawOutcomes code).1)) (Xpr.Col ((DrawOutcomes code).1)) (Xpr.V ((DrawOutcomes code).1)) (Xpr.Kids ((DrawOutcomes code).1))) ((DrawOutcomes code).2)) 1) != 0) else false) = true))), (((bif ((EvalExpr (Xpr.mk (Xpr.Kind ((DrawOutcomes code).1)) (Xpr.Col ((DrawOutcomes code).1)) (Xpr.V ((DrawOutcomes code).1)) (Xpr.Kids ((DrawOutcomes code).1))) row).2) then ((bits .and .i64 (iOutcomes (Xpr.mk (Xpr.Kind ((DrawOutcomes code).1)) (Xpr.Col ((DrawOutcomes code).1)) (Xpr.V ((DrawOutcomes code).1)) (Xpr.Kids ((DrawOutcomes code).1))) ((DrawOutcomes code).2)) 1) != 0) else false) = true) → (((bif ((EvalExpr (Xpr.mk (Xpr.Kind ((DrawOutcomes code).1)) (Xpr.Col ((DrawOutcomes code).1)) (Xpr.V ((DrawOutcomes code).1)) (Xpr.Kids ((DrawOutcomes code).1))) row).2) then ((bits .and .i64 (iOutcomes (Xpr.mk (Xpr.Kind ((DrawOutcomes code).1)) (Xpr.Col ((DrawOutcomes code).1)) (Xpr.V ((DrawOutcomes code).1)) (Xpr.Kids ((DrawOutcomes code).1))) ((DrawOutcomes code).2)) 1) != 0) else false) = true)))] ?_ ?_)
      ·
       refine ⟨?_, ?_, ?_, ?_, ?_, ?_, trivial⟩
       ·
        intro g122
        have g122p0 : ((EvalExpr (Xpr.mk (Xpr.Kind ((DrawOutcomes code).1)) (Xpr.Col ((DrawOutcomes code).1)) (Xpr.V ((DrawOutcomes code).1)) (Xpr.Kids ((DrawOutcomes code).1))) row).2) = true := g122
        first | assumption | exact ⟨by assumption, by assumption⟩
       ·
        intro g123
        have g123p0 : ((EvalExpr (Xpr.mk (Xpr.Kind ((DrawOutcomes code).1)) (Xpr.Col ((DrawOutcomes code).1)) (Xpr.V ((DrawOutcomes code).1)) (Xpr.Kids ((DrawOutcomes code).1))) row).2) = true := g123
        first | assumption | exact ⟨by assumption, by assumption⟩
       ·
        intro g124
        have g124p0 : ((EvalExpr (Xpr.mk (Xpr.Kind ((DrawOutcomes code).1)) (Xpr.Col ((DrawOutcomes code).1)) (Xpr.V ((DrawOutcomes code).1)) (Xpr.Kids ((DrawOutcomes code).1))) row).2) = true := g124
        first | assumption | exact ⟨by assumption, by assumption⟩
       ·
        intro g125
        have g125p0 : ((EvalExpr (Xpr.mk (Xpr.Kind ((DrawOutcomes code).1)) (Xpr.Col ((DrawOutcomes code).1)) (Xpr.V ((DrawOutcomes code).1)) (Xpr.Kids ((DrawOutcomes code).1))) row).2) = true := g125
        first | assumption | exact ⟨by assumption, by assumption⟩
       ·
        intro g126
        have g126p0 : (((EvalExpr (Xpr.mk (Xpr.Kind ((DrawOutcomes code).1)) (Xpr.Col ((DrawOutcomes code).1)) (Xpr.V ((DrawOutcomes code).1)) (Xpr.Kids ((DrawOutcomes code).1))) row).2) = true) ∧ ((bits .and .i64 (iOutcomes (Xpr.mk (Xpr.Kind ((DrawOutcomes code).1)) (Xpr.Col ((DrawOutcomes code).1)) (Xpr.V ((DrawOutcomes code).1)) (Xpr.Kids ((DrawOutcomes code).1))) ((DrawOutcomes code).2)) 1) ≠ 0) := (And.imp (fun h => h) (fun h => (Go.Am.bne_pos h)) (Go.Am.and_pos g126))
        first | assumption | exact ⟨by assumption, by assumption⟩
       ·
        intro g127
        have g127p0 : (((EvalExpr (Xpr.mk (Xpr.Kind ((DrawOutcomes code).1)) (Xpr.Col ((DrawOutcomes code).1)) (Xpr.V ((DrawOutcomes code).1)) (Xpr.Kids ((DrawOutcomes code).1))) row).2) = true) ∧ ((bits .and .i64 (iOutcomes (Xpr.mk (Xpr.Kind ((DrawOutcomes code).1)) (Xpr.Col ((DrawOutcomes code).1)) (Xpr.V ((DrawOutcomes code).1)) (Xpr.Kids ((DrawOutcomes code).1))) ((DrawOutcomes code).2)) 1) ≠ 0) := (And.imp (fun h => h) (fun h => (Go.Am.bne_pos h)) (Go.Am.and_pos g127))
        first | assumption | exact ⟨by assumption, by assumption⟩
      exact AW.ret (AW.rB (bif (bif ((EvalExpr (Xpr.mk (Xpr.Kind ((DrawOutcomes code).1)) (Xpr.Col ((DrawOutcomes code).1)) (Xpr.V ((DrawOutcomes code).1)) (Xpr.Kids ((DrawOutcomes code).1))) row).2) then ((bits .and .i64 (iOutcomes (Xpr.mk (Xpr.Kind ((DrawOutcomes code).1)) (Xpr.Col ((DrawOutcomes code).1)) (Xpr.V ((DrawOutcomes code).1)) (Xpr.Kids ((DrawOutcomes code).1))) ((DrawOutcomes code).2)) 1) != 0) else false) then (decide ((iOutcomes (Xpr.mk (Xpr.Kind ((DrawOutcomes code).1)) (Xpr.Col ((DrawOutcomes code).1)) (Xpr.V ((DrawOutcomes code).1)) (Xpr.Kids ((DrawOutcomes code).1))) ((DrawOutcomes code).2)) ≤ 7)) else false) e121)
     ·
      intro h128
      have h128q := (Go.Am.beq_neg h128)
      have e129 := e119.trans (Go.Am.bif_f h128)
      refine AW.kp [7, 12, 13] [] ⟨[(7, sI (iOutcomes (Xpr.mk (Xpr.Kind ((DrawOutcomes code).1)) (Xpr.Col ((DrawOutcomes code).1)) (Xpr.V ((DrawOutcomes code).1)) (Xpr.Kids ((DrawOutcomes code).1))) ((DrawOutcomes code).2))), (12, sB ((EvalExpr (Xpr.mk (Xpr.Kind ((DrawOutcomes code).1)) (Xpr.Col ((DrawOutcomes code).1)) (Xpr.V ((DrawOutcomes code).1)) (Xpr.Kids ((DrawOutcomes code).1))) row).2)), (13, sI 2)], []⟩ ?_
      refine AW.skip (AW.seq (AW.r0 hC [4] [] ⟨[(4, sB (bif (bif ((EvalExpr (Xpr.mk (Xpr.Kind ((DrawOutcomes code).1)) (Xpr.Col ((DrawOutcomes code).1)) (Xpr.V ((DrawOutcomes code).1)) (Xpr.Kids ((DrawOutcomes code).1))) row).2) then ((bits .and .i64 (iOutcomes (Xpr.mk (Xpr.Kind ((DrawOutcomes code).1)) (Xpr.Col ((DrawOutcomes code).1)) (Xpr.V ((DrawOutcomes code).1)) (Xpr.Kids ((DrawOutcomes code).1))) ((DrawOutcomes code).2)) 2) != 0) else false) then (decide ((iOutcomes (Xpr.mk (Xpr.Kind ((DrawOutcomes code).1)) (Xpr.Col ((DrawOutcomes code).1)) (Xpr.V ((DrawOutcomes code).1)) (Xpr.Kids ((DrawOutcomes code).1))) ((DrawOutcomes code).2)) ≤ 7)) else false))], []⟩ [((((EvalExpr (Xpr.mk (Xpr.Kind ((DrawOutcomes code).1)) (Xpr.Col ((DrawOutcomes code).1)) (Xpr.V ((DrawOutcomes code).1)) (Xpr.Kids ((DrawOutcomes code).1))) row).2) = true) → ((((EvalExpr (Xpr.mk (Xpr.Kind ((DrawOutcomes code).1)) (Xpr.Col ((DrawOutcomes code).1)) (Xpr.V ((DrawOutcomes code).1)) (Xpr.Kids ((DrawOutcomes code).1))) row).2) = true))), ((((EvalExpr (Xpr.mk (Xpr.Kind ((DrawOutcomes code).1)) (Xpr.Col ((DrawOutcomes code).1)) (Xpr.V ((DrawOutcomes code).1)) (Xpr.Kids ((DrawOutcomes code).1))) row).2) = true) → ((((EvalExpr (Xpr.mk (Xpr.Kind ((DrawOutcomes code).1)) (Xpr.Col ((DrawOutcomes code).1)) (Xpr.V ((DrawOutcomes code).1)) (Xpr.Kids ((DrawOutcomes code).1))) row).2) = true))), ((((EvalExpr (Xpr.mk (Xpr.Kind ((DrawOutcomes code).1)) (Xpr.Col ((DrawOutcomes code).1)) (Xpr.V ((DrawOutcomes code).1)) (Xpr.Kids ((DrawOutcomes code).1))) row).2) = true) → ((((EvalExpr (Xpr.mk (Xpr.Kind ((DrawOutcomes code).1)) (Xpr.Col ((DrawOutcomes code).1)) (Xpr.V ((DrawOutcomes code).1)) (Xpr.Kids ((DrawOutcomes code).1))) row).2) = true))), ((((EvalExpr (Xpr.mk (Xpr.Kind ((DrawOutcomes code).1)) (Xpr.Col ((DrawOutcomes code).1)) (Xpr.V ((DrawOutcomes code).1)) (Xpr.Kids ((DrawOutcomes code).1))) row).2) = true) → ((((EvalExpr (Xpr.mk (Xpr.Kind ((DrawOutcomes code).1)) (Xpr.Col ((DrawOutcomes code).1)) (Xpr.V ((DrawOutcomes code).1)) (Xpr.Kids ((DrawOutcomes code).1))) row).2) = true))), (((bif ((EvalExpr (Xpr.mk (Xpr.Kind ((DrawOutcomes code).1)) (Xpr.Col ((DrawOutcomes code).1)) (Xpr.V ((DrawOutcomes code).1)) (Xpr.Kids ((DrawOutcomes code).1))) row).2) then ((bits .and .i64 (iOutcomes (Xpr.mk (Xpr.Kind ((DrawOutcomes code).1)) (Xpr.Col ((DrawOutcomes code).1)) (Xpr.V ((DrawOutcomes code).1)) (Xpr.Kids ((DrawOutcomes code).1))) ((DrawOutcomes code).2)) 2) != 0) else false) = true) → (((bif ((EvalExpr (Xpr.mk (Xpr.Kind ((DrawOutcomes code).1)) (Xpr.Col ((DrawOutcomes code).1)) (Xpr.V ((DrawOutcomes code).1)) (Xpr.Kids ((DrawOutcomes code).1))) row).2) then ((bits .and .i64 (iOutcomes (Xpr.mk (Xpr.Kind ((DrawOutcomes code).1)) (Xpr.Col ((DrawOutcomes code).1)) (Xpr.V ((DrawOutcomes code).1)) (Xpr.Kids ((DrawOutcomes code).1))) ((DrawOutcomes code).2)) 2) != 0) else false) = true))), (((bif ((EvalExpr (Xpr.mk (Xpr.Kind ((DrawOutcomes code).1)) (Xpr.Col ((DrawOutcomes code).1)) (Xpr.V ((DrawOutcomes code).1)) (Xpr.Kids ((DrawOutcomes code).1))) row).2) then ((bits .and .i64 (iOutcomes (Xpr.mk (Xpr.Kind ((DrawOutcomes code).1)) (Xpr.Col ((DrawOutcomes code).1)) (Xpr.V ((DrawOutcomes code).1)) (Xpr.Kids ((DrawOutcomes code).1))) ((DrawOutcomes code).2)) 2) != 0) else false) = true) → (((bif ((EvalExpr (Xpr.mk (Xpr.Kind ((DrawOutcomes code).1)) (Xpr.Col ((DrawOutcomes code).1)) (Xpr.V ((DrawOutcomes code).1)) (Xpr.Kids ((DrawOutcomes code).1))) row).2) then ((bits .and .i64 (iOutcomes (Xpr.mk (Xpr.Kind ((DrawOutcomes code).1)) (Xpr.Col ((DrawOutcomes code).1)) (Xpr.V ((DrawOutcomes code).1)) (Xpr.Kids ((DrawOutcomes code).1))) ((DrawOutcomes code).2)) 2) != 0) else false) = true)))] ?_ ?_))
      ·
       refine ⟨?_, ?_, ?_, ?_, ?_, ?_, trivial⟩
       ·
        intro g130
        have g130p0 : ((EvalExpr (Xpr.mk (Xpr.Kind ((DrawOutcomes code).1)) (Xpr.Col ((DrawOutcomes code).1)) (Xpr.V ((DrawOutcomes code).1)) (Xpr.Kids ((DrawOutcomes code).1))) row).2) = true := g130
        first | assumption | exact ⟨by assumption, by assumption⟩
       ·
        intro g131
        have g131p0 : ((EvalExpr (Xpr.mk (Xpr.Kind ((DrawOutcomes code).1)) (Xpr.Col ((DrawOutcomes code).1)) (Xpr.V ((DrawOutcomes code).1)) (Xpr.Kids ((DrawOutcomes code).1))) row).2) = true := g131
        first | assumption | exact ⟨by assumption, by assumption⟩
       ·
        intro g132
        have g132p0 : ((EvalExpr (Xpr.mk (Xpr.Kind ((DrawOutcomes code).1)) (Xpr.Col ((DrawOutcomes code).1)) (Xpr.V ((DrawOutcomes code).1)) (Xpr.Kids ((DrawOutcomes code).1))) row).2) = true := g132
        first | assumption | exact ⟨by assumption, by assumption⟩
       ·
        intro g133
        have g133p0 : ((EvalExpr (Xpr.mk (Xpr.Kind ((DrawOutcomes code).1)) (Xpr.Col ((DrawOutcomes code).1)) (Xpr.V ((DrawOutcomes code).1)) (Xpr.Kids ((DrawOutcomes code).1))) row).2) = true := g133
        first | assumption | exact ⟨by assumption, by assumption⟩
       ·
        intro g134
        have g134p0 : (((EvalExpr (Xpr.mk (Xpr.Kind ((DrawOutcomes code).1)) (Xpr.Col ((DrawOutcomes code).1)) (Xpr.V ((DrawOutcomes code).1)) (Xpr.Kids ((DrawOutcomes code).1))) row).2) = true) ∧ ((bits .and .i64 (iOutcomes (Xpr.mk (Xpr.Kind ((DrawOutcomes code).1)) (Xpr.Col ((DrawOutcomes code).1)) (Xpr.V ((DrawOutcomes code).1)) (Xpr.Kids ((DrawOutcomes code).1))) ((DrawOutcomes code).2)) 2) ≠ 0) := (And.imp (fun h => h) (fun h => (Go.Am.bne_pos h)) (Go.Am.and_pos g134))
        first | assumption | exact ⟨by assumption, by assumption⟩
       ·
        intro g135
        have g135p0 : (((EvalExpr (Xpr.mk (Xpr.Kind ((DrawOutcomes code).1)) (Xpr.Col ((DrawOutcomes code).1)) (Xpr.V ((DrawOutcomes code).1)) (Xpr.Kids ((DrawOutcomes code).1))) row).2) = true) ∧ ((bits .and .i64 (iOutcomes (Xpr.mk (Xpr.Kind ((DrawOutcomes code).1)) (Xpr.Col ((DrawOutcomes code).1)) (Xpr.V ((DrawOutcomes code).1)) (Xpr.Kids ((DrawOutcomes code).1))) ((DrawOutcomes code).2)) 2) ≠ 0) := (And.imp (fun h => h) (fun h => (Go.Am.bne_pos h)) (Go.Am.and_pos g135))
        first | assumption | exact ⟨by assumption, by assumption⟩
      exact AW.ret (AW.rB (bif (bif ((EvalExpr (Xpr.mk (Xpr.Kind ((DrawOutcomes code).1)) (Xpr.Col ((DrawOutcomes code).1)) (Xpr.V ((DrawOutcomes code).1)) (Xpr.Kids ((DrawOutcomes code).1))) row).2) then ((bits .and .i64 (iOutcomes (Xpr.mk (Xpr.Kind ((DrawOutcomes code).1)) (Xpr.Col ((DrawOutcomes code).1)) (Xpr.V ((DrawOutcomes code).1)) (Xpr.Kids ((DrawOutcomes code).1))) ((DrawOutcomes code).2)) 2) != 0) else false) then (decide ((iOutcomes (Xpr.mk (Xpr.Kind ((DrawOutcomes code).1)) (Xpr.Col ((DrawOutcomes code).1)) (Xpr.V ((DrawOutcomes code).1)) (Xpr.Kids ((DrawOutcomes code).1))) ((DrawOutcomes code).2)) ≤ 7)) else false) e129)

theorem bit_sub : ∀ (a : Fin 8), ((bits .and .i64 (a.val : Int) 4 != 0) = true → bits .and .i64 (a.val : Int) 4 = 4) ∧ ((bits .and .i64 (a.val : Int) 2 != 0) = true → bits .and .i64 (a.val : Int) 2 = 2) ∧ ((bits .and .i64 (a.val : Int) 1 != 0) = true → bits .and .i64 (a.val : Int) 1 = 1) := by decide +kernel

theorem bit_none : ∀ (a : Fin 8), 1 ≤ a.val → (bits .and .i64 (a.val : Int) 2 != 0) = false → (bits .and .i64 (a.val : Int) 1 != 0) = false → a.val = 4 := by decide +kernel

def RowOf (st : List Int) (i : Nat) (row : List Val) : Prop := row.length = i ∧ ∀ j, j < i → VV (row.getD j Val.zero) ∧ Sub (istateOf (row.getD j Val.zero)) (st.getD j 0)

theorem RowOf.add {st : List Int} {i : Nat} {row : List Val} (h : RowOf st i row) {v : Val} (hv : VV v) (hs : Sub (istateOf v) (st.getD i 0)) : RowOf st (i + 1) (row ++ [v]) := by
 refine ⟨by simp [h.1], fun j hj => ?_⟩
 rw [List.getD_eq_getElem?_getD, List.getElem?_append]
 split
 ·
  rename_i hl
  have := h.2 j (by rw [h.1] at hl; exact hl)
  rwa [List.getD_eq_getElem?_getD] at this
 ·
  rename_i hl
  have : j = i := by rw [h.1] at hl; omega
  subst this
  rw [show j - row.length = 0 by rw [h.1]; omega]
  exact ⟨hv, hs⟩

theorem RowOf.bif {st : List Int} {i : Nat} {c : Bool} {x y : List Val} (h1 : c = true → RowOf st i x) (h2 : c = false → RowOf st i y) : RowOf st i (bif c then x else y) := by
 cases c with
 | true => exact h1 rfl
 | false => exact h2 rfl

theorem row_loop (code more : List Int) (hV : VS (DrawOutcomes code).2) : ∀ (k i : Nat) (row : List Val), (DrawOutcomes code).2.length - i < k → i ≤ (DrawOutcomes code).2.length → RowOf (DrawOutcomes code).2 i row →
  RowOf (DrawOutcomes code).2 (DrawOutcomes code).2.length (FnOutcomes_l0 code more k i row) := by
 intro k
 induction k with
 | zero => intro i row h; omega
 | succ k ih =>
  intro i row h hi hr
  unfold FnOutcomes_l0
  by_cases hk : i < (DrawOutcomes code).2.length
  ·
   rw [lt_dec hk, cond_true]
   have hvi := hV i hk
   obtain ⟨a, ha⟩ := un8 (a := List.getD (DrawOutcomes code).2 i 0) (by omega)
   obtain ⟨b4, b2, b1⟩ := bit_sub a
   have bn := bit_none a (by omega)
   rw [← ha] at b4 b2 b1 bn
   have step : ∀ v : Val, VV v → Sub (istateOf v) (List.getD (DrawOutcomes code).2 i 0) → RowOf (DrawOutcomes code).2 (DrawOutcomes code).2.length (FnOutcomes_l0 code more k (i + 1) (row ++ [v])) :=
    fun v h1 h2 => ih _ _ (by omega) (by omega) (hr.add h1 h2)
   generalize hA : List.getD (DrawOutcomes code).2 i 0 = A at *
   generalize ((((List.length more) + i : Nat) : Int)) = q
   refine RowOf.bif (fun h => step _ (by unfold VV; simp) (b4 (and_pos h).1)) (fun h4 => RowOf.bif (fun h => step _ ?_ ?_) (fun h2 => RowOf.bif (fun h => step _ (by unfold VV; simp) (b1 h)) (fun h1 => ?_)))
   ·
    unfold VV
    simp only [Bool.false_eq_true, if_false]
    omega
   ·
    have e : istateOf (Val.mk false (1 + q % 3)) = 2 := by
     unfold istateOf
     rw [show ((Val.mk false (1 + q % 3)).N == 0) = false from beq_false_of_ne (by show (1 + q % 3) ≠ 0; omega)]
     rfl
    rw [e]
    exact b2 (and_pos h).1
   ·
    have h2' : (bits .and .i64 A 2 != 0) = false := by
     cases hb : bits .and .i64 A 2 != 0 with
     | false => rfl
     | true =>
      rw [hb] at h2
      have h1' : (bits .and .i64 A 1 == 0) = true := by
       cases hc : bits .and .i64 A 1 == 0 with
       | true => rfl
       | false => rw [bne, hc] at h1; cases h1
      rw [h1'] at h2
      cases hq : (q % 2 == 0) <;> rw [hq] at h2 <;> cases h2
    have h5 : A = 4 := by have := bn h2' h1; omega
    rw [h5] at h4
    have : (bits .and .i64 (4 : Int) 4 != 0) = true := by decide
    rw [this] at h4
    cases hq : (q % 3 == 0) <;> rw [hq] at h4 <;> cases h4
  ·
   rw [ge_dec hk, cond_false]
   have : i = (DrawOutcomes code).2.length := by omega
   rw [← this]
   exact hr

theorem state_if (v : Val) (n : Int) (ok : Bool) (hok : ok = true) (hn : n ≤ 7) (hs : Sub (istateOf v) n) :
  (bif v.Null then (bif (bif ok then (bits .and .i64 n 4 != 0) else false) then (decide (n ≤ 7)) else false) else (bif v.N == 0 then (bif (bif ok then (bits .and .i64 n 1 != 0) else false) then (decide (n ≤ 7)) else false) else (bif (bif ok then (bits .and .i64 n 2 != 0) else false) then (decide (n ≤ 7)) else false))) = true := by
 subst hok
 rw [decide_eq_true hn]
 unfold Sub istateOf at hs
 cases h : v.Null with
 | true =>
  rw [h] at hs
  have hs : bits .and .i64 n 4 = 4 := hs
  rw [cond_true, cond_true, hs]
  rfl
 | false =>
  rw [h] at hs
  cases h0 : v.N == 0 with
  | true =>
   rw [h0] at hs
   have hs : bits .and .i64 n 1 = 1 := hs
   rw [cond_false, cond_true, cond_true, hs]
   rfl
  | false =>
   rw [h0] at hs
   have hs : bits .and .i64 n 2 = 2 := hs
   rw [cond_false, cond_false, cond_true, hs]
   rfl

theorem FnOutcomes_law (code more : List Int) : FnOutcomes code more = true := by
 unfold FnOutcomes
 simp only [Xpr.eta]
 rw [Outcomes_same, bne_self_eq_false, cond_false]
 cases (bif (decide (1048576 < ((List.length code : Nat) : Int))) then true else (decide (1048576 < ((List.length more : Nat) : Int)))) with
 | true => rfl
 | false =>
  rw [cond_false]
  cases hz : Outcomes (DrawOutcomes code).1 (DrawOutcomes code).2 == 0 with
  | true => simp
  | false =>
   rw [cond_false, ← Outcomes_same]
   have hne : iOutcomes (DrawOutcomes code).1 (DrawOutcomes code).2 ≠ 0 := by
    rw [Outcomes_same]
    intro h
    rw [h] at hz
    exact absurd hz (by decide)
   obtain ⟨⟨hl, hV⟩, hX, he⟩ := iOutcomes_ne hne
   have hR := row_loop code more hV ((DrawOutcomes code).2.length - 0 + 1) 0 [] (by omega) (by omega) ⟨rfl, fun j hj => absurd hj (Nat.not_lt_zero _)⟩
   simp only [Go.Am.andThen]
   generalize FnOutcomes_l0 code more ((DrawOutcomes code).2.length - 0 + 1) 0 [] = row at hR ⊢
   obtain ⟨hr, hR⟩ := hR
   have hE := EvalExpr_eq (e := (DrawOutcomes code).1) (row := row) (by rw [hr]; exact hl) (fun j hj => (hR j (by omega)).1) (by rw [hr]; exact hX)
   have hb := ioutcomes_b (SizeOf.sizeOf (DrawOutcomes code).1 + 1) (DrawOutcomes code).1 (DrawOutcomes code).2 ⟨hV, 8, hX⟩
   have hs := ioutcomes_sound (st := (DrawOutcomes code).2) (row := row) hr.symm (fun j hj => (hR j hj).2) (SizeOf.sizeOf (DrawOutcomes code).1 + 1) (DrawOutcomes code).1 (Nat.lt_succ_self _) ⟨hV, 8, hX⟩
   rw [hE, he]
   exact state_if _ _ _ rfl hb.2 hs

end
end Go.Proofs.Ytophfihhdelbiaa
