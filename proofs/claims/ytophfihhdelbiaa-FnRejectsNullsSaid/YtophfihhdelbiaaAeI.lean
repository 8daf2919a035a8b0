/-
  A part of the proof of this claim (AeI): what functions of the program compute, and plain facts of that. No conditions.
-/
import Derived.Test.YtophfihhdelbiaaAeH
set_option linter.all false
namespace Go.Proofs.Ytophfihhdelbiaa
open Go Go.Am
noncomputable section

theorem draw_len (code : List Int) (r0 : List Int) : ∀ (k i : Nat) (r1 : Int) (list : List Int), i ≤ 3 → list.length ≤ i → (DrawRejectsNulls_l0 code r0 k i r1 list).length ≤ 3 := by
 intro k
 induction k with
 | zero => intro i r1 list h1 h2; exact Nat.le_trans h2 h1
 | succ k ih =>
  intro i r1 list h1 h2
  unfold DrawRejectsNulls_l0
  have h3 := pick_ok (n := 3) (newReader code).b (newReader code).p (by decide)
  by_cases hk : ((i : Nat) : Int) < 1 + pick (Rdr.b (newReader code)) (Rdr.p (newReader code)) 3
  ·
   rw [show decide (((i : Nat) : Int) < 1 + pick (Rdr.b (newReader code)) (Rdr.p (newReader code)) 3) = true from decide_eq_true hk, cond_true]
   simp only [Go.Am.andThen]
   refine ih _ _ _ (by omega) ?_
   unfold DrawRejectsNulls_j1
   cases (pick r0 r1 2 == 0) with
   | true => simp; omega
   | false => simp; omega
  ·
   rw [show decide (((i : Nat) : Int) < 1 + pick (Rdr.b (newReader code)) (Rdr.p (newReader code)) 3) = false from decide_eq_false hk, cond_false]
   exact Nat.le_trans h2 h1

theorem Draw_len (code : List Int) : (DrawRejectsNulls code).2.2.length ≤ 3 := by
 unfold DrawRejectsNulls
 simp only [Go.Am.andThen]
 exact draw_len code _ _ 0 _ [] (by decide) (by decide)

theorem rejects_mono8 : ∀ (x y : Fin 8), (!(bits .and .i64 (y.val : Int) (x.val : Int) == (x.val : Int) && bits .and .i64 (y.val : Int) 2 == 0)) = true ∨ (bits .and .i64 (x.val : Int) 2 == 0) = true := by decide +kernel

theorem iRejectsNulls_iff {e : Xpr} {w : Int} {nulls : List Int} : iRejectsNulls e w nulls = true ↔ (1 ≤ w ∧ w ≤ 6) ∧ VE w 8 e ∧ (bits .and .i64 (ioutcomes e (nst w.toNat nulls)) 2 == 0) = true := by
 rw [RejectsNulls_same]
 unfold RejectsNulls rejects
 rw [Xpr.eta]
 cases hv : ValidExpr e w with
 | false =>
  refine ⟨fun h => absurd h (by simp), fun h => ?_⟩
  rw [ValidExpr_iff.2 ⟨h.1, h.2.1⟩] at hv
  cases hv
 | true =>
  have h := ValidExpr_iff.1 hv
  rw [nullStates_eq _ h.1, Xpr.eta, outcomes_same (nst_VX h.1 h.2), cond_true]
  exact ⟨fun hb => ⟨h.1, h.2, hb⟩, fun hb => hb.2.2⟩

def FnRejectsMore_l0 (code : List Int) : Nat → Nat → (List Int) → (List Int)
 | 0, i, all => all
 | k + 1, i, all => (bif (decide (((i : Nat) : Int) < ((DrawRejectsNulls code).2.1))) then (FnRejectsMore_l0 code k (i + 1) (all ++ ([((i : Nat) : Int)] : List Int))) else all)

def FnRejectsMore (code : List Int) (more : List Int) : Bool := (bif (bif (decide (1048576 < ((List.length code : Nat) : Int))) then true else (decide (1048576 < ((List.length more : Nat) : Int)))) then true else (bif (bif ((iRejectsNulls (Xpr.mk (Xpr.Kind ((DrawRejectsNulls code).1)) (Xpr.Col ((DrawRejectsNulls code).1)) (Xpr.V ((DrawRejectsNulls code).1)) (Xpr.Kids ((DrawRejectsNulls code).1))) ((DrawRejectsNulls code).2.1) ((DrawRejectsNulls code).2.2)) != (RejectsNulls (Xpr.mk (Xpr.Kind ((DrawRejectsNulls code).1)) (Xpr.Col ((DrawRejectsNulls code).1)) (Xpr.V ((DrawRejectsNulls code).1)) (Xpr.Kids ((DrawRejectsNulls code).1))) ((DrawRejectsNulls code).2.1) ((DrawRejectsNulls code).2.2))) then true else (!(iRejectsNulls (Xpr.mk (Xpr.Kind ((DrawRejectsNulls code).1)) (Xpr.Col ((DrawRejectsNulls code).1)) (Xpr.V ((DrawRejectsNulls code).1)) (Xpr.Kids ((DrawRejectsNulls code).1))) ((DrawRejectsNulls code).2.1) ((DrawRejectsNulls code).2.2)))) then ((iRejectsNulls (Xpr.mk (Xpr.Kind ((DrawRejectsNulls code).1)) (Xpr.Col ((DrawRejectsNulls code).1)) (Xpr.V ((DrawRejectsNulls code).1)) (Xpr.Kids ((DrawRejectsNulls code).1))) ((DrawRejectsNulls code).2.1) ((DrawRejectsNulls code).2.2)) == (RejectsNulls (Xpr.mk (Xpr.Kind ((DrawRejectsNulls code).1)) (Xpr.Col ((DrawRejectsNulls code).1)) (Xpr.V ((DrawRejectsNulls code).1)) (Xpr.Kids ((DrawRejectsNulls code).1))) ((DrawRejectsNulls code).2.1) ((DrawRejectsNulls code).2.2))) else (Go.Am.andThen (FnRejectsMore_l0 code (Int.toNat (((DrawRejectsNulls code).2.1) - ((0 : Nat) : Int)) + 1) 0 ([] : List Int)) (fun z => (fun (all : List Int) => (bif (iRejectsNulls (Xpr.mk (Xpr.Kind ((DrawRejectsNulls code).1)) (Xpr.Col ((DrawRejectsNulls code).1)) (Xpr.V ((DrawRejectsNulls code).1)) (Xpr.Kids ((DrawRejectsNulls code).1))) ((DrawRejectsNulls code).2.1) ((([] : List Int) ++ ((DrawRejectsNulls code).2.2)) ++ ([(((List.length more : Nat) : Int) % ((DrawRejectsNulls code).2.1))] : List Int))) then (iRejectsNulls (Xpr.mk (Xpr.Kind ((DrawRejectsNulls code).1)) (Xpr.Col ((DrawRejectsNulls code).1)) (Xpr.V ((DrawRejectsNulls code).1)) (Xpr.Kids ((DrawRejectsNulls code).1))) ((DrawRejectsNulls code).2.1) all) else false)) z))))

def FnRejectsMore_sp : FnSpec := mkSpec [.val (.slice (.int .u8)), .val (.slice (.int .u8))] [.val .bool] (fun (code : List Int) (more : List Int) => True) (fun (code : List Int) (more : List Int) => [⟨.bool, (FnRejectsMore code more)⟩])

theorem FnRejectsMore_ok : FnOK Try.prog 5 FnRejectsMore_sp := by
 have hC : CtxOK Try.prog (mkCtx tyL [(11, DrawRejectsNulls_sp), (12, iRejectsNulls_sp), (13, RejectsNulls_sp)]) := CtxOK.cons DrawRejectsNulls_ok (CtxOK.cons iRejectsNulls_ok (CtxOK.cons RejectsNulls_ok (CtxOK.nil tyOK)))
 have hM : Try.prog.follows .mixedOrders = true := Try.checked.mixed
 refine FnOK.of_body Try.func5 (by kernel_rfl) rfl (C := (mkCtx tyL [(11, DrawRejectsNulls_sp), (12, iRejectsNulls_sp), (13, RejectsNulls_sp)])) hC.ty (by kernel_rfl) ?_
 intro (code : List Int) (more : List Int) hwf hpre E
 have hpre : True := hpre
 have hw_code : Wf ⟨(.slice (.int .u8)), (code : List Int)⟩ := hwf _ (List.Mem.head _)
 have hl_code : ((List.length code : Nat) : Int) ≤ 9223372036854775807 := hw_code.len
 have hw_more : Wf ⟨(.slice (.int .u8)), (more : List Int)⟩ := hwf _ (List.Mem.tail _ (List.Mem.head _))
 have hl_more : ((List.length more : Nat) : Int) ≤ 9223372036854775807 := hw_more.len
 have e0 : FnRejectsMore code more = FnRejectsMore code more := rfl
 refine AW.seq (AW.r1 hC [0, 1] [] ⟨[(0, sD7 code), (1, sD7 more)], []⟩ ?_)
 refine AW.seq (AW.seq (AW.r0 hC [0, 1, 18] [] ⟨[(0, sD7 code), (1, sD7 more), (18, sB (bif (decide (1048576 < ((List.length code : Nat) : Int))) then true else (decide (1048576 < ((List.length more : Nat) : Int)))))], []⟩ [(((decide (1048576 < ((List.length code : Nat) : Int))) = false) → (((decide (1048576 < ((List.length code : Nat) : Int))) = false))), (((decide (1048576 < ((List.length code : Nat) : Int))) = false) → (((decide (1048576 < ((List.length code : Nat) : Int))) = false))), (((decide (1048576 < ((List.length code : Nat) : Int))) = false) → (((decide (1048576 < ((List.length code : Nat) : Int))) = false)))] ?_ ?_))
 ·
  refine ⟨?_, ?_, ?_, trivial⟩
  ·
   intro g1
   have g1p0 : ¬ (1048576 < ((List.length code : Nat) : Int)) := (of_decide_eq_false g1)
   first | assumption | exact ⟨by assumption, by assumption⟩
  ·
   intro g2
   have g2p0 : ¬ (1048576 < ((List.length code : Nat) : Int)) := (of_decide_eq_false g2)
   first | assumption | exact ⟨by assumption, by assumption⟩
  ·
   intro g3
   have g3p0 : ¬ (1048576 < ((List.length code : Nat) : Int)) := (of_decide_eq_false g3)
   first | assumption | exact ⟨by assumption, by assumption⟩
 refine AW.cd (bif (decide (1048576 < ((List.length code : Nat) : Int))) then true else (decide (1048576 < ((List.length more : Nat) : Int)))) ?_ ?_
 ·
  intro h4
  have h4q : (1048576 < ((List.length code : Nat) : Int)) ∨ (1048576 < ((List.length more : Nat) : Int)) := (Or.imp (fun h => (of_decide_eq_true h)) (fun h => (of_decide_eq_true h)) (Go.Am.or_pos h4))
  have e5 := e0.trans (Go.Am.bif_t h4)
  refine AW.seq (AW.r1 hC [4] [] ⟨[(4, sB true)], []⟩ ?_)
  exact AW.ret (AW.rB true e5)
 ·
  intro h6
  have h6q : (¬ (1048576 < ((List.length code : Nat) : Int))) ∧ (¬ (1048576 < ((List.length more : Nat) : Int))) := (And.imp (fun h => (of_decide_eq_false h)) (fun h => (of_decide_eq_false h)) (Go.Am.or_neg h6))
  have e7 := e0.trans (Go.Am.bif_f h6)
  refine AW.kp [0, 1] [] ⟨[(0, sD7 code), (1, sD7 more)], []⟩ ?_
  refine AW.skip (AW.seq (AW.r0 hC [1, 5, 6, 7] [20, 86] ⟨[(1, sD7 more), (5, .ref 20 1 0), (6, sI ((DrawRejectsNulls code).2.1)), (7, .arr 86 1)], [(20, .box 1 [sI (Xpr.Kind ((DrawRejectsNulls code).1)), sI (Xpr.Col ((DrawRejectsNulls code).1)), sB (Val.Null (Xpr.V ((DrawRejectsNulls code).1))), sI (Val.N (Xpr.V ((DrawRejectsNulls code).1))), sD9 (Xpr.Kids ((DrawRejectsNulls code).1))]), (86, .arr 1 (.int .i64) (((DrawRejectsNulls code).2.2) : List Int))]⟩ [(True)] ?_ ?_))
  ·
   refine ⟨?_, trivial⟩
   ·
    trivial
  refine AW.seq (AW.r0 hC [1, 5, 6, 7, 8] [20, 86] ⟨[(1, sD7 more), (5, .ref 20 1 0), (6, sI ((DrawRejectsNulls code).2.1)), (7, .arr 86 1), (8, sB (iRejectsNulls (Xpr.mk (Xpr.Kind ((DrawRejectsNulls code).1)) (Xpr.Col ((DrawRejectsNulls code).1)) (Xpr.V ((DrawRejectsNulls code).1)) (Xpr.Kids ((DrawRejectsNulls code).1))) ((DrawRejectsNulls code).2.1) ((DrawRejectsNulls code).2.2)))], [(20, .box 1 [sI (Xpr.Kind ((DrawRejectsNulls code).1)), sI (Xpr.Col ((DrawRejectsNulls code).1)), sB (Val.Null (Xpr.V ((DrawRejectsNulls code).1))), sI (Val.N (Xpr.V ((DrawRejectsNulls code).1))), sD9 (Xpr.Kids ((DrawRejectsNulls code).1))]), (86, .arr 1 (.int .i64) (((DrawRejectsNulls code).2.2) : List Int))]⟩ [(True)] ?_ ?_)
  ·
   refine ⟨?_, trivial⟩
   ·
    trivial
  refine AW.seq (AW.seq (AW.r0 hC [1, 5, 6, 7, 8, 38] [20, 86] ⟨[(1, sD7 more), (5, .ref 20 1 0), (6, sI ((DrawRejectsNulls code).2.1)), (7, .arr 86 1), (8, sB (iRejectsNulls (Xpr.mk (Xpr.Kind ((DrawRejectsNulls code).1)) (Xpr.Col ((DrawRejectsNulls code).1)) (Xpr.V ((DrawRejectsNulls code).1)) (Xpr.Kids ((DrawRejectsNulls code).1))) ((DrawRejectsNulls code).2.1) ((DrawRejectsNulls code).2.2))), (38, sB (bif ((iRejectsNulls (Xpr.mk (Xpr.Kind ((DrawRejectsNulls code).1)) (Xpr.Col ((DrawRejectsNulls code).1)) (Xpr.V ((DrawRejectsNulls code).1)) (Xpr.Kids ((DrawRejectsNulls code).1))) ((DrawRejectsNulls code).2.1) ((DrawRejectsNulls code).2.2)) != (RejectsNulls (Xpr.mk (Xpr.Kind ((DrawRejectsNulls code).1)) (Xpr.Col ((DrawRejectsNulls code).1)) (Xpr.V ((DrawRejectsNulls code).1)) (Xpr.Kids ((DrawRejectsNulls code).1))) ((DrawRejectsNulls code).2.1) ((DrawRejectsNulls code).2.2))) then true else (!(iRejectsNulls (Xpr.mk (Xpr.Kind ((DrawRejectsNulls code).1)) (Xpr.Col ((DrawRejectsNulls code).1)) (Xpr.V ((DrawRejectsNulls code).1)) (Xpr.Kids ((DrawRejectsNulls code).1))) ((DrawRejectsNulls code).2.1) ((DrawRejectsNulls code).2.2)))))], [(20, .box 1 [sI (Xpr.Kind ((DrawRejectsNulls code).1)), sI (Xpr.Col ((DrawRejectsNulls code).1)), sB (Val.Null (Xpr.V ((DrawRejectsNulls code).1))), sI (Val.N (Xpr.V ((DrawRejectsNulls code).1))), sD9 (Xpr.Kids ((DrawRejectsNulls code).1))]), (86, .arr 1 (.int .i64) (((DrawRejectsNulls code).2.2) : List Int))]⟩ [(True), ((((iRejectsNulls (Xpr.mk (Xpr.Kind ((DrawRejectsNulls code).1)) (Xpr.Col ((DrawRejectsNulls code).1)) (Xpr.V ((DrawRejectsNulls code).1)) (Xpr.Kids ((DrawRejectsNulls code).1))) ((DrawRejectsNulls code).2.1) ((DrawRejectsNulls code).2.2)) != (RejectsNulls (Xpr.mk (Xpr.Kind ((DrawRejectsNulls code).1)) (Xpr.Col ((DrawRejectsNulls code).1)) (Xpr.V ((DrawRejectsNulls code).1)) (Xpr.Kids ((DrawRejectsNulls code).1))) ((DrawRejectsNulls code).2.1) ((DrawRejectsNulls code).2.2))) = false) → ((((iRejectsNulls (Xpr.mk (Xpr.Kind ((DrawRejectsNulls code).1)) (Xpr.Col ((DrawRejectsNulls code).1)) (Xpr.V ((DrawRejectsNulls code).1)) (Xpr.Kids ((DrawRejectsNulls code).1))) ((DrawRejectsNulls code).2.1) ((DrawRejectsNulls code).2.2)) != (RejectsNulls (Xpr.mk (Xpr.Kind ((DrawRejectsNulls code).1)) (Xpr.Col ((DrawRejectsNulls code).1)) (Xpr.V ((DrawRejectsNulls code).1)) (Xpr.Kids ((DrawRejectsNulls code).1))) ((DrawRejectsNulls code).2.1) ((DrawRejectsNulls code).2.2))) = false))), ((((iRejectsNulls (Xpr.mk (Xpr.Kind ((DrawRejectsNulls code).1)) (Xpr.Col ((DrawRejectsNulls code).1)) (Xpr.V ((DrawRejectsNulls code).1)) (Xpr.Kids ((DrawRejectsNulls code).1))) ((DrawRejectsNulls code).2.1) ((DrawRejectsNulls code).2.2)) != (RejectsNulls (Xpr.mk (Xpr.Kind ((DrawRejectsNulls code).1)) (Xpr.Col ((DrawRejectsNulls code).1)) (Xpr.V ((DrawRejectsNulls code).1)) (Xpr.Kids ((DrawRejectsNulls code).1))) ((DrawRejectsNulls code).2.1) ((DrawRejectsNulls code).2.2))) = false) → ((((iRejectsNulls (Xpr.mk (Xpr.Kind ((DrawRejectsNulls code).1)) (Xpr.Col ((DrawRejectsNulls code).1)) (Xpr.V ((DrawRejectsNulls code).1)) (Xpr.Kids ((DrawRejectsNulls code).1))) ((DrawRejectsNulls code).2.1) ((DrawRejectsNulls code).2.2)) != (RejectsNulls (Xpr.mk (Xpr.Kind ((DrawRejectsNulls code).1)) (Xpr.Col ((DrawRejectsNulls code).1)) (Xpr.V ((DrawRejectsNulls code).1)) (Xpr.Kids ((DrawRejectsNulls code).1))) ((DrawRejectsNulls code).2.1) ((DrawRejectsNulls code).2.2))) = false)))] ?_ ?_))
  ·
   refine ⟨?_, ?_, ?_, trivial⟩
   ·
    trivial
   ·
    intro g8
    have g8p0 : ((iRejectsNulls (Xpr.mk (Xpr.Kind ((DrawRejectsNulls code).1)) (Xpr.Col ((DrawRejectsNulls code).1)) (Xpr.V ((DrawRejectsNulls code).1)) (Xpr.Kids ((DrawRejectsNulls code).1))) ((DrawRejectsNulls code).2.1) ((DrawRejectsNulls code).2.2)) != (RejectsNulls (Xpr.mk (Xpr.Kind ((DrawRejectsNulls code).1)) (Xpr.Col ((DrawRejectsNulls code).1)) (Xpr.V ((DrawRejectsNulls code).1)) (Xpr.Kids ((DrawRejectsNulls code).1))) ((DrawRejectsNulls code).2.1) ((DrawRejectsNulls code).2.2))) = false := g8
    first | assumption | exact ⟨by assumption, by assumption⟩
   ·
    intro g9
    have g9p0 : ((iRejectsNulls (Xpr.mk (Xpr.Kind ((DrawRejectsNulls code).1)) (Xpr.Col ((DrawRejectsNulls code).1)) (Xpr.V ((DrawRejectsNulls code).1)) (Xpr.Kids ((DrawRejectsNulls code).1))) ((DrawRejectsNulls code).2.1) ((DrawRejectsNulls code).2.2)) != (RejectsNulls (Xpr.mk (Xpr.Kind ((DrawRejectsNulls code).1)) (Xpr.Col ((DrawRejectsNulls code).1)) (Xpr.V ((DrawRejectsNulls code).1)) (Xpr.Kids ((DrawRejectsNulls code).1))) ((DrawRejectsNulls code).2.1) ((DrawRejectsNulls code).2.2))) = false := g9
    first | assumption | exact ⟨by assumption, by assumption⟩
  refine AW.cd (bif ((iRejectsNulls (Xpr.mk (Xpr.Kind ((DrawRejectsNulls code).1)) (Xpr.Col ((DrawRejectsNulls code).1)) (Xpr.V ((DrawRejectsNulls code).1)) (Xpr.Kids ((DrawRejectsNulls code).1))) ((DrawRejectsNulls code).2.1) ((DrawRejectsNulls code).2.2)) != (RejectsNulls (Xpr.mk (Xpr.Kind ((DrawRejectsNulls code).1)) (Xpr.Col ((DrawRejectsNulls code).1)) (Xpr.V ((DrawRejectsNulls code).1)) (Xpr.Kids ((DrawRejectsNulls code).1))) ((DrawRejectsNulls code).2.1) ((DrawRejectsNulls code).2.2))) then true else (!(iRejectsNulls (Xpr.mk (Xpr.Kind ((DrawRejectsNulls code).1)) (Xpr.Col ((DrawRejectsNulls code).1)) (Xpr.V ((DrawRejectsNulls code).1)) (Xpr.Kids ((DrawRejectsNulls code).1))) ((DrawRejectsNulls code).2.1) ((DrawRejectsNulls code).2.2)))) ?_ ?_
  ·
   intro h10
   have h10q : (((iRejectsNulls (Xpr.mk (Xpr.Kind ((DrawRejectsNulls code).1)) (Xpr.Col ((DrawRejectsNulls code).1)) (Xpr.V ((DrawRejectsNulls code).1)) (Xpr.Kids ((DrawRejectsNulls code).1))) ((DrawRejectsNulls code).2.1) ((DrawRejectsNulls code).2.2)) != (RejectsNulls (Xpr.mk (Xpr.Kind ((DrawRejectsNulls code).1)) (Xpr.Col ((DrawRejectsNulls code).1)) (Xpr.V ((DrawRejectsNulls code).1)) (Xpr.Kids ((DrawRejectsNulls code).1))) ((DrawRejectsNulls code).2.1) ((DrawRejectsNulls code).2.2))) = true) ∨ ((iRejectsNulls (Xpr.mk (Xpr.Kind ((DrawRejectsNulls code).1)) (Xpr.Col ((DrawRejectsNulls code).1)) (Xpr.V ((DrawRejectsNulls code).1)) (Xpr.Kids ((DrawRejectsNulls code).1))) ((DrawRejectsNulls code).2.1) ((DrawRejectsNulls code).2.2)) = false) := (Or.imp (fun h => h) (fun h => (Go.Am.not_pos h)) (Go.Am.or_pos h10))
   have e11 := e7.trans (Go.Am.bif_t h10)
   refine AW.seq (AW.r0 hC [4] [] ⟨[(4, sB ((iRejectsNulls (Xpr.mk (Xpr.Kind ((DrawRejectsNulls code).1)) (Xpr.Col ((DrawRejectsNulls code).1)) (Xpr.V ((DrawRejectsNulls code).1)) (Xpr.Kids ((DrawRejectsNulls code).1))) ((DrawRejectsNulls code).2.1) ((DrawRejectsNulls code).2.2)) == (RejectsNulls (Xpr.mk (Xpr.Kind ((DrawRejectsNulls code).1)) (Xpr.Col ((DrawRejectsNulls code).1)) (Xpr.V ((DrawRejectsNulls code).1)) (Xpr.Kids ((DrawRejectsNulls code).1))) ((DrawRejectsNulls code).2.1) ((DrawRejectsNulls code).2.2))))], []⟩ [(True)] ?_ ?_)
   ·
    refine ⟨?_, trivial⟩
    ·
     trivial
   exact AW.ret (AW.rB ((iRejectsNulls (Xpr.mk (Xpr.Kind ((DrawRejectsNulls code).1)) (Xpr.Col ((DrawRejectsNulls code).1)) (Xpr.V ((DrawRejectsNulls code).1)) (Xpr.Kids ((DrawRejectsNulls code).1))) ((DrawRejectsNulls code).2.1) ((DrawRejectsNulls code).2.2)) == (RejectsNulls (Xpr.mk (Xpr.Kind ((DrawRejectsNulls code).1)) (Xpr.Col ((DrawRejectsNulls code).1)) (Xpr.V ((DrawRejectsNulls code).1)) (Xpr.Kids ((DrawRejectsNulls code).1))) ((DrawRejectsNulls code).2.1) ((DrawRejectsNulls code).2.2))) e11)
  ·
   intro h12
   have h12q : (((iRejectsNulls (Xpr.mk (Xpr.Kind ((DrawRejectsNulls code).1)) (Xpr.Col ((DrawRejectsNulls code).1)) (Xpr.V ((DrawRejectsNulls code).1)) (Xpr.Kids ((DrawRejectsNulls code).1))) ((DrawRejectsNulls code).2.1) ((DrawRejectsNulls code).2.2)) != (RejectsNulls (Xpr.mk (Xpr.Kind ((DrawRejectsNulls code).1)) (Xpr.Col ((DrawRejectsNulls code).1)) (Xpr.V ((DrawRejectsNulls code).1)) (Xpr.Kids ((DrawRejectsNulls code).1))) ((DrawRejectsNulls code).2.1) ((DrawRejectsNulls code).2.2))) = false) ∧ ((iRejectsNulls (Xpr.mk (Xpr.Kind ((DrawRejectsNulls code).1)) (Xpr.Col ((DrawRejectsNulls code).1)) (Xpr.V ((DrawRejectsNulls code).1)) (Xpr.Kids ((DrawRejectsNulls code).1))) ((DrawRejectsNulls code).2.1) ((DrawRejectsNulls code).2.2)) = true) := (And.imp (fun h => h) (fun h => (Go.Am.not_neg h)) (Go.Am.or_neg h12))
   have e13 := e7.trans (Go.Am.bif_f h12)
   refine AW.kp [1, 5, 6, 7] [20, 86] ⟨[(1, sD7 more), (5, .ref 20 1 0), (6, sI ((DrawRejectsNulls code).2.1)), (7, .arr 86 1)], [(20, .box 1 [sI (Xpr.Kind ((DrawRejectsNulls code).1)), sI (Xpr.Col ((DrawRejectsNulls code).1)), sB (Val.Null (Xpr.V ((DrawRejectsNulls code).1))), sI (Val.N (Xpr.V ((DrawRejectsNulls code).1))), sD9 (Xpr.Kids ((DrawRejectsNulls code).1))]), (86, .arr 1 (.int .i64) (((DrawRejectsNulls code).2.2) : List Int))]⟩ ?_
   refine AW.skip (AW.seq (AW.r1 hC [1, 5, 6, 7, 9] [20, 86, 180] ⟨[(1, sD7 more), (5, .ref 20 1 0), (6, sI ((DrawRejectsNulls code).2.1)), (7, .arr 86 1), (9, .arr 180 1)], [(20, .box 1 [sI (Xpr.Kind ((DrawRejectsNulls code).1)), sI (Xpr.Col ((DrawRejectsNulls code).1)), sB (Val.Null (Xpr.V ((DrawRejectsNulls code).1))), sI (Val.N (Xpr.V ((DrawRejectsNulls code).1))), sD9 (Xpr.Kids ((DrawRejectsNulls code).1))]), (86, .arr 1 (.int .i64) (((DrawRejectsNulls code).2.2) : List Int)), (180, .arr 1 (.int .i64) (([] : List Int) : List Int))]⟩ ?_))
   refine AW.seq (AW.seq ?_)
   have hQ := iRejectsNulls_iff.1 (by have h := h12q.2; rw [Xpr.eta] at h; exact h)
   have hQ1 := hQ.1
   have hD := Draw_len code
   refine AW.r1 hC [1, 5, 6, 7, 9, 10] [20, 86, 180] ⟨[(1, sD7 more), (5, .ref 20 1 0), (6, sI ((DrawRejectsNulls code).2.1)), (7, .arr 86 1), (9, .arr 180 1), (10, sI 0)], [(20, .box 1 [sI (Xpr.Kind ((DrawRejectsNulls code).1)), sI (Xpr.Col ((DrawRejectsNulls code).1)), sB (Val.Null (Xpr.V ((DrawRejectsNulls code).1))), sI (Val.N (Xpr.V ((DrawRejectsNulls code).1))), sD9 (Xpr.Kids ((DrawRejectsNulls code).1))]), (86, .arr 1 (.int .i64) (((DrawRejectsNulls code).2.2) : List Int)), (180, .arr 1 (.int .i64) (([] : List Int) : List Int))]⟩ ?_
   refine AW.cutQ (α := (List Int)) (fun x => ⟨[(1, sD7 more), (5, .ref 20 1 0), (6, sI ((DrawRejectsNulls code).2.1)), (7, .arr 86 1), (9, .arr 180 1)], [(20, .box 1 [sI (Xpr.Kind ((DrawRejectsNulls code).1)), sI (Xpr.Col ((DrawRejectsNulls code).1)), sB (Val.Null (Xpr.V ((DrawRejectsNulls code).1))), sI (Val.N (Xpr.V ((DrawRejectsNulls code).1))), sD9 (Xpr.Kids ((DrawRejectsNulls code).1))]), (86, .arr 1 (.int .i64) (((DrawRejectsNulls code).2.2) : List Int)), (180, .arr 1 (.int .i64) (x : List Int))]⟩) (fun x => (True) ∧ (FnRejectsMore_l0 code (Int.toNat (((DrawRejectsNulls code).2.1) - ((0 : Nat) : Int)) + 1) 0 ([] : List Int)) = x) ?_ ?_
   ·
    skip
    refine AW.block (AW.loop (α := Nat × (List Int)) (fun x => ⟨[(1, sD7 more), (5, .ref 20 1 0), (6, sI ((DrawRejectsNulls code).2.1)), (7, .arr 86 1), (9, .arr 180 1), (10, sI ((x.1 : Nat) : Int))], [(20, .box 1 [sI (Xpr.Kind ((DrawRejectsNulls code).1)), sI (Xpr.Col ((DrawRejectsNulls code).1)), sB (Val.Null (Xpr.V ((DrawRejectsNulls code).1))), sI (Val.N (Xpr.V ((DrawRejectsNulls code).1))), sD9 (Xpr.Kids ((DrawRejectsNulls code).1))]), (86, .arr 1 (.int .i64) (((DrawRejectsNulls code).2.2) : List Int)), (180, .arr 1 (.int .i64) (x.2 : List Int))]⟩) (fun x => (List.length x.2 = x.1 ∧ x.1 ≤ 6) ∧ ∃ k, Int.toNat (((DrawRejectsNulls code).2.1) - ((x.1 : Nat) : Int)) < k ∧ (FnRejectsMore_l0 code (Int.toNat (((DrawRejectsNulls code).2.1) - ((0 : Nat) : Int)) + 1) 0 ([] : List Int)) = FnRejectsMore_l0 code k x.1 x.2) (fun x => Int.toNat (((DrawRejectsNulls code).2.1) - ((x.1 : Nat) : Int))) (0, ([] : List Int)) (by kernel_rfl) ⟨?_, _, Nat.lt_succ_self _, rfl⟩ ?_)
    ·
     show List.length ([] : List Int) = 0 ∧ 0 ≤ 6
     exact ⟨rfl, by decide⟩
    ·
     intro x hR
     obtain ⟨i, all⟩ := x
     obtain ⟨hI0, k28, hk26, e27⟩ := hR
     replace hI0 : List.length all = i ∧ i ≤ 6 := hI0
     replace hk26 : Int.toNat (((DrawRejectsNulls code).2.1) - ((i : Nat) : Int)) < k28 := hk26
     obtain ⟨k28q, rfl⟩ : ∃ k, k28 = k + 1 := ⟨k28 - 1, by omega⟩
     refine AW.seq (AW.seq (AW.r1 hC [1, 5, 6, 7, 9, 10, 48] [20, 86, 180] ⟨[(1, sD7 more), (5, .ref 20 1 0), (6, sI ((DrawRejectsNulls code).2.1)), (7, .arr 86 1), (9, .arr 180 1), (10, sI ((i : Nat) : Int)), (48, sB (decide (((i : Nat) : Int) < ((DrawRejectsNulls code).2.1))))], [(20, .box 1 [sI (Xpr.Kind ((DrawRejectsNulls code).1)), sI (Xpr.Col ((DrawRejectsNulls code).1)), sB (Val.Null (Xpr.V ((DrawRejectsNulls code).1))), sI (Val.N (Xpr.V ((DrawRejectsNulls code).1))), sD9 (Xpr.Kids ((DrawRejectsNulls code).1))]), (86, .arr 1 (.int .i64) (((DrawRejectsNulls code).2.2) : List Int)), (180, .arr 1 (.int .i64) (all : List Int))]⟩ ?_))
     refine AW.cd (decide (((i : Nat) : Int) < ((DrawRejectsNulls code).2.1))) ?_ ?_
     ·
      intro h29
      have h29q := (of_decide_eq_true h29)
      have e30 := e27.trans (Go.Am.bif_t h29)
      refine AW.kp [1, 5, 6, 7, 9, 10] [20, 86, 180] ⟨[(1, sD7 more), (5, .ref 20 1 0), (6, sI ((DrawRejectsNulls code).2.1)), (7, .arr 86 1), (9, .arr 180 1), (10, sI ((i : Nat) : Int))], [(20, .box 1 [sI (Xpr.Kind ((DrawRejectsNulls code).1)), sI (Xpr.Col ((DrawRejectsNulls code).1)), sB (Val.Null (Xpr.V ((DrawRejectsNulls code).1))), sI (Val.N (Xpr.V ((DrawRejectsNulls code).1))), sD9 (Xpr.Kids ((DrawRejectsNulls code).1))]), (86, .arr 1 (.int .i64) (((DrawRejectsNulls code).2.2) : List Int)), (180, .arr 1 (.int .i64) (all : List Int))]⟩ ?_
      refine AW.skip (AW.seq (AW.block (AW.r0 hC [1, 5, 6, 7, 9, 10] [20, 86, 180] ⟨[(1, sD7 more), (5, .ref 20 1 0), (6, sI ((DrawRejectsNulls code).2.1)), (7, .arr 86 1), (9, .arr 180 1), (10, sI ((i : Nat) : Int))], [(20, .box 1 [sI (Xpr.Kind ((DrawRejectsNulls code).1)), sI (Xpr.Col ((DrawRejectsNulls code).1)), sB (Val.Null (Xpr.V ((DrawRejectsNulls code).1))), sI (Val.N (Xpr.V ((DrawRejectsNulls code).1))), sD9 (Xpr.Kids ((DrawRejectsNulls code).1))]), (86, .arr 1 (.int .i64) (((DrawRejectsNulls code).2.2) : List Int)), (180, .arr 1 (.int .i64) ((all ++ ([((i : Nat) : Int)] : List Int)) : List Int))]⟩ [(((List.length all : Nat) : Int) + ((List.length ([((i : Nat) : Int)] : List Int) : Nat) : Int) ≤ 4294967296)] ?_ ?_)))
      ·
       refine ⟨?_, trivial⟩
       ·
        first | omega | (simp only [List.nil_append, List.length_append, List.length_cons, List.length_nil]; omega)
      refine AW.r0 hC [1, 5, 6, 7, 9, 10] [20, 86, 180] ⟨[(1, sD7 more), (5, .ref 20 1 0), (6, sI ((DrawRejectsNulls code).2.1)), (7, .arr 86 1), (9, .arr 180 1), (10, sI ((i + 1 : Nat) : Int))], [(20, .box 1 [sI (Xpr.Kind ((DrawRejectsNulls code).1)), sI (Xpr.Col ((DrawRejectsNulls code).1)), sB (Val.Null (Xpr.V ((DrawRejectsNulls code).1))), sI (Val.N (Xpr.V ((DrawRejectsNulls code).1))), sD9 (Xpr.Kids ((DrawRejectsNulls code).1))]), (86, .arr 1 (.int .i64) (((DrawRejectsNulls code).2.2) : List Int)), (180, .arr 1 (.int .i64) ((all ++ ([((i : Nat) : Int)] : List Int)) : List Int))]⟩ [R64 ((i + 1 : Nat) : Int)] ?_ ?_
      ·
       refine ⟨?_, trivial⟩
       ·
        refine R64.of ?_
        first | omega | (simp only [List.nil_append, List.length_append, List.length_cons, List.length_nil]; omega)
      refine AW.back (x := (i, all)) (i + 1, (all ++ ([((i : Nat) : Int)] : List Int))) (by kernel_rfl) ⟨?_, k28q, ?_, e30⟩ ?_
      ·
       show List.length (all ++ ([((i : Nat) : Int)] : List Int)) = (i + 1) ∧ (i + 1) ≤ 6
       simp only [List.length_append, List.length_cons, List.length_nil]
       omega
      ·
       show Int.toNat (((DrawRejectsNulls code).2.1) - (((i + 1) : Nat) : Int)) < k28q
       first | omega | (simp only [lens]; omega)
      ·
       show Int.toNat (((DrawRejectsNulls code).2.1) - (((i + 1) : Nat) : Int)) < Int.toNat (((DrawRejectsNulls code).2.1) - ((i : Nat) : Int))
       first | omega | (simp only [lens]; omega)
     ·
      intro h31
      have h31q := (of_decide_eq_false h31)
      have e32 := e27.trans (Go.Am.bif_f h31)
      refine AW.kp [1, 5, 6, 7, 9] [20, 86, 180] ⟨[(1, sD7 more), (5, .ref 20 1 0), (6, sI ((DrawRejectsNulls code).2.1)), (7, .arr 86 1), (9, .arr 180 1)], [(20, .box 1 [sI (Xpr.Kind ((DrawRejectsNulls code).1)), sI (Xpr.Col ((DrawRejectsNulls code).1)), sB (Val.Null (Xpr.V ((DrawRejectsNulls code).1))), sI (Val.N (Xpr.V ((DrawRejectsNulls code).1))), sD9 (Xpr.Kids ((DrawRejectsNulls code).1))]), (86, .arr 1 (.int .i64) (((DrawRejectsNulls code).2.2) : List Int)), (180, .arr 1 (.int .i64) (all : List Int))]⟩ ?_
      refine AW.exit ?_
      refine AW.meet all (by kernel_rfl) ⟨?_, e32⟩
      show True
      first | assumption | exact trivial | omega
   ·
    intro all hR
    obtain ⟨hJ0, e33⟩ := hR
    replace hJ0 : True := hJ0
    have e34 := e13.trans (Go.Am.then_eq e33)
    refine AW.seq (AW.d0 hC hM [4] [] ⟨[(4, sB (bif (iRejectsNulls (Xpr.mk (Xpr.Kind ((DrawRejectsNulls code).1)) (Xpr.Col ((DrawRejectsNulls code).1)) (Xpr.V ((DrawRejectsNulls code).1)) (Xpr.Kids ((DrawRejectsNulls code).1))) ((DrawRejectsNulls code).2.1) ((([] : List Int) ++ ((DrawRejectsNulls code).2.2)) ++ ([(((List.length more : Nat) : Int) % ((DrawRejectsNulls code).2.1))] : List Int))) then (iRejectsNulls (Xpr.mk (Xpr.Kind ((DrawRejectsNulls code).1)) (Xpr.Col ((DrawRejectsNulls code).1)) (Xpr.V ((DrawRejectsNulls code).1)) (Xpr.Kids ((DrawRejectsNulls code).1))) ((DrawRejectsNulls code).2.1) all) else false))], []⟩ [(0 + ((List.length ((DrawRejectsNulls code).2.2) : Nat) : Int) ≤ 4294967296), (0 ≤ ((List.length more : Nat) : Int) ∧ 0 < ((DrawRejectsNulls code).2.1)), (((List.length (([] : List Int) ++ ((DrawRejectsNulls code).2.2)) : Nat) : Int) + ((List.length ([(((List.length more : Nat) : Int) % ((DrawRejectsNulls code).2.1))] : List Int) : Nat) : Int) ≤ 4294967296), (True), (((iRejectsNulls (Xpr.mk (Xpr.Kind ((DrawRejectsNulls code).1)) (Xpr.Col ((DrawRejectsNulls code).1)) (Xpr.V ((DrawRejectsNulls code).1)) (Xpr.Kids ((DrawRejectsNulls code).1))) ((DrawRejectsNulls code).2.1) ((([] : List Int) ++ ((DrawRejectsNulls code).2.2)) ++ ([(((List.length more : Nat) : Int) % ((DrawRejectsNulls code).2.1))] : List Int))) = true) → (((iRejectsNulls (Xpr.mk (Xpr.Kind ((DrawRejectsNulls code).1)) (Xpr.Col ((DrawRejectsNulls code).1)) (Xpr.V ((DrawRejectsNulls code).1)) (Xpr.Kids ((DrawRejectsNulls code).1))) ((DrawRejectsNulls code).2.1) ((([] : List Int) ++ ((DrawRejectsNulls code).2.2)) ++ ([(((List.length more : Nat) : Int) % ((DrawRejectsNulls code).2.1))] : List Int))) = true))), (((iRejectsNulls (Xpr.mk (Xpr.Kind ((DrawRejectsNulls code).1)) (Xpr.Col ((DrawRejectsNulls code).1)) (Xpr.V ((DrawRejectsNulls code).1)) (Xpr.Kids ((DrawRejectsNulls code).1))) ((DrawRejectsNulls code).2.1) ((([] : List Int) ++ ((DrawRejectsNulls code).2.2)) ++ ([(((List.length more : Nat) : Int) % ((DrawRejectsNulls code).2.1))] : List Int))) = true) → (((iRejectsNulls (Xpr.mk (Xpr.Kind ((DrawRejectsNulls code).1)) (Xpr.Col ((DrawRejectsNulls code).1)) (Xpr.V ((DrawRejectsNulls code).1)) (Xpr.Kids ((DrawRejectsNulls code).1))) ((DrawRejectsNulls code).2.1) ((([] : List Int) ++ ((DrawRejectsNulls code).2.2)) ++ ([(((List.length more : Nat) : Int) % ((DrawRejectsNulls code).2.1))] : List Int))) = true))), (((iRejectsNulls (Xpr.mk (Xpr.Kind ((DrawRejectsNulls code).1)) (Xpr.Col ((DrawRejectsNulls code).1)) (Xpr.V ((DrawRejectsNulls code).1)) (Xpr.Kids ((DrawRejectsNulls code).1))) ((DrawRejectsNulls code).2.1) ((([] : List Int) ++ ((DrawRejectsNulls code).2.2)) ++ ([(((List.length more : Nat) : Int) % ((DrawRejectsNulls code).2.1))] : List Int))) = true) → (((iRejectsNulls (Xpr.mk (Xpr.Kind ((DrawRejectsNulls code).1)) (Xpr.Col ((DrawRejectsNulls code).1)) (Xpr.V ((DrawRejectsNulls code).1)) (Xpr.Kids ((DrawRejectsNulls code).1))) ((DrawRejectsNulls code).2.1) ((([] : List Int) ++ ((DrawRejectsNulls code).2.2)) ++ ([(((List.length more : Nat) : Int) % ((DrawRejectsNulls code).2.1))] : List Int))) = true))), (((iRejectsNulls (Xpr.mk (Xpr.Kind ((DrawRejectsNulls code).1)) (Xpr.Col ((DrawRejectsNulls code).1)) (Xpr.V ((DrawRejectsNulls code).1)) (Xpr.Kids ((DrawRejectsNulls code).1))) ((DrawRejectsNulls code).2.1) ((([] : List Int) ++ ((DrawRejectsNulls code).2.2)) ++ ([(((List.length more : Nat) : Int) % ((DrawRejectsNulls code).2.1))] : List Int))) = true) → (True)), (((iRejectsNulls (Xpr.mk (Xpr.Kind ((DrawRejectsNulls code).1)) (Xpr.Col ((DrawRejectsNulls code).1)) (Xpr.V ((DrawRejectsNulls code).1)) (Xpr.Kids ((DrawRejectsNulls code).1))) ((DrawRejectsNulls code).2.1) ((([] : List Int) ++ ((DrawRejectsNulls code).2.2)) ++ ([(((List.length more : Nat) : Int) % ((DrawRejectsNulls code).2.1))] : List Int))) = true) → (((iRejectsNulls (Xpr.mk (Xpr.Kind ((DrawRejectsNulls code).1)) (Xpr.Col ((DrawRejectsNulls code).1)) (Xpr.V ((DrawRejectsNulls code).1)) (Xpr.Kids ((DrawRejectsNulls code).1))) ((DrawRejectsNulls code).2.1) ((([] : List Int) ++ ((DrawRejectsNulls code).2.2)) ++ ([(((List.length more : Nat) : Int) % ((DrawRejectsNulls code).2.1))] : List Int))) = true)))] ?_ ?_)
    ·
     refine ⟨?_, ?_, ?_, ?_, ?_, ?_, ?_, ?_, ?_, trivial⟩
     ·
      first | omega | (simp only [List.nil_append, List.length_append, List.length_cons, List.length_nil]; omega)
     ·
      first | omega | (simp only [List.nil_append, List.length_append, List.length_cons, List.length_nil]; omega)
     ·
      first | omega | (simp only [List.nil_append, List.length_append, List.length_cons, List.length_nil]; omega)
     ·
      trivial
     ·
      intro g35
      have g35p0 : (iRejectsNulls (Xpr.mk (Xpr.Kind ((DrawRejectsNulls code).1)) (Xpr.Col ((DrawRejectsNulls code).1)) (Xpr.V ((DrawRejectsNulls code).1)) (Xpr.Kids ((DrawRejectsNulls code).1))) ((DrawRejectsNulls code).2.1) ((([] : List Int) ++ ((DrawRejectsNulls code).2.2)) ++ ([(((List.length more : Nat) : Int) % ((DrawRejectsNulls code).2.1))] : List Int))) = true := g35
      first | assumption | exact ⟨by assumption, by assumption⟩
     ·
      intro g36
      have g36p0 : (iRejectsNulls (Xpr.mk (Xpr.Kind ((DrawRejectsNulls code).1)) (Xpr.Col ((DrawRejectsNulls code).1)) (Xpr.V ((DrawRejectsNulls code).1)) (Xpr.Kids ((DrawRejectsNulls code).1))) ((DrawRejectsNulls code).2.1) ((([] : List Int) ++ ((DrawRejectsNulls code).2.2)) ++ ([(((List.length more : Nat) : Int) % ((DrawRejectsNulls code).2.1))] : List Int))) = true := g36
      first | assumption | exact ⟨by assumption, by assumption⟩
     ·
      intro g37
      have g37p0 : (iRejectsNulls (Xpr.mk (Xpr.Kind ((DrawRejectsNulls code).1)) (Xpr.Col ((DrawRejectsNulls code).1)) (Xpr.V ((DrawRejectsNulls code).1)) (Xpr.Kids ((DrawRejectsNulls code).1))) ((DrawRejectsNulls code).2.1) ((([] : List Int) ++ ((DrawRejectsNulls code).2.2)) ++ ([(((List.length more : Nat) : Int) % ((DrawRejectsNulls code).2.1))] : List Int))) = true := g37
      first | assumption | exact ⟨by assumption, by assumption⟩
     ·
      intro g38
      have g38p0 : (iRejectsNulls (Xpr.mk (Xpr.Kind ((DrawRejectsNulls code).1)) (Xpr.Col ((DrawRejectsNulls code).1)) (Xpr.V ((DrawRejectsNulls code).1)) (Xpr.Kids ((DrawRejectsNulls code).1))) ((DrawRejectsNulls code).2.1) ((([] : List Int) ++ ((DrawRejectsNulls code).2.2)) ++ ([(((List.length more : Nat) : Int) % ((DrawRejectsNulls code).2.1))] : List Int))) = true := g38
      trivial
     ·
      intro g39
      have g39p0 : (iRejectsNulls (Xpr.mk (Xpr.Kind ((DrawRejectsNulls code).1)) (Xpr.Col ((DrawRejectsNulls code).1)) (Xpr.V ((DrawRejectsNulls code).1)) (Xpr.Kids ((DrawRejectsNulls code).1))) ((DrawRejectsNulls code).2.1) ((([] : List Int) ++ ((DrawRejectsNulls code).2.2)) ++ ([(((List.length more : Nat) : Int) % ((DrawRejectsNulls code).2.1))] : List Int))) = true := g39
      first | assumption | exact ⟨by assumption, by assumption⟩
    exact AW.ret (AW.rB (bif (iRejectsNulls (Xpr.mk (Xpr.Kind ((DrawRejectsNulls code).1)) (Xpr.Col ((DrawRejectsNulls code).1)) (Xpr.V ((DrawRejectsNulls code).1)) (Xpr.Kids ((DrawRejectsNulls code).1))) ((DrawRejectsNulls code).2.1) ((([] : List Int) ++ ((DrawRejectsNulls code).2.2)) ++ ([(((List.length more : Nat) : Int) % ((DrawRejectsNulls code).2.1))] : List Int))) then (iRejectsNulls (Xpr.mk (Xpr.Kind ((DrawRejectsNulls code).1)) (Xpr.Col ((DrawRejectsNulls code).1)) (Xpr.V ((DrawRejectsNulls code).1)) (Xpr.Kids ((DrawRejectsNulls code).1))) ((DrawRejectsNulls code).2.1) all) else false) e34)

theorem rejects_more {e : Xpr} {w : Int} {nulls nulls' : List Int} (hs : ∀ j : Nat, j < w.toNat → ((j : Nat) : Int) ∈ nulls → ((j : Nat) : Int) ∈ nulls') (h : iRejectsNulls e w nulls = true) : iRejectsNulls e w nulls' = true := by
 obtain ⟨hw, hE, hb⟩ := iRejectsNulls_iff.1 h
 refine iRejectsNulls_iff.2 ⟨hw, hE, ?_⟩
 have hX := nst_VX (nulls := nulls) hw hE
 have hX' := nst_VX (nulls := nulls') hw hE
 have hm := ioutcomes_mono (st := nst w.toNat nulls') (st' := nst w.toNat nulls) (by rw [nst_length, nst_length]) (fun j hj => by
  rw [nst_length] at hj
  rw [nst_getD nulls' hj, nst_getD nulls hj]
  by_cases h1 : ((j : Nat) : Int) ∈ nulls
  ·
   rw [if_pos h1, if_pos (hs j hj h1)]; exact sub_refl (by decide)
  ·
   rw [if_neg h1]
   split <;> (unfold Sub; decide)) (SizeOf.sizeOf e + 1) e hX' hX
 obtain ⟨x, hx⟩ := un8 (ioutcomes_b (SizeOf.sizeOf e + 1) e _ hX')
 obtain ⟨y, hy⟩ := un8 (ioutcomes_b (SizeOf.sizeOf e + 1) e _ hX)
 unfold ioutcomes at hb ⊢
 rw [hx, hy] at hm
 rw [hy] at hb
 rw [hx]
 refine imp2 (rejects_mono8 x y) ?_
 rw [hb, Bool.and_true, beq_iff_eq]
 exact hm

theorem more_loop (code : List Int) : ∀ (k i : Nat) (all : List Int), Int.toNat ((DrawRejectsNulls code).2.1 - ((i : Nat) : Int)) < k → (∀ j : Nat, j < i → ((j : Nat) : Int) ∈ all) →
  ∀ j : Nat, j < Int.toNat (DrawRejectsNulls code).2.1 → ((j : Nat) : Int) ∈ FnRejectsMore_l0 code k i all := by
 intro k
 induction k with
 | zero => intro i all h; omega
 | succ k ih =>
  intro i all h ha
  unfold FnRejectsMore_l0
  by_cases hk : ((i : Nat) : Int) < (DrawRejectsNulls code).2.1
  ·
   rw [show decide (((i : Nat) : Int) < (DrawRejectsNulls code).2.1) = true from decide_eq_true hk, cond_true]
   refine ih _ _ (by omega) (fun j hj => ?_)
   by_cases hji : j = i
   ·
    subst hji; simp
   ·
    exact List.mem_append_left _ (ha j (by omega))
  ·
   rw [show decide (((i : Nat) : Int) < (DrawRejectsNulls code).2.1) = false from decide_eq_false hk, cond_false]
   exact fun j hj => ha j (by omega)

theorem FnRejectsMore_law (code more : List Int) : FnRejectsMore code more = true := by
 unfold FnRejectsMore
 simp only [Xpr.eta]
 rw [RejectsNulls_same, bne_self_eq_false, cond_false]
 cases (bif (decide (1048576 < ((List.length code : Nat) : Int))) then true else (decide (1048576 < ((List.length more : Nat) : Int)))) with
 | true => rfl
 | false =>
  rw [cond_false]
  cases hz : RejectsNulls (DrawRejectsNulls code).1 (DrawRejectsNulls code).2.1 (DrawRejectsNulls code).2.2 with
  | false => rfl
  | true =>
   rw [Bool.not_true, cond_false]
   rw [← RejectsNulls_same] at hz
   simp only [Go.Am.andThen]
   rw [rejects_more (fun j _ h => List.mem_append_left _ (by rw [List.nil_append]; exact h)) hz, cond_true]
   exact rejects_more (fun j hj _ => more_loop code _ 0 [] (Nat.lt_succ_self _) (fun j hj => absurd hj (Nat.not_lt_zero _)) j hj) hz

end
end Go.Proofs.Ytophfihhdelbiaa
