/-
  A part of the proof of this claim (ApI): what functions of the program compute, and plain facts of that. No conditions.
-/
import Derived.Test.YtodcdgolcbdkgaaApF
set_option linter.all false
namespace Go.Proofs.Ytodcdgolcbdkgaa
open Go Go.Am
open Go.Am.AW (seq r1U ret kpU cdE r0U r1 rI r0)
noncomputable section

def widthOf (p : Pln) (ws : List Int) : Int := (bif (!(validWidths ws)) then 0 else (planWidth (Pln.mk (Pln.Kind p) (Pln.Table p) (Pln.Exprs p) (Pln.Cols p) (Pln.Kids p)) ws 8))

def widthOf_sp : FnSpec := mkSpec [.val (.named 2), .val (.slice (.int .i64))] [.val (.int .i64)] (fun (p : Pln) (ws : List Int) => True) (fun (p : Pln) (ws : List Int) => [⟨(.int .i64), (widthOf p ws)⟩])

theorem widthOf_ok : FnOK Try.prog 77 widthOf_sp := by
 have hC : CtxOK Try.prog (mkCtx tyL [(111, validWidths_sp), (112, planWidth_sp)]) := CtxOK.cons validWidths_ok (CtxOK.cons planWidth_ok (CtxOK.nil tyOK)); refine FnOK.of_body Try.func77 (by kernel_rfl) rfl (C := (mkCtx tyL [(111, validWidths_sp), (112, planWidth_sp)])) hC.ty (by kernel_rfl) ?_; intro (p : Pln) (ws : List Int) hwf hpre E; have e0 : widthOf p ws = widthOf p ws := rfl; refine seq (r1U hC [1, 2] [8] [(2, .ref 8 1 0)] [(8, .box 1 [sI (Pln.Kind p), sI (Pln.Table p), sD9 (Pln.Exprs p), sD7 (Pln.Cols p), sD10 (Pln.Kids p)])] ?_); refine seq (seq (r0U hC [1, 2, 7] [8] [(7, sB (!(validWidths ws)))] [] [(True)] ?_ ?_))
 ·
  exact ⟨trivial, trivial⟩
 refine cdE e0 ?_ ?_
 · intro h1q e2; refine seq (r1 hC [4] [] ⟨[(4, sI 0)], []⟩ ?_); exact ret (rI 0 e2)
 ·
  intro h3q e4; refine kpU [1, 2] [8] [] [] ?_; refine AW.skip (seq (r0 hC [4] [] ⟨[(4, sI (planWidth (Pln.mk (Pln.Kind p) (Pln.Table p) (Pln.Exprs p) (Pln.Cols p) (Pln.Kids p)) ws 8))], []⟩ [(VW ws ∧ (0 ≤ (8 : Int) ∧ (8 : Int) ≤ 8))] ?_ ?_))
  ·
   exact ⟨(⟨validWidths_iff.1 h3q, by decide, by decide⟩), trivial⟩
  exact ret (rI _ e4)

def PlanWidth (p : Pln) (ws : List Int) : Int := (widthOf (Pln.mk (Pln.Kind p) (Pln.Table p) (Pln.Exprs p) (Pln.Cols p) (Pln.Kids p)) ws)

def iPlanWidth (p : Pln) (ws : List Int) : Int := (bif (!(ivalidWidths ws)) then 0 else (widthBelow (Pln.mk (Pln.Kind p) (Pln.Table p) (Pln.Exprs p) (Pln.Cols p) (Pln.Kids p)) ws 8))

def iPlanWidth_sp : FnSpec := mkSpec [.val (.named 2), .val (.slice (.int .i64))] [.val (.int .i64)] (fun (p : Pln) (ws : List Int) => True) (fun (p : Pln) (ws : List Int) => [⟨(.int .i64), (iPlanWidth p ws)⟩])

theorem iPlanWidth_ok : FnOK Try.prog 54 iPlanWidth_sp := by
 have hC : CtxOK Try.prog (mkCtx tyL [(94, ivalidWidths_sp), (95, widthBelow_sp)]) := CtxOK.cons ivalidWidths_ok (CtxOK.cons widthBelow_ok (CtxOK.nil tyOK)); refine FnOK.of_body Try.func54 (by kernel_rfl) rfl (C := (mkCtx tyL [(94, ivalidWidths_sp), (95, widthBelow_sp)])) hC.ty (by kernel_rfl) ?_; intro (p : Pln) (ws : List Int) hwf hpre E; have e0 : iPlanWidth p ws = iPlanWidth p ws := rfl; refine seq (r1U hC [1, 2] [8] [(2, .ref 8 1 0)] [(8, .box 1 [sI (Pln.Kind p), sI (Pln.Table p), sD9 (Pln.Exprs p), sD7 (Pln.Cols p), sD10 (Pln.Kids p)])] ?_); refine seq (seq (r0U hC [1, 2, 7] [8] [(7, sB (!(ivalidWidths ws)))] [] [(True)] ?_ ?_))
 ·
  exact ⟨trivial, trivial⟩
 refine cdE e0 ?_ ?_
 · intro h1q e2; refine seq (r1 hC [4] [] ⟨[(4, sI 0)], []⟩ ?_); exact ret (rI 0 e2)
 ·
  intro h3q e4; refine kpU [1, 2] [8] [] [] ?_; refine AW.skip (seq (r0 hC [4] [] ⟨[(4, sI (widthBelow (Pln.mk (Pln.Kind p) (Pln.Table p) (Pln.Exprs p) (Pln.Cols p) (Pln.Kids p)) ws 8))], []⟩ [(VW ws ∧ (0 ≤ (8 : Int) ∧ (8 : Int) ≤ 8))] ?_ ?_))
  ·
   exact ⟨(⟨ivalidWidths_iff.1 h3q, by decide, by decide⟩), trivial⟩
  exact ret (rI _ e4)

theorem PlanWidth_same (p : Pln) (ws : List Int) : iPlanWidth p ws = PlanWidth p ws := by
 unfold iPlanWidth PlanWidth widthOf; simp only [Pln.eta]; (have : ivalidWidths ws = validWidths ws := by rw [Bool.eq_iff_iff, ivalidWidths_iff, validWidths_iff]); rw [this]
 cases validWidths ws with
 | false => rfl
 | true => exact (planWidth_eq ws _ p 8).symm

theorem iPlanWidth_eq (p : Pln) (ws : List Int) : iPlanWidth p ws = widthOf p ws := PlanWidth_same p ws

end
end Go.Proofs.Ytodcdgolcbdkgaa


namespace Go.Proofs.Ytodcdgolcbdkgaa
open Go Go.Am
open Go.Am.AW (seq r1U ret kpU cdE r0U r1 meet rI block rB rS bk exit lpB r0 kp d0U)
open List (length getD set replicate)
noncomputable section

def szIntS (a : List Int) (left : Int) : Int := (bif (decide ((left - (length a : Int)) < 0)) then (-1) else (left - (length a : Int)))

def szIntS_sp : FnSpec := mkSpec [.val (.slice (.int .i64)), .val (.int .i64)] [.val (.int .i64)] (fun (a : List Int) (left : Int) => 0 ≤ left) (fun (a : List Int) (left : Int) => [⟨(.int .i64), (szIntS a left)⟩])

theorem szIntS_ok : FnOK Try.prog 67 szIntS_sp := by
 have hC : CtxOK Try.prog (mkCtx tyL []) := CtxOK.nil tyOK; refine FnOK.of_body Try.func67 (by kernel_rfl) rfl (C := (mkCtx tyL [])) hC.ty (by kernel_rfl) ?_; intro (a : List Int) (left : Int) hwf hpre E; have hpre : 0 ≤ left := hpre; have hw_a : Wf ⟨(.slice (.int .i64)), (a : List Int)⟩ := hwf _ (List.Mem.head _); have hl_a : (length a : Int) ≤ 9223372036854775807 := hw_a.len; have hw_left : Wf ⟨(.int .i64), (left : Int)⟩ := hwf _ (List.Mem.tail _ (List.Mem.head _)); have hr_left : -9223372036854775808 ≤ left ∧ left ≤ 9223372036854775807 := hw_left.int_inv; have e0 : szIntS a left = szIntS a left := rfl; refine seq (r1U hC [0, 1] [] [] [] ?_); refine seq (r0 hC [1] [] ⟨[(1, sI (left - (length a : Int)))], []⟩ [R64 (left - (length a : Int))] ?_ ?_)
 ·
  exact ⟨R64.of (by omega), trivial⟩
 refine seq (seq (r1U hC [1, 10] [] [(10, sB (decide ((left - (length a : Int)) < 0)))] [] ?_)); refine cdE e0 ?_ ?_
 · intro h1q e2; refine seq (r1 hC [4] [] ⟨[(4, sI (-1))], []⟩ ?_); exact ret (rI _ e2)
 · intro h3q e4; refine kpU [1] [] [] [] ?_; refine AW.skip (seq (r1 hC [4] [] ⟨[(4, sI (left - (length a : Int)))], []⟩ ?_)); exact ret (rI _ e4)

def szExprS_l0 (a : List Xpr) : Nat → Int → Nat → Int ⊕ Int
 | 0, left1, i => .inl left1
 | k + 1, left1, i => (bif (decide ((i : Int) < (length a : Int))) then (bif (decide ((szExpr (getD a i Xpr.zero) left1) < 0)) then (.inr (-1)) else (szExprS_l0 a k (szExpr (getD a i Xpr.zero) left1) (i + 1))) else (.inl left1))

def szExprS (a : List Xpr) (left : Int) : Int := (bif (decide ((left - (length a : Int)) < 0)) then (-1) else (Sum.elim (fun z => (fun (left1 : Int) => left1) z) (fun r => r) (szExprS_l0 a ((length a) - 0 + 1) (left - (length a : Int)) 0)))

def szExprS_sp : FnSpec := mkSpec [.val (.slice (.named 1)), .val (.int .i64)] [.val (.int .i64)] (fun (a : List Xpr) (left : Int) => 0 ≤ left) (fun (a : List Xpr) (left : Int) => [⟨(.int .i64), (szExprS a left)⟩])

theorem szExprS_ok : FnOK Try.prog 66 szExprS_sp := by
 have hC : CtxOK Try.prog (mkCtx tyL [(55, szExpr_sp)]) := CtxOK.cons szExpr_ok (CtxOK.nil tyOK); refine FnOK.of_body Try.func66 (by kernel_rfl) rfl (C := (mkCtx tyL [(55, szExpr_sp)])) hC.ty (by kernel_rfl) ?_; intro (a : List Xpr) (left : Int) hwf hpre E; have hpre : 0 ≤ left := hpre; have hw_a : Wf ⟨(.slice (.named 1)), (a : List Xpr)⟩ := hwf _ (List.Mem.head _); have hl_a : (length a : Int) ≤ 9223372036854775807 := hw_a.len; have hw_left : Wf ⟨(.int .i64), (left : Int)⟩ := hwf _ (List.Mem.tail _ (List.Mem.head _)); have hr_left : -9223372036854775808 ≤ left ∧ left ≤ 9223372036854775807 := hw_left.int_inv; have e0 : szExprS a left = szExprS a left := rfl; refine seq (r1U hC [0, 1] [] [] [] ?_); refine seq (r0U hC [0, 1] [] [(1, sI (left - (length a : Int)))] [] [R64 (left - (length a : Int))] ?_ ?_)
 ·
  exact ⟨R64.of (by omega), trivial⟩
 refine seq (seq (r1U hC [0, 1, 11] [] [(11, sB (decide ((left - (length a : Int)) < 0)))] [] ?_)); refine cdE e0 ?_ ?_
 · intro h1q e2; refine seq (r1 hC [4] [] ⟨[(4, sI (-1))], []⟩ ?_); exact ret (rI _ e2)
 ·
  intro h3q e4; refine kpU [0, 1] [] [] [] ?_; refine AW.skip (seq (seq (r1U hC [0, 1, 5] [] [(5, sI 0)] [] ?_))); refine lpB (ζ := Int) (fun x => ⟨[(1, sI x)], []⟩) (fun x => 0 ≤ x) (fun x => (.inl x)) (α := Int × Nat) (fun x => ⟨[(0, sD9 a), (1, sI x.1), (5, sI ((x.2 : Nat) : Int))], []⟩) (fun x => 0 ≤ x.1) (fun x => (length a) - x.2) (fun k x => szExprS_l0 a k x.1 x.2) ((left - (length a : Int)), 0) (by kernel_rfl) ?_ ?_ ?_
  · omega
  ·
   intro x k37q hI0 hk35 e36; obtain ⟨left1, i⟩ := x; dsimp only at e36; refine seq (seq (r1U hC [0, 1, 5, 15] [] [(15, sB (decide ((i : Int) < (length a : Int))))] [] ?_)); refine cdE e36 ?_ ?_
   ·
    intro h38q e39; refine kpU [0, 1, 5] [] [] [] ?_; refine AW.skip (seq (block (seq (r0U hC [0, 1, 5] [] [(1, sI (szExpr (getD a i Xpr.zero) left1))] [] [IX (i : Int) (length a : Int), (0 ≤ left1)] ?_ ?_))))
    ·
     exact ⟨IX.of (by omega), (by omega), trivial⟩
    refine seq (AW.wf_int (s := 1) (k := .i64) (n := (szExpr (getD a i Xpr.zero) left1)) (by kernel_rfl) fun hw40 => ?_); replace hw40 : -9223372036854775808 ≤ (szExpr (getD a i Xpr.zero) left1) ∧ (szExpr (getD a i Xpr.zero) left1) ≤ 9223372036854775807 := hw40; refine r1U hC [0, 1, 5, 25] [] [(25, sB (decide ((szExpr (getD a i Xpr.zero) left1) < 0)))] [] ?_; refine cdE e39 ?_ ?_
    · intro h41q e42; refine seq (r1 hC [4] [] ⟨[(4, sI (-1))], []⟩ ?_); refine ret ?_; have e43 := e4.trans (elim_r e42); exact rI _ e43
    ·
     intro h44q e45; refine kpU [0, 1, 5] [] [] [] ?_; refine AW.skip (r0U hC [0, 1, 5] [] [(5, sI ((i + 1 : Nat) : Int))] [] [R64 ((i + 1 : Nat) : Int)] ?_ ?_)
     ·
      exact ⟨R64.of (by omega), trivial⟩
     refine bk ((szExpr (getD a i Xpr.zero) left1), i + 1) e45 hk35 ?_ ?_
     · omega
     · omega
   · intro h46q e47; refine kpU [1] [] [] [] ?_; refine exit ?_; refine meet left1 (by kernel_rfl) ⟨?_, e47⟩; assumption
  · intro left1 hJ0 e48; have e49 := e4.trans (elim_l e48); dsimp only at e49; refine seq (r1 hC [4] [] ⟨[(4, sI left1)], []⟩ ?_); exact ret (rI _ e49)

def szPlan_l0 (self : Pln → Int → Int) (a : Pln) : Nat → Int → Nat → Int ⊕ Int
 | 0, left1, i => .inl left1
 | k + 1, left1, i => (bif (decide ((i : Int) < (length (Pln.Kids a) : Int))) then (bif (decide ((self (getD (Pln.Kids a) i Pln.zero) left1) < 0)) then (.inr (-1)) else (szPlan_l0 self a k (self (getD (Pln.Kids a) i Pln.zero) left1) (i + 1))) else (.inl left1))

def szPlan_c0 (self : Pln → Int → Int) (a : Pln) (left : Int) : Int :=
 (bif (decide (((szIntS (Pln.Cols a) (szExprS (Pln.Exprs a) left)) - (length (Pln.Kids a) : Int)) < 0)) then (-1) else (Sum.elim (fun z => (fun (left1 : Int) => left1) z) (fun r => r) (szPlan_l0 self a ((length (Pln.Kids a)) - 0 + 1) ((szIntS (Pln.Cols a) (szExprS (Pln.Exprs a) left)) - (length (Pln.Kids a) : Int)) 0)))

def szPlan_r : Nat → Pln → Int → Int
 | 0, a, left => 0
 | fuel + 1, a, left => (bif (decide ((szExprS (Pln.Exprs a) left) < 0)) then (-1) else (bif (decide ((szIntS (Pln.Cols a) (szExprS (Pln.Exprs a) left)) < 0)) then (-1) else (andThen (szPlan_c0 (szPlan_r fuel) a left) (fun z => (fun (v20 : Int) => (bif (decide (v20 < 0)) then (-1) else v20)) z))))

def szPlan (a : Pln) (left : Int) : Int := szPlan_r (SizeOf.sizeOf a + 1) a left

def szPlan_spn (fuel : Nat) : FnSpec := mkSpec [.val (.named 2), .val (.int .i64)] [.val (.int .i64)] (fun (a : Pln) (left : Int) => (0 ≤ left) ∧ SizeOf.sizeOf a < fuel) (fun (a : Pln) (left : Int) => [⟨(.int .i64), (szPlan_r fuel a left)⟩])

def szPlan_sp : FnSpec := mkSpec [.val (.named 2), .val (.int .i64)] [.val (.int .i64)] (fun (a : Pln) (left : Int) => 0 ≤ left) (fun (a : Pln) (left : Int) => [⟨(.int .i64), (szPlan a left)⟩])

theorem szPlan_okn (fuel : Nat) : FnOK Try.prog 15 (szPlan_spn fuel) := by
 induction fuel with
 | zero => exact FnOK.never Try.func15 (by kernel_rfl) rfl (fun _ _ h => absurd h.2 (Nat.not_lt_zero _))
 | succ fuel ih => ?_
 have hC : CtxOK Try.prog (mkCtx tyL [(15, (szPlan_spn fuel)), (66, szExprS_sp), (67, szIntS_sp)]) := CtxOK.cons ih (CtxOK.cons szExprS_ok (CtxOK.cons szIntS_ok (CtxOK.nil tyOK))); have hC1 := hC.rebase 1000; refine FnOK.of_body Try.func15 (by kernel_rfl) rfl (C := (mkCtx tyL [(15, (szPlan_spn fuel)), (66, szExprS_sp), (67, szIntS_sp)])) hC.ty (by kernel_rfl) ?_; intro (a : Pln) (left : Int) hwf hpre E; have hpre : (0 ≤ left) ∧ SizeOf.sizeOf a < fuel + 1 := hpre; have hw_a : Wf ⟨(.named 2), (a : Pln)⟩ := hwf _ (List.Mem.head _); obtain ⟨hr_a_Kind, hr_a_Table, hl_a_Exprs, hl_a_Cols, hl_a_Kids⟩ := Pln.wfl hw_a; have hw_left : Wf ⟨(.int .i64), (left : Int)⟩ := hwf _ (List.Mem.tail _ (List.Mem.head _)); have hr_left : -9223372036854775808 ≤ left ∧ left ≤ 9223372036854775807 := hw_left.int_inv; have e0 : szPlan_r (fuel + 1) a left = szPlan_r (fuel + 1) a left := rfl; refine seq (r1U hC [1, 2] [8] [(2, .ref 8 1 0)] [(8, .box 1 [sI (Pln.Kind a), sI (Pln.Table a), sD9 (Pln.Exprs a), sD7 (Pln.Cols a), sD10 (Pln.Kids a)])] ?_); refine seq (r0U hC [1, 2] [8] [(1, sI (szExprS (Pln.Exprs a) left))] [] [(0 ≤ left)] ?_ ?_)
 ·
  exact ⟨(by omega), trivial⟩
 refine seq (seq (r1U hC [1, 2, 10] [8] [(10, sB (decide ((szExprS (Pln.Exprs a) left) < 0)))] [] ?_)); refine cdE e0 ?_ ?_
 · intro h1q e2; refine seq (r1 hC [4] [] ⟨[(4, sI (-1))], []⟩ ?_); exact ret (rI _ e2)
 ·
  intro h3q e4; refine kpU [1, 2] [8] [] [] ?_; refine AW.skip (seq (r0U hC [1, 2] [8] [(1, sI (szIntS (Pln.Cols a) (szExprS (Pln.Exprs a) left)))] [] [(0 ≤ (szExprS (Pln.Exprs a) left))] ?_ ?_))
  ·
   exact ⟨(by omega), trivial⟩
  refine seq (seq (r1U hC [1, 2, 16] [8] [(16, sB (decide ((szIntS (Pln.Cols a) (szExprS (Pln.Exprs a) left)) < 0)))] [] ?_)); refine cdE e4 ?_ ?_
  · intro h5q e6; refine seq (r1 hC [4] [] ⟨[(4, sI (-1))], []⟩ ?_); exact ret (rI _ e6)
  ·
   intro h7q e8; refine kpU [1, 2] [8] [] [] ?_; refine AW.skip (seq (AW.regionO [0, 1, 2, 3, 4] (by rfl) ?_))
   refine AWO.run hC false [] [0, 1, 2] [3, 4] [18, 19] []
    ⟨[(18, sD10 (Pln.Kids a)), (19, sI (szIntS (Pln.Cols a) (szExprS (Pln.Exprs a) left)))], []⟩
    [] (by rfl) (by kernel_rfl) ?_ ?_
   · exact trivial
   refine AWO.callJ hC.ty [20] [] (α := Int) (fun x => ⟨[(20, sI x)], []⟩) (fun x => (True) ∧ (szPlan_c0 (szPlan_r fuel) a left) = x) (vs := [sD10 (Pln.Kids a), sI (szIntS (Pln.Cols a) (szExprS (Pln.Exprs a) left))]) (caps := []) (by rfl) rfl (.inl rfl) (by decide) (by kernel_rfl) (by kernel_rfl) Try.func23 (by kernel_rfl) rfl (by kernel_rfl) ?_ ?_
   ·
    intro o1 ho1; have e105 : (szPlan_c0 (szPlan_r fuel) a left) = (szPlan_c0 (szPlan_r fuel) a left) := rfl; refine kpU [0, 1] [] [] [] ?_; refine seq (r1U hC1 [0, 1] [] [] [] ?_); refine seq (AW.wf_int (s := 1) (k := .i64) (n := (szIntS (Pln.Cols a) (szExprS (Pln.Exprs a) left))) (by kernel_rfl) fun hw106 => ?_); replace hw106 : -9223372036854775808 ≤ (szIntS (Pln.Cols a) (szExprS (Pln.Exprs a) left)) ∧ (szIntS (Pln.Cols a) (szExprS (Pln.Exprs a) left)) ≤ 9223372036854775807 := hw106; refine r0U hC1 [0, 1] [] [(1, sI ((szIntS (Pln.Cols a) (szExprS (Pln.Exprs a) left)) - (length (Pln.Kids a) : Int)))] [] [R64 ((szIntS (Pln.Cols a) (szExprS (Pln.Exprs a) left)) - (length (Pln.Kids a) : Int))] ?_ ?_
    ·
     exact ⟨R64.of (by omega), trivial⟩
    refine seq (seq (r1U hC1 [0, 1, 11] [] [(11, sB (decide (((szIntS (Pln.Cols a) (szExprS (Pln.Exprs a) left)) - (length (Pln.Kids a) : Int)) < 0)))] [] ?_)); refine cdE e105 ?_ ?_
    · intro h107q e108; refine seq (r1 hC1 [4] [] ⟨[(4, sI (-1))], []⟩ ?_); refine ret ?_; refine ⟨(-1), [sI (-1)], by kernel_rfl, by kernel_rfl, ?_, e108⟩; exact trivial
    ·
     intro h109q e110; refine kpU [0, 1] [] [] [] ?_; refine AW.skip (seq (seq (r1U hC1 [0, 1, 5] [] [(5, sI 0)] [] ?_))); refine lpB (ζ := Int) (fun x => ⟨[(1, sI x)], []⟩) (fun x => 0 ≤ x) (fun x => (.inl x)) (α := Int × Nat) (fun x => ⟨[(0, sD10 (Pln.Kids a)), (1, sI x.1), (5, sI ((x.2 : Nat) : Int))], []⟩) (fun x => 0 ≤ x.1) (fun x => (length (Pln.Kids a)) - x.2) (fun k x => szPlan_l0 (szPlan_r fuel) a k x.1 x.2) (((szIntS (Pln.Cols a) (szExprS (Pln.Exprs a) left)) - (length (Pln.Kids a) : Int)), 0) (by kernel_rfl) ?_ ?_ ?_
     · omega
     ·
      intro x k143q hI0 hk141 e142; obtain ⟨left1, i⟩ := x; dsimp only at e142; refine seq (seq (r1U hC1 [0, 1, 5, 15] [] [(15, sB (decide ((i : Int) < (length (Pln.Kids a) : Int))))] [] ?_)); refine cdE e142 ?_ ?_
      ·
       intro h144q e145; refine kpU [0, 1, 5] [] [] [] ?_; refine AW.skip (seq (block (seq (r0U hC1 [0, 1, 5] [] [(1, sI ((szPlan_r fuel) (getD (Pln.Kids a) i Pln.zero) left1))] [] [IX (i : Int) (length (Pln.Kids a) : Int), ((0 ≤ left1) ∧ SizeOf.sizeOf (getD (Pln.Kids a) i Pln.zero) < fuel)] ?_ ?_))))
       ·
        exact ⟨IX.of (by omega), (⟨by omega, Nat.lt_of_lt_of_le (pkid_lt (by omega)) (Nat.le_of_lt_succ hpre.2)⟩), trivial⟩
       refine seq (AW.wf_int (s := 1) (k := .i64) (n := ((szPlan_r fuel) (getD (Pln.Kids a) i Pln.zero) left1)) (by kernel_rfl) fun hw146 => ?_); replace hw146 : -9223372036854775808 ≤ ((szPlan_r fuel) (getD (Pln.Kids a) i Pln.zero) left1) ∧ ((szPlan_r fuel) (getD (Pln.Kids a) i Pln.zero) left1) ≤ 9223372036854775807 := hw146; refine r1U hC1 [0, 1, 5, 25] [] [(25, sB (decide (((szPlan_r fuel) (getD (Pln.Kids a) i Pln.zero) left1) < 0)))] [] ?_; refine cdE e145 ?_ ?_
       · intro h147q e148; refine seq (r1 hC1 [4] [] ⟨[(4, sI (-1))], []⟩ ?_); refine ret ?_; have e149 := e110.trans (elim_r e148); refine ⟨(-1), [sI (-1)], by kernel_rfl, by kernel_rfl, ?_, e149⟩; exact trivial
       ·
        intro h150q e151; refine kpU [0, 1, 5] [] [] [] ?_; refine AW.skip (r0U hC1 [0, 1, 5] [] [(5, sI ((i + 1 : Nat) : Int))] [] [R64 ((i + 1 : Nat) : Int)] ?_ ?_)
        ·
         exact ⟨R64.of (by omega), trivial⟩
        refine bk (((szPlan_r fuel) (getD (Pln.Kids a) i Pln.zero) left1), i + 1) e151 hk141 ?_ ?_
        · omega
        · omega
      · intro h152q e153; refine kpU [1] [] [] [] ?_; refine exit ?_; refine meet left1 (by kernel_rfl) ⟨?_, e153⟩; assumption
     · intro left1 hJ0 e154; have e155 := e110.trans (elim_l e154); dsimp only at e155; refine seq (r1 hC1 [4] [] ⟨[(4, sI left1)], []⟩ ?_); refine ret ?_; refine ⟨left1, [sI left1], by kernel_rfl, by kernel_rfl, ?_, e155⟩; exact trivial
   ·
    intro v20 hR; obtain ⟨hK0, e156⟩ := hR; have e157 := e8.trans (then_eq e156); dsimp only at e157
    refine AWO.run hC false [] [4] [] [1] []
     ⟨[(1, sI v20)], []⟩
     [] (by rfl) (by kernel_rfl) ?_ ?_
    · exact trivial
    refine AWO.nil ?_; refine seq (seq (r1U hC [1, 22] [] [(22, sB (decide (v20 < 0)))] [] ?_)); refine cdE e157 ?_ ?_
    · intro h158q e159; refine seq (r1 hC [4] [] ⟨[(4, sI (-1))], []⟩ ?_); exact ret (rI _ e159)
    · intro h160q e161; refine kpU [1] [] [] [] ?_; refine AW.skip (seq (r1 hC [4] [] ⟨[(4, sI v20)], []⟩ ?_)); exact ret (rI _ e161)

theorem szPlan_fu : AllTV (szPlan_sp.ps.map PK.ty) (fun tvs => szPlan_sp.pre tvs → ∃ k, (szPlan_spn k).pre tvs ∧ (szPlan_spn k).fn tvs = szPlan_sp.fn tvs ∧ (szPlan_spn k).bx tvs = szPlan_sp.bx tvs) :=
 (fun (a : Pln) (left : Int) h => ⟨SizeOf.sizeOf a + 1, (show (0 ≤ left) ∧ SizeOf.sizeOf a < SizeOf.sizeOf a + 1 from ⟨h, Nat.lt_succ_self _⟩), (show (szPlan_spn (SizeOf.sizeOf a + 1)).fn [⟨(.named 2), (a : Pln)⟩, ⟨(.int .i64), (left : Int)⟩] = ([⟨(.int .i64), (szPlan_r (SizeOf.sizeOf a + 1) a left)⟩] : List TV) from by kernel_rfl).trans (show ([⟨(.int .i64), (szPlan_r (SizeOf.sizeOf a + 1) a left)⟩] : List TV) = szPlan_sp.fn [⟨(.named 2), (a : Pln)⟩, ⟨(.int .i64), (left : Int)⟩] from by kernel_rfl), by kernel_rfl⟩)

theorem szPlan_ok : FnOK Try.prog 15 szPlan_sp := FnOK.of_fuel szPlan_okn (fun _ => rfl) (fun _ => rfl) (AllTV.get szPlan_fu)

theorem szIntS_le {a : List Int} {l : Int} (h : ¬ szIntS a l < 0) : (length a : Int) ≤ l ∧ szIntS a l ≤ l := by
 unfold szIntS at *; by_cases e : l - (length a : Int) < 0
 · rw [show decide (l - (length a : Int) < 0) = true by simp [e], cond_true] at h; omega
 · rw [show decide (l - (length a : Int) < 0) = false by simp; omega, cond_false] at *; omega

theorem szExpr_le (t : Xpr) {l : Int} (h : 0 ≤ l) : szExpr t l ≤ l := sz_le _ t l h

theorem szExprS_loop (a : List Xpr) : ∀ (k : Nat) (left : Int) (i : Nat), a.length - i < k → 0 ≤ left → left ≤ 1048576 → 0 ≤ Sum.elim (fun z => (fun (left1 : Int) => left1) z) (fun r => r) (szExprS_l0 a k left i) →
  Sum.elim (fun z => (fun (left1 : Int) => left1) z) (fun r => r) (szExprS_l0 a k left i) ≤ left ∧ ∀ j, i ≤ j → j < a.length → Fits (a.getD j Xpr.zero) := by
 intro k
 induction k with
 | zero => intro left i h; omega
 | succ k ih =>
  intro left i h h1 h2 h3; unfold szExprS_l0 at h3 ⊢; by_cases hi : i < a.length
  ·
   rw [lt_dec hi, cond_true] at h3 ⊢; by_cases hn : szExpr (a.getD i Xpr.zero) left < 0
   · rw [decide_eq_true hn] at h3; exact absurd h3 (by simp only [cond_true, Sum.elim_inr]; decide)
   ·
    rw [decide_eq_false hn, cond_false] at h3 ⊢; have hle := szExpr_le (a.getD i Xpr.zero) h1; obtain ⟨b1, b2⟩ := ih _ (i + 1) (by omega) (by omega) (by omega) h3; refine ⟨by omega, fun j hj hjl => ?_⟩; rcases Nat.eq_or_lt_of_le hj with rfl | hj
    · exact Fits.of ⟨h1, h2⟩ hn
    · exact b2 j (by omega) hjl
  · rw [ge_dec hi, cond_false]; exact ⟨Int.le_refl _, fun j hj hjl => by omega⟩

structure FitS (a : List Xpr) : Prop where
 len : (a.length : Int) ≤ 1048576
 el : ∀ j, j < a.length → Fits (a.getD j Xpr.zero)

theorem szExprS_le {a : List Xpr} {l : Int} (hl : 0 ≤ l ∧ l ≤ 1048576) (h : ¬ szExprS a l < 0) : szExprS a l ≤ l ∧ FitS a := by
 unfold szExprS at *; by_cases e : l - (length a : Int) < 0
 · rw [decide_eq_true e, cond_true] at h; omega
 · rw [decide_eq_false e, cond_false] at *; obtain ⟨a1, a2⟩ := szExprS_loop a _ _ 0 (by omega) (by omega) (by omega) (Int.not_lt.1 h); exact ⟨by omega, by omega, fun j hj => a2 j (by omega) hj⟩

theorem szExprS_ub {a : List Xpr} {l : Int} (h : 0 ≤ l) : szExprS a l ≤ l := by
 have key : ∀ (k : Nat) (left : Int) (i : Nat), 0 ≤ left → left ≤ l → Sum.elim (fun z => (fun (left1 : Int) => left1) z) (fun r => r) (szExprS_l0 a k left i) ≤ l := by
  intro k
  induction k with
  | zero => intro left i _ h2; exact h2
  | succ k ihk =>
   intro left i h1 h2; unfold szExprS_l0
   cases decide ((i : Int) < (length a : Int)) with
   | false => exact h2
   | true =>
    simp only [cond_true]; by_cases hn : szExpr (getD a i Xpr.zero) left < 0
    · rw [decide_eq_true hn]; simp only [cond_true, Sum.elim_inr]; omega
    · rw [decide_eq_false hn, cond_false]; have := szExpr_le (getD a i Xpr.zero) h1; exact ihk _ _ (by omega) (by omega)
 unfold szExprS; by_cases e : l - (length a : Int) < 0
 · rw [decide_eq_true e, cond_true]; omega
 · rw [decide_eq_false e, cond_false]; exact key _ _ _ (by omega) (by omega)

theorem szP_le : ∀ (f : Nat) (t : Pln) (l : Int), 0 ≤ l → szPlan_r f t l ≤ l := by
 intro f
 induction f with
 | zero => intro t l h; exact h
 | succ f ih =>
  intro t l h
  have hl : ∀ (k : Nat) (left : Int) (i : Nat), 0 ≤ left → left ≤ l → Sum.elim (fun z => (fun (left1 : Int) => left1) z) (fun r => r) (szPlan_l0 (szPlan_r f) t k left i) ≤ l := by
   intro k
   induction k with
   | zero => intro left i _ h2; exact h2
   | succ k ihk =>
    intro left i h1 h2; unfold szPlan_l0
    cases decide ((i : Int) < (length (Pln.Kids t) : Int)) with
    | false => exact h2
    | true =>
     simp only [cond_true]; by_cases hn : szPlan_r f (getD (Pln.Kids t) i Pln.zero) left < 0
     · rw [decide_eq_true hn]; simp only [cond_true, Sum.elim_inr]; omega
     · rw [decide_eq_false hn, cond_false]; have := ih (getD (Pln.Kids t) i Pln.zero) left h1; exact ihk _ _ (by omega) (by omega)
  have h1 := szExprS_ub (a := t.Exprs) h; simp only [szPlan_r, andThen]; by_cases n1 : szExprS t.Exprs l < 0
  · rw [decide_eq_true n1, cond_true]; omega
  ·
   rw [decide_eq_false n1, cond_false]; by_cases n2 : szIntS t.Cols (szExprS t.Exprs l) < 0
   · rw [decide_eq_true n2, cond_true]; omega
   ·
    rw [decide_eq_false n2, cond_false]; have h2 := szIntS_le n2
    have hc : szPlan_c0 (szPlan_r f) t l ≤ l := by
     unfold szPlan_c0; by_cases hn : szIntS t.Cols (szExprS t.Exprs l) - (length (Pln.Kids t) : Int) < 0
     · rw [decide_eq_true hn, cond_true]; omega
     · rw [decide_eq_false hn, cond_false]; exact hl _ _ _ (by omega) (by omega)
    by_cases hn : szPlan_c0 (szPlan_r f) t l < 0
    · rw [decide_eq_true hn, cond_true]; omega
    · rw [decide_eq_false hn, cond_false]; exact hc

def FitsP (a : Pln) : Prop := ∃ f l, SizeOf.sizeOf a < f ∧ (0 ≤ l ∧ l ≤ 1048576) ∧ 0 ≤ szPlan_r f a l

theorem FitsP.of {a : Pln} {l : Int} (hl : 0 ≤ l ∧ l ≤ 1048576) (h : ¬ szPlan a l < 0) : FitsP a := ⟨SizeOf.sizeOf a + 1, l, Nat.lt_succ_self _, hl, by unfold szPlan at h; omega⟩

structure PF (a : Pln) : Prop where
 exprs : FitS a.Exprs
 cols : (a.Cols.length : Int) ≤ 1048576
 kids : (a.Kids.length : Int) ≤ 1048576
 el : ∀ i, i < a.Kids.length → FitsP (getD a.Kids i Pln.zero)

theorem FitsP.parts {a : Pln} (h : FitsP a) : PF a := by
 obtain ⟨f, l, hf, hl, h0⟩ := h
 cases f with
 | zero => omega
 | succ f =>
  simp only [szPlan_r, andThen] at h0; by_cases n1 : szExprS a.Exprs l < 0
  · rw [decide_eq_true n1, cond_true] at h0; omega
  ·
   rw [decide_eq_false n1, cond_false] at h0; obtain ⟨x1, x2⟩ := szExprS_le hl n1; by_cases n2 : szIntS a.Cols (szExprS a.Exprs l) < 0
   · rw [decide_eq_true n2, cond_true] at h0; omega
   ·
    rw [decide_eq_false n2, cond_false] at h0; have x3 := szIntS_le n2
    have hc : 0 ≤ szPlan_c0 (szPlan_r f) a l := by
     by_cases hn : szPlan_c0 (szPlan_r f) a l < 0
     · rw [decide_eq_true hn, cond_true] at h0; omega
     · omega
    unfold szPlan_c0 at hc; by_cases hn : szIntS a.Cols (szExprS a.Exprs l) - (length (Pln.Kids a) : Int) < 0
    · rw [decide_eq_true hn, cond_true] at hc; omega
    ·
     rw [decide_eq_false hn, cond_false] at hc; refine ⟨x2, by omega, by omega, ?_⟩
     have key : ∀ (k : Nat) (left : Int) (i : Nat), a.Kids.length - i < k → 0 ≤ left → left ≤ l → 0 ≤ Sum.elim (fun z => (fun (left1 : Int) => left1) z) (fun r => r) (szPlan_l0 (szPlan_r f) a k left i) →
       ∀ j, i ≤ j → j < a.Kids.length → FitsP (getD a.Kids j Pln.zero) := by
      intro k
      induction k with
      | zero => intro left i hk; omega
      | succ k ihk =>
       intro left i hk h1 h2 h3 j hj hjl; unfold szPlan_l0 at h3; rw [lt_dec (show i < a.Kids.length by omega), cond_true] at h3; by_cases hn : szPlan_r f (getD (Pln.Kids a) i Pln.zero) left < 0
       · rw [decide_eq_true hn] at h3; simp only [cond_true, Sum.elim_inr] at h3; exact absurd h3 (by decide)
       ·
        rw [decide_eq_false hn, cond_false] at h3; rcases Nat.eq_or_lt_of_le hj with rfl | hj
        · exact ⟨f, left, Nat.lt_of_lt_of_le (pkid_lt hjl) (Nat.le_of_lt_succ hf), ⟨h1, by omega⟩, by omega⟩
        · have := szP_le f (getD (Pln.Kids a) i Pln.zero) left h1; exact ihk _ _ (by omega) (by omega) (by omega) h3 j hj hjl
     exact fun i hi => key _ _ 0 (by omega) (by omega) (by omega) hc i (Nat.zero_le _) hi

def eqExprS_l0 (a : List Xpr) (b : List Xpr) : Nat → Nat → Unit ⊕ Bool
 | 0, i => .inl ()
 | k + 1, i => (bif (decide ((i : Int) < (length a : Int))) then (bif (!(eqExpr (getD a i Xpr.zero) (getD b i Xpr.zero))) then (.inr false) else (eqExprS_l0 a b k (i + 1))) else (.inl ()))

def eqExprS (a : List Xpr) (b : List Xpr) : Bool := (bif ((length a : Int) != (length b : Int)) then false else (Sum.elim (fun _ => true) (fun r => r) (eqExprS_l0 a b ((length a) - 0 + 1) 0)))

def eqExprS_sp : FnSpec := mkSpec [.val (.slice (.named 1)), .val (.slice (.named 1))] [.val .bool] (fun (a : List Xpr) (b : List Xpr) => True) (fun (a : List Xpr) (b : List Xpr) => [⟨.bool, (eqExprS a b)⟩])

theorem eqExprS_ok : FnOK Try.prog 74 eqExprS_sp := by
 have hC : CtxOK Try.prog (mkCtx tyL [(59, eqExpr_sp)]) := CtxOK.cons eqExpr_ok (CtxOK.nil tyOK); have hM : Try.prog.follows .mixedOrders = true := Try.checked.mixed; refine FnOK.of_body Try.func74 (by kernel_rfl) rfl (C := (mkCtx tyL [(59, eqExpr_sp)])) hC.ty (by kernel_rfl) ?_; intro (a : List Xpr) (b : List Xpr) hwf hpre E; have hpre : True := hpre; have hw_a : Wf ⟨(.slice (.named 1)), (a : List Xpr)⟩ := hwf _ (List.Mem.head _); have hl_a : (length a : Int) ≤ 9223372036854775807 := hw_a.len; have hw_b : Wf ⟨(.slice (.named 1)), (b : List Xpr)⟩ := hwf _ (List.Mem.tail _ (List.Mem.head _)); have hl_b : (length b : Int) ≤ 9223372036854775807 := hw_b.len; have e0 : eqExprS a b = eqExprS a b := rfl; refine seq (r1U hC [0, 1] [] [] [] ?_); refine seq (seq (r1U hC [0, 1, 10] [] [(10, sB ((length a : Int) != (length b : Int)))] [] ?_)); refine cdE e0 ?_ ?_
 · intro h1q e2; refine seq (r1 hC [4] [] ⟨[(4, sB false)], []⟩ ?_); exact ret (rB _ e2)
 ·
  intro h3q e4; refine kpU [0, 1] [] [] [] ?_; refine AW.skip (seq (seq (r1U hC [0, 1, 5] [] [(5, sI 0)] [] ?_))); refine lpB (ζ := Unit) (fun x => ⟨[], []⟩) (fun x => True) (fun x => (.inl ())) (α := Nat) (fun x => ⟨[(0, sD9 a), (1, sD9 b), (5, sI (x : Int))], []⟩) (fun x => True) (fun x => (length a) - x) (fun k x => eqExprS_l0 a b k x) 0 (by kernel_rfl) ?_ ?_ ?_
  · exact trivial
  ·
   intro i k34q hI0 hk32 e33; refine seq (seq (r1U hC [0, 1, 5, 14] [] [(14, sB (decide ((i : Int) < (length a : Int))))] [] ?_)); refine cdE e33 ?_ ?_
   ·
    intro h35q e36; refine kpU [0, 1, 5] [] [] [] ?_; refine AW.skip (seq (block (seq (d0U hC hM [0, 1, 5, 26] [] [(26, sB (!(eqExpr (getD a i Xpr.zero) (getD b i Xpr.zero))))] [] [IX (i : Int) (length a : Int), IX (i : Int) (length b : Int), (True)] ?_ ?_))))
    ·
     exact ⟨IX.of (by omega), IX.of (by omega), trivial, trivial⟩
    refine cdE e36 ?_ ?_
    · intro h37q e38; refine seq (r1 hC [4] [] ⟨[(4, sB false)], []⟩ ?_); refine ret ?_; have e39 := e4.trans (elim_r e38); exact rB _ e39
    ·
     intro h40q e41; refine kpU [0, 1, 5] [] [] [] ?_; refine AW.skip (r0U hC [0, 1, 5] [] [(5, sI ((i + 1 : Nat) : Int))] [] [R64 ((i + 1 : Nat) : Int)] ?_ ?_)
     ·
      exact ⟨R64.of (by omega), trivial⟩
     refine bk (i + 1) e41 hk32 ?_ ?_
     · assumption
     · omega
   · intro h42q e43; refine kp [] [] ⟨[], []⟩ ?_; refine exit ?_; refine meet () (by kernel_rfl) ⟨?_, e43⟩; assumption
  · intro x hJ0 e44; have e45 := e4.trans (elim_l e44); refine seq (r1 hC [4] [] ⟨[(4, sB true)], []⟩ ?_); exact ret (rB _ e45)

def eqPlan_l0 (self : Pln → Pln → Bool) (a : Pln) (b : Pln) : Nat → Nat → Unit ⊕ Bool
 | 0, i => .inl ()
 | k + 1, i => (bif (decide ((i : Int) < (length (Pln.Kids a) : Int))) then (bif (!(self (getD (Pln.Kids a) i Pln.zero) (getD (Pln.Kids b) i Pln.zero))) then (.inr false) else (eqPlan_l0 self a b k (i + 1))) else (.inl ()))

def eqPlan_c0 (self : Pln → Pln → Bool) (a : Pln) (b : Pln) : Bool :=
 (bif ((length (Pln.Kids a) : Int) != (length (Pln.Kids b) : Int)) then false else (Sum.elim (fun _ => true) (fun r => r) (eqPlan_l0 self a b ((length (Pln.Kids a)) - 0 + 1) 0)))

def eqPlan_r : Nat → Pln → Pln → Bool
 | 0, a, b => false
 | fuel + 1, a, b => (bif ((Pln.Kind a) != (Pln.Kind b)) then false else (bif ((Pln.Table a) != (Pln.Table b)) then false else (bif (!(eqExprS (Pln.Exprs a) (Pln.Exprs b))) then false else (bif (!(eqIntS (Pln.Cols a) (Pln.Cols b))) then false else (andThen (eqPlan_c0 (eqPlan_r fuel) a b) (fun z => (fun (v31 : Bool) => (bif (!v31) then false else true)) z))))))

def eqPlan (a : Pln) (b : Pln) : Bool := eqPlan_r (SizeOf.sizeOf a + 1) a b

def eqPlan_spn (fuel : Nat) : FnSpec := mkSpec [.val (.named 2), .val (.named 2)] [.val .bool] (fun (a : Pln) (b : Pln) => (True) ∧ SizeOf.sizeOf a < fuel) (fun (a : Pln) (b : Pln) => [⟨.bool, (eqPlan_r fuel a b)⟩])

def eqPlan_sp : FnSpec := mkSpec [.val (.named 2), .val (.named 2)] [.val .bool] (fun (a : Pln) (b : Pln) => True) (fun (a : Pln) (b : Pln) => [⟨.bool, (eqPlan a b)⟩])

theorem eqPlan_okn (fuel : Nat) : FnOK Try.prog 21 (eqPlan_spn fuel) := by
 induction fuel with
 | zero => exact FnOK.never Try.func21 (by kernel_rfl) rfl (fun _ _ h => absurd h.2 (Nat.not_lt_zero _))
 | succ fuel ih => ?_
 have hC : CtxOK Try.prog (mkCtx tyL [(21, (eqPlan_spn fuel)), (34, eqIntS_sp), (74, eqExprS_sp)]) := CtxOK.cons ih (CtxOK.cons eqIntS_ok (CtxOK.cons eqExprS_ok (CtxOK.nil tyOK))); have hM : Try.prog.follows .mixedOrders = true := Try.checked.mixed; have hC1 := hC.rebase 1000; refine FnOK.of_body Try.func21 (by kernel_rfl) rfl (C := (mkCtx tyL [(21, (eqPlan_spn fuel)), (34, eqIntS_sp), (74, eqExprS_sp)])) hC.ty (by kernel_rfl) ?_; intro (a : Pln) (b : Pln) hwf hpre E; have hpre : (True) ∧ SizeOf.sizeOf a < fuel + 1 := hpre; have hw_a : Wf ⟨(.named 2), (a : Pln)⟩ := hwf _ (List.Mem.head _); obtain ⟨hr_a_Kind, hr_a_Table, hl_a_Exprs, hl_a_Cols, hl_a_Kids⟩ := Pln.wfl hw_a; have hw_b : Wf ⟨(.named 2), (b : Pln)⟩ := hwf _ (List.Mem.tail _ (List.Mem.head _)); obtain ⟨hr_b_Kind, hr_b_Table, hl_b_Exprs, hl_b_Cols, hl_b_Kids⟩ := Pln.wfl hw_b; have e0 : eqPlan_r (fuel + 1) a b = eqPlan_r (fuel + 1) a b := rfl; refine seq (r1 hC [2, 3] [8, 12] ⟨[(2, .ref 8 1 0), (3, .ref 12 1 0)], [(8, .box 1 [sI (Pln.Kind a), sI (Pln.Table a), sD9 (Pln.Exprs a), sD7 (Pln.Cols a), sD10 (Pln.Kids a)]), (12, .box 1 [sI (Pln.Kind b), sI (Pln.Table b), sD9 (Pln.Exprs b), sD7 (Pln.Cols b), sD10 (Pln.Kids b)])]⟩ ?_); refine seq (seq (r1U hC [2, 3, 9] [8, 12] [(9, sB ((Pln.Kind a) != (Pln.Kind b)))] [] ?_)); refine cdE e0 ?_ ?_
 · intro h1q e2; refine seq (r1 hC [4] [] ⟨[(4, sB false)], []⟩ ?_); exact ret (rB _ e2)
 ·
  intro h3q e4; refine kpU [2, 3] [8, 12] [] [] ?_; refine AW.skip (seq (seq (r1U hC [2, 3, 14] [8, 12] [(14, sB ((Pln.Table a) != (Pln.Table b)))] [] ?_))); refine cdE e4 ?_ ?_
  · intro h5q e6; refine seq (r1 hC [4] [] ⟨[(4, sB false)], []⟩ ?_); exact ret (rB _ e6)
  ·
   intro h7q e8; refine kpU [2, 3] [8, 12] [] [] ?_; refine AW.skip (seq (seq (r0U hC [2, 3, 20] [8, 12] [(20, sB (!(eqExprS (Pln.Exprs a) (Pln.Exprs b))))] [] [(True)] ?_ ?_)))
   ·
    exact ⟨trivial, trivial⟩
   refine cdE e8 ?_ ?_
   · intro h9q e10; refine seq (r1 hC [4] [] ⟨[(4, sB false)], []⟩ ?_); exact ret (rB _ e10)
   ·
    intro h11q e12; refine kpU [2, 3] [8, 12] [] [] ?_; refine AW.skip (seq (seq (r0U hC [2, 3, 26] [8, 12] [(26, sB (!(eqIntS (Pln.Cols a) (Pln.Cols b))))] [] [(True)] ?_ ?_)))
    ·
     exact ⟨trivial, trivial⟩
    refine cdE e12 ?_ ?_
    · intro h13q e14; refine seq (r1 hC [4] [] ⟨[(4, sB false)], []⟩ ?_); exact ret (rB _ e14)
    ·
     intro h15q e16; refine kpU [2, 3] [8, 12] [] [] ?_; refine AW.skip (seq (seq (AW.regionO [0, 1, 2, 3, 4, 5] (by rfl) ?_)))
     refine AWO.run hC false [] [0, 1, 2, 3] [4, 5] [28, 30] []
      ⟨[(28, sD10 (Pln.Kids a)), (30, sD10 (Pln.Kids b))], []⟩
      [] (by rfl) (by kernel_rfl) ?_ ?_
     · exact trivial
     refine AWO.callJ hC.ty [31] [] (α := Bool) (fun x => ⟨[(31, sB x)], []⟩) (fun x => (True) ∧ (eqPlan_c0 (eqPlan_r fuel) a b) = x) (vs := [sD10 (Pln.Kids a), sD10 (Pln.Kids b)]) (caps := []) (by rfl) rfl (.inl rfl) (by decide) (by kernel_rfl) (by kernel_rfl) Try.func27 (by kernel_rfl) rfl (by kernel_rfl) ?_ ?_
     ·
      intro o1 ho1; have e103 : (eqPlan_c0 (eqPlan_r fuel) a b) = (eqPlan_c0 (eqPlan_r fuel) a b) := rfl; refine kpU [0, 1] [] [] [] ?_; refine seq (r1U hC1 [0, 1] [] [] [] ?_); refine seq (seq (r1U hC1 [0, 1, 10] [] [(10, sB ((length (Pln.Kids a) : Int) != (length (Pln.Kids b) : Int)))] [] ?_)); refine cdE e103 ?_ ?_
      · intro h104q e105; refine seq (r1 hC1 [4] [] ⟨[(4, sB false)], []⟩ ?_); refine ret ?_; refine ⟨false, [sB false], by kernel_rfl, by kernel_rfl, ?_, e105⟩; exact trivial
      ·
       intro h106q e107; refine kpU [0, 1] [] [] [] ?_; refine AW.skip (seq (seq (r1U hC1 [0, 1, 5] [] [(5, sI 0)] [] ?_))); refine lpB (ζ := Unit) (fun x => ⟨[], []⟩) (fun x => True) (fun x => (.inl ())) (α := Nat) (fun x => ⟨[(0, sD10 (Pln.Kids a)), (1, sD10 (Pln.Kids b)), (5, sI (x : Int))], []⟩) (fun x => True) (fun x => (length (Pln.Kids a)) - x) (fun k x => eqPlan_l0 (eqPlan_r fuel) a b k x) 0 (by kernel_rfl) ?_ ?_ ?_
       · exact trivial
       ·
        intro i k137q hI0 hk135 e136; refine seq (seq (r1U hC1 [0, 1, 5, 14] [] [(14, sB (decide ((i : Int) < (length (Pln.Kids a) : Int))))] [] ?_)); refine cdE e136 ?_ ?_
        ·
         intro h138q e139; refine kpU [0, 1, 5] [] [] [] ?_; refine AW.skip (seq (block (seq (d0U hC1 hM [0, 1, 5, 26] [] [(26, sB (!((eqPlan_r fuel) (getD (Pln.Kids a) i Pln.zero) (getD (Pln.Kids b) i Pln.zero))))] [] [IX (i : Int) (length (Pln.Kids a) : Int), IX (i : Int) (length (Pln.Kids b) : Int), ((True) ∧ SizeOf.sizeOf (getD (Pln.Kids a) i Pln.zero) < fuel)] ?_ ?_))))
         ·
          exact ⟨IX.of (by omega), IX.of (by omega), (⟨trivial, Nat.lt_of_lt_of_le (pkid_lt (by omega)) (Nat.le_of_lt_succ hpre.2)⟩), trivial⟩
         refine cdE e139 ?_ ?_
         · intro h140q e141; refine seq (r1 hC1 [4] [] ⟨[(4, sB false)], []⟩ ?_); refine ret ?_; have e142 := e107.trans (elim_r e141); refine ⟨false, [sB false], by kernel_rfl, by kernel_rfl, ?_, e142⟩; exact trivial
         ·
          intro h143q e144; refine kpU [0, 1, 5] [] [] [] ?_; refine AW.skip (r0U hC1 [0, 1, 5] [] [(5, sI ((i + 1 : Nat) : Int))] [] [R64 ((i + 1 : Nat) : Int)] ?_ ?_)
          ·
           exact ⟨R64.of (by omega), trivial⟩
          refine bk (i + 1) e144 hk135 ?_ ?_
          · assumption
          · omega
        · intro h145q e146; refine kp [] [] ⟨[], []⟩ ?_; refine exit ?_; refine meet () (by kernel_rfl) ⟨?_, e146⟩; assumption
       · intro x hJ0 e147; have e148 := e107.trans (elim_l e147); refine seq (r1 hC1 [4] [] ⟨[(4, sB true)], []⟩ ?_); refine ret ?_; refine ⟨true, [sB true], by kernel_rfl, by kernel_rfl, ?_, e148⟩; exact trivial
     ·
      intro v31 hR; obtain ⟨hK0, e149⟩ := hR; have e150 := e16.trans (then_eq e149)
      refine AWO.run hC false [] [5] [] [32] []
       ⟨[(32, sB (!v31))], []⟩
       [] (by rfl) (by kernel_rfl) ?_ ?_
      · exact trivial
      refine AWO.nil ?_; refine cdE e150 ?_ ?_
      · intro h151q e152; refine seq (r1 hC [4] [] ⟨[(4, sB false)], []⟩ ?_); exact ret (rB _ e152)
      · intro h153q e154; refine kp [] [] ⟨[], []⟩ ?_; refine AW.skip (seq (r1 hC [4] [] ⟨[(4, sB true)], []⟩ ?_)); exact ret (rB _ e154)

theorem eqPlan_fu : AllTV (eqPlan_sp.ps.map PK.ty) (fun tvs => eqPlan_sp.pre tvs → ∃ k, (eqPlan_spn k).pre tvs ∧ (eqPlan_spn k).fn tvs = eqPlan_sp.fn tvs ∧ (eqPlan_spn k).bx tvs = eqPlan_sp.bx tvs) :=
 (fun (a : Pln) (b : Pln) h => ⟨SizeOf.sizeOf a + 1, (show (True) ∧ SizeOf.sizeOf a < SizeOf.sizeOf a + 1 from ⟨h, Nat.lt_succ_self _⟩), (show (eqPlan_spn (SizeOf.sizeOf a + 1)).fn [⟨(.named 2), (a : Pln)⟩, ⟨(.named 2), (b : Pln)⟩] = ([⟨.bool, (eqPlan_r (SizeOf.sizeOf a + 1) a b)⟩] : List TV) from by kernel_rfl).trans (show ([⟨.bool, (eqPlan_r (SizeOf.sizeOf a + 1) a b)⟩] : List TV) = eqPlan_sp.fn [⟨(.named 2), (a : Pln)⟩, ⟨(.named 2), (b : Pln)⟩] from by kernel_rfl), by kernel_rfl⟩)

theorem eqPlan_ok : FnOK Try.prog 21 eqPlan_sp := FnOK.of_fuel eqPlan_okn (fun _ => rfl) (fun _ => rfl) (AllTV.get eqPlan_fu)

end
end Go.Proofs.Ytodcdgolcbdkgaa


namespace Go.Proofs.Ytodcdgolcbdkgaa
open Go Go.Am
open Go.Am.AW (seq r1U ret kpU cdE r0U r1 rB r0 kp d0U)
open List (length getD)
noncomputable section

theorem eqExprS_self (a : List Xpr) : eqExprS a a = true := by
 unfold eqExprS; simp only [bne_self_eq_false, cond_false]; rcases all_loop (eqExprS_l0 a a) a.length (fun i => !(eqExpr (getD a i Xpr.zero) (getD a i Xpr.zero))) (fun k i => rfl) (a.length - 0 + 1) 0 (by omega) with ⟨h1, _⟩ | ⟨_, j, _, hj, h2⟩
 · rw [h1]; rfl
 · rw [eqExpr_self] at h2; cases h2

theorem eqPlan_refl : ∀ (f : Nat) (a : Pln), SizeOf.sizeOf a < f → eqPlan_r f a a = true := by
 intro f
 induction f with
 | zero => intro a h; omega
 | succ f ih =>
  intro a h
  have hc : eqPlan_c0 (eqPlan_r f) a a = true := by
   unfold eqPlan_c0; simp only [bne_self_eq_false, cond_false]; rcases all_loop (eqPlan_l0 (eqPlan_r f) a a) a.Kids.length (fun i => !(eqPlan_r f (getD a.Kids i Pln.zero) (getD a.Kids i Pln.zero))) (fun k i => rfl) (a.Kids.length - 0 + 1) 0 (by omega) with ⟨h1, _⟩ | ⟨_, j, _, hj, h2⟩
   · rw [h1]; rfl
   · have := pkid_lt (t := a) hj; rw [ih _ (by omega)] at h2; cases h2
  unfold eqPlan_r; simp only [bne_self_eq_false, cond_false, andThen, hc, eqExprS_self, eqIntS_self, Bool.not_true]

theorem eqPlan_self (a : Pln) : eqPlan a a = true := eqPlan_refl _ a (Nat.lt_succ_self _)

structure WF (f : Nat) (p : Pln) (ws : List Int) (l : Int) : Prop where
 of : OF p
 scan : p.Kind = 1 → (0 ≤ p.Table ∧ p.Table < (ws.length : Int)) ∧ widthBelow_r (f + 1) p ws l = ws.getD p.Table.toNat 0
 deep : 0 < p.Kids.length → l ≠ 0
 proj : p.Kind = 3 → 1 ≤ (p.Exprs.length : Int) ∧ (p.Exprs.length : Int) ≤ 6
 kids : ∀ i, i < p.Kids.length → widthBelow_r f (p.Kids.getD i Pln.zero) ws (l - 1) ≠ 0
 one : p.Kids.length = 1 → widthBelow_r (f + 1) p ws l = widthOver p (widthBelow_r f (p.Kids.getD 0 Pln.zero) ws (l - 1)) 0
 two : p.Kids.length = 2 → widthBelow_r (f + 1) p ws l = widthOver p (widthBelow_r f (p.Kids.getD 0 Pln.zero) ws (l - 1)) (widthBelow_r f (p.Kids.getD 1 Pln.zero) ws (l - 1))

theorem wb_facts {f : Nat} {p : Pln} {ws : List Int} {l : Int} (h : widthBelow_r (f + 1) p ws l ≠ 0) : WF f p ws l := by
 have hpc := parts2 (Pln.Kind p); have e : widthBelow_r (f + 1) p ws l = widthBelow_r (f + 1) p ws l := rfl; (conv at e => rhs; unfold widthBelow_r); simp only [andThen] at e
 cases hA : (bif (bif ((length (Pln.Kids p) : Int) != ((partsOfKind (Pln.Kind p)).2)) then true else ((length (Pln.Exprs p) : Int) != widthBelow_j0 p)) then true else (bif (decide (0 < ((partsOfKind (Pln.Kind p)).2))) then (l == 0) else false)) with
 | true => rw [hA, cond_true] at e; exact absurd e h
 | false =>
  rw [hA, cond_false] at e
  cases hB : (bif (bif ((Pln.Kind p) != 1) then ((Pln.Table p) != 0) else false) then true else (bif ((Pln.Kind p) != 8) then ((length (Pln.Cols p) : Int) != 0) else false)) with
  | true => rw [hB, cond_true] at e; exact absurd e h
  | false =>
   rw [hB, cond_false] at e; have hA' := or_neg (or_neg hA).1; have k1 := bne_neg hA'.1; have k2 := bne_neg hA'.2
   have hl : 0 < p.Kids.length → l ≠ 0 := fun h0 => by
    have := (or_neg hA).2
    rw [decide_eq_true (show 0 < (partsOfKind p.Kind).2 by omega), cond_true] at this
    exact beq_neg this
   have hB := or_neg hB
   have j0 : p.Kind ≠ 3 → widthBelow_j0 p = (partsOfKind p.Kind).1 := fun h => by
    unfold widthBelow_j0; rw [show (p.Kind == 3) = false by simp [h]]; rfl
   have hO : OF p := by
    refine ⟨by omega, k1, fun h => by rw [← j0 h]; exact k2, fun h => ?_, fun h => ?_⟩
    ·
     have := hB.1
     rw [show (p.Kind != 1) = true by simp [h], cond_true] at this
     exact bne_neg this
    ·
     have := hB.2
     rw [show (p.Kind != 8) = true by simp [h], cond_true] at this
     have := bne_neg this
     omega
   have h3 : p.Kind = 3 → 1 ≤ (p.Exprs.length : Int) ∧ (p.Exprs.length : Int) ≤ 6 := fun h3 => by
    unfold widthBelow_j0 at k2; rw [h3] at k2; simp only [Int.reduceBEq, cond_true] at k2
    cases hv : validWidth (length p.Exprs : Int) with
    | true => exact validWidth_iff.1 hv
    | false =>
     rw [hv, cond_false] at k2; (have : (partsOfKind 3).1 = 1 := by decide); omega
   by_cases h1 : p.Kind = 1
   ·
    rw [show (p.Kind == 1) = true by simp [h1], cond_true] at e
    have ht : 0 ≤ p.Table ∧ p.Table < (ws.length : Int) := by
     refine Decidable.byContradiction fun hn => h ?_
     have d : (bif decide (p.Table < 0) then true else decide ((ws.length : Int) ≤ p.Table)) = true := by
      by_cases h : p.Table < 0
      · rw [decide_eq_true h]; rfl
      · rw [decide_eq_false h, decide_eq_true (show (ws.length : Int) ≤ p.Table by omega)]; rfl
     rw [d, cond_true] at e; exact e
    rw [decide_eq_false (show ¬ p.Table < 0 by omega), decide_eq_false (show ¬ (ws.length : Int) ≤ p.Table by omega)] at e; exact ⟨hO, fun _ => ⟨ht, e⟩, hl, h3, fun i hi => by omega, fun _ => by omega, fun _ => by omega⟩
   ·
    rw [show (p.Kind == 1) = false by simp [h1], cond_false] at e; by_cases h2 : p.Kids.length = 2
    ·
     rw [wb2 _ _ _ _ h2] at e; by_cases ha : widthBelow_r f (p.Kids.getD 0 Pln.zero) ws (l - 1) = 0
     · rw [ha] at e; exact absurd e h
     ·
      rw [show (widthBelow_r f (p.Kids.getD 0 Pln.zero) ws (l - 1) == 0) = false from beq_false_of_ne ha, cond_false] at e; by_cases hb : widthBelow_r f (p.Kids.getD 1 Pln.zero) ws (l - 1) = 0
      · rw [hb] at e; exact absurd e h
      ·
       rw [show (widthBelow_r f (p.Kids.getD 1 Pln.zero) ws (l - 1) == 0) = false from beq_false_of_ne hb, cond_false] at e; refine ⟨hO, fun h => absurd h h1, hl, h3, fun i hi => ?_, fun _ => by omega, fun _ => e⟩; rcases Nat.lt_or_ge i 1 with hi1 | hi1
       · rw [show i = 0 by omega]; exact ha
       · rw [show i = 1 by omega]; exact hb
    ·
     (have hn : p.Kids.length = 1 := by omega); rw [wb1 _ _ _ _ hn] at e; by_cases ha : widthBelow_r f (p.Kids.getD 0 Pln.zero) ws (l - 1) = 0
     · rw [ha] at e; exact absurd e h
     · rw [show (widthBelow_r f (p.Kids.getD 0 Pln.zero) ws (l - 1) == 0) = false from beq_false_of_ne ha, cond_false] at e; refine ⟨hO, fun h => absurd h h1, hl, h3, fun i hi => ?_, fun _ => e, fun h => absurd h h2⟩; rw [show i = 0 by omega]; exact ha

def PVn (n : Nat) (p : Pln) : Prop := ∃ ws f l, length ws = n ∧ SizeOf.sizeOf p < f ∧ widthBelow_r f p ws l ≠ 0

theorem PVn.of {n : Nat} {p : Pln} (h : PVn n p) : OF p ∧ (p.Kind = 1 → 0 ≤ p.Table ∧ p.Table < (n : Int)) ∧ (p.Kind = 3 → 1 ≤ (p.Exprs.length : Int)) := by
 obtain ⟨ws, f, l, h1, h2, h3⟩ := h
 cases f with
 | zero => omega
 | succ f =>
  have hw := wb_facts h3; exact ⟨hw.of, fun h => by rw [← h1]; exact (hw.scan h).1, fun h => (hw.proj h).1⟩

theorem PVn.kid {n : Nat} {p : Pln} (h : PVn n p) {i : Nat} (hi : i < p.Kids.length) : PVn n (p.Kids.getD i Pln.zero) := by
 obtain ⟨ws, f, l, h1, h2, h3⟩ := h
 cases f with
 | zero => omega
 | succ f =>
  have hw := wb_facts h3; have := pkid_lt hi; exact ⟨ws, f, l - 1, h1, by omega, hw.kids i hi⟩

theorem PVn.mk' {p : Pln} {ws : List Int} (h : PlanWidth p ws ≠ 0) : PVn ws.length p := by
 rw [← PlanWidth_same] at h; unfold iPlanWidth at h; rw [Pln.eta] at h
 cases hv : ivalidWidths ws with
 | false => rw [hv] at h; exact absurd rfl h
 | true =>
  rw [hv] at h; exact ⟨ws, _, 8, rfl, Nat.lt_succ_self _, h⟩

end
end Go.Proofs.Ytodcdgolcbdkgaa
