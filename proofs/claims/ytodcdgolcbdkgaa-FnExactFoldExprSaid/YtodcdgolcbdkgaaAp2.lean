/-
  A part of the proof of this claim (Ap2): what functions of the program compute, and plain facts of that. No conditions.
-/
import Derived.Test.YtodcdgolcbdkgaaAp1
set_option linter.all false
namespace Go.Proofs.Ytodcdgolcbdkgaa
open Go Go.Am
noncomputable section

theorem inRange_iff {n l h : Int} : inRange n l h = true ↔ l ≤ n ∧ n ≤ h := by
 unfold inRange
 by_cases e : l ≤ n <;> simp [e]

theorem validWidth_iff {w : Int} : validWidth w = true ↔ 1 ≤ w ∧ w ≤ 6 := by
 unfold validWidth
 by_cases h : 1 ≤ w <;> simp [h]

def VV (v : Val) : Prop := if v.Null = true then v.N = 0 else -9999 ≤ v.N ∧ v.N ≤ 9999

theorem valValid_iff {v : Val} : valValid v = true ↔ VV v := by
 unfold valValid VV
 cases h : v.Null with
 | true => simp
 | false =>
  by_cases h1 : -9999 ≤ v.N <;> simp [h1]

theorem validValue_iff {v : Val} : validValue v = true ↔ VV v := by
 unfold validValue VV
 cases h : v.Null with
 | true =>
  cases e : inRange v.N (-9999) 9999 with
  | false =>
   simp
   intro h0
   have : inRange v.N (-9999) 9999 = true := inRange_iff.2 (by omega)
   rw [e] at this
   cases this
  | true => simp
 | false =>
  cases e : inRange v.N (-9999) 9999 with
  | false =>
   simp
   intro h0
   rcases Int.lt_or_le 9999 v.N with h | h
   ·
    exact h
   ·
    have : inRange v.N (-9999) 9999 = true := inRange_iff.2 (by omega)
    rw [e] at this
    cases this
  | true =>
   have := inRange_iff.1 e
   simp
   omega

theorem kid_lt {t : Xpr} {i : Nat} (h : i < t.Kids.length) : SizeOf.sizeOf (t.Kids.getD i Xpr.zero) < SizeOf.sizeOf t := by
 cases t with
 | mk a b c ks =>
  have := List.sizeOf_lt_of_mem (getD_mem ks i Xpr.zero h)
  simp only [Xpr.mk.sizeOf_spec, Xpr.Kids] at *
  omega

theorem kids_eq (k : Int) : kidsOf k = kidsOfKind k := rfl

theorem kids_cases (k : Int) : (k = 1 ∨ k = 2) ∧ kidsOfKind k = 0 ∨ (k = 10 ∨ k = 11) ∧ kidsOfKind k = 1 ∨ (3 ≤ k ∧ k ≤ 9) ∧ kidsOfKind k = 2 ∨ (k < 1 ∨ 11 < k) ∧ kidsOfKind k = -1 := by
 by_cases h : 1 ≤ k ∧ k ≤ 11
 ·
  have : k = 1 ∨ k = 2 ∨ k = 3 ∨ k = 4 ∨ k = 5 ∨ k = 6 ∨ k = 7 ∨ k = 8 ∨ k = 9 ∨ k = 10 ∨ k = 11 := by omega
  rcases this with rfl | rfl | rfl | rfl | rfl | rfl | rfl | rfl | rfl | rfl | rfl <;> decide
 ·
  refine .inr (.inr (.inr ⟨by omega, ?_⟩))
  have e : ∀ j : Int, 1 ≤ j → j ≤ 11 → (k == j) = false := fun j h1 h2 => by simp; omega
  unfold kidsOfKind kidsOfKind_j0 kidsOfKind_j1 kidsOfKind_j7 kidsOfKind_j6 kidsOfKind_j5 kidsOfKind_j4 kidsOfKind_j3 kidsOfKind_j2
  simp only [Go.Am.andThen, e 1 (by decide) (by decide), e 2 (by decide) (by decide), e 3 (by decide) (by decide), e 4 (by decide) (by decide), e 5 (by decide) (by decide), e 6 (by decide) (by decide), e 7 (by decide) (by decide), e 8 (by decide) (by decide), e 9 (by decide) (by decide), e 10 (by decide) (by decide), e 11 (by decide) (by decide), cond_false]

def validBelow_l0 (self : Xpr → Int → Int → Bool) (e : Xpr) (width : Int) (levels : Int) : Nat → Nat → Unit ⊕ Bool
 | 0, v96 => .inl ()
 | k + 1, v96 => (bif (decide (((v96 : Nat) : Int) < ((List.length (Xpr.Kids e) : Nat) : Int))) then (bif (!(self (List.getD (Xpr.Kids e) v96 Xpr.zero) width (levels - 1))) then (.inr false) else (validBelow_l0 self e width levels k (v96 + 1))) else (.inl ()))

def validBelow_r : Nat → Xpr → Int → Int → Bool
 | 0, e, width, levels => false
 | fuel + 1, e, width, levels => (bif (bif (((List.length (Xpr.Kids e) : Nat) : Int) != (kidsOfKind (Xpr.Kind e))) then true else (bif (decide (0 < (kidsOfKind (Xpr.Kind e)))) then (levels == 0) else false)) then false else (bif (bif (bif ((Xpr.Kind e) == 1) then (bif (decide ((Xpr.Col e) < 0)) then true else (decide (width ≤ (Xpr.Col e)))) else false) then true else (bif ((Xpr.Kind e) != 1) then ((Xpr.Col e) != 0) else false)) then false else (bif (bif (bif ((Xpr.Kind e) == 2) then (!(valValid (Xpr.V e))) else false) then true else (bif ((Xpr.Kind e) != 2) then (!(bif ((Val.Null (Xpr.V e)) == false) then (bif ((Val.N (Xpr.V e)) == 0) then true else false) else false)) else false)) then false else (Sum.elim (fun _ => true) (fun r => r) (validBelow_l0 (validBelow_r fuel) e width levels ((List.length (Xpr.Kids e)) - 0 + 1) 0)))))

def validBelow (e : Xpr) (width : Int) (levels : Int) : Bool := validBelow_r (SizeOf.sizeOf e + 1) e width levels

def validBelow_spn (fuel : Nat) : FnSpec := mkSpec [.rd (.named 1), .val (.int .i64), .val (.int .i64)] [.val .bool] (fun (e : Xpr) (width : Int) (levels : Int) => (0 ≤ levels ∧ levels ≤ 8) ∧ SizeOf.sizeOf e < fuel) (fun (e : Xpr) (width : Int) (levels : Int) => [⟨.bool, (validBelow_r fuel e width levels)⟩])

def validBelow_sp : FnSpec := mkSpec [.rd (.named 1), .val (.int .i64), .val (.int .i64)] [.val .bool] (fun (e : Xpr) (width : Int) (levels : Int) => 0 ≤ levels ∧ levels ≤ 8) (fun (e : Xpr) (width : Int) (levels : Int) => [⟨.bool, (validBelow e width levels)⟩])

theorem validBelow_okn (fuel : Nat) : FnOK Try.prog 131 (validBelow_spn fuel) := by
 induction fuel with
 | zero => exact FnOK.never Try.func131 (by kernel_rfl) rfl (fun _ _ _ h => absurd h.2 (Nat.not_lt_zero _))
 | succ fuel ih => ?_
 have hC : CtxOK Try.prog (mkCtx tyL [(131, (validBelow_spn fuel)), (157, kidsOfKind_sp), (158, valValid_sp)]) := CtxOK.cons ih (CtxOK.cons kidsOfKind_ok (CtxOK.cons valValid_ok (CtxOK.nil tyOK)))
 refine FnOK.of_body Try.func131 (by kernel_rfl) rfl (C := (mkCtx tyL [(131, (validBelow_spn fuel)), (157, kidsOfKind_sp), (158, valValid_sp)])) hC.ty (by kernel_rfl) ?_
 intro (e : Xpr) (width : Int) (levels : Int) hwf hpre E
 have hpre : (0 ≤ levels ∧ levels ≤ 8) ∧ SizeOf.sizeOf e < fuel + 1 := hpre
 have hw_e : Wf ⟨(.named 1), (e : Xpr)⟩ := hwf _ (List.Mem.head _)
 obtain ⟨hr_e_Kind, hr_e_Col, hl_e_Kids⟩ := Xpr.wfl hw_e
 have hw_width : Wf ⟨(.int .i64), (width : Int)⟩ := hwf _ (List.Mem.tail _ (List.Mem.head _))
 have hr_width : -9223372036854775808 ≤ width ∧ width ≤ 9223372036854775807 := hw_width.int_inv
 have hw_levels : Wf ⟨(.int .i64), (levels : Int)⟩ := hwf _ (List.Mem.tail _ (List.Mem.tail _ (List.Mem.head _)))
 have hr_levels : -9223372036854775808 ≤ levels ∧ levels ≤ 9223372036854775807 := hw_levels.int_inv
 have e0 : validBelow_r (fuel + 1) e width levels = validBelow_r (fuel + 1) e width levels := rfl
 refine AW.seq (AW.r1 hC [0, 1, 2] [] ⟨[(0, sR3 e), (1, sI width), (2, sI levels)], []⟩ ?_)
 refine AW.seq (AW.r0 hC [0, 1, 2, 7] [] ⟨[(0, sR3 e), (1, sI width), (2, sI levels), (7, sI (kidsOfKind (Xpr.Kind e)))], []⟩ [(True)] ?_ ?_)
 ·
  refine ⟨?_, trivial⟩
  ·
   trivial
 refine AW.seq (AW.seq (AW.r0 hC [0, 1, 2, 28] [] ⟨[(0, sR3 e), (1, sI width), (2, sI levels), (28, sB (bif (((List.length (Xpr.Kids e) : Nat) : Int) != (kidsOfKind (Xpr.Kind e))) then true else (bif (decide (0 < (kidsOfKind (Xpr.Kind e)))) then (levels == 0) else false)))], []⟩ [(((((List.length (Xpr.Kids e) : Nat) : Int) != (kidsOfKind (Xpr.Kind e))) = false) → (((((List.length (Xpr.Kids e) : Nat) : Int) != (kidsOfKind (Xpr.Kind e))) = false))), (((((List.length (Xpr.Kids e) : Nat) : Int) != (kidsOfKind (Xpr.Kind e))) = false) → (((((List.length (Xpr.Kids e) : Nat) : Int) != (kidsOfKind (Xpr.Kind e))) = false))), ((((((List.length (Xpr.Kids e) : Nat) : Int) != (kidsOfKind (Xpr.Kind e))) = false) ∧ ((decide (0 < (kidsOfKind (Xpr.Kind e)))) = true)) → ((((((List.length (Xpr.Kids e) : Nat) : Int) != (kidsOfKind (Xpr.Kind e))) = false) ∧ ((decide (0 < (kidsOfKind (Xpr.Kind e)))) = true)))), (((((List.length (Xpr.Kids e) : Nat) : Int) != (kidsOfKind (Xpr.Kind e))) = false) → (((((List.length (Xpr.Kids e) : Nat) : Int) != (kidsOfKind (Xpr.Kind e))) = false))), (((((List.length (Xpr.Kids e) : Nat) : Int) != (kidsOfKind (Xpr.Kind e))) = false) → (((decide (0 < (kidsOfKind (Xpr.Kind e)))) = true) → ((((((List.length (Xpr.Kids e) : Nat) : Int) != (kidsOfKind (Xpr.Kind e))) = false) ∧ ((decide (0 < (kidsOfKind (Xpr.Kind e)))) = true))))), (((((List.length (Xpr.Kids e) : Nat) : Int) != (kidsOfKind (Xpr.Kind e))) = false) → (((((List.length (Xpr.Kids e) : Nat) : Int) != (kidsOfKind (Xpr.Kind e))) = false)))] ?_ ?_))
 ·
  refine ⟨?_, ?_, ?_, ?_, ?_, ?_, trivial⟩
  ·
   intro g1
   have g1p0 : ((List.length (Xpr.Kids e) : Nat) : Int) = (kidsOfKind (Xpr.Kind e)) := (Go.Am.bne_neg g1)
   assumption
  ·
   intro g2
   have g2p0 : ((List.length (Xpr.Kids e) : Nat) : Int) = (kidsOfKind (Xpr.Kind e)) := (Go.Am.bne_neg g2)
   assumption
  ·
   intro g3
   have g3p0 : ((List.length (Xpr.Kids e) : Nat) : Int) = (kidsOfKind (Xpr.Kind e)) := (Go.Am.bne_neg (g3).1)
   have g3p1 : 0 < (kidsOfKind (Xpr.Kind e)) := (of_decide_eq_true (g3).2)
   assumption
  ·
   intro g4
   have g4p0 : ((List.length (Xpr.Kids e) : Nat) : Int) = (kidsOfKind (Xpr.Kind e)) := (Go.Am.bne_neg g4)
   assumption
  ·
   intro g5
   have g5p0 : ((List.length (Xpr.Kids e) : Nat) : Int) = (kidsOfKind (Xpr.Kind e)) := (Go.Am.bne_neg g5)
   intro g6
   have g6p0 : 0 < (kidsOfKind (Xpr.Kind e)) := (of_decide_eq_true g6)
   exact ⟨by assumption, by assumption⟩
  ·
   intro g7
   have g7p0 : ((List.length (Xpr.Kids e) : Nat) : Int) = (kidsOfKind (Xpr.Kind e)) := (Go.Am.bne_neg g7)
   assumption
 refine AW.cd (bif (((List.length (Xpr.Kids e) : Nat) : Int) != (kidsOfKind (Xpr.Kind e))) then true else (bif (decide (0 < (kidsOfKind (Xpr.Kind e)))) then (levels == 0) else false)) ?_ ?_
 ·
  intro h8
  have h8q : (((List.length (Xpr.Kids e) : Nat) : Int) ≠ (kidsOfKind (Xpr.Kind e))) ∨ ((0 < (kidsOfKind (Xpr.Kind e))) ∧ (levels = 0)) := (Or.imp (fun h => (Go.Am.bne_pos h)) (fun h => (And.imp (fun h => (of_decide_eq_true h)) (fun h => (Go.Am.beq_pos h)) (Go.Am.and_pos h))) (Go.Am.or_pos h8))
  have e9 := e0.trans (Go.Am.bif_t h8)
  refine AW.seq (AW.r1 hC [6] [] ⟨[(6, sB false)], []⟩ ?_)
  exact AW.ret (AW.rB false e9)
 ·
  intro h10
  have h10q : (((List.length (Xpr.Kids e) : Nat) : Int) = (kidsOfKind (Xpr.Kind e))) ∧ ((¬ (0 < (kidsOfKind (Xpr.Kind e)))) ∨ (levels ≠ 0)) := (And.imp (fun h => (Go.Am.bne_neg h)) (fun h => (Or.imp (fun h => (of_decide_eq_false h)) (fun h => (Go.Am.beq_neg h)) (Go.Am.and_neg h))) (Go.Am.or_neg h10))
  have e11 := e0.trans (Go.Am.bif_f h10)
  refine AW.kp [0, 1, 2] [] ⟨[(0, sR3 e), (1, sI width), (2, sI levels)], []⟩ ?_
  refine AW.skip (AW.seq (AW.seq (AW.r0 hC [0, 1, 2, 62] [] ⟨[(0, sR3 e), (1, sI width), (2, sI levels), (62, sB (bif (bif ((Xpr.Kind e) == 1) then (bif (decide ((Xpr.Col e) < 0)) then true else (decide (width ≤ (Xpr.Col e)))) else false) then true else (bif ((Xpr.Kind e) != 1) then ((Xpr.Col e) != 0) else false)))], []⟩ [((((Xpr.Kind e) == 1) = true) → ((((Xpr.Kind e) == 1) = true))), ((((Xpr.Kind e) == 1) = true) → ((((Xpr.Kind e) == 1) = true))), ((((Xpr.Kind e) == 1) = true) → ((((Xpr.Kind e) == 1) = true))), ((((Xpr.Kind e) == 1) = true) → ((((Xpr.Kind e) == 1) = true))), ((((Xpr.Kind e) == 1) = true) → ((((Xpr.Kind e) == 1) = true))), (((((Xpr.Kind e) == 1) = true) ∧ ((decide ((Xpr.Col e) < 0)) = false)) → (((((Xpr.Kind e) == 1) = true) ∧ ((decide ((Xpr.Col e) < 0)) = false)))), (((((Xpr.Kind e) == 1) = true) ∧ ((decide ((Xpr.Col e) < 0)) = false)) → (((((Xpr.Kind e) == 1) = true) ∧ ((decide ((Xpr.Col e) < 0)) = false)))), (((((Xpr.Kind e) == 1) = true) ∧ ((decide ((Xpr.Col e) < 0)) = false)) → (((((Xpr.Kind e) == 1) = true) ∧ ((decide ((Xpr.Col e) < 0)) = false)))), (((((Xpr.Kind e) == 1) = true) ∧ ((decide ((Xpr.Col e) < 0)) = false)) → (((((Xpr.Kind e) == 1) = true) ∧ ((decide ((Xpr.Col e) < 0)) = false)))), (((((Xpr.Kind e) == 1) = true) ∧ ((decide ((Xpr.Col e) < 0)) = false)) → (((((Xpr.Kind e) == 1) = true) ∧ ((decide ((Xpr.Col e) < 0)) = false)))), ((((Xpr.Kind e) == 1) = true) → ((((Xpr.Kind e) == 1) = true))), ((((Xpr.Kind e) == 1) = true) → (((decide ((Xpr.Col e) < 0)) = false) → (((((Xpr.Kind e) == 1) = true) ∧ ((decide ((Xpr.Col e) < 0)) = false))))), ((((Xpr.Kind e) == 1) = true) → ((((Xpr.Kind e) == 1) = true))), (((bif ((Xpr.Kind e) == 1) then (bif (decide ((Xpr.Col e) < 0)) then true else (decide (width ≤ (Xpr.Col e)))) else false) = false) → (((bif ((Xpr.Kind e) == 1) then (bif (decide ((Xpr.Col e) < 0)) then true else (decide (width ≤ (Xpr.Col e)))) else false) = false))), (((bif ((Xpr.Kind e) == 1) then (bif (decide ((Xpr.Col e) < 0)) then true else (decide (width ≤ (Xpr.Col e)))) else false) = false) → (((bif ((Xpr.Kind e) == 1) then (bif (decide ((Xpr.Col e) < 0)) then true else (decide (width ≤ (Xpr.Col e)))) else false) = false))), (((bif ((Xpr.Kind e) == 1) then (bif (decide ((Xpr.Col e) < 0)) then true else (decide (width ≤ (Xpr.Col e)))) else false) = false) → (((bif ((Xpr.Kind e) == 1) then (bif (decide ((Xpr.Col e) < 0)) then true else (decide (width ≤ (Xpr.Col e)))) else false) = false))), (((bif ((Xpr.Kind e) == 1) then (bif (decide ((Xpr.Col e) < 0)) then true else (decide (width ≤ (Xpr.Col e)))) else false) = false) → (((bif ((Xpr.Kind e) == 1) then (bif (decide ((Xpr.Col e) < 0)) then true else (decide (width ≤ (Xpr.Col e)))) else false) = false))), (((bif ((Xpr.Kind e) == 1) then (bif (decide ((Xpr.Col e) < 0)) then true else (decide (width ≤ (Xpr.Col e)))) else false) = false) → (((bif ((Xpr.Kind e) == 1) then (bif (decide ((Xpr.Col e) < 0)) then true else (decide (width ≤ (Xpr.Col e)))) else false) = false))), ((((bif ((Xpr.Kind e) == 1) then (bif (decide ((Xpr.Col e) < 0)) then true else (decide (width ≤ (Xpr.Col e)))) else false) = false) ∧ (((Xpr.Kind e) != 1) = true)) → ((((bif ((Xpr.Kind e) == 1) then (bif (decide ((Xpr.Col e) < 0)) then true else (decide (width ≤ (Xpr.Col e)))) else false) = false) ∧ (((Xpr.Kind e) != 1) = true)))), ((((bif ((Xpr.Kind e) == 1) then (bif (decide ((Xpr.Col e) < 0)) then true else (decide (width ≤ (Xpr.Col e)))) else false) = false) ∧ (((Xpr.Kind e) != 1) = true)) → ((((bif ((Xpr.Kind e) == 1) then (bif (decide ((Xpr.Col e) < 0)) then true else (decide (width ≤ (Xpr.Col e)))) else false) = false) ∧ (((Xpr.Kind e) != 1) = true)))), ((((bif ((Xpr.Kind e) == 1) then (bif (decide ((Xpr.Col e) < 0)) then true else (decide (width ≤ (Xpr.Col e)))) else false) = false) ∧ (((Xpr.Kind e) != 1) = true)) → ((((bif ((Xpr.Kind e) == 1) then (bif (decide ((Xpr.Col e) < 0)) then true else (decide (width ≤ (Xpr.Col e)))) else false) = false) ∧ (((Xpr.Kind e) != 1) = true)))), ((((bif ((Xpr.Kind e) == 1) then (bif (decide ((Xpr.Col e) < 0)) then true else (decide (width ≤ (Xpr.Col e)))) else false) = false) ∧ (((Xpr.Kind e) != 1) = true)) → ((((bif ((Xpr.Kind e) == 1) then (bif (decide ((Xpr.Col e) < 0)) then true else (decide (width ≤ (Xpr.Col e)))) else false) = false) ∧ (((Xpr.Kind e) != 1) = true)))), (((bif ((Xpr.Kind e) == 1) then (bif (decide ((Xpr.Col e) < 0)) then true else (decide (width ≤ (Xpr.Col e)))) else false) = false) → (((bif ((Xpr.Kind e) == 1) then (bif (decide ((Xpr.Col e) < 0)) then true else (decide (width ≤ (Xpr.Col e)))) else false) = false))), (((bif ((Xpr.Kind e) == 1) then (bif (decide ((Xpr.Col e) < 0)) then true else (decide (width ≤ (Xpr.Col e)))) else false) = false) → ((((Xpr.Kind e) != 1) = true) → ((((bif ((Xpr.Kind e) == 1) then (bif (decide ((Xpr.Col e) < 0)) then true else (decide (width ≤ (Xpr.Col e)))) else false) = false) ∧ (((Xpr.Kind e) != 1) = true))))), (((bif ((Xpr.Kind e) == 1) then (bif (decide ((Xpr.Col e) < 0)) then true else (decide (width ≤ (Xpr.Col e)))) else false) = false) → (((bif ((Xpr.Kind e) == 1) then (bif (decide ((Xpr.Col e) < 0)) then true else (decide (width ≤ (Xpr.Col e)))) else false) = false)))] ?_ ?_)))
  ·
   refine ⟨?_, ?_, ?_, ?_, ?_, ?_, ?_, ?_, ?_, ?_, ?_, ?_, ?_, ?_, ?_, ?_, ?_, ?_, ?_, ?_, ?_, ?_, ?_, ?_, ?_, trivial⟩
   ·
    intro g12
    have g12p0 : (Xpr.Kind e) = 1 := (Go.Am.beq_pos g12)
    assumption
   ·
    intro g13
    have g13p0 : (Xpr.Kind e) = 1 := (Go.Am.beq_pos g13)
    assumption
   ·
    intro g14
    have g14p0 : (Xpr.Kind e) = 1 := (Go.Am.beq_pos g14)
    assumption
   ·
    intro g15
    have g15p0 : (Xpr.Kind e) = 1 := (Go.Am.beq_pos g15)
    assumption
   ·
    intro g16
    have g16p0 : (Xpr.Kind e) = 1 := (Go.Am.beq_pos g16)
    assumption
   ·
    intro g17
    have g17p0 : (Xpr.Kind e) = 1 := (Go.Am.beq_pos (g17).1)
    have g17p1 : ¬ ((Xpr.Col e) < 0) := (of_decide_eq_false (g17).2)
    assumption
   ·
    intro g18
    have g18p0 : (Xpr.Kind e) = 1 := (Go.Am.beq_pos (g18).1)
    have g18p1 : ¬ ((Xpr.Col e) < 0) := (of_decide_eq_false (g18).2)
    assumption
   ·
    intro g19
    have g19p0 : (Xpr.Kind e) = 1 := (Go.Am.beq_pos (g19).1)
    have g19p1 : ¬ ((Xpr.Col e) < 0) := (of_decide_eq_false (g19).2)
    assumption
   ·
    intro g20
    have g20p0 : (Xpr.Kind e) = 1 := (Go.Am.beq_pos (g20).1)
    have g20p1 : ¬ ((Xpr.Col e) < 0) := (of_decide_eq_false (g20).2)
    assumption
   ·
    intro g21
    have g21p0 : (Xpr.Kind e) = 1 := (Go.Am.beq_pos (g21).1)
    have g21p1 : ¬ ((Xpr.Col e) < 0) := (of_decide_eq_false (g21).2)
    assumption
   ·
    intro g22
    have g22p0 : (Xpr.Kind e) = 1 := (Go.Am.beq_pos g22)
    assumption
   ·
    intro g23
    have g23p0 : (Xpr.Kind e) = 1 := (Go.Am.beq_pos g23)
    intro g24
    have g24p0 : ¬ ((Xpr.Col e) < 0) := (of_decide_eq_false g24)
    exact ⟨by assumption, by assumption⟩
   ·
    intro g25
    have g25p0 : (Xpr.Kind e) = 1 := (Go.Am.beq_pos g25)
    assumption
   ·
    intro g26
    have g26p0 : ((Xpr.Kind e) ≠ 1) ∨ ((¬ ((Xpr.Col e) < 0)) ∧ (¬ (width ≤ (Xpr.Col e)))) := (Or.imp (fun h => (Go.Am.beq_neg h)) (fun h => (And.imp (fun h => (of_decide_eq_false h)) (fun h => (of_decide_eq_false h)) (Go.Am.or_neg h))) (Go.Am.and_neg g26))
    assumption
   ·
    intro g27
    have g27p0 : ((Xpr.Kind e) ≠ 1) ∨ ((¬ ((Xpr.Col e) < 0)) ∧ (¬ (width ≤ (Xpr.Col e)))) := (Or.imp (fun h => (Go.Am.beq_neg h)) (fun h => (And.imp (fun h => (of_decide_eq_false h)) (fun h => (of_decide_eq_false h)) (Go.Am.or_neg h))) (Go.Am.and_neg g27))
    assumption
   ·
    intro g28
    have g28p0 : ((Xpr.Kind e) ≠ 1) ∨ ((¬ ((Xpr.Col e) < 0)) ∧ (¬ (width ≤ (Xpr.Col e)))) := (Or.imp (fun h => (Go.Am.beq_neg h)) (fun h => (And.imp (fun h => (of_decide_eq_false h)) (fun h => (of_decide_eq_false h)) (Go.Am.or_neg h))) (Go.Am.and_neg g28))
    assumption
   ·
    intro g29
    have g29p0 : ((Xpr.Kind e) ≠ 1) ∨ ((¬ ((Xpr.Col e) < 0)) ∧ (¬ (width ≤ (Xpr.Col e)))) := (Or.imp (fun h => (Go.Am.beq_neg h)) (fun h => (And.imp (fun h => (of_decide_eq_false h)) (fun h => (of_decide_eq_false h)) (Go.Am.or_neg h))) (Go.Am.and_neg g29))
    assumption
   ·
    intro g30
    have g30p0 : ((Xpr.Kind e) ≠ 1) ∨ ((¬ ((Xpr.Col e) < 0)) ∧ (¬ (width ≤ (Xpr.Col e)))) := (Or.imp (fun h => (Go.Am.beq_neg h)) (fun h => (And.imp (fun h => (of_decide_eq_false h)) (fun h => (of_decide_eq_false h)) (Go.Am.or_neg h))) (Go.Am.and_neg g30))
    assumption
   ·
    intro g31
    have g31p0 : ((Xpr.Kind e) ≠ 1) ∨ ((¬ ((Xpr.Col e) < 0)) ∧ (¬ (width ≤ (Xpr.Col e)))) := (Or.imp (fun h => (Go.Am.beq_neg h)) (fun h => (And.imp (fun h => (of_decide_eq_false h)) (fun h => (of_decide_eq_false h)) (Go.Am.or_neg h))) (Go.Am.and_neg (g31).1))
    have g31p1 : (Xpr.Kind e) ≠ 1 := (Go.Am.bne_pos (g31).2)
    assumption
   ·
    intro g32
    have g32p0 : ((Xpr.Kind e) ≠ 1) ∨ ((¬ ((Xpr.Col e) < 0)) ∧ (¬ (width ≤ (Xpr.Col e)))) := (Or.imp (fun h => (Go.Am.beq_neg h)) (fun h => (And.imp (fun h => (of_decide_eq_false h)) (fun h => (of_decide_eq_false h)) (Go.Am.or_neg h))) (Go.Am.and_neg (g32).1))
    have g32p1 : (Xpr.Kind e) ≠ 1 := (Go.Am.bne_pos (g32).2)
    assumption
   ·
    intro g33
    have g33p0 : ((Xpr.Kind e) ≠ 1) ∨ ((¬ ((Xpr.Col e) < 0)) ∧ (¬ (width ≤ (Xpr.Col e)))) := (Or.imp (fun h => (Go.Am.beq_neg h)) (fun h => (And.imp (fun h => (of_decide_eq_false h)) (fun h => (of_decide_eq_false h)) (Go.Am.or_neg h))) (Go.Am.and_neg (g33).1))
    have g33p1 : (Xpr.Kind e) ≠ 1 := (Go.Am.bne_pos (g33).2)
    assumption
   ·
    intro g34
    have g34p0 : ((Xpr.Kind e) ≠ 1) ∨ ((¬ ((Xpr.Col e) < 0)) ∧ (¬ (width ≤ (Xpr.Col e)))) := (Or.imp (fun h => (Go.Am.beq_neg h)) (fun h => (And.imp (fun h => (of_decide_eq_false h)) (fun h => (of_decide_eq_false h)) (Go.Am.or_neg h))) (Go.Am.and_neg (g34).1))
    have g34p1 : (Xpr.Kind e) ≠ 1 := (Go.Am.bne_pos (g34).2)
    assumption
   ·
    intro g35
    have g35p0 : ((Xpr.Kind e) ≠ 1) ∨ ((¬ ((Xpr.Col e) < 0)) ∧ (¬ (width ≤ (Xpr.Col e)))) := (Or.imp (fun h => (Go.Am.beq_neg h)) (fun h => (And.imp (fun h => (of_decide_eq_false h)) (fun h => (of_decide_eq_false h)) (Go.Am.or_neg h))) (Go.Am.and_neg g35))
    assumption
   ·
    intro g36
    have g36p0 : ((Xpr.Kind e) ≠ 1) ∨ ((¬ ((Xpr.Col e) < 0)) ∧ (¬ (width ≤ (Xpr.Col e)))) := (Or.imp (fun h => (Go.Am.beq_neg h)) (fun h => (And.imp (fun h => (of_decide_eq_false h)) (fun h => (of_decide_eq_false h)) (Go.Am.or_neg h))) (Go.Am.and_neg g36))
    intro g37
    have g37p0 : (Xpr.Kind e) ≠ 1 := (Go.Am.bne_pos g37)
    exact ⟨by assumption, by assumption⟩
   ·
    intro g38
    have g38p0 : ((Xpr.Kind e) ≠ 1) ∨ ((¬ ((Xpr.Col e) < 0)) ∧ (¬ (width ≤ (Xpr.Col e)))) := (Or.imp (fun h => (Go.Am.beq_neg h)) (fun h => (And.imp (fun h => (of_decide_eq_false h)) (fun h => (of_decide_eq_false h)) (Go.Am.or_neg h))) (Go.Am.and_neg g38))
    assumption
  refine AW.cd (bif (bif ((Xpr.Kind e) == 1) then (bif (decide ((Xpr.Col e) < 0)) then true else (decide (width ≤ (Xpr.Col e)))) else false) then true else (bif ((Xpr.Kind e) != 1) then ((Xpr.Col e) != 0) else false)) ?_ ?_
  ·
   intro h39
   have h39q : (((Xpr.Kind e) = 1) ∧ (((Xpr.Col e) < 0) ∨ (width ≤ (Xpr.Col e)))) ∨ (((Xpr.Kind e) ≠ 1) ∧ ((Xpr.Col e) ≠ 0)) := (Or.imp (fun h => (And.imp (fun h => (Go.Am.beq_pos h)) (fun h => (Or.imp (fun h => (of_decide_eq_true h)) (fun h => (of_decide_eq_true h)) (Go.Am.or_pos h))) (Go.Am.and_pos h))) (fun h => (And.imp (fun h => (Go.Am.bne_pos h)) (fun h => (Go.Am.bne_pos h)) (Go.Am.and_pos h))) (Go.Am.or_pos h39))
   have e40 := e11.trans (Go.Am.bif_t h39)
   refine AW.seq (AW.r1 hC [6] [] ⟨[(6, sB false)], []⟩ ?_)
   exact AW.ret (AW.rB false e40)
  ·
   intro h41
   have h41q : (((Xpr.Kind e) ≠ 1) ∨ ((¬ ((Xpr.Col e) < 0)) ∧ (¬ (width ≤ (Xpr.Col e))))) ∧ (((Xpr.Kind e) = 1) ∨ ((Xpr.Col e) = 0)) := (And.imp (fun h => (Or.imp (fun h => (Go.Am.beq_neg h)) (fun h => (And.imp (fun h => (of_decide_eq_false h)) (fun h => (of_decide_eq_false h)) (Go.Am.or_neg h))) (Go.Am.and_neg h))) (fun h => (Or.imp (fun h => (Go.Am.bne_neg h)) (fun h => (Go.Am.bne_neg h)) (Go.Am.and_neg h))) (Go.Am.or_neg h41))
   have e42 := e11.trans (Go.Am.bif_f h41)
   refine AW.kp [0, 1, 2] [] ⟨[(0, sR3 e), (1, sI width), (2, sI levels)], []⟩ ?_
   refine AW.skip (AW.seq (AW.seq (AW.r0 hC [0, 1, 2, 90] [] ⟨[(0, sR3 e), (1, sI width), (2, sI levels), (90, sB (bif (bif ((Xpr.Kind e) == 2) then (!(valValid (Xpr.V e))) else false) then true else (bif ((Xpr.Kind e) != 2) then (!(bif ((Val.Null (Xpr.V e)) == false) then (bif ((Val.N (Xpr.V e)) == 0) then true else false) else false)) else false)))], []⟩ [((((Xpr.Kind e) == 2) = true) → ((((Xpr.Kind e) == 2) = true))), ((((Xpr.Kind e) == 2) = true) → ((((Xpr.Kind e) == 2) = true))), ((((Xpr.Kind e) == 2) = true) → ((((Xpr.Kind e) == 2) = true))), ((((Xpr.Kind e) == 2) = true) → ((((Xpr.Kind e) == 2) = true))), ((((Xpr.Kind e) == 2) = true) → (True)), ((((Xpr.Kind e) == 2) = true) → ((((Xpr.Kind e) == 2) = true))), ((((Xpr.Kind e) == 2) = true) → ((((Xpr.Kind e) == 2) = true))), (((bif ((Xpr.Kind e) == 2) then (!(valValid (Xpr.V e))) else false) = false) → (((bif ((Xpr.Kind e) == 2) then (!(valValid (Xpr.V e))) else false) = false))), (((bif ((Xpr.Kind e) == 2) then (!(valValid (Xpr.V e))) else false) = false) → (((bif ((Xpr.Kind e) == 2) then (!(valValid (Xpr.V e))) else false) = false))), (((bif ((Xpr.Kind e) == 2) then (!(valValid (Xpr.V e))) else false) = false) → (((bif ((Xpr.Kind e) == 2) then (!(valValid (Xpr.V e))) else false) = false))), (((bif ((Xpr.Kind e) == 2) then (!(valValid (Xpr.V e))) else false) = false) → (((bif ((Xpr.Kind e) == 2) then (!(valValid (Xpr.V e))) else false) = false))), (((bif ((Xpr.Kind e) == 2) then (!(valValid (Xpr.V e))) else false) = false) → (((bif ((Xpr.Kind e) == 2) then (!(valValid (Xpr.V e))) else false) = false))), ((((bif ((Xpr.Kind e) == 2) then (!(valValid (Xpr.V e))) else false) = false) ∧ (((Xpr.Kind e) != 2) = true)) → ((((bif ((Xpr.Kind e) == 2) then (!(valValid (Xpr.V e))) else false) = false) ∧ (((Xpr.Kind e) != 2) = true)))), ((((bif ((Xpr.Kind e) == 2) then (!(valValid (Xpr.V e))) else false) = false) ∧ (((Xpr.Kind e) != 2) = true)) → ((((bif ((Xpr.Kind e) == 2) then (!(valValid (Xpr.V e))) else false) = false) ∧ (((Xpr.Kind e) != 2) = true)))), ((((bif ((Xpr.Kind e) == 2) then (!(valValid (Xpr.V e))) else false) = false) ∧ (((Xpr.Kind e) != 2) = true)) → ((((bif ((Xpr.Kind e) == 2) then (!(valValid (Xpr.V e))) else false) = false) ∧ (((Xpr.Kind e) != 2) = true)))), ((((bif ((Xpr.Kind e) == 2) then (!(valValid (Xpr.V e))) else false) = false) ∧ (((Xpr.Kind e) != 2) = true)) → ((((bif ((Xpr.Kind e) == 2) then (!(valValid (Xpr.V e))) else false) = false) ∧ (((Xpr.Kind e) != 2) = true)))), ((((bif ((Xpr.Kind e) == 2) then (!(valValid (Xpr.V e))) else false) = false) ∧ (((Xpr.Kind e) != 2) = true)) → ((((bif ((Xpr.Kind e) == 2) then (!(valValid (Xpr.V e))) else false) = false) ∧ (((Xpr.Kind e) != 2) = true)))), (((bif ((Xpr.Kind e) == 2) then (!(valValid (Xpr.V e))) else false) = false) → (((bif ((Xpr.Kind e) == 2) then (!(valValid (Xpr.V e))) else false) = false))), (((bif ((Xpr.Kind e) == 2) then (!(valValid (Xpr.V e))) else false) = false) → ((((Xpr.Kind e) != 2) = true) → ((((bif ((Xpr.Kind e) == 2) then (!(valValid (Xpr.V e))) else false) = false) ∧ (((Xpr.Kind e) != 2) = true))))), (((bif ((Xpr.Kind e) == 2) then (!(valValid (Xpr.V e))) else false) = false) → (((bif ((Xpr.Kind e) == 2) then (!(valValid (Xpr.V e))) else false) = false)))] ?_ ?_)))
   ·
    refine ⟨?_, ?_, ?_, ?_, ?_, ?_, ?_, ?_, ?_, ?_, ?_, ?_, ?_, ?_, ?_, ?_, ?_, ?_, ?_, ?_, trivial⟩
    ·
     intro g43
     have g43p0 : (Xpr.Kind e) = 2 := (Go.Am.beq_pos g43)
     assumption
    ·
     intro g44
     have g44p0 : (Xpr.Kind e) = 2 := (Go.Am.beq_pos g44)
     assumption
    ·
     intro g45
     have g45p0 : (Xpr.Kind e) = 2 := (Go.Am.beq_pos g45)
     assumption
    ·
     intro g46
     have g46p0 : (Xpr.Kind e) = 2 := (Go.Am.beq_pos g46)
     assumption
    ·
     intro g47
     have g47p0 : (Xpr.Kind e) = 2 := (Go.Am.beq_pos g47)
     trivial
    ·
     intro g48
     have g48p0 : (Xpr.Kind e) = 2 := (Go.Am.beq_pos g48)
     assumption
    ·
     intro g49
     have g49p0 : (Xpr.Kind e) = 2 := (Go.Am.beq_pos g49)
     assumption
    ·
     intro g50
     have g50p0 : ((Xpr.Kind e) ≠ 2) ∨ ((valValid (Xpr.V e)) = true) := (Or.imp (fun h => (Go.Am.beq_neg h)) (fun h => (Go.Am.not_neg h)) (Go.Am.and_neg g50))
     assumption
    ·
     intro g51
     have g51p0 : ((Xpr.Kind e) ≠ 2) ∨ ((valValid (Xpr.V e)) = true) := (Or.imp (fun h => (Go.Am.beq_neg h)) (fun h => (Go.Am.not_neg h)) (Go.Am.and_neg g51))
     assumption
    ·
     intro g52
     have g52p0 : ((Xpr.Kind e) ≠ 2) ∨ ((valValid (Xpr.V e)) = true) := (Or.imp (fun h => (Go.Am.beq_neg h)) (fun h => (Go.Am.not_neg h)) (Go.Am.and_neg g52))
     assumption
    ·
     intro g53
     have g53p0 : ((Xpr.Kind e) ≠ 2) ∨ ((valValid (Xpr.V e)) = true) := (Or.imp (fun h => (Go.Am.beq_neg h)) (fun h => (Go.Am.not_neg h)) (Go.Am.and_neg g53))
     assumption
    ·
     intro g54
     have g54p0 : ((Xpr.Kind e) ≠ 2) ∨ ((valValid (Xpr.V e)) = true) := (Or.imp (fun h => (Go.Am.beq_neg h)) (fun h => (Go.Am.not_neg h)) (Go.Am.and_neg g54))
     assumption
    ·
     intro g55
     have g55p0 : ((Xpr.Kind e) ≠ 2) ∨ ((valValid (Xpr.V e)) = true) := (Or.imp (fun h => (Go.Am.beq_neg h)) (fun h => (Go.Am.not_neg h)) (Go.Am.and_neg (g55).1))
     have g55p1 : (Xpr.Kind e) ≠ 2 := (Go.Am.bne_pos (g55).2)
     assumption
    ·
     intro g56
     have g56p0 : ((Xpr.Kind e) ≠ 2) ∨ ((valValid (Xpr.V e)) = true) := (Or.imp (fun h => (Go.Am.beq_neg h)) (fun h => (Go.Am.not_neg h)) (Go.Am.and_neg (g56).1))
     have g56p1 : (Xpr.Kind e) ≠ 2 := (Go.Am.bne_pos (g56).2)
     assumption
    ·
     intro g57
     have g57p0 : ((Xpr.Kind e) ≠ 2) ∨ ((valValid (Xpr.V e)) = true) := (Or.imp (fun h => (Go.Am.beq_neg h)) (fun h => (Go.Am.not_neg h)) (Go.Am.and_neg (g57).1))
     have g57p1 : (Xpr.Kind e) ≠ 2 := (Go.Am.bne_pos (g57).2)
     assumption
    ·
     intro g58
     have g58p0 : ((Xpr.Kind e) ≠ 2) ∨ ((valValid (Xpr.V e)) = true) := (Or.imp (fun h => (Go.Am.beq_neg h)) (fun h => (Go.Am.not_neg h)) (Go.Am.and_neg (g58).1))
     have g58p1 : (Xpr.Kind e) ≠ 2 := (Go.Am.bne_pos (g58).2)
     assumption
    ·
     intro g59
     have g59p0 : ((Xpr.Kind e) ≠ 2) ∨ ((valValid (Xpr.V e)) = true) := (Or.imp (fun h => (Go.Am.beq_neg h)) (fun h => (Go.Am.not_neg h)) (Go.Am.and_neg (g59).1))
     have g59p1 : (Xpr.Kind e) ≠ 2 := (Go.Am.bne_pos (g59).2)
     assumption
    ·
     intro g60
     have g60p0 : ((Xpr.Kind e) ≠ 2) ∨ ((valValid (Xpr.V e)) = true) := (Or.imp (fun h => (Go.Am.beq_neg h)) (fun h => (Go.Am.not_neg h)) (Go.Am.and_neg g60))
     assumption
    ·
     intro g61
     have g61p0 : ((Xpr.Kind e) ≠ 2) ∨ ((valValid (Xpr.V e)) = true) := (Or.imp (fun h => (Go.Am.beq_neg h)) (fun h => (Go.Am.not_neg h)) (Go.Am.and_neg g61))
     intro g62
     have g62p0 : (Xpr.Kind e) ≠ 2 := (Go.Am.bne_pos g62)
     exact ⟨by assumption, by assumption⟩
    ·
     intro g63
     have g63p0 : ((Xpr.Kind e) ≠ 2) ∨ ((valValid (Xpr.V e)) = true) := (Or.imp (fun h => (Go.Am.beq_neg h)) (fun h => (Go.Am.not_neg h)) (Go.Am.and_neg g63))
     assumption
   refine AW.cd (bif (bif ((Xpr.Kind e) == 2) then (!(valValid (Xpr.V e))) else false) then true else (bif ((Xpr.Kind e) != 2) then (!(bif ((Val.Null (Xpr.V e)) == false) then (bif ((Val.N (Xpr.V e)) == 0) then true else false) else false)) else false)) ?_ ?_
   ·
    intro h64
    have h64q : (((Xpr.Kind e) = 2) ∧ ((valValid (Xpr.V e)) = false)) ∨ (((Xpr.Kind e) ≠ 2) ∧ ((((Val.Null (Xpr.V e)) == false) = false) ∨ (((Val.N (Xpr.V e)) ≠ 0) ∨ (true = false)))) := (Or.imp (fun h => (And.imp (fun h => (Go.Am.beq_pos h)) (fun h => (Go.Am.not_pos h)) (Go.Am.and_pos h))) (fun h => (And.imp (fun h => (Go.Am.bne_pos h)) (fun h => (Or.imp (fun h => h) (fun h => (Or.imp (fun h => (Go.Am.beq_neg h)) (fun h => h) (Go.Am.and_neg h))) (Go.Am.and_neg (Go.Am.not_pos h)))) (Go.Am.and_pos h))) (Go.Am.or_pos h64))
    have e65 := e42.trans (Go.Am.bif_t h64)
    refine AW.seq (AW.r1 hC [6] [] ⟨[(6, sB false)], []⟩ ?_)
    exact AW.ret (AW.rB false e65)
   ·
    intro h66
    have h66q : (((Xpr.Kind e) ≠ 2) ∨ ((valValid (Xpr.V e)) = true)) ∧ (((Xpr.Kind e) = 2) ∨ ((((Val.Null (Xpr.V e)) == false) = true) ∧ (((Val.N (Xpr.V e)) = 0) ∧ (true = true)))) := (And.imp (fun h => (Or.imp (fun h => (Go.Am.beq_neg h)) (fun h => (Go.Am.not_neg h)) (Go.Am.and_neg h))) (fun h => (Or.imp (fun h => (Go.Am.bne_neg h)) (fun h => (And.imp (fun h => h) (fun h => (And.imp (fun h => (Go.Am.beq_pos h)) (fun h => h) (Go.Am.and_pos h))) (Go.Am.and_pos (Go.Am.not_neg h)))) (Go.Am.and_neg h))) (Go.Am.or_neg h66))
    have e67 := e42.trans (Go.Am.bif_f h66)
    refine AW.kp [0, 1, 2] [] ⟨[(0, sR3 e), (1, sI width), (2, sI levels)], []⟩ ?_
    refine AW.skip (AW.seq (AW.seq (AW.r1 hC [0, 1, 2, 95, 96] [] ⟨[(0, sR3 e), (1, sI width), (2, sI levels), (95, sI ((List.length (Xpr.Kids e) : Nat) : Int)), (96, sI 0)], []⟩ ?_)))
    refine AW.cutQ (α := Unit) (fun x => ⟨[], []⟩) (fun x => (True) ∧ (validBelow_l0 (validBelow_r fuel) e width levels ((List.length (Xpr.Kids e)) - 0 + 1) 0) = (.inl ())) ?_ ?_
    ·
     skip
     refine AW.block (AW.loop (α := Nat) (fun x => ⟨[(0, sR3 e), (1, sI width), (2, sI levels), (95, sI ((List.length (Xpr.Kids e) : Nat) : Int)), (96, sI ((x : Nat) : Int))], []⟩) (fun x => (True) ∧ ∃ k, (List.length (Xpr.Kids e)) - x < k ∧ (validBelow_l0 (validBelow_r fuel) e width levels ((List.length (Xpr.Kids e)) - 0 + 1) 0) = validBelow_l0 (validBelow_r fuel) e width levels k x) (fun x => (List.length (Xpr.Kids e)) - x) 0 (by kernel_rfl) ⟨?_, _, Nat.lt_succ_self _, rfl⟩ ?_)
     ·
      show True
      exact trivial
     ·
      intro v96 hR
      obtain ⟨hI0, k97, hk95, e96⟩ := hR
      replace hI0 : True := hI0
      replace hk95 : (List.length (Xpr.Kids e)) - v96 < k97 := hk95
      obtain ⟨k97q, rfl⟩ : ∃ k, k97 = k + 1 := ⟨k97 - 1, by omega⟩
      refine AW.seq (AW.r1 hC [0, 1, 2, 95, 96, 97] [] ⟨[(0, sR3 e), (1, sI width), (2, sI levels), (95, sI ((List.length (Xpr.Kids e) : Nat) : Int)), (96, sI ((v96 : Nat) : Int)), (97, sB (decide (((v96 : Nat) : Int) < ((List.length (Xpr.Kids e) : Nat) : Int))))], []⟩ ?_)
      refine AW.seq (AW.cd (decide (((v96 : Nat) : Int) < ((List.length (Xpr.Kids e) : Nat) : Int))) ?_ ?_)
      ·
       intro h98
       have h98q := (of_decide_eq_true h98)
       have e99 := e96.trans (Go.Am.bif_t h98)
       refine AW.kp [0, 1, 2, 95, 96] [] ⟨[(0, sR3 e), (1, sI width), (2, sI levels), (95, sI ((List.length (Xpr.Kids e) : Nat) : Int)), (96, sI ((v96 : Nat) : Int))], []⟩ ?_
       refine AW.skip (AW.seq (AW.block (AW.seq (AW.r1 hC [0, 1, 2, 8, 95, 96] [] ⟨[(0, sR3 e), (1, sI width), (2, sI levels), (8, sI ((v96 : Nat) : Int)), (95, sI ((List.length (Xpr.Kids e) : Nat) : Int)), (96, sI ((v96 : Nat) : Int))], []⟩ ?_))))
       refine AW.seq (AW.r0 hC [0, 1, 2, 95, 96, 109] [] ⟨[(0, sR3 e), (1, sI width), (2, sI levels), (95, sI ((List.length (Xpr.Kids e) : Nat) : Int)), (96, sI ((v96 : Nat) : Int)), (109, sB (!((validBelow_r fuel) (List.getD (Xpr.Kids e) v96 Xpr.zero) width (levels - 1))))], []⟩ [IX ((v96 : Nat) : Int) ((List.length (Xpr.Kids e) : Nat) : Int), R64 (levels - 1), ((0 ≤ (levels - 1) ∧ (levels - 1) ≤ 8) ∧ SizeOf.sizeOf (List.getD (Xpr.Kids e) v96 Xpr.zero) < fuel)] ?_ ?_)
       ·
        refine ⟨?_, ?_, ?_, trivial⟩
        ·
         refine IX.of ?_
         omega
        ·
         refine R64.of ?_
         omega
        ·
         exact ⟨by omega, Nat.lt_of_lt_of_le (kid_lt (by omega)) (Nat.le_of_lt_succ hpre.2)⟩
       refine AW.cd (!((validBelow_r fuel) (List.getD (Xpr.Kids e) v96 Xpr.zero) width (levels - 1))) ?_ ?_
       ·
        intro h100
        have h100q := (Go.Am.not_pos h100)
        have e101 := e99.trans (Go.Am.bif_t h100)
        refine AW.seq (AW.r1 hC [6] [] ⟨[(6, sB false)], []⟩ ?_)
        refine AW.ret ?_
        have e102 := e67.trans (Go.Am.elim_r e101)
        exact AW.rB false e102
       ·
        intro h103
        have h103q := (Go.Am.not_neg h103)
        have e104 := e99.trans (Go.Am.bif_f h103)
        refine AW.kp [0, 1, 2, 95, 96] [] ⟨[(0, sR3 e), (1, sI width), (2, sI levels), (95, sI ((List.length (Xpr.Kids e) : Nat) : Int)), (96, sI ((v96 : Nat) : Int))], []⟩ ?_
        refine AW.skip (AW.r0 hC [0, 1, 2, 95, 96] [] ⟨[(0, sR3 e), (1, sI width), (2, sI levels), (95, sI ((List.length (Xpr.Kids e) : Nat) : Int)), (96, sI ((v96 + 1 : Nat) : Int))], []⟩ [R64 ((v96 + 1 : Nat) : Int)] ?_ ?_)
        ·
         refine ⟨?_, trivial⟩
         ·
          refine R64.of ?_
          omega
        refine AW.back (x := v96) (v96 + 1) (by kernel_rfl) ⟨?_, k97q, ?_, e104⟩ ?_
        ·
         show True
         assumption
        ·
         show (List.length (Xpr.Kids e)) - (v96 + 1) < k97q
         omega
        ·
         show (List.length (Xpr.Kids e)) - (v96 + 1) < (List.length (Xpr.Kids e)) - v96
         omega
      ·
       intro h105
       have h105q := (of_decide_eq_false h105)
       have e106 := e96.trans (Go.Am.bif_f h105)
       refine AW.kp [] [] ⟨[], []⟩ ?_
       refine AW.exit ?_
       refine AW.meet () (by kernel_rfl) ⟨?_, e106⟩
       show True
       assumption
    ·
     intro x hR
     obtain ⟨hJ0, e107⟩ := hR
     replace hJ0 : True := hJ0
     have e108 := e67.trans (Go.Am.elim_l e107)
     refine AW.seq (AW.r1 hC [6] [] ⟨[(6, sB true)], []⟩ ?_)
     exact AW.ret (AW.rB true e108)

theorem validBelow_fu : AllTV (validBelow_sp.ps.map PK.ty) (fun tvs => validBelow_sp.pre tvs → ∃ k, (validBelow_spn k).pre tvs ∧ (validBelow_spn k).fn tvs = validBelow_sp.fn tvs ∧ (validBelow_spn k).bx tvs = validBelow_sp.bx tvs) :=
 (fun (e : Xpr) (width : Int) (levels : Int) h => ⟨SizeOf.sizeOf e + 1, (show (0 ≤ levels ∧ levels ≤ 8) ∧ SizeOf.sizeOf e < SizeOf.sizeOf e + 1 from ⟨h, Nat.lt_succ_self _⟩), (show (validBelow_spn (SizeOf.sizeOf e + 1)).fn [⟨(.named 1), (e : Xpr)⟩, ⟨(.int .i64), (width : Int)⟩, ⟨(.int .i64), (levels : Int)⟩] = ([⟨.bool, (validBelow_r (SizeOf.sizeOf e + 1) e width levels)⟩] : List TV) from by kernel_rfl).trans (show ([⟨.bool, (validBelow_r (SizeOf.sizeOf e + 1) e width levels)⟩] : List TV) = validBelow_sp.fn [⟨(.named 1), (e : Xpr)⟩, ⟨(.int .i64), (width : Int)⟩, ⟨(.int .i64), (levels : Int)⟩] from by kernel_rfl), by kernel_rfl⟩)

theorem validBelow_ok : FnOK Try.prog 131 validBelow_sp := FnOK.of_fuel validBelow_okn (fun _ => rfl) (fun _ => rfl) (AllTV.get validBelow_fu)

def validExpr_l0 (self : Xpr → Int → Int → Bool) (e : Xpr) (width : Int) (deep : Int) : Nat → Nat → Unit ⊕ Bool
 | 0, i => .inl ()
 | k + 1, i => (bif (decide (((i : Nat) : Int) < ((List.length (Xpr.Kids e) : Nat) : Int))) then (bif (!(self (List.getD (Xpr.Kids e) i Xpr.zero) width (deep - 1))) then (.inr false) else (validExpr_l0 self e width deep k (i + 1))) else (.inl ()))

def validExpr_r : Nat → Xpr → Int → Int → Bool
 | 0, e, width, deep => false
 | fuel + 1, e, width, deep => (bif (bif (((List.length (Xpr.Kids e) : Nat) : Int) != (kidsOf (Xpr.Kind e))) then true else (bif (decide (0 < ((List.length (Xpr.Kids e) : Nat) : Int))) then (deep == 0) else false)) then false else (Sum.elim (fun _ => (bif ((Xpr.Kind e) == 1) then (bif (inRange (Xpr.Col e) 0 (width - 1)) then (bif ((Val.Null (Xpr.V e)) == false) then (bif ((Val.N (Xpr.V e)) == 0) then true else false) else false) else false) else (bif ((Xpr.Kind e) == 2) then (bif ((Xpr.Col e) == 0) then (validValue (Xpr.V e)) else false) else (bif ((Xpr.Col e) == 0) then (bif ((Val.Null (Xpr.V e)) == false) then (bif ((Val.N (Xpr.V e)) == 0) then true else false) else false) else false)))) (fun r => r) (validExpr_l0 (validExpr_r fuel) e width deep ((List.length (Xpr.Kids e)) - 0 + 1) 0)))

def validExpr (e : Xpr) (width : Int) (deep : Int) : Bool := validExpr_r (SizeOf.sizeOf e + 1) e width deep

def validExpr_spn (fuel : Nat) : FnSpec := mkSpec [.val (.named 1), .val (.int .i64), .val (.int .i64)] [.val .bool] (fun (e : Xpr) (width : Int) (deep : Int) => ((0 ≤ deep ∧ deep ≤ 8) ∧ (1 ≤ width ∧ width ≤ 6)) ∧ SizeOf.sizeOf e < fuel) (fun (e : Xpr) (width : Int) (deep : Int) => [⟨.bool, (validExpr_r fuel e width deep)⟩])

def validExpr_sp : FnSpec := mkSpec [.val (.named 1), .val (.int .i64), .val (.int .i64)] [.val .bool] (fun (e : Xpr) (width : Int) (deep : Int) => (0 ≤ deep ∧ deep ≤ 8) ∧ (1 ≤ width ∧ width ≤ 6)) (fun (e : Xpr) (width : Int) (deep : Int) => [⟨.bool, (validExpr e width deep)⟩])

theorem validExpr_okn (fuel : Nat) : FnOK Try.prog 126 (validExpr_spn fuel) := by
 induction fuel with
 | zero => exact FnOK.never Try.func126 (by kernel_rfl) rfl (fun _ _ _ h => absurd h.2 (Nat.not_lt_zero _))
 | succ fuel ih => ?_
 have hC : CtxOK Try.prog (mkCtx tyL [(88, inRange_sp), (126, (validExpr_spn fuel)), (152, kidsOf_sp), (153, validValue_sp)]) := CtxOK.cons inRange_ok (CtxOK.cons ih (CtxOK.cons kidsOf_ok (CtxOK.cons validValue_ok (CtxOK.nil tyOK))))
 have hM : Try.prog.follows .mixedOrders = true := Try.checked.mixed
 refine FnOK.of_body Try.func126 (by kernel_rfl) rfl (C := (mkCtx tyL [(88, inRange_sp), (126, (validExpr_spn fuel)), (152, kidsOf_sp), (153, validValue_sp)])) hC.ty (by kernel_rfl) ?_
 intro (e : Xpr) (width : Int) (deep : Int) hwf hpre E
 have hpre : ((0 ≤ deep ∧ deep ≤ 8) ∧ (1 ≤ width ∧ width ≤ 6)) ∧ SizeOf.sizeOf e < fuel + 1 := hpre
 have hw_e : Wf ⟨(.named 1), (e : Xpr)⟩ := hwf _ (List.Mem.head _)
 obtain ⟨hr_e_Kind, hr_e_Col, hl_e_Kids⟩ := Xpr.wfl hw_e
 have hw_width : Wf ⟨(.int .i64), (width : Int)⟩ := hwf _ (List.Mem.tail _ (List.Mem.head _))
 have hr_width : -9223372036854775808 ≤ width ∧ width ≤ 9223372036854775807 := hw_width.int_inv
 have hw_deep : Wf ⟨(.int .i64), (deep : Int)⟩ := hwf _ (List.Mem.tail _ (List.Mem.tail _ (List.Mem.head _)))
 have hr_deep : -9223372036854775808 ≤ deep ∧ deep ≤ 9223372036854775807 := hw_deep.int_inv
 have e0 : validExpr_r (fuel + 1) e width deep = validExpr_r (fuel + 1) e width deep := rfl
 refine AW.seq (AW.r1 hC [1, 2, 3] [12] ⟨[(1, sI width), (2, sI deep), (3, .ref 12 1 0)], [(12, .box 1 [sI (Xpr.Kind e), sI (Xpr.Col e), sB (Val.Null (Xpr.V e)), sI (Val.N (Xpr.V e)), sD9 (Xpr.Kids e)])]⟩ ?_)
 refine AW.seq (AW.seq (AW.d0 hC hM [1, 2, 3, 24] [12] ⟨[(1, sI width), (2, sI deep), (3, .ref 12 1 0), (24, sB (bif (((List.length (Xpr.Kids e) : Nat) : Int) != (kidsOf (Xpr.Kind e))) then true else (bif (decide (0 < ((List.length (Xpr.Kids e) : Nat) : Int))) then (deep == 0) else false)))], [(12, .box 1 [sI (Xpr.Kind e), sI (Xpr.Col e), sB (Val.Null (Xpr.V e)), sI (Val.N (Xpr.V e)), sD9 (Xpr.Kids e)])]⟩ [(True), (((((List.length (Xpr.Kids e) : Nat) : Int) != (kidsOf (Xpr.Kind e))) = false) → (((((List.length (Xpr.Kids e) : Nat) : Int) != (kidsOf (Xpr.Kind e))) = false))), (((((List.length (Xpr.Kids e) : Nat) : Int) != (kidsOf (Xpr.Kind e))) = false) → (((((List.length (Xpr.Kids e) : Nat) : Int) != (kidsOf (Xpr.Kind e))) = false))), (((((List.length (Xpr.Kids e) : Nat) : Int) != (kidsOf (Xpr.Kind e))) = false) → (((((List.length (Xpr.Kids e) : Nat) : Int) != (kidsOf (Xpr.Kind e))) = false))), (((((List.length (Xpr.Kids e) : Nat) : Int) != (kidsOf (Xpr.Kind e))) = false) → (((((List.length (Xpr.Kids e) : Nat) : Int) != (kidsOf (Xpr.Kind e))) = false))), ((((((List.length (Xpr.Kids e) : Nat) : Int) != (kidsOf (Xpr.Kind e))) = false) ∧ ((decide (0 < ((List.length (Xpr.Kids e) : Nat) : Int))) = true)) → ((((((List.length (Xpr.Kids e) : Nat) : Int) != (kidsOf (Xpr.Kind e))) = false) ∧ ((decide (0 < ((List.length (Xpr.Kids e) : Nat) : Int))) = true)))), (((((List.length (Xpr.Kids e) : Nat) : Int) != (kidsOf (Xpr.Kind e))) = false) → (((((List.length (Xpr.Kids e) : Nat) : Int) != (kidsOf (Xpr.Kind e))) = false))), (((((List.length (Xpr.Kids e) : Nat) : Int) != (kidsOf (Xpr.Kind e))) = false) → (((decide (0 < ((List.length (Xpr.Kids e) : Nat) : Int))) = true) → ((((((List.length (Xpr.Kids e) : Nat) : Int) != (kidsOf (Xpr.Kind e))) = false) ∧ ((decide (0 < ((List.length (Xpr.Kids e) : Nat) : Int))) = true))))), (((((List.length (Xpr.Kids e) : Nat) : Int) != (kidsOf (Xpr.Kind e))) = false) → (((((List.length (Xpr.Kids e) : Nat) : Int) != (kidsOf (Xpr.Kind e))) = false)))] ?_ ?_))
 ·
  refine ⟨?_, ?_, ?_, ?_, ?_, ?_, ?_, ?_, ?_, trivial⟩
  ·
   trivial
  ·
   intro g1
   have g1p0 : ((List.length (Xpr.Kids e) : Nat) : Int) = (kidsOf (Xpr.Kind e)) := (Go.Am.bne_neg g1)
   assumption
  ·
   intro g2
   have g2p0 : ((List.length (Xpr.Kids e) : Nat) : Int) = (kidsOf (Xpr.Kind e)) := (Go.Am.bne_neg g2)
   assumption
  ·
   intro g3
   have g3p0 : ((List.length (Xpr.Kids e) : Nat) : Int) = (kidsOf (Xpr.Kind e)) := (Go.Am.bne_neg g3)
   assumption
  ·
   intro g4
   have g4p0 : ((List.length (Xpr.Kids e) : Nat) : Int) = (kidsOf (Xpr.Kind e)) := (Go.Am.bne_neg g4)
   assumption
  ·
   intro g5
   have g5p0 : ((List.length (Xpr.Kids e) : Nat) : Int) = (kidsOf (Xpr.Kind e)) := (Go.Am.bne_neg (g5).1)
   have g5p1 : 0 < ((List.length (Xpr.Kids e) : Nat) : Int) := (of_decide_eq_true (g5).2)
   assumption
  ·
   intro g6
   have g6p0 : ((List.length (Xpr.Kids e) : Nat) : Int) = (kidsOf (Xpr.Kind e)) := (Go.Am.bne_neg g6)
   assumption
  ·
   intro g7
   have g7p0 : ((List.length (Xpr.Kids e) : Nat) : Int) = (kidsOf (Xpr.Kind e)) := (Go.Am.bne_neg g7)
   intro g8
   have g8p0 : 0 < ((List.length (Xpr.Kids e) : Nat) : Int) := (of_decide_eq_true g8)
   exact ⟨by assumption, by assumption⟩
  ·
   intro g9
   have g9p0 : ((List.length (Xpr.Kids e) : Nat) : Int) = (kidsOf (Xpr.Kind e)) := (Go.Am.bne_neg g9)
   assumption
 refine AW.cd (bif (((List.length (Xpr.Kids e) : Nat) : Int) != (kidsOf (Xpr.Kind e))) then true else (bif (decide (0 < ((List.length (Xpr.Kids e) : Nat) : Int))) then (deep == 0) else false)) ?_ ?_
 ·
  intro h10
  have h10q : (((List.length (Xpr.Kids e) : Nat) : Int) ≠ (kidsOf (Xpr.Kind e))) ∨ ((0 < ((List.length (Xpr.Kids e) : Nat) : Int)) ∧ (deep = 0)) := (Or.imp (fun h => (Go.Am.bne_pos h)) (fun h => (And.imp (fun h => (of_decide_eq_true h)) (fun h => (Go.Am.beq_pos h)) (Go.Am.and_pos h))) (Go.Am.or_pos h10))
  have e11 := e0.trans (Go.Am.bif_t h10)
  refine AW.seq (AW.r1 hC [6] [] ⟨[(6, sB false)], []⟩ ?_)
  exact AW.ret (AW.rB false e11)
 ·
  intro h12
  have h12q : (((List.length (Xpr.Kids e) : Nat) : Int) = (kidsOf (Xpr.Kind e))) ∧ ((¬ (0 < ((List.length (Xpr.Kids e) : Nat) : Int))) ∨ (deep ≠ 0)) := (And.imp (fun h => (Go.Am.bne_neg h)) (fun h => (Or.imp (fun h => (of_decide_eq_false h)) (fun h => (Go.Am.beq_neg h)) (Go.Am.and_neg h))) (Go.Am.or_neg h12))
  have e13 := e0.trans (Go.Am.bif_f h12)
  refine AW.kp [1, 2, 3] [12] ⟨[(1, sI width), (2, sI deep), (3, .ref 12 1 0)], [(12, .box 1 [sI (Xpr.Kind e), sI (Xpr.Col e), sB (Val.Null (Xpr.V e)), sI (Val.N (Xpr.V e)), sD9 (Xpr.Kids e)])]⟩ ?_
  refine AW.skip (AW.seq (AW.seq (AW.r1 hC [1, 2, 3, 7] [12] ⟨[(1, sI width), (2, sI deep), (3, .ref 12 1 0), (7, sI 0)], [(12, .box 1 [sI (Xpr.Kind e), sI (Xpr.Col e), sB (Val.Null (Xpr.V e)), sI (Val.N (Xpr.V e)), sD9 (Xpr.Kids e)])]⟩ ?_)))
  refine AW.cutQ (α := Unit) (fun x => ⟨[(1, sI width), (3, .ref 12 1 0)], [(12, .box 1 [sI (Xpr.Kind e), sI (Xpr.Col e), sB (Val.Null (Xpr.V e)), sI (Val.N (Xpr.V e)), sD9 (Xpr.Kids e)])]⟩) (fun x => (True) ∧ (validExpr_l0 (validExpr_r fuel) e width deep ((List.length (Xpr.Kids e)) - 0 + 1) 0) = (.inl ())) ?_ ?_
  ·
   skip
   refine AW.block (AW.loop (α := Nat) (fun x => ⟨[(1, sI width), (2, sI deep), (3, .ref 12 1 0), (7, sI ((x : Nat) : Int))], [(12, .box 1 [sI (Xpr.Kind e), sI (Xpr.Col e), sB (Val.Null (Xpr.V e)), sI (Val.N (Xpr.V e)), sD9 (Xpr.Kids e)])]⟩) (fun x => (True) ∧ ∃ k, (List.length (Xpr.Kids e)) - x < k ∧ (validExpr_l0 (validExpr_r fuel) e width deep ((List.length (Xpr.Kids e)) - 0 + 1) 0) = validExpr_l0 (validExpr_r fuel) e width deep k x) (fun x => (List.length (Xpr.Kids e)) - x) 0 (by kernel_rfl) ⟨?_, _, Nat.lt_succ_self _, rfl⟩ ?_)
   ·
    show True
    exact trivial
   ·
    intro i hR
    obtain ⟨hI0, k43, hk41, e42⟩ := hR
    replace hI0 : True := hI0
    replace hk41 : (List.length (Xpr.Kids e)) - i < k43 := hk41
    obtain ⟨k43q, rfl⟩ : ∃ k, k43 = k + 1 := ⟨k43 - 1, by omega⟩
    refine AW.seq (AW.seq (AW.r1 hC [1, 2, 3, 7, 29] [12] ⟨[(1, sI width), (2, sI deep), (3, .ref 12 1 0), (7, sI ((i : Nat) : Int)), (29, sB (decide (((i : Nat) : Int) < ((List.length (Xpr.Kids e) : Nat) : Int))))], [(12, .box 1 [sI (Xpr.Kind e), sI (Xpr.Col e), sB (Val.Null (Xpr.V e)), sI (Val.N (Xpr.V e)), sD9 (Xpr.Kids e)])]⟩ ?_))
    refine AW.cd (decide (((i : Nat) : Int) < ((List.length (Xpr.Kids e) : Nat) : Int))) ?_ ?_
    ·
     intro h44
     have h44q := (of_decide_eq_true h44)
     have e45 := e42.trans (Go.Am.bif_t h44)
     refine AW.kp [1, 2, 3, 7] [12] ⟨[(1, sI width), (2, sI deep), (3, .ref 12 1 0), (7, sI ((i : Nat) : Int))], [(12, .box 1 [sI (Xpr.Kind e), sI (Xpr.Col e), sB (Val.Null (Xpr.V e)), sI (Val.N (Xpr.V e)), sD9 (Xpr.Kids e)])]⟩ ?_
     refine AW.skip (AW.seq (AW.block (AW.seq (AW.r0 hC [1, 2, 3, 7, 41] [12] ⟨[(1, sI width), (2, sI deep), (3, .ref 12 1 0), (7, sI ((i : Nat) : Int)), (41, sB (!((validExpr_r fuel) (List.getD (Xpr.Kids e) i Xpr.zero) width (deep - 1))))], [(12, .box 1 [sI (Xpr.Kind e), sI (Xpr.Col e), sB (Val.Null (Xpr.V e)), sI (Val.N (Xpr.V e)), sD9 (Xpr.Kids e)])]⟩ [IX ((i : Nat) : Int) ((List.length (Xpr.Kids e) : Nat) : Int), R64 (deep - 1), (((0 ≤ (deep - 1) ∧ (deep - 1) ≤ 8) ∧ (1 ≤ width ∧ width ≤ 6)) ∧ SizeOf.sizeOf (List.getD (Xpr.Kids e) i Xpr.zero) < fuel)] ?_ ?_))))
     ·
      refine ⟨?_, ?_, ?_, trivial⟩
      ·
       refine IX.of ?_
       omega
      ·
       refine R64.of ?_
       omega
      ·
       exact ⟨by omega, Nat.lt_of_lt_of_le (kid_lt (by omega)) (Nat.le_of_lt_succ hpre.2)⟩
     refine AW.cd (!((validExpr_r fuel) (List.getD (Xpr.Kids e) i Xpr.zero) width (deep - 1))) ?_ ?_
     ·
      intro h46
      have h46q := (Go.Am.not_pos h46)
      have e47 := e45.trans (Go.Am.bif_t h46)
      refine AW.seq (AW.r1 hC [6] [] ⟨[(6, sB false)], []⟩ ?_)
      refine AW.ret ?_
      have e48 := e13.trans (Go.Am.elim_r e47)
      exact AW.rB false e48
     ·
      intro h49
      have h49q := (Go.Am.not_neg h49)
      have e50 := e45.trans (Go.Am.bif_f h49)
      refine AW.kp [1, 2, 3, 7] [12] ⟨[(1, sI width), (2, sI deep), (3, .ref 12 1 0), (7, sI ((i : Nat) : Int))], [(12, .box 1 [sI (Xpr.Kind e), sI (Xpr.Col e), sB (Val.Null (Xpr.V e)), sI (Val.N (Xpr.V e)), sD9 (Xpr.Kids e)])]⟩ ?_
      refine AW.skip (AW.r0 hC [1, 2, 3, 7] [12] ⟨[(1, sI width), (2, sI deep), (3, .ref 12 1 0), (7, sI ((i + 1 : Nat) : Int))], [(12, .box 1 [sI (Xpr.Kind e), sI (Xpr.Col e), sB (Val.Null (Xpr.V e)), sI (Val.N (Xpr.V e)), sD9 (Xpr.Kids e)])]⟩ [R64 ((i + 1 : Nat) : Int)] ?_ ?_)
      ·
       refine ⟨?_, trivial⟩
       ·
        refine R64.of ?_
        omega
      refine AW.back (x := i) (i + 1) (by kernel_rfl) ⟨?_, k43q, ?_, e50⟩ ?_
      ·
       show True
       assumption
      ·
       show (List.length (Xpr.Kids e)) - (i + 1) < k43q
       omega
      ·
       show (List.length (Xpr.Kids e)) - (i + 1) < (List.length (Xpr.Kids e)) - i
       omega
    ·
     intro h51
     have h51q := (of_decide_eq_false h51)
     have e52 := e42.trans (Go.Am.bif_f h51)
     refine AW.kp [1, 3] [12] ⟨[(1, sI width), (3, .ref 12 1 0)], [(12, .box 1 [sI (Xpr.Kind e), sI (Xpr.Col e), sB (Val.Null (Xpr.V e)), sI (Val.N (Xpr.V e)), sD9 (Xpr.Kids e)])]⟩ ?_
     refine AW.exit ?_
     refine AW.meet () (by kernel_rfl) ⟨?_, e52⟩
     show True
     assumption
  ·
   intro x hR
   obtain ⟨hJ0, e53⟩ := hR
   replace hJ0 : True := hJ0
   have e54 := e13.trans (Go.Am.elim_l e53)
   refine AW.seq (AW.seq (AW.r1 hC [1, 3, 43] [12] ⟨[(1, sI width), (3, .ref 12 1 0), (43, sI (Xpr.Kind e))], [(12, .box 1 [sI (Xpr.Kind e), sI (Xpr.Col e), sB (Val.Null (Xpr.V e)), sI (Val.N (Xpr.V e)), sD9 (Xpr.Kids e)])]⟩ ?_))
   refine AW.block (AW.seq (AW.r1 hC [1, 3, 43, 44] [12] ⟨[(1, sI width), (3, .ref 12 1 0), (43, sI (Xpr.Kind e)), (44, sB ((Xpr.Kind e) == 1))], [(12, .box 1 [sI (Xpr.Kind e), sI (Xpr.Col e), sB (Val.Null (Xpr.V e)), sI (Val.N (Xpr.V e)), sD9 (Xpr.Kids e)])]⟩ ?_))
   refine AW.cd ((Xpr.Kind e) == 1) ?_ ?_
   ·
    intro h55
    have h55q := (Go.Am.beq_pos h55)
    have e56 := e54.trans (Go.Am.bif_t h55)
    refine AW.seq (AW.r0 hC [6] [] ⟨[(6, sB (bif (inRange (Xpr.Col e) 0 (width - 1)) then (bif ((Val.Null (Xpr.V e)) == false) then (bif ((Val.N (Xpr.V e)) == 0) then true else false) else false) else false))], []⟩ [R64 (width - 1), (True), (((inRange (Xpr.Col e) 0 (width - 1)) = true) → (((inRange (Xpr.Col e) 0 (width - 1)) = true))), (((inRange (Xpr.Col e) 0 (width - 1)) = true) → (((inRange (Xpr.Col e) 0 (width - 1)) = true))), (((inRange (Xpr.Col e) 0 (width - 1)) = true) → (((inRange (Xpr.Col e) 0 (width - 1)) = true))), (((inRange (Xpr.Col e) 0 (width - 1)) = true) → (((inRange (Xpr.Col e) 0 (width - 1)) = true)))] ?_ ?_)
    ·
     refine ⟨?_, ?_, ?_, ?_, ?_, ?_, trivial⟩
     ·
      refine R64.of ?_
      omega
     ·
      trivial
     ·
      intro g57
      have g57p0 : (inRange (Xpr.Col e) 0 (width - 1)) = true := g57
      assumption
     ·
      intro g58
      have g58p0 : (inRange (Xpr.Col e) 0 (width - 1)) = true := g58
      assumption
     ·
      intro g59
      have g59p0 : (inRange (Xpr.Col e) 0 (width - 1)) = true := g59
      assumption
     ·
      intro g60
      have g60p0 : (inRange (Xpr.Col e) 0 (width - 1)) = true := g60
      assumption
    exact AW.ret (AW.rB (bif (inRange (Xpr.Col e) 0 (width - 1)) then (bif ((Val.Null (Xpr.V e)) == false) then (bif ((Val.N (Xpr.V e)) == 0) then true else false) else false) else false) e56)
   ·
    intro h61
    have h61q := (Go.Am.beq_neg h61)
    have e62 := e54.trans (Go.Am.bif_f h61)
    refine AW.seq (AW.r1 hC [3, 57] [12] ⟨[(3, .ref 12 1 0), (57, sB ((Xpr.Kind e) == 2))], [(12, .box 1 [sI (Xpr.Kind e), sI (Xpr.Col e), sB (Val.Null (Xpr.V e)), sI (Val.N (Xpr.V e)), sD9 (Xpr.Kids e)])]⟩ ?_)
    refine AW.cd ((Xpr.Kind e) == 2) ?_ ?_
    ·
     intro h63
     have h63q := (Go.Am.beq_pos h63)
     have e64 := e62.trans (Go.Am.bif_t h63)
     refine AW.seq (AW.r0 hC [6] [] ⟨[(6, sB (bif ((Xpr.Col e) == 0) then (validValue (Xpr.V e)) else false))], []⟩ [((((Xpr.Col e) == 0) = true) → ((((Xpr.Col e) == 0) = true))), ((((Xpr.Col e) == 0) = true) → ((((Xpr.Col e) == 0) = true))), ((((Xpr.Col e) == 0) = true) → (True)), ((((Xpr.Col e) == 0) = true) → ((((Xpr.Col e) == 0) = true)))] ?_ ?_)
     ·
      refine ⟨?_, ?_, ?_, ?_, trivial⟩
      ·
       intro g65
       have g65p0 : (Xpr.Col e) = 0 := (Go.Am.beq_pos g65)
       assumption
      ·
       intro g66
       have g66p0 : (Xpr.Col e) = 0 := (Go.Am.beq_pos g66)
       assumption
      ·
       intro g67
       have g67p0 : (Xpr.Col e) = 0 := (Go.Am.beq_pos g67)
       trivial
      ·
       intro g68
       have g68p0 : (Xpr.Col e) = 0 := (Go.Am.beq_pos g68)
       assumption
     exact AW.ret (AW.rB (bif ((Xpr.Col e) == 0) then (validValue (Xpr.V e)) else false) e64)
    ·
     intro h69
     have h69q := (Go.Am.beq_neg h69)
     have e70 := e62.trans (Go.Am.bif_f h69)
     refine AW.kp [3] [12] ⟨[(3, .ref 12 1 0)], [(12, .box 1 [sI (Xpr.Kind e), sI (Xpr.Col e), sB (Val.Null (Xpr.V e)), sI (Val.N (Xpr.V e)), sD9 (Xpr.Kids e)])]⟩ ?_
     refine AW.skip (AW.seq (AW.r0 hC [6] [] ⟨[(6, sB (bif ((Xpr.Col e) == 0) then (bif ((Val.Null (Xpr.V e)) == false) then (bif ((Val.N (Xpr.V e)) == 0) then true else false) else false) else false))], []⟩ [((((Xpr.Col e) == 0) = true) → ((((Xpr.Col e) == 0) = true))), ((((Xpr.Col e) == 0) = true) → ((((Xpr.Col e) == 0) = true))), ((((Xpr.Col e) == 0) = true) → ((((Xpr.Col e) == 0) = true))), ((((Xpr.Col e) == 0) = true) → ((((Xpr.Col e) == 0) = true)))] ?_ ?_))
     ·
      refine ⟨?_, ?_, ?_, ?_, trivial⟩
      ·
       intro g71
       have g71p0 : (Xpr.Col e) = 0 := (Go.Am.beq_pos g71)
       assumption
      ·
       intro g72
       have g72p0 : (Xpr.Col e) = 0 := (Go.Am.beq_pos g72)
       assumption
      ·
       intro g73
       have g73p0 : (Xpr.Col e) = 0 := (Go.Am.beq_pos g73)
       assumption
      ·
       intro g74
       have g74p0 : (Xpr.Col e) = 0 := (Go.Am.beq_pos g74)
       assumption
     exact AW.ret (AW.rB (bif ((Xpr.Col e) == 0) then (bif ((Val.Null (Xpr.V e)) == false) then (bif ((Val.N (Xpr.V e)) == 0) then true else false) else false) else false) e70)

theorem validExpr_fu : AllTV (validExpr_sp.ps.map PK.ty) (fun tvs => validExpr_sp.pre tvs → ∃ k, (validExpr_spn k).pre tvs ∧ (validExpr_spn k).fn tvs = validExpr_sp.fn tvs ∧ (validExpr_spn k).bx tvs = validExpr_sp.bx tvs) :=
 (fun (e : Xpr) (width : Int) (deep : Int) h => ⟨SizeOf.sizeOf e + 1, (show ((0 ≤ deep ∧ deep ≤ 8) ∧ (1 ≤ width ∧ width ≤ 6)) ∧ SizeOf.sizeOf e < SizeOf.sizeOf e + 1 from ⟨h, Nat.lt_succ_self _⟩), (show (validExpr_spn (SizeOf.sizeOf e + 1)).fn [⟨(.named 1), (e : Xpr)⟩, ⟨(.int .i64), (width : Int)⟩, ⟨(.int .i64), (deep : Int)⟩] = ([⟨.bool, (validExpr_r (SizeOf.sizeOf e + 1) e width deep)⟩] : List TV) from by kernel_rfl).trans (show ([⟨.bool, (validExpr_r (SizeOf.sizeOf e + 1) e width deep)⟩] : List TV) = validExpr_sp.fn [⟨(.named 1), (e : Xpr)⟩, ⟨(.int .i64), (width : Int)⟩, ⟨(.int .i64), (deep : Int)⟩] from by kernel_rfl), by kernel_rfl⟩)

theorem validExpr_ok : FnOK Try.prog 126 validExpr_sp := FnOK.of_fuel validExpr_okn (fun _ => rfl) (fun _ => rfl) (AllTV.get validExpr_fu)

end
end Go.Proofs.Ytodcdgolcbdkgaa
