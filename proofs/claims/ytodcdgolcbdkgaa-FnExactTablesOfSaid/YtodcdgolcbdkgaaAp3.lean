/-
  A part of the proof of this claim (Ap3): what functions of the program compute, and plain facts of that. No conditions.
-/
import Derived.Test.YtodcdgolcbdkgaaAp1
import Derived.Test.YtodcdgolcbdkgaaAnL
set_option linter.all false
namespace Go.Proofs.Ytodcdgolcbdkgaa
open Go Go.Am
open Go.Am.AW (seq r1U ret kpU cdE r0U r1 meet block rB bk exit lpB r0 kp d0U)
open List (length getD)
noncomputable section

theorem inRange_iff {n l h : Int} : inRange n l h = true ↔ l ≤ n ∧ n ≤ h := by
 unfold inRange; by_cases e : l ≤ n <;> simp [e]

theorem validWidth_iff {w : Int} : validWidth w = true ↔ 1 ≤ w ∧ w ≤ 6 := by
 unfold validWidth; by_cases h : 1 ≤ w <;> simp [h]

def VV (v : Val) : Prop := if v.Null = true then v.N = 0 else -9999 ≤ v.N ∧ v.N ≤ 9999

theorem valValid_iff {v : Val} : valValid v = true ↔ VV v := by
 unfold valValid VV
 cases h : v.Null with
 | true => simp
 | false =>
  by_cases h1 : -9999 ≤ v.N <;> simp [h1]

theorem validValue_iff {v : Val} : validValue v = true ↔ VV v := by
 unfold validValue VV
 cases h : v.Null with
 | true =>
  cases e : inRange v.N (-9999) 9999 with
  | false =>
   simp; intro h0; have : inRange v.N (-9999) 9999 = true := inRange_iff.2 (by omega)
   rw [e] at this
   cases this
  | true => simp
 | false =>
  cases e : inRange v.N (-9999) 9999 with
  | false =>
   simp; intro h0; rcases Int.lt_or_le 9999 v.N with h | h
   · exact h
   ·
    have : inRange v.N (-9999) 9999 = true := inRange_iff.2 (by omega)
    rw [e] at this
    cases this
  | true =>
   have := inRange_iff.1 e; simp; omega

theorem kid_lt {t : Xpr} {i : Nat} (h : i < t.Kids.length) : SizeOf.sizeOf (t.Kids.getD i Xpr.zero) < SizeOf.sizeOf t := by
 cases t with
 | mk a b c ks =>
  have := List.sizeOf_lt_of_mem (getD_mem ks i Xpr.zero h); simp only [Xpr.mk.sizeOf_spec, Xpr.Kids] at *; omega

theorem kids_eq (k : Int) : kidsOf k = kidsOfKind k := rfl

theorem kids_cases (k : Int) : (k = 1 ∨ k = 2) ∧ kidsOfKind k = 0 ∨ (k = 10 ∨ k = 11) ∧ kidsOfKind k = 1 ∨ (3 ≤ k ∧ k ≤ 9) ∧ kidsOfKind k = 2 ∨ (k < 1 ∨ 11 < k) ∧ kidsOfKind k = -1 := by
 by_cases h : 1 ≤ k ∧ k ≤ 11
 · (have : k = 1 ∨ k = 2 ∨ k = 3 ∨ k = 4 ∨ k = 5 ∨ k = 6 ∨ k = 7 ∨ k = 8 ∨ k = 9 ∨ k = 10 ∨ k = 11 := by omega); rcases this with rfl | rfl | rfl | rfl | rfl | rfl | rfl | rfl | rfl | rfl | rfl <;> decide
 · refine .inr (.inr (.inr ⟨by omega, ?_⟩)); (have e : ∀ j : Int, 1 ≤ j → j ≤ 11 → (k == j) = false := fun j h1 h2 => by simp; omega); unfold kidsOfKind kidsOfKind_j0 kidsOfKind_j1 kidsOfKind_j7 kidsOfKind_j6 kidsOfKind_j5 kidsOfKind_j4 kidsOfKind_j3 kidsOfKind_j2; simp only [andThen, e 1 (by decide) (by decide), e 2 (by decide) (by decide), e 3 (by decide) (by decide), e 4 (by decide) (by decide), e 5 (by decide) (by decide), e 6 (by decide) (by decide), e 7 (by decide) (by decide), e 8 (by decide) (by decide), e 9 (by decide) (by decide), e 10 (by decide) (by decide), e 11 (by decide) (by decide), cond_false]

def validBelow_l0 (self : Xpr → Int → Int → Bool) (e : Xpr) (width : Int) (levels : Int) : Nat → Nat → Unit ⊕ Bool
 | 0, v96 => .inl ()
 | k + 1, v96 => (bif (decide ((v96 : Int) < (length (Xpr.Kids e) : Int))) then (bif (!(self (getD (Xpr.Kids e) v96 Xpr.zero) width (levels - 1))) then (.inr false) else (validBelow_l0 self e width levels k (v96 + 1))) else (.inl ()))

def validBelow_r : Nat → Xpr → Int → Int → Bool
 | 0, e, width, levels => false
 | fuel + 1, e, width, levels => (bif (bif ((length (Xpr.Kids e) : Int) != (kidsOfKind (Xpr.Kind e))) then true else (bif (decide (0 < (kidsOfKind (Xpr.Kind e)))) then (levels == 0) else false)) then false else (bif (bif (bif ((Xpr.Kind e) == 1) then (bif (decide ((Xpr.Col e) < 0)) then true else (decide (width ≤ (Xpr.Col e)))) else false) then true else (bif ((Xpr.Kind e) != 1) then ((Xpr.Col e) != 0) else false)) then false else (bif (bif (bif ((Xpr.Kind e) == 2) then (!(valValid (Xpr.V e))) else false) then true else (bif ((Xpr.Kind e) != 2) then (!(bif ((Val.Null (Xpr.V e)) == false) then (bif ((Val.N (Xpr.V e)) == 0) then true else false) else false)) else false)) then false else (Sum.elim (fun _ => true) (fun r => r) (validBelow_l0 (validBelow_r fuel) e width levels ((length (Xpr.Kids e)) - 0 + 1) 0)))))

def validBelow (e : Xpr) (width : Int) (levels : Int) : Bool := validBelow_r (SizeOf.sizeOf e + 1) e width levels

def validBelow_spn (fuel : Nat) : FnSpec := mkSpec [.rd (.named 1), .val (.int .i64), .val (.int .i64)] [.val .bool] (fun (e : Xpr) (width : Int) (levels : Int) => (0 ≤ levels ∧ levels ≤ 8) ∧ SizeOf.sizeOf e < fuel) (fun (e : Xpr) (width : Int) (levels : Int) => [⟨.bool, (validBelow_r fuel e width levels)⟩])

def validBelow_sp : FnSpec := mkSpec [.rd (.named 1), .val (.int .i64), .val (.int .i64)] [.val .bool] (fun (e : Xpr) (width : Int) (levels : Int) => 0 ≤ levels ∧ levels ≤ 8) (fun (e : Xpr) (width : Int) (levels : Int) => [⟨.bool, (validBelow e width levels)⟩])

theorem validBelow_okn (fuel : Nat) : FnOK Try.prog 131 (validBelow_spn fuel) := by
 induction fuel with
 | zero => exact FnOK.never Try.func131 (by kernel_rfl) rfl (fun _ _ _ h => absurd h.2 (Nat.not_lt_zero _))
 | succ fuel ih => ?_
 have hC : CtxOK Try.prog (mkCtx tyL [(131, (validBelow_spn fuel)), (157, kidsOfKind_sp), (158, valValid_sp)]) := CtxOK.cons ih (CtxOK.cons kidsOfKind_ok (CtxOK.cons valValid_ok (CtxOK.nil tyOK))); refine FnOK.of_body Try.func131 (by kernel_rfl) rfl (C := (mkCtx tyL [(131, (validBelow_spn fuel)), (157, kidsOfKind_sp), (158, valValid_sp)])) hC.ty (by kernel_rfl) ?_; intro (e : Xpr) (width : Int) (levels : Int) hwf hpre E; have hpre : (0 ≤ levels ∧ levels ≤ 8) ∧ SizeOf.sizeOf e < fuel + 1 := hpre; have hw_e : Wf ⟨(.named 1), (e : Xpr)⟩ := hwf _ (List.Mem.head _); obtain ⟨hr_e_Kind, hr_e_Col, hl_e_Kids⟩ := Xpr.wfl hw_e; have hw_width : Wf ⟨(.int .i64), (width : Int)⟩ := hwf _ (List.Mem.tail _ (List.Mem.head _)); have hr_width : -9223372036854775808 ≤ width ∧ width ≤ 9223372036854775807 := hw_width.int_inv; have hw_levels : Wf ⟨(.int .i64), (levels : Int)⟩ := hwf _ (List.Mem.tail _ (List.Mem.tail _ (List.Mem.head _))); have hr_levels : -9223372036854775808 ≤ levels ∧ levels ≤ 9223372036854775807 := hw_levels.int_inv; have e0 : validBelow_r (fuel + 1) e width levels = validBelow_r (fuel + 1) e width levels := rfl; refine seq (r1U hC [0, 1, 2] [] [] [] ?_); refine seq (r0U hC [0, 1, 2, 7] [] [(7, sI (kidsOfKind (Xpr.Kind e)))] [] [(True)] ?_ ?_)
 ·
  exact ⟨trivial, trivial⟩
 refine seq (seq (r0U hC [0, 1, 2, 28] [] [(28, sB (bif ((length (Xpr.Kids e) : Int) != (kidsOfKind (Xpr.Kind e))) then true else (bif (decide (0 < (kidsOfKind (Xpr.Kind e)))) then (levels == 0) else false)))] [] [((((length (Xpr.Kids e) : Int) != (kidsOfKind (Xpr.Kind e))) = false) → ((((length (Xpr.Kids e) : Int) != (kidsOfKind (Xpr.Kind e))) = false))), ((((length (Xpr.Kids e) : Int) != (kidsOfKind (Xpr.Kind e))) = false) → ((((length (Xpr.Kids e) : Int) != (kidsOfKind (Xpr.Kind e))) = false))), (((((length (Xpr.Kids e) : Int) != (kidsOfKind (Xpr.Kind e))) = false) ∧ ((decide (0 < (kidsOfKind (Xpr.Kind e)))) = true)) → (((((length (Xpr.Kids e) : Int) != (kidsOfKind (Xpr.Kind e))) = false) ∧ ((decide (0 < (kidsOfKind (Xpr.Kind e)))) = true)))), ((((length (Xpr.Kids e) : Int) != (kidsOfKind (Xpr.Kind e))) = false) → ((((length (Xpr.Kids e) : Int) != (kidsOfKind (Xpr.Kind e))) = false))), ((((length (Xpr.Kids e) : Int) != (kidsOfKind (Xpr.Kind e))) = false) → (((decide (0 < (kidsOfKind (Xpr.Kind e)))) = true) → (((((length (Xpr.Kids e) : Int) != (kidsOfKind (Xpr.Kind e))) = false) ∧ ((decide (0 < (kidsOfKind (Xpr.Kind e)))) = true))))), ((((length (Xpr.Kids e) : Int) != (kidsOfKind (Xpr.Kind e))) = false) → ((((length (Xpr.Kids e) : Int) != (kidsOfKind (Xpr.Kind e))) = false)))] ?_ ?_))
 ·
  exact ⟨(by intro g1; assumption), (by intro g2; assumption), (by intro g3; assumption), (by intro g4; assumption), (by intro g5; intro g6; exact ⟨by assumption, by assumption⟩), (by intro g7; assumption), trivial⟩
 refine cdE e0 ?_ ?_
 · intro h8q e9; refine seq (r1 hC [6] [] ⟨[(6, sB false)], []⟩ ?_); exact ret (rB _ e9)
 ·
  intro h10q e11; refine kpU [0, 1, 2] [] [] [] ?_; refine AW.skip (seq (seq (r0U hC [0, 1, 2, 62] [] [(62, sB (bif (bif ((Xpr.Kind e) == 1) then (bif (decide ((Xpr.Col e) < 0)) then true else (decide (width ≤ (Xpr.Col e)))) else false) then true else (bif ((Xpr.Kind e) != 1) then ((Xpr.Col e) != 0) else false)))] [] [((((Xpr.Kind e) == 1) = true) → ((((Xpr.Kind e) == 1) = true))), ((((Xpr.Kind e) == 1) = true) → ((((Xpr.Kind e) == 1) = true))), ((((Xpr.Kind e) == 1) = true) → ((((Xpr.Kind e) == 1) = true))), ((((Xpr.Kind e) == 1) = true) → ((((Xpr.Kind e) == 1) = true))), ((((Xpr.Kind e) == 1) = true) → ((((Xpr.Kind e) == 1) = true))), (((((Xpr.Kind e) == 1) = true) ∧ ((decide ((Xpr.Col e) < 0)) = false)) → (((((Xpr.Kind e) == 1) = true) ∧ ((decide ((Xpr.Col e) < 0)) = false)))), (((((Xpr.Kind e) == 1) = true) ∧ ((decide ((Xpr.Col e) < 0)) = false)) → (((((Xpr.Kind e) == 1) = true) ∧ ((decide ((Xpr.Col e) < 0)) = false)))), (((((Xpr.Kind e) == 1) = true) ∧ ((decide ((Xpr.Col e) < 0)) = false)) → (((((Xpr.Kind e) == 1) = true) ∧ ((decide ((Xpr.Col e) < 0)) = false)))), (((((Xpr.Kind e) == 1) = true) ∧ ((decide ((Xpr.Col e) < 0)) = false)) → (((((Xpr.Kind e) == 1) = true) ∧ ((decide ((Xpr.Col e) < 0)) = false)))), (((((Xpr.Kind e) == 1) = true) ∧ ((decide ((Xpr.Col e) < 0)) = false)) → (((((Xpr.Kind e) == 1) = true) ∧ ((decide ((Xpr.Col e) < 0)) = false)))), ((((Xpr.Kind e) == 1) = true) → ((((Xpr.Kind e) == 1) = true))), ((((Xpr.Kind e) == 1) = true) → (((decide ((Xpr.Col e) < 0)) = false) → (((((Xpr.Kind e) == 1) = true) ∧ ((decide ((Xpr.Col e) < 0)) = false))))), ((((Xpr.Kind e) == 1) = true) → ((((Xpr.Kind e) == 1) = true))), (((bif ((Xpr.Kind e) == 1) then (bif (decide ((Xpr.Col e) < 0)) then true else (decide (width ≤ (Xpr.Col e)))) else false) = false) → (((bif ((Xpr.Kind e) == 1) then (bif (decide ((Xpr.Col e) < 0)) then true else (decide (width ≤ (Xpr.Col e)))) else false) = false))), (((bif ((Xpr.Kind e) == 1) then (bif (decide ((Xpr.Col e) < 0)) then true else (decide (width ≤ (Xpr.Col e)))) else false) = false) → (((bif ((Xpr.Kind e) == 1) then (bif (decide ((Xpr.Col e) < 0)) then true else (decide (width ≤ (Xpr.Col e)))) else false) = false))), (((bif ((Xpr.Kind e) == 1) then (bif (decide ((Xpr.Col e) < 0)) then true else (decide (width ≤ (Xpr.Col e)))) else false) = false) → (((bif ((Xpr.Kind e) == 1) then (bif (decide ((Xpr.Col e) < 0)) then true else (decide (width ≤ (Xpr.Col e)))) else false) = false))), (((bif ((Xpr.Kind e) == 1) then (bif (decide ((Xpr.Col e) < 0)) then true else (decide (width ≤ (Xpr.Col e)))) else false) = false) → (((bif ((Xpr.Kind e) == 1) then (bif (decide ((Xpr.Col e) < 0)) then true else (decide (width ≤ (Xpr.Col e)))) else false) = false))), (((bif ((Xpr.Kind e) == 1) then (bif (decide ((Xpr.Col e) < 0)) then true else (decide (width ≤ (Xpr.Col e)))) else false) = false) → (((bif ((Xpr.Kind e) == 1) then (bif (decide ((Xpr.Col e) < 0)) then true else (decide (width ≤ (Xpr.Col e)))) else false) = false))), ((((bif ((Xpr.Kind e) == 1) then (bif (decide ((Xpr.Col e) < 0)) then true else (decide (width ≤ (Xpr.Col e)))) else false) = false) ∧ (((Xpr.Kind e) != 1) = true)) → ((((bif ((Xpr.Kind e) == 1) then (bif (decide ((Xpr.Col e) < 0)) then true else (decide (width ≤ (Xpr.Col e)))) else false) = false) ∧ (((Xpr.Kind e) != 1) = true)))), ((((bif ((Xpr.Kind e) == 1) then (bif (decide ((Xpr.Col e) < 0)) then true else (decide (width ≤ (Xpr.Col e)))) else false) = false) ∧ (((Xpr.Kind e) != 1) = true)) → ((((bif ((Xpr.Kind e) == 1) then (bif (decide ((Xpr.Col e) < 0)) then true else (decide (width ≤ (Xpr.Col e)))) else false) = false) ∧ (((Xpr.Kind e) != 1) = true)))), ((((bif ((Xpr.Kind e) == 1) then (bif (decide ((Xpr.Col e) < 0)) then true else (decide (width ≤ (Xpr.Col e)))) else false) = false) ∧ (((Xpr.Kind e) != 1) = true)) → ((((bif ((Xpr.Kind e) == 1) then (bif (decide ((Xpr.Col e) < 0)) then true else (decide (width ≤ (Xpr.Col e)))) else false) = false) ∧ (((Xpr.Kind e) != 1) = true)))), ((((bif ((Xpr.Kind e) == 1) then (bif (decide ((Xpr.Col e) < 0)) then true else (decide (width ≤ (Xpr.Col e)))) else false) = false) ∧ (((Xpr.Kind e) != 1) = true)) → ((((bif ((Xpr.Kind e) == 1) then (bif (decide ((Xpr.Col e) < 0)) then true else (decide (width ≤ (Xpr.Col e)))) else false) = false) ∧ (((Xpr.Kind e) != 1) = true)))), (((bif ((Xpr.Kind e) == 1) then (bif (decide ((Xpr.Col e) < 0)) then true else (decide (width ≤ (Xpr.Col e)))) else false) = false) → (((bif ((Xpr.Kind e) == 1) then (bif (decide ((Xpr.Col e) < 0)) then true else (decide (width ≤ (Xpr.Col e)))) else false) = false))), (((bif ((Xpr.Kind e) == 1) then (bif (decide ((Xpr.Col e) < 0)) then true else (decide (width ≤ (Xpr.Col e)))) else false) = false) → ((((Xpr.Kind e) != 1) = true) → ((((bif ((Xpr.Kind e) == 1) then (bif (decide ((Xpr.Col e) < 0)) then true else (decide (width ≤ (Xpr.Col e)))) else false) = false) ∧ (((Xpr.Kind e) != 1) = true))))), (((bif ((Xpr.Kind e) == 1) then (bif (decide ((Xpr.Col e) < 0)) then true else (decide (width ≤ (Xpr.Col e)))) else false) = false) → (((bif ((Xpr.Kind e) == 1) then (bif (decide ((Xpr.Col e) < 0)) then true else (decide (width ≤ (Xpr.Col e)))) else false) = false)))] ?_ ?_)))
  ·
   exact ⟨(by intro g12; assumption), (by intro g13; assumption), (by intro g14; assumption), (by intro g15; assumption), (by intro g16; assumption), (by intro g17; assumption), (by intro g18; assumption), (by intro g19; assumption), (by intro g20; assumption), (by intro g21; assumption), (by intro g22; assumption), (by intro g23; intro g24; exact ⟨by assumption, by assumption⟩), (by intro g25; assumption), (by intro g26; assumption), (by intro g27; assumption), (by intro g28; assumption), (by intro g29; assumption), (by intro g30; assumption), (by intro g31; assumption), (by intro g32; assumption), (by intro g33; assumption), (by intro g34; assumption), (by intro g35; assumption), (by intro g36; intro g37; exact ⟨by assumption, by assumption⟩), (by intro g38; assumption), trivial⟩
  refine cdE e11 ?_ ?_
  · intro h39q e40; refine seq (r1 hC [6] [] ⟨[(6, sB false)], []⟩ ?_); exact ret (rB _ e40)
  ·
   intro h41q e42; refine kpU [0, 1, 2] [] [] [] ?_; refine AW.skip (seq (seq (r0U hC [0, 1, 2, 90] [] [(90, sB (bif (bif ((Xpr.Kind e) == 2) then (!(valValid (Xpr.V e))) else false) then true else (bif ((Xpr.Kind e) != 2) then (!(bif ((Val.Null (Xpr.V e)) == false) then (bif ((Val.N (Xpr.V e)) == 0) then true else false) else false)) else false)))] [] [((((Xpr.Kind e) == 2) = true) → ((((Xpr.Kind e) == 2) = true))), ((((Xpr.Kind e) == 2) = true) → ((((Xpr.Kind e) == 2) = true))), ((((Xpr.Kind e) == 2) = true) → ((((Xpr.Kind e) == 2) = true))), ((((Xpr.Kind e) == 2) = true) → ((((Xpr.Kind e) == 2) = true))), ((((Xpr.Kind e) == 2) = true) → (True)), ((((Xpr.Kind e) == 2) = true) → ((((Xpr.Kind e) == 2) = true))), ((((Xpr.Kind e) == 2) = true) → ((((Xpr.Kind e) == 2) = true))), (((bif ((Xpr.Kind e) == 2) then (!(valValid (Xpr.V e))) else false) = false) → (((bif ((Xpr.Kind e) == 2) then (!(valValid (Xpr.V e))) else false) = false))), (((bif ((Xpr.Kind e) == 2) then (!(valValid (Xpr.V e))) else false) = false) → (((bif ((Xpr.Kind e) == 2) then (!(valValid (Xpr.V e))) else false) = false))), (((bif ((Xpr.Kind e) == 2) then (!(valValid (Xpr.V e))) else false) = false) → (((bif ((Xpr.Kind e) == 2) then (!(valValid (Xpr.V e))) else false) = false))), (((bif ((Xpr.Kind e) == 2) then (!(valValid (Xpr.V e))) else false) = false) → (((bif ((Xpr.Kind e) == 2) then (!(valValid (Xpr.V e))) else false) = false))), (((bif ((Xpr.Kind e) == 2) then (!(valValid (Xpr.V e))) else false) = false) → (((bif ((Xpr.Kind e) == 2) then (!(valValid (Xpr.V e))) else false) = false))), ((((bif ((Xpr.Kind e) == 2) then (!(valValid (Xpr.V e))) else false) = false) ∧ (((Xpr.Kind e) != 2) = true)) → ((((bif ((Xpr.Kind e) == 2) then (!(valValid (Xpr.V e))) else false) = false) ∧ (((Xpr.Kind e) != 2) = true)))), ((((bif ((Xpr.Kind e) == 2) then (!(valValid (Xpr.V e))) else false) = false) ∧ (((Xpr.Kind e) != 2) = true)) → ((((bif ((Xpr.Kind e) == 2) then (!(valValid (Xpr.V e))) else false) = false) ∧ (((Xpr.Kind e) != 2) = true)))), ((((bif ((Xpr.Kind e) == 2) then (!(valValid (Xpr.V e))) else false) = false) ∧ (((Xpr.Kind e) != 2) = true)) → ((((bif ((Xpr.Kind e) == 2) then (!(valValid (Xpr.V e))) else false) = false) ∧ (((Xpr.Kind e) != 2) = true)))), ((((bif ((Xpr.Kind e) == 2) then (!(valValid (Xpr.V e))) else false) = false) ∧ (((Xpr.Kind e) != 2) = true)) → ((((bif ((Xpr.Kind e) == 2) then (!(valValid (Xpr.V e))) else false) = false) ∧ (((Xpr.Kind e) != 2) = true)))), ((((bif ((Xpr.Kind e) == 2) then (!(valValid (Xpr.V e))) else false) = false) ∧ (((Xpr.Kind e) != 2) = true)) → ((((bif ((Xpr.Kind e) == 2) then (!(valValid (Xpr.V e))) else false) = false) ∧ (((Xpr.Kind e) != 2) = true)))), (((bif ((Xpr.Kind e) == 2) then (!(valValid (Xpr.V e))) else false) = false) → (((bif ((Xpr.Kind e) == 2) then (!(valValid (Xpr.V e))) else false) = false))), (((bif ((Xpr.Kind e) == 2) then (!(valValid (Xpr.V e))) else false) = false) → ((((Xpr.Kind e) != 2) = true) → ((((bif ((Xpr.Kind e) == 2) then (!(valValid (Xpr.V e))) else false) = false) ∧ (((Xpr.Kind e) != 2) = true))))), (((bif ((Xpr.Kind e) == 2) then (!(valValid (Xpr.V e))) else false) = false) → (((bif ((Xpr.Kind e) == 2) then (!(valValid (Xpr.V e))) else false) = false)))] ?_ ?_)))
   ·
    exact ⟨(by intro g43; assumption), (by intro g44; assumption), (by intro g45; assumption), (by intro g46; assumption), (by intro g47; trivial), (by intro g48; assumption), (by intro g49; assumption), (by intro g50; assumption), (by intro g51; assumption), (by intro g52; assumption), (by intro g53; assumption), (by intro g54; assumption), (by intro g55; assumption), (by intro g56; assumption), (by intro g57; assumption), (by intro g58; assumption), (by intro g59; assumption), (by intro g60; assumption), (by intro g61; intro g62; exact ⟨by assumption, by assumption⟩), (by intro g63; assumption), trivial⟩
   refine cdE e42 ?_ ?_
   · intro h64q e65; refine seq (r1 hC [6] [] ⟨[(6, sB false)], []⟩ ?_); exact ret (rB _ e65)
   ·
    intro h66q e67; refine kpU [0, 1, 2] [] [] [] ?_; refine AW.skip (seq (seq (r1U hC [0, 1, 2, 95, 96] [] [(95, sI (length (Xpr.Kids e) : Int)), (96, sI 0)] [] ?_))); refine lpB (ζ := Unit) (fun x => ⟨[], []⟩) (fun x => True) (fun x => (.inl ())) (α := Nat) (fun x => ⟨[(0, sR3 e), (1, sI width), (2, sI levels), (95, sI (length (Xpr.Kids e) : Int)), (96, sI (x : Int))], []⟩) (fun x => True) (fun x => (length (Xpr.Kids e)) - x) (fun k x => validBelow_l0 (validBelow_r fuel) e width levels k x) 0 (by kernel_rfl) ?_ ?_ ?_
    · exact trivial
    ·
     intro v96 k97q hI0 hk95 e96; refine seq (r1U hC [0, 1, 2, 95, 96, 97] [] [(97, sB (decide ((v96 : Int) < (length (Xpr.Kids e) : Int))))] [] ?_); refine seq (cdE e96 ?_ ?_)
     ·
      intro h98q e99; refine kpU [0, 1, 2, 95, 96] [] [] [] ?_; refine AW.skip (seq (block (seq (r1U hC [0, 1, 2, 8, 95, 96] [] [(8, sI (v96 : Int))] [] ?_)))); refine seq (r0U hC [0, 1, 2, 95, 96, 109] [] [(109, sB (!((validBelow_r fuel) (getD (Xpr.Kids e) v96 Xpr.zero) width (levels - 1))))] [] [IX (v96 : Int) (length (Xpr.Kids e) : Int), R64 (levels - 1), ((0 ≤ (levels - 1) ∧ (levels - 1) ≤ 8) ∧ SizeOf.sizeOf (getD (Xpr.Kids e) v96 Xpr.zero) < fuel)] ?_ ?_)
      ·
       exact ⟨IX.of (by omega), R64.of (by omega), (⟨by omega, Nat.lt_of_lt_of_le (kid_lt (by omega)) (Nat.le_of_lt_succ hpre.2)⟩), trivial⟩
      refine cdE e99 ?_ ?_
      · intro h100q e101; refine seq (r1 hC [6] [] ⟨[(6, sB false)], []⟩ ?_); refine ret ?_; have e102 := e67.trans (elim_r e101); exact rB _ e102
      ·
       intro h103q e104; refine kpU [0, 1, 2, 95, 96] [] [] [] ?_; refine AW.skip (r0U hC [0, 1, 2, 95, 96] [] [(96, sI ((v96 + 1 : Nat) : Int))] [] [R64 ((v96 + 1 : Nat) : Int)] ?_ ?_)
       ·
        exact ⟨R64.of (by omega), trivial⟩
       refine bk (v96 + 1) e104 hk95 ?_ ?_
       · assumption
       · omega
     · intro h105q e106; refine kp [] [] ⟨[], []⟩ ?_; refine exit ?_; refine meet () (by kernel_rfl) ⟨?_, e106⟩; assumption
    · intro x hJ0 e107; have e108 := e67.trans (elim_l e107); refine seq (r1 hC [6] [] ⟨[(6, sB true)], []⟩ ?_); exact ret (rB _ e108)

theorem validBelow_fu : AllTV (validBelow_sp.ps.map PK.ty) (fun tvs => validBelow_sp.pre tvs → ∃ k, (validBelow_spn k).pre tvs ∧ (validBelow_spn k).fn tvs = validBelow_sp.fn tvs ∧ (validBelow_spn k).bx tvs = validBelow_sp.bx tvs) :=
 (fun (e : Xpr) (width : Int) (levels : Int) h => ⟨SizeOf.sizeOf e + 1, (show (0 ≤ levels ∧ levels ≤ 8) ∧ SizeOf.sizeOf e < SizeOf.sizeOf e + 1 from ⟨h, Nat.lt_succ_self _⟩), (show (validBelow_spn (SizeOf.sizeOf e + 1)).fn [⟨(.named 1), (e : Xpr)⟩, ⟨(.int .i64), (width : Int)⟩, ⟨(.int .i64), (levels : Int)⟩] = ([⟨.bool, (validBelow_r (SizeOf.sizeOf e + 1) e width levels)⟩] : List TV) from by kernel_rfl).trans (show ([⟨.bool, (validBelow_r (SizeOf.sizeOf e + 1) e width levels)⟩] : List TV) = validBelow_sp.fn [⟨(.named 1), (e : Xpr)⟩, ⟨(.int .i64), (width : Int)⟩, ⟨(.int .i64), (levels : Int)⟩] from by kernel_rfl), by kernel_rfl⟩)

theorem validBelow_ok : FnOK Try.prog 131 validBelow_sp := FnOK.of_fuel validBelow_okn (fun _ => rfl) (fun _ => rfl) (AllTV.get validBelow_fu)

def validExpr_l0 (self : Xpr → Int → Int → Bool) (e : Xpr) (width : Int) (deep : Int) : Nat → Nat → Unit ⊕ Bool
 | 0, i => .inl ()
 | k + 1, i => (bif (decide ((i : Int) < (length (Xpr.Kids e) : Int))) then (bif (!(self (getD (Xpr.Kids e) i Xpr.zero) width (deep - 1))) then (.inr false) else (validExpr_l0 self e width deep k (i + 1))) else (.inl ()))

def validExpr_r : Nat → Xpr → Int → Int → Bool
 | 0, e, width, deep => false
 | fuel + 1, e, width, deep => (bif (bif ((length (Xpr.Kids e) : Int) != (kidsOf (Xpr.Kind e))) then true else (bif (decide (0 < (length (Xpr.Kids e) : Int))) then (deep == 0) else false)) then false else (Sum.elim (fun _ => (bif ((Xpr.Kind e) == 1) then (bif (inRange (Xpr.Col e) 0 (width - 1)) then (bif ((Val.Null (Xpr.V e)) == false) then (bif ((Val.N (Xpr.V e)) == 0) then true else false) else false) else false) else (bif ((Xpr.Kind e) == 2) then (bif ((Xpr.Col e) == 0) then (validValue (Xpr.V e)) else false) else (bif ((Xpr.Col e) == 0) then (bif ((Val.Null (Xpr.V e)) == false) then (bif ((Val.N (Xpr.V e)) == 0) then true else false) else false) else false)))) (fun r => r) (validExpr_l0 (validExpr_r fuel) e width deep ((length (Xpr.Kids e)) - 0 + 1) 0)))

def validExpr (e : Xpr) (width : Int) (deep : Int) : Bool := validExpr_r (SizeOf.sizeOf e + 1) e width deep

def validExpr_spn (fuel : Nat) : FnSpec := mkSpec [.val (.named 1), .val (.int .i64), .val (.int .i64)] [.val .bool] (fun (e : Xpr) (width : Int) (deep : Int) => ((0 ≤ deep ∧ deep ≤ 8) ∧ (1 ≤ width ∧ width ≤ 6)) ∧ SizeOf.sizeOf e < fuel) (fun (e : Xpr) (width : Int) (deep : Int) => [⟨.bool, (validExpr_r fuel e width deep)⟩])

def validExpr_sp : FnSpec := mkSpec [.val (.named 1), .val (.int .i64), .val (.int .i64)] [.val .bool] (fun (e : Xpr) (width : Int) (deep : Int) => (0 ≤ deep ∧ deep ≤ 8) ∧ (1 ≤ width ∧ width ≤ 6)) (fun (e : Xpr) (width : Int) (deep : Int) => [⟨.bool, (validExpr e width deep)⟩])

theorem validExpr_okn (fuel : Nat) : FnOK Try.prog 126 (validExpr_spn fuel) := by
 induction fuel with
 | zero => exact FnOK.never Try.func126 (by kernel_rfl) rfl (fun _ _ _ h => absurd h.2 (Nat.not_lt_zero _))
 | succ fuel ih => ?_
 have hC : CtxOK Try.prog (mkCtx tyL [(88, inRange_sp), (126, (validExpr_spn fuel)), (152, kidsOf_sp), (153, validValue_sp)]) := CtxOK.cons inRange_ok (CtxOK.cons ih (CtxOK.cons kidsOf_ok (CtxOK.cons validValue_ok (CtxOK.nil tyOK)))); have hM : Try.prog.follows .mixedOrders = true := Try.checked.mixed; refine FnOK.of_body Try.func126 (by kernel_rfl) rfl (C := (mkCtx tyL [(88, inRange_sp), (126, (validExpr_spn fuel)), (152, kidsOf_sp), (153, validValue_sp)])) hC.ty (by kernel_rfl) ?_; intro (e : Xpr) (width : Int) (deep : Int) hwf hpre E; have hpre : ((0 ≤ deep ∧ deep ≤ 8) ∧ (1 ≤ width ∧ width ≤ 6)) ∧ SizeOf.sizeOf e < fuel + 1 := hpre; have hw_e : Wf ⟨(.named 1), (e : Xpr)⟩ := hwf _ (List.Mem.head _); obtain ⟨hr_e_Kind, hr_e_Col, hl_e_Kids⟩ := Xpr.wfl hw_e; have hw_width : Wf ⟨(.int .i64), (width : Int)⟩ := hwf _ (List.Mem.tail _ (List.Mem.head _)); have hr_width : -9223372036854775808 ≤ width ∧ width ≤ 9223372036854775807 := hw_width.int_inv; have hw_deep : Wf ⟨(.int .i64), (deep : Int)⟩ := hwf _ (List.Mem.tail _ (List.Mem.tail _ (List.Mem.head _))); have hr_deep : -9223372036854775808 ≤ deep ∧ deep ≤ 9223372036854775807 := hw_deep.int_inv; have e0 : validExpr_r (fuel + 1) e width deep = validExpr_r (fuel + 1) e width deep := rfl; refine seq (r1U hC [1, 2, 3] [12] [(3, .ref 12 1 0)] [(12, .box 1 [sI (Xpr.Kind e), sI (Xpr.Col e), sB (Val.Null (Xpr.V e)), sI (Val.N (Xpr.V e)), sD9 (Xpr.Kids e)])] ?_); refine seq (seq (d0U hC hM [1, 2, 3, 24] [12] [(24, sB (bif ((length (Xpr.Kids e) : Int) != (kidsOf (Xpr.Kind e))) then true else (bif (decide (0 < (length (Xpr.Kids e) : Int))) then (deep == 0) else false)))] [] [(True), ((((length (Xpr.Kids e) : Int) != (kidsOf (Xpr.Kind e))) = false) → ((((length (Xpr.Kids e) : Int) != (kidsOf (Xpr.Kind e))) = false))), ((((length (Xpr.Kids e) : Int) != (kidsOf (Xpr.Kind e))) = false) → ((((length (Xpr.Kids e) : Int) != (kidsOf (Xpr.Kind e))) = false))), ((((length (Xpr.Kids e) : Int) != (kidsOf (Xpr.Kind e))) = false) → ((((length (Xpr.Kids e) : Int) != (kidsOf (Xpr.Kind e))) = false))), ((((length (Xpr.Kids e) : Int) != (kidsOf (Xpr.Kind e))) = false) → ((((length (Xpr.Kids e) : Int) != (kidsOf (Xpr.Kind e))) = false))), (((((length (Xpr.Kids e) : Int) != (kidsOf (Xpr.Kind e))) = false) ∧ ((decide (0 < (length (Xpr.Kids e) : Int))) = true)) → (((((length (Xpr.Kids e) : Int) != (kidsOf (Xpr.Kind e))) = false) ∧ ((decide (0 < (length (Xpr.Kids e) : Int))) = true)))), ((((length (Xpr.Kids e) : Int) != (kidsOf (Xpr.Kind e))) = false) → ((((length (Xpr.Kids e) : Int) != (kidsOf (Xpr.Kind e))) = false))), ((((length (Xpr.Kids e) : Int) != (kidsOf (Xpr.Kind e))) = false) → (((decide (0 < (length (Xpr.Kids e) : Int))) = true) → (((((length (Xpr.Kids e) : Int) != (kidsOf (Xpr.Kind e))) = false) ∧ ((decide (0 < (length (Xpr.Kids e) : Int))) = true))))), ((((length (Xpr.Kids e) : Int) != (kidsOf (Xpr.Kind e))) = false) → ((((length (Xpr.Kids e) : Int) != (kidsOf (Xpr.Kind e))) = false)))] ?_ ?_))
 ·
  exact ⟨trivial, (by intro g1; assumption), (by intro g2; assumption), (by intro g3; assumption), (by intro g4; assumption), (by intro g5; assumption), (by intro g6; assumption), (by intro g7; intro g8; exact ⟨by assumption, by assumption⟩), (by intro g9; assumption), trivial⟩
 refine cdE e0 ?_ ?_
 · intro h10q e11; refine seq (r1 hC [6] [] ⟨[(6, sB false)], []⟩ ?_); exact ret (rB _ e11)
 ·
  intro h12q e13; refine kpU [1, 2, 3] [12] [] [] ?_; refine AW.skip (seq (seq (r1U hC [1, 2, 3, 7] [12] [(7, sI 0)] [] ?_))); refine lpB (ζ := Unit) (fun x => ⟨[(1, sI width), (3, .ref 12 1 0)], [(12, .box 1 [sI (Xpr.Kind e), sI (Xpr.Col e), sB (Val.Null (Xpr.V e)), sI (Val.N (Xpr.V e)), sD9 (Xpr.Kids e)])]⟩) (fun x => True) (fun x => (.inl ())) (α := Nat) (fun x => ⟨[(1, sI width), (2, sI deep), (3, .ref 12 1 0), (7, sI (x : Int))], [(12, .box 1 [sI (Xpr.Kind e), sI (Xpr.Col e), sB (Val.Null (Xpr.V e)), sI (Val.N (Xpr.V e)), sD9 (Xpr.Kids e)])]⟩) (fun x => True) (fun x => (length (Xpr.Kids e)) - x) (fun k x => validExpr_l0 (validExpr_r fuel) e width deep k x) 0 (by kernel_rfl) ?_ ?_ ?_
  · exact trivial
  ·
   intro i k43q hI0 hk41 e42; refine seq (seq (r1U hC [1, 2, 3, 7, 29] [12] [(29, sB (decide ((i : Int) < (length (Xpr.Kids e) : Int))))] [] ?_)); refine cdE e42 ?_ ?_
   ·
    intro h44q e45; refine kpU [1, 2, 3, 7] [12] [] [] ?_; refine AW.skip (seq (block (seq (r0U hC [1, 2, 3, 7, 41] [12] [(41, sB (!((validExpr_r fuel) (getD (Xpr.Kids e) i Xpr.zero) width (deep - 1))))] [] [IX (i : Int) (length (Xpr.Kids e) : Int), R64 (deep - 1), (((0 ≤ (deep - 1) ∧ (deep - 1) ≤ 8) ∧ (1 ≤ width ∧ width ≤ 6)) ∧ SizeOf.sizeOf (getD (Xpr.Kids e) i Xpr.zero) < fuel)] ?_ ?_))))
    ·
     exact ⟨IX.of (by omega), R64.of (by omega), (⟨by omega, Nat.lt_of_lt_of_le (kid_lt (by omega)) (Nat.le_of_lt_succ hpre.2)⟩), trivial⟩
    refine cdE e45 ?_ ?_
    · intro h46q e47; refine seq (r1 hC [6] [] ⟨[(6, sB false)], []⟩ ?_); refine ret ?_; have e48 := e13.trans (elim_r e47); exact rB _ e48
    ·
     intro h49q e50; refine kpU [1, 2, 3, 7] [12] [] [] ?_; refine AW.skip (r0U hC [1, 2, 3, 7] [12] [(7, sI ((i + 1 : Nat) : Int))] [] [R64 ((i + 1 : Nat) : Int)] ?_ ?_)
     ·
      exact ⟨R64.of (by omega), trivial⟩
     refine bk (i + 1) e50 hk41 ?_ ?_
     · assumption
     · omega
   · intro h51q e52; refine kpU [1, 3] [12] [] [] ?_; refine exit ?_; refine meet () (by kernel_rfl) ⟨?_, e52⟩; assumption
  ·
   intro x hJ0 e53; have e54 := e13.trans (elim_l e53); refine seq (seq (r1U hC [1, 3, 43] [12] [(43, sI (Xpr.Kind e))] [] ?_)); refine block (seq (r1U hC [1, 3, 43, 44] [12] [(44, sB ((Xpr.Kind e) == 1))] [] ?_)); refine cdE e54 ?_ ?_
   ·
    intro h55q e56; refine seq (r0 hC [6] [] ⟨[(6, sB (bif (inRange (Xpr.Col e) 0 (width - 1)) then (bif ((Val.Null (Xpr.V e)) == false) then (bif ((Val.N (Xpr.V e)) == 0) then true else false) else false) else false))], []⟩ [R64 (width - 1), (True), (((inRange (Xpr.Col e) 0 (width - 1)) = true) → (((inRange (Xpr.Col e) 0 (width - 1)) = true))), (((inRange (Xpr.Col e) 0 (width - 1)) = true) → (((inRange (Xpr.Col e) 0 (width - 1)) = true))), (((inRange (Xpr.Col e) 0 (width - 1)) = true) → (((inRange (Xpr.Col e) 0 (width - 1)) = true))), (((inRange (Xpr.Col e) 0 (width - 1)) = true) → (((inRange (Xpr.Col e) 0 (width - 1)) = true)))] ?_ ?_)
    ·
     exact ⟨R64.of (by omega), trivial, (by intro g57; assumption), (by intro g58; assumption), (by intro g59; assumption), (by intro g60; assumption), trivial⟩
    exact ret (rB _ e56)
   ·
    intro h61q e62; refine seq (r1U hC [3, 57] [12] [(57, sB ((Xpr.Kind e) == 2))] [] ?_); refine cdE e62 ?_ ?_
    ·
     intro h63q e64; refine seq (r0 hC [6] [] ⟨[(6, sB (bif ((Xpr.Col e) == 0) then (validValue (Xpr.V e)) else false))], []⟩ [((((Xpr.Col e) == 0) = true) → ((((Xpr.Col e) == 0) = true))), ((((Xpr.Col e) == 0) = true) → ((((Xpr.Col e) == 0) = true))), ((((Xpr.Col e) == 0) = true) → (True)), ((((Xpr.Col e) == 0) = true) → ((((Xpr.Col e) == 0) = true)))] ?_ ?_)
     ·
      exact ⟨(by intro g65; assumption), (by intro g66; assumption), (by intro g67; trivial), (by intro g68; assumption), trivial⟩
     exact ret (rB _ e64)
    ·
     intro h69q e70; refine kpU [3] [12] [] [] ?_; refine AW.skip (seq (r0 hC [6] [] ⟨[(6, sB (bif ((Xpr.Col e) == 0) then (bif ((Val.Null (Xpr.V e)) == false) then (bif ((Val.N (Xpr.V e)) == 0) then true else false) else false) else false))], []⟩ [((((Xpr.Col e) == 0) = true) → ((((Xpr.Col e) == 0) = true))), ((((Xpr.Col e) == 0) = true) → ((((Xpr.Col e) == 0) = true))), ((((Xpr.Col e) == 0) = true) → ((((Xpr.Col e) == 0) = true))), ((((Xpr.Col e) == 0) = true) → ((((Xpr.Col e) == 0) = true)))] ?_ ?_))
     ·
      exact ⟨(by intro g71; assumption), (by intro g72; assumption), (by intro g73; assumption), (by intro g74; assumption), trivial⟩
     exact ret (rB _ e70)

theorem validExpr_fu : AllTV (validExpr_sp.ps.map PK.ty) (fun tvs => validExpr_sp.pre tvs → ∃ k, (validExpr_spn k).pre tvs ∧ (validExpr_spn k).fn tvs = validExpr_sp.fn tvs ∧ (validExpr_spn k).bx tvs = validExpr_sp.bx tvs) :=
 (fun (e : Xpr) (width : Int) (deep : Int) h => ⟨SizeOf.sizeOf e + 1, (show ((0 ≤ deep ∧ deep ≤ 8) ∧ (1 ≤ width ∧ width ≤ 6)) ∧ SizeOf.sizeOf e < SizeOf.sizeOf e + 1 from ⟨h, Nat.lt_succ_self _⟩), (show (validExpr_spn (SizeOf.sizeOf e + 1)).fn [⟨(.named 1), (e : Xpr)⟩, ⟨(.int .i64), (width : Int)⟩, ⟨(.int .i64), (deep : Int)⟩] = ([⟨.bool, (validExpr_r (SizeOf.sizeOf e + 1) e width deep)⟩] : List TV) from by kernel_rfl).trans (show ([⟨.bool, (validExpr_r (SizeOf.sizeOf e + 1) e width deep)⟩] : List TV) = validExpr_sp.fn [⟨(.named 1), (e : Xpr)⟩, ⟨(.int .i64), (width : Int)⟩, ⟨(.int .i64), (deep : Int)⟩] from by kernel_rfl), by kernel_rfl⟩)

theorem validExpr_ok : FnOK Try.prog 126 validExpr_sp := FnOK.of_fuel validExpr_okn (fun _ => rfl) (fun _ => rfl) (AllTV.get validExpr_fu)

end
end Go.Proofs.Ytodcdgolcbdkgaa


namespace Go.Proofs.Ytodcdgolcbdkgaa
open Go Go.Am
open Go.Am.AW (seq r1U ret rB r0)
open List (length getD)
noncomputable section

theorem loop_iff (L : Nat → Nat → Unit ⊕ Bool) (n : Nat) (ok : Nat → Bool) (r : Bool)
  (hS : ∀ k i, L (k + 1) i = bif decide ((i : Int) < (n : Int)) then (bif !(ok i) then .inr false else L k (i + 1)) else .inl ()) :
  Sum.elim (fun _ => r) (fun r => r) (L (n - 0 + 1) 0) = true ↔ (r = true ∧ ∀ j, j < n → ok j = true) := by
 rcases all_loop L n (fun i => !(ok i)) hS (n - 0 + 1) 0 (by omega) with ⟨h1, h2⟩ | ⟨h1, j, h2, h3, h4⟩
 · rw [h1]; simp only [Sum.elim_inl]; exact ⟨fun h => ⟨h, fun j hj => not_neg (h2 j (by omega) hj)⟩, fun h => h.1⟩
 · rw [h1]; simp only [Sum.elim_inr, Bool.false_eq_true, false_iff]; rintro ⟨_, h⟩; rw [h j h3] at h4; cases h4

structure Node (w : Int) (e : Xpr) : Prop where
 kids : (length e.Kids : Int) = kidsOfKind e.Kind
 col : e.Kind = 1 → 0 ≤ e.Col ∧ e.Col < w
 nocol : e.Kind ≠ 1 → e.Col = 0
 val : e.Kind = 2 → VV e.V
 noval : e.Kind ≠ 2 → e.V = Val.zero

def VE (w : Int) : Nat → Xpr → Prop
 | 0, e => Node w e ∧ e.Kids.length = 0
 | l + 1, e => Node w e ∧ ∀ i, i < e.Kids.length → VE w l (e.Kids.getD i Xpr.zero)

theorem VE.node {w : Int} {l : Nat} {e : Xpr} (h : VE w l e) : Node w e := by
 cases l with
 | zero => exact h.1
 | succ l => exact h.1

theorem isZ_iff {v : Val} : (bif v.Null == false then (bif v.N == 0 then true else false) else false) = true ↔ v = Val.zero := by
 obtain ⟨a, b⟩ := v
 cases a with
 | true => simp [Val.zero]
 | false => simp [Val.zero]

theorem VE_iff {w : Int} {l : Nat} {e : Xpr} : VE w l e ↔ (Node w e ∧ (0 < e.Kids.length → 0 < l)) ∧ ∀ i, i < e.Kids.length → VE w (l - 1) (e.Kids.getD i Xpr.zero) := by
 cases l with
 | zero => exact ⟨fun h => ⟨⟨h.1, fun hk => by have := h.2; omega⟩, fun i hi => by have := h.2; omega⟩, fun h => ⟨h.1.1, by have := h.1.2; omega⟩⟩
 | succ l => exact ⟨fun h => ⟨⟨h.1, fun _ => by omega⟩, h.2⟩, fun h => ⟨h.1.1, h.2⟩⟩

theorem VE.kid {w : Int} {l : Nat} {e : Xpr} (h : VE w l e) {i : Nat} (hi : i < e.Kids.length) : ∃ l', VE w l' (e.Kids.getD i Xpr.zero) := ⟨l - 1, (VE_iff.1 h).2 i hi⟩

theorem bif_false_iff {c r : Bool} : (bif c then false else r) = true ↔ (¬ c = true ∧ r = true) := by cases c <;> simp

theorem Node_iff {w : Int} {e : Xpr} : Node w e ↔ (length e.Kids : Int) = kidsOfKind e.Kind ∧ (e.Kind = 1 → 0 ≤ e.Col ∧ e.Col < w) ∧ (e.Kind ≠ 1 → e.Col = 0) ∧ (e.Kind = 2 → VV e.V) ∧ (e.Kind ≠ 2 → e.V = Val.zero) :=
 ⟨fun ⟨a, b, c, d, e⟩ => ⟨a, b, c, d, e⟩, fun ⟨a, b, c, d, e⟩ => ⟨a, b, c, d, e⟩⟩

theorem validBelow_iff {w : Int} : ∀ (f : Nat) (e : Xpr) (l : Nat), SizeOf.sizeOf e < f → (validBelow_r f e w (l : Int) = true ↔ VE w l e) := by
 intro f
 induction f with
 | zero => intro e l h; omega
 | succ f ih =>
  intro e l hf; unfold validBelow_r; rw [bif_false_iff, bif_false_iff, bif_false_iff, loop_iff (validBelow_l0 (validBelow_r f) e w l) e.Kids.length (fun i => validBelow_r f (getD e.Kids i Xpr.zero) w ((l : Int) - 1)) true (fun k i => rfl), VE_iff, Node_iff]; have hz := isZ_iff (v := e.V); have hv := valValid_iff (v := e.V); generalize (bif e.V.Null == false then (bif e.V.N == 0 then true else false) else false) = z at *; generalize valValid e.V = vv at *; have hk := kids_cases e.Kind; constructor
  ·
   rintro ⟨h1, h2, h3, -, h4⟩; rw [Bool.not_eq_true] at h1 h2 h3; have h1 := or_neg h1; have h2 := or_neg h2; have h3 := or_neg h3; have a1 := bne_neg h1.1; refine ⟨⟨⟨a1, fun hk => ?_, fun hk => ?_, fun hk => ?_, fun hk => ?_⟩, fun hp => ?_⟩, fun i hi => ?_⟩
   · have h2 := h2.1; rw [hk, show ((1 : Int) == 1) = true from rfl, cond_true] at h2; have := or_neg h2; have b1 := of_decide_eq_false this.1; have b2 := of_decide_eq_false this.2; omega
   · have h2 := h2.2; rw [show (e.Kind != 1) = true by simp [hk], cond_true] at h2; exact bne_neg h2
   · have h3 := h3.1; rw [hk, show ((2 : Int) == 2) = true from rfl, cond_true] at h3; exact hv.1 (not_neg h3)
   · have h3 := h3.2; rw [show (e.Kind != 2) = true by simp [hk], cond_true] at h3; exact hz.1 (not_neg h3)
   · have h1 := h1.2; rw [decide_eq_true (show 0 < kidsOfKind e.Kind by omega), cond_true] at h1; have := beq_neg h1; omega
   ·
    have h5 := h4 i hi
    have : 0 < l := by
     have h1 := h1.2; rw [decide_eq_true (show 0 < kidsOfKind e.Kind by omega), cond_true] at h1; have := beq_neg h1; omega
    rw [show (l : Int) - 1 = ((l - 1 : Nat) : Int) by omega] at h5; have hlt := kid_lt hi; exact (ih _ _ (by omega)).1 h5
  ·
   rintro ⟨⟨⟨a1, a2, a3, a4, a5⟩, h2⟩, h3⟩; refine ⟨?_, ?_, ?_, rfl, fun j hj => ?_⟩
   ·
    rw [a1, show (kidsOfKind e.Kind != kidsOfKind e.Kind) = false by simp, cond_false]; by_cases h : 0 < kidsOfKind e.Kind
    · rw [decide_eq_true h, cond_true]; have := h2 (by omega); simp; omega
    · rw [decide_eq_false h]; simp
   ·
    by_cases h : e.Kind = 1
    · have := a2 h; rw [h, show ((1 : Int) == 1) = true from rfl, show ((1 : Int) != 1) = false from rfl]; rw [decide_eq_false (show ¬ e.Col < 0 by omega), decide_eq_false (show ¬ w ≤ e.Col by omega)]; simp
    · have := a3 h; rw [show (e.Kind == 1) = false by simp [h], this]; simp
   ·
    by_cases h : e.Kind = 2
    · have := hv.2 (a4 h); rw [h, show ((2 : Int) == 2) = true from rfl, show ((2 : Int) != 2) = false from rfl, this]; simp
    · have := hz.2 (a5 h); rw [show (e.Kind == 2) = false by simp [h], this]; simp
   · have := h2 (by omega); have hlt := kid_lt hj; rw [show (l : Int) - 1 = ((l - 1 : Nat) : Int) by omega]; exact (ih _ _ (by omega)).2 (h3 j hj)

theorem validExpr_iff {w : Int} : ∀ (f : Nat) (e : Xpr) (l : Nat), SizeOf.sizeOf e < f → (validExpr_r f e w (l : Int) = true ↔ VE w l e) := by
 intro f
 induction f with
 | zero => intro e l h; omega
 | succ f ih =>
  intro e l hf; unfold validExpr_r; rw [kids_eq, bif_false_iff, loop_iff (validExpr_l0 (validExpr_r f) e w l) e.Kids.length (fun i => validExpr_r f (getD e.Kids i Xpr.zero) w ((l : Int) - 1)) _ (fun k i => rfl), VE_iff, Node_iff]; have hz := isZ_iff (v := e.V); have hv := validValue_iff (v := e.V); generalize (bif e.V.Null == false then (bif e.V.N == 0 then true else false) else false) = z at *; generalize validValue e.V = vv at *; constructor
  ·
   rintro ⟨h1, h2, h4⟩; rw [Bool.not_eq_true] at h1; have h1 := or_neg h1; have a1 := bne_neg h1.1; refine ⟨⟨⟨a1, fun hk => ?_, fun hk => ?_, fun hk => ?_, fun hk => ?_⟩, fun hp => ?_⟩, fun i hi => ?_⟩
   · rw [hk, show ((1 : Int) == 1) = true from rfl, cond_true] at h2; have := inRange_iff.1 (and_pos h2).1; omega
   ·
    rw [show (e.Kind == 1) = false by simp [hk], cond_false] at h2
    cases hc : (e.Col == 0) with
    | true => exact beq_pos hc
    | false => rw [hc] at h2; simp at h2
   · rw [hk, show ((2 : Int) == 1) = false from rfl, cond_false, show ((2 : Int) == 2) = true from rfl, cond_true] at h2; exact hv.1 (and_pos h2).2
   ·
    by_cases h : e.Kind = 1
    · rw [h, show ((1 : Int) == 1) = true from rfl, cond_true] at h2; exact hz.1 (and_pos h2).2
    · rw [show (e.Kind == 1) = false by simp [h], show (e.Kind == 2) = false by simp [hk], cond_false, cond_false] at h2; exact hz.1 (and_pos h2).2
   · have h1 := h1.2; rw [decide_eq_true (show 0 < (length e.Kids : Int) by omega), cond_true] at h1; have := beq_neg h1; omega
   ·
    have h5 := h4 i hi
    have : 0 < l := by
     have h1 := h1.2; rw [decide_eq_true (show 0 < (length e.Kids : Int) by omega), cond_true] at h1; have := beq_neg h1; omega
    rw [show (l : Int) - 1 = ((l - 1 : Nat) : Int) by omega] at h5; have hlt := kid_lt hi; exact (ih _ _ (by omega)).1 h5
  ·
   rintro ⟨⟨⟨a1, a2, a3, a4, a5⟩, h2⟩, h3⟩; refine ⟨?_, ?_, fun j hj => ?_⟩
   ·
    rw [a1, show (kidsOfKind e.Kind != kidsOfKind e.Kind) = false by simp, cond_false]; by_cases h : 0 < kidsOfKind e.Kind
    · rw [decide_eq_true h, cond_true]; have := h2 (by omega); simp; omega
    · rw [decide_eq_false h]; simp
   ·
    by_cases h : e.Kind = 1
    · have := a2 h; have e1 := inRange_iff.2 (show 0 ≤ e.Col ∧ e.Col ≤ w - 1 by omega); have e2 := hz.2 (a5 (by omega)); rw [h, show ((1 : Int) == 1) = true from rfl, e1, e2]; rfl
    ·
     have e0 := a3 h; rw [show (e.Kind == 1) = false by simp [h], e0, cond_false]; by_cases h' : e.Kind = 2
     · rw [h', hv.2 (a4 h')]; rfl
     · rw [show (e.Kind == 2) = false by simp [h'], hz.2 (a5 h')]; rfl
   · have := h2 (by omega); have hlt := kid_lt hj; rw [show (l : Int) - 1 = ((l - 1 : Nat) : Int) by omega]; exact (ih _ _ (by omega)).2 (h3 j hj)

def ValidExpr (e : Xpr) (width : Int) : Bool := (bif (inRange width 1 6) then (validExpr (Xpr.mk (Xpr.Kind e) (Xpr.Col e) (Xpr.V e) (Xpr.Kids e)) width 8) else false)

def ValidExpr_sp : FnSpec := mkSpec [.val (.named 1), .val (.int .i64)] [.val .bool] (fun (e : Xpr) (width : Int) => True) (fun (e : Xpr) (width : Int) => [⟨.bool, (ValidExpr e width)⟩])

theorem ValidExpr_ok : FnOK Try.prog 96 ValidExpr_sp := by
 have hC : CtxOK Try.prog (mkCtx tyL [(88, inRange_sp), (126, validExpr_sp)]) := CtxOK.cons inRange_ok (CtxOK.cons validExpr_ok (CtxOK.nil tyOK)); refine FnOK.of_body Try.func96 (by kernel_rfl) rfl (C := (mkCtx tyL [(88, inRange_sp), (126, validExpr_sp)])) hC.ty (by kernel_rfl) ?_; intro (e : Xpr) (width : Int) hwf hpre E; have e0 : ValidExpr e width = ValidExpr e width := rfl; refine seq (r1U hC [1, 2] [8] [(2, .ref 8 1 0)] [(8, .box 1 [sI (Xpr.Kind e), sI (Xpr.Col e), sB (Val.Null (Xpr.V e)), sI (Val.N (Xpr.V e)), sD9 (Xpr.Kids e)])] ?_); refine seq (r0 hC [4] [] ⟨[(4, sB (bif (inRange width 1 6) then (validExpr (Xpr.mk (Xpr.Kind e) (Xpr.Col e) (Xpr.V e) (Xpr.Kids e)) width 8) else false))], []⟩ [(True), (((inRange width 1 6) = true) → (((inRange width 1 6) = true))), (((inRange width 1 6) = true) → (((inRange width 1 6) = true))), (((inRange width 1 6) = true) → ((0 ≤ (8 : Int) ∧ (8 : Int) ≤ 8) ∧ (1 ≤ width ∧ width ≤ 6))), (((inRange width 1 6) = true) → (((inRange width 1 6) = true)))] ?_ ?_)
 ·
  exact ⟨trivial, (by intro g1; assumption), (by intro g2; assumption), (by intro g3; (have g3p0 : (inRange width 1 6) = true := g3); exact ⟨by decide, inRange_iff.1 g3p0⟩), (by intro g4; assumption), trivial⟩
 exact ret (rB _ e0)

def iValidExpr (e : Xpr) (width : Int) : Bool := (bif (validWidth width) then (validBelow (Xpr.mk (Xpr.Kind e) (Xpr.Col e) (Xpr.V e) (Xpr.Kids e)) width 8) else false)

def iValidExpr_sp : FnSpec := mkSpec [.val (.named 1), .val (.int .i64)] [.val .bool] (fun (e : Xpr) (width : Int) => True) (fun (e : Xpr) (width : Int) => [⟨.bool, (iValidExpr e width)⟩])

theorem iValidExpr_ok : FnOK Try.prog 99 iValidExpr_sp := by
 have hC : CtxOK Try.prog (mkCtx tyL [(123, validWidth_sp), (131, validBelow_sp)]) := CtxOK.cons validWidth_ok (CtxOK.cons validBelow_ok (CtxOK.nil tyOK)); refine FnOK.of_body Try.func99 (by kernel_rfl) rfl (C := (mkCtx tyL [(123, validWidth_sp), (131, validBelow_sp)])) hC.ty (by kernel_rfl) ?_; intro (e : Xpr) (width : Int) hwf hpre E; have e0 : iValidExpr e width = iValidExpr e width := rfl; refine seq (r1U hC [1, 2] [8] [(2, .ref 8 1 0)] [(8, .box 1 [sI (Xpr.Kind e), sI (Xpr.Col e), sB (Val.Null (Xpr.V e)), sI (Val.N (Xpr.V e)), sD9 (Xpr.Kids e)])] ?_); refine seq (r0 hC [4] [] ⟨[(4, sB (bif (validWidth width) then (validBelow (Xpr.mk (Xpr.Kind e) (Xpr.Col e) (Xpr.V e) (Xpr.Kids e)) width 8) else false))], []⟩ [(True), (((validWidth width) = true) → (((validWidth width) = true))), (((validWidth width) = true) → (0 ≤ (8 : Int) ∧ (8 : Int) ≤ 8)), (((validWidth width) = true) → (((validWidth width) = true)))] ?_ ?_)
 ·
  exact ⟨trivial, (by intro g1; assumption), (by intro g2; omega), (by intro g3; assumption), trivial⟩
 exact ret (rB _ e0)

theorem ValidExpr_iff {e : Xpr} {w : Int} : ValidExpr e w = true ↔ (1 ≤ w ∧ w ≤ 6) ∧ VE w 8 e := by
 unfold ValidExpr; rw [Xpr.eta]; have h := validExpr_iff (w := w) (SizeOf.sizeOf e + 1) e 8 (Nat.lt_succ_self _); change (validExpr e w 8 = true ↔ _) at h; rw [← h, ← inRange_iff]; cases inRange w 1 6 <;> simp

theorem iValidExpr_iff {e : Xpr} {w : Int} : iValidExpr e w = true ↔ (1 ≤ w ∧ w ≤ 6) ∧ VE w 8 e := by
 unfold iValidExpr; rw [Xpr.eta]; have h := validBelow_iff (w := w) (SizeOf.sizeOf e + 1) e 8 (Nat.lt_succ_self _); change (validBelow e w 8 = true ↔ _) at h; rw [← h, ← validWidth_iff]; cases validWidth w <;> simp

theorem ValidExpr_same (e : Xpr) (w : Int) : iValidExpr e w = ValidExpr e w := by
 rw [Bool.eq_iff_iff, iValidExpr_iff, ValidExpr_iff]

end
end Go.Proofs.Ytodcdgolcbdkgaa
