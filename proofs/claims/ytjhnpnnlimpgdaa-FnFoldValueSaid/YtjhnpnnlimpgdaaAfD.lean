/-
  A part of the proof of this claim (AfD): what functions of the program compute, and plain facts of that. No conditions.
-/
import Derived.Test.YtjhnpnnlimpgdaaAfC
set_option linter.all false
namespace Go.Proofs.Ytjhnpnnlimpgdaa
open Go Go.Am
noncomputable section

def randomValue (r : Rdr) : Val × Rdr := (bif ((pick (Rdr.b r) (Rdr.p r) 5) == 0) then ((Val.mk true 0), (Rdr.mk (Rdr.b r) ((Rdr.p r) + 1))) else ((Val.mk false (one (Rdr.b r) ((Rdr.p r) + 1) ([0, 1, 2, 3, (-1)] : List Int))), (Rdr.mk (Rdr.b r) (((Rdr.p r) + 1) + 1))))

def randomValue_sp : FnSpec := mkSpecB [.box 2] [.val (.named 0)] (fun (r : Rdr) => 0 ≤ r.p ∧ r.p ≤ 1000000000000) (fun (r : Rdr) => [⟨(.named 0), ((randomValue r).1)⟩]) (fun (r : Rdr) => [⟨(.named 2), ((randomValue r).2)⟩])

theorem randomValue_ok : FnOK Try.prog 18 randomValue_sp := by
 have hC : CtxOK Try.prog (mkCtx tyL [(15, pickS), (16, oneS)]) := CtxOK.cons pickS_ok (CtxOK.cons oneS_ok (CtxOK.nil tyOK))
 refine FnOK.of_body Try.func18 (by kernel_rfl) rfl (C := (mkCtx tyL [(15, pickS), (16, oneS)])) hC.ty (by kernel_rfl) ?_
 intro (r : Rdr) hwf hpre E
 have hpre : 0 ≤ r.p ∧ r.p ≤ 1000000000000 := hpre
 have hw_r : Wf ⟨(.named 2), (r : Rdr)⟩ := hwf _ (List.Mem.head _)
 obtain ⟨hl_r_b, hr_r_p⟩ := Rdr.wfl hw_r
 have e0 : randomValue r = randomValue r := rfl
 refine AW.seq (AW.r1 hC [0, 2] [0, 8] ⟨[(0, .ref 0 0 0), (2, .ref 8 1 0)], [(0, .box 0 [sD7 (Rdr.b r), sI (Rdr.p r)]), (8, .box 1 [sB false, sI 0])]⟩ ?_)
 refine AW.seq (AW.seq (AW.r0 hC [0, 2, 5] [0, 8] ⟨[(0, .ref 0 0 0), (2, .ref 8 1 0), (5, sB ((pick (Rdr.b r) (Rdr.p r) 5) == 0))], [(0, .box 0 [sD7 (Rdr.b r), sI ((Rdr.p r) + 1)]), (8, .box 1 [sB false, sI 0])]⟩ [(0 ≤ r.p ∧ r.p ≤ 1099511627776)] ?_ ?_))
 ·
  refine ⟨?_, trivial⟩
  ·
   omega
 refine AW.cd ((pick (Rdr.b r) (Rdr.p r) 5) == 0) ?_ ?_
 ·
  intro h1
  have h1q := (Go.Am.beq_pos h1)
  have e2 := e0.trans (Go.Am.bif_t h1)
  refine AW.seq (AW.r1 hC [2] [0, 8] ⟨[(2, .ref 8 1 0)], [(0, .box 0 [sD7 (Rdr.b r), sI ((Rdr.p r) + 1)]), (8, .box 1 [sB true, sI 0])]⟩ ?_)
  exact AW.ret (AW.retE (β := Val × Rdr) (fun v => [⟨(.named 0), v.1⟩]) (fun v => [⟨(.named 2), v.2⟩]) (v := ((Val.mk true 0), (Rdr.mk (Rdr.b r) ((Rdr.p r) + 1)))) e2 (by kernel_rfl) rfl rfl)
 ·
  intro h3
  have h3q := (Go.Am.beq_neg h3)
  have e4 := e0.trans (Go.Am.bif_f h3)
  refine AW.kp [0, 2] [0, 8] ⟨[(0, .ref 0 0 0), (2, .ref 8 1 0)], [(0, .box 0 [sD7 (Rdr.b r), sI ((Rdr.p r) + 1)]), (8, .box 1 [sB false, sI 0])]⟩ ?_
  refine AW.skip (AW.seq (AW.r0 hC [2] [0, 8] ⟨[(2, .ref 8 1 0)], [(0, .box 0 [sD7 (Rdr.b r), sI (((Rdr.p r) + 1) + 1)]), (8, .box 1 [sB false, sI (one (Rdr.b r) ((Rdr.p r) + 1) ([0, 1, 2, 3, (-1)] : List Int))])]⟩ [((0 ≤ (Rdr.mk (Rdr.b r) ((Rdr.p r) + 1)).p ∧ (Rdr.mk (Rdr.b r) ((Rdr.p r) + 1)).p ≤ 1099511627775) ∧ 1 ≤ (List.length ([0, 1, 2, 3, (-1)] : List Int) : Int))] ?_ ?_))
  ·
   refine ⟨?_, trivial⟩
   ·
    simp only [lens] at *; omega
  exact AW.ret (AW.retE (β := Val × Rdr) (fun v => [⟨(.named 0), v.1⟩]) (fun v => [⟨(.named 2), v.2⟩]) (v := ((Val.mk false (one (Rdr.b r) ((Rdr.p r) + 1) ([0, 1, 2, 3, (-1)] : List Int))), (Rdr.mk (Rdr.b r) (((Rdr.p r) + 1) + 1)))) e4 (by kernel_rfl) rfl rfl)

theorem randomValue_p (r : Rdr) : r.p ≤ (randomValue r).2.p ∧ (randomValue r).2.p ≤ r.p + 2 := by
 unfold randomValue
 cases (pick r.b r.p 5 == 0) with
 | true => exact ⟨by show r.p ≤ r.p + 1; omega, by show r.p + 1 ≤ r.p + 2; omega⟩
 | false => exact ⟨by show r.p ≤ r.p + 1 + 1; omega, by show r.p + 1 + 1 ≤ r.p + 2; omega⟩

def pw : Nat → Int
 | 0 => 4
 | n + 1 => 1 + 3 * pw n

theorem pw_pos : ∀ n, 4 ≤ pw n
 | 0 => by decide
 | n + 1 => by have := pw_pos n; show 4 ≤ 1 + 3 * pw n; omega

theorem pw_le : ∀ {n : Nat}, n ≤ 2 → pw n ≤ 40
 | 0, _ => by decide
 | 1, _ => by decide
 | 2, _ => by decide
 | n + 3, h => by omega

theorem kids3 (k : Int) : kidsOf k ≤ 2 := by
 rw [kids_eq]
 have := kids_cases k
 omega

def randomExpr_l0 (self : Rdr → Int → Int → (Xpr × Rdr)) (r : Rdr) (width : Int) (deep : Int) : Nat → Nat → (List Int) → Int → (List Xpr) → (List Int) × Int × (List Xpr)
 | 0, i, r0, r1, ar192 => (r0, r1, ar192)
 | k + 1, i, r0, r1, ar192 => (bif (decide (((i : Nat) : Int) < (kidsOf (3 + ((pick (Rdr.b r) (Rdr.p r) 13) % 9))))) then (randomExpr_l0 self r width deep k (i + 1) (Rdr.b ((self (Rdr.mk r0 r1) width (deep - 1)).2)) (Rdr.p ((self (Rdr.mk r0 r1) width (deep - 1)).2)) (ar192 ++ ([((self (Rdr.mk r0 r1) width (deep - 1)).1)] : List Xpr))) else (r0, r1, ar192))

def randomExpr_r : Nat → Rdr → Int → Int → (Xpr × Rdr)
 | 0, r, width, deep => (Xpr.zero, Rdr.zero)
 | fuel + 1, r, width, deep => (bif (bif (deep == 0) then true else (decide (10 < (pick (Rdr.b r) (Rdr.p r) 13)))) then (bif (decide (0 < (pick (Rdr.b r) ((Rdr.p r) + 1) 3))) then ((Xpr.mk 1 (pick (Rdr.b r) (((Rdr.p r) + 1) + 1) width) (Val.mk false 0) ([] : List Xpr)), (Rdr.mk (Rdr.b r) ((((Rdr.p r) + 1) + 1) + 1))) else ((Xpr.mk (Xpr.Kind (constant ((randomValue (Rdr.mk (Rdr.b r) (((Rdr.p r) + 1) + 1))).1))) (Xpr.Col (constant ((randomValue (Rdr.mk (Rdr.b r) (((Rdr.p r) + 1) + 1))).1))) (Xpr.V (constant ((randomValue (Rdr.mk (Rdr.b r) (((Rdr.p r) + 1) + 1))).1))) (Xpr.Kids (constant ((randomValue (Rdr.mk (Rdr.b r) (((Rdr.p r) + 1) + 1))).1)))), ((randomValue (Rdr.mk (Rdr.b r) (((Rdr.p r) + 1) + 1))).2))) else (Go.Am.andThen (randomExpr_l0 (randomExpr_r fuel) r width deep (Int.toNat ((kidsOf (3 + ((pick (Rdr.b r) (Rdr.p r) 13) % 9))) - ((0 : Nat) : Int)) + 1) 0 (Rdr.b r) ((Rdr.p r) + 1) ([] : List Xpr)) (fun z => (fun (r0 : List Int) (r1 : Int) (ar192 : List Xpr) => ((Xpr.mk (3 + ((pick (Rdr.b r) (Rdr.p r) 13) % 9)) 0 (Val.mk false 0) ar192), (Rdr.mk r0 r1))) z.1 z.2.1 z.2.2)))

def randomExpr (r : Rdr) (width : Int) (deep : Int) : Xpr × Rdr := randomExpr_r (Int.toNat deep + 1) r width deep

def randomExpr_spn (fuel : Nat) : FnSpec := mkSpecB [.box 2, .val (.int .i64), .val (.int .i64)] [.val (.named 1)] (fun (r : Rdr) (width : Int) (deep : Int) => ((0 ≤ deep ∧ deep ≤ 3) ∧ (0 ≤ r.p ∧ r.p + 1000 * deep ≤ 999999999000)) ∧ Int.toNat deep < fuel) (fun (r : Rdr) (width : Int) (deep : Int) => [⟨(.named 1), ((randomExpr_r fuel r width deep).1)⟩]) (fun (r : Rdr) (width : Int) (deep : Int) => [⟨(.named 2), ((randomExpr_r fuel r width deep).2)⟩])

def randomExpr_sp : FnSpec := mkSpecB [.box 2, .val (.int .i64), .val (.int .i64)] [.val (.named 1)] (fun (r : Rdr) (width : Int) (deep : Int) => (0 ≤ deep ∧ deep ≤ 3) ∧ (0 ≤ r.p ∧ r.p + 1000 * deep ≤ 999999999000)) (fun (r : Rdr) (width : Int) (deep : Int) => [⟨(.named 1), ((randomExpr r width deep).1)⟩]) (fun (r : Rdr) (width : Int) (deep : Int) => [⟨(.named 2), ((randomExpr r width deep).2)⟩])

theorem randomExpr_l0_p (self : Rdr → Int → Int → Xpr × Rdr) (r : Rdr) (width deep c : Int) (hc : 0 ≤ c) (hs : ∀ r', r'.p ≤ (self r' width (deep - 1)).2.p ∧ (self r' width (deep - 1)).2.p ≤ r'.p + c) :
  ∀ (k i : Nat) (r0 : List Int) (r1 : Int) (a : List Xpr), i ≤ 3 → r1 ≤ (randomExpr_l0 self r width deep k i r0 r1 a).2.1 ∧ (randomExpr_l0 self r width deep k i r0 r1 a).2.1 ≤ r1 + (3 - (i : Int)) * c := by
 intro k
 induction k with
 | zero =>
  intro i r0 r1 a hi
  have := Int.mul_nonneg (show 0 ≤ 3 - (i : Int) by omega) hc
  exact ⟨Int.le_refl _, by show r1 ≤ _; omega⟩
 | succ k ih =>
  intro i r0 r1 a hi
  unfold randomExpr_l0
  by_cases h : ((i : Nat) : Int) < kidsOf (3 + pick r.b r.p 13 % 9)
  ·
   rw [show decide (((i : Nat) : Int) < kidsOf (3 + pick r.b r.p 13 % 9)) = true from decide_eq_true h, cond_true]
   have h3 := kids3 (3 + pick r.b r.p 13 % 9)
   have h1 := ih (i + 1) (Rdr.b (self (Rdr.mk r0 r1) width (deep - 1)).2) (Rdr.p (self (Rdr.mk r0 r1) width (deep - 1)).2) (a ++ [(self (Rdr.mk r0 r1) width (deep - 1)).1]) (by omega)
   have h2 := hs (Rdr.mk r0 r1)
   have e : (3 - (i : Int)) * c = (3 - ((i + 1 : Nat) : Int)) * c + c := by
    rw [show 3 - (i : Int) = (3 - ((i + 1 : Nat) : Int)) + 1 by omega, Int.add_mul, Int.one_mul]
   have h20 : r1 ≤ (self (Rdr.mk r0 r1) width (deep - 1)).2.p := h2.1
   have h21 : (self (Rdr.mk r0 r1) width (deep - 1)).2.p ≤ r1 + c := h2.2
   omega
  ·
   rw [show decide (((i : Nat) : Int) < kidsOf (3 + pick r.b r.p 13 % 9)) = false from decide_eq_false h, cond_false]
   have := Int.mul_nonneg (show 0 ≤ 3 - (i : Int) by omega) hc
   exact ⟨Int.le_refl _, by show r1 ≤ _; omega⟩

theorem randomExpr_p : ∀ (n f : Nat) (r : Rdr) (width : Int), n < f → r.p ≤ (randomExpr_r f r width (n : Int)).2.p ∧ (randomExpr_r f r width (n : Int)).2.p ≤ r.p + pw n := by
 intro n
 induction n with
 | zero =>
  intro f r width h
  obtain ⟨f, rfl⟩ : ∃ g, f = g + 1 := ⟨f - 1, by omega⟩
  unfold randomExpr_r
  simp only [Int.natCast_zero, beq_self_eq_true, cond_true]
  cases (decide (0 < pick r.b (r.p + 1) 3)) with
  | true => exact ⟨by show r.p ≤ r.p + 1 + 1 + 1; omega, by show r.p + 1 + 1 + 1 ≤ r.p + 4; omega⟩
  | false =>
   have := randomValue_p (Rdr.mk r.b (r.p + 1 + 1))
   simp only [cond_false] at this ⊢
   show _ ∧ _ ≤ r.p + 4
   omega
 | succ n ih =>
  intro f r width h
  obtain ⟨f, rfl⟩ : ∃ g, f = g + 1 := ⟨f - 1, by omega⟩
  have hp := pw_pos n
  unfold randomExpr_r
  show _ ∧ _ ≤ r.p + (1 + 3 * pw n)
  cases (bif (((n + 1 : Nat) : Int) == 0) then true else (decide (10 < pick r.b r.p 13))) with
  | true =>
   simp only [cond_true]
   cases (decide (0 < pick r.b (r.p + 1) 3)) with
   | true => exact ⟨by show r.p ≤ r.p + 1 + 1 + 1; omega, by show r.p + 1 + 1 + 1 ≤ _; omega⟩
   | false =>
    have := randomValue_p (Rdr.mk r.b (r.p + 1 + 1))
    simp only [cond_false] at this ⊢
    omega
  | false =>
   simp only [cond_false, Go.Am.andThen]
   have := randomExpr_l0_p (randomExpr_r f) r width ((n + 1 : Nat) : Int) (pw n) (by omega) (fun r' => by
    rw [show ((n + 1 : Nat) : Int) - 1 = (n : Int) by omega]
    exact ih f r' width (by omega)) (Int.toNat ((kidsOf (3 + pick r.b r.p 13 % 9)) - ((0 : Nat) : Int)) + 1) 0 r.b (r.p + 1) [] (by omega)
   omega

theorem randomExpr_p' (f : Nat) (r : Rdr) (width : Int) {d : Int} (h0 : 0 ≤ d) (h : d.toNat < f) : r.p ≤ (randomExpr_r f r width d).2.p ∧ (randomExpr_r f r width d).2.p ≤ r.p + pw d.toNat := by
 have := randomExpr_p d.toNat f r width h
 rwa [show ((d.toNat : Nat) : Int) = d by omega] at this

theorem randomExpr_okn (fuel : Nat) : FnOK Try.prog 29 (randomExpr_spn fuel) := by
 induction fuel with
 | zero => exact FnOK.never Try.func29 (by kernel_rfl) rfl (fun _ _ _ h => absurd h.2 (Nat.not_lt_zero _))
 | succ fuel ih => ?_
 have hC : CtxOK Try.prog (mkCtx tyL [(15, pickS), (17, constant_sp), (18, randomValue_sp), (29, (randomExpr_spn fuel)), (44, kidsOf_sp)]) := CtxOK.cons pickS_ok (CtxOK.cons constant_ok (CtxOK.cons randomValue_ok (CtxOK.cons ih (CtxOK.cons kidsOf_ok (CtxOK.nil tyOK)))))
 have hM : Try.prog.follows .mixedOrders = true := Try.checked.mixed
 refine FnOK.of_body Try.func29 (by kernel_rfl) rfl (C := (mkCtx tyL [(15, pickS), (17, constant_sp), (18, randomValue_sp), (29, (randomExpr_spn fuel)), (44, kidsOf_sp)])) hC.ty (by kernel_rfl) ?_
 intro (r : Rdr) (width : Int) (deep : Int) hwf hpre E
 have hpre : ((0 ≤ deep ∧ deep ≤ 3) ∧ (0 ≤ r.p ∧ r.p + 1000 * deep ≤ 999999999000)) ∧ Int.toNat deep < fuel + 1 := hpre
 have hw_r : Wf ⟨(.named 2), (r : Rdr)⟩ := hwf _ (List.Mem.head _)
 obtain ⟨hl_r_b, hr_r_p⟩ := Rdr.wfl hw_r
 have hw_width : Wf ⟨(.int .i64), (width : Int)⟩ := hwf _ (List.Mem.tail _ (List.Mem.head _))
 have hr_width : -9223372036854775808 ≤ width ∧ width ≤ 9223372036854775807 := hw_width.int_inv
 have hw_deep : Wf ⟨(.int .i64), (deep : Int)⟩ := hwf _ (List.Mem.tail _ (List.Mem.tail _ (List.Mem.head _)))
 have hr_deep : -9223372036854775808 ≤ deep ∧ deep ≤ 9223372036854775807 := hw_deep.int_inv
 have e0 : randomExpr_r (fuel + 1) r width deep = randomExpr_r (fuel + 1) r width deep := rfl
 refine AW.seq (AW.r1 hC [0, 1, 2, 6] [0, 24] ⟨[(0, .ref 0 0 0), (1, sI width), (2, sI deep), (6, .ref 24 1 0)], [(0, .box 0 [sD7 (Rdr.b r), sI (Rdr.p r)]), (24, .box 1 [sI 0, sI 0, sB false, sI 0, .nilsl])]⟩ ?_)
 refine AW.seq (AW.r0 hC [0, 1, 2, 6, 7] [0, 24] ⟨[(0, .ref 0 0 0), (1, sI width), (2, sI deep), (6, .ref 24 1 0), (7, sI (pick (Rdr.b r) (Rdr.p r) 13))], [(0, .box 0 [sD7 (Rdr.b r), sI ((Rdr.p r) + 1)]), (24, .box 1 [sI 0, sI 0, sB false, sI 0, .nilsl])]⟩ [(0 ≤ r.p ∧ r.p ≤ 1099511627776)] ?_ ?_)
 ·
  refine ⟨?_, trivial⟩
  ·
   omega
 refine AW.seq (AW.seq (AW.r0 hC [0, 1, 2, 6, 7, 18] [0, 24] ⟨[(0, .ref 0 0 0), (1, sI width), (2, sI deep), (6, .ref 24 1 0), (7, sI (pick (Rdr.b r) (Rdr.p r) 13)), (18, sB (bif (deep == 0) then true else (decide (10 < (pick (Rdr.b r) (Rdr.p r) 13)))))], [(0, .box 0 [sD7 (Rdr.b r), sI ((Rdr.p r) + 1)]), (24, .box 1 [sI 0, sI 0, sB false, sI 0, .nilsl])]⟩ [(((deep == 0) = false) → (((deep == 0) = false))), (((deep == 0) = false) → (((deep == 0) = false)))] ?_ ?_))
 ·
  refine ⟨?_, ?_, trivial⟩
  ·
   intro g1
   have g1p0 : deep ≠ 0 := (Go.Am.beq_neg g1)
   assumption
  ·
   intro g2
   have g2p0 : deep ≠ 0 := (Go.Am.beq_neg g2)
   assumption
 refine AW.cd (bif (deep == 0) then true else (decide (10 < (pick (Rdr.b r) (Rdr.p r) 13)))) ?_ ?_
 ·
  intro h3
  have h3q : (deep = 0) ∨ (10 < (pick (Rdr.b r) (Rdr.p r) 13)) := (Or.imp (fun h => (Go.Am.beq_pos h)) (fun h => (of_decide_eq_true h)) (Go.Am.or_pos h3))
  have e4 := e0.trans (Go.Am.bif_t h3)
  refine AW.seq (AW.seq (AW.r0 hC [0, 1, 6, 21] [0, 24] ⟨[(0, .ref 0 0 0), (1, sI width), (6, .ref 24 1 0), (21, sB (decide (0 < (pick (Rdr.b r) ((Rdr.p r) + 1) 3))))], [(0, .box 0 [sD7 (Rdr.b r), sI (((Rdr.p r) + 1) + 1)]), (24, .box 1 [sI 0, sI 0, sB false, sI 0, .nilsl])]⟩ [(0 ≤ (Rdr.mk (Rdr.b r) ((Rdr.p r) + 1)).p ∧ (Rdr.mk (Rdr.b r) ((Rdr.p r) + 1)).p ≤ 1099511627776)] ?_ ?_))
  ·
   refine ⟨?_, trivial⟩
   ·
    dsimp only; omega
  refine AW.cd (decide (0 < (pick (Rdr.b r) ((Rdr.p r) + 1) 3))) ?_ ?_
  ·
   intro h5
   have h5q := (of_decide_eq_true h5)
   have e6 := e4.trans (Go.Am.bif_t h5)
   refine AW.seq (AW.r0 hC [6] [0, 24] ⟨[(6, .ref 24 1 0)], [(0, .box 0 [sD7 (Rdr.b r), sI ((((Rdr.p r) + 1) + 1) + 1)]), (24, .box 1 [sI 1, sI (pick (Rdr.b r) (((Rdr.p r) + 1) + 1) width), sB false, sI 0, .nilsl])]⟩ [(0 ≤ (Rdr.mk (Rdr.b r) (((Rdr.p r) + 1) + 1)).p ∧ (Rdr.mk (Rdr.b r) (((Rdr.p r) + 1) + 1)).p ≤ 1099511627776)] ?_ ?_)
   ·
    refine ⟨?_, trivial⟩
    ·
     dsimp only; omega
   exact AW.ret (AW.retE (β := Xpr × Rdr) (fun v => [⟨(.named 1), v.1⟩]) (fun v => [⟨(.named 2), v.2⟩]) (v := ((Xpr.mk 1 (pick (Rdr.b r) (((Rdr.p r) + 1) + 1) width) (Val.mk false 0) ([] : List Xpr)), (Rdr.mk (Rdr.b r) ((((Rdr.p r) + 1) + 1) + 1)))) e6 (by kernel_rfl) rfl rfl)
  ·
   intro h7
   have h7q := (of_decide_eq_false h7)
   have e8 := e4.trans (Go.Am.bif_f h7)
   refine AW.kp [0, 6] [0, 24] ⟨[(0, .ref 0 0 0), (6, .ref 24 1 0)], [(0, .box 0 [sD7 (Rdr.b r), sI (((Rdr.p r) + 1) + 1)]), (24, .box 1 [sI 0, sI 0, sB false, sI 0, .nilsl])]⟩ ?_
   refine AW.skip (AW.seq (AW.r0 hC [6] [0, 24] ⟨[(6, .ref 24 1 0)], [(0, .box 0 [sD7 (Rdr.b ((randomValue (Rdr.mk (Rdr.b r) (((Rdr.p r) + 1) + 1))).2)), sI (Rdr.p ((randomValue (Rdr.mk (Rdr.b r) (((Rdr.p r) + 1) + 1))).2))]), (24, .box 1 [sI (Xpr.Kind (constant ((randomValue (Rdr.mk (Rdr.b r) (((Rdr.p r) + 1) + 1))).1))), sI (Xpr.Col (constant ((randomValue (Rdr.mk (Rdr.b r) (((Rdr.p r) + 1) + 1))).1))), sB (Val.Null (Xpr.V (constant ((randomValue (Rdr.mk (Rdr.b r) (((Rdr.p r) + 1) + 1))).1)))), sI (Val.N (Xpr.V (constant ((randomValue (Rdr.mk (Rdr.b r) (((Rdr.p r) + 1) + 1))).1)))), sD9 (Xpr.Kids (constant ((randomValue (Rdr.mk (Rdr.b r) (((Rdr.p r) + 1) + 1))).1)))])]⟩ [(0 ≤ (Rdr.mk (Rdr.b r) (((Rdr.p r) + 1) + 1)).p ∧ (Rdr.mk (Rdr.b r) (((Rdr.p r) + 1) + 1)).p ≤ 1000000000000), (True)] ?_ ?_))
   ·
    refine ⟨?_, ?_, trivial⟩
    ·
     dsimp only; omega
    ·
     trivial
   exact AW.ret (AW.retE (β := Xpr × Rdr) (fun v => [⟨(.named 1), v.1⟩]) (fun v => [⟨(.named 2), v.2⟩]) (v := ((Xpr.mk (Xpr.Kind (constant ((randomValue (Rdr.mk (Rdr.b r) (((Rdr.p r) + 1) + 1))).1))) (Xpr.Col (constant ((randomValue (Rdr.mk (Rdr.b r) (((Rdr.p r) + 1) + 1))).1))) (Xpr.V (constant ((randomValue (Rdr.mk (Rdr.b r) (((Rdr.p r) + 1) + 1))).1))) (Xpr.Kids (constant ((randomValue (Rdr.mk (Rdr.b r) (((Rdr.p r) + 1) + 1))).1)))), ((randomValue (Rdr.mk (Rdr.b r) (((Rdr.p r) + 1) + 1))).2))) e8 (by kernel_rfl) rfl rfl)
 ·
  intro h9
  have h9q : (deep ≠ 0) ∧ (¬ (10 < (pick (Rdr.b r) (Rdr.p r) 13))) := (And.imp (fun h => (Go.Am.beq_neg h)) (fun h => (of_decide_eq_false h)) (Go.Am.or_neg h9))
  have e10 := e0.trans (Go.Am.bif_f h9)
  refine AW.kp [0, 1, 2, 6, 7] [0, 24] ⟨[(0, .ref 0 0 0), (1, sI width), (2, sI deep), (6, .ref 24 1 0), (7, sI (pick (Rdr.b r) (Rdr.p r) 13))], [(0, .box 0 [sD7 (Rdr.b r), sI ((Rdr.p r) + 1)]), (24, .box 1 [sI 0, sI 0, sB false, sI 0, .nilsl])]⟩ ?_
  refine AW.skip (AW.seq (AW.r0 hC [0, 1, 2, 6, 8] [0, 24] ⟨[(0, .ref 0 0 0), (1, sI width), (2, sI deep), (6, .ref 24 1 0), (8, sI (3 + ((pick (Rdr.b r) (Rdr.p r) 13) % 9)))], [(0, .box 0 [sD7 (Rdr.b r), sI ((Rdr.p r) + 1)]), (24, .box 1 [sI 0, sI 0, sB false, sI 0, .nilsl])]⟩ [(0 ≤ (pick (Rdr.b r) (Rdr.p r) 13) ∧ 0 < (9 : Int)), R64 (3 + ((pick (Rdr.b r) (Rdr.p r) 13) % 9))] ?_ ?_))
  ·
   refine ⟨?_, ?_, trivial⟩
   ·
    have := pick_ok (n := 13) r.b r.p (by decide); omega
   ·
    refine R64.of ?_
    omega
  refine AW.seq (AW.r1 hC [0, 1, 2, 6, 8, 9] [0, 24, 36] ⟨[(0, .ref 0 0 0), (1, sI width), (2, sI deep), (6, .ref 24 1 0), (8, sI (3 + ((pick (Rdr.b r) (Rdr.p r) 13) % 9))), (9, .ref 36 1 0)], [(0, .box 0 [sD7 (Rdr.b r), sI ((Rdr.p r) + 1)]), (24, .box 1 [sI 0, sI 0, sB false, sI 0, .nilsl]), (36, .box 1 [sI (3 + ((pick (Rdr.b r) (Rdr.p r) 13) % 9)), sI 0, sB false, sI 0, .nilsl])]⟩ ?_)
  refine AW.seq (AW.seq (AW.r1 hC [0, 1, 2, 6, 8, 9, 10] [0, 24, 36] ⟨[(0, .ref 0 0 0), (1, sI width), (2, sI deep), (6, .ref 24 1 0), (8, sI (3 + ((pick (Rdr.b r) (Rdr.p r) 13) % 9))), (9, .ref 36 1 0), (10, sI 0)], [(0, .box 0 [sD7 (Rdr.b r), sI ((Rdr.p r) + 1)]), (24, .box 1 [sI 0, sI 0, sB false, sI 0, .nilsl]), (36, .box 1 [sI (3 + ((pick (Rdr.b r) (Rdr.p r) 13) % 9)), sI 0, sB false, sI 0, .nilsl])]⟩ ?_))
  refine AW.adoptB 36 1 4 192 [sI (3 + ((pick (Rdr.b r) (Rdr.p r) 13) % 9)), sI 0, sB false, sI 0, .nilsl] (.named 1) (by kernel_rfl) (by kernel_rfl) (by kernel_rfl) ?_
  refine AW.kp [0, 1, 2, 6, 8, 9, 10] [0, 24, 36, 192] ⟨[(0, .ref 0 0 0), (1, sI width), (2, sI deep), (6, .ref 24 1 0), (8, sI (3 + ((pick (Rdr.b r) (Rdr.p r) 13) % 9))), (9, .ref 36 1 0), (10, sI 0)], [(0, .box 0 [sD7 (Rdr.b r), sI ((Rdr.p r) + 1)]), (24, .box 1 [sI 0, sI 0, sB false, sI 0, .nilsl]), (36, .box 1 [sI (3 + ((pick (Rdr.b r) (Rdr.p r) 13) % 9)), sI 0, sB false, sI 0, .arr 192 1]), (192, .arr 1 (.named 1) (([] : List Xpr) : List Xpr))]⟩ ?_
  refine AW.cutQ (α := (List Int) × Int × (List Xpr)) (fun x => ⟨[(6, .ref 24 1 0), (9, .ref 36 1 0)], [(0, .box 0 [sD7 x.1, sI x.2.1]), (24, .box 1 [sI 0, sI 0, sB false, sI 0, .nilsl]), (36, .box 1 [sI (3 + ((pick (Rdr.b r) (Rdr.p r) 13) % 9)), sI 0, sB false, sI 0, .arr 192 1]), (192, .arr 1 (.named 1) (x.2.2 : List Xpr))]⟩) (fun x => (List.length x.2.2 ≤ 3) ∧ (randomExpr_l0 (randomExpr_r fuel) r width deep (Int.toNat ((kidsOf (3 + ((pick (Rdr.b r) (Rdr.p r) 13) % 9))) - ((0 : Nat) : Int)) + 1) 0 (Rdr.b r) ((Rdr.p r) + 1) ([] : List Xpr)) = x) ?_ ?_
  ·
   skip
   refine AW.block (AW.loop (α := Nat × (List Int) × Int × (List Xpr)) (fun x => ⟨[(0, .ref 0 0 0), (1, sI width), (2, sI deep), (6, .ref 24 1 0), (8, sI (3 + ((pick (Rdr.b r) (Rdr.p r) 13) % 9))), (9, .ref 36 1 0), (10, sI ((x.1 : Nat) : Int))], [(0, .box 0 [sD7 x.2.1, sI x.2.2.1]), (24, .box 1 [sI 0, sI 0, sB false, sI 0, .nilsl]), (36, .box 1 [sI (3 + ((pick (Rdr.b r) (Rdr.p r) 13) % 9)), sI 0, sB false, sI 0, .arr 192 1]), (192, .arr 1 (.named 1) (x.2.2.2 : List Xpr))]⟩) (fun x => (((0 ≤ x.2.2.1 ∧ x.2.2.1 ≤ r.p + 1 + 40 * (x.1 : Int)) ∧ (deep ≠ 0)) ∧ List.length x.2.2.2 = x.1 ∧ x.1 ≤ 3) ∧ ∃ k, Int.toNat ((kidsOf (3 + ((pick (Rdr.b r) (Rdr.p r) 13) % 9))) - ((x.1 : Nat) : Int)) < k ∧ (randomExpr_l0 (randomExpr_r fuel) r width deep (Int.toNat ((kidsOf (3 + ((pick (Rdr.b r) (Rdr.p r) 13) % 9))) - ((0 : Nat) : Int)) + 1) 0 (Rdr.b r) ((Rdr.p r) + 1) ([] : List Xpr)) = randomExpr_l0 (randomExpr_r fuel) r width deep k x.1 x.2.1 x.2.2.1 x.2.2.2) (fun x => Int.toNat ((kidsOf (3 + ((pick (Rdr.b r) (Rdr.p r) 13) % 9))) - ((x.1 : Nat) : Int))) (0, (Rdr.b r), ((Rdr.p r) + 1), ([] : List Xpr)) (by kernel_rfl) ⟨?_, _, Nat.lt_succ_self _, rfl⟩ ?_)
   ·
    show ((0 ≤ ((Rdr.p r) + 1) ∧ ((Rdr.p r) + 1) ≤ r.p + 1 + 40 * (0 : Int)) ∧ (deep ≠ 0)) ∧ List.length ([] : List Xpr) = 0 ∧ 0 ≤ 3
    refine ⟨⟨⟨by omega, by omega⟩, ?_⟩, rfl, by decide⟩
    intro h0
    subst h0
    exact absurd h9q (by simp)
   ·
    intro x hR
    obtain ⟨i, r0, r1, ar192⟩ := x
    obtain ⟨hI0, k29, hk27, e28⟩ := hR
    replace hI0 : ((0 ≤ r1 ∧ r1 ≤ r.p + 1 + 40 * (i : Int)) ∧ (deep ≠ 0)) ∧ List.length ar192 = i ∧ i ≤ 3 := hI0
    replace hk27 : Int.toNat ((kidsOf (3 + ((pick (Rdr.b r) (Rdr.p r) 13) % 9))) - ((i : Nat) : Int)) < k29 := hk27
    obtain ⟨k29q, rfl⟩ : ∃ k, k29 = k + 1 := ⟨k29 - 1, by omega⟩
    have h3 := kids3 (3 + pick r.b r.p 13 % 9)
    refine AW.seq (AW.seq (AW.r0 hC [0, 1, 2, 6, 8, 9, 10, 37] [0, 24, 36, 192] ⟨[(0, .ref 0 0 0), (1, sI width), (2, sI deep), (6, .ref 24 1 0), (8, sI (3 + ((pick (Rdr.b r) (Rdr.p r) 13) % 9))), (9, .ref 36 1 0), (10, sI ((i : Nat) : Int)), (37, sB (decide (((i : Nat) : Int) < (kidsOf (3 + ((pick (Rdr.b r) (Rdr.p r) 13) % 9))))))], [(0, .box 0 [sD7 r0, sI r1]), (24, .box 1 [sI 0, sI 0, sB false, sI 0, .nilsl]), (36, .box 1 [sI (3 + ((pick (Rdr.b r) (Rdr.p r) 13) % 9)), sI 0, sB false, sI 0, .arr 192 1]), (192, .arr 1 (.named 1) (ar192 : List Xpr))]⟩ [(True)] ?_ ?_))
    ·
     refine ⟨?_, trivial⟩
     ·
      trivial
    refine AW.cd (decide (((i : Nat) : Int) < (kidsOf (3 + ((pick (Rdr.b r) (Rdr.p r) 13) % 9))))) ?_ ?_
    ·
     intro h30
     have h30q := (of_decide_eq_true h30)
     have e31 := e28.trans (Go.Am.bif_t h30)
     refine AW.kp [0, 1, 2, 6, 8, 9, 10] [0, 24, 36, 192] ⟨[(0, .ref 0 0 0), (1, sI width), (2, sI deep), (6, .ref 24 1 0), (8, sI (3 + ((pick (Rdr.b r) (Rdr.p r) 13) % 9))), (9, .ref 36 1 0), (10, sI ((i : Nat) : Int))], [(0, .box 0 [sD7 r0, sI r1]), (24, .box 1 [sI 0, sI 0, sB false, sI 0, .nilsl]), (36, .box 1 [sI (3 + ((pick (Rdr.b r) (Rdr.p r) 13) % 9)), sI 0, sB false, sI 0, .arr 192 1]), (192, .arr 1 (.named 1) (ar192 : List Xpr))]⟩ ?_
     refine AW.skip (AW.seq (AW.block (AW.d0 hC hM [0, 1, 2, 6, 8, 9, 10] [0, 24, 36, 192] ⟨[(0, .ref 0 0 0), (1, sI width), (2, sI deep), (6, .ref 24 1 0), (8, sI (3 + ((pick (Rdr.b r) (Rdr.p r) 13) % 9))), (9, .ref 36 1 0), (10, sI ((i : Nat) : Int))], [(0, .box 0 [sD7 (Rdr.b (((randomExpr_r fuel) (Rdr.mk r0 r1) width (deep - 1)).2)), sI (Rdr.p (((randomExpr_r fuel) (Rdr.mk r0 r1) width (deep - 1)).2))]), (24, .box 1 [sI 0, sI 0, sB false, sI 0, .nilsl]), (36, .box 1 [sI (3 + ((pick (Rdr.b r) (Rdr.p r) 13) % 9)), sI 0, sB false, sI 0, .arr 192 1]), (192, .arr 1 (.named 1) ((ar192 ++ ([(((randomExpr_r fuel) (Rdr.mk r0 r1) width (deep - 1)).1)] : List Xpr)) : List Xpr))]⟩ [R64 (deep - 1), (((0 ≤ (deep - 1) ∧ (deep - 1) ≤ 3) ∧ (0 ≤ (Rdr.mk r0 r1).p ∧ (Rdr.mk r0 r1).p + 1000 * (deep - 1) ≤ 999999999000)) ∧ Int.toNat (deep - 1) < fuel), (((List.length ar192 : Nat) : Int) + ((List.length ([(((randomExpr_r fuel) (Rdr.mk r0 r1) width (deep - 1)).1)] : List Xpr) : Nat) : Int) ≤ 4294967296)] ?_ ?_)))
     ·
      refine ⟨?_, ?_, ?_, trivial⟩
      ·
       refine R64.of ?_
       omega
      ·
       dsimp only; omega
      ·
       simp only [List.length_append, List.length_cons, List.length_nil]; omega
     refine AW.r0 hC [0, 1, 2, 6, 8, 9, 10] [0, 24, 36, 192] ⟨[(0, .ref 0 0 0), (1, sI width), (2, sI deep), (6, .ref 24 1 0), (8, sI (3 + ((pick (Rdr.b r) (Rdr.p r) 13) % 9))), (9, .ref 36 1 0), (10, sI ((i + 1 : Nat) : Int))], [(0, .box 0 [sD7 (Rdr.b (((randomExpr_r fuel) (Rdr.mk r0 r1) width (deep - 1)).2)), sI (Rdr.p (((randomExpr_r fuel) (Rdr.mk r0 r1) width (deep - 1)).2))]), (24, .box 1 [sI 0, sI 0, sB false, sI 0, .nilsl]), (36, .box 1 [sI (3 + ((pick (Rdr.b r) (Rdr.p r) 13) % 9)), sI 0, sB false, sI 0, .arr 192 1]), (192, .arr 1 (.named 1) ((ar192 ++ ([(((randomExpr_r fuel) (Rdr.mk r0 r1) width (deep - 1)).1)] : List Xpr)) : List Xpr))]⟩ [R64 ((i + 1 : Nat) : Int)] ?_ ?_
     ·
      refine ⟨?_, trivial⟩
      ·
       refine R64.of ?_
       omega
     refine AW.back (x := (i, r0, r1, ar192)) (i + 1, (Rdr.b (((randomExpr_r fuel) (Rdr.mk r0 r1) width (deep - 1)).2)), (Rdr.p (((randomExpr_r fuel) (Rdr.mk r0 r1) width (deep - 1)).2)), (ar192 ++ ([(((randomExpr_r fuel) (Rdr.mk r0 r1) width (deep - 1)).1)] : List Xpr))) (by kernel_rfl) ⟨?_, k29q, ?_, e31⟩ ?_
     ·
      show ((0 ≤ (Rdr.p (((randomExpr_r fuel) (Rdr.mk r0 r1) width (deep - 1)).2)) ∧ (Rdr.p (((randomExpr_r fuel) (Rdr.mk r0 r1) width (deep - 1)).2)) ≤ r.p + 1 + 40 * ((i + 1) : Int)) ∧ (deep ≠ 0)) ∧ List.length (ar192 ++ ([(((randomExpr_r fuel) (Rdr.mk r0 r1) width (deep - 1)).1)] : List Xpr)) = (i + 1) ∧ (i + 1) ≤ 3
      have hb := randomExpr_p' fuel (Rdr.mk r0 r1) width (d := deep - 1) (by omega) (by omega)
      have hq := pw_le (n := (deep - 1).toNat) (by omega)
      have h3 := kids3 (3 + pick r.b r.p 13 % 9)
      have hb1 : r1 ≤ _ := hb.1
      have hb2 : _ ≤ r1 + _ := hb.2
      simp only [List.length_append, List.length_cons, List.length_nil]
      omega
     ·
      show Int.toNat ((kidsOf (3 + ((pick (Rdr.b r) (Rdr.p r) 13) % 9))) - (((i + 1) : Nat) : Int)) < k29q
      omega
     ·
      show Int.toNat ((kidsOf (3 + ((pick (Rdr.b r) (Rdr.p r) 13) % 9))) - (((i + 1) : Nat) : Int)) < Int.toNat ((kidsOf (3 + ((pick (Rdr.b r) (Rdr.p r) 13) % 9))) - ((i : Nat) : Int))
      omega
    ·
     intro h32
     have h32q := (of_decide_eq_false h32)
     have e33 := e28.trans (Go.Am.bif_f h32)
     refine AW.kp [6, 9] [0, 24, 36, 192] ⟨[(6, .ref 24 1 0), (9, .ref 36 1 0)], [(0, .box 0 [sD7 r0, sI r1]), (24, .box 1 [sI 0, sI 0, sB false, sI 0, .nilsl]), (36, .box 1 [sI (3 + ((pick (Rdr.b r) (Rdr.p r) 13) % 9)), sI 0, sB false, sI 0, .arr 192 1]), (192, .arr 1 (.named 1) (ar192 : List Xpr))]⟩ ?_
     refine AW.exit ?_
     refine AW.meet (r0, r1, ar192) (by kernel_rfl) ⟨?_, e33⟩
     show List.length ar192 ≤ 3
     omega
  ·
   intro x hR
   obtain ⟨r0, r1, ar192⟩ := x
   obtain ⟨hJ0, e34⟩ := hR
   replace hJ0 : List.length ar192 ≤ 3 := hJ0
   have e35 := e10.trans (Go.Am.then_eq e34)
   refine AW.seq (AW.r1 hC [6] [0, 24, 192] ⟨[(6, .ref 24 1 0)], [(0, .box 0 [sD7 r0, sI r1]), (24, .box 1 [sI (3 + ((pick (Rdr.b r) (Rdr.p r) 13) % 9)), sI 0, sB false, sI 0, .arr 192 1]), (192, .arr 1 (.named 1) (ar192 : List Xpr))]⟩ ?_)
   exact AW.ret (AW.retE (β := Xpr × Rdr) (fun v => [⟨(.named 1), v.1⟩]) (fun v => [⟨(.named 2), v.2⟩]) (v := ((Xpr.mk (3 + ((pick (Rdr.b r) (Rdr.p r) 13) % 9)) 0 (Val.mk false 0) ar192), (Rdr.mk r0 r1))) e35 (by kernel_rfl) rfl rfl)

theorem randomExpr_fu : AllTV (randomExpr_sp.ps.map PK.ty) (fun tvs => randomExpr_sp.pre tvs → ∃ k, (randomExpr_spn k).pre tvs ∧ (randomExpr_spn k).fn tvs = randomExpr_sp.fn tvs ∧ (randomExpr_spn k).bx tvs = randomExpr_sp.bx tvs) :=
 (fun (r : Rdr) (width : Int) (deep : Int) h => ⟨Int.toNat deep + 1, (show ((0 ≤ deep ∧ deep ≤ 3) ∧ (0 ≤ r.p ∧ r.p + 1000 * deep ≤ 999999999000)) ∧ Int.toNat deep < Int.toNat deep + 1 from ⟨h, Nat.lt_succ_self _⟩), (show (randomExpr_spn (Int.toNat deep + 1)).fn [⟨(.named 2), (r : Rdr)⟩, ⟨(.int .i64), (width : Int)⟩, ⟨(.int .i64), (deep : Int)⟩] = ([⟨(.named 1), ((randomExpr_r (Int.toNat deep + 1) r width deep).1)⟩] : List TV) from by kernel_rfl).trans (show ([⟨(.named 1), ((randomExpr_r (Int.toNat deep + 1) r width deep).1)⟩] : List TV) = randomExpr_sp.fn [⟨(.named 2), (r : Rdr)⟩, ⟨(.int .i64), (width : Int)⟩, ⟨(.int .i64), (deep : Int)⟩] from by kernel_rfl), (show (randomExpr_spn (Int.toNat deep + 1)).bx _ = ([⟨(.named 2), ((randomExpr_r (Int.toNat deep + 1) r width deep).2)⟩] : List TV) from by kernel_rfl).trans (by kernel_rfl)⟩)

theorem randomExpr_ok : FnOK Try.prog 29 randomExpr_sp := FnOK.of_fuel randomExpr_okn (fun _ => rfl) (fun _ => rfl) (AllTV.get randomExpr_fu)

end
end Go.Proofs.Ytjhnpnnlimpgdaa
