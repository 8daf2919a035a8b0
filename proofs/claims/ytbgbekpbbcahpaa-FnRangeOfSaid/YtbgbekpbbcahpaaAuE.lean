/-
  A part of the proof of this claim (AuE): what functions of the program compute, and plain facts of that. No conditions.
-/
import Derived.Test.YtbgbekpbbcahpaaAuD
set_option linter.all false
namespace Go.Proofs.Ytbgbekpbbcahpaa
open Go Go.Am
noncomputable section

theorem randomExpr_q (r : Rdr) (width : Int) {d : Int} (h : 0 ≤ d ∧ d ≤ 3) : r.p ≤ (randomExpr r width d).2.p ∧ (randomExpr r width d).2.p ≤ r.p + 121 := by
 have := randomExpr_p' (d.toNat + 1) r width (d := d) h.1 (by omega)
 have h2 : pw d.toNat ≤ 121 := by
  have hp : pw 3 = 121 := by decide
  by_cases h3 : d = 3
  ·
   subst h3; exact Int.le_of_eq hp
  ·
   have := pw_le (n := d.toNat) (by omega); omega
 unfold randomExpr
 omega

def condition_j0 (r : Rdr) (deep : Int) : Int :=
 (bif (bif ((pick (Rdr.b r) (((((Rdr.p r) + 1) + 1) + 1) + 1) 8) == 2) then (deep == 0) else false) then 5 else (pick (Rdr.b r) (((((Rdr.p r) + 1) + 1) + 1) + 1) 8))

def condition_j1 (k1 : Int) : Bool :=
 (bif (k1 == 3) then (k1 == 3) else (k1 == 4))

def condition_j0a (r : Rdr) (deep : Int) : Int :=
 (bif (bif ((pick (Rdr.b r) ((((Rdr.p r) + 1) + 1) + 1) 8) == 2) then (deep == 0) else false) then 5 else (pick (Rdr.b r) ((((Rdr.p r) + 1) + 1) + 1) 8))

def condition_r : Nat → Rdr → Int → Int → (Xpr × Rdr)
 | 0, r, width, deep => (Xpr.zero, Rdr.zero)
 | fuel + 1, r, width, deep => (bif ((pick (Rdr.b r) (((Rdr.p r) + 1) + 1) 3) == 0) then (Go.Am.andThen (condition_j0 r deep) (fun z => (fun (k1 : Int) => (bif (k1 == 0) then ((Xpr.mk (Xpr.Kind ((randomExpr (Rdr.mk (Rdr.b r) ((((((Rdr.p r) + 1) + 1) + 1) + 1) + 1)) width 2).1)) (Xpr.Col ((randomExpr (Rdr.mk (Rdr.b r) ((((((Rdr.p r) + 1) + 1) + 1) + 1) + 1)) width 2).1)) (Xpr.V ((randomExpr (Rdr.mk (Rdr.b r) ((((((Rdr.p r) + 1) + 1) + 1) + 1) + 1)) width 2).1)) (Xpr.Kids ((randomExpr (Rdr.mk (Rdr.b r) ((((((Rdr.p r) + 1) + 1) + 1) + 1) + 1)) width 2).1))), ((randomExpr (Rdr.mk (Rdr.b r) ((((((Rdr.p r) + 1) + 1) + 1) + 1) + 1)) width 2).2)) else (bif (k1 == 1) then ((Xpr.mk 10 0 (Val.mk false 0) ([(Xpr.mk 11 0 (Val.mk false 0) ([(Xpr.mk 1 (pick (Rdr.b r) (Rdr.p r) width) (Val.mk false 0) ([] : List Xpr))] : List Xpr))] : List Xpr)), (Rdr.mk (Rdr.b r) ((((((Rdr.p r) + 1) + 1) + 1) + 1) + 1))) else (bif (k1 == 2) then ((Xpr.mk 8 0 (Val.mk false 0) ([(((condition_r fuel) (Rdr.mk (Rdr.b r) ((((((Rdr.p r) + 1) + 1) + 1) + 1) + 1)) width (deep - 1)).1), (Xpr.mk 6 0 (Val.mk false 0) ([(Xpr.mk 1 (pick (Rdr.b r) (Rdr.p r) width) (Val.mk false 0) ([] : List Xpr)), (Xpr.mk 1 (pick (Rdr.b r) ((((Rdr.p r) + 1) + 1) + 1) width) (Val.mk false 0) ([] : List Xpr))] : List Xpr))] : List Xpr)), (((condition_r fuel) (Rdr.mk (Rdr.b r) ((((((Rdr.p r) + 1) + 1) + 1) + 1) + 1)) width (deep - 1)).2)) else (Go.Am.andThen (condition_j1 k1) (fun z => (fun (v59 : Bool) => (bif v59 then ((Xpr.mk 7 0 (Val.mk false 0) ([(Xpr.mk 1 (pick (Rdr.b r) ((((Rdr.p r) + 1) + 1) + 1) width) (Val.mk false 0) ([] : List Xpr)), (Xpr.mk 1 (pick (Rdr.b r) (Rdr.p r) width) (Val.mk false 0) ([] : List Xpr))] : List Xpr)), (Rdr.mk (Rdr.b r) ((((((Rdr.p r) + 1) + 1) + 1) + 1) + 1))) else (bif (k1 == 5) then ((Xpr.mk 7 0 (Val.mk false 0) ([(Xpr.mk 1 (pick (Rdr.b r) (Rdr.p r) width) (Val.mk false 0) ([] : List Xpr)), (Xpr.mk 1 (pick (Rdr.b r) ((((Rdr.p r) + 1) + 1) + 1) width) (Val.mk false 0) ([] : List Xpr))] : List Xpr)), (Rdr.mk (Rdr.b r) ((((((Rdr.p r) + 1) + 1) + 1) + 1) + 1))) else ((Xpr.mk 6 0 (Val.mk false 0) ([(Xpr.mk 1 (pick (Rdr.b r) (Rdr.p r) width) (Val.mk false 0) ([] : List Xpr)), (Xpr.mk 1 (pick (Rdr.b r) ((((Rdr.p r) + 1) + 1) + 1) width) (Val.mk false 0) ([] : List Xpr))] : List Xpr)), (Rdr.mk (Rdr.b r) ((((((Rdr.p r) + 1) + 1) + 1) + 1) + 1)))))) z)))))) z)) else (Go.Am.andThen (condition_j0a r deep) (fun z => (fun (k1 : Int) => (bif (k1 == 0) then ((Xpr.mk (Xpr.Kind ((randomExpr (Rdr.mk (Rdr.b r) (((((Rdr.p r) + 1) + 1) + 1) + 1)) width 2).1)) (Xpr.Col ((randomExpr (Rdr.mk (Rdr.b r) (((((Rdr.p r) + 1) + 1) + 1) + 1)) width 2).1)) (Xpr.V ((randomExpr (Rdr.mk (Rdr.b r) (((((Rdr.p r) + 1) + 1) + 1) + 1)) width 2).1)) (Xpr.Kids ((randomExpr (Rdr.mk (Rdr.b r) (((((Rdr.p r) + 1) + 1) + 1) + 1)) width 2).1))), ((randomExpr (Rdr.mk (Rdr.b r) (((((Rdr.p r) + 1) + 1) + 1) + 1)) width 2).2)) else (bif (k1 == 1) then ((Xpr.mk 10 0 (Val.mk false 0) ([(Xpr.mk 11 0 (Val.mk false 0) ([(Xpr.mk 1 (pick (Rdr.b r) (Rdr.p r) width) (Val.mk false 0) ([] : List Xpr))] : List Xpr))] : List Xpr)), (Rdr.mk (Rdr.b r) (((((Rdr.p r) + 1) + 1) + 1) + 1))) else (bif (k1 == 2) then ((Xpr.mk 8 0 (Val.mk false 0) ([(((condition_r fuel) (Rdr.mk (Rdr.b r) (((((Rdr.p r) + 1) + 1) + 1) + 1)) width (deep - 1)).1), (Xpr.mk 6 0 (Val.mk false 0) ([(Xpr.mk 1 (pick (Rdr.b r) (Rdr.p r) width) (Val.mk false 0) ([] : List Xpr)), (Xpr.mk (Xpr.Kind (constant (Val.mk false (pick (Rdr.b r) ((Rdr.p r) + 1) 4)))) (Xpr.Col (constant (Val.mk false (pick (Rdr.b r) ((Rdr.p r) + 1) 4)))) (Xpr.V (constant (Val.mk false (pick (Rdr.b r) ((Rdr.p r) + 1) 4)))) (Xpr.Kids (constant (Val.mk false (pick (Rdr.b r) ((Rdr.p r) + 1) 4)))))] : List Xpr))] : List Xpr)), (((condition_r fuel) (Rdr.mk (Rdr.b r) (((((Rdr.p r) + 1) + 1) + 1) + 1)) width (deep - 1)).2)) else (Go.Am.andThen (condition_j1 k1) (fun z => (fun (v59 : Bool) => (bif v59 then ((Xpr.mk 7 0 (Val.mk false 0) ([(Xpr.mk (Xpr.Kind (constant (Val.mk false (pick (Rdr.b r) ((Rdr.p r) + 1) 4)))) (Xpr.Col (constant (Val.mk false (pick (Rdr.b r) ((Rdr.p r) + 1) 4)))) (Xpr.V (constant (Val.mk false (pick (Rdr.b r) ((Rdr.p r) + 1) 4)))) (Xpr.Kids (constant (Val.mk false (pick (Rdr.b r) ((Rdr.p r) + 1) 4))))), (Xpr.mk 1 (pick (Rdr.b r) (Rdr.p r) width) (Val.mk false 0) ([] : List Xpr))] : List Xpr)), (Rdr.mk (Rdr.b r) (((((Rdr.p r) + 1) + 1) + 1) + 1))) else (bif (k1 == 5) then ((Xpr.mk 7 0 (Val.mk false 0) ([(Xpr.mk 1 (pick (Rdr.b r) (Rdr.p r) width) (Val.mk false 0) ([] : List Xpr)), (Xpr.mk (Xpr.Kind (constant (Val.mk false (pick (Rdr.b r) ((Rdr.p r) + 1) 4)))) (Xpr.Col (constant (Val.mk false (pick (Rdr.b r) ((Rdr.p r) + 1) 4)))) (Xpr.V (constant (Val.mk false (pick (Rdr.b r) ((Rdr.p r) + 1) 4)))) (Xpr.Kids (constant (Val.mk false (pick (Rdr.b r) ((Rdr.p r) + 1) 4)))))] : List Xpr)), (Rdr.mk (Rdr.b r) (((((Rdr.p r) + 1) + 1) + 1) + 1))) else ((Xpr.mk 6 0 (Val.mk false 0) ([(Xpr.mk 1 (pick (Rdr.b r) (Rdr.p r) width) (Val.mk false 0) ([] : List Xpr)), (Xpr.mk (Xpr.Kind (constant (Val.mk false (pick (Rdr.b r) ((Rdr.p r) + 1) 4)))) (Xpr.Col (constant (Val.mk false (pick (Rdr.b r) ((Rdr.p r) + 1) 4)))) (Xpr.V (constant (Val.mk false (pick (Rdr.b r) ((Rdr.p r) + 1) 4)))) (Xpr.Kids (constant (Val.mk false (pick (Rdr.b r) ((Rdr.p r) + 1) 4)))))] : List Xpr)), (Rdr.mk (Rdr.b r) (((((Rdr.p r) + 1) + 1) + 1) + 1)))))) z)))))) z)))

def condition (r : Rdr) (width : Int) (deep : Int) : Xpr × Rdr := condition_r (Int.toNat deep + 1) r width deep

def condition_spn (fuel : Nat) : FnSpec := mkSpecB [.box 2, .val (.int .i64), .val (.int .i64)] [.val (.named 1)] (fun (r : Rdr) (width : Int) (deep : Int) => ((0 ≤ deep ∧ deep ≤ 2) ∧ (0 ≤ r.p ∧ r.p + 1000 * deep ≤ 999999990000)) ∧ Int.toNat deep < fuel) (fun (r : Rdr) (width : Int) (deep : Int) => [⟨(.named 1), ((condition_r fuel r width deep).1)⟩]) (fun (r : Rdr) (width : Int) (deep : Int) => [⟨(.named 2), ((condition_r fuel r width deep).2)⟩])

def condition_sp : FnSpec := mkSpecB [.box 2, .val (.int .i64), .val (.int .i64)] [.val (.named 1)] (fun (r : Rdr) (width : Int) (deep : Int) => (0 ≤ deep ∧ deep ≤ 2) ∧ (0 ≤ r.p ∧ r.p + 1000 * deep ≤ 999999990000)) (fun (r : Rdr) (width : Int) (deep : Int) => [⟨(.named 1), ((condition r width deep).1)⟩]) (fun (r : Rdr) (width : Int) (deep : Int) => [⟨(.named 2), ((condition r width deep).2)⟩])

theorem condition_okn (fuel : Nat) : FnOK Try.prog 46 (condition_spn fuel) := by
 induction fuel with
 | zero => exact FnOK.never Try.func46 (by kernel_rfl) rfl (fun _ _ _ h => absurd h.2 (Nat.not_lt_zero _))
 | succ fuel ih => ?_
 have hC : CtxOK Try.prog (mkCtx tyL [(33, pickS), (46, (condition_spn fuel)), (57, constant_sp), (58, randomExpr_sp)]) := CtxOK.cons pickS_ok (CtxOK.cons ih (CtxOK.cons constant_ok (CtxOK.cons randomExpr_ok (CtxOK.nil tyOK))))
 have hM : Try.prog.follows .mixedOrders = true := Try.checked.mixed
 refine FnOK.of_body Try.func46 (by kernel_rfl) rfl (C := (mkCtx tyL [(33, pickS), (46, (condition_spn fuel)), (57, constant_sp), (58, randomExpr_sp)])) hC.ty (by kernel_rfl) ?_
 intro (r : Rdr) (width : Int) (deep : Int) hwf hpre E
 have hpre : ((0 ≤ deep ∧ deep ≤ 2) ∧ (0 ≤ r.p ∧ r.p + 1000 * deep ≤ 999999990000)) ∧ Int.toNat deep < fuel + 1 := hpre
 have hw_r : Wf ⟨(.named 2), (r : Rdr)⟩ := hwf _ (List.Mem.head _)
 obtain ⟨hl_r_b, hr_r_p⟩ := Rdr.wfl hw_r
 have hw_width : Wf ⟨(.int .i64), (width : Int)⟩ := hwf _ (List.Mem.tail _ (List.Mem.head _))
 have hr_width : -9223372036854775808 ≤ width ∧ width ≤ 9223372036854775807 := hw_width.int_inv
 have hw_deep : Wf ⟨(.int .i64), (deep : Int)⟩ := hwf _ (List.Mem.tail _ (List.Mem.tail _ (List.Mem.head _)))
 have hr_deep : -9223372036854775808 ≤ deep ∧ deep ≤ 9223372036854775807 := hw_deep.int_inv
 have e0 : condition_r (fuel + 1) r width deep = condition_r (fuel + 1) r width deep := rfl
 refine AW.seq (AW.r1 hC [0, 1, 2, 6] [0, 24] ⟨[(0, .ref 0 0 0), (1, sI width), (2, sI deep), (6, .ref 24 1 0)], [(0, .box 0 [sD9 (Rdr.b r), sI (Rdr.p r)]), (24, .box 1 [sI 0, sI 0, sB false, sI 0, .nilsl])]⟩ ?_)
 refine AW.seq (AW.r0 hC [0, 1, 2, 6, 7] [0, 24, 28] ⟨[(0, .ref 0 0 0), (1, sI width), (2, sI deep), (6, .ref 24 1 0), (7, .ref 28 1 0)], [(0, .box 0 [sD9 (Rdr.b r), sI ((Rdr.p r) + 1)]), (24, .box 1 [sI 0, sI 0, sB false, sI 0, .nilsl]), (28, .box 1 [sI 1, sI (pick (Rdr.b r) (Rdr.p r) width), sB false, sI 0, .nilsl])]⟩ [(0 ≤ r.p ∧ r.p ≤ 1099511627776)] ?_ ?_)
 ·
  refine ⟨?_, trivial⟩
  ·
   omega
 refine AW.seq (AW.r0 hC [0, 1, 2, 6, 7, 8] [0, 24, 28, 32] ⟨[(0, .ref 0 0 0), (1, sI width), (2, sI deep), (6, .ref 24 1 0), (7, .ref 28 1 0), (8, .ref 32 1 0)], [(0, .box 0 [sD9 (Rdr.b r), sI (((Rdr.p r) + 1) + 1)]), (24, .box 1 [sI 0, sI 0, sB false, sI 0, .nilsl]), (28, .box 1 [sI 1, sI (pick (Rdr.b r) (Rdr.p r) width), sB false, sI 0, .nilsl]), (32, .box 1 [sI (Xpr.Kind (constant (Val.mk false (pick (Rdr.b r) ((Rdr.p r) + 1) 4)))), sI (Xpr.Col (constant (Val.mk false (pick (Rdr.b r) ((Rdr.p r) + 1) 4)))), sB (Val.Null (Xpr.V (constant (Val.mk false (pick (Rdr.b r) ((Rdr.p r) + 1) 4))))), sI (Val.N (Xpr.V (constant (Val.mk false (pick (Rdr.b r) ((Rdr.p r) + 1) 4))))), sD11 (Xpr.Kids (constant (Val.mk false (pick (Rdr.b r) ((Rdr.p r) + 1) 4))))])]⟩ [(0 ≤ (Rdr.mk (Rdr.b r) ((Rdr.p r) + 1)).p ∧ (Rdr.mk (Rdr.b r) ((Rdr.p r) + 1)).p ≤ 1099511627776), (True)] ?_ ?_)
 ·
  refine ⟨?_, ?_, trivial⟩
  ·
   dsimp only; omega
  ·
   trivial
 refine AW.seq (AW.seq (AW.r0 hC [0, 1, 2, 6, 7, 8, 20] [0, 24, 28, 32] ⟨[(0, .ref 0 0 0), (1, sI width), (2, sI deep), (6, .ref 24 1 0), (7, .ref 28 1 0), (8, .ref 32 1 0), (20, sB ((pick (Rdr.b r) (((Rdr.p r) + 1) + 1) 3) == 0))], [(0, .box 0 [sD9 (Rdr.b r), sI ((((Rdr.p r) + 1) + 1) + 1)]), (24, .box 1 [sI 0, sI 0, sB false, sI 0, .nilsl]), (28, .box 1 [sI 1, sI (pick (Rdr.b r) (Rdr.p r) width), sB false, sI 0, .nilsl]), (32, .box 1 [sI (Xpr.Kind (constant (Val.mk false (pick (Rdr.b r) ((Rdr.p r) + 1) 4)))), sI (Xpr.Col (constant (Val.mk false (pick (Rdr.b r) ((Rdr.p r) + 1) 4)))), sB (Val.Null (Xpr.V (constant (Val.mk false (pick (Rdr.b r) ((Rdr.p r) + 1) 4))))), sI (Val.N (Xpr.V (constant (Val.mk false (pick (Rdr.b r) ((Rdr.p r) + 1) 4))))), sD11 (Xpr.Kids (constant (Val.mk false (pick (Rdr.b r) ((Rdr.p r) + 1) 4))))])]⟩ [(0 ≤ (Rdr.mk (Rdr.b r) (((Rdr.p r) + 1) + 1)).p ∧ (Rdr.mk (Rdr.b r) (((Rdr.p r) + 1) + 1)).p ≤ 1099511627776)] ?_ ?_))
 ·
  refine ⟨?_, trivial⟩
  ·
   dsimp only; omega
 refine AW.cd ((pick (Rdr.b r) (((Rdr.p r) + 1) + 1) 3) == 0) ?_ ?_
 ·
  intro h5
  have h5q := (Go.Am.beq_pos h5)
  have e6 := e0.trans (Go.Am.bif_t h5)
  refine AW.r0 hC [0, 1, 2, 6, 7, 8] [0, 24, 28, 32] ⟨[(0, .ref 0 0 0), (1, sI width), (2, sI deep), (6, .ref 24 1 0), (7, .ref 28 1 0), (8, .ref 32 1 0)], [(0, .box 0 [sD9 (Rdr.b r), sI (((((Rdr.p r) + 1) + 1) + 1) + 1)]), (24, .box 1 [sI 0, sI 0, sB false, sI 0, .nilsl]), (28, .box 1 [sI 1, sI (pick (Rdr.b r) (Rdr.p r) width), sB false, sI 0, .nilsl]), (32, .box 1 [sI 1, sI (pick (Rdr.b r) ((((Rdr.p r) + 1) + 1) + 1) width), sB false, sI 0, .nilsl])]⟩ [(0 ≤ (Rdr.mk (Rdr.b r) ((((Rdr.p r) + 1) + 1) + 1)).p ∧ (Rdr.mk (Rdr.b r) ((((Rdr.p r) + 1) + 1) + 1)).p ≤ 1099511627776)] ?_ ?_
  ·
   refine ⟨?_, trivial⟩
   ·
    dsimp only; omega
  refine AW.seq (AW.r0 hC [0, 1, 2, 6, 7, 8, 9] [0, 24, 28, 32] ⟨[(0, .ref 0 0 0), (1, sI width), (2, sI deep), (6, .ref 24 1 0), (7, .ref 28 1 0), (8, .ref 32 1 0), (9, sI (pick (Rdr.b r) (((((Rdr.p r) + 1) + 1) + 1) + 1) 8))], [(0, .box 0 [sD9 (Rdr.b r), sI ((((((Rdr.p r) + 1) + 1) + 1) + 1) + 1)]), (24, .box 1 [sI 0, sI 0, sB false, sI 0, .nilsl]), (28, .box 1 [sI 1, sI (pick (Rdr.b r) (Rdr.p r) width), sB false, sI 0, .nilsl]), (32, .box 1 [sI 1, sI (pick (Rdr.b r) ((((Rdr.p r) + 1) + 1) + 1) width), sB false, sI 0, .nilsl])]⟩ [(0 ≤ (Rdr.mk (Rdr.b r) (((((Rdr.p r) + 1) + 1) + 1) + 1)).p ∧ (Rdr.mk (Rdr.b r) (((((Rdr.p r) + 1) + 1) + 1) + 1)).p ≤ 1099511627776)] ?_ ?_)
  ·
   refine ⟨?_, trivial⟩
   ·
    dsimp only; omega
  refine AW.seq (AW.seq (AW.r0 hC [0, 1, 2, 6, 7, 8, 9, 32] [0, 24, 28, 32] ⟨[(0, .ref 0 0 0), (1, sI width), (2, sI deep), (6, .ref 24 1 0), (7, .ref 28 1 0), (8, .ref 32 1 0), (9, sI (pick (Rdr.b r) (((((Rdr.p r) + 1) + 1) + 1) + 1) 8)), (32, sB (bif ((pick (Rdr.b r) (((((Rdr.p r) + 1) + 1) + 1) + 1) 8) == 2) then (deep == 0) else false))], [(0, .box 0 [sD9 (Rdr.b r), sI ((((((Rdr.p r) + 1) + 1) + 1) + 1) + 1)]), (24, .box 1 [sI 0, sI 0, sB false, sI 0, .nilsl]), (28, .box 1 [sI 1, sI (pick (Rdr.b r) (Rdr.p r) width), sB false, sI 0, .nilsl]), (32, .box 1 [sI 1, sI (pick (Rdr.b r) ((((Rdr.p r) + 1) + 1) + 1) width), sB false, sI 0, .nilsl])]⟩ [((((pick (Rdr.b r) (((((Rdr.p r) + 1) + 1) + 1) + 1) 8) == 2) = true) → ((((pick (Rdr.b r) (((((Rdr.p r) + 1) + 1) + 1) + 1) 8) == 2) = true))), ((((pick (Rdr.b r) (((((Rdr.p r) + 1) + 1) + 1) + 1) 8) == 2) = true) → ((((pick (Rdr.b r) (((((Rdr.p r) + 1) + 1) + 1) + 1) 8) == 2) = true)))] ?_ ?_))
  ·
   refine ⟨?_, ?_, trivial⟩
   ·
    intro g7
    have g7p0 : (pick (Rdr.b r) (((((Rdr.p r) + 1) + 1) + 1) + 1) 8) = 2 := (Go.Am.beq_pos g7)
    assumption
   ·
    intro g8
    have g8p0 : (pick (Rdr.b r) (((((Rdr.p r) + 1) + 1) + 1) + 1) 8) = 2 := (Go.Am.beq_pos g8)
    assumption
  refine AW.cutQ (α := Int) (fun x => ⟨[(0, .ref 0 0 0), (1, sI width), (2, sI deep), (6, .ref 24 1 0), (7, .ref 28 1 0), (8, .ref 32 1 0), (9, sI x)], [(0, .box 0 [sD9 (Rdr.b r), sI ((((((Rdr.p r) + 1) + 1) + 1) + 1) + 1)]), (24, .box 1 [sI 0, sI 0, sB false, sI 0, .nilsl]), (28, .box 1 [sI 1, sI (pick (Rdr.b r) (Rdr.p r) width), sB false, sI 0, .nilsl]), (32, .box 1 [sI 1, sI (pick (Rdr.b r) ((((Rdr.p r) + 1) + 1) + 1) width), sB false, sI 0, .nilsl])]⟩) (fun x => (x = 2 → deep ≠ 0) ∧ (condition_j0 r deep) = x) ?_ ?_
  ·
   skip
   have e17 : (condition_j0 r deep) = (condition_j0 r deep) := rfl
   refine AW.cd (bif ((pick (Rdr.b r) (((((Rdr.p r) + 1) + 1) + 1) + 1) 8) == 2) then (deep == 0) else false) ?_ ?_
   ·
    intro h18
    have h18q : ((pick (Rdr.b r) (((((Rdr.p r) + 1) + 1) + 1) + 1) 8) = 2) ∧ (deep = 0) := (And.imp (fun h => (Go.Am.beq_pos h)) (fun h => (Go.Am.beq_pos h)) (Go.Am.and_pos h18))
    have e19 := e17.trans (Go.Am.bif_t h18)
    refine AW.r1 hC [0, 1, 2, 6, 7, 8, 9] [0, 24, 28, 32] ⟨[(0, .ref 0 0 0), (1, sI width), (2, sI deep), (6, .ref 24 1 0), (7, .ref 28 1 0), (8, .ref 32 1 0), (9, sI 5)], [(0, .box 0 [sD9 (Rdr.b r), sI ((((((Rdr.p r) + 1) + 1) + 1) + 1) + 1)]), (24, .box 1 [sI 0, sI 0, sB false, sI 0, .nilsl]), (28, .box 1 [sI 1, sI (pick (Rdr.b r) (Rdr.p r) width), sB false, sI 0, .nilsl]), (32, .box 1 [sI 1, sI (pick (Rdr.b r) ((((Rdr.p r) + 1) + 1) + 1) width), sB false, sI 0, .nilsl])]⟩ ?_
    refine AW.meet 5 (by kernel_rfl) ⟨?_, e19⟩
    show 5 = 2 → deep ≠ 0
    intro hk; omega
   ·
    intro h20
    have h20q : ((pick (Rdr.b r) (((((Rdr.p r) + 1) + 1) + 1) + 1) 8) ≠ 2) ∨ (deep ≠ 0) := (Or.imp (fun h => (Go.Am.beq_neg h)) (fun h => (Go.Am.beq_neg h)) (Go.Am.and_neg h20))
    have e21 := e17.trans (Go.Am.bif_f h20)
    refine AW.kp [0, 1, 2, 6, 7, 8, 9] [0, 24, 28, 32] ⟨[(0, .ref 0 0 0), (1, sI width), (2, sI deep), (6, .ref 24 1 0), (7, .ref 28 1 0), (8, .ref 32 1 0), (9, sI (pick (Rdr.b r) (((((Rdr.p r) + 1) + 1) + 1) + 1) 8))], [(0, .box 0 [sD9 (Rdr.b r), sI ((((((Rdr.p r) + 1) + 1) + 1) + 1) + 1)]), (24, .box 1 [sI 0, sI 0, sB false, sI 0, .nilsl]), (28, .box 1 [sI 1, sI (pick (Rdr.b r) (Rdr.p r) width), sB false, sI 0, .nilsl]), (32, .box 1 [sI 1, sI (pick (Rdr.b r) ((((Rdr.p r) + 1) + 1) + 1) width), sB false, sI 0, .nilsl])]⟩ ?_
    refine AW.skip ?_
    refine AW.meet (pick (Rdr.b r) (((((Rdr.p r) + 1) + 1) + 1) + 1) 8) (by kernel_rfl) ⟨?_, e21⟩
    show (pick (Rdr.b r) (((((Rdr.p r) + 1) + 1) + 1) + 1) 8) = 2 → deep ≠ 0
    intro hk; omega
  ·
   intro k1 hR
   obtain ⟨hM0, e22⟩ := hR
   replace hM0 : k1 = 2 → deep ≠ 0 := hM0
   have e23 := e6.trans (Go.Am.then_eq e22)
   refine AW.seq (AW.seq (AW.r1 hC [0, 1, 2, 6, 7, 8, 33] [0, 24, 28, 32] ⟨[(0, .ref 0 0 0), (1, sI width), (2, sI deep), (6, .ref 24 1 0), (7, .ref 28 1 0), (8, .ref 32 1 0), (33, sI k1)], [(0, .box 0 [sD9 (Rdr.b r), sI ((((((Rdr.p r) + 1) + 1) + 1) + 1) + 1)]), (24, .box 1 [sI 0, sI 0, sB false, sI 0, .nilsl]), (28, .box 1 [sI 1, sI (pick (Rdr.b r) (Rdr.p r) width), sB false, sI 0, .nilsl]), (32, .box 1 [sI 1, sI (pick (Rdr.b r) ((((Rdr.p r) + 1) + 1) + 1) width), sB false, sI 0, .nilsl])]⟩ ?_))
   refine AW.block (AW.seq (AW.r1 hC [0, 1, 2, 6, 7, 8, 33, 34] [0, 24, 28, 32] ⟨[(0, .ref 0 0 0), (1, sI width), (2, sI deep), (6, .ref 24 1 0), (7, .ref 28 1 0), (8, .ref 32 1 0), (33, sI k1), (34, sB (k1 == 0))], [(0, .box 0 [sD9 (Rdr.b r), sI ((((((Rdr.p r) + 1) + 1) + 1) + 1) + 1)]), (24, .box 1 [sI 0, sI 0, sB false, sI 0, .nilsl]), (28, .box 1 [sI 1, sI (pick (Rdr.b r) (Rdr.p r) width), sB false, sI 0, .nilsl]), (32, .box 1 [sI 1, sI (pick (Rdr.b r) ((((Rdr.p r) + 1) + 1) + 1) width), sB false, sI 0, .nilsl])]⟩ ?_))
   refine AW.cd (k1 == 0) ?_ ?_
   ·
    intro h847
    have h847q := (Go.Am.beq_pos h847)
    have e848 := e23.trans (Go.Am.bif_t h847)
    refine AW.seq (AW.r0 hC [6] [0, 24] ⟨[(6, .ref 24 1 0)], [(0, .box 0 [sD9 (Rdr.b ((randomExpr (Rdr.mk (Rdr.b r) ((((((Rdr.p r) + 1) + 1) + 1) + 1) + 1)) width 2).2)), sI (Rdr.p ((randomExpr (Rdr.mk (Rdr.b r) ((((((Rdr.p r) + 1) + 1) + 1) + 1) + 1)) width 2).2))]), (24, .box 1 [sI (Xpr.Kind ((randomExpr (Rdr.mk (Rdr.b r) ((((((Rdr.p r) + 1) + 1) + 1) + 1) + 1)) width 2).1)), sI (Xpr.Col ((randomExpr (Rdr.mk (Rdr.b r) ((((((Rdr.p r) + 1) + 1) + 1) + 1) + 1)) width 2).1)), sB (Val.Null (Xpr.V ((randomExpr (Rdr.mk (Rdr.b r) ((((((Rdr.p r) + 1) + 1) + 1) + 1) + 1)) width 2).1))), sI (Val.N (Xpr.V ((randomExpr (Rdr.mk (Rdr.b r) ((((((Rdr.p r) + 1) + 1) + 1) + 1) + 1)) width 2).1))), sD11 (Xpr.Kids ((randomExpr (Rdr.mk (Rdr.b r) ((((((Rdr.p r) + 1) + 1) + 1) + 1) + 1)) width 2).1))])]⟩ [((0 ≤ (2 : Int) ∧ (2 : Int) ≤ 3) ∧ (0 ≤ (Rdr.mk (Rdr.b r) ((((((Rdr.p r) + 1) + 1) + 1) + 1) + 1)).p ∧ (Rdr.mk (Rdr.b r) ((((((Rdr.p r) + 1) + 1) + 1) + 1) + 1)).p + 1000 * (2 : Int) ≤ 999999999000))] ?_ ?_)
    ·
     refine ⟨?_, trivial⟩
     ·
      dsimp only; omega
    exact AW.ret (AW.retE (β := Xpr × Rdr) (fun v => [⟨(.named 1), v.1⟩]) (fun v => [⟨(.named 2), v.2⟩]) (v := ((Xpr.mk (Xpr.Kind ((randomExpr (Rdr.mk (Rdr.b r) ((((((Rdr.p r) + 1) + 1) + 1) + 1) + 1)) width 2).1)) (Xpr.Col ((randomExpr (Rdr.mk (Rdr.b r) ((((((Rdr.p r) + 1) + 1) + 1) + 1) + 1)) width 2).1)) (Xpr.V ((randomExpr (Rdr.mk (Rdr.b r) ((((((Rdr.p r) + 1) + 1) + 1) + 1) + 1)) width 2).1)) (Xpr.Kids ((randomExpr (Rdr.mk (Rdr.b r) ((((((Rdr.p r) + 1) + 1) + 1) + 1) + 1)) width 2).1))), ((randomExpr (Rdr.mk (Rdr.b r) ((((((Rdr.p r) + 1) + 1) + 1) + 1) + 1)) width 2).2))) e848 (by kernel_rfl) rfl rfl)
   ·
    intro h849
    have h849q := (Go.Am.beq_neg h849)
    have e850 := e23.trans (Go.Am.bif_f h849)
    refine AW.seq (AW.r1 hC [0, 1, 2, 6, 7, 8, 33, 39] [0, 24, 28, 32] ⟨[(0, .ref 0 0 0), (1, sI width), (2, sI deep), (6, .ref 24 1 0), (7, .ref 28 1 0), (8, .ref 32 1 0), (33, sI k1), (39, sB (k1 == 1))], [(0, .box 0 [sD9 (Rdr.b r), sI ((((((Rdr.p r) + 1) + 1) + 1) + 1) + 1)]), (24, .box 1 [sI 0, sI 0, sB false, sI 0, .nilsl]), (28, .box 1 [sI 1, sI (pick (Rdr.b r) (Rdr.p r) width), sB false, sI 0, .nilsl]), (32, .box 1 [sI 1, sI (pick (Rdr.b r) ((((Rdr.p r) + 1) + 1) + 1) width), sB false, sI 0, .nilsl])]⟩ ?_)
    refine AW.cd (k1 == 1) ?_ ?_
    ·
     intro h973
     have h973q := (Go.Am.beq_pos h973)
     have e974 := e850.trans (Go.Am.bif_t h973)
     refine AW.seq (AW.r1 hC [6] [0, 24, 176] ⟨[(6, .ref 24 1 0)], [(0, .box 0 [sD9 (Rdr.b r), sI ((((((Rdr.p r) + 1) + 1) + 1) + 1) + 1)]), (24, .box 1 [sI 10, sI 0, sB false, sI 0, .arr 176 1]), (176, .arr 1 (.named 1) (([(Xpr.mk 11 0 (Val.mk false 0) ([(Xpr.mk 1 (pick (Rdr.b r) (Rdr.p r) width) (Val.mk false 0) ([] : List Xpr))] : List Xpr))] : List Xpr) : List Xpr))]⟩ ?_)
     exact AW.ret (AW.retE (β := Xpr × Rdr) (fun v => [⟨(.named 1), v.1⟩]) (fun v => [⟨(.named 2), v.2⟩]) (v := ((Xpr.mk 10 0 (Val.mk false 0) ([(Xpr.mk 11 0 (Val.mk false 0) ([(Xpr.mk 1 (pick (Rdr.b r) (Rdr.p r) width) (Val.mk false 0) ([] : List Xpr))] : List Xpr))] : List Xpr)), (Rdr.mk (Rdr.b r) ((((((Rdr.p r) + 1) + 1) + 1) + 1) + 1)))) e974 (by kernel_rfl) rfl rfl)
    ·
     intro h975
     have h975q := (Go.Am.beq_neg h975)
     have e976 := e850.trans (Go.Am.bif_f h975)
     refine AW.seq (AW.r1 hC [0, 1, 2, 6, 7, 8, 33, 46] [0, 24, 28, 32] ⟨[(0, .ref 0 0 0), (1, sI width), (2, sI deep), (6, .ref 24 1 0), (7, .ref 28 1 0), (8, .ref 32 1 0), (33, sI k1), (46, sB (k1 == 2))], [(0, .box 0 [sD9 (Rdr.b r), sI ((((((Rdr.p r) + 1) + 1) + 1) + 1) + 1)]), (24, .box 1 [sI 0, sI 0, sB false, sI 0, .nilsl]), (28, .box 1 [sI 1, sI (pick (Rdr.b r) (Rdr.p r) width), sB false, sI 0, .nilsl]), (32, .box 1 [sI 1, sI (pick (Rdr.b r) ((((Rdr.p r) + 1) + 1) + 1) width), sB false, sI 0, .nilsl])]⟩ ?_)
     refine AW.cd (k1 == 2) ?_ ?_
     ·
      intro h1032
      have h1032q := (Go.Am.beq_pos h1032)
      have e1033 := e976.trans (Go.Am.bif_t h1032)
      refine AW.seq (AW.d0 hC hM [6] [0, 24, 228] ⟨[(6, .ref 24 1 0)], [(0, .box 0 [sD9 (Rdr.b (((condition_r fuel) (Rdr.mk (Rdr.b r) ((((((Rdr.p r) + 1) + 1) + 1) + 1) + 1)) width (deep - 1)).2)), sI (Rdr.p (((condition_r fuel) (Rdr.mk (Rdr.b r) ((((((Rdr.p r) + 1) + 1) + 1) + 1) + 1)) width (deep - 1)).2))]), (24, .box 1 [sI 8, sI 0, sB false, sI 0, .arr 228 1]), (228, .arr 1 (.named 1) (([(((condition_r fuel) (Rdr.mk (Rdr.b r) ((((((Rdr.p r) + 1) + 1) + 1) + 1) + 1)) width (deep - 1)).1), (Xpr.mk 6 0 (Val.mk false 0) ([(Xpr.mk 1 (pick (Rdr.b r) (Rdr.p r) width) (Val.mk false 0) ([] : List Xpr)), (Xpr.mk 1 (pick (Rdr.b r) ((((Rdr.p r) + 1) + 1) + 1) width) (Val.mk false 0) ([] : List Xpr))] : List Xpr))] : List Xpr) : List Xpr))]⟩ [R64 (deep - 1), (((0 ≤ (deep - 1) ∧ (deep - 1) ≤ 2) ∧ (0 ≤ (Rdr.mk (Rdr.b r) ((((((Rdr.p r) + 1) + 1) + 1) + 1) + 1)).p ∧ (Rdr.mk (Rdr.b r) ((((((Rdr.p r) + 1) + 1) + 1) + 1) + 1)).p + 1000 * (deep - 1) ≤ 999999990000)) ∧ Int.toNat (deep - 1) < fuel)] ?_ ?_)
      ·
       refine ⟨?_, ?_, trivial⟩
       ·
        refine R64.of ?_
        omega
       ·
        dsimp only; omega
      exact AW.ret (AW.retE (β := Xpr × Rdr) (fun v => [⟨(.named 1), v.1⟩]) (fun v => [⟨(.named 2), v.2⟩]) (v := ((Xpr.mk 8 0 (Val.mk false 0) ([(((condition_r fuel) (Rdr.mk (Rdr.b r) ((((((Rdr.p r) + 1) + 1) + 1) + 1) + 1)) width (deep - 1)).1), (Xpr.mk 6 0 (Val.mk false 0) ([(Xpr.mk 1 (pick (Rdr.b r) (Rdr.p r) width) (Val.mk false 0) ([] : List Xpr)), (Xpr.mk 1 (pick (Rdr.b r) ((((Rdr.p r) + 1) + 1) + 1) width) (Val.mk false 0) ([] : List Xpr))] : List Xpr))] : List Xpr)), (((condition_r fuel) (Rdr.mk (Rdr.b r) ((((((Rdr.p r) + 1) + 1) + 1) + 1) + 1)) width (deep - 1)).2))) e1033 (by kernel_rfl) rfl rfl)
     ·
      intro h1034
      have h1034q := (Go.Am.beq_neg h1034)
      have e1035 := e976.trans (Go.Am.bif_f h1034)
      refine AW.seq (AW.seq (AW.r1 hC [6, 7, 8, 33, 59] [0, 24, 28, 32] ⟨[(6, .ref 24 1 0), (7, .ref 28 1 0), (8, .ref 32 1 0), (33, sI k1), (59, sB (k1 == 3))], [(0, .box 0 [sD9 (Rdr.b r), sI ((((((Rdr.p r) + 1) + 1) + 1) + 1) + 1)]), (24, .box 1 [sI 0, sI 0, sB false, sI 0, .nilsl]), (28, .box 1 [sI 1, sI (pick (Rdr.b r) (Rdr.p r) width), sB false, sI 0, .nilsl]), (32, .box 1 [sI 1, sI (pick (Rdr.b r) ((((Rdr.p r) + 1) + 1) + 1) width), sB false, sI 0, .nilsl])]⟩ ?_))
      refine AW.cutQ (α := Bool) (fun x => ⟨[(6, .ref 24 1 0), (7, .ref 28 1 0), (8, .ref 32 1 0), (33, sI k1), (59, sB x)], [(0, .box 0 [sD9 (Rdr.b r), sI ((((((Rdr.p r) + 1) + 1) + 1) + 1) + 1)]), (24, .box 1 [sI 0, sI 0, sB false, sI 0, .nilsl]), (28, .box 1 [sI 1, sI (pick (Rdr.b r) (Rdr.p r) width), sB false, sI 0, .nilsl]), (32, .box 1 [sI 1, sI (pick (Rdr.b r) ((((Rdr.p r) + 1) + 1) + 1) width), sB false, sI 0, .nilsl])]⟩) (fun x => (True) ∧ (condition_j1 k1) = x) ?_ ?_
      ·
       skip
       have e1044 : (condition_j1 k1) = (condition_j1 k1) := rfl
       refine AW.cd (k1 == 3) ?_ ?_
       ·
        intro h1045
        have h1045q := (Go.Am.beq_pos h1045)
        have e1046 := e1044.trans (Go.Am.bif_t h1045)
        refine AW.skip ?_
        refine AW.meet (k1 == 3) (by kernel_rfl) ⟨?_, e1046⟩
        show True
        exact trivial
       ·
        intro h1047
        have h1047q := (Go.Am.beq_neg h1047)
        have e1048 := e1044.trans (Go.Am.bif_f h1047)
        refine AW.r1 hC [6, 7, 8, 33, 59] [0, 24, 28, 32] ⟨[(6, .ref 24 1 0), (7, .ref 28 1 0), (8, .ref 32 1 0), (33, sI k1), (59, sB (k1 == 4))], [(0, .box 0 [sD9 (Rdr.b r), sI ((((((Rdr.p r) + 1) + 1) + 1) + 1) + 1)]), (24, .box 1 [sI 0, sI 0, sB false, sI 0, .nilsl]), (28, .box 1 [sI 1, sI (pick (Rdr.b r) (Rdr.p r) width), sB false, sI 0, .nilsl]), (32, .box 1 [sI 1, sI (pick (Rdr.b r) ((((Rdr.p r) + 1) + 1) + 1) width), sB false, sI 0, .nilsl])]⟩ ?_
        refine AW.meet (k1 == 4) (by kernel_rfl) ⟨?_, e1048⟩
        show True
        exact trivial
      ·
       intro v59 hR
       obtain ⟨hM1, e1049⟩ := hR
       replace hM1 : True := hM1
       have e1050 := e1035.trans (Go.Am.then_eq e1049)
       refine AW.cd v59 ?_ ?_
       ·
        intro h1067
        have h1067q : v59 = true := h1067
        have e1068 := e1050.trans (Go.Am.bif_t h1067)
        refine AW.seq (AW.r1 hC [6] [0, 24, 256] ⟨[(6, .ref 24 1 0)], [(0, .box 0 [sD9 (Rdr.b r), sI ((((((Rdr.p r) + 1) + 1) + 1) + 1) + 1)]), (24, .box 1 [sI 7, sI 0, sB false, sI 0, .arr 256 1]), (256, .arr 1 (.named 1) (([(Xpr.mk 1 (pick (Rdr.b r) ((((Rdr.p r) + 1) + 1) + 1) width) (Val.mk false 0) ([] : List Xpr)), (Xpr.mk 1 (pick (Rdr.b r) (Rdr.p r) width) (Val.mk false 0) ([] : List Xpr))] : List Xpr) : List Xpr))]⟩ ?_)
        exact AW.ret (AW.retE (β := Xpr × Rdr) (fun v => [⟨(.named 1), v.1⟩]) (fun v => [⟨(.named 2), v.2⟩]) (v := ((Xpr.mk 7 0 (Val.mk false 0) ([(Xpr.mk 1 (pick (Rdr.b r) ((((Rdr.p r) + 1) + 1) + 1) width) (Val.mk false 0) ([] : List Xpr)), (Xpr.mk 1 (pick (Rdr.b r) (Rdr.p r) width) (Val.mk false 0) ([] : List Xpr))] : List Xpr)), (Rdr.mk (Rdr.b r) ((((((Rdr.p r) + 1) + 1) + 1) + 1) + 1)))) e1068 (by kernel_rfl) rfl rfl)
       ·
        intro h1069
        have h1069q : v59 = false := h1069
        have e1070 := e1050.trans (Go.Am.bif_f h1069)
        refine AW.seq (AW.r1 hC [6, 7, 8, 66] [0, 24, 28, 32] ⟨[(6, .ref 24 1 0), (7, .ref 28 1 0), (8, .ref 32 1 0), (66, sB (k1 == 5))], [(0, .box 0 [sD9 (Rdr.b r), sI ((((((Rdr.p r) + 1) + 1) + 1) + 1) + 1)]), (24, .box 1 [sI 0, sI 0, sB false, sI 0, .nilsl]), (28, .box 1 [sI 1, sI (pick (Rdr.b r) (Rdr.p r) width), sB false, sI 0, .nilsl]), (32, .box 1 [sI 1, sI (pick (Rdr.b r) ((((Rdr.p r) + 1) + 1) + 1) width), sB false, sI 0, .nilsl])]⟩ ?_)
        refine AW.cd (k1 == 5) ?_ ?_
        ·
         intro h1076
         have h1076q := (Go.Am.beq_pos h1076)
         have e1077 := e1070.trans (Go.Am.bif_t h1076)
         refine AW.seq (AW.r1 hC [6] [0, 24, 280] ⟨[(6, .ref 24 1 0)], [(0, .box 0 [sD9 (Rdr.b r), sI ((((((Rdr.p r) + 1) + 1) + 1) + 1) + 1)]), (24, .box 1 [sI 7, sI 0, sB false, sI 0, .arr 280 1]), (280, .arr 1 (.named 1) (([(Xpr.mk 1 (pick (Rdr.b r) (Rdr.p r) width) (Val.mk false 0) ([] : List Xpr)), (Xpr.mk 1 (pick (Rdr.b r) ((((Rdr.p r) + 1) + 1) + 1) width) (Val.mk false 0) ([] : List Xpr))] : List Xpr) : List Xpr))]⟩ ?_)
         exact AW.ret (AW.retE (β := Xpr × Rdr) (fun v => [⟨(.named 1), v.1⟩]) (fun v => [⟨(.named 2), v.2⟩]) (v := ((Xpr.mk 7 0 (Val.mk false 0) ([(Xpr.mk 1 (pick (Rdr.b r) (Rdr.p r) width) (Val.mk false 0) ([] : List Xpr)), (Xpr.mk 1 (pick (Rdr.b r) ((((Rdr.p r) + 1) + 1) + 1) width) (Val.mk false 0) ([] : List Xpr))] : List Xpr)), (Rdr.mk (Rdr.b r) ((((((Rdr.p r) + 1) + 1) + 1) + 1) + 1)))) e1077 (by kernel_rfl) rfl rfl)
        ·
         intro h1078
         have h1078q := (Go.Am.beq_neg h1078)
         have e1079 := e1070.trans (Go.Am.bif_f h1078)
         refine AW.kp [6, 7, 8] [0, 24, 28, 32] ⟨[(6, .ref 24 1 0), (7, .ref 28 1 0), (8, .ref 32 1 0)], [(0, .box 0 [sD9 (Rdr.b r), sI ((((((Rdr.p r) + 1) + 1) + 1) + 1) + 1)]), (24, .box 1 [sI 0, sI 0, sB false, sI 0, .nilsl]), (28, .box 1 [sI 1, sI (pick (Rdr.b r) (Rdr.p r) width), sB false, sI 0, .nilsl]), (32, .box 1 [sI 1, sI (pick (Rdr.b r) ((((Rdr.p r) + 1) + 1) + 1) width), sB false, sI 0, .nilsl])]⟩ ?_
         refine AW.skip (AW.seq (AW.r1 hC [6] [0, 24, 296] ⟨[(6, .ref 24 1 0)], [(0, .box 0 [sD9 (Rdr.b r), sI ((((((Rdr.p r) + 1) + 1) + 1) + 1) + 1)]), (24, .box 1 [sI 6, sI 0, sB false, sI 0, .arr 296 1]), (296, .arr 1 (.named 1) (([(Xpr.mk 1 (pick (Rdr.b r) (Rdr.p r) width) (Val.mk false 0) ([] : List Xpr)), (Xpr.mk 1 (pick (Rdr.b r) ((((Rdr.p r) + 1) + 1) + 1) width) (Val.mk false 0) ([] : List Xpr))] : List Xpr) : List Xpr))]⟩ ?_))
         exact AW.ret (AW.retE (β := Xpr × Rdr) (fun v => [⟨(.named 1), v.1⟩]) (fun v => [⟨(.named 2), v.2⟩]) (v := ((Xpr.mk 6 0 (Val.mk false 0) ([(Xpr.mk 1 (pick (Rdr.b r) (Rdr.p r) width) (Val.mk false 0) ([] : List Xpr)), (Xpr.mk 1 (pick (Rdr.b r) ((((Rdr.p r) + 1) + 1) + 1) width) (Val.mk false 0) ([] : List Xpr))] : List Xpr)), (Rdr.mk (Rdr.b r) ((((((Rdr.p r) + 1) + 1) + 1) + 1) + 1)))) e1079 (by kernel_rfl) rfl rfl)
 ·
  intro h1080
  have h1080q := (Go.Am.beq_neg h1080)
  have e1081 := e0.trans (Go.Am.bif_f h1080)
  refine AW.kp [0, 1, 2, 6, 7, 8] [0, 24, 28, 32] ⟨[(0, .ref 0 0 0), (1, sI width), (2, sI deep), (6, .ref 24 1 0), (7, .ref 28 1 0), (8, .ref 32 1 0)], [(0, .box 0 [sD9 (Rdr.b r), sI ((((Rdr.p r) + 1) + 1) + 1)]), (24, .box 1 [sI 0, sI 0, sB false, sI 0, .nilsl]), (28, .box 1 [sI 1, sI (pick (Rdr.b r) (Rdr.p r) width), sB false, sI 0, .nilsl]), (32, .box 1 [sI (Xpr.Kind (constant (Val.mk false (pick (Rdr.b r) ((Rdr.p r) + 1) 4)))), sI (Xpr.Col (constant (Val.mk false (pick (Rdr.b r) ((Rdr.p r) + 1) 4)))), sB (Val.Null (Xpr.V (constant (Val.mk false (pick (Rdr.b r) ((Rdr.p r) + 1) 4))))), sI (Val.N (Xpr.V (constant (Val.mk false (pick (Rdr.b r) ((Rdr.p r) + 1) 4))))), sD11 (Xpr.Kids (constant (Val.mk false (pick (Rdr.b r) ((Rdr.p r) + 1) 4))))])]⟩ ?_
  refine AW.skip (AW.seq (AW.r0 hC [0, 1, 2, 6, 7, 8, 9] [0, 24, 28, 32] ⟨[(0, .ref 0 0 0), (1, sI width), (2, sI deep), (6, .ref 24 1 0), (7, .ref 28 1 0), (8, .ref 32 1 0), (9, sI (pick (Rdr.b r) ((((Rdr.p r) + 1) + 1) + 1) 8))], [(0, .box 0 [sD9 (Rdr.b r), sI (((((Rdr.p r) + 1) + 1) + 1) + 1)]), (24, .box 1 [sI 0, sI 0, sB false, sI 0, .nilsl]), (28, .box 1 [sI 1, sI (pick (Rdr.b r) (Rdr.p r) width), sB false, sI 0, .nilsl]), (32, .box 1 [sI (Xpr.Kind (constant (Val.mk false (pick (Rdr.b r) ((Rdr.p r) + 1) 4)))), sI (Xpr.Col (constant (Val.mk false (pick (Rdr.b r) ((Rdr.p r) + 1) 4)))), sB (Val.Null (Xpr.V (constant (Val.mk false (pick (Rdr.b r) ((Rdr.p r) + 1) 4))))), sI (Val.N (Xpr.V (constant (Val.mk false (pick (Rdr.b r) ((Rdr.p r) + 1) 4))))), sD11 (Xpr.Kids (constant (Val.mk false (pick (Rdr.b r) ((Rdr.p r) + 1) 4))))])]⟩ [(0 ≤ (Rdr.mk (Rdr.b r) ((((Rdr.p r) + 1) + 1) + 1)).p ∧ (Rdr.mk (Rdr.b r) ((((Rdr.p r) + 1) + 1) + 1)).p ≤ 1099511627776)] ?_ ?_))
  ·
   refine ⟨?_, trivial⟩
   ·
    dsimp only; omega
  refine AW.seq (AW.seq (AW.r0 hC [0, 1, 2, 6, 7, 8, 9, 32] [0, 24, 28, 32] ⟨[(0, .ref 0 0 0), (1, sI width), (2, sI deep), (6, .ref 24 1 0), (7, .ref 28 1 0), (8, .ref 32 1 0), (9, sI (pick (Rdr.b r) ((((Rdr.p r) + 1) + 1) + 1) 8)), (32, sB (bif ((pick (Rdr.b r) ((((Rdr.p r) + 1) + 1) + 1) 8) == 2) then (deep == 0) else false))], [(0, .box 0 [sD9 (Rdr.b r), sI (((((Rdr.p r) + 1) + 1) + 1) + 1)]), (24, .box 1 [sI 0, sI 0, sB false, sI 0, .nilsl]), (28, .box 1 [sI 1, sI (pick (Rdr.b r) (Rdr.p r) width), sB false, sI 0, .nilsl]), (32, .box 1 [sI (Xpr.Kind (constant (Val.mk false (pick (Rdr.b r) ((Rdr.p r) + 1) 4)))), sI (Xpr.Col (constant (Val.mk false (pick (Rdr.b r) ((Rdr.p r) + 1) 4)))), sB (Val.Null (Xpr.V (constant (Val.mk false (pick (Rdr.b r) ((Rdr.p r) + 1) 4))))), sI (Val.N (Xpr.V (constant (Val.mk false (pick (Rdr.b r) ((Rdr.p r) + 1) 4))))), sD11 (Xpr.Kids (constant (Val.mk false (pick (Rdr.b r) ((Rdr.p r) + 1) 4))))])]⟩ [((((pick (Rdr.b r) ((((Rdr.p r) + 1) + 1) + 1) 8) == 2) = true) → ((((pick (Rdr.b r) ((((Rdr.p r) + 1) + 1) + 1) 8) == 2) = true))), ((((pick (Rdr.b r) ((((Rdr.p r) + 1) + 1) + 1) 8) == 2) = true) → ((((pick (Rdr.b r) ((((Rdr.p r) + 1) + 1) + 1) 8) == 2) = true)))] ?_ ?_))
  ·
   refine ⟨?_, ?_, trivial⟩
   ·
    intro g1082
    have g1082p0 : (pick (Rdr.b r) ((((Rdr.p r) + 1) + 1) + 1) 8) = 2 := (Go.Am.beq_pos g1082)
    assumption
   ·
    intro g1083
    have g1083p0 : (pick (Rdr.b r) ((((Rdr.p r) + 1) + 1) + 1) 8) = 2 := (Go.Am.beq_pos g1083)
    assumption
  refine AW.cutQ (α := Int) (fun x => ⟨[(0, .ref 0 0 0), (1, sI width), (2, sI deep), (6, .ref 24 1 0), (7, .ref 28 1 0), (8, .ref 32 1 0), (9, sI x)], [(0, .box 0 [sD9 (Rdr.b r), sI (((((Rdr.p r) + 1) + 1) + 1) + 1)]), (24, .box 1 [sI 0, sI 0, sB false, sI 0, .nilsl]), (28, .box 1 [sI 1, sI (pick (Rdr.b r) (Rdr.p r) width), sB false, sI 0, .nilsl]), (32, .box 1 [sI (Xpr.Kind (constant (Val.mk false (pick (Rdr.b r) ((Rdr.p r) + 1) 4)))), sI (Xpr.Col (constant (Val.mk false (pick (Rdr.b r) ((Rdr.p r) + 1) 4)))), sB (Val.Null (Xpr.V (constant (Val.mk false (pick (Rdr.b r) ((Rdr.p r) + 1) 4))))), sI (Val.N (Xpr.V (constant (Val.mk false (pick (Rdr.b r) ((Rdr.p r) + 1) 4))))), sD11 (Xpr.Kids (constant (Val.mk false (pick (Rdr.b r) ((Rdr.p r) + 1) 4))))])]⟩) (fun x => (x = 2 → deep ≠ 0) ∧ (condition_j0a r deep) = x) ?_ ?_
  ·
   skip
   have e1092 : (condition_j0a r deep) = (condition_j0a r deep) := rfl
   refine AW.cd (bif ((pick (Rdr.b r) ((((Rdr.p r) + 1) + 1) + 1) 8) == 2) then (deep == 0) else false) ?_ ?_
   ·
    intro h1093
    have h1093q : ((pick (Rdr.b r) ((((Rdr.p r) + 1) + 1) + 1) 8) = 2) ∧ (deep = 0) := (And.imp (fun h => (Go.Am.beq_pos h)) (fun h => (Go.Am.beq_pos h)) (Go.Am.and_pos h1093))
    have e1094 := e1092.trans (Go.Am.bif_t h1093)
    refine AW.r1 hC [0, 1, 2, 6, 7, 8, 9] [0, 24, 28, 32] ⟨[(0, .ref 0 0 0), (1, sI width), (2, sI deep), (6, .ref 24 1 0), (7, .ref 28 1 0), (8, .ref 32 1 0), (9, sI 5)], [(0, .box 0 [sD9 (Rdr.b r), sI (((((Rdr.p r) + 1) + 1) + 1) + 1)]), (24, .box 1 [sI 0, sI 0, sB false, sI 0, .nilsl]), (28, .box 1 [sI 1, sI (pick (Rdr.b r) (Rdr.p r) width), sB false, sI 0, .nilsl]), (32, .box 1 [sI (Xpr.Kind (constant (Val.mk false (pick (Rdr.b r) ((Rdr.p r) + 1) 4)))), sI (Xpr.Col (constant (Val.mk false (pick (Rdr.b r) ((Rdr.p r) + 1) 4)))), sB (Val.Null (Xpr.V (constant (Val.mk false (pick (Rdr.b r) ((Rdr.p r) + 1) 4))))), sI (Val.N (Xpr.V (constant (Val.mk false (pick (Rdr.b r) ((Rdr.p r) + 1) 4))))), sD11 (Xpr.Kids (constant (Val.mk false (pick (Rdr.b r) ((Rdr.p r) + 1) 4))))])]⟩ ?_
    refine AW.meet 5 (by kernel_rfl) ⟨?_, e1094⟩
    show 5 = 2 → deep ≠ 0
    intro hk; omega
   ·
    intro h1095
    have h1095q : ((pick (Rdr.b r) ((((Rdr.p r) + 1) + 1) + 1) 8) ≠ 2) ∨ (deep ≠ 0) := (Or.imp (fun h => (Go.Am.beq_neg h)) (fun h => (Go.Am.beq_neg h)) (Go.Am.and_neg h1095))
    have e1096 := e1092.trans (Go.Am.bif_f h1095)
    refine AW.kp [0, 1, 2, 6, 7, 8, 9] [0, 24, 28, 32] ⟨[(0, .ref 0 0 0), (1, sI width), (2, sI deep), (6, .ref 24 1 0), (7, .ref 28 1 0), (8, .ref 32 1 0), (9, sI (pick (Rdr.b r) ((((Rdr.p r) + 1) + 1) + 1) 8))], [(0, .box 0 [sD9 (Rdr.b r), sI (((((Rdr.p r) + 1) + 1) + 1) + 1)]), (24, .box 1 [sI 0, sI 0, sB false, sI 0, .nilsl]), (28, .box 1 [sI 1, sI (pick (Rdr.b r) (Rdr.p r) width), sB false, sI 0, .nilsl]), (32, .box 1 [sI (Xpr.Kind (constant (Val.mk false (pick (Rdr.b r) ((Rdr.p r) + 1) 4)))), sI (Xpr.Col (constant (Val.mk false (pick (Rdr.b r) ((Rdr.p r) + 1) 4)))), sB (Val.Null (Xpr.V (constant (Val.mk false (pick (Rdr.b r) ((Rdr.p r) + 1) 4))))), sI (Val.N (Xpr.V (constant (Val.mk false (pick (Rdr.b r) ((Rdr.p r) + 1) 4))))), sD11 (Xpr.Kids (constant (Val.mk false (pick (Rdr.b r) ((Rdr.p r) + 1) 4))))])]⟩ ?_
    refine AW.skip ?_
    refine AW.meet (pick (Rdr.b r) ((((Rdr.p r) + 1) + 1) + 1) 8) (by kernel_rfl) ⟨?_, e1096⟩
    show (pick (Rdr.b r) ((((Rdr.p r) + 1) + 1) + 1) 8) = 2 → deep ≠ 0
    intro hk; omega
  ·
   intro k1 hR
   obtain ⟨hM0, e1097⟩ := hR
   replace hM0 : k1 = 2 → deep ≠ 0 := hM0
   have e1098 := e1081.trans (Go.Am.then_eq e1097)
   refine AW.seq (AW.seq (AW.r1 hC [0, 1, 2, 6, 7, 8, 33] [0, 24, 28, 32] ⟨[(0, .ref 0 0 0), (1, sI width), (2, sI deep), (6, .ref 24 1 0), (7, .ref 28 1 0), (8, .ref 32 1 0), (33, sI k1)], [(0, .box 0 [sD9 (Rdr.b r), sI (((((Rdr.p r) + 1) + 1) + 1) + 1)]), (24, .box 1 [sI 0, sI 0, sB false, sI 0, .nilsl]), (28, .box 1 [sI 1, sI (pick (Rdr.b r) (Rdr.p r) width), sB false, sI 0, .nilsl]), (32, .box 1 [sI (Xpr.Kind (constant (Val.mk false (pick (Rdr.b r) ((Rdr.p r) + 1) 4)))), sI (Xpr.Col (constant (Val.mk false (pick (Rdr.b r) ((Rdr.p r) + 1) 4)))), sB (Val.Null (Xpr.V (constant (Val.mk false (pick (Rdr.b r) ((Rdr.p r) + 1) 4))))), sI (Val.N (Xpr.V (constant (Val.mk false (pick (Rdr.b r) ((Rdr.p r) + 1) 4))))), sD11 (Xpr.Kids (constant (Val.mk false (pick (Rdr.b r) ((Rdr.p r) + 1) 4))))])]⟩ ?_))
   refine AW.block (AW.seq (AW.r1 hC [0, 1, 2, 6, 7, 8, 33, 34] [0, 24, 28, 32] ⟨[(0, .ref 0 0 0), (1, sI width), (2, sI deep), (6, .ref 24 1 0), (7, .ref 28 1 0), (8, .ref 32 1 0), (33, sI k1), (34, sB (k1 == 0))], [(0, .box 0 [sD9 (Rdr.b r), sI (((((Rdr.p r) + 1) + 1) + 1) + 1)]), (24, .box 1 [sI 0, sI 0, sB false, sI 0, .nilsl]), (28, .box 1 [sI 1, sI (pick (Rdr.b r) (Rdr.p r) width), sB false, sI 0, .nilsl]), (32, .box 1 [sI (Xpr.Kind (constant (Val.mk false (pick (Rdr.b r) ((Rdr.p r) + 1) 4)))), sI (Xpr.Col (constant (Val.mk false (pick (Rdr.b r) ((Rdr.p r) + 1) 4)))), sB (Val.Null (Xpr.V (constant (Val.mk false (pick (Rdr.b r) ((Rdr.p r) + 1) 4))))), sI (Val.N (Xpr.V (constant (Val.mk false (pick (Rdr.b r) ((Rdr.p r) + 1) 4))))), sD11 (Xpr.Kids (constant (Val.mk false (pick (Rdr.b r) ((Rdr.p r) + 1) 4))))])]⟩ ?_))
   refine AW.cd (k1 == 0) ?_ ?_
   ·
    intro h1922
    have h1922q := (Go.Am.beq_pos h1922)
    have e1923 := e1098.trans (Go.Am.bif_t h1922)
    refine AW.seq (AW.r0 hC [6] [0, 24] ⟨[(6, .ref 24 1 0)], [(0, .box 0 [sD9 (Rdr.b ((randomExpr (Rdr.mk (Rdr.b r) (((((Rdr.p r) + 1) + 1) + 1) + 1)) width 2).2)), sI (Rdr.p ((randomExpr (Rdr.mk (Rdr.b r) (((((Rdr.p r) + 1) + 1) + 1) + 1)) width 2).2))]), (24, .box 1 [sI (Xpr.Kind ((randomExpr (Rdr.mk (Rdr.b r) (((((Rdr.p r) + 1) + 1) + 1) + 1)) width 2).1)), sI (Xpr.Col ((randomExpr (Rdr.mk (Rdr.b r) (((((Rdr.p r) + 1) + 1) + 1) + 1)) width 2).1)), sB (Val.Null (Xpr.V ((randomExpr (Rdr.mk (Rdr.b r) (((((Rdr.p r) + 1) + 1) + 1) + 1)) width 2).1))), sI (Val.N (Xpr.V ((randomExpr (Rdr.mk (Rdr.b r) (((((Rdr.p r) + 1) + 1) + 1) + 1)) width 2).1))), sD11 (Xpr.Kids ((randomExpr (Rdr.mk (Rdr.b r) (((((Rdr.p r) + 1) + 1) + 1) + 1)) width 2).1))])]⟩ [((0 ≤ (2 : Int) ∧ (2 : Int) ≤ 3) ∧ (0 ≤ (Rdr.mk (Rdr.b r) (((((Rdr.p r) + 1) + 1) + 1) + 1)).p ∧ (Rdr.mk (Rdr.b r) (((((Rdr.p r) + 1) + 1) + 1) + 1)).p + 1000 * (2 : Int) ≤ 999999999000))] ?_ ?_)
    ·
     refine ⟨?_, trivial⟩
     ·
      dsimp only; omega
    exact AW.ret (AW.retE (β := Xpr × Rdr) (fun v => [⟨(.named 1), v.1⟩]) (fun v => [⟨(.named 2), v.2⟩]) (v := ((Xpr.mk (Xpr.Kind ((randomExpr (Rdr.mk (Rdr.b r) (((((Rdr.p r) + 1) + 1) + 1) + 1)) width 2).1)) (Xpr.Col ((randomExpr (Rdr.mk (Rdr.b r) (((((Rdr.p r) + 1) + 1) + 1) + 1)) width 2).1)) (Xpr.V ((randomExpr (Rdr.mk (Rdr.b r) (((((Rdr.p r) + 1) + 1) + 1) + 1)) width 2).1)) (Xpr.Kids ((randomExpr (Rdr.mk (Rdr.b r) (((((Rdr.p r) + 1) + 1) + 1) + 1)) width 2).1))), ((randomExpr (Rdr.mk (Rdr.b r) (((((Rdr.p r) + 1) + 1) + 1) + 1)) width 2).2))) e1923 (by kernel_rfl) rfl rfl)
   ·
    intro h1924
    have h1924q := (Go.Am.beq_neg h1924)
    have e1925 := e1098.trans (Go.Am.bif_f h1924)
    refine AW.seq (AW.r1 hC [0, 1, 2, 6, 7, 8, 33, 39] [0, 24, 28, 32] ⟨[(0, .ref 0 0 0), (1, sI width), (2, sI deep), (6, .ref 24 1 0), (7, .ref 28 1 0), (8, .ref 32 1 0), (33, sI k1), (39, sB (k1 == 1))], [(0, .box 0 [sD9 (Rdr.b r), sI (((((Rdr.p r) + 1) + 1) + 1) + 1)]), (24, .box 1 [sI 0, sI 0, sB false, sI 0, .nilsl]), (28, .box 1 [sI 1, sI (pick (Rdr.b r) (Rdr.p r) width), sB false, sI 0, .nilsl]), (32, .box 1 [sI (Xpr.Kind (constant (Val.mk false (pick (Rdr.b r) ((Rdr.p r) + 1) 4)))), sI (Xpr.Col (constant (Val.mk false (pick (Rdr.b r) ((Rdr.p r) + 1) 4)))), sB (Val.Null (Xpr.V (constant (Val.mk false (pick (Rdr.b r) ((Rdr.p r) + 1) 4))))), sI (Val.N (Xpr.V (constant (Val.mk false (pick (Rdr.b r) ((Rdr.p r) + 1) 4))))), sD11 (Xpr.Kids (constant (Val.mk false (pick (Rdr.b r) ((Rdr.p r) + 1) 4))))])]⟩ ?_)
    refine AW.cd (k1 == 1) ?_ ?_
    ·
     intro h2048
     have h2048q := (Go.Am.beq_pos h2048)
     have e2049 := e1925.trans (Go.Am.bif_t h2048)
     refine AW.seq (AW.r1 hC [6] [0, 24, 176] ⟨[(6, .ref 24 1 0)], [(0, .box 0 [sD9 (Rdr.b r), sI (((((Rdr.p r) + 1) + 1) + 1) + 1)]), (24, .box 1 [sI 10, sI 0, sB false, sI 0, .arr 176 1]), (176, .arr 1 (.named 1) (([(Xpr.mk 11 0 (Val.mk false 0) ([(Xpr.mk 1 (pick (Rdr.b r) (Rdr.p r) width) (Val.mk false 0) ([] : List Xpr))] : List Xpr))] : List Xpr) : List Xpr))]⟩ ?_)
     exact AW.ret (AW.retE (β := Xpr × Rdr) (fun v => [⟨(.named 1), v.1⟩]) (fun v => [⟨(.named 2), v.2⟩]) (v := ((Xpr.mk 10 0 (Val.mk false 0) ([(Xpr.mk 11 0 (Val.mk false 0) ([(Xpr.mk 1 (pick (Rdr.b r) (Rdr.p r) width) (Val.mk false 0) ([] : List Xpr))] : List Xpr))] : List Xpr)), (Rdr.mk (Rdr.b r) (((((Rdr.p r) + 1) + 1) + 1) + 1)))) e2049 (by kernel_rfl) rfl rfl)
    ·
     intro h2050
     have h2050q := (Go.Am.beq_neg h2050)
     have e2051 := e1925.trans (Go.Am.bif_f h2050)
     refine AW.seq (AW.r1 hC [0, 1, 2, 6, 7, 8, 33, 46] [0, 24, 28, 32] ⟨[(0, .ref 0 0 0), (1, sI width), (2, sI deep), (6, .ref 24 1 0), (7, .ref 28 1 0), (8, .ref 32 1 0), (33, sI k1), (46, sB (k1 == 2))], [(0, .box 0 [sD9 (Rdr.b r), sI (((((Rdr.p r) + 1) + 1) + 1) + 1)]), (24, .box 1 [sI 0, sI 0, sB false, sI 0, .nilsl]), (28, .box 1 [sI 1, sI (pick (Rdr.b r) (Rdr.p r) width), sB false, sI 0, .nilsl]), (32, .box 1 [sI (Xpr.Kind (constant (Val.mk false (pick (Rdr.b r) ((Rdr.p r) + 1) 4)))), sI (Xpr.Col (constant (Val.mk false (pick (Rdr.b r) ((Rdr.p r) + 1) 4)))), sB (Val.Null (Xpr.V (constant (Val.mk false (pick (Rdr.b r) ((Rdr.p r) + 1) 4))))), sI (Val.N (Xpr.V (constant (Val.mk false (pick (Rdr.b r) ((Rdr.p r) + 1) 4))))), sD11 (Xpr.Kids (constant (Val.mk false (pick (Rdr.b r) ((Rdr.p r) + 1) 4))))])]⟩ ?_)
     refine AW.cd (k1 == 2) ?_ ?_
     ·
      intro h2107
      have h2107q := (Go.Am.beq_pos h2107)
      have e2108 := e2051.trans (Go.Am.bif_t h2107)
      refine AW.seq (AW.d0 hC hM [6] [0, 24, 228] ⟨[(6, .ref 24 1 0)], [(0, .box 0 [sD9 (Rdr.b (((condition_r fuel) (Rdr.mk (Rdr.b r) (((((Rdr.p r) + 1) + 1) + 1) + 1)) width (deep - 1)).2)), sI (Rdr.p (((condition_r fuel) (Rdr.mk (Rdr.b r) (((((Rdr.p r) + 1) + 1) + 1) + 1)) width (deep - 1)).2))]), (24, .box 1 [sI 8, sI 0, sB false, sI 0, .arr 228 1]), (228, .arr 1 (.named 1) (([(((condition_r fuel) (Rdr.mk (Rdr.b r) (((((Rdr.p r) + 1) + 1) + 1) + 1)) width (deep - 1)).1), (Xpr.mk 6 0 (Val.mk false 0) ([(Xpr.mk 1 (pick (Rdr.b r) (Rdr.p r) width) (Val.mk false 0) ([] : List Xpr)), (Xpr.mk (Xpr.Kind (constant (Val.mk false (pick (Rdr.b r) ((Rdr.p r) + 1) 4)))) (Xpr.Col (constant (Val.mk false (pick (Rdr.b r) ((Rdr.p r) + 1) 4)))) (Xpr.V (constant (Val.mk false (pick (Rdr.b r) ((Rdr.p r) + 1) 4)))) (Xpr.Kids (constant (Val.mk false (pick (Rdr.b r) ((Rdr.p r) + 1) 4)))))] : List Xpr))] : List Xpr) : List Xpr))]⟩ [R64 (deep - 1), (((0 ≤ (deep - 1) ∧ (deep - 1) ≤ 2) ∧ (0 ≤ (Rdr.mk (Rdr.b r) (((((Rdr.p r) + 1) + 1) + 1) + 1)).p ∧ (Rdr.mk (Rdr.b r) (((((Rdr.p r) + 1) + 1) + 1) + 1)).p + 1000 * (deep - 1) ≤ 999999990000)) ∧ Int.toNat (deep - 1) < fuel)] ?_ ?_)
      ·
       refine ⟨?_, ?_, trivial⟩
       ·
        refine R64.of ?_
        omega
       ·
        dsimp only; omega
      exact AW.ret (AW.retE (β := Xpr × Rdr) (fun v => [⟨(.named 1), v.1⟩]) (fun v => [⟨(.named 2), v.2⟩]) (v := ((Xpr.mk 8 0 (Val.mk false 0) ([(((condition_r fuel) (Rdr.mk (Rdr.b r) (((((Rdr.p r) + 1) + 1) + 1) + 1)) width (deep - 1)).1), (Xpr.mk 6 0 (Val.mk false 0) ([(Xpr.mk 1 (pick (Rdr.b r) (Rdr.p r) width) (Val.mk false 0) ([] : List Xpr)), (Xpr.mk (Xpr.Kind (constant (Val.mk false (pick (Rdr.b r) ((Rdr.p r) + 1) 4)))) (Xpr.Col (constant (Val.mk false (pick (Rdr.b r) ((Rdr.p r) + 1) 4)))) (Xpr.V (constant (Val.mk false (pick (Rdr.b r) ((Rdr.p r) + 1) 4)))) (Xpr.Kids (constant (Val.mk false (pick (Rdr.b r) ((Rdr.p r) + 1) 4)))))] : List Xpr))] : List Xpr)), (((condition_r fuel) (Rdr.mk (Rdr.b r) (((((Rdr.p r) + 1) + 1) + 1) + 1)) width (deep - 1)).2))) e2108 (by kernel_rfl) rfl rfl)
     ·
      intro h2109
      have h2109q := (Go.Am.beq_neg h2109)
      have e2110 := e2051.trans (Go.Am.bif_f h2109)
      refine AW.seq (AW.seq (AW.r1 hC [6, 7, 8, 33, 59] [0, 24, 28, 32] ⟨[(6, .ref 24 1 0), (7, .ref 28 1 0), (8, .ref 32 1 0), (33, sI k1), (59, sB (k1 == 3))], [(0, .box 0 [sD9 (Rdr.b r), sI (((((Rdr.p r) + 1) + 1) + 1) + 1)]), (24, .box 1 [sI 0, sI 0, sB false, sI 0, .nilsl]), (28, .box 1 [sI 1, sI (pick (Rdr.b r) (Rdr.p r) width), sB false, sI 0, .nilsl]), (32, .box 1 [sI (Xpr.Kind (constant (Val.mk false (pick (Rdr.b r) ((Rdr.p r) + 1) 4)))), sI (Xpr.Col (constant (Val.mk false (pick (Rdr.b r) ((Rdr.p r) + 1) 4)))), sB (Val.Null (Xpr.V (constant (Val.mk false (pick (Rdr.b r) ((Rdr.p r) + 1) 4))))), sI (Val.N (Xpr.V (constant (Val.mk false (pick (Rdr.b r) ((Rdr.p r) + 1) 4))))), sD11 (Xpr.Kids (constant (Val.mk false (pick (Rdr.b r) ((Rdr.p r) + 1) 4))))])]⟩ ?_))
      refine AW.cutQ (α := Bool) (fun x => ⟨[(6, .ref 24 1 0), (7, .ref 28 1 0), (8, .ref 32 1 0), (33, sI k1), (59, sB x)], [(0, .box 0 [sD9 (Rdr.b r), sI (((((Rdr.p r) + 1) + 1) + 1) + 1)]), (24, .box 1 [sI 0, sI 0, sB false, sI 0, .nilsl]), (28, .box 1 [sI 1, sI (pick (Rdr.b r) (Rdr.p r) width), sB false, sI 0, .nilsl]), (32, .box 1 [sI (Xpr.Kind (constant (Val.mk false (pick (Rdr.b r) ((Rdr.p r) + 1) 4)))), sI (Xpr.Col (constant (Val.mk false (pick (Rdr.b r) ((Rdr.p r) + 1) 4)))), sB (Val.Null (Xpr.V (constant (Val.mk false (pick (Rdr.b r) ((Rdr.p r) + 1) 4))))), sI (Val.N (Xpr.V (constant (Val.mk false (pick (Rdr.b r) ((Rdr.p r) + 1) 4))))), sD11 (Xpr.Kids (constant (Val.mk false (pick (Rdr.b r) ((Rdr.p r) + 1) 4))))])]⟩) (fun x => (True) ∧ (condition_j1 k1) = x) ?_ ?_
      ·
       skip
       have e2119 : (condition_j1 k1) = (condition_j1 k1) := rfl
       refine AW.cd (k1 == 3) ?_ ?_
       ·
        intro h2120
        have h2120q := (Go.Am.beq_pos h2120)
        have e2121 := e2119.trans (Go.Am.bif_t h2120)
        refine AW.skip ?_
        refine AW.meet (k1 == 3) (by kernel_rfl) ⟨?_, e2121⟩
        show True
        exact trivial
       ·
        intro h2122
        have h2122q := (Go.Am.beq_neg h2122)
        have e2123 := e2119.trans (Go.Am.bif_f h2122)
        refine AW.r1 hC [6, 7, 8, 33, 59] [0, 24, 28, 32] ⟨[(6, .ref 24 1 0), (7, .ref 28 1 0), (8, .ref 32 1 0), (33, sI k1), (59, sB (k1 == 4))], [(0, .box 0 [sD9 (Rdr.b r), sI (((((Rdr.p r) + 1) + 1) + 1) + 1)]), (24, .box 1 [sI 0, sI 0, sB false, sI 0, .nilsl]), (28, .box 1 [sI 1, sI (pick (Rdr.b r) (Rdr.p r) width), sB false, sI 0, .nilsl]), (32, .box 1 [sI (Xpr.Kind (constant (Val.mk false (pick (Rdr.b r) ((Rdr.p r) + 1) 4)))), sI (Xpr.Col (constant (Val.mk false (pick (Rdr.b r) ((Rdr.p r) + 1) 4)))), sB (Val.Null (Xpr.V (constant (Val.mk false (pick (Rdr.b r) ((Rdr.p r) + 1) 4))))), sI (Val.N (Xpr.V (constant (Val.mk false (pick (Rdr.b r) ((Rdr.p r) + 1) 4))))), sD11 (Xpr.Kids (constant (Val.mk false (pick (Rdr.b r) ((Rdr.p r) + 1) 4))))])]⟩ ?_
        refine AW.meet (k1 == 4) (by kernel_rfl) ⟨?_, e2123⟩
        show True
        exact trivial
      ·
       intro v59 hR
       obtain ⟨hM1, e2124⟩ := hR
       replace hM1 : True := hM1
       have e2125 := e2110.trans (Go.Am.then_eq e2124)
       refine AW.cd v59 ?_ ?_
       ·
        intro h2142
        have h2142q : v59 = true := h2142
        have e2143 := e2125.trans (Go.Am.bif_t h2142)
        refine AW.seq (AW.r1 hC [6] [0, 24, 256] ⟨[(6, .ref 24 1 0)], [(0, .box 0 [sD9 (Rdr.b r), sI (((((Rdr.p r) + 1) + 1) + 1) + 1)]), (24, .box 1 [sI 7, sI 0, sB false, sI 0, .arr 256 1]), (256, .arr 1 (.named 1) (([(Xpr.mk (Xpr.Kind (constant (Val.mk false (pick (Rdr.b r) ((Rdr.p r) + 1) 4)))) (Xpr.Col (constant (Val.mk false (pick (Rdr.b r) ((Rdr.p r) + 1) 4)))) (Xpr.V (constant (Val.mk false (pick (Rdr.b r) ((Rdr.p r) + 1) 4)))) (Xpr.Kids (constant (Val.mk false (pick (Rdr.b r) ((Rdr.p r) + 1) 4))))), (Xpr.mk 1 (pick (Rdr.b r) (Rdr.p r) width) (Val.mk false 0) ([] : List Xpr))] : List Xpr) : List Xpr))]⟩ ?_)
        exact AW.ret (AW.retE (β := Xpr × Rdr) (fun v => [⟨(.named 1), v.1⟩]) (fun v => [⟨(.named 2), v.2⟩]) (v := ((Xpr.mk 7 0 (Val.mk false 0) ([(Xpr.mk (Xpr.Kind (constant (Val.mk false (pick (Rdr.b r) ((Rdr.p r) + 1) 4)))) (Xpr.Col (constant (Val.mk false (pick (Rdr.b r) ((Rdr.p r) + 1) 4)))) (Xpr.V (constant (Val.mk false (pick (Rdr.b r) ((Rdr.p r) + 1) 4)))) (Xpr.Kids (constant (Val.mk false (pick (Rdr.b r) ((Rdr.p r) + 1) 4))))), (Xpr.mk 1 (pick (Rdr.b r) (Rdr.p r) width) (Val.mk false 0) ([] : List Xpr))] : List Xpr)), (Rdr.mk (Rdr.b r) (((((Rdr.p r) + 1) + 1) + 1) + 1)))) e2143 (by kernel_rfl) rfl rfl)
       ·
        intro h2144
        have h2144q : v59 = false := h2144
        have e2145 := e2125.trans (Go.Am.bif_f h2144)
        refine AW.seq (AW.r1 hC [6, 7, 8, 66] [0, 24, 28, 32] ⟨[(6, .ref 24 1 0), (7, .ref 28 1 0), (8, .ref 32 1 0), (66, sB (k1 == 5))], [(0, .box 0 [sD9 (Rdr.b r), sI (((((Rdr.p r) + 1) + 1) + 1) + 1)]), (24, .box 1 [sI 0, sI 0, sB false, sI 0, .nilsl]), (28, .box 1 [sI 1, sI (pick (Rdr.b r) (Rdr.p r) width), sB false, sI 0, .nilsl]), (32, .box 1 [sI (Xpr.Kind (constant (Val.mk false (pick (Rdr.b r) ((Rdr.p r) + 1) 4)))), sI (Xpr.Col (constant (Val.mk false (pick (Rdr.b r) ((Rdr.p r) + 1) 4)))), sB (Val.Null (Xpr.V (constant (Val.mk false (pick (Rdr.b r) ((Rdr.p r) + 1) 4))))), sI (Val.N (Xpr.V (constant (Val.mk false (pick (Rdr.b r) ((Rdr.p r) + 1) 4))))), sD11 (Xpr.Kids (constant (Val.mk false (pick (Rdr.b r) ((Rdr.p r) + 1) 4))))])]⟩ ?_)
        refine AW.cd (k1 == 5) ?_ ?_
        ·
         intro h2151
         have h2151q := (Go.Am.beq_pos h2151)
         have e2152 := e2145.trans (Go.Am.bif_t h2151)
         refine AW.seq (AW.r1 hC [6] [0, 24, 280] ⟨[(6, .ref 24 1 0)], [(0, .box 0 [sD9 (Rdr.b r), sI (((((Rdr.p r) + 1) + 1) + 1) + 1)]), (24, .box 1 [sI 7, sI 0, sB false, sI 0, .arr 280 1]), (280, .arr 1 (.named 1) (([(Xpr.mk 1 (pick (Rdr.b r) (Rdr.p r) width) (Val.mk false 0) ([] : List Xpr)), (Xpr.mk (Xpr.Kind (constant (Val.mk false (pick (Rdr.b r) ((Rdr.p r) + 1) 4)))) (Xpr.Col (constant (Val.mk false (pick (Rdr.b r) ((Rdr.p r) + 1) 4)))) (Xpr.V (constant (Val.mk false (pick (Rdr.b r) ((Rdr.p r) + 1) 4)))) (Xpr.Kids (constant (Val.mk false (pick (Rdr.b r) ((Rdr.p r) + 1) 4)))))] : List Xpr) : List Xpr))]⟩ ?_)
         exact AW.ret (AW.retE (β := Xpr × Rdr) (fun v => [⟨(.named 1), v.1⟩]) (fun v => [⟨(.named 2), v.2⟩]) (v := ((Xpr.mk 7 0 (Val.mk false 0) ([(Xpr.mk 1 (pick (Rdr.b r) (Rdr.p r) width) (Val.mk false 0) ([] : List Xpr)), (Xpr.mk (Xpr.Kind (constant (Val.mk false (pick (Rdr.b r) ((Rdr.p r) + 1) 4)))) (Xpr.Col (constant (Val.mk false (pick (Rdr.b r) ((Rdr.p r) + 1) 4)))) (Xpr.V (constant (Val.mk false (pick (Rdr.b r) ((Rdr.p r) + 1) 4)))) (Xpr.Kids (constant (Val.mk false (pick (Rdr.b r) ((Rdr.p r) + 1) 4)))))] : List Xpr)), (Rdr.mk (Rdr.b r) (((((Rdr.p r) + 1) + 1) + 1) + 1)))) e2152 (by kernel_rfl) rfl rfl)
        ·
         intro h2153
         have h2153q := (Go.Am.beq_neg h2153)
         have e2154 := e2145.trans (Go.Am.bif_f h2153)
         refine AW.kp [6, 7, 8] [0, 24, 28, 32] ⟨[(6, .ref 24 1 0), (7, .ref 28 1 0), (8, .ref 32 1 0)], [(0, .box 0 [sD9 (Rdr.b r), sI (((((Rdr.p r) + 1) + 1) + 1) + 1)]), (24, .box 1 [sI 0, sI 0, sB false, sI 0, .nilsl]), (28, .box 1 [sI 1, sI (pick (Rdr.b r) (Rdr.p r) width), sB false, sI 0, .nilsl]), (32, .box 1 [sI (Xpr.Kind (constant (Val.mk false (pick (Rdr.b r) ((Rdr.p r) + 1) 4)))), sI (Xpr.Col (constant (Val.mk false (pick (Rdr.b r) ((Rdr.p r) + 1) 4)))), sB (Val.Null (Xpr.V (constant (Val.mk false (pick (Rdr.b r) ((Rdr.p r) + 1) 4))))), sI (Val.N (Xpr.V (constant (Val.mk false (pick (Rdr.b r) ((Rdr.p r) + 1) 4))))), sD11 (Xpr.Kids (constant (Val.mk false (pick (Rdr.b r) ((Rdr.p r) + 1) 4))))])]⟩ ?_
         refine AW.skip (AW.seq (AW.r1 hC [6] [0, 24, 296] ⟨[(6, .ref 24 1 0)], [(0, .box 0 [sD9 (Rdr.b r), sI (((((Rdr.p r) + 1) + 1) + 1) + 1)]), (24, .box 1 [sI 6, sI 0, sB false, sI 0, .arr 296 1]), (296, .arr 1 (.named 1) (([(Xpr.mk 1 (pick (Rdr.b r) (Rdr.p r) width) (Val.mk false 0) ([] : List Xpr)), (Xpr.mk (Xpr.Kind (constant (Val.mk false (pick (Rdr.b r) ((Rdr.p r) + 1) 4)))) (Xpr.Col (constant (Val.mk false (pick (Rdr.b r) ((Rdr.p r) + 1) 4)))) (Xpr.V (constant (Val.mk false (pick (Rdr.b r) ((Rdr.p r) + 1) 4)))) (Xpr.Kids (constant (Val.mk false (pick (Rdr.b r) ((Rdr.p r) + 1) 4)))))] : List Xpr) : List Xpr))]⟩ ?_))
         exact AW.ret (AW.retE (β := Xpr × Rdr) (fun v => [⟨(.named 1), v.1⟩]) (fun v => [⟨(.named 2), v.2⟩]) (v := ((Xpr.mk 6 0 (Val.mk false 0) ([(Xpr.mk 1 (pick (Rdr.b r) (Rdr.p r) width) (Val.mk false 0) ([] : List Xpr)), (Xpr.mk (Xpr.Kind (constant (Val.mk false (pick (Rdr.b r) ((Rdr.p r) + 1) 4)))) (Xpr.Col (constant (Val.mk false (pick (Rdr.b r) ((Rdr.p r) + 1) 4)))) (Xpr.V (constant (Val.mk false (pick (Rdr.b r) ((Rdr.p r) + 1) 4)))) (Xpr.Kids (constant (Val.mk false (pick (Rdr.b r) ((Rdr.p r) + 1) 4)))))] : List Xpr)), (Rdr.mk (Rdr.b r) (((((Rdr.p r) + 1) + 1) + 1) + 1)))) e2154 (by kernel_rfl) rfl rfl)

theorem condition_fu : AllTV (condition_sp.ps.map PK.ty) (fun tvs => condition_sp.pre tvs → ∃ k, (condition_spn k).pre tvs ∧ (condition_spn k).fn tvs = condition_sp.fn tvs ∧ (condition_spn k).bx tvs = condition_sp.bx tvs) :=
 (fun (r : Rdr) (width : Int) (deep : Int) h => ⟨Int.toNat deep + 1, (show ((0 ≤ deep ∧ deep ≤ 2) ∧ (0 ≤ r.p ∧ r.p + 1000 * deep ≤ 999999990000)) ∧ Int.toNat deep < Int.toNat deep + 1 from ⟨h, Nat.lt_succ_self _⟩), (show (condition_spn (Int.toNat deep + 1)).fn [⟨(.named 2), (r : Rdr)⟩, ⟨(.int .i64), (width : Int)⟩, ⟨(.int .i64), (deep : Int)⟩] = ([⟨(.named 1), ((condition_r (Int.toNat deep + 1) r width deep).1)⟩] : List TV) from by kernel_rfl).trans (show ([⟨(.named 1), ((condition_r (Int.toNat deep + 1) r width deep).1)⟩] : List TV) = condition_sp.fn [⟨(.named 2), (r : Rdr)⟩, ⟨(.int .i64), (width : Int)⟩, ⟨(.int .i64), (deep : Int)⟩] from by kernel_rfl), (show (condition_spn (Int.toNat deep + 1)).bx _ = ([⟨(.named 2), ((condition_r (Int.toNat deep + 1) r width deep).2)⟩] : List TV) from by kernel_rfl).trans (by kernel_rfl)⟩)

theorem condition_ok : FnOK Try.prog 46 condition_sp := FnOK.of_fuel condition_okn (fun _ => rfl) (fun _ => rfl) (AllTV.get condition_fu)

def CB {α : Type} (r : Rdr) (hi : Int) (x : α × Rdr) : Prop := r.p ≤ x.2.p ∧ x.2.p ≤ hi

theorem CB.bif {α : Type} {r : Rdr} {hi : Int} {c : Bool} {x y : α × Rdr} (h1 : c = true → CB r hi x) (h2 : c = false → CB r hi y) : CB r hi (bif c then x else y) := by
 cases c with
 | true => exact h1 rfl
 | false => exact h2 rfl

theorem CB.mk {α : Type} {r : Rdr} {hi : Int} {a : α} {b : Rdr} (h : r.p ≤ b.p ∧ b.p ≤ hi) : CB r hi (a, b) := h

theorem CB.rx {r : Rdr} {hi : Int} {a : Xpr} {b : List Int} {p width : Int} (h : r.p ≤ p ∧ p + 121 ≤ hi) : CB r hi (a, (randomExpr (Rdr.mk b p) width 2).2) := by
 have h1 := randomExpr_q (Rdr.mk b p) width (d := 2) (by decide)
 dsimp only at h1
 exact ⟨Int.le_trans h.1 h1.1, Int.le_trans h1.2 h.2⟩

theorem condition_j0_ne {r : Rdr} : condition_j0 r 0 ≠ 2 := by
 unfold condition_j0
 cases h : (pick (Rdr.b r) (((((Rdr.p r) + 1) + 1) + 1) + 1) 8) == 2 with
 | true => simp
 | false => simpa using h

theorem condition_j0a_ne {r : Rdr} : condition_j0a r 0 ≠ 2 := by
 unfold condition_j0a
 cases h : (pick (Rdr.b r) ((((Rdr.p r) + 1) + 1) + 1) 8) == 2 with
 | true => simp
 | false => simpa using h

theorem condition_p : ∀ (n f : Nat) (r : Rdr) (width : Int), n < f → CB r (r.p + 130 * ((n : Int) + 1)) (condition_r f r width (n : Int)) := by
 intro n
 induction n with
 | zero =>
  intro f r width h
  obtain ⟨f, rfl⟩ : ∃ g, f = g + 1 := ⟨f - 1, by omega⟩
  unfold condition_r
  simp only [Go.Am.andThen, Int.natCast_zero]
  refine CB.bif (fun _ => ?_) (fun _ => ?_)
  ·
   have hk := condition_j0_ne (r := r)
   generalize condition_j0 r 0 = k1 at hk ⊢
   refine CB.bif (fun _ => CB.rx (by omega)) (fun _ => CB.bif (fun _ => CB.mk (by dsimp only; omega)) (fun _ => CB.bif (fun h => absurd (beq_iff_eq.1 h) hk) (fun _ => CB.bif (fun _ => CB.mk (by dsimp only; omega)) (fun _ => CB.bif (fun _ => CB.mk (by dsimp only; omega)) (fun _ => CB.mk (by dsimp only; omega))))))
  ·
   have hk := condition_j0a_ne (r := r)
   generalize condition_j0a r 0 = k1 at hk ⊢
   refine CB.bif (fun _ => CB.rx (by omega)) (fun _ => CB.bif (fun _ => CB.mk (by dsimp only; omega)) (fun _ => CB.bif (fun h => absurd (beq_iff_eq.1 h) hk) (fun _ => CB.bif (fun _ => CB.mk (by dsimp only; omega)) (fun _ => CB.bif (fun _ => CB.mk (by dsimp only; omega)) (fun _ => CB.mk (by dsimp only; omega))))))
 | succ n ih =>
  intro f r width h
  obtain ⟨f, rfl⟩ : ∃ g, f = g + 1 := ⟨f - 1, by omega⟩
  have rec_ : ∀ (a : Xpr) (b : List Int) (p : Int), r.p ≤ p ∧ p ≤ r.p + 5 → CB r (r.p + 130 * (((n + 1 : Nat) : Int) + 1)) (a, (condition_r f (Rdr.mk b p) width (((n + 1 : Nat) : Int) - 1)).2) := by
   intro a b p hp
   rw [show ((n + 1 : Nat) : Int) - 1 = (n : Int) by omega]
   have h1 := ih f (Rdr.mk b p) width (by omega)
   have h2 : p ≤ _ := h1.1
   have h3 : _ ≤ p + 130 * ((n : Int) + 1) := h1.2
   exact ⟨Int.le_trans hp.1 h2, by dsimp only; omega⟩
  unfold condition_r
  simp only [Go.Am.andThen]
  refine CB.bif (fun _ => ?_) (fun _ => ?_)
  ·
   generalize condition_j0 r ((n + 1 : Nat) : Int) = k1
   refine CB.bif (fun _ => CB.rx (by omega)) (fun _ => CB.bif (fun _ => CB.mk (by dsimp only; omega)) (fun _ => CB.bif (fun h => rec_ _ _ _ (by omega)) (fun _ => CB.bif (fun _ => CB.mk (by dsimp only; omega)) (fun _ => CB.bif (fun _ => CB.mk (by dsimp only; omega)) (fun _ => CB.mk (by dsimp only; omega))))))
  ·
   generalize condition_j0a r ((n + 1 : Nat) : Int) = k1
   refine CB.bif (fun _ => CB.rx (by omega)) (fun _ => CB.bif (fun _ => CB.mk (by dsimp only; omega)) (fun _ => CB.bif (fun h => rec_ _ _ _ (by omega)) (fun _ => CB.bif (fun _ => CB.mk (by dsimp only; omega)) (fun _ => CB.bif (fun _ => CB.mk (by dsimp only; omega)) (fun _ => CB.mk (by dsimp only; omega))))))

def randomCondition (r : Rdr) (width : Int) : Xpr × Rdr := ((Xpr.mk (Xpr.Kind ((condition r width 2).1)) (Xpr.Col ((condition r width 2).1)) (Xpr.V ((condition r width 2).1)) (Xpr.Kids ((condition r width 2).1))), ((condition r width 2).2))

def randomCondition_sp : FnSpec := mkSpecB [.box 2, .val (.int .i64)] [.val (.named 1)] (fun (r : Rdr) (width : Int) => 0 ≤ r.p ∧ r.p ≤ 999999980000) (fun (r : Rdr) (width : Int) => [⟨(.named 1), ((randomCondition r width).1)⟩]) (fun (r : Rdr) (width : Int) => [⟨(.named 2), ((randomCondition r width).2)⟩])

theorem randomCondition_ok : FnOK Try.prog 32 randomCondition_sp := by
 have hC : CtxOK Try.prog (mkCtx tyL [(46, condition_sp)]) := CtxOK.cons condition_ok (CtxOK.nil tyOK)
 refine FnOK.of_body Try.func32 (by kernel_rfl) rfl (C := (mkCtx tyL [(46, condition_sp)])) hC.ty (by kernel_rfl) ?_
 intro (r : Rdr) (width : Int) hwf hpre E
 have hpre : 0 ≤ r.p ∧ r.p ≤ 999999980000 := hpre
 have hw_r : Wf ⟨(.named 2), (r : Rdr)⟩ := hwf _ (List.Mem.head _)
 obtain ⟨hl_r_b, hr_r_p⟩ := Rdr.wfl hw_r
 have hw_width : Wf ⟨(.int .i64), (width : Int)⟩ := hwf _ (List.Mem.tail _ (List.Mem.head _))
 have hr_width : -9223372036854775808 ≤ width ∧ width ≤ 9223372036854775807 := hw_width.int_inv
 have e0 : randomCondition r width = randomCondition r width := rfl
 refine AW.seq (AW.r1 hC [0, 1, 4] [0, 16] ⟨[(0, .ref 0 0 0), (1, sI width), (4, .ref 16 1 0)], [(0, .box 0 [sD9 (Rdr.b r), sI (Rdr.p r)]), (16, .box 1 [sI 0, sI 0, sB false, sI 0, .nilsl])]⟩ ?_)
 refine AW.seq (AW.r0 hC [4] [0, 16] ⟨[(4, .ref 16 1 0)], [(0, .box 0 [sD9 (Rdr.b ((condition r width 2).2)), sI (Rdr.p ((condition r width 2).2))]), (16, .box 1 [sI (Xpr.Kind ((condition r width 2).1)), sI (Xpr.Col ((condition r width 2).1)), sB (Val.Null (Xpr.V ((condition r width 2).1))), sI (Val.N (Xpr.V ((condition r width 2).1))), sD11 (Xpr.Kids ((condition r width 2).1))])]⟩ [((0 ≤ (2 : Int) ∧ (2 : Int) ≤ 2) ∧ (0 ≤ r.p ∧ r.p + 1000 * (2 : Int) ≤ 999999990000))] ?_ ?_)
 ·
  refine ⟨?_, trivial⟩
  ·
   omega
 exact AW.ret (AW.retE (β := Xpr × Rdr) (fun v => [⟨(.named 1), v.1⟩]) (fun v => [⟨(.named 2), v.2⟩]) (v := ((Xpr.mk (Xpr.Kind ((condition r width 2).1)) (Xpr.Col ((condition r width 2).1)) (Xpr.V ((condition r width 2).1)) (Xpr.Kids ((condition r width 2).1))), ((condition r width 2).2))) e0 (by kernel_rfl) rfl rfl)

theorem randomCondition_p (r : Rdr) (width : Int) : CB r (r.p + 390) (randomCondition r width) := by
 unfold randomCondition
 have := condition_p 2 3 r width (by decide)
 unfold condition
 exact this

end
end Go.Proofs.Ytbgbekpbbcahpaa
