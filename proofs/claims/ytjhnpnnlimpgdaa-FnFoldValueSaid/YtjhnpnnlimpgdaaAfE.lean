/-
  A part of the proof of this claim (AfE): what functions of the program compute, and plain facts of that. No conditions.
-/
import Derived.Test.YtjhnpnnlimpgdaaAfD
set_option linter.all false
namespace Go.Proofs.Ytjhnpnnlimpgdaa
open Go Go.Am
noncomputable section

theorem randomExpr_q (r : Rdr) (width : Int) {d : Int} (h : 0 ≤ d ∧ d ≤ 3) : r.p ≤ (randomExpr r width d).2.p ∧ (randomExpr r width d).2.p ≤ r.p + 121 := by
 have := randomExpr_p' (d.toNat + 1) r width (d := d) h.1 (by omega)
 have h2 : pw d.toNat ≤ 121 := by
  have hp : pw 3 = 121 := by decide
  by_cases h3 : d = 3
  ·
   subst h3; exact Int.le_of_eq hp
  ·
   have := pw_le (n := d.toNat) (by omega); omega
 unfold randomExpr
 omega

def CB {α : Type} (r : Rdr) (hi : Int) (x : α × Rdr) : Prop := r.p ≤ x.2.p ∧ x.2.p ≤ hi

theorem CB.bif {α : Type} {r : Rdr} {hi : Int} {c : Bool} {x y : α × Rdr} (h1 : c = true → CB r hi x) (h2 : c = false → CB r hi y) : CB r hi (bif c then x else y) := by
 cases c with
 | true => exact h1 rfl
 | false => exact h2 rfl

theorem CB.mk {α : Type} {r : Rdr} {hi : Int} {a : α} {b : Rdr} (h : r.p ≤ b.p ∧ b.p ≤ hi) : CB r hi (a, b) := h

theorem CB.rx {r : Rdr} {hi : Int} {a : Xpr} {b : List Int} {p width : Int} (h : r.p ≤ p ∧ p + 121 ≤ hi) : CB r hi (a, (randomExpr (Rdr.mk b p) width 2).2) := by
 have h1 := randomExpr_q (Rdr.mk b p) width (d := 2) (by decide)
 dsimp only at h1
 exact ⟨Int.le_trans h.1 h1.1, Int.le_trans h1.2 h.2⟩


def anyValue (r : Rdr) : Val × Rdr := (bif ((pick (Rdr.b ((randomValue r).2)) (Rdr.p ((randomValue r).2)) 14) == 0) then ((Val.mk true 1), (Rdr.mk (Rdr.b ((randomValue r).2)) ((Rdr.p ((randomValue r).2)) + 1))) else (bif ((pick (Rdr.b ((randomValue r).2)) (Rdr.p ((randomValue r).2)) 14) == 1) then ((Val.mk false (one (Rdr.b ((randomValue r).2)) ((Rdr.p ((randomValue r).2)) + 1) ([10000, (-10000), 9999, (-9999)] : List Int))), (Rdr.mk (Rdr.b ((randomValue r).2)) (((Rdr.p ((randomValue r).2)) + 1) + 1))) else (((randomValue r).1), (Rdr.mk (Rdr.b ((randomValue r).2)) ((Rdr.p ((randomValue r).2)) + 1)))))

def anyValue_sp : FnSpec := mkSpecB [.box 2] [.val (.named 0)] (fun (r : Rdr) => 0 ≤ r.p ∧ r.p ≤ 999999990000) (fun (r : Rdr) => [⟨(.named 0), ((anyValue r).1)⟩]) (fun (r : Rdr) => [⟨(.named 2), ((anyValue r).2)⟩])

theorem anyValue_ok : FnOK Try.prog 30 anyValue_sp := by
 have hC : CtxOK Try.prog (mkCtx tyL [(15, pickS), (16, oneS), (18, randomValue_sp)]) := CtxOK.cons pickS_ok (CtxOK.cons oneS_ok (CtxOK.cons randomValue_ok (CtxOK.nil tyOK)))
 refine FnOK.of_body Try.func30 (by kernel_rfl) rfl (C := (mkCtx tyL [(15, pickS), (16, oneS), (18, randomValue_sp)])) hC.ty (by kernel_rfl) ?_
 intro (r : Rdr) hwf hpre E
 have hpre : 0 ≤ r.p ∧ r.p ≤ 999999990000 := hpre
 have hw_r : Wf ⟨(.named 2), (r : Rdr)⟩ := hwf _ (List.Mem.head _)
 obtain ⟨hl_r_b, hr_r_p⟩ := Rdr.wfl hw_r
 have e0 : anyValue r = anyValue r := rfl
 refine AW.seq (AW.r1 hC [0, 2] [0, 8] ⟨[(0, .ref 0 0 0), (2, .ref 8 1 0)], [(0, .box 0 [sD7 (Rdr.b r), sI (Rdr.p r)]), (8, .box 1 [sB false, sI 0])]⟩ ?_)
 refine AW.seq (AW.r0 hC [0, 2, 3] [0, 8, 12] ⟨[(0, .ref 0 0 0), (2, .ref 8 1 0), (3, .ref 12 1 0)], [(0, .box 0 [sD7 (Rdr.b ((randomValue r).2)), sI (Rdr.p ((randomValue r).2))]), (8, .box 1 [sB false, sI 0]), (12, .box 1 [sB (Val.Null ((randomValue r).1)), sI (Val.N ((randomValue r).1))])]⟩ [(0 ≤ r.p ∧ r.p ≤ 1000000000000)] ?_ ?_)
 ·
  refine ⟨?_, trivial⟩
  ·
   have hq := randomValue_p r
   omega
 refine AW.seq (AW.seq (AW.r0 hC [0, 2, 3, 7] [0, 8, 12] ⟨[(0, .ref 0 0 0), (2, .ref 8 1 0), (3, .ref 12 1 0), (7, sI (pick (Rdr.b ((randomValue r).2)) (Rdr.p ((randomValue r).2)) 14))], [(0, .box 0 [sD7 (Rdr.b ((randomValue r).2)), sI ((Rdr.p ((randomValue r).2)) + 1)]), (8, .box 1 [sB false, sI 0]), (12, .box 1 [sB (Val.Null ((randomValue r).1)), sI (Val.N ((randomValue r).1))])]⟩ [(0 ≤ ((randomValue r).2).p ∧ ((randomValue r).2).p ≤ 1099511627776)] ?_ ?_))
 ·
  refine ⟨?_, trivial⟩
  ·
   have hq := randomValue_p r
   omega
 refine AW.block (AW.seq (AW.r1 hC [0, 2, 3, 7, 8] [0, 8, 12] ⟨[(0, .ref 0 0 0), (2, .ref 8 1 0), (3, .ref 12 1 0), (7, sI (pick (Rdr.b ((randomValue r).2)) (Rdr.p ((randomValue r).2)) 14)), (8, sB ((pick (Rdr.b ((randomValue r).2)) (Rdr.p ((randomValue r).2)) 14) == 0))], [(0, .box 0 [sD7 (Rdr.b ((randomValue r).2)), sI ((Rdr.p ((randomValue r).2)) + 1)]), (8, .box 1 [sB false, sI 0]), (12, .box 1 [sB (Val.Null ((randomValue r).1)), sI (Val.N ((randomValue r).1))])]⟩ ?_))
 refine AW.cd ((pick (Rdr.b ((randomValue r).2)) (Rdr.p ((randomValue r).2)) 14) == 0) ?_ ?_
 ·
  intro h1
  have h1q := (Go.Am.beq_pos h1)
  have e2 := e0.trans (Go.Am.bif_t h1)
  refine AW.seq (AW.r1 hC [2] [0, 8] ⟨[(2, .ref 8 1 0)], [(0, .box 0 [sD7 (Rdr.b ((randomValue r).2)), sI ((Rdr.p ((randomValue r).2)) + 1)]), (8, .box 1 [sB true, sI 1])]⟩ ?_)
  exact AW.ret (AW.retE (β := Val × Rdr) (fun v => [⟨(.named 0), v.1⟩]) (fun v => [⟨(.named 2), v.2⟩]) (v := ((Val.mk true 1), (Rdr.mk (Rdr.b ((randomValue r).2)) ((Rdr.p ((randomValue r).2)) + 1)))) e2 (by kernel_rfl) rfl rfl)
 ·
  intro h3
  have h3q := (Go.Am.beq_neg h3)
  have e4 := e0.trans (Go.Am.bif_f h3)
  refine AW.seq (AW.r1 hC [0, 2, 3, 11] [0, 8, 12] ⟨[(0, .ref 0 0 0), (2, .ref 8 1 0), (3, .ref 12 1 0), (11, sB ((pick (Rdr.b ((randomValue r).2)) (Rdr.p ((randomValue r).2)) 14) == 1))], [(0, .box 0 [sD7 (Rdr.b ((randomValue r).2)), sI ((Rdr.p ((randomValue r).2)) + 1)]), (8, .box 1 [sB false, sI 0]), (12, .box 1 [sB (Val.Null ((randomValue r).1)), sI (Val.N ((randomValue r).1))])]⟩ ?_)
  refine AW.cd ((pick (Rdr.b ((randomValue r).2)) (Rdr.p ((randomValue r).2)) 14) == 1) ?_ ?_
  ·
   intro h5
   have h5q := (Go.Am.beq_pos h5)
   have e6 := e4.trans (Go.Am.bif_t h5)
   refine AW.seq (AW.r0 hC [2] [0, 8] ⟨[(2, .ref 8 1 0)], [(0, .box 0 [sD7 (Rdr.b ((randomValue r).2)), sI (((Rdr.p ((randomValue r).2)) + 1) + 1)]), (8, .box 1 [sB false, sI (one (Rdr.b ((randomValue r).2)) ((Rdr.p ((randomValue r).2)) + 1) ([10000, (-10000), 9999, (-9999)] : List Int))])]⟩ [((0 ≤ (Rdr.mk (Rdr.b ((randomValue r).2)) ((Rdr.p ((randomValue r).2)) + 1)).p ∧ (Rdr.mk (Rdr.b ((randomValue r).2)) ((Rdr.p ((randomValue r).2)) + 1)).p ≤ 1099511627775) ∧ 1 ≤ (List.length ([10000, (-10000), 9999, (-9999)] : List Int) : Int))] ?_ ?_)
   ·
    refine ⟨?_, trivial⟩
    ·
     have hq := randomValue_p r
     refine ⟨?_, ?_⟩ <;> first | omega | decide | (dsimp only; omega)
   exact AW.ret (AW.retE (β := Val × Rdr) (fun v => [⟨(.named 0), v.1⟩]) (fun v => [⟨(.named 2), v.2⟩]) (v := ((Val.mk false (one (Rdr.b ((randomValue r).2)) ((Rdr.p ((randomValue r).2)) + 1) ([10000, (-10000), 9999, (-9999)] : List Int))), (Rdr.mk (Rdr.b ((randomValue r).2)) (((Rdr.p ((randomValue r).2)) + 1) + 1)))) e6 (by kernel_rfl) rfl rfl)
  ·
   intro h7
   have h7q := (Go.Am.beq_neg h7)
   have e8 := e4.trans (Go.Am.bif_f h7)
   refine AW.kp [2, 3] [0, 8, 12] ⟨[(2, .ref 8 1 0), (3, .ref 12 1 0)], [(0, .box 0 [sD7 (Rdr.b ((randomValue r).2)), sI ((Rdr.p ((randomValue r).2)) + 1)]), (8, .box 1 [sB false, sI 0]), (12, .box 1 [sB (Val.Null ((randomValue r).1)), sI (Val.N ((randomValue r).1))])]⟩ ?_
   refine AW.skip (AW.seq (AW.r1 hC [2] [0, 8] ⟨[(2, .ref 8 1 0)], [(0, .box 0 [sD7 (Rdr.b ((randomValue r).2)), sI ((Rdr.p ((randomValue r).2)) + 1)]), (8, .box 1 [sB (Val.Null ((randomValue r).1)), sI (Val.N ((randomValue r).1))])]⟩ ?_))
   exact AW.ret (AW.retE (β := Val × Rdr) (fun v => [⟨(.named 0), v.1⟩]) (fun v => [⟨(.named 2), v.2⟩]) (v := (((randomValue r).1), (Rdr.mk (Rdr.b ((randomValue r).2)) ((Rdr.p ((randomValue r).2)) + 1)))) e8 (by kernel_rfl) rfl rfl)

theorem anyValue_p (r : Rdr) : CB r (r.p + 4) (anyValue r) := by
 have := randomValue_p r
 unfold anyValue
 exact CB.bif (fun _ => CB.mk (by dsimp only; omega)) (fun _ => CB.bif (fun _ => CB.mk (by dsimp only; omega)) (fun _ => CB.mk (by dsimp only; omega)))

def anyExpr (r : Rdr) (width : Int) : Xpr × Rdr := (bif ((pick (Rdr.b ((randomExpr r width 3).2)) (Rdr.p ((randomExpr r width 3).2)) 18) == 0) then ((Xpr.mk (one (Rdr.b ((randomExpr r width 3).2)) ((Rdr.p ((randomExpr r width 3).2)) + 1) ([0, 12, 3, 10] : List Int)) (Xpr.Col ((randomExpr r width 3).1)) (Xpr.V ((randomExpr r width 3).1)) (Xpr.Kids ((randomExpr r width 3).1))), (Rdr.mk (Rdr.b ((randomExpr r width 3).2)) (((Rdr.p ((randomExpr r width 3).2)) + 1) + 1))) else (bif ((pick (Rdr.b ((randomExpr r width 3).2)) (Rdr.p ((randomExpr r width 3).2)) 18) == 1) then ((Xpr.mk (Xpr.Kind ((randomExpr r width 3).1)) (one (Rdr.b ((randomExpr r width 3).2)) ((Rdr.p ((randomExpr r width 3).2)) + 1) ([(-1), 6, width] : List Int)) (Xpr.V ((randomExpr r width 3).1)) (Xpr.Kids ((randomExpr r width 3).1))), (Rdr.mk (Rdr.b ((randomExpr r width 3).2)) (((Rdr.p ((randomExpr r width 3).2)) + 1) + 1))) else (bif ((pick (Rdr.b ((randomExpr r width 3).2)) (Rdr.p ((randomExpr r width 3).2)) 18) == 2) then ((Xpr.mk (Xpr.Kind ((randomExpr r width 3).1)) (Xpr.Col ((randomExpr r width 3).1)) ((anyValue (Rdr.mk (Rdr.b ((randomExpr r width 3).2)) ((Rdr.p ((randomExpr r width 3).2)) + 1))).1) (Xpr.Kids ((randomExpr r width 3).1))), ((anyValue (Rdr.mk (Rdr.b ((randomExpr r width 3).2)) ((Rdr.p ((randomExpr r width 3).2)) + 1))).2)) else ((Xpr.mk (Xpr.Kind ((randomExpr r width 3).1)) (Xpr.Col ((randomExpr r width 3).1)) (Xpr.V ((randomExpr r width 3).1)) (Xpr.Kids ((randomExpr r width 3).1))), (Rdr.mk (Rdr.b ((randomExpr r width 3).2)) ((Rdr.p ((randomExpr r width 3).2)) + 1))))))

def anyExpr_sp : FnSpec := mkSpecB [.box 2, .val (.int .i64)] [.val (.named 1)] (fun (r : Rdr) (width : Int) => 0 ≤ r.p ∧ r.p ≤ 999999980000) (fun (r : Rdr) (width : Int) => [⟨(.named 1), ((anyExpr r width).1)⟩]) (fun (r : Rdr) (width : Int) => [⟨(.named 2), ((anyExpr r width).2)⟩])

theorem anyExpr_ok : FnOK Try.prog 14 anyExpr_sp := by
 have hC : CtxOK Try.prog (mkCtx tyL [(15, pickS), (16, oneS), (29, randomExpr_sp), (30, anyValue_sp)]) := CtxOK.cons pickS_ok (CtxOK.cons oneS_ok (CtxOK.cons randomExpr_ok (CtxOK.cons anyValue_ok (CtxOK.nil tyOK))))
 refine FnOK.of_body Try.func14 (by kernel_rfl) rfl (C := (mkCtx tyL [(15, pickS), (16, oneS), (29, randomExpr_sp), (30, anyValue_sp)])) hC.ty (by kernel_rfl) ?_
 intro (r : Rdr) (width : Int) hwf hpre E
 have hpre : 0 ≤ r.p ∧ r.p ≤ 999999980000 := hpre
 have hw_r : Wf ⟨(.named 2), (r : Rdr)⟩ := hwf _ (List.Mem.head _)
 obtain ⟨hl_r_b, hr_r_p⟩ := Rdr.wfl hw_r
 have hw_width : Wf ⟨(.int .i64), (width : Int)⟩ := hwf _ (List.Mem.tail _ (List.Mem.head _))
 have hr_width : -9223372036854775808 ≤ width ∧ width ≤ 9223372036854775807 := hw_width.int_inv
 have e0 : anyExpr r width = anyExpr r width := rfl
 refine AW.seq (AW.r1 hC [0, 1, 4] [0, 16] ⟨[(0, .ref 0 0 0), (1, sI width), (4, .ref 16 1 0)], [(0, .box 0 [sD7 (Rdr.b r), sI (Rdr.p r)]), (16, .box 1 [sI 0, sI 0, sB false, sI 0, .nilsl])]⟩ ?_)
 refine AW.seq (AW.r0 hC [0, 1, 4, 5] [0, 16, 20] ⟨[(0, .ref 0 0 0), (1, sI width), (4, .ref 16 1 0), (5, .ref 20 1 0)], [(0, .box 0 [sD7 (Rdr.b ((randomExpr r width 3).2)), sI (Rdr.p ((randomExpr r width 3).2))]), (16, .box 1 [sI 0, sI 0, sB false, sI 0, .nilsl]), (20, .box 1 [sI (Xpr.Kind ((randomExpr r width 3).1)), sI (Xpr.Col ((randomExpr r width 3).1)), sB (Val.Null (Xpr.V ((randomExpr r width 3).1))), sI (Val.N (Xpr.V ((randomExpr r width 3).1))), sD9 (Xpr.Kids ((randomExpr r width 3).1))])]⟩ [((0 ≤ (3 : Int) ∧ (3 : Int) ≤ 3) ∧ (0 ≤ r.p ∧ r.p + 1000 * (3 : Int) ≤ 999999999000))] ?_ ?_)
 ·
  refine ⟨?_, trivial⟩
  ·
   have hq := randomExpr_q r width (d := 3) (by decide)
   omega
 refine AW.seq (AW.seq (AW.r0 hC [0, 1, 4, 5, 10] [0, 16, 20] ⟨[(0, .ref 0 0 0), (1, sI width), (4, .ref 16 1 0), (5, .ref 20 1 0), (10, sI (pick (Rdr.b ((randomExpr r width 3).2)) (Rdr.p ((randomExpr r width 3).2)) 18))], [(0, .box 0 [sD7 (Rdr.b ((randomExpr r width 3).2)), sI ((Rdr.p ((randomExpr r width 3).2)) + 1)]), (16, .box 1 [sI 0, sI 0, sB false, sI 0, .nilsl]), (20, .box 1 [sI (Xpr.Kind ((randomExpr r width 3).1)), sI (Xpr.Col ((randomExpr r width 3).1)), sB (Val.Null (Xpr.V ((randomExpr r width 3).1))), sI (Val.N (Xpr.V ((randomExpr r width 3).1))), sD9 (Xpr.Kids ((randomExpr r width 3).1))])]⟩ [(0 ≤ ((randomExpr r width 3).2).p ∧ ((randomExpr r width 3).2).p ≤ 1099511627776)] ?_ ?_))
 ·
  refine ⟨?_, trivial⟩
  ·
   have hq := randomExpr_q r width (d := 3) (by decide)
   omega
 refine AW.block (AW.seq (AW.r1 hC [0, 1, 4, 5, 10, 11] [0, 16, 20] ⟨[(0, .ref 0 0 0), (1, sI width), (4, .ref 16 1 0), (5, .ref 20 1 0), (10, sI (pick (Rdr.b ((randomExpr r width 3).2)) (Rdr.p ((randomExpr r width 3).2)) 18)), (11, sB ((pick (Rdr.b ((randomExpr r width 3).2)) (Rdr.p ((randomExpr r width 3).2)) 18) == 0))], [(0, .box 0 [sD7 (Rdr.b ((randomExpr r width 3).2)), sI ((Rdr.p ((randomExpr r width 3).2)) + 1)]), (16, .box 1 [sI 0, sI 0, sB false, sI 0, .nilsl]), (20, .box 1 [sI (Xpr.Kind ((randomExpr r width 3).1)), sI (Xpr.Col ((randomExpr r width 3).1)), sB (Val.Null (Xpr.V ((randomExpr r width 3).1))), sI (Val.N (Xpr.V ((randomExpr r width 3).1))), sD9 (Xpr.Kids ((randomExpr r width 3).1))])]⟩ ?_))
 refine AW.cd ((pick (Rdr.b ((randomExpr r width 3).2)) (Rdr.p ((randomExpr r width 3).2)) 18) == 0) ?_ ?_
 ·
  intro h1
  have h1q := (Go.Am.beq_pos h1)
  have e2 := e0.trans (Go.Am.bif_t h1)
  refine AW.r0 hC [4, 5] [0, 16, 20] ⟨[(4, .ref 16 1 0), (5, .ref 20 1 0)], [(0, .box 0 [sD7 (Rdr.b ((randomExpr r width 3).2)), sI (((Rdr.p ((randomExpr r width 3).2)) + 1) + 1)]), (16, .box 1 [sI 0, sI 0, sB false, sI 0, .nilsl]), (20, .box 1 [sI (one (Rdr.b ((randomExpr r width 3).2)) ((Rdr.p ((randomExpr r width 3).2)) + 1) ([0, 12, 3, 10] : List Int)), sI (Xpr.Col ((randomExpr r width 3).1)), sB (Val.Null (Xpr.V ((randomExpr r width 3).1))), sI (Val.N (Xpr.V ((randomExpr r width 3).1))), sD9 (Xpr.Kids ((randomExpr r width 3).1))])]⟩ [((0 ≤ (Rdr.mk (Rdr.b ((randomExpr r width 3).2)) ((Rdr.p ((randomExpr r width 3).2)) + 1)).p ∧ (Rdr.mk (Rdr.b ((randomExpr r width 3).2)) ((Rdr.p ((randomExpr r width 3).2)) + 1)).p ≤ 1099511627775) ∧ 1 ≤ (List.length ([0, 12, 3, 10] : List Int) : Int))] ?_ ?_
  ·
   refine ⟨?_, trivial⟩
   ·
    have hq := randomExpr_q r width (d := 3) (by decide)
    refine ⟨?_, ?_⟩ <;> first | omega | decide | (dsimp only; omega) | (simp only [List.length_cons, List.length_nil]; omega)
  refine AW.seq (AW.r1 hC [4] [0, 16] ⟨[(4, .ref 16 1 0)], [(0, .box 0 [sD7 (Rdr.b ((randomExpr r width 3).2)), sI (((Rdr.p ((randomExpr r width 3).2)) + 1) + 1)]), (16, .box 1 [sI (one (Rdr.b ((randomExpr r width 3).2)) ((Rdr.p ((randomExpr r width 3).2)) + 1) ([0, 12, 3, 10] : List Int)), sI (Xpr.Col ((randomExpr r width 3).1)), sB (Val.Null (Xpr.V ((randomExpr r width 3).1))), sI (Val.N (Xpr.V ((randomExpr r width 3).1))), sD9 (Xpr.Kids ((randomExpr r width 3).1))])]⟩ ?_)
  exact AW.ret (AW.retE (β := Xpr × Rdr) (fun v => [⟨(.named 1), v.1⟩]) (fun v => [⟨(.named 2), v.2⟩]) (v := ((Xpr.mk (one (Rdr.b ((randomExpr r width 3).2)) ((Rdr.p ((randomExpr r width 3).2)) + 1) ([0, 12, 3, 10] : List Int)) (Xpr.Col ((randomExpr r width 3).1)) (Xpr.V ((randomExpr r width 3).1)) (Xpr.Kids ((randomExpr r width 3).1))), (Rdr.mk (Rdr.b ((randomExpr r width 3).2)) (((Rdr.p ((randomExpr r width 3).2)) + 1) + 1)))) e2 (by kernel_rfl) rfl rfl)
 ·
  intro h3
  have h3q := (Go.Am.beq_neg h3)
  have e4 := e0.trans (Go.Am.bif_f h3)
  refine AW.seq (AW.r1 hC [0, 1, 4, 5, 10, 17] [0, 16, 20] ⟨[(0, .ref 0 0 0), (1, sI width), (4, .ref 16 1 0), (5, .ref 20 1 0), (10, sI (pick (Rdr.b ((randomExpr r width 3).2)) (Rdr.p ((randomExpr r width 3).2)) 18)), (17, sB ((pick (Rdr.b ((randomExpr r width 3).2)) (Rdr.p ((randomExpr r width 3).2)) 18) == 1))], [(0, .box 0 [sD7 (Rdr.b ((randomExpr r width 3).2)), sI ((Rdr.p ((randomExpr r width 3).2)) + 1)]), (16, .box 1 [sI 0, sI 0, sB false, sI 0, .nilsl]), (20, .box 1 [sI (Xpr.Kind ((randomExpr r width 3).1)), sI (Xpr.Col ((randomExpr r width 3).1)), sB (Val.Null (Xpr.V ((randomExpr r width 3).1))), sI (Val.N (Xpr.V ((randomExpr r width 3).1))), sD9 (Xpr.Kids ((randomExpr r width 3).1))])]⟩ ?_)
  refine AW.cd ((pick (Rdr.b ((randomExpr r width 3).2)) (Rdr.p ((randomExpr r width 3).2)) 18) == 1) ?_ ?_
  ·
   intro h5
   have h5q := (Go.Am.beq_pos h5)
   have e6 := e4.trans (Go.Am.bif_t h5)
   refine AW.r0 hC [4, 5] [0, 16, 20] ⟨[(4, .ref 16 1 0), (5, .ref 20 1 0)], [(0, .box 0 [sD7 (Rdr.b ((randomExpr r width 3).2)), sI (((Rdr.p ((randomExpr r width 3).2)) + 1) + 1)]), (16, .box 1 [sI 0, sI 0, sB false, sI 0, .nilsl]), (20, .box 1 [sI (Xpr.Kind ((randomExpr r width 3).1)), sI (one (Rdr.b ((randomExpr r width 3).2)) ((Rdr.p ((randomExpr r width 3).2)) + 1) ([(-1), 6, width] : List Int)), sB (Val.Null (Xpr.V ((randomExpr r width 3).1))), sI (Val.N (Xpr.V ((randomExpr r width 3).1))), sD9 (Xpr.Kids ((randomExpr r width 3).1))])]⟩ [((0 ≤ (Rdr.mk (Rdr.b ((randomExpr r width 3).2)) ((Rdr.p ((randomExpr r width 3).2)) + 1)).p ∧ (Rdr.mk (Rdr.b ((randomExpr r width 3).2)) ((Rdr.p ((randomExpr r width 3).2)) + 1)).p ≤ 1099511627775) ∧ 1 ≤ (List.length ([(-1), 6, width] : List Int) : Int))] ?_ ?_
   ·
    refine ⟨?_, trivial⟩
    ·
     have hq := randomExpr_q r width (d := 3) (by decide)
     refine ⟨?_, ?_⟩ <;> first | omega | decide | (dsimp only; omega) | (simp only [List.length_cons, List.length_nil]; omega)
   refine AW.seq (AW.r1 hC [4] [0, 16] ⟨[(4, .ref 16 1 0)], [(0, .box 0 [sD7 (Rdr.b ((randomExpr r width 3).2)), sI (((Rdr.p ((randomExpr r width 3).2)) + 1) + 1)]), (16, .box 1 [sI (Xpr.Kind ((randomExpr r width 3).1)), sI (one (Rdr.b ((randomExpr r width 3).2)) ((Rdr.p ((randomExpr r width 3).2)) + 1) ([(-1), 6, width] : List Int)), sB (Val.Null (Xpr.V ((randomExpr r width 3).1))), sI (Val.N (Xpr.V ((randomExpr r width 3).1))), sD9 (Xpr.Kids ((randomExpr r width 3).1))])]⟩ ?_)
   exact AW.ret (AW.retE (β := Xpr × Rdr) (fun v => [⟨(.named 1), v.1⟩]) (fun v => [⟨(.named 2), v.2⟩]) (v := ((Xpr.mk (Xpr.Kind ((randomExpr r width 3).1)) (one (Rdr.b ((randomExpr r width 3).2)) ((Rdr.p ((randomExpr r width 3).2)) + 1) ([(-1), 6, width] : List Int)) (Xpr.V ((randomExpr r width 3).1)) (Xpr.Kids ((randomExpr r width 3).1))), (Rdr.mk (Rdr.b ((randomExpr r width 3).2)) (((Rdr.p ((randomExpr r width 3).2)) + 1) + 1)))) e6 (by kernel_rfl) rfl rfl)
  ·
   intro h7
   have h7q := (Go.Am.beq_neg h7)
   have e8 := e4.trans (Go.Am.bif_f h7)
   refine AW.seq (AW.r1 hC [0, 4, 5, 24] [0, 16, 20] ⟨[(0, .ref 0 0 0), (4, .ref 16 1 0), (5, .ref 20 1 0), (24, sB ((pick (Rdr.b ((randomExpr r width 3).2)) (Rdr.p ((randomExpr r width 3).2)) 18) == 2))], [(0, .box 0 [sD7 (Rdr.b ((randomExpr r width 3).2)), sI ((Rdr.p ((randomExpr r width 3).2)) + 1)]), (16, .box 1 [sI 0, sI 0, sB false, sI 0, .nilsl]), (20, .box 1 [sI (Xpr.Kind ((randomExpr r width 3).1)), sI (Xpr.Col ((randomExpr r width 3).1)), sB (Val.Null (Xpr.V ((randomExpr r width 3).1))), sI (Val.N (Xpr.V ((randomExpr r width 3).1))), sD9 (Xpr.Kids ((randomExpr r width 3).1))])]⟩ ?_)
   refine AW.cd ((pick (Rdr.b ((randomExpr r width 3).2)) (Rdr.p ((randomExpr r width 3).2)) 18) == 2) ?_ ?_
   ·
    intro h9
    have h9q := (Go.Am.beq_pos h9)
    have e10 := e8.trans (Go.Am.bif_t h9)
    refine AW.r0 hC [4, 5] [0, 16, 20] ⟨[(4, .ref 16 1 0), (5, .ref 20 1 0)], [(0, .box 0 [sD7 (Rdr.b ((anyValue (Rdr.mk (Rdr.b ((randomExpr r width 3).2)) ((Rdr.p ((randomExpr r width 3).2)) + 1))).2)), sI (Rdr.p ((anyValue (Rdr.mk (Rdr.b ((randomExpr r width 3).2)) ((Rdr.p ((randomExpr r width 3).2)) + 1))).2))]), (16, .box 1 [sI 0, sI 0, sB false, sI 0, .nilsl]), (20, .box 1 [sI (Xpr.Kind ((randomExpr r width 3).1)), sI (Xpr.Col ((randomExpr r width 3).1)), sB (Val.Null ((anyValue (Rdr.mk (Rdr.b ((randomExpr r width 3).2)) ((Rdr.p ((randomExpr r width 3).2)) + 1))).1)), sI (Val.N ((anyValue (Rdr.mk (Rdr.b ((randomExpr r width 3).2)) ((Rdr.p ((randomExpr r width 3).2)) + 1))).1)), sD9 (Xpr.Kids ((randomExpr r width 3).1))])]⟩ [(0 ≤ (Rdr.mk (Rdr.b ((randomExpr r width 3).2)) ((Rdr.p ((randomExpr r width 3).2)) + 1)).p ∧ (Rdr.mk (Rdr.b ((randomExpr r width 3).2)) ((Rdr.p ((randomExpr r width 3).2)) + 1)).p ≤ 999999990000)] ?_ ?_
    ·
     refine ⟨?_, trivial⟩
     ·
      have hq := randomExpr_q r width (d := 3) (by decide)
      dsimp only; omega
    refine AW.seq (AW.r1 hC [4] [0, 16] ⟨[(4, .ref 16 1 0)], [(0, .box 0 [sD7 (Rdr.b ((anyValue (Rdr.mk (Rdr.b ((randomExpr r width 3).2)) ((Rdr.p ((randomExpr r width 3).2)) + 1))).2)), sI (Rdr.p ((anyValue (Rdr.mk (Rdr.b ((randomExpr r width 3).2)) ((Rdr.p ((randomExpr r width 3).2)) + 1))).2))]), (16, .box 1 [sI (Xpr.Kind ((randomExpr r width 3).1)), sI (Xpr.Col ((randomExpr r width 3).1)), sB (Val.Null ((anyValue (Rdr.mk (Rdr.b ((randomExpr r width 3).2)) ((Rdr.p ((randomExpr r width 3).2)) + 1))).1)), sI (Val.N ((anyValue (Rdr.mk (Rdr.b ((randomExpr r width 3).2)) ((Rdr.p ((randomExpr r width 3).2)) + 1))).1)), sD9 (Xpr.Kids ((randomExpr r width 3).1))])]⟩ ?_)
    exact AW.ret (AW.retE (β := Xpr × Rdr) (fun v => [⟨(.named 1), v.1⟩]) (fun v => [⟨(.named 2), v.2⟩]) (v := ((Xpr.mk (Xpr.Kind ((randomExpr r width 3).1)) (Xpr.Col ((randomExpr r width 3).1)) ((anyValue (Rdr.mk (Rdr.b ((randomExpr r width 3).2)) ((Rdr.p ((randomExpr r width 3).2)) + 1))).1) (Xpr.Kids ((randomExpr r width 3).1))), ((anyValue (Rdr.mk (Rdr.b ((randomExpr r width 3).2)) ((Rdr.p ((randomExpr r width 3).2)) + 1))).2))) e10 (by kernel_rfl) rfl rfl)
   ·
    intro h11
    have h11q := (Go.Am.beq_neg h11)
    have e12 := e8.trans (Go.Am.bif_f h11)
    refine AW.kp [4, 5] [0, 16, 20] ⟨[(4, .ref 16 1 0), (5, .ref 20 1 0)], [(0, .box 0 [sD7 (Rdr.b ((randomExpr r width 3).2)), sI ((Rdr.p ((randomExpr r width 3).2)) + 1)]), (16, .box 1 [sI 0, sI 0, sB false, sI 0, .nilsl]), (20, .box 1 [sI (Xpr.Kind ((randomExpr r width 3).1)), sI (Xpr.Col ((randomExpr r width 3).1)), sB (Val.Null (Xpr.V ((randomExpr r width 3).1))), sI (Val.N (Xpr.V ((randomExpr r width 3).1))), sD9 (Xpr.Kids ((randomExpr r width 3).1))])]⟩ ?_
    refine AW.skip (AW.seq (AW.r1 hC [4] [0, 16] ⟨[(4, .ref 16 1 0)], [(0, .box 0 [sD7 (Rdr.b ((randomExpr r width 3).2)), sI ((Rdr.p ((randomExpr r width 3).2)) + 1)]), (16, .box 1 [sI (Xpr.Kind ((randomExpr r width 3).1)), sI (Xpr.Col ((randomExpr r width 3).1)), sB (Val.Null (Xpr.V ((randomExpr r width 3).1))), sI (Val.N (Xpr.V ((randomExpr r width 3).1))), sD9 (Xpr.Kids ((randomExpr r width 3).1))])]⟩ ?_))
    exact AW.ret (AW.retE (β := Xpr × Rdr) (fun v => [⟨(.named 1), v.1⟩]) (fun v => [⟨(.named 2), v.2⟩]) (v := ((Xpr.mk (Xpr.Kind ((randomExpr r width 3).1)) (Xpr.Col ((randomExpr r width 3).1)) (Xpr.V ((randomExpr r width 3).1)) (Xpr.Kids ((randomExpr r width 3).1))), (Rdr.mk (Rdr.b ((randomExpr r width 3).2)) ((Rdr.p ((randomExpr r width 3).2)) + 1)))) e12 (by kernel_rfl) rfl rfl)

theorem anyExpr_p (r : Rdr) (width : Int) : CB r (r.p + 126) (anyExpr r width) := by
 have hq := randomExpr_q r width (d := 3) (by decide)
 unfold anyExpr
 refine CB.bif (fun _ => CB.mk (by dsimp only; omega)) (fun _ => CB.bif (fun _ => CB.mk (by dsimp only; omega)) (fun _ => CB.bif (fun _ => ?_) (fun _ => CB.mk (by dsimp only; omega))))
 have h := anyValue_p (Rdr.mk (Rdr.b ((randomExpr r width 3).2)) ((Rdr.p ((randomExpr r width 3).2)) + 1))
 have h1 : (randomExpr r width 3).2.p + 1 ≤ _ := h.1
 have h2 : _ ≤ (randomExpr r width 3).2.p + 1 + 4 := h.2
 exact CB.mk (by omega)

def DrawFoldExpr (code : List Int) : Xpr := (bif ((pick (Rdr.b ((anyExpr (newReader code) 3).2)) (Rdr.p ((anyExpr (newReader code) 3).2)) 2) == 0) then (Xpr.mk (one (Rdr.b ((anyExpr (newReader code) 3).2)) ((Rdr.p ((anyExpr (newReader code) 3).2)) + 1) ([8, 9, 3] : List Int)) 0 (Val.mk false 0) ([(constant ((randomValue (Rdr.mk (Rdr.b ((anyExpr (newReader code) 3).2)) (((Rdr.p ((anyExpr (newReader code) 3).2)) + 1) + 1))).1)), (Xpr.mk (Xpr.Kind ((anyExpr (newReader code) 3).1)) (Xpr.Col ((anyExpr (newReader code) 3).1)) (Xpr.V ((anyExpr (newReader code) 3).1)) (Xpr.Kids ((anyExpr (newReader code) 3).1)))] : List Xpr)) else (Xpr.mk (Xpr.Kind ((anyExpr (newReader code) 3).1)) (Xpr.Col ((anyExpr (newReader code) 3).1)) (Xpr.V ((anyExpr (newReader code) 3).1)) (Xpr.Kids ((anyExpr (newReader code) 3).1))))

def DrawFoldExpr_sp : FnSpec := mkSpec [.val (.slice (.int .u8))] [.val (.named 1)] (fun (code : List Int) => True) (fun (code : List Int) => [⟨(.named 1), (DrawFoldExpr code)⟩])

theorem DrawFoldExpr_ok : FnOK Try.prog 5 DrawFoldExpr_sp := by
 have hC : CtxOK Try.prog (mkCtx tyL [(13, newReader_sp), (14, anyExpr_sp), (15, pickS), (16, oneS), (17, constant_sp), (18, randomValue_sp)]) := CtxOK.cons newReader_ok (CtxOK.cons anyExpr_ok (CtxOK.cons pickS_ok (CtxOK.cons oneS_ok (CtxOK.cons constant_ok (CtxOK.cons randomValue_ok (CtxOK.nil tyOK))))))
 have hM : Try.prog.follows .mixedOrders = true := Try.checked.mixed
 refine FnOK.of_body Try.func5 (by kernel_rfl) rfl (C := (mkCtx tyL [(13, newReader_sp), (14, anyExpr_sp), (15, pickS), (16, oneS), (17, constant_sp), (18, randomValue_sp)])) hC.ty (by kernel_rfl) ?_
 intro (code : List Int) hwf hpre E
 have hpre : True := hpre
 have hw_code : Wf ⟨(.slice (.int .u8)), (code : List Int)⟩ := hwf _ (List.Mem.head _)
 have hl_code : ((List.length code : Nat) : Int) ≤ 9223372036854775807 := hw_code.len
 have hp0 := newReader_p code
 have hq := anyExpr_p (newReader code) 3
 have hq1 : (newReader code).p ≤ _ := hq.1
 have hq2 : _ ≤ (newReader code).p + 126 := hq.2
 have e0 : DrawFoldExpr code = DrawFoldExpr code := rfl
 refine AW.seq (AW.r1 hC [0, 2] [8] ⟨[(0, sD7 code), (2, .ref 8 1 0)], [(8, .box 1 [sI 0, sI 0, sB false, sI 0, .nilsl])]⟩ ?_)
 refine AW.seq (AW.r0 hC [2, 3] [8, 24] ⟨[(2, .ref 8 1 0), (3, .ref 24 1 0)], [(8, .box 1 [sI 0, sI 0, sB false, sI 0, .nilsl]), (24, .box 1 [sD7 (Rdr.b (newReader code)), sI (Rdr.p (newReader code))])]⟩ [(True)] ?_ ?_)
 ·
  refine ⟨?_, trivial⟩
  ·
   trivial
 refine AW.seq (AW.r0 hC [2, 3, 4] [8, 16, 24] ⟨[(2, .ref 8 1 0), (3, .ref 24 1 0), (4, .ref 16 1 0)], [(8, .box 1 [sI 0, sI 0, sB false, sI 0, .nilsl]), (16, .box 1 [sI (Xpr.Kind ((anyExpr (newReader code) 3).1)), sI (Xpr.Col ((anyExpr (newReader code) 3).1)), sB (Val.Null (Xpr.V ((anyExpr (newReader code) 3).1))), sI (Val.N (Xpr.V ((anyExpr (newReader code) 3).1))), sD9 (Xpr.Kids ((anyExpr (newReader code) 3).1))]), (24, .box 1 [sD7 (Rdr.b ((anyExpr (newReader code) 3).2)), sI (Rdr.p ((anyExpr (newReader code) 3).2))])]⟩ [(0 ≤ (newReader code).p ∧ (newReader code).p ≤ 999999980000)] ?_ ?_)
 ·
  refine ⟨?_, trivial⟩
  ·
   omega
 refine AW.seq (AW.seq (AW.r0 hC [2, 3, 4, 11] [8, 16, 24] ⟨[(2, .ref 8 1 0), (3, .ref 24 1 0), (4, .ref 16 1 0), (11, sB ((pick (Rdr.b ((anyExpr (newReader code) 3).2)) (Rdr.p ((anyExpr (newReader code) 3).2)) 2) == 0))], [(8, .box 1 [sI 0, sI 0, sB false, sI 0, .nilsl]), (16, .box 1 [sI (Xpr.Kind ((anyExpr (newReader code) 3).1)), sI (Xpr.Col ((anyExpr (newReader code) 3).1)), sB (Val.Null (Xpr.V ((anyExpr (newReader code) 3).1))), sI (Val.N (Xpr.V ((anyExpr (newReader code) 3).1))), sD9 (Xpr.Kids ((anyExpr (newReader code) 3).1))]), (24, .box 1 [sD7 (Rdr.b ((anyExpr (newReader code) 3).2)), sI ((Rdr.p ((anyExpr (newReader code) 3).2)) + 1)])]⟩ [(0 ≤ ((anyExpr (newReader code) 3).2).p ∧ ((anyExpr (newReader code) 3).2).p ≤ 1099511627776)] ?_ ?_))
 ·
  refine ⟨?_, trivial⟩
  ·
   omega
 refine AW.cd ((pick (Rdr.b ((anyExpr (newReader code) 3).2)) (Rdr.p ((anyExpr (newReader code) 3).2)) 2) == 0) ?_ ?_
 ·
  intro h1
  have h1q := (Go.Am.beq_pos h1)
  have e2 := e0.trans (Go.Am.bif_t h1)
  refine AW.seq (AW.d0 hC hM [2] [8, 76] ⟨[(2, .ref 8 1 0)], [(8, .box 1 [sI (one (Rdr.b ((anyExpr (newReader code) 3).2)) ((Rdr.p ((anyExpr (newReader code) 3).2)) + 1) ([8, 9, 3] : List Int)), sI 0, sB false, sI 0, .arr 76 1]), (76, .arr 1 (.named 1) (([(constant ((randomValue (Rdr.mk (Rdr.b ((anyExpr (newReader code) 3).2)) (((Rdr.p ((anyExpr (newReader code) 3).2)) + 1) + 1))).1)), (Xpr.mk (Xpr.Kind ((anyExpr (newReader code) 3).1)) (Xpr.Col ((anyExpr (newReader code) 3).1)) (Xpr.V ((anyExpr (newReader code) 3).1)) (Xpr.Kids ((anyExpr (newReader code) 3).1)))] : List Xpr) : List Xpr))]⟩ [((0 ≤ (Rdr.mk (Rdr.b ((anyExpr (newReader code) 3).2)) ((Rdr.p ((anyExpr (newReader code) 3).2)) + 1)).p ∧ (Rdr.mk (Rdr.b ((anyExpr (newReader code) 3).2)) ((Rdr.p ((anyExpr (newReader code) 3).2)) + 1)).p ≤ 1099511627775) ∧ 1 ≤ (List.length ([8, 9, 3] : List Int) : Int)), (0 ≤ (Rdr.mk (Rdr.b ((anyExpr (newReader code) 3).2)) (((Rdr.p ((anyExpr (newReader code) 3).2)) + 1) + 1)).p ∧ (Rdr.mk (Rdr.b ((anyExpr (newReader code) 3).2)) (((Rdr.p ((anyExpr (newReader code) 3).2)) + 1) + 1)).p ≤ 1000000000000), (True)] ?_ ?_)
  ·
   refine ⟨?_, ?_, ?_, trivial⟩
   ·
    simp only [List.length_cons, List.length_nil]; omega
   ·
    dsimp only; omega
   ·
    trivial
  exact AW.ret (AW.retE (β := Xpr) (fun v => [⟨(.named 1), v⟩]) (fun v => []) (v := (Xpr.mk (one (Rdr.b ((anyExpr (newReader code) 3).2)) ((Rdr.p ((anyExpr (newReader code) 3).2)) + 1) ([8, 9, 3] : List Int)) 0 (Val.mk false 0) ([(constant ((randomValue (Rdr.mk (Rdr.b ((anyExpr (newReader code) 3).2)) (((Rdr.p ((anyExpr (newReader code) 3).2)) + 1) + 1))).1)), (Xpr.mk (Xpr.Kind ((anyExpr (newReader code) 3).1)) (Xpr.Col ((anyExpr (newReader code) 3).1)) (Xpr.V ((anyExpr (newReader code) 3).1)) (Xpr.Kids ((anyExpr (newReader code) 3).1)))] : List Xpr))) e2 (by kernel_rfl) rfl rfl)
 ·
  intro h3
  have h3q := (Go.Am.beq_neg h3)
  have e4 := e0.trans (Go.Am.bif_f h3)
  refine AW.kp [2, 4] [8, 16] ⟨[(2, .ref 8 1 0), (4, .ref 16 1 0)], [(8, .box 1 [sI 0, sI 0, sB false, sI 0, .nilsl]), (16, .box 1 [sI (Xpr.Kind ((anyExpr (newReader code) 3).1)), sI (Xpr.Col ((anyExpr (newReader code) 3).1)), sB (Val.Null (Xpr.V ((anyExpr (newReader code) 3).1))), sI (Val.N (Xpr.V ((anyExpr (newReader code) 3).1))), sD9 (Xpr.Kids ((anyExpr (newReader code) 3).1))])]⟩ ?_
  refine AW.skip (AW.seq (AW.r1 hC [2] [8] ⟨[(2, .ref 8 1 0)], [(8, .box 1 [sI (Xpr.Kind ((anyExpr (newReader code) 3).1)), sI (Xpr.Col ((anyExpr (newReader code) 3).1)), sB (Val.Null (Xpr.V ((anyExpr (newReader code) 3).1))), sI (Val.N (Xpr.V ((anyExpr (newReader code) 3).1))), sD9 (Xpr.Kids ((anyExpr (newReader code) 3).1))])]⟩ ?_))
  exact AW.ret (AW.retE (β := Xpr) (fun v => [⟨(.named 1), v⟩]) (fun v => []) (v := (Xpr.mk (Xpr.Kind ((anyExpr (newReader code) 3).1)) (Xpr.Col ((anyExpr (newReader code) 3).1)) (Xpr.V ((anyExpr (newReader code) 3).1)) (Xpr.Kids ((anyExpr (newReader code) 3).1)))) e4 (by kernel_rfl) rfl rfl)

end
end Go.Proofs.Ytjhnpnnlimpgdaa
