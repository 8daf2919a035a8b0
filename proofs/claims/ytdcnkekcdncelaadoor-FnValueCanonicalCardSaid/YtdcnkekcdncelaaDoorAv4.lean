/-
  A part of the proof of this claim (Av4): what functions of the program compute, and plain facts of that. No conditions.
-/
import Derived.Test.YtdcnkekcdncelaaDoorAv3
set_option linter.all false
namespace Go.Proofs.YtdcnkekcdncelaaDoor
open Go Go.Am
open Go.Am.AW (seq r1U ret kpU cdE r0U block rS)
open List (length)
noncomputable section

def randomValue (r : Rdr) : Val × Rdr := (bif ((pick (Rdr.b r) (Rdr.p r) 5) == 0) then ((Val.mk true 0), (Rdr.mk (Rdr.b r) ((Rdr.p r) + 1))) else ((Val.mk false (one (Rdr.b r) ((Rdr.p r) + 1) ([0, 1, 2, 3, (-1)] : List Int))), (Rdr.mk (Rdr.b r) (((Rdr.p r) + 1) + 1))))

def randomValue_sp : FnSpec := mkSpecB [.box 1] [.val (.named 0)] (fun (r : Rdr) => 0 ≤ r.p ∧ r.p ≤ 1000000000000) (fun (r : Rdr) => [⟨(.named 0), ((randomValue r).1)⟩]) (fun (r : Rdr) => [⟨(.named 1), ((randomValue r).2)⟩])

theorem randomValue_ok : FnOK Tryd.prog 31 randomValue_sp := by
 have hC : CtxOK Tryd.prog (mkCtx tyL [(24, pickS), (32, oneS)]) := CtxOK.cons pickS_ok (CtxOK.cons oneS_ok (CtxOK.nil tyOK)); refine FnOK.of_body Tryd.func31 (by kernel_rfl) rfl (C := (mkCtx tyL [(24, pickS), (32, oneS)])) hC.ty (by kernel_rfl) ?_; intro (r : Rdr) hwf hpre E; have hpre : 0 ≤ r.p ∧ r.p ≤ 1000000000000 := hpre; have e0 : randomValue r = randomValue r := rfl; refine seq (r1U hC [0, 2] [0, 8] [(2, .ref 8 1 0)] [(8, .box 1 [sB false, sI 0])] ?_); refine seq (seq (r0U hC [0, 2, 5] [0, 8] [(5, sB ((pick (Rdr.b r) (Rdr.p r) 5) == 0))] [(0, .box 0 [sD6 (Rdr.b r), sI ((Rdr.p r) + 1)])] [(0 ≤ r.p ∧ r.p ≤ 1099511627776)] ?_ ?_))
 ·
  exact ⟨(by omega), trivial⟩
 refine cdE e0 ?_ ?_
 · intro h1q e2; refine seq (r1U hC [2] [0, 8] [] [(8, .box 1 [sB true, sI 0])] ?_); exact ret (AW.retE (β := Val × Rdr) (fun v => [⟨(.named 0), v.1⟩]) (fun v => [⟨(.named 1), v.2⟩]) (v := ((Val.mk true 0), (Rdr.mk (Rdr.b r) ((Rdr.p r) + 1)))) e2 (by kernel_rfl) rfl rfl)
 ·
  intro h3q e4; refine kpU [0, 2] [0, 8] [] [] ?_; refine AW.skip (seq (r0U hC [2] [0, 8] [] [(0, .box 0 [sD6 (Rdr.b r), sI (((Rdr.p r) + 1) + 1)]), (8, .box 1 [sB false, sI (one (Rdr.b r) ((Rdr.p r) + 1) ([0, 1, 2, 3, (-1)] : List Int))])] [((0 ≤ (Rdr.mk (Rdr.b r) ((Rdr.p r) + 1)).p ∧ (Rdr.mk (Rdr.b r) ((Rdr.p r) + 1)).p ≤ 1099511627775) ∧ 1 ≤ (length ([0, 1, 2, 3, (-1)] : List Int) : Int))] ?_ ?_))
  ·
   exact ⟨(by simp only [lens] at *; omega), trivial⟩
  exact ret (AW.retE (β := Val × Rdr) (fun v => [⟨(.named 0), v.1⟩]) (fun v => [⟨(.named 1), v.2⟩]) (v := ((Val.mk false (one (Rdr.b r) ((Rdr.p r) + 1) ([0, 1, 2, 3, (-1)] : List Int))), (Rdr.mk (Rdr.b r) (((Rdr.p r) + 1) + 1)))) e4 (by kernel_rfl) rfl rfl)

theorem randomValue_p (r : Rdr) : r.p ≤ (randomValue r).2.p ∧ (randomValue r).2.p ≤ r.p + 2 := by
 unfold randomValue
 cases (pick r.b r.p 5 == 0) with
 | true => exact ⟨by show r.p ≤ r.p + 1; omega, by show r.p + 1 ≤ r.p + 2; omega⟩
 | false => exact ⟨by show r.p ≤ r.p + 1 + 1; omega, by show r.p + 1 + 1 ≤ r.p + 2; omega⟩

def anyValue (r : Rdr) : Val × Rdr := (bif ((pick (Rdr.b ((randomValue r).2)) (Rdr.p ((randomValue r).2)) 14) == 0) then ((Val.mk true 1), (Rdr.mk (Rdr.b ((randomValue r).2)) ((Rdr.p ((randomValue r).2)) + 1))) else (bif ((pick (Rdr.b ((randomValue r).2)) (Rdr.p ((randomValue r).2)) 14) == 1) then ((Val.mk false (one (Rdr.b ((randomValue r).2)) ((Rdr.p ((randomValue r).2)) + 1) ([10000, (-10000), 9999, (-9999)] : List Int))), (Rdr.mk (Rdr.b ((randomValue r).2)) (((Rdr.p ((randomValue r).2)) + 1) + 1))) else (((randomValue r).1), (Rdr.mk (Rdr.b ((randomValue r).2)) ((Rdr.p ((randomValue r).2)) + 1)))))

def anyValue_sp : FnSpec := mkSpecB [.box 1] [.val (.named 0)] (fun (r : Rdr) => 0 ≤ r.p ∧ r.p ≤ 999999990000) (fun (r : Rdr) => [⟨(.named 0), ((anyValue r).1)⟩]) (fun (r : Rdr) => [⟨(.named 1), ((anyValue r).2)⟩])

theorem anyValue_ok : FnOK Tryd.prog 20 anyValue_sp := by
 have hC : CtxOK Tryd.prog (mkCtx tyL [(24, pickS), (31, randomValue_sp), (32, oneS)]) := CtxOK.cons pickS_ok (CtxOK.cons randomValue_ok (CtxOK.cons oneS_ok (CtxOK.nil tyOK))); refine FnOK.of_body Tryd.func20 (by kernel_rfl) rfl (C := (mkCtx tyL [(24, pickS), (31, randomValue_sp), (32, oneS)])) hC.ty (by kernel_rfl) ?_; intro (r : Rdr) hwf hpre E; have hpre : 0 ≤ r.p ∧ r.p ≤ 999999990000 := hpre; have e0 : anyValue r = anyValue r := rfl; refine seq (r1U hC [0, 2] [0, 8] [(2, .ref 8 1 0)] [(8, .box 1 [sB false, sI 0])] ?_); refine seq (r0U hC [0, 2, 3] [0, 8, 12] [(3, .ref 12 1 0)] [(0, .box 0 [sD6 (Rdr.b ((randomValue r).2)), sI (Rdr.p ((randomValue r).2))]), (12, .box 1 [sB (Val.Null ((randomValue r).1)), sI (Val.N ((randomValue r).1))])] [(0 ≤ r.p ∧ r.p ≤ 1000000000000)] ?_ ?_)
 ·
  exact ⟨(by have hq := randomValue_p r; omega), trivial⟩
 refine seq (seq (r0U hC [0, 2, 3, 7] [0, 8, 12] [(7, sI (pick (Rdr.b ((randomValue r).2)) (Rdr.p ((randomValue r).2)) 14))] [(0, .box 0 [sD6 (Rdr.b ((randomValue r).2)), sI ((Rdr.p ((randomValue r).2)) + 1)])] [(0 ≤ ((randomValue r).2).p ∧ ((randomValue r).2).p ≤ 1099511627776)] ?_ ?_))
 ·
  exact ⟨(by have hq := randomValue_p r; omega), trivial⟩
 refine block (seq (r1U hC [0, 2, 3, 7, 8] [0, 8, 12] [(8, sB ((pick (Rdr.b ((randomValue r).2)) (Rdr.p ((randomValue r).2)) 14) == 0))] [] ?_)); refine cdE e0 ?_ ?_
 · intro h1q e2; refine seq (r1U hC [2] [0, 8] [] [(8, .box 1 [sB true, sI 1])] ?_); exact ret (AW.retE (β := Val × Rdr) (fun v => [⟨(.named 0), v.1⟩]) (fun v => [⟨(.named 1), v.2⟩]) (v := ((Val.mk true 1), (Rdr.mk (Rdr.b ((randomValue r).2)) ((Rdr.p ((randomValue r).2)) + 1)))) e2 (by kernel_rfl) rfl rfl)
 ·
  intro h3q e4; refine seq (r1U hC [0, 2, 3, 11] [0, 8, 12] [(11, sB ((pick (Rdr.b ((randomValue r).2)) (Rdr.p ((randomValue r).2)) 14) == 1))] [] ?_); refine cdE e4 ?_ ?_
  ·
   intro h5q e6; refine seq (r0U hC [2] [0, 8] [] [(0, .box 0 [sD6 (Rdr.b ((randomValue r).2)), sI (((Rdr.p ((randomValue r).2)) + 1) + 1)]), (8, .box 1 [sB false, sI (one (Rdr.b ((randomValue r).2)) ((Rdr.p ((randomValue r).2)) + 1) ([10000, (-10000), 9999, (-9999)] : List Int))])] [((0 ≤ (Rdr.mk (Rdr.b ((randomValue r).2)) ((Rdr.p ((randomValue r).2)) + 1)).p ∧ (Rdr.mk (Rdr.b ((randomValue r).2)) ((Rdr.p ((randomValue r).2)) + 1)).p ≤ 1099511627775) ∧ 1 ≤ (length ([10000, (-10000), 9999, (-9999)] : List Int) : Int))] ?_ ?_)
   ·
    exact ⟨(by have hq := randomValue_p r; refine ⟨?_, ?_⟩ <;> first | omega | decide | (dsimp only; omega)), trivial⟩
   exact ret (AW.retE (β := Val × Rdr) (fun v => [⟨(.named 0), v.1⟩]) (fun v => [⟨(.named 1), v.2⟩]) (v := ((Val.mk false (one (Rdr.b ((randomValue r).2)) ((Rdr.p ((randomValue r).2)) + 1) ([10000, (-10000), 9999, (-9999)] : List Int))), (Rdr.mk (Rdr.b ((randomValue r).2)) (((Rdr.p ((randomValue r).2)) + 1) + 1)))) e6 (by kernel_rfl) rfl rfl)
  · intro h7q e8; refine kpU [2, 3] [0, 8, 12] [] [] ?_; refine AW.skip (seq (r1U hC [2] [0, 8] [] [(8, .box 1 [sB (Val.Null ((randomValue r).1)), sI (Val.N ((randomValue r).1))])] ?_)); exact ret (AW.retE (β := Val × Rdr) (fun v => [⟨(.named 0), v.1⟩]) (fun v => [⟨(.named 1), v.2⟩]) (v := (((randomValue r).1), (Rdr.mk (Rdr.b ((randomValue r).2)) ((Rdr.p ((randomValue r).2)) + 1)))) e8 (by kernel_rfl) rfl rfl)

theorem anyValue_p (r : Rdr) : r.p ≤ (anyValue r).2.p ∧ (anyValue r).2.p ≤ r.p + 4 := by
 have := randomValue_p r; unfold anyValue
 cases (pick (Rdr.b (randomValue r).2) (Rdr.p (randomValue r).2) 14 == 0) with
 | true => simp only [cond_true]; omega
 | false =>
  simp only [cond_false]
  cases (pick (Rdr.b (randomValue r).2) (Rdr.p (randomValue r).2) 14 == 1) with
  | true => simp only [cond_true]; omega
  | false => simp only [cond_false]; omega

end
end Go.Proofs.YtdcnkekcdncelaaDoor
