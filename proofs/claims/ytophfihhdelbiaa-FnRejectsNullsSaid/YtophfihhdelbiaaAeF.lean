/-
  A part of the proof of this claim (AeF): what functions of the program compute, and plain facts of that. No conditions.
-/
import Derived.Test.YtophfihhdelbiaaAeE
set_option linter.all false
namespace Go.Proofs.Ytophfihhdelbiaa
open Go Go.Am
noncomputable section

def DrawOutcomes_l0 (code : List Int) : Nat → Nat → Int → (List Int) → Int × (List Int)
 | 0, i, r1, states => (r1, states)
 | k + 1, i, r1, states => (bif (decide (((i : Nat) : Int) < (1 + (pick (Rdr.b (newReader code)) (Rdr.p (newReader code)) 3)))) then (DrawOutcomes_l0 code k (i + 1) (r1 + 1) (states ++ ([(1 + (pick (Rdr.b ((anyExpr (Rdr.mk (Rdr.b (newReader code)) ((Rdr.p (newReader code)) + 1)) (1 + (pick (Rdr.b (newReader code)) (Rdr.p (newReader code)) 3))).2)) r1 7))] : List Int))) else (r1, states))

def DrawOutcomes (code : List Int) : Xpr × (List Int) := (Go.Am.andThen (DrawOutcomes_l0 code (Int.toNat ((1 + (pick (Rdr.b (newReader code)) (Rdr.p (newReader code)) 3)) - ((0 : Nat) : Int)) + 1) 0 (Rdr.p ((anyExpr (Rdr.mk (Rdr.b (newReader code)) ((Rdr.p (newReader code)) + 1)) (1 + (pick (Rdr.b (newReader code)) (Rdr.p (newReader code)) 3))).2)) ([] : List Int)) (fun z => (fun (r1 : Int) (states : List Int) => (bif ((pick (Rdr.b ((anyExpr (Rdr.mk (Rdr.b (newReader code)) ((Rdr.p (newReader code)) + 1)) (1 + (pick (Rdr.b (newReader code)) (Rdr.p (newReader code)) 3))).2)) r1 16) == 0) then ((Xpr.mk (Xpr.Kind ((anyExpr (Rdr.mk (Rdr.b (newReader code)) ((Rdr.p (newReader code)) + 1)) (1 + (pick (Rdr.b (newReader code)) (Rdr.p (newReader code)) 3))).1)) (Xpr.Col ((anyExpr (Rdr.mk (Rdr.b (newReader code)) ((Rdr.p (newReader code)) + 1)) (1 + (pick (Rdr.b (newReader code)) (Rdr.p (newReader code)) 3))).1)) (Xpr.V ((anyExpr (Rdr.mk (Rdr.b (newReader code)) ((Rdr.p (newReader code)) + 1)) (1 + (pick (Rdr.b (newReader code)) (Rdr.p (newReader code)) 3))).1)) (Xpr.Kids ((anyExpr (Rdr.mk (Rdr.b (newReader code)) ((Rdr.p (newReader code)) + 1)) (1 + (pick (Rdr.b (newReader code)) (Rdr.p (newReader code)) 3))).1))), (List.set states 0 (one (Rdr.b ((anyExpr (Rdr.mk (Rdr.b (newReader code)) ((Rdr.p (newReader code)) + 1)) (1 + (pick (Rdr.b (newReader code)) (Rdr.p (newReader code)) 3))).2)) (r1 + 1) ([0, 8] : List Int)))) else ((Xpr.mk (Xpr.Kind ((anyExpr (Rdr.mk (Rdr.b (newReader code)) ((Rdr.p (newReader code)) + 1)) (1 + (pick (Rdr.b (newReader code)) (Rdr.p (newReader code)) 3))).1)) (Xpr.Col ((anyExpr (Rdr.mk (Rdr.b (newReader code)) ((Rdr.p (newReader code)) + 1)) (1 + (pick (Rdr.b (newReader code)) (Rdr.p (newReader code)) 3))).1)) (Xpr.V ((anyExpr (Rdr.mk (Rdr.b (newReader code)) ((Rdr.p (newReader code)) + 1)) (1 + (pick (Rdr.b (newReader code)) (Rdr.p (newReader code)) 3))).1)) (Xpr.Kids ((anyExpr (Rdr.mk (Rdr.b (newReader code)) ((Rdr.p (newReader code)) + 1)) (1 + (pick (Rdr.b (newReader code)) (Rdr.p (newReader code)) 3))).1))), states))) z.1 z.2))

def DrawOutcomes_sp : FnSpec := mkSpec [.val (.slice (.int .u8))] [.val (.named 1), .own (.int .i64)] (fun (code : List Int) => True) (fun (code : List Int) => [⟨(.named 1), ((DrawOutcomes code).1)⟩, ⟨(.slice (.int .i64)), ((DrawOutcomes code).2)⟩])

theorem DrawOutcomes_ok : FnOK Try.prog 7 DrawOutcomes_sp := by
 have hC : CtxOK Try.prog (mkCtx tyL [(16, newReader_sp), (17, pickS), (18, anyExpr_sp), (19, oneS)]) := CtxOK.cons newReader_ok (CtxOK.cons pickS_ok (CtxOK.cons anyExpr_ok (CtxOK.cons oneS_ok (CtxOK.nil tyOK))))
 refine FnOK.of_body Try.func7 (by kernel_rfl) rfl (C := (mkCtx tyL [(16, newReader_sp), (17, pickS), (18, anyExpr_sp), (19, oneS)])) hC.ty (by kernel_rfl) ?_
 intro (code : List Int) hwf hpre E
 have hpre : True := hpre
 have hw_code : Wf ⟨(.slice (.int .u8)), (code : List Int)⟩ := hwf _ (List.Mem.head _)
 have hl_code : ((List.length code : Nat) : Int) ≤ 9223372036854775807 := hw_code.len
 have hp0 := newReader_p code
 have h3 := pick_ok (n := 3) (newReader code).b (newReader code).p (by decide)
 have hq := anyExpr_p (Rdr.mk (Rdr.b (newReader code)) ((Rdr.p (newReader code)) + 1)) (1 + (pick (Rdr.b (newReader code)) (Rdr.p (newReader code)) 3))
 have hq1 : (newReader code).p + 1 ≤ _ := hq.1
 have hq2 : _ ≤ (newReader code).p + 1 + 126 := hq.2
 have e0 : DrawOutcomes code = DrawOutcomes code := rfl
 refine AW.seq (AW.r1 hC [0, 2] [8] ⟨[(0, sD7 code), (2, .ref 8 1 0)], [(8, .box 1 [sI 0, sI 0, sB false, sI 0, .nilsl])]⟩ ?_)
 refine AW.seq (AW.r0 hC [2, 4] [8, 40] ⟨[(2, .ref 8 1 0), (4, .ref 40 1 0)], [(8, .box 1 [sI 0, sI 0, sB false, sI 0, .nilsl]), (40, .box 1 [sD7 (Rdr.b (newReader code)), sI (Rdr.p (newReader code))])]⟩ [(True)] ?_ ?_)
 ·
  refine ⟨?_, trivial⟩
  ·
   trivial
 refine AW.seq (AW.r0 hC [2, 4, 5] [8, 40] ⟨[(2, .ref 8 1 0), (4, .ref 40 1 0), (5, sI (1 + (pick (Rdr.b (newReader code)) (Rdr.p (newReader code)) 3)))], [(8, .box 1 [sI 0, sI 0, sB false, sI 0, .nilsl]), (40, .box 1 [sD7 (Rdr.b (newReader code)), sI ((Rdr.p (newReader code)) + 1)])]⟩ [(0 ≤ (newReader code).p ∧ (newReader code).p ≤ 1099511627776), R64 (1 + (pick (Rdr.b (newReader code)) (Rdr.p (newReader code)) 3))] ?_ ?_)
 ·
  refine ⟨?_, ?_, trivial⟩
  ·
   first | omega | (dsimp only; omega) | (simp only [List.length_append, List.length_cons, List.length_nil]; omega) | (have h7 := pick_ok (n := 7) (anyExpr { b := (newReader code).b, p := (newReader code).p + 1 } (1 + pick (newReader code).b (newReader code).p 3)).snd.b r1 (by decide); omega) | (refine ⟨?_, ?_⟩ <;> first | omega | (dsimp only; omega) | (simp only [List.length_cons, List.length_nil]; omega))
  ·
   refine R64.of ?_
   first | omega | (dsimp only; omega) | (simp only [List.length_append, List.length_cons, List.length_nil]; omega) | (have h7 := pick_ok (n := 7) (anyExpr { b := (newReader code).b, p := (newReader code).p + 1 } (1 + pick (newReader code).b (newReader code).p 3)).snd.b r1 (by decide); omega) | (refine ⟨?_, ?_⟩ <;> first | omega | (dsimp only; omega) | (simp only [List.length_cons, List.length_nil]; omega))
 refine AW.seq (AW.r0 hC [2, 4, 5, 6] [8, 24, 40] ⟨[(2, .ref 8 1 0), (4, .ref 40 1 0), (5, sI (1 + (pick (Rdr.b (newReader code)) (Rdr.p (newReader code)) 3))), (6, .ref 24 1 0)], [(8, .box 1 [sI 0, sI 0, sB false, sI 0, .nilsl]), (24, .box 1 [sI (Xpr.Kind ((anyExpr (Rdr.mk (Rdr.b (newReader code)) ((Rdr.p (newReader code)) + 1)) (1 + (pick (Rdr.b (newReader code)) (Rdr.p (newReader code)) 3))).1)), sI (Xpr.Col ((anyExpr (Rdr.mk (Rdr.b (newReader code)) ((Rdr.p (newReader code)) + 1)) (1 + (pick (Rdr.b (newReader code)) (Rdr.p (newReader code)) 3))).1)), sB (Val.Null (Xpr.V ((anyExpr (Rdr.mk (Rdr.b (newReader code)) ((Rdr.p (newReader code)) + 1)) (1 + (pick (Rdr.b (newReader code)) (Rdr.p (newReader code)) 3))).1))), sI (Val.N (Xpr.V ((anyExpr (Rdr.mk (Rdr.b (newReader code)) ((Rdr.p (newReader code)) + 1)) (1 + (pick (Rdr.b (newReader code)) (Rdr.p (newReader code)) 3))).1))), sD9 (Xpr.Kids ((anyExpr (Rdr.mk (Rdr.b (newReader code)) ((Rdr.p (newReader code)) + 1)) (1 + (pick (Rdr.b (newReader code)) (Rdr.p (newReader code)) 3))).1))]), (40, .box 1 [sD7 (Rdr.b ((anyExpr (Rdr.mk (Rdr.b (newReader code)) ((Rdr.p (newReader code)) + 1)) (1 + (pick (Rdr.b (newReader code)) (Rdr.p (newReader code)) 3))).2)), sI (Rdr.p ((anyExpr (Rdr.mk (Rdr.b (newReader code)) ((Rdr.p (newReader code)) + 1)) (1 + (pick (Rdr.b (newReader code)) (Rdr.p (newReader code)) 3))).2))])]⟩ [(0 ≤ (Rdr.mk (Rdr.b (newReader code)) ((Rdr.p (newReader code)) + 1)).p ∧ (Rdr.mk (Rdr.b (newReader code)) ((Rdr.p (newReader code)) + 1)).p ≤ 999999980000)] ?_ ?_)
 ·
  refine ⟨?_, trivial⟩
  ·
   first | omega | (dsimp only; omega) | (simp only [List.length_append, List.length_cons, List.length_nil]; omega) | (have h7 := pick_ok (n := 7) (anyExpr { b := (newReader code).b, p := (newReader code).p + 1 } (1 + pick (newReader code).b (newReader code).p 3)).snd.b r1 (by decide); omega) | (refine ⟨?_, ?_⟩ <;> first | omega | (dsimp only; omega) | (simp only [List.length_cons, List.length_nil]; omega))
 refine AW.seq (AW.r1 hC [2, 4, 5, 6, 7] [8, 24, 40, 68] ⟨[(2, .ref 8 1 0), (4, .ref 40 1 0), (5, sI (1 + (pick (Rdr.b (newReader code)) (Rdr.p (newReader code)) 3))), (6, .ref 24 1 0), (7, .arr 68 1)], [(8, .box 1 [sI 0, sI 0, sB false, sI 0, .nilsl]), (24, .box 1 [sI (Xpr.Kind ((anyExpr (Rdr.mk (Rdr.b (newReader code)) ((Rdr.p (newReader code)) + 1)) (1 + (pick (Rdr.b (newReader code)) (Rdr.p (newReader code)) 3))).1)), sI (Xpr.Col ((anyExpr (Rdr.mk (Rdr.b (newReader code)) ((Rdr.p (newReader code)) + 1)) (1 + (pick (Rdr.b (newReader code)) (Rdr.p (newReader code)) 3))).1)), sB (Val.Null (Xpr.V ((anyExpr (Rdr.mk (Rdr.b (newReader code)) ((Rdr.p (newReader code)) + 1)) (1 + (pick (Rdr.b (newReader code)) (Rdr.p (newReader code)) 3))).1))), sI (Val.N (Xpr.V ((anyExpr (Rdr.mk (Rdr.b (newReader code)) ((Rdr.p (newReader code)) + 1)) (1 + (pick (Rdr.b (newReader code)) (Rdr.p (newReader code)) 3))).1))), sD9 (Xpr.Kids ((anyExpr (Rdr.mk (Rdr.b (newReader code)) ((Rdr.p (newReader code)) + 1)) (1 + (pick (Rdr.b (newReader code)) (Rdr.p (newReader code)) 3))).1))]), (40, .box 1 [sD7 (Rdr.b ((anyExpr (Rdr.mk (Rdr.b (newReader code)) ((Rdr.p (newReader code)) + 1)) (1 + (pick (Rdr.b (newReader code)) (Rdr.p (newReader code)) 3))).2)), sI (Rdr.p ((anyExpr (Rdr.mk (Rdr.b (newReader code)) ((Rdr.p (newReader code)) + 1)) (1 + (pick (Rdr.b (newReader code)) (Rdr.p (newReader code)) 3))).2))]), (68, .arr 1 (.int .i64) (([] : List Int) : List Int))]⟩ ?_)
 refine AW.seq (AW.seq (AW.r1 hC [2, 4, 5, 6, 7, 8] [8, 24, 40, 68] ⟨[(2, .ref 8 1 0), (4, .ref 40 1 0), (5, sI (1 + (pick (Rdr.b (newReader code)) (Rdr.p (newReader code)) 3))), (6, .ref 24 1 0), (7, .arr 68 1), (8, sI 0)], [(8, .box 1 [sI 0, sI 0, sB false, sI 0, .nilsl]), (24, .box 1 [sI (Xpr.Kind ((anyExpr (Rdr.mk (Rdr.b (newReader code)) ((Rdr.p (newReader code)) + 1)) (1 + (pick (Rdr.b (newReader code)) (Rdr.p (newReader code)) 3))).1)), sI (Xpr.Col ((anyExpr (Rdr.mk (Rdr.b (newReader code)) ((Rdr.p (newReader code)) + 1)) (1 + (pick (Rdr.b (newReader code)) (Rdr.p (newReader code)) 3))).1)), sB (Val.Null (Xpr.V ((anyExpr (Rdr.mk (Rdr.b (newReader code)) ((Rdr.p (newReader code)) + 1)) (1 + (pick (Rdr.b (newReader code)) (Rdr.p (newReader code)) 3))).1))), sI (Val.N (Xpr.V ((anyExpr (Rdr.mk (Rdr.b (newReader code)) ((Rdr.p (newReader code)) + 1)) (1 + (pick (Rdr.b (newReader code)) (Rdr.p (newReader code)) 3))).1))), sD9 (Xpr.Kids ((anyExpr (Rdr.mk (Rdr.b (newReader code)) ((Rdr.p (newReader code)) + 1)) (1 + (pick (Rdr.b (newReader code)) (Rdr.p (newReader code)) 3))).1))]), (40, .box 1 [sD7 (Rdr.b ((anyExpr (Rdr.mk (Rdr.b (newReader code)) ((Rdr.p (newReader code)) + 1)) (1 + (pick (Rdr.b (newReader code)) (Rdr.p (newReader code)) 3))).2)), sI (Rdr.p ((anyExpr (Rdr.mk (Rdr.b (newReader code)) ((Rdr.p (newReader code)) + 1)) (1 + (pick (Rdr.b (newReader code)) (Rdr.p (newReader code)) 3))).2))]), (68, .arr 1 (.int .i64) (([] : List Int) : List Int))]⟩ ?_))
 refine AW.cutQ (α := Int × (List Int)) (fun x => ⟨[(2, .ref 8 1 0), (4, .ref 40 1 0), (6, .ref 24 1 0), (7, .arr 68 1)], [(8, .box 1 [sI 0, sI 0, sB false, sI 0, .nilsl]), (24, .box 1 [sI (Xpr.Kind ((anyExpr (Rdr.mk (Rdr.b (newReader code)) ((Rdr.p (newReader code)) + 1)) (1 + (pick (Rdr.b (newReader code)) (Rdr.p (newReader code)) 3))).1)), sI (Xpr.Col ((anyExpr (Rdr.mk (Rdr.b (newReader code)) ((Rdr.p (newReader code)) + 1)) (1 + (pick (Rdr.b (newReader code)) (Rdr.p (newReader code)) 3))).1)), sB (Val.Null (Xpr.V ((anyExpr (Rdr.mk (Rdr.b (newReader code)) ((Rdr.p (newReader code)) + 1)) (1 + (pick (Rdr.b (newReader code)) (Rdr.p (newReader code)) 3))).1))), sI (Val.N (Xpr.V ((anyExpr (Rdr.mk (Rdr.b (newReader code)) ((Rdr.p (newReader code)) + 1)) (1 + (pick (Rdr.b (newReader code)) (Rdr.p (newReader code)) 3))).1))), sD9 (Xpr.Kids ((anyExpr (Rdr.mk (Rdr.b (newReader code)) ((Rdr.p (newReader code)) + 1)) (1 + (pick (Rdr.b (newReader code)) (Rdr.p (newReader code)) 3))).1))]), (40, .box 1 [sD7 (Rdr.b ((anyExpr (Rdr.mk (Rdr.b (newReader code)) ((Rdr.p (newReader code)) + 1)) (1 + (pick (Rdr.b (newReader code)) (Rdr.p (newReader code)) 3))).2)), sI x.1]), (68, .arr 1 (.int .i64) (x.2 : List Int))]⟩) (fun x => ((0 ≤ x.1 ∧ x.1 ≤ 210) ∧ (1 ≤ List.length x.2 ∧ List.length x.2 ≤ 3)) ∧ (DrawOutcomes_l0 code (Int.toNat ((1 + (pick (Rdr.b (newReader code)) (Rdr.p (newReader code)) 3)) - ((0 : Nat) : Int)) + 1) 0 (Rdr.p ((anyExpr (Rdr.mk (Rdr.b (newReader code)) ((Rdr.p (newReader code)) + 1)) (1 + (pick (Rdr.b (newReader code)) (Rdr.p (newReader code)) 3))).2)) ([] : List Int)) = x) ?_ ?_
 ·
  skip
  refine AW.block (AW.loop (α := Nat × Int × (List Int)) (fun x => ⟨[(2, .ref 8 1 0), (4, .ref 40 1 0), (5, sI (1 + (pick (Rdr.b (newReader code)) (Rdr.p (newReader code)) 3))), (6, .ref 24 1 0), (7, .arr 68 1), (8, sI ((x.1 : Nat) : Int))], [(8, .box 1 [sI 0, sI 0, sB false, sI 0, .nilsl]), (24, .box 1 [sI (Xpr.Kind ((anyExpr (Rdr.mk (Rdr.b (newReader code)) ((Rdr.p (newReader code)) + 1)) (1 + (pick (Rdr.b (newReader code)) (Rdr.p (newReader code)) 3))).1)), sI (Xpr.Col ((anyExpr (Rdr.mk (Rdr.b (newReader code)) ((Rdr.p (newReader code)) + 1)) (1 + (pick (Rdr.b (newReader code)) (Rdr.p (newReader code)) 3))).1)), sB (Val.Null (Xpr.V ((anyExpr (Rdr.mk (Rdr.b (newReader code)) ((Rdr.p (newReader code)) + 1)) (1 + (pick (Rdr.b (newReader code)) (Rdr.p (newReader code)) 3))).1))), sI (Val.N (Xpr.V ((anyExpr (Rdr.mk (Rdr.b (newReader code)) ((Rdr.p (newReader code)) + 1)) (1 + (pick (Rdr.b (newReader code)) (Rdr.p (newReader code)) 3))).1))), sD9 (Xpr.Kids ((anyExpr (Rdr.mk (Rdr.b (newReader code)) ((Rdr.p (newReader code)) + 1)) (1 + (pick (Rdr.b (newReader code)) (Rdr.p (newReader code)) 3))).1))]), (40, .box 1 [sD7 (Rdr.b ((anyExpr (Rdr.mk (Rdr.b (newReader code)) ((Rdr.p (newReader code)) + 1)) (1 + (pick (Rdr.b (newReader code)) (Rdr.p (newReader code)) 3))).2)), sI x.2.1]), (68, .arr 1 (.int .i64) (x.2.2 : List Int))]⟩) (fun x => ((0 ≤ x.2.1 ∧ x.2.1 ≤ 200 + (x.1 : Int)) ∧ List.length x.2.2 = x.1 ∧ (x.1 : Int) ≤ 1 + pick (Rdr.b (newReader code)) (Rdr.p (newReader code)) 3) ∧ ∃ k, Int.toNat ((1 + (pick (Rdr.b (newReader code)) (Rdr.p (newReader code)) 3)) - ((x.1 : Nat) : Int)) < k ∧ (DrawOutcomes_l0 code (Int.toNat ((1 + (pick (Rdr.b (newReader code)) (Rdr.p (newReader code)) 3)) - ((0 : Nat) : Int)) + 1) 0 (Rdr.p ((anyExpr (Rdr.mk (Rdr.b (newReader code)) ((Rdr.p (newReader code)) + 1)) (1 + (pick (Rdr.b (newReader code)) (Rdr.p (newReader code)) 3))).2)) ([] : List Int)) = DrawOutcomes_l0 code k x.1 x.2.1 x.2.2) (fun x => Int.toNat ((1 + (pick (Rdr.b (newReader code)) (Rdr.p (newReader code)) 3)) - ((x.1 : Nat) : Int))) (0, (Rdr.p ((anyExpr (Rdr.mk (Rdr.b (newReader code)) ((Rdr.p (newReader code)) + 1)) (1 + (pick (Rdr.b (newReader code)) (Rdr.p (newReader code)) 3))).2)), ([] : List Int)) (by kernel_rfl) ⟨?_, _, Nat.lt_succ_self _, rfl⟩ ?_)
  ·
   show (0 ≤ (Rdr.p ((anyExpr (Rdr.mk (Rdr.b (newReader code)) ((Rdr.p (newReader code)) + 1)) (1 + (pick (Rdr.b (newReader code)) (Rdr.p (newReader code)) 3))).2)) ∧ (Rdr.p ((anyExpr (Rdr.mk (Rdr.b (newReader code)) ((Rdr.p (newReader code)) + 1)) (1 + (pick (Rdr.b (newReader code)) (Rdr.p (newReader code)) 3))).2)) ≤ 200 + (0 : Int)) ∧ List.length ([] : List Int) = 0 ∧ (0 : Int) ≤ 1 + pick (Rdr.b (newReader code)) (Rdr.p (newReader code)) 3
   exact ⟨⟨by omega, by omega⟩, rfl, by omega⟩
  ·
   intro x hR
   obtain ⟨i, r1, states⟩ := x
   obtain ⟨hI0, k15, hk13, e14⟩ := hR
   replace hI0 : (0 ≤ r1 ∧ r1 ≤ 200 + (i : Int)) ∧ List.length states = i ∧ (i : Int) ≤ 1 + pick (Rdr.b (newReader code)) (Rdr.p (newReader code)) 3 := hI0
   replace hk13 : Int.toNat ((1 + (pick (Rdr.b (newReader code)) (Rdr.p (newReader code)) 3)) - ((i : Nat) : Int)) < k15 := hk13
   obtain ⟨k15q, rfl⟩ : ∃ k, k15 = k + 1 := ⟨k15 - 1, by omega⟩
   refine AW.seq (AW.seq (AW.r1 hC [2, 4, 5, 6, 7, 8, 20] [8, 24, 40, 68] ⟨[(2, .ref 8 1 0), (4, .ref 40 1 0), (5, sI (1 + (pick (Rdr.b (newReader code)) (Rdr.p (newReader code)) 3))), (6, .ref 24 1 0), (7, .arr 68 1), (8, sI ((i : Nat) : Int)), (20, sB (decide (((i : Nat) : Int) < (1 + (pick (Rdr.b (newReader code)) (Rdr.p (newReader code)) 3)))))], [(8, .box 1 [sI 0, sI 0, sB false, sI 0, .nilsl]), (24, .box 1 [sI (Xpr.Kind ((anyExpr (Rdr.mk (Rdr.b (newReader code)) ((Rdr.p (newReader code)) + 1)) (1 + (pick (Rdr.b (newReader code)) (Rdr.p (newReader code)) 3))).1)), sI (Xpr.Col ((anyExpr (Rdr.mk (Rdr.b (newReader code)) ((Rdr.p (newReader code)) + 1)) (1 + (pick (Rdr.b (newReader code)) (Rdr.p (newReader code)) 3))).1)), sB (Val.Null (Xpr.V ((anyExpr (Rdr.mk (Rdr.b (newReader code)) ((Rdr.p (newReader code)) + 1)) (1 + (pick (Rdr.b (newReader code)) (Rdr.p (newReader code)) 3))).1))), sI (Val.N (Xpr.V ((anyExpr (Rdr.mk (Rdr.b (newReader code)) ((Rdr.p (newReader code)) + 1)) (1 + (pick (Rdr.b (newReader code)) (Rdr.p (newReader code)) 3))).1))), sD9 (Xpr.Kids ((anyExpr (Rdr.mk (Rdr.b (newReader code)) ((Rdr.p (newReader code)) + 1)) (1 + (pick (Rdr.b (newReader code)) (Rdr.p (newReader code)) 3))).1))]), (40, .box 1 [sD7 (Rdr.b ((anyExpr (Rdr.mk (Rdr.b (newReader code)) ((Rdr.p (newReader code)) + 1)) (1 + (pick (Rdr.b (newReader code)) (Rdr.p (newReader code)) 3))).2)), sI r1]), (68, .arr 1 (.int .i64) (states : List Int))]⟩ ?_))
   refine AW.cd (decide (((i : Nat) : Int) < (1 + (pick (Rdr.b (newReader code)) (Rdr.p (newReader code)) 3)))) ?_ ?_
   ·
    intro h16
    have h16q := (of_decide_eq_true h16)
    have e17 := e14.trans (Go.Am.bif_t h16)
    refine AW.kp [2, 4, 5, 6, 7, 8] [8, 24, 40, 68] ⟨[(2, .ref 8 1 0), (4, .ref 40 1 0), (5, sI (1 + (pick (Rdr.b (newReader code)) (Rdr.p (newReader code)) 3))), (6, .ref 24 1 0), (7, .arr 68 1), (8, sI ((i : Nat) : Int))], [(8, .box 1 [sI 0, sI 0, sB false, sI 0, .nilsl]), (24, .box 1 [sI (Xpr.Kind ((anyExpr (Rdr.mk (Rdr.b (newReader code)) ((Rdr.p (newReader code)) + 1)) (1 + (pick (Rdr.b (newReader code)) (Rdr.p (newReader code)) 3))).1)), sI (Xpr.Col ((anyExpr (Rdr.mk (Rdr.b (newReader code)) ((Rdr.p (newReader code)) + 1)) (1 + (pick (Rdr.b (newReader code)) (Rdr.p (newReader code)) 3))).1)), sB (Val.Null (Xpr.V ((anyExpr (Rdr.mk (Rdr.b (newReader code)) ((Rdr.p (newReader code)) + 1)) (1 + (pick (Rdr.b (newReader code)) (Rdr.p (newReader code)) 3))).1))), sI (Val.N (Xpr.V ((anyExpr (Rdr.mk (Rdr.b (newReader code)) ((Rdr.p (newReader code)) + 1)) (1 + (pick (Rdr.b (newReader code)) (Rdr.p (newReader code)) 3))).1))), sD9 (Xpr.Kids ((anyExpr (Rdr.mk (Rdr.b (newReader code)) ((Rdr.p (newReader code)) + 1)) (1 + (pick (Rdr.b (newReader code)) (Rdr.p (newReader code)) 3))).1))]), (40, .box 1 [sD7 (Rdr.b ((anyExpr (Rdr.mk (Rdr.b (newReader code)) ((Rdr.p (newReader code)) + 1)) (1 + (pick (Rdr.b (newReader code)) (Rdr.p (newReader code)) 3))).2)), sI r1]), (68, .arr 1 (.int .i64) (states : List Int))]⟩ ?_
    refine AW.skip (AW.seq (AW.block (AW.r0 hC [2, 4, 5, 6, 7, 8] [8, 24, 40, 68] ⟨[(2, .ref 8 1 0), (4, .ref 40 1 0), (5, sI (1 + (pick (Rdr.b (newReader code)) (Rdr.p (newReader code)) 3))), (6, .ref 24 1 0), (7, .arr 68 1), (8, sI ((i : Nat) : Int))], [(8, .box 1 [sI 0, sI 0, sB false, sI 0, .nilsl]), (24, .box 1 [sI (Xpr.Kind ((anyExpr (Rdr.mk (Rdr.b (newReader code)) ((Rdr.p (newReader code)) + 1)) (1 + (pick (Rdr.b (newReader code)) (Rdr.p (newReader code)) 3))).1)), sI (Xpr.Col ((anyExpr (Rdr.mk (Rdr.b (newReader code)) ((Rdr.p (newReader code)) + 1)) (1 + (pick (Rdr.b (newReader code)) (Rdr.p (newReader code)) 3))).1)), sB (Val.Null (Xpr.V ((anyExpr (Rdr.mk (Rdr.b (newReader code)) ((Rdr.p (newReader code)) + 1)) (1 + (pick (Rdr.b (newReader code)) (Rdr.p (newReader code)) 3))).1))), sI (Val.N (Xpr.V ((anyExpr (Rdr.mk (Rdr.b (newReader code)) ((Rdr.p (newReader code)) + 1)) (1 + (pick (Rdr.b (newReader code)) (Rdr.p (newReader code)) 3))).1))), sD9 (Xpr.Kids ((anyExpr (Rdr.mk (Rdr.b (newReader code)) ((Rdr.p (newReader code)) + 1)) (1 + (pick (Rdr.b (newReader code)) (Rdr.p (newReader code)) 3))).1))]), (40, .box 1 [sD7 (Rdr.b ((anyExpr (Rdr.mk (Rdr.b (newReader code)) ((Rdr.p (newReader code)) + 1)) (1 + (pick (Rdr.b (newReader code)) (Rdr.p (newReader code)) 3))).2)), sI (r1 + 1)]), (68, .arr 1 (.int .i64) ((states ++ ([(1 + (pick (Rdr.b ((anyExpr (Rdr.mk (Rdr.b (newReader code)) ((Rdr.p (newReader code)) + 1)) (1 + (pick (Rdr.b (newReader code)) (Rdr.p (newReader code)) 3))).2)) r1 7))] : List Int)) : List Int))]⟩ [(0 ≤ (Rdr.mk (Rdr.b ((anyExpr (Rdr.mk (Rdr.b (newReader code)) ((Rdr.p (newReader code)) + 1)) (1 + (pick (Rdr.b (newReader code)) (Rdr.p (newReader code)) 3))).2)) r1).p ∧ (Rdr.mk (Rdr.b ((anyExpr (Rdr.mk (Rdr.b (newReader code)) ((Rdr.p (newReader code)) + 1)) (1 + (pick (Rdr.b (newReader code)) (Rdr.p (newReader code)) 3))).2)) r1).p ≤ 1099511627776), R64 (1 + (pick (Rdr.b ((anyExpr (Rdr.mk (Rdr.b (newReader code)) ((Rdr.p (newReader code)) + 1)) (1 + (pick (Rdr.b (newReader code)) (Rdr.p (newReader code)) 3))).2)) r1 7)), (((List.length states : Nat) : Int) + ((List.length ([(1 + (pick (Rdr.b ((anyExpr (Rdr.mk (Rdr.b (newReader code)) ((Rdr.p (newReader code)) + 1)) (1 + (pick (Rdr.b (newReader code)) (Rdr.p (newReader code)) 3))).2)) r1 7))] : List Int) : Nat) : Int) ≤ 4294967296)] ?_ ?_)))
    ·
     refine ⟨?_, ?_, ?_, trivial⟩
     ·
      first | omega | (dsimp only; omega) | (simp only [List.length_append, List.length_cons, List.length_nil]; omega) | (have h7 := pick_ok (n := 7) (anyExpr { b := (newReader code).b, p := (newReader code).p + 1 } (1 + pick (newReader code).b (newReader code).p 3)).snd.b r1 (by decide); omega) | (refine ⟨?_, ?_⟩ <;> first | omega | (dsimp only; omega) | (simp only [List.length_cons, List.length_nil]; omega))
     ·
      refine R64.of ?_
      first | omega | (dsimp only; omega) | (simp only [List.length_append, List.length_cons, List.length_nil]; omega) | (have h7 := pick_ok (n := 7) (anyExpr { b := (newReader code).b, p := (newReader code).p + 1 } (1 + pick (newReader code).b (newReader code).p 3)).snd.b r1 (by decide); omega) | (refine ⟨?_, ?_⟩ <;> first | omega | (dsimp only; omega) | (simp only [List.length_cons, List.length_nil]; omega))
     ·
      first | omega | (dsimp only; omega) | (simp only [List.length_append, List.length_cons, List.length_nil]; omega) | (have h7 := pick_ok (n := 7) (anyExpr { b := (newReader code).b, p := (newReader code).p + 1 } (1 + pick (newReader code).b (newReader code).p 3)).snd.b r1 (by decide); omega) | (refine ⟨?_, ?_⟩ <;> first | omega | (dsimp only; omega) | (simp only [List.length_cons, List.length_nil]; omega))
    refine AW.r0 hC [2, 4, 5, 6, 7, 8] [8, 24, 40, 68] ⟨[(2, .ref 8 1 0), (4, .ref 40 1 0), (5, sI (1 + (pick (Rdr.b (newReader code)) (Rdr.p (newReader code)) 3))), (6, .ref 24 1 0), (7, .arr 68 1), (8, sI ((i + 1 : Nat) : Int))], [(8, .box 1 [sI 0, sI 0, sB false, sI 0, .nilsl]), (24, .box 1 [sI (Xpr.Kind ((anyExpr (Rdr.mk (Rdr.b (newReader code)) ((Rdr.p (newReader code)) + 1)) (1 + (pick (Rdr.b (newReader code)) (Rdr.p (newReader code)) 3))).1)), sI (Xpr.Col ((anyExpr (Rdr.mk (Rdr.b (newReader code)) ((Rdr.p (newReader code)) + 1)) (1 + (pick (Rdr.b (newReader code)) (Rdr.p (newReader code)) 3))).1)), sB (Val.Null (Xpr.V ((anyExpr (Rdr.mk (Rdr.b (newReader code)) ((Rdr.p (newReader code)) + 1)) (1 + (pick (Rdr.b (newReader code)) (Rdr.p (newReader code)) 3))).1))), sI (Val.N (Xpr.V ((anyExpr (Rdr.mk (Rdr.b (newReader code)) ((Rdr.p (newReader code)) + 1)) (1 + (pick (Rdr.b (newReader code)) (Rdr.p (newReader code)) 3))).1))), sD9 (Xpr.Kids ((anyExpr (Rdr.mk (Rdr.b (newReader code)) ((Rdr.p (newReader code)) + 1)) (1 + (pick (Rdr.b (newReader code)) (Rdr.p (newReader code)) 3))).1))]), (40, .box 1 [sD7 (Rdr.b ((anyExpr (Rdr.mk (Rdr.b (newReader code)) ((Rdr.p (newReader code)) + 1)) (1 + (pick (Rdr.b (newReader code)) (Rdr.p (newReader code)) 3))).2)), sI (r1 + 1)]), (68, .arr 1 (.int .i64) ((states ++ ([(1 + (pick (Rdr.b ((anyExpr (Rdr.mk (Rdr.b (newReader code)) ((Rdr.p (newReader code)) + 1)) (1 + (pick (Rdr.b (newReader code)) (Rdr.p (newReader code)) 3))).2)) r1 7))] : List Int)) : List Int))]⟩ [R64 ((i + 1 : Nat) : Int)] ?_ ?_
    ·
     refine ⟨?_, trivial⟩
     ·
      refine R64.of ?_
      first | omega | (dsimp only; omega) | (simp only [List.length_append, List.length_cons, List.length_nil]; omega) | (have h7 := pick_ok (n := 7) (anyExpr { b := (newReader code).b, p := (newReader code).p + 1 } (1 + pick (newReader code).b (newReader code).p 3)).snd.b r1 (by decide); omega) | (refine ⟨?_, ?_⟩ <;> first | omega | (dsimp only; omega) | (simp only [List.length_cons, List.length_nil]; omega))
    refine AW.back (x := (i, r1, states)) (i + 1, (r1 + 1), (states ++ ([(1 + (pick (Rdr.b ((anyExpr (Rdr.mk (Rdr.b (newReader code)) ((Rdr.p (newReader code)) + 1)) (1 + (pick (Rdr.b (newReader code)) (Rdr.p (newReader code)) 3))).2)) r1 7))] : List Int))) (by kernel_rfl) ⟨?_, k15q, ?_, e17⟩ ?_
    ·
     show (0 ≤ (r1 + 1) ∧ (r1 + 1) ≤ 200 + ((i + 1) : Int)) ∧ List.length (states ++ ([(1 + (pick (Rdr.b ((anyExpr (Rdr.mk (Rdr.b (newReader code)) ((Rdr.p (newReader code)) + 1)) (1 + (pick (Rdr.b (newReader code)) (Rdr.p (newReader code)) 3))).2)) r1 7))] : List Int)) = (i + 1) ∧ ((i + 1) : Int) ≤ 1 + pick (Rdr.b (newReader code)) (Rdr.p (newReader code)) 3
     simp only [List.length_append, List.length_cons, List.length_nil]
     omega
    ·
     show Int.toNat ((1 + (pick (Rdr.b (newReader code)) (Rdr.p (newReader code)) 3)) - (((i + 1) : Nat) : Int)) < k15q
     first | omega | (simp only [lens]; omega)
    ·
     show Int.toNat ((1 + (pick (Rdr.b (newReader code)) (Rdr.p (newReader code)) 3)) - (((i + 1) : Nat) : Int)) < Int.toNat ((1 + (pick (Rdr.b (newReader code)) (Rdr.p (newReader code)) 3)) - ((i : Nat) : Int))
     first | omega | (simp only [lens]; omega)
   ·
    intro h18
    have h18q := (of_decide_eq_false h18)
    have e19 := e14.trans (Go.Am.bif_f h18)
    refine AW.kp [2, 4, 6, 7] [8, 24, 40, 68] ⟨[(2, .ref 8 1 0), (4, .ref 40 1 0), (6, .ref 24 1 0), (7, .arr 68 1)], [(8, .box 1 [sI 0, sI 0, sB false, sI 0, .nilsl]), (24, .box 1 [sI (Xpr.Kind ((anyExpr (Rdr.mk (Rdr.b (newReader code)) ((Rdr.p (newReader code)) + 1)) (1 + (pick (Rdr.b (newReader code)) (Rdr.p (newReader code)) 3))).1)), sI (Xpr.Col ((anyExpr (Rdr.mk (Rdr.b (newReader code)) ((Rdr.p (newReader code)) + 1)) (1 + (pick (Rdr.b (newReader code)) (Rdr.p (newReader code)) 3))).1)), sB (Val.Null (Xpr.V ((anyExpr (Rdr.mk (Rdr.b (newReader code)) ((Rdr.p (newReader code)) + 1)) (1 + (pick (Rdr.b (newReader code)) (Rdr.p (newReader code)) 3))).1))), sI (Val.N (Xpr.V ((anyExpr (Rdr.mk (Rdr.b (newReader code)) ((Rdr.p (newReader code)) + 1)) (1 + (pick (Rdr.b (newReader code)) (Rdr.p (newReader code)) 3))).1))), sD9 (Xpr.Kids ((anyExpr (Rdr.mk (Rdr.b (newReader code)) ((Rdr.p (newReader code)) + 1)) (1 + (pick (Rdr.b (newReader code)) (Rdr.p (newReader code)) 3))).1))]), (40, .box 1 [sD7 (Rdr.b ((anyExpr (Rdr.mk (Rdr.b (newReader code)) ((Rdr.p (newReader code)) + 1)) (1 + (pick (Rdr.b (newReader code)) (Rdr.p (newReader code)) 3))).2)), sI r1]), (68, .arr 1 (.int .i64) (states : List Int))]⟩ ?_
    refine AW.exit ?_
    refine AW.meet (r1, states) (by kernel_rfl) ⟨?_, e19⟩
    show (0 ≤ r1 ∧ r1 ≤ 210) ∧ (1 ≤ List.length states ∧ List.length states ≤ 3)
    omega
 ·
  intro x hR
  obtain ⟨r1, states⟩ := x
  obtain ⟨hJ0, e20⟩ := hR
  replace hJ0 : (0 ≤ r1 ∧ r1 ≤ 210) ∧ (1 ≤ List.length states ∧ List.length states ≤ 3) := hJ0
  have e21 := e0.trans (Go.Am.then_eq e20)
  refine AW.seq (AW.seq (AW.r0 hC [2, 4, 6, 7, 31] [8, 24, 40, 68] ⟨[(2, .ref 8 1 0), (4, .ref 40 1 0), (6, .ref 24 1 0), (7, .arr 68 1), (31, sB ((pick (Rdr.b ((anyExpr (Rdr.mk (Rdr.b (newReader code)) ((Rdr.p (newReader code)) + 1)) (1 + (pick (Rdr.b (newReader code)) (Rdr.p (newReader code)) 3))).2)) r1 16) == 0))], [(8, .box 1 [sI 0, sI 0, sB false, sI 0, .nilsl]), (24, .box 1 [sI (Xpr.Kind ((anyExpr (Rdr.mk (Rdr.b (newReader code)) ((Rdr.p (newReader code)) + 1)) (1 + (pick (Rdr.b (newReader code)) (Rdr.p (newReader code)) 3))).1)), sI (Xpr.Col ((anyExpr (Rdr.mk (Rdr.b (newReader code)) ((Rdr.p (newReader code)) + 1)) (1 + (pick (Rdr.b (newReader code)) (Rdr.p (newReader code)) 3))).1)), sB (Val.Null (Xpr.V ((anyExpr (Rdr.mk (Rdr.b (newReader code)) ((Rdr.p (newReader code)) + 1)) (1 + (pick (Rdr.b (newReader code)) (Rdr.p (newReader code)) 3))).1))), sI (Val.N (Xpr.V ((anyExpr (Rdr.mk (Rdr.b (newReader code)) ((Rdr.p (newReader code)) + 1)) (1 + (pick (Rdr.b (newReader code)) (Rdr.p (newReader code)) 3))).1))), sD9 (Xpr.Kids ((anyExpr (Rdr.mk (Rdr.b (newReader code)) ((Rdr.p (newReader code)) + 1)) (1 + (pick (Rdr.b (newReader code)) (Rdr.p (newReader code)) 3))).1))]), (40, .box 1 [sD7 (Rdr.b ((anyExpr (Rdr.mk (Rdr.b (newReader code)) ((Rdr.p (newReader code)) + 1)) (1 + (pick (Rdr.b (newReader code)) (Rdr.p (newReader code)) 3))).2)), sI (r1 + 1)]), (68, .arr 1 (.int .i64) (states : List Int))]⟩ [(0 ≤ (Rdr.mk (Rdr.b ((anyExpr (Rdr.mk (Rdr.b (newReader code)) ((Rdr.p (newReader code)) + 1)) (1 + (pick (Rdr.b (newReader code)) (Rdr.p (newReader code)) 3))).2)) r1).p ∧ (Rdr.mk (Rdr.b ((anyExpr (Rdr.mk (Rdr.b (newReader code)) ((Rdr.p (newReader code)) + 1)) (1 + (pick (Rdr.b (newReader code)) (Rdr.p (newReader code)) 3))).2)) r1).p ≤ 1099511627776)] ?_ ?_))
  ·
   refine ⟨?_, trivial⟩
   ·
    first | omega | (dsimp only; omega) | (simp only [List.length_append, List.length_cons, List.length_nil]; omega) | (have h7 := pick_ok (n := 7) (anyExpr { b := (newReader code).b, p := (newReader code).p + 1 } (1 + pick (newReader code).b (newReader code).p 3)).snd.b r1 (by decide); omega) | (refine ⟨?_, ?_⟩ <;> first | omega | (dsimp only; omega) | (simp only [List.length_cons, List.length_nil]; omega))
  refine AW.cd ((pick (Rdr.b ((anyExpr (Rdr.mk (Rdr.b (newReader code)) ((Rdr.p (newReader code)) + 1)) (1 + (pick (Rdr.b (newReader code)) (Rdr.p (newReader code)) 3))).2)) r1 16) == 0) ?_ ?_
  ·
   intro h22
   have h22q := (Go.Am.beq_pos h22)
   have e23 := e21.trans (Go.Am.bif_t h22)
   refine AW.r0 hC [2, 6, 7] [8, 24, 68] ⟨[(2, .ref 8 1 0), (6, .ref 24 1 0), (7, .arr 68 1)], [(8, .box 1 [sI 0, sI 0, sB false, sI 0, .nilsl]), (24, .box 1 [sI (Xpr.Kind ((anyExpr (Rdr.mk (Rdr.b (newReader code)) ((Rdr.p (newReader code)) + 1)) (1 + (pick (Rdr.b (newReader code)) (Rdr.p (newReader code)) 3))).1)), sI (Xpr.Col ((anyExpr (Rdr.mk (Rdr.b (newReader code)) ((Rdr.p (newReader code)) + 1)) (1 + (pick (Rdr.b (newReader code)) (Rdr.p (newReader code)) 3))).1)), sB (Val.Null (Xpr.V ((anyExpr (Rdr.mk (Rdr.b (newReader code)) ((Rdr.p (newReader code)) + 1)) (1 + (pick (Rdr.b (newReader code)) (Rdr.p (newReader code)) 3))).1))), sI (Val.N (Xpr.V ((anyExpr (Rdr.mk (Rdr.b (newReader code)) ((Rdr.p (newReader code)) + 1)) (1 + (pick (Rdr.b (newReader code)) (Rdr.p (newReader code)) 3))).1))), sD9 (Xpr.Kids ((anyExpr (Rdr.mk (Rdr.b (newReader code)) ((Rdr.p (newReader code)) + 1)) (1 + (pick (Rdr.b (newReader code)) (Rdr.p (newReader code)) 3))).1))]), (68, .arr 1 (.int .i64) ((List.set states 0 (one (Rdr.b ((anyExpr (Rdr.mk (Rdr.b (newReader code)) ((Rdr.p (newReader code)) + 1)) (1 + (pick (Rdr.b (newReader code)) (Rdr.p (newReader code)) 3))).2)) (r1 + 1) ([0, 8] : List Int))) : List Int))]⟩ [((0 ≤ (Rdr.mk (Rdr.b ((anyExpr (Rdr.mk (Rdr.b (newReader code)) ((Rdr.p (newReader code)) + 1)) (1 + (pick (Rdr.b (newReader code)) (Rdr.p (newReader code)) 3))).2)) (r1 + 1)).p ∧ (Rdr.mk (Rdr.b ((anyExpr (Rdr.mk (Rdr.b (newReader code)) ((Rdr.p (newReader code)) + 1)) (1 + (pick (Rdr.b (newReader code)) (Rdr.p (newReader code)) 3))).2)) (r1 + 1)).p ≤ 1099511627775) ∧ 1 ≤ (List.length ([0, 8] : List Int) : Int)), IX (0 : Int) ((List.length states : Nat) : Int)] ?_ ?_
   ·
    refine ⟨?_, ?_, trivial⟩
    ·
     first | omega | (dsimp only; omega) | (simp only [List.length_append, List.length_cons, List.length_nil]; omega) | (have h7 := pick_ok (n := 7) (anyExpr { b := (newReader code).b, p := (newReader code).p + 1 } (1 + pick (newReader code).b (newReader code).p 3)).snd.b r1 (by decide); omega) | (refine ⟨?_, ?_⟩ <;> first | omega | (dsimp only; omega) | (simp only [List.length_cons, List.length_nil]; omega))
    ·
     refine IX.of ?_
     first | omega | (dsimp only; omega) | (simp only [List.length_append, List.length_cons, List.length_nil]; omega) | (have h7 := pick_ok (n := 7) (anyExpr { b := (newReader code).b, p := (newReader code).p + 1 } (1 + pick (newReader code).b (newReader code).p 3)).snd.b r1 (by decide); omega) | (refine ⟨?_, ?_⟩ <;> first | omega | (dsimp only; omega) | (simp only [List.length_cons, List.length_nil]; omega))
   refine AW.seq (AW.r1 hC [2, 3] [8, 68] ⟨[(2, .ref 8 1 0), (3, .arr 68 1)], [(8, .box 1 [sI (Xpr.Kind ((anyExpr (Rdr.mk (Rdr.b (newReader code)) ((Rdr.p (newReader code)) + 1)) (1 + (pick (Rdr.b (newReader code)) (Rdr.p (newReader code)) 3))).1)), sI (Xpr.Col ((anyExpr (Rdr.mk (Rdr.b (newReader code)) ((Rdr.p (newReader code)) + 1)) (1 + (pick (Rdr.b (newReader code)) (Rdr.p (newReader code)) 3))).1)), sB (Val.Null (Xpr.V ((anyExpr (Rdr.mk (Rdr.b (newReader code)) ((Rdr.p (newReader code)) + 1)) (1 + (pick (Rdr.b (newReader code)) (Rdr.p (newReader code)) 3))).1))), sI (Val.N (Xpr.V ((anyExpr (Rdr.mk (Rdr.b (newReader code)) ((Rdr.p (newReader code)) + 1)) (1 + (pick (Rdr.b (newReader code)) (Rdr.p (newReader code)) 3))).1))), sD9 (Xpr.Kids ((anyExpr (Rdr.mk (Rdr.b (newReader code)) ((Rdr.p (newReader code)) + 1)) (1 + (pick (Rdr.b (newReader code)) (Rdr.p (newReader code)) 3))).1))]), (68, .arr 1 (.int .i64) ((List.set states 0 (one (Rdr.b ((anyExpr (Rdr.mk (Rdr.b (newReader code)) ((Rdr.p (newReader code)) + 1)) (1 + (pick (Rdr.b (newReader code)) (Rdr.p (newReader code)) 3))).2)) (r1 + 1) ([0, 8] : List Int))) : List Int))]⟩ ?_)
   exact AW.ret (AW.retE (β := Xpr × (List Int)) (fun v => [⟨(.named 1), v.1⟩, ⟨(.slice (.int .i64)), v.2⟩]) (fun v => []) (v := ((Xpr.mk (Xpr.Kind ((anyExpr (Rdr.mk (Rdr.b (newReader code)) ((Rdr.p (newReader code)) + 1)) (1 + (pick (Rdr.b (newReader code)) (Rdr.p (newReader code)) 3))).1)) (Xpr.Col ((anyExpr (Rdr.mk (Rdr.b (newReader code)) ((Rdr.p (newReader code)) + 1)) (1 + (pick (Rdr.b (newReader code)) (Rdr.p (newReader code)) 3))).1)) (Xpr.V ((anyExpr (Rdr.mk (Rdr.b (newReader code)) ((Rdr.p (newReader code)) + 1)) (1 + (pick (Rdr.b (newReader code)) (Rdr.p (newReader code)) 3))).1)) (Xpr.Kids ((anyExpr (Rdr.mk (Rdr.b (newReader code)) ((Rdr.p (newReader code)) + 1)) (1 + (pick (Rdr.b (newReader code)) (Rdr.p (newReader code)) 3))).1))), (List.set states 0 (one (Rdr.b ((anyExpr (Rdr.mk (Rdr.b (newReader code)) ((Rdr.p (newReader code)) + 1)) (1 + (pick (Rdr.b (newReader code)) (Rdr.p (newReader code)) 3))).2)) (r1 + 1) ([0, 8] : List Int))))) e23 (by kernel_rfl) rfl rfl)
  ·
   intro h24
   have h24q := (Go.Am.beq_neg h24)
   have e25 := e21.trans (Go.Am.bif_f h24)
   refine AW.kp [2, 6, 7] [8, 24, 68] ⟨[(2, .ref 8 1 0), (6, .ref 24 1 0), (7, .arr 68 1)], [(8, .box 1 [sI 0, sI 0, sB false, sI 0, .nilsl]), (24, .box 1 [sI (Xpr.Kind ((anyExpr (Rdr.mk (Rdr.b (newReader code)) ((Rdr.p (newReader code)) + 1)) (1 + (pick (Rdr.b (newReader code)) (Rdr.p (newReader code)) 3))).1)), sI (Xpr.Col ((anyExpr (Rdr.mk (Rdr.b (newReader code)) ((Rdr.p (newReader code)) + 1)) (1 + (pick (Rdr.b (newReader code)) (Rdr.p (newReader code)) 3))).1)), sB (Val.Null (Xpr.V ((anyExpr (Rdr.mk (Rdr.b (newReader code)) ((Rdr.p (newReader code)) + 1)) (1 + (pick (Rdr.b (newReader code)) (Rdr.p (newReader code)) 3))).1))), sI (Val.N (Xpr.V ((anyExpr (Rdr.mk (Rdr.b (newReader code)) ((Rdr.p (newReader code)) + 1)) (1 + (pick (Rdr.b (newReader code)) (Rdr.p (newReader code)) 3))).1))), sD9 (Xpr.Kids ((anyExpr (Rdr.mk (Rdr.b (newReader code)) ((Rdr.p (newReader code)) + 1)) (1 + (pick (Rdr.b (newReader code)) (Rdr.p (newReader code)) 3))).1))]), (68, .arr 1 (.int .i64) (states : List Int))]⟩ ?_
   refine AW.skip (AW.seq (AW.r1 hC [2, 3] [8, 68] ⟨[(2, .ref 8 1 0), (3, .arr 68 1)], [(8, .box 1 [sI (Xpr.Kind ((anyExpr (Rdr.mk (Rdr.b (newReader code)) ((Rdr.p (newReader code)) + 1)) (1 + (pick (Rdr.b (newReader code)) (Rdr.p (newReader code)) 3))).1)), sI (Xpr.Col ((anyExpr (Rdr.mk (Rdr.b (newReader code)) ((Rdr.p (newReader code)) + 1)) (1 + (pick (Rdr.b (newReader code)) (Rdr.p (newReader code)) 3))).1)), sB (Val.Null (Xpr.V ((anyExpr (Rdr.mk (Rdr.b (newReader code)) ((Rdr.p (newReader code)) + 1)) (1 + (pick (Rdr.b (newReader code)) (Rdr.p (newReader code)) 3))).1))), sI (Val.N (Xpr.V ((anyExpr (Rdr.mk (Rdr.b (newReader code)) ((Rdr.p (newReader code)) + 1)) (1 + (pick (Rdr.b (newReader code)) (Rdr.p (newReader code)) 3))).1))), sD9 (Xpr.Kids ((anyExpr (Rdr.mk (Rdr.b (newReader code)) ((Rdr.p (newReader code)) + 1)) (1 + (pick (Rdr.b (newReader code)) (Rdr.p (newReader code)) 3))).1))]), (68, .arr 1 (.int .i64) (states : List Int))]⟩ ?_))
   exact AW.ret (AW.retE (β := Xpr × (List Int)) (fun v => [⟨(.named 1), v.1⟩, ⟨(.slice (.int .i64)), v.2⟩]) (fun v => []) (v := ((Xpr.mk (Xpr.Kind ((anyExpr (Rdr.mk (Rdr.b (newReader code)) ((Rdr.p (newReader code)) + 1)) (1 + (pick (Rdr.b (newReader code)) (Rdr.p (newReader code)) 3))).1)) (Xpr.Col ((anyExpr (Rdr.mk (Rdr.b (newReader code)) ((Rdr.p (newReader code)) + 1)) (1 + (pick (Rdr.b (newReader code)) (Rdr.p (newReader code)) 3))).1)) (Xpr.V ((anyExpr (Rdr.mk (Rdr.b (newReader code)) ((Rdr.p (newReader code)) + 1)) (1 + (pick (Rdr.b (newReader code)) (Rdr.p (newReader code)) 3))).1)) (Xpr.Kids ((anyExpr (Rdr.mk (Rdr.b (newReader code)) ((Rdr.p (newReader code)) + 1)) (1 + (pick (Rdr.b (newReader code)) (Rdr.p (newReader code)) 3))).1))), states)) e25 (by kernel_rfl) rfl rfl)

theorem iOutcomes_ne {e : Xpr} {st : List Int} (h : iOutcomes e st ≠ 0) : ((1 ≤ ((st.length : Nat) : Int) ∧ ((st.length : Nat) : Int) ≤ 6) ∧ VS st) ∧ VE ((st.length : Nat) : Int) 8 e ∧ iOutcomes e st = ioutcomes e st := by
 have hs := Outcomes_same e st
 rw [hs] at h
 unfold Outcomes at h hs
 cases hv : validStates st with
 | false => rw [hv] at h; exact absurd rfl h
 | true =>
  rw [Xpr.eta, hv] at h hs
  cases hx : ValidExpr e ((List.length st : Nat) : Int) with
  | false => rw [hx] at h; exact absurd rfl h
  | true =>
   have h1 := validStates_iff.1 hv
   have h2 := (ValidExpr_iff.1 hx).2
   refine ⟨h1, h2, ?_⟩
   rw [hx] at hs
   have hs' : iOutcomes e st = outcomes e st := hs
   rw [hs']
   exact outcomes_eq _ e st ⟨h1.2, 8, h2⟩

theorem iOutcomes_eq {e : Xpr} {st : List Int} (h : 1 ≤ ((st.length : Nat) : Int) ∧ ((st.length : Nat) : Int) ≤ 6) (hV : VS st) (hE : VE ((st.length : Nat) : Int) 8 e) : iOutcomes e st = ioutcomes e st := by
 rw [Outcomes_same]
 unfold Outcomes
 rw [Xpr.eta, validStates_iff.2 ⟨h, hV⟩, ValidExpr_iff.2 ⟨h, hE⟩]
 exact outcomes_eq _ e st ⟨hV, 8, hE⟩

def FnOutcomesMonotone (code : List Int) (more : List Int) : Bool := (bif (bif (decide (1048576 < ((List.length code : Nat) : Int))) then true else (decide (1048576 < ((List.length more : Nat) : Int)))) then true else (bif (bif ((iOutcomes (Xpr.mk (Xpr.Kind ((DrawOutcomes code).1)) (Xpr.Col ((DrawOutcomes code).1)) (Xpr.V ((DrawOutcomes code).1)) (Xpr.Kids ((DrawOutcomes code).1))) ((DrawOutcomes code).2)) != (Outcomes (Xpr.mk (Xpr.Kind ((DrawOutcomes code).1)) (Xpr.Col ((DrawOutcomes code).1)) (Xpr.V ((DrawOutcomes code).1)) (Xpr.Kids ((DrawOutcomes code).1))) ((DrawOutcomes code).2))) then true else ((iOutcomes (Xpr.mk (Xpr.Kind ((DrawOutcomes code).1)) (Xpr.Col ((DrawOutcomes code).1)) (Xpr.V ((DrawOutcomes code).1)) (Xpr.Kids ((DrawOutcomes code).1))) ((DrawOutcomes code).2)) == 0)) then ((iOutcomes (Xpr.mk (Xpr.Kind ((DrawOutcomes code).1)) (Xpr.Col ((DrawOutcomes code).1)) (Xpr.V ((DrawOutcomes code).1)) (Xpr.Kids ((DrawOutcomes code).1))) ((DrawOutcomes code).2)) == (Outcomes (Xpr.mk (Xpr.Kind ((DrawOutcomes code).1)) (Xpr.Col ((DrawOutcomes code).1)) (Xpr.V ((DrawOutcomes code).1)) (Xpr.Kids ((DrawOutcomes code).1))) ((DrawOutcomes code).2))) else ((bits .and .i64 (iOutcomes (Xpr.mk (Xpr.Kind ((DrawOutcomes code).1)) (Xpr.Col ((DrawOutcomes code).1)) (Xpr.V ((DrawOutcomes code).1)) (Xpr.Kids ((DrawOutcomes code).1))) (List.set (([] : List Int) ++ ((DrawOutcomes code).2)) (Int.toNat (((List.length more : Nat) : Int) % ((List.length ((DrawOutcomes code).2) : Nat) : Int))) (bits .or .i64 (List.getD (([] : List Int) ++ ((DrawOutcomes code).2)) (Int.toNat (((List.length more : Nat) : Int) % ((List.length ((DrawOutcomes code).2) : Nat) : Int))) 0) ((1 : Int) * 2 ^ (Int.toNat ((((List.length more : Nat) : Int) / 3) % 3)))))) (iOutcomes (Xpr.mk (Xpr.Kind ((DrawOutcomes code).1)) (Xpr.Col ((DrawOutcomes code).1)) (Xpr.V ((DrawOutcomes code).1)) (Xpr.Kids ((DrawOutcomes code).1))) ((DrawOutcomes code).2))) == (iOutcomes (Xpr.mk (Xpr.Kind ((DrawOutcomes code).1)) (Xpr.Col ((DrawOutcomes code).1)) (Xpr.V ((DrawOutcomes code).1)) (Xpr.Kids ((DrawOutcomes code).1))) ((DrawOutcomes code).2)))))

def FnOutcomesMonotone_sp : FnSpec := mkSpec [.val (.slice (.int .u8)), .val (.slice (.int .u8))] [.val .bool] (fun (code : List Int) (more : List Int) => True) (fun (code : List Int) (more : List Int) => [⟨.bool, (FnOutcomesMonotone code more)⟩])

theorem FnOutcomesMonotone_ok : FnOK Try.prog 3 FnOutcomesMonotone_sp := by
 have hC : CtxOK Try.prog (mkCtx tyL [(7, DrawOutcomes_sp), (8, iOutcomes_sp), (9, Outcomes_sp)]) := CtxOK.cons DrawOutcomes_ok (CtxOK.cons iOutcomes_ok (CtxOK.cons Outcomes_ok (CtxOK.nil tyOK)))
 have hM : Try.prog.follows .mixedOrders = true := Try.checked.mixed
 refine FnOK.of_body Try.func3 (by kernel_rfl) rfl (C := (mkCtx tyL [(7, DrawOutcomes_sp), (8, iOutcomes_sp), (9, Outcomes_sp)])) hC.ty (by kernel_rfl) ?_
 intro (code : List Int) (more : List Int) hwf hpre E
 have hpre : True := hpre
 have hw_code : Wf ⟨(.slice (.int .u8)), (code : List Int)⟩ := hwf _ (List.Mem.head _)
 have hl_code : ((List.length code : Nat) : Int) ≤ 9223372036854775807 := hw_code.len
 have hw_more : Wf ⟨(.slice (.int .u8)), (more : List Int)⟩ := hwf _ (List.Mem.tail _ (List.Mem.head _))
 have hl_more : ((List.length more : Nat) : Int) ≤ 9223372036854775807 := hw_more.len
 have e0 : FnOutcomesMonotone code more = FnOutcomesMonotone code more := rfl
 refine AW.seq (AW.r1 hC [0, 1] [] ⟨[(0, sD7 code), (1, sD7 more)], []⟩ ?_)
 refine AW.seq (AW.seq (AW.r0 hC [0, 1, 17] [] ⟨[(0, sD7 code), (1, sD7 more), (17, sB (bif (decide (1048576 < ((List.length code : Nat) : Int))) then true else (decide (1048576 < ((List.length more : Nat) : Int)))))], []⟩ [(((decide (1048576 < ((List.length code : Nat) : Int))) = false) → (((decide (1048576 < ((List.length code : Nat) : Int))) = false))), (((decide (1048576 < ((List.length code : Nat) : Int))) = false) → (((decide (1048576 < ((List.length code : Nat) : Int))) = false))), (((decide (1048576 < ((List.length code : Nat) : Int))) = false) → (((decide (1048576 < ((List.length code : Nat) : Int))) = false)))] ?_ ?_))
 ·
  refine ⟨?_, ?_, ?_, trivial⟩
  ·
   intro g1
   have g1p0 : ¬ (1048576 < ((List.length code : Nat) : Int)) := (of_decide_eq_false g1)
   first | assumption | exact ⟨by assumption, by assumption⟩
  ·
   intro g2
   have g2p0 : ¬ (1048576 < ((List.length code : Nat) : Int)) := (of_decide_eq_false g2)
   first | assumption | exact ⟨by assumption, by assumption⟩
  ·
   intro g3
   have g3p0 : ¬ (1048576 < ((List.length code : Nat) : Int)) := (of_decide_eq_false g3)
   first | assumption | exact ⟨by assumption, by assumption⟩
 refine AW.cd (bif (decide (1048576 < ((List.length code : Nat) : Int))) then true else (decide (1048576 < ((List.length more : Nat) : Int)))) ?_ ?_
 ·
  intro h4
  have h4q : (1048576 < ((List.length code : Nat) : Int)) ∨ (1048576 < ((List.length more : Nat) : Int)) := (Or.imp (fun h => (of_decide_eq_true h)) (fun h => (of_decide_eq_true h)) (Go.Am.or_pos h4))
  have e5 := e0.trans (Go.Am.bif_t h4)
  refine AW.seq (AW.r1 hC [4] [] ⟨[(4, sB true)], []⟩ ?_)
  exact AW.ret (AW.rB true e5)
 ·
  intro h6
  have h6q : (¬ (1048576 < ((List.length code : Nat) : Int))) ∧ (¬ (1048576 < ((List.length more : Nat) : Int))) := (And.imp (fun h => (of_decide_eq_false h)) (fun h => (of_decide_eq_false h)) (Go.Am.or_neg h6))
  have e7 := e0.trans (Go.Am.bif_f h6)
  refine AW.kp [0, 1] [] ⟨[(0, sD7 code), (1, sD7 more)], []⟩ ?_
  refine AW.skip (AW.seq (AW.r0 hC [1, 5, 6] [20, 81] ⟨[(1, sD7 more), (5, .ref 20 1 0), (6, .arr 81 1)], [(20, .box 1 [sI (Xpr.Kind ((DrawOutcomes code).1)), sI (Xpr.Col ((DrawOutcomes code).1)), sB (Val.Null (Xpr.V ((DrawOutcomes code).1))), sI (Val.N (Xpr.V ((DrawOutcomes code).1))), sD9 (Xpr.Kids ((DrawOutcomes code).1))]), (81, .arr 1 (.int .i64) (((DrawOutcomes code).2) : List Int))]⟩ [(True)] ?_ ?_))
  ·
   refine ⟨?_, trivial⟩
   ·
    trivial
  refine AW.seq (AW.r0 hC [1, 5, 6, 7] [20, 81] ⟨[(1, sD7 more), (5, .ref 20 1 0), (6, .arr 81 1), (7, sI (iOutcomes (Xpr.mk (Xpr.Kind ((DrawOutcomes code).1)) (Xpr.Col ((DrawOutcomes code).1)) (Xpr.V ((DrawOutcomes code).1)) (Xpr.Kids ((DrawOutcomes code).1))) ((DrawOutcomes code).2)))], [(20, .box 1 [sI (Xpr.Kind ((DrawOutcomes code).1)), sI (Xpr.Col ((DrawOutcomes code).1)), sB (Val.Null (Xpr.V ((DrawOutcomes code).1))), sI (Val.N (Xpr.V ((DrawOutcomes code).1))), sD9 (Xpr.Kids ((DrawOutcomes code).1))]), (81, .arr 1 (.int .i64) (((DrawOutcomes code).2) : List Int))]⟩ [(True)] ?_ ?_)
  ·
   refine ⟨?_, trivial⟩
   ·
    trivial
  refine AW.seq (AW.seq (AW.r0 hC [1, 5, 6, 7, 34] [20, 81] ⟨[(1, sD7 more), (5, .ref 20 1 0), (6, .arr 81 1), (7, sI (iOutcomes (Xpr.mk (Xpr.Kind ((DrawOutcomes code).1)) (Xpr.Col ((DrawOutcomes code).1)) (Xpr.V ((DrawOutcomes code).1)) (Xpr.Kids ((DrawOutcomes code).1))) ((DrawOutcomes code).2))), (34, sB (bif ((iOutcomes (Xpr.mk (Xpr.Kind ((DrawOutcomes code).1)) (Xpr.Col ((DrawOutcomes code).1)) (Xpr.V ((DrawOutcomes code).1)) (Xpr.Kids ((DrawOutcomes code).1))) ((DrawOutcomes code).2)) != (Outcomes (Xpr.mk (Xpr.Kind ((DrawOutcomes code).1)) (Xpr.Col ((DrawOutcomes code).1)) (Xpr.V ((DrawOutcomes code).1)) (Xpr.Kids ((DrawOutcomes code).1))) ((DrawOutcomes code).2))) then true else ((iOutcomes (Xpr.mk (Xpr.Kind ((DrawOutcomes code).1)) (Xpr.Col ((DrawOutcomes code).1)) (Xpr.V ((DrawOutcomes code).1)) (Xpr.Kids ((DrawOutcomes code).1))) ((DrawOutcomes code).2)) == 0)))], [(20, .box 1 [sI (Xpr.Kind ((DrawOutcomes code).1)), sI (Xpr.Col ((DrawOutcomes code).1)), sB (Val.Null (Xpr.V ((DrawOutcomes code).1))), sI (Val.N (Xpr.V ((DrawOutcomes code).1))), sD9 (Xpr.Kids ((DrawOutcomes code).1))]), (81, .arr 1 (.int .i64) (((DrawOutcomes code).2) : List Int))]⟩ [(True), ((((iOutcomes (Xpr.mk (Xpr.Kind ((DrawOutcomes code).1)) (Xpr.Col ((DrawOutcomes code).1)) (Xpr.V ((DrawOutcomes code).1)) (Xpr.Kids ((DrawOutcomes code).1))) ((DrawOutcomes code).2)) != (Outcomes (Xpr.mk (Xpr.Kind ((DrawOutcomes code).1)) (Xpr.Col ((DrawOutcomes code).1)) (Xpr.V ((DrawOutcomes code).1)) (Xpr.Kids ((DrawOutcomes code).1))) ((DrawOutcomes code).2))) = false) → ((((iOutcomes (Xpr.mk (Xpr.Kind ((DrawOutcomes code).1)) (Xpr.Col ((DrawOutcomes code).1)) (Xpr.V ((DrawOutcomes code).1)) (Xpr.Kids ((DrawOutcomes code).1))) ((DrawOutcomes code).2)) != (Outcomes (Xpr.mk (Xpr.Kind ((DrawOutcomes code).1)) (Xpr.Col ((DrawOutcomes code).1)) (Xpr.V ((DrawOutcomes code).1)) (Xpr.Kids ((DrawOutcomes code).1))) ((DrawOutcomes code).2))) = false))), ((((iOutcomes (Xpr.mk (Xpr.Kind ((DrawOutcomes code).1)) (Xpr.Col ((DrawOutcomes code).1)) (Xpr.V ((DrawOutcomes code).1)) (Xpr.Kids ((DrawOutcomes code).1))) ((DrawOutcomes code).2)) != (Outcomes (Xpr.mk (Xpr.Kind ((DrawOutcomes code).1)) (Xpr.Col ((DrawOutcomes code).1)) (Xpr.V ((DrawOutcomes code).1)) (Xpr.Kids ((DrawOutcomes code).1))) ((DrawOutcomes code).2))) = false) → ((((iOutcomes (Xpr.mk (Xpr.Kind ((DrawOutcomes code).1)) (Xpr.Col ((DrawOutcomes code).1)) (Xpr.V ((DrawOutcomes code).1)) (Xpr.Kids ((DrawOutcomes code).1))) ((DrawOutcomes code).2)) != (Outcomes (Xpr.mk (Xpr.Kind ((DrawOutcomes code).1)) (Xpr.Col ((DrawOutcomes code).1)) (Xpr.V ((DrawOutcomes code).1)) (Xpr.Kids ((DrawOutcomes code).1))) ((DrawOutcomes code).2))) = false)))] ?_ ?_))
  ·
   refine ⟨?_, ?_, ?_, trivial⟩
   ·
    trivial
   ·
    intro g8
    have g8p0 : (iOutcomes (Xpr.mk (Xpr.Kind ((DrawOutcomes code).1)) (Xpr.Col ((DrawOutcomes code).1)) (Xpr.V ((DrawOutcomes code).1)) (Xpr.Kids ((DrawOutcomes code).1))) ((DrawOutcomes code).2)) = (Outcomes (Xpr.mk (Xpr.Kind ((DrawOutcomes code).1)) (Xpr.Col ((DrawOutcomes code).1)) (Xpr.V ((DrawOutcomes code).1)) (Xpr.Kids ((DrawOutcomes code).1))) ((DrawOutcomes code).2)) := (Go.Am.bne_neg g8)
    first | assumption | exact ⟨by assumption, by assumption⟩
   ·
    intro g9
    have g9p0 : (iOutcomes (Xpr.mk (Xpr.Kind ((DrawOutcomes code).1)) (Xpr.Col ((DrawOutcomes code).1)) (Xpr.V ((DrawOutcomes code).1)) (Xpr.Kids ((DrawOutcomes code).1))) ((DrawOutcomes code).2)) = (Outcomes (Xpr.mk (Xpr.Kind ((DrawOutcomes code).1)) (Xpr.Col ((DrawOutcomes code).1)) (Xpr.V ((DrawOutcomes code).1)) (Xpr.Kids ((DrawOutcomes code).1))) ((DrawOutcomes code).2)) := (Go.Am.bne_neg g9)
    first | assumption | exact ⟨by assumption, by assumption⟩
  refine AW.cd (bif ((iOutcomes (Xpr.mk (Xpr.Kind ((DrawOutcomes code).1)) (Xpr.Col ((DrawOutcomes code).1)) (Xpr.V ((DrawOutcomes code).1)) (Xpr.Kids ((DrawOutcomes code).1))) ((DrawOutcomes code).2)) != (Outcomes (Xpr.mk (Xpr.Kind ((DrawOutcomes code).1)) (Xpr.Col ((DrawOutcomes code).1)) (Xpr.V ((DrawOutcomes code).1)) (Xpr.Kids ((DrawOutcomes code).1))) ((DrawOutcomes code).2))) then true else ((iOutcomes (Xpr.mk (Xpr.Kind ((DrawOutcomes code).1)) (Xpr.Col ((DrawOutcomes code).1)) (Xpr.V ((DrawOutcomes code).1)) (Xpr.Kids ((DrawOutcomes code).1))) ((DrawOutcomes code).2)) == 0)) ?_ ?_
  ·
   intro h10
   have h10q : ((iOutcomes (Xpr.mk (Xpr.Kind ((DrawOutcomes code).1)) (Xpr.Col ((DrawOutcomes code).1)) (Xpr.V ((DrawOutcomes code).1)) (Xpr.Kids ((DrawOutcomes code).1))) ((DrawOutcomes code).2)) ≠ (Outcomes (Xpr.mk (Xpr.Kind ((DrawOutcomes code).1)) (Xpr.Col ((DrawOutcomes code).1)) (Xpr.V ((DrawOutcomes code).1)) (Xpr.Kids ((DrawOutcomes code).1))) ((DrawOutcomes code).2))) ∨ ((iOutcomes (Xpr.mk (Xpr.Kind ((DrawOutcomes code).1)) (Xpr.Col ((DrawOutcomes code).1)) (Xpr.V ((DrawOutcomes code).1)) (Xpr.Kids ((DrawOutcomes code).1))) ((DrawOutcomes code).2)) = 0) := (Or.imp (fun h => (Go.Am.bne_pos h)) (fun h => (Go.Am.beq_pos h)) (Go.Am.or_pos h10))
   have e11 := e7.trans (Go.Am.bif_t h10)
   refine AW.seq (AW.r0 hC [4] [] ⟨[(4, sB ((iOutcomes (Xpr.mk (Xpr.Kind ((DrawOutcomes code).1)) (Xpr.Col ((DrawOutcomes code).1)) (Xpr.V ((DrawOutcomes code).1)) (Xpr.Kids ((DrawOutcomes code).1))) ((DrawOutcomes code).2)) == (Outcomes (Xpr.mk (Xpr.Kind ((DrawOutcomes code).1)) (Xpr.Col ((DrawOutcomes code).1)) (Xpr.V ((DrawOutcomes code).1)) (Xpr.Kids ((DrawOutcomes code).1))) ((DrawOutcomes code).2))))], []⟩ [(True)] ?_ ?_)
   ·
    refine ⟨?_, trivial⟩
    ·
     trivial
   exact AW.ret (AW.rB ((iOutcomes (Xpr.mk (Xpr.Kind ((DrawOutcomes code).1)) (Xpr.Col ((DrawOutcomes code).1)) (Xpr.V ((DrawOutcomes code).1)) (Xpr.Kids ((DrawOutcomes code).1))) ((DrawOutcomes code).2)) == (Outcomes (Xpr.mk (Xpr.Kind ((DrawOutcomes code).1)) (Xpr.Col ((DrawOutcomes code).1)) (Xpr.V ((DrawOutcomes code).1)) (Xpr.Kids ((DrawOutcomes code).1))) ((DrawOutcomes code).2))) e11)
  ·
   intro h12
   have h12q : ((iOutcomes (Xpr.mk (Xpr.Kind ((DrawOutcomes code).1)) (Xpr.Col ((DrawOutcomes code).1)) (Xpr.V ((DrawOutcomes code).1)) (Xpr.Kids ((DrawOutcomes code).1))) ((DrawOutcomes code).2)) = (Outcomes (Xpr.mk (Xpr.Kind ((DrawOutcomes code).1)) (Xpr.Col ((DrawOutcomes code).1)) (Xpr.V ((DrawOutcomes code).1)) (Xpr.Kids ((DrawOutcomes code).1))) ((DrawOutcomes code).2))) ∧ ((iOutcomes (Xpr.mk (Xpr.Kind ((DrawOutcomes code).1)) (Xpr.Col ((DrawOutcomes code).1)) (Xpr.V ((DrawOutcomes code).1)) (Xpr.Kids ((DrawOutcomes code).1))) ((DrawOutcomes code).2)) ≠ 0) := (And.imp (fun h => (Go.Am.bne_neg h)) (fun h => (Go.Am.beq_neg h)) (Go.Am.or_neg h12))
   have e13 := e7.trans (Go.Am.bif_f h12)
   refine AW.kp [1, 5, 6, 7] [20, 81] ⟨[(1, sD7 more), (5, .ref 20 1 0), (6, .arr 81 1), (7, sI (iOutcomes (Xpr.mk (Xpr.Kind ((DrawOutcomes code).1)) (Xpr.Col ((DrawOutcomes code).1)) (Xpr.V ((DrawOutcomes code).1)) (Xpr.Kids ((DrawOutcomes code).1))) ((DrawOutcomes code).2)))], [(20, .box 1 [sI (Xpr.Kind ((DrawOutcomes code).1)), sI (Xpr.Col ((DrawOutcomes code).1)), sB (Val.Null (Xpr.V ((DrawOutcomes code).1))), sI (Val.N (Xpr.V ((DrawOutcomes code).1))), sD9 (Xpr.Kids ((DrawOutcomes code).1))]), (81, .arr 1 (.int .i64) (((DrawOutcomes code).2) : List Int))]⟩ ?_
   refine AW.skip (AW.seq ?_)
   have hQ := iOutcomes_ne (e := (DrawOutcomes code).1) (st := (DrawOutcomes code).2) (by have h := h12q.2; rw [Xpr.eta] at h; exact h)
   have hQ1 := hQ.1.1
   refine AW.r0 hC [1, 5, 6, 7, 8] [20, 81, 160] ⟨[(1, sD7 more), (5, .ref 20 1 0), (6, .arr 81 1), (7, sI (iOutcomes (Xpr.mk (Xpr.Kind ((DrawOutcomes code).1)) (Xpr.Col ((DrawOutcomes code).1)) (Xpr.V ((DrawOutcomes code).1)) (Xpr.Kids ((DrawOutcomes code).1))) ((DrawOutcomes code).2))), (8, .arr 160 1)], [(20, .box 1 [sI (Xpr.Kind ((DrawOutcomes code).1)), sI (Xpr.Col ((DrawOutcomes code).1)), sB (Val.Null (Xpr.V ((DrawOutcomes code).1))), sI (Val.N (Xpr.V ((DrawOutcomes code).1))), sD9 (Xpr.Kids ((DrawOutcomes code).1))]), (81, .arr 1 (.int .i64) (((DrawOutcomes code).2) : List Int)), (160, .arr 1 (.int .i64) ((([] : List Int) ++ ((DrawOutcomes code).2)) : List Int))]⟩ [(0 + ((List.length ((DrawOutcomes code).2) : Nat) : Int) ≤ 4294967296)] ?_ ?_
   ·
    refine ⟨?_, trivial⟩
    ·
     first | omega | (simp only [List.nil_append]; exact ⟨Int.emod_nonneg _ (by omega), Int.emod_lt_of_pos _ (by omega)⟩)
   refine AW.seq (AW.r0 hC [1, 5, 7, 8, 9] [20, 160] ⟨[(1, sD7 more), (5, .ref 20 1 0), (7, sI (iOutcomes (Xpr.mk (Xpr.Kind ((DrawOutcomes code).1)) (Xpr.Col ((DrawOutcomes code).1)) (Xpr.V ((DrawOutcomes code).1)) (Xpr.Kids ((DrawOutcomes code).1))) ((DrawOutcomes code).2))), (8, .arr 160 1), (9, sI (((List.length more : Nat) : Int) % ((List.length ((DrawOutcomes code).2) : Nat) : Int)))], [(20, .box 1 [sI (Xpr.Kind ((DrawOutcomes code).1)), sI (Xpr.Col ((DrawOutcomes code).1)), sB (Val.Null (Xpr.V ((DrawOutcomes code).1))), sI (Val.N (Xpr.V ((DrawOutcomes code).1))), sD9 (Xpr.Kids ((DrawOutcomes code).1))]), (160, .arr 1 (.int .i64) ((([] : List Int) ++ ((DrawOutcomes code).2)) : List Int))]⟩ [(0 ≤ ((List.length more : Nat) : Int) ∧ 0 < ((List.length ((DrawOutcomes code).2) : Nat) : Int))] ?_ ?_)
   ·
    refine ⟨?_, trivial⟩
    ·
     first | omega | (simp only [List.nil_append]; exact ⟨Int.emod_nonneg _ (by omega), Int.emod_lt_of_pos _ (by omega)⟩)
   refine AW.seq (AW.d0 hC hM [5, 7, 8] [20, 160] ⟨[(5, .ref 20 1 0), (7, sI (iOutcomes (Xpr.mk (Xpr.Kind ((DrawOutcomes code).1)) (Xpr.Col ((DrawOutcomes code).1)) (Xpr.V ((DrawOutcomes code).1)) (Xpr.Kids ((DrawOutcomes code).1))) ((DrawOutcomes code).2))), (8, .arr 160 1)], [(20, .box 1 [sI (Xpr.Kind ((DrawOutcomes code).1)), sI (Xpr.Col ((DrawOutcomes code).1)), sB (Val.Null (Xpr.V ((DrawOutcomes code).1))), sI (Val.N (Xpr.V ((DrawOutcomes code).1))), sD9 (Xpr.Kids ((DrawOutcomes code).1))]), (160, .arr 1 (.int .i64) ((List.set (([] : List Int) ++ ((DrawOutcomes code).2)) (Int.toNat (((List.length more : Nat) : Int) % ((List.length ((DrawOutcomes code).2) : Nat) : Int))) (bits .or .i64 (List.getD (([] : List Int) ++ ((DrawOutcomes code).2)) (Int.toNat (((List.length more : Nat) : Int) % ((List.length ((DrawOutcomes code).2) : Nat) : Int))) 0) ((1 : Int) * 2 ^ (Int.toNat ((((List.length more : Nat) : Int) / 3) % 3))))) : List Int))]⟩ [IX (((List.length more : Nat) : Int) % ((List.length ((DrawOutcomes code).2) : Nat) : Int)) ((List.length (([] : List Int) ++ ((DrawOutcomes code).2)) : Nat) : Int), (0 ≤ ((List.length more : Nat) : Int) ∧ 0 < (3 : Int)), (0 ≤ (((List.length more : Nat) : Int) / 3) ∧ 0 < (3 : Int)), (0 ≤ ((((List.length more : Nat) : Int) / 3) % 3) ∧ ((((List.length more : Nat) : Int) / 3) % 3) ≤ 64), R64 ((1 : Int) * 2 ^ (Int.toNat ((((List.length more : Nat) : Int) / 3) % 3))), IX (((List.length more : Nat) : Int) % ((List.length ((DrawOutcomes code).2) : Nat) : Int)) ((List.length (([] : List Int) ++ ((DrawOutcomes code).2)) : Nat) : Int)] ?_ ?_)
   ·
    refine ⟨?_, ?_, ?_, ?_, ?_, ?_, trivial⟩
    ·
     refine IX.of ?_
     first | omega | (simp only [List.nil_append]; exact ⟨Int.emod_nonneg _ (by omega), Int.emod_lt_of_pos _ (by omega)⟩)
    ·
     first | omega | (simp only [List.nil_append]; exact ⟨Int.emod_nonneg _ (by omega), Int.emod_lt_of_pos _ (by omega)⟩)
    ·
     first | omega | (simp only [List.nil_append]; exact ⟨Int.emod_nonneg _ (by omega), Int.emod_lt_of_pos _ (by omega)⟩)
    ·
     first | omega | (simp only [List.nil_append]; exact ⟨Int.emod_nonneg _ (by omega), Int.emod_lt_of_pos _ (by omega)⟩)
    ·
     refine R64.of ?_
     have h3 : Int.toNat ((((List.length more : Nat) : Int) / 3) % 3) = 0 ∨ Int.toNat ((((List.length more : Nat) : Int) / 3) % 3) = 1 ∨ Int.toNat ((((List.length more : Nat) : Int) / 3) % 3) = 2 := by omega
     rcases h3 with h | h | h <;> rw [h] <;> decide
    ·
     refine IX.of ?_
     first | omega | (simp only [List.nil_append]; exact ⟨Int.emod_nonneg _ (by omega), Int.emod_lt_of_pos _ (by omega)⟩)
   refine AW.seq (AW.r0 hC [4] [] ⟨[(4, sB ((bits .and .i64 (iOutcomes (Xpr.mk (Xpr.Kind ((DrawOutcomes code).1)) (Xpr.Col ((DrawOutcomes code).1)) (Xpr.V ((DrawOutcomes code).1)) (Xpr.Kids ((DrawOutcomes code).1))) (List.set (([] : List Int) ++ ((DrawOutcomes code).2)) (Int.toNat (((List.length more : Nat) : Int) % ((List.length ((DrawOutcomes code).2) : Nat) : Int))) (bits .or .i64 (List.getD (([] : List Int) ++ ((DrawOutcomes code).2)) (Int.toNat (((List.length more : Nat) : Int) % ((List.length ((DrawOutcomes code).2) : Nat) : Int))) 0) ((1 : Int) * 2 ^ (Int.toNat ((((List.length more : Nat) : Int) / 3) % 3)))))) (iOutcomes (Xpr.mk (Xpr.Kind ((DrawOutcomes code).1)) (Xpr.Col ((DrawOutcomes code).1)) (Xpr.V ((DrawOutcomes code).1)) (Xpr.Kids ((DrawOutcomes code).1))) ((DrawOutcomes code).2))) == (iOutcomes (Xpr.mk (Xpr.Kind ((DrawOutcomes code).1)) (Xpr.Col ((DrawOutcomes code).1)) (Xpr.V ((DrawOutcomes code).1)) (Xpr.Kids ((DrawOutcomes code).1))) ((DrawOutcomes code).2))))], []⟩ [(True)] ?_ ?_)
   ·
    refine ⟨?_, trivial⟩
    ·
     trivial
   exact AW.ret (AW.rB ((bits .and .i64 (iOutcomes (Xpr.mk (Xpr.Kind ((DrawOutcomes code).1)) (Xpr.Col ((DrawOutcomes code).1)) (Xpr.V ((DrawOutcomes code).1)) (Xpr.Kids ((DrawOutcomes code).1))) (List.set (([] : List Int) ++ ((DrawOutcomes code).2)) (Int.toNat (((List.length more : Nat) : Int) % ((List.length ((DrawOutcomes code).2) : Nat) : Int))) (bits .or .i64 (List.getD (([] : List Int) ++ ((DrawOutcomes code).2)) (Int.toNat (((List.length more : Nat) : Int) % ((List.length ((DrawOutcomes code).2) : Nat) : Int))) 0) ((1 : Int) * 2 ^ (Int.toNat ((((List.length more : Nat) : Int) / 3) % 3)))))) (iOutcomes (Xpr.mk (Xpr.Kind ((DrawOutcomes code).1)) (Xpr.Col ((DrawOutcomes code).1)) (Xpr.V ((DrawOutcomes code).1)) (Xpr.Kids ((DrawOutcomes code).1))) ((DrawOutcomes code).2))) == (iOutcomes (Xpr.mk (Xpr.Kind ((DrawOutcomes code).1)) (Xpr.Col ((DrawOutcomes code).1)) (Xpr.V ((DrawOutcomes code).1)) (Xpr.Kids ((DrawOutcomes code).1))) ((DrawOutcomes code).2))) e13)

theorem sub_refl8 : ∀ a : Fin 8, bits .and .i64 (a.val : Int) (a.val : Int) = (a.val : Int) := by decide +kernel

theorem sub_refl {x : Int} (h : 0 ≤ x ∧ x ≤ 7) : Sub x x := by
 obtain ⟨a, rfl⟩ := un8 h
 exact sub_refl8 a

theorem or_mono : ∀ (a : Fin 8) (k : Fin 3), (bits .and .i64 (bits .or .i64 (a.val : Int) (2 ^ k.val)) (a.val : Int) == (a.val : Int)) = true ∧ decide (bits .or .i64 (a.val : Int) (2 ^ k.val) ≤ 7) = true ∧ decide (1 ≤ bits .or .i64 (a.val : Int) (2 ^ k.val)) = true := by decide +kernel

theorem FnOutcomesMonotone_law (code more : List Int) : FnOutcomesMonotone code more = true := by
 unfold FnOutcomesMonotone
 rw [Xpr.eta]
 generalize hE : (DrawOutcomes code).1 = e
 generalize hT : (DrawOutcomes code).2 = st
 rw [Outcomes_same, bne_self_eq_false, cond_false]
 cases (bif (decide (1048576 < ((List.length code : Nat) : Int))) then true else (decide (1048576 < ((List.length more : Nat) : Int)))) with
 | true => rfl
 | false =>
  rw [cond_false]
  cases hz : Outcomes e st == 0 with
  | true => simp
  | false =>
   rw [cond_false, ← Outcomes_same, beq_iff_eq]
   have hne : iOutcomes e st ≠ 0 := by
    rw [Outcomes_same]
    intro h
    rw [h] at hz
    exact absurd hz (by decide)
   obtain ⟨⟨hl, hV⟩, hX, he⟩ := iOutcomes_ne hne
   rw [List.nil_append]
   have hk3 : ∃ k : Fin 3, Int.toNat ((((List.length more : Nat) : Int) / 3) % 3) = k.val := ⟨⟨Int.toNat ((((List.length more : Nat) : Int) / 3) % 3), by omega⟩, rfl⟩
   obtain ⟨k, hk⟩ := hk3
   rw [hk]
   have hm := Int.emod_nonneg ((List.length more : Nat) : Int) (b := ((List.length st : Nat) : Int)) (by omega)
   have hm2 := Int.emod_lt_of_pos ((List.length more : Nat) : Int) (b := ((List.length st : Nat) : Int)) (by omega)
   have hj : Int.toNat (((List.length more : Nat) : Int) % ((List.length st : Nat) : Int)) < st.length := by omega
   generalize Int.toNat (((List.length more : Nat) : Int) % ((List.length st : Nat) : Int)) = j at hj
   have hvj := hV j hj
   obtain ⟨a, ha⟩ := un8 (a := List.getD st j 0) (by omega)
   obtain ⟨o1, o2, o3⟩ := or_mono a k
   rw [← ha] at o1 o2 o3
   have o2 := of_decide_eq_true o2
   have o3 := of_decide_eq_true o3
   rw [Int.one_mul]
   generalize bits .or .i64 (List.getD st j 0) (2 ^ k.val) = y at o1 o2 o3
   have hV' : VS (List.set st j y) := by
    intro i hi
    rw [List.length_set] at hi
    rw [getD_set_int _ _ _ _ hi]
    split
    ·
     exact ⟨o3, o2⟩
    ·
     exact hV i hi
   have hX' : VE (((List.set st j y).length : Nat) : Int) 8 e := by rw [List.length_set]; exact hX
   rw [iOutcomes_eq (st := List.set st j y) (by rw [List.length_set]; exact hl) hV' hX', he]
   have hm := ioutcomes_mono (st := st) (st' := List.set st j y) (by rw [List.length_set]) (fun i hi => by
    rw [getD_set_int _ _ _ _ hi]
    split
    ·
     rename_i h
     subst h
     exact beq_iff_eq.1 o1
    ·
     have := hV i hi
     exact sub_refl (by omega)) (SizeOf.sizeOf e + 1) e ⟨hV, 8, hX⟩ ⟨hV', 8, hX'⟩
   exact hm

end
end Go.Proofs.Ytophfihhdelbiaa
