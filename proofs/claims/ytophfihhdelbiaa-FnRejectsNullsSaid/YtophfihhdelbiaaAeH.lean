/-
  A part of the proof of this claim (AeH): what functions of the program compute, and plain facts of that. No conditions.
-/
import Derived.Test.YtophfihhdelbiaaAeG
import Derived.Test.YtophfihhdelbiaaAeB
set_option linter.all false
namespace Go.Proofs.Ytophfihhdelbiaa
open Go Go.Am
noncomputable section

def DrawRejectsNulls_j0 (code : List Int) : Int × Int × Bool × Int × (List Xpr) × (List Int) × Int :=
 (bif ((pick (Rdr.b ((randomCondition (Rdr.mk (Rdr.b (newReader code)) ((Rdr.p (newReader code)) + 1)) (1 + (pick (Rdr.b (newReader code)) (Rdr.p (newReader code)) 3))).2)) (Rdr.p ((randomCondition (Rdr.mk (Rdr.b (newReader code)) ((Rdr.p (newReader code)) + 1)) (1 + (pick (Rdr.b (newReader code)) (Rdr.p (newReader code)) 3))).2)) 3) == 0) then ((Xpr.Kind ((anyExpr (Rdr.mk (Rdr.b ((randomCondition (Rdr.mk (Rdr.b (newReader code)) ((Rdr.p (newReader code)) + 1)) (1 + (pick (Rdr.b (newReader code)) (Rdr.p (newReader code)) 3))).2)) ((Rdr.p ((randomCondition (Rdr.mk (Rdr.b (newReader code)) ((Rdr.p (newReader code)) + 1)) (1 + (pick (Rdr.b (newReader code)) (Rdr.p (newReader code)) 3))).2)) + 1)) (1 + (pick (Rdr.b (newReader code)) (Rdr.p (newReader code)) 3))).1)), (Xpr.Col ((anyExpr (Rdr.mk (Rdr.b ((randomCondition (Rdr.mk (Rdr.b (newReader code)) ((Rdr.p (newReader code)) + 1)) (1 + (pick (Rdr.b (newReader code)) (Rdr.p (newReader code)) 3))).2)) ((Rdr.p ((randomCondition (Rdr.mk (Rdr.b (newReader code)) ((Rdr.p (newReader code)) + 1)) (1 + (pick (Rdr.b (newReader code)) (Rdr.p (newReader code)) 3))).2)) + 1)) (1 + (pick (Rdr.b (newReader code)) (Rdr.p (newReader code)) 3))).1)), (Val.Null (Xpr.V ((anyExpr (Rdr.mk (Rdr.b ((randomCondition (Rdr.mk (Rdr.b (newReader code)) ((Rdr.p (newReader code)) + 1)) (1 + (pick (Rdr.b (newReader code)) (Rdr.p (newReader code)) 3))).2)) ((Rdr.p ((randomCondition (Rdr.mk (Rdr.b (newReader code)) ((Rdr.p (newReader code)) + 1)) (1 + (pick (Rdr.b (newReader code)) (Rdr.p (newReader code)) 3))).2)) + 1)) (1 + (pick (Rdr.b (newReader code)) (Rdr.p (newReader code)) 3))).1))), (Val.N (Xpr.V ((anyExpr (Rdr.mk (Rdr.b ((randomCondition (Rdr.mk (Rdr.b (newReader code)) ((Rdr.p (newReader code)) + 1)) (1 + (pick (Rdr.b (newReader code)) (Rdr.p (newReader code)) 3))).2)) ((Rdr.p ((randomCondition (Rdr.mk (Rdr.b (newReader code)) ((Rdr.p (newReader code)) + 1)) (1 + (pick (Rdr.b (newReader code)) (Rdr.p (newReader code)) 3))).2)) + 1)) (1 + (pick (Rdr.b (newReader code)) (Rdr.p (newReader code)) 3))).1))), (Xpr.Kids ((anyExpr (Rdr.mk (Rdr.b ((randomCondition (Rdr.mk (Rdr.b (newReader code)) ((Rdr.p (newReader code)) + 1)) (1 + (pick (Rdr.b (newReader code)) (Rdr.p (newReader code)) 3))).2)) ((Rdr.p ((randomCondition (Rdr.mk (Rdr.b (newReader code)) ((Rdr.p (newReader code)) + 1)) (1 + (pick (Rdr.b (newReader code)) (Rdr.p (newReader code)) 3))).2)) + 1)) (1 + (pick (Rdr.b (newReader code)) (Rdr.p (newReader code)) 3))).1)), (Rdr.b ((anyExpr (Rdr.mk (Rdr.b ((randomCondition (Rdr.mk (Rdr.b (newReader code)) ((Rdr.p (newReader code)) + 1)) (1 + (pick (Rdr.b (newReader code)) (Rdr.p (newReader code)) 3))).2)) ((Rdr.p ((randomCondition (Rdr.mk (Rdr.b (newReader code)) ((Rdr.p (newReader code)) + 1)) (1 + (pick (Rdr.b (newReader code)) (Rdr.p (newReader code)) 3))).2)) + 1)) (1 + (pick (Rdr.b (newReader code)) (Rdr.p (newReader code)) 3))).2)), (Rdr.p ((anyExpr (Rdr.mk (Rdr.b ((randomCondition (Rdr.mk (Rdr.b (newReader code)) ((Rdr.p (newReader code)) + 1)) (1 + (pick (Rdr.b (newReader code)) (Rdr.p (newReader code)) 3))).2)) ((Rdr.p ((randomCondition (Rdr.mk (Rdr.b (newReader code)) ((Rdr.p (newReader code)) + 1)) (1 + (pick (Rdr.b (newReader code)) (Rdr.p (newReader code)) 3))).2)) + 1)) (1 + (pick (Rdr.b (newReader code)) (Rdr.p (newReader code)) 3))).2))) else ((Xpr.Kind ((randomCondition (Rdr.mk (Rdr.b (newReader code)) ((Rdr.p (newReader code)) + 1)) (1 + (pick (Rdr.b (newReader code)) (Rdr.p (newReader code)) 3))).1)), (Xpr.Col ((randomCondition (Rdr.mk (Rdr.b (newReader code)) ((Rdr.p (newReader code)) + 1)) (1 + (pick (Rdr.b (newReader code)) (Rdr.p (newReader code)) 3))).1)), (Val.Null (Xpr.V ((randomCondition (Rdr.mk (Rdr.b (newReader code)) ((Rdr.p (newReader code)) + 1)) (1 + (pick (Rdr.b (newReader code)) (Rdr.p (newReader code)) 3))).1))), (Val.N (Xpr.V ((randomCondition (Rdr.mk (Rdr.b (newReader code)) ((Rdr.p (newReader code)) + 1)) (1 + (pick (Rdr.b (newReader code)) (Rdr.p (newReader code)) 3))).1))), (Xpr.Kids ((randomCondition (Rdr.mk (Rdr.b (newReader code)) ((Rdr.p (newReader code)) + 1)) (1 + (pick (Rdr.b (newReader code)) (Rdr.p (newReader code)) 3))).1)), (Rdr.b ((randomCondition (Rdr.mk (Rdr.b (newReader code)) ((Rdr.p (newReader code)) + 1)) (1 + (pick (Rdr.b (newReader code)) (Rdr.p (newReader code)) 3))).2)), ((Rdr.p ((randomCondition (Rdr.mk (Rdr.b (newReader code)) ((Rdr.p (newReader code)) + 1)) (1 + (pick (Rdr.b (newReader code)) (Rdr.p (newReader code)) 3))).2)) + 1)))

def DrawRejectsNulls_j1 (r0 : List Int) (i : Nat) (r11 : Int) (list : List Int) : (List Int) :=
 (bif ((pick r0 r11 2) == 0) then (list ++ ([((i : Nat) : Int)] : List Int)) else list)

def DrawRejectsNulls_l0 (code : List Int) (r0 : List Int) : Nat → Nat → Int → (List Int) → (List Int)
 | 0, i, r11, list => list
 | k + 1, i, r11, list => (bif (decide (((i : Nat) : Int) < (1 + (pick (Rdr.b (newReader code)) (Rdr.p (newReader code)) 3)))) then (Go.Am.andThen (DrawRejectsNulls_j1 r0 i r11 list) (fun z => (fun (list1 : List Int) => (DrawRejectsNulls_l0 code r0 k (i + 1) (r11 + 1) list1)) z)) else list)

def DrawRejectsNulls (code : List Int) : Xpr × Int × (List Int) := (Go.Am.andThen (DrawRejectsNulls_j0 code) (fun z => (fun (ue0 : Int) (ue1 : Int) (ue2 : Bool) (ue3 : Int) (ue4 : List Xpr) (r0 : List Int) (r1 : Int) => (Go.Am.andThen (DrawRejectsNulls_l0 code r0 (Int.toNat ((1 + (pick (Rdr.b (newReader code)) (Rdr.p (newReader code)) 3)) - ((0 : Nat) : Int)) + 1) 0 r1 ([] : List Int)) (fun z => (fun (list : List Int) => ((Xpr.mk ue0 ue1 (Val.mk ue2 ue3) ue4), (1 + (pick (Rdr.b (newReader code)) (Rdr.p (newReader code)) 3)), list)) z))) z.1 z.2.1 z.2.2.1 z.2.2.2.1 z.2.2.2.2.1 z.2.2.2.2.2.1 z.2.2.2.2.2.2))

def DrawRejectsNulls_sp : FnSpec := mkSpec [.val (.slice (.int .u8))] [.val (.named 1), .val (.int .i64), .own (.int .i64)] (fun (code : List Int) => True) (fun (code : List Int) => [⟨(.named 1), ((DrawRejectsNulls code).1)⟩, ⟨(.int .i64), ((DrawRejectsNulls code).2.1)⟩, ⟨(.slice (.int .i64)), ((DrawRejectsNulls code).2.2)⟩])

theorem DrawRejectsNulls_ok : FnOK Try.prog 11 DrawRejectsNulls_sp := by
 have hC : CtxOK Try.prog (mkCtx tyL [(16, newReader_sp), (17, pickS), (18, anyExpr_sp), (27, randomCondition_sp)]) := CtxOK.cons newReader_ok (CtxOK.cons pickS_ok (CtxOK.cons anyExpr_ok (CtxOK.cons randomCondition_ok (CtxOK.nil tyOK))))
 have hM : Try.prog.follows .mixedOrders = true := Try.checked.mixed
 refine FnOK.of_body Try.func11 (by kernel_rfl) rfl (C := (mkCtx tyL [(16, newReader_sp), (17, pickS), (18, anyExpr_sp), (27, randomCondition_sp)])) hC.ty (by kernel_rfl) ?_
 intro (code : List Int) hwf hpre E
 have hpre : True := hpre
 have hw_code : Wf ⟨(.slice (.int .u8)), (code : List Int)⟩ := hwf _ (List.Mem.head _)
 have hl_code : ((List.length code : Nat) : Int) ≤ 9223372036854775807 := hw_code.len
 have hp0 := newReader_p code
 have h3 := pick_ok (n := 3) (newReader code).b (newReader code).p (by decide)
 have hq := randomCondition_p (Rdr.mk (Rdr.b (newReader code)) ((Rdr.p (newReader code)) + 1)) (1 + (pick (Rdr.b (newReader code)) (Rdr.p (newReader code)) 3))
 have hq1 : (newReader code).p + 1 ≤ _ := hq.1
 have hq2 : _ ≤ (newReader code).p + 1 + 390 := hq.2
 have hx := anyExpr_p (Rdr.mk (Rdr.b ((randomCondition (Rdr.mk (Rdr.b (newReader code)) ((Rdr.p (newReader code)) + 1)) (1 + (pick (Rdr.b (newReader code)) (Rdr.p (newReader code)) 3))).2)) ((Rdr.p ((randomCondition (Rdr.mk (Rdr.b (newReader code)) ((Rdr.p (newReader code)) + 1)) (1 + (pick (Rdr.b (newReader code)) (Rdr.p (newReader code)) 3))).2)) + 1)) (1 + (pick (Rdr.b (newReader code)) (Rdr.p (newReader code)) 3))
 have hx1 : (randomCondition _ _).2.p + 1 ≤ _ := hx.1
 have hx2 : _ ≤ (randomCondition _ _).2.p + 1 + 126 := hx.2
 have e0 : DrawRejectsNulls code = DrawRejectsNulls code := rfl
 refine AW.seq (AW.r1 hC [0, 2] [8] ⟨[(0, sD7 code), (2, .ref 8 1 0)], [(8, .box 1 [sI 0, sI 0, sB false, sI 0, .nilsl])]⟩ ?_)
 refine AW.seq (AW.r0 hC [2, 5] [8, 44] ⟨[(2, .ref 8 1 0), (5, .ref 44 1 0)], [(8, .box 1 [sI 0, sI 0, sB false, sI 0, .nilsl]), (44, .box 1 [sD7 (Rdr.b (newReader code)), sI (Rdr.p (newReader code))])]⟩ [(True)] ?_ ?_)
 ·
  refine ⟨?_, trivial⟩
  ·
   trivial
 refine AW.seq (AW.r0 hC [2, 5, 6] [8, 44] ⟨[(2, .ref 8 1 0), (5, .ref 44 1 0), (6, sI (1 + (pick (Rdr.b (newReader code)) (Rdr.p (newReader code)) 3)))], [(8, .box 1 [sI 0, sI 0, sB false, sI 0, .nilsl]), (44, .box 1 [sD7 (Rdr.b (newReader code)), sI ((Rdr.p (newReader code)) + 1)])]⟩ [(0 ≤ (newReader code).p ∧ (newReader code).p ≤ 1099511627776), R64 (1 + (pick (Rdr.b (newReader code)) (Rdr.p (newReader code)) 3))] ?_ ?_)
 ·
  refine ⟨?_, ?_, trivial⟩
  ·
   first | omega | (dsimp only; omega) | (simp only [List.length_append, List.length_cons, List.length_nil]; omega) | (refine ⟨?_, ?_⟩ <;> first | omega | (dsimp only; omega) | (simp only [List.length_cons, List.length_nil]; omega))
  ·
   refine R64.of ?_
   first | omega | (dsimp only; omega) | (simp only [List.length_append, List.length_cons, List.length_nil]; omega) | (refine ⟨?_, ?_⟩ <;> first | omega | (dsimp only; omega) | (simp only [List.length_cons, List.length_nil]; omega))
 refine AW.seq (AW.r0 hC [2, 5, 6, 7] [8, 28, 44] ⟨[(2, .ref 8 1 0), (5, .ref 44 1 0), (6, sI (1 + (pick (Rdr.b (newReader code)) (Rdr.p (newReader code)) 3))), (7, .ref 28 1 0)], [(8, .box 1 [sI 0, sI 0, sB false, sI 0, .nilsl]), (28, .box 1 [sI (Xpr.Kind ((randomCondition (Rdr.mk (Rdr.b (newReader code)) ((Rdr.p (newReader code)) + 1)) (1 + (pick (Rdr.b (newReader code)) (Rdr.p (newReader code)) 3))).1)), sI (Xpr.Col ((randomCondition (Rdr.mk (Rdr.b (newReader code)) ((Rdr.p (newReader code)) + 1)) (1 + (pick (Rdr.b (newReader code)) (Rdr.p (newReader code)) 3))).1)), sB (Val.Null (Xpr.V ((randomCondition (Rdr.mk (Rdr.b (newReader code)) ((Rdr.p (newReader code)) + 1)) (1 + (pick (Rdr.b (newReader code)) (Rdr.p (newReader code)) 3))).1))), sI (Val.N (Xpr.V ((randomCondition (Rdr.mk (Rdr.b (newReader code)) ((Rdr.p (newReader code)) + 1)) (1 + (pick (Rdr.b (newReader code)) (Rdr.p (newReader code)) 3))).1))), sD9 (Xpr.Kids ((randomCondition (Rdr.mk (Rdr.b (newReader code)) ((Rdr.p (newReader code)) + 1)) (1 + (pick (Rdr.b (newReader code)) (Rdr.p (newReader code)) 3))).1))]), (44, .box 1 [sD7 (Rdr.b ((randomCondition (Rdr.mk (Rdr.b (newReader code)) ((Rdr.p (newReader code)) + 1)) (1 + (pick (Rdr.b (newReader code)) (Rdr.p (newReader code)) 3))).2)), sI (Rdr.p ((randomCondition (Rdr.mk (Rdr.b (newReader code)) ((Rdr.p (newReader code)) + 1)) (1 + (pick (Rdr.b (newReader code)) (Rdr.p (newReader code)) 3))).2))])]⟩ [(0 ≤ (Rdr.mk (Rdr.b (newReader code)) ((Rdr.p (newReader code)) + 1)).p ∧ (Rdr.mk (Rdr.b (newReader code)) ((Rdr.p (newReader code)) + 1)).p ≤ 999999980000)] ?_ ?_)
 ·
  refine ⟨?_, trivial⟩
  ·
   first | omega | (dsimp only; omega) | (simp only [List.length_append, List.length_cons, List.length_nil]; omega) | (refine ⟨?_, ?_⟩ <;> first | omega | (dsimp only; omega) | (simp only [List.length_cons, List.length_nil]; omega))
 refine AW.seq (AW.seq (AW.r0 hC [2, 5, 6, 7, 20] [8, 28, 44] ⟨[(2, .ref 8 1 0), (5, .ref 44 1 0), (6, sI (1 + (pick (Rdr.b (newReader code)) (Rdr.p (newReader code)) 3))), (7, .ref 28 1 0), (20, sB ((pick (Rdr.b ((randomCondition (Rdr.mk (Rdr.b (newReader code)) ((Rdr.p (newReader code)) + 1)) (1 + (pick (Rdr.b (newReader code)) (Rdr.p (newReader code)) 3))).2)) (Rdr.p ((randomCondition (Rdr.mk (Rdr.b (newReader code)) ((Rdr.p (newReader code)) + 1)) (1 + (pick (Rdr.b (newReader code)) (Rdr.p (newReader code)) 3))).2)) 3) == 0))], [(8, .box 1 [sI 0, sI 0, sB false, sI 0, .nilsl]), (28, .box 1 [sI (Xpr.Kind ((randomCondition (Rdr.mk (Rdr.b (newReader code)) ((Rdr.p (newReader code)) + 1)) (1 + (pick (Rdr.b (newReader code)) (Rdr.p (newReader code)) 3))).1)), sI (Xpr.Col ((randomCondition (Rdr.mk (Rdr.b (newReader code)) ((Rdr.p (newReader code)) + 1)) (1 + (pick (Rdr.b (newReader code)) (Rdr.p (newReader code)) 3))).1)), sB (Val.Null (Xpr.V ((randomCondition (Rdr.mk (Rdr.b (newReader code)) ((Rdr.p (newReader code)) + 1)) (1 + (pick (Rdr.b (newReader code)) (Rdr.p (newReader code)) 3))).1))), sI (Val.N (Xpr.V ((randomCondition (Rdr.mk (Rdr.b (newReader code)) ((Rdr.p (newReader code)) + 1)) (1 + (pick (Rdr.b (newReader code)) (Rdr.p (newReader code)) 3))).1))), sD9 (Xpr.Kids ((randomCondition (Rdr.mk (Rdr.b (newReader code)) ((Rdr.p (newReader code)) + 1)) (1 + (pick (Rdr.b (newReader code)) (Rdr.p (newReader code)) 3))).1))]), (44, .box 1 [sD7 (Rdr.b ((randomCondition (Rdr.mk (Rdr.b (newReader code)) ((Rdr.p (newReader code)) + 1)) (1 + (pick (Rdr.b (newReader code)) (Rdr.p (newReader code)) 3))).2)), sI ((Rdr.p ((randomCondition (Rdr.mk (Rdr.b (newReader code)) ((Rdr.p (newReader code)) + 1)) (1 + (pick (Rdr.b (newReader code)) (Rdr.p (newReader code)) 3))).2)) + 1)])]⟩ [(0 ≤ ((randomCondition (Rdr.mk (Rdr.b (newReader code)) ((Rdr.p (newReader code)) + 1)) (1 + (pick (Rdr.b (newReader code)) (Rdr.p (newReader code)) 3))).2).p ∧ ((randomCondition (Rdr.mk (Rdr.b (newReader code)) ((Rdr.p (newReader code)) + 1)) (1 + (pick (Rdr.b (newReader code)) (Rdr.p (newReader code)) 3))).2).p ≤ 1099511627776)] ?_ ?_))
 ·
  refine ⟨?_, trivial⟩
  ·
   first | omega | (dsimp only; omega) | (simp only [List.length_append, List.length_cons, List.length_nil]; omega) | (refine ⟨?_, ?_⟩ <;> first | omega | (dsimp only; omega) | (simp only [List.length_cons, List.length_nil]; omega))
 refine AW.cutQ (α := Int × Int × Bool × Int × (List Xpr) × (List Int) × Int) (fun x => ⟨[(2, .ref 8 1 0), (5, .ref 44 1 0), (6, sI (1 + (pick (Rdr.b (newReader code)) (Rdr.p (newReader code)) 3))), (7, .ref 28 1 0)], [(8, .box 1 [sI 0, sI 0, sB false, sI 0, .nilsl]), (28, .box 1 [sI x.1, sI x.2.1, sB x.2.2.1, sI x.2.2.2.1, sD9 x.2.2.2.2.1]), (44, .box 1 [sD7 x.2.2.2.2.2.1, sI x.2.2.2.2.2.2])]⟩) (fun x => (0 ≤ x.2.2.2.2.2.2 ∧ x.2.2.2.2.2.2 ≤ 600) ∧ (DrawRejectsNulls_j0 code) = x) ?_ ?_
 ·
  skip
  have e9 : (DrawRejectsNulls_j0 code) = (DrawRejectsNulls_j0 code) := rfl
  refine AW.cd ((pick (Rdr.b ((randomCondition (Rdr.mk (Rdr.b (newReader code)) ((Rdr.p (newReader code)) + 1)) (1 + (pick (Rdr.b (newReader code)) (Rdr.p (newReader code)) 3))).2)) (Rdr.p ((randomCondition (Rdr.mk (Rdr.b (newReader code)) ((Rdr.p (newReader code)) + 1)) (1 + (pick (Rdr.b (newReader code)) (Rdr.p (newReader code)) 3))).2)) 3) == 0) ?_ ?_
  ·
   intro h10
   have h10q := (Go.Am.beq_pos h10)
   have e11 := e9.trans (Go.Am.bif_t h10)
   refine AW.r0 hC [2, 5, 6, 7] [8, 28, 44] ⟨[(2, .ref 8 1 0), (5, .ref 44 1 0), (6, sI (1 + (pick (Rdr.b (newReader code)) (Rdr.p (newReader code)) 3))), (7, .ref 28 1 0)], [(8, .box 1 [sI 0, sI 0, sB false, sI 0, .nilsl]), (28, .box 1 [sI (Xpr.Kind ((anyExpr (Rdr.mk (Rdr.b ((randomCondition (Rdr.mk (Rdr.b (newReader code)) ((Rdr.p (newReader code)) + 1)) (1 + (pick (Rdr.b (newReader code)) (Rdr.p (newReader code)) 3))).2)) ((Rdr.p ((randomCondition (Rdr.mk (Rdr.b (newReader code)) ((Rdr.p (newReader code)) + 1)) (1 + (pick (Rdr.b (newReader code)) (Rdr.p (newReader code)) 3))).2)) + 1)) (1 + (pick (Rdr.b (newReader code)) (Rdr.p (newReader code)) 3))).1)), sI (Xpr.Col ((anyExpr (Rdr.mk (Rdr.b ((randomCondition (Rdr.mk (Rdr.b (newReader code)) ((Rdr.p (newReader code)) + 1)) (1 + (pick (Rdr.b (newReader code)) (Rdr.p (newReader code)) 3))).2)) ((Rdr.p ((randomCondition (Rdr.mk (Rdr.b (newReader code)) ((Rdr.p (newReader code)) + 1)) (1 + (pick (Rdr.b (newReader code)) (Rdr.p (newReader code)) 3))).2)) + 1)) (1 + (pick (Rdr.b (newReader code)) (Rdr.p (newReader code)) 3))).1)), sB (Val.Null (Xpr.V ((anyExpr (Rdr.mk (Rdr.b ((randomCondition (Rdr.mk (Rdr.b (newReader code)) ((Rdr.p (newReader code)) + 1)) (1 + (pick (Rdr.b (newReader code)) (Rdr.p (newReader code)) 3))).2)) ((Rdr.p ((randomCondition (Rdr.mk (Rdr.b (newReader code)) ((Rdr.p (newReader code)) + 1)) (1 + (pick (Rdr.b (newReader code)) (Rdr.p (newReader code)) 3))).2)) + 1)) (1 + (pick (Rdr.b (newReader code)) (Rdr.p (newReader code)) 3))).1))), sI (Val.N (Xpr.V ((anyExpr (Rdr.mk (Rdr.b ((randomCondition (Rdr.mk (Rdr.b (newReader code)) ((Rdr.p (newReader code)) + 1)) (1 + (pick (Rdr.b (newReader code)) (Rdr.p (newReader code)) 3))).2)) ((Rdr.p ((randomCondition (Rdr.mk (Rdr.b (newReader code)) ((Rdr.p (newReader code)) + 1)) (1 + (pick (Rdr.b (newReader code)) (Rdr.p (newReader code)) 3))).2)) + 1)) (1 + (pick (Rdr.b (newReader code)) (Rdr.p (newReader code)) 3))).1))), sD9 (Xpr.Kids ((anyExpr (Rdr.mk (Rdr.b ((randomCondition (Rdr.mk (Rdr.b (newReader code)) ((Rdr.p (newReader code)) + 1)) (1 + (pick (Rdr.b (newReader code)) (Rdr.p (newReader code)) 3))).2)) ((Rdr.p ((randomCondition (Rdr.mk (Rdr.b (newReader code)) ((Rdr.p (newReader code)) + 1)) (1 + (pick (Rdr.b (newReader code)) (Rdr.p (newReader code)) 3))).2)) + 1)) (1 + (pick (Rdr.b (newReader code)) (Rdr.p (newReader code)) 3))).1))]), (44, .box 1 [sD7 (Rdr.b ((anyExpr (Rdr.mk (Rdr.b ((randomCondition (Rdr.mk (Rdr.b (newReader code)) ((Rdr.p (newReader code)) + 1)) (1 + (pick (Rdr.b (newReader code)) (Rdr.p (newReader code)) 3))).2)) ((Rdr.p ((randomCondition (Rdr.mk (Rdr.b (newReader code)) ((Rdr.p (newReader code)) + 1)) (1 + (pick (Rdr.b (newReader code)) (Rdr.p (newReader code)) 3))).2)) + 1)) (1 + (pick (Rdr.b (newReader code)) (Rdr.p (newReader code)) 3))).2)), sI (Rdr.p ((anyExpr (Rdr.mk (Rdr.b ((randomCondition (Rdr.mk (Rdr.b (newReader code)) ((Rdr.p (newReader code)) + 1)) (1 + (pick (Rdr.b (newReader code)) (Rdr.p (newReader code)) 3))).2)) ((Rdr.p ((randomCondition (Rdr.mk (Rdr.b (newReader code)) ((Rdr.p (newReader code)) + 1)) (1 + (pick (Rdr.b (newReader code)) (Rdr.p (newReader code)) 3))).2)) + 1)) (1 + (pick (Rdr.b (newReader code)) (Rdr.p (newReader code)) 3))).2))])]⟩ [(0 ≤ (Rdr.mk (Rdr.b ((randomCondition (Rdr.mk (Rdr.b (newReader code)) ((Rdr.p (newReader code)) + 1)) (1 + (pick (Rdr.b (newReader code)) (Rdr.p (newReader code)) 3))).2)) ((Rdr.p ((randomCondition (Rdr.mk (Rdr.b (newReader code)) ((Rdr.p (newReader code)) + 1)) (1 + (pick (Rdr.b (newReader code)) (Rdr.p (newReader code)) 3))).2)) + 1)).p ∧ (Rdr.mk (Rdr.b ((randomCondition (Rdr.mk (Rdr.b (newReader code)) ((Rdr.p (newReader code)) + 1)) (1 + (pick (Rdr.b (newReader code)) (Rdr.p (newReader code)) 3))).2)) ((Rdr.p ((randomCondition (Rdr.mk (Rdr.b (newReader code)) ((Rdr.p (newReader code)) + 1)) (1 + (pick (Rdr.b (newReader code)) (Rdr.p (newReader code)) 3))).2)) + 1)).p ≤ 999999980000)] ?_ ?_
   ·
    refine ⟨?_, trivial⟩
    ·
     first | omega | (dsimp only; omega) | (simp only [List.length_append, List.length_cons, List.length_nil]; omega) | (refine ⟨?_, ?_⟩ <;> first | omega | (dsimp only; omega) | (simp only [List.length_cons, List.length_nil]; omega))
   refine AW.meet ((Xpr.Kind ((anyExpr (Rdr.mk (Rdr.b ((randomCondition (Rdr.mk (Rdr.b (newReader code)) ((Rdr.p (newReader code)) + 1)) (1 + (pick (Rdr.b (newReader code)) (Rdr.p (newReader code)) 3))).2)) ((Rdr.p ((randomCondition (Rdr.mk (Rdr.b (newReader code)) ((Rdr.p (newReader code)) + 1)) (1 + (pick (Rdr.b (newReader code)) (Rdr.p (newReader code)) 3))).2)) + 1)) (1 + (pick (Rdr.b (newReader code)) (Rdr.p (newReader code)) 3))).1)), (Xpr.Col ((anyExpr (Rdr.mk (Rdr.b ((randomCondition (Rdr.mk (Rdr.b (newReader code)) ((Rdr.p (newReader code)) + 1)) (1 + (pick (Rdr.b (newReader code)) (Rdr.p (newReader code)) 3))).2)) ((Rdr.p ((randomCondition (Rdr.mk (Rdr.b (newReader code)) ((Rdr.p (newReader code)) + 1)) (1 + (pick (Rdr.b (newReader code)) (Rdr.p (newReader code)) 3))).2)) + 1)) (1 + (pick (Rdr.b (newReader code)) (Rdr.p (newReader code)) 3))).1)), (Val.Null (Xpr.V ((anyExpr (Rdr.mk (Rdr.b ((randomCondition (Rdr.mk (Rdr.b (newReader code)) ((Rdr.p (newReader code)) + 1)) (1 + (pick (Rdr.b (newReader code)) (Rdr.p (newReader code)) 3))).2)) ((Rdr.p ((randomCondition (Rdr.mk (Rdr.b (newReader code)) ((Rdr.p (newReader code)) + 1)) (1 + (pick (Rdr.b (newReader code)) (Rdr.p (newReader code)) 3))).2)) + 1)) (1 + (pick (Rdr.b (newReader code)) (Rdr.p (newReader code)) 3))).1))), (Val.N (Xpr.V ((anyExpr (Rdr.mk (Rdr.b ((randomCondition (Rdr.mk (Rdr.b (newReader code)) ((Rdr.p (newReader code)) + 1)) (1 + (pick (Rdr.b (newReader code)) (Rdr.p (newReader code)) 3))).2)) ((Rdr.p ((randomCondition (Rdr.mk (Rdr.b (newReader code)) ((Rdr.p (newReader code)) + 1)) (1 + (pick (Rdr.b (newReader code)) (Rdr.p (newReader code)) 3))).2)) + 1)) (1 + (pick (Rdr.b (newReader code)) (Rdr.p (newReader code)) 3))).1))), (Xpr.Kids ((anyExpr (Rdr.mk (Rdr.b ((randomCondition (Rdr.mk (Rdr.b (newReader code)) ((Rdr.p (newReader code)) + 1)) (1 + (pick (Rdr.b (newReader code)) (Rdr.p (newReader code)) 3))).2)) ((Rdr.p ((randomCondition (Rdr.mk (Rdr.b (newReader code)) ((Rdr.p (newReader code)) + 1)) (1 + (pick (Rdr.b (newReader code)) (Rdr.p (newReader code)) 3))).2)) + 1)) (1 + (pick (Rdr.b (newReader code)) (Rdr.p (newReader code)) 3))).1)), (Rdr.b ((anyExpr (Rdr.mk (Rdr.b ((randomCondition (Rdr.mk (Rdr.b (newReader code)) ((Rdr.p (newReader code)) + 1)) (1 + (pick (Rdr.b (newReader code)) (Rdr.p (newReader code)) 3))).2)) ((Rdr.p ((randomCondition (Rdr.mk (Rdr.b (newReader code)) ((Rdr.p (newReader code)) + 1)) (1 + (pick (Rdr.b (newReader code)) (Rdr.p (newReader code)) 3))).2)) + 1)) (1 + (pick (Rdr.b (newReader code)) (Rdr.p (newReader code)) 3))).2)), (Rdr.p ((anyExpr (Rdr.mk (Rdr.b ((randomCondition (Rdr.mk (Rdr.b (newReader code)) ((Rdr.p (newReader code)) + 1)) (1 + (pick (Rdr.b (newReader code)) (Rdr.p (newReader code)) 3))).2)) ((Rdr.p ((randomCondition (Rdr.mk (Rdr.b (newReader code)) ((Rdr.p (newReader code)) + 1)) (1 + (pick (Rdr.b (newReader code)) (Rdr.p (newReader code)) 3))).2)) + 1)) (1 + (pick (Rdr.b (newReader code)) (Rdr.p (newReader code)) 3))).2))) (by kernel_rfl) ⟨?_, e11⟩
   show 0 ≤ (Rdr.p ((anyExpr (Rdr.mk (Rdr.b ((randomCondition (Rdr.mk (Rdr.b (newReader code)) ((Rdr.p (newReader code)) + 1)) (1 + (pick (Rdr.b (newReader code)) (Rdr.p (newReader code)) 3))).2)) ((Rdr.p ((randomCondition (Rdr.mk (Rdr.b (newReader code)) ((Rdr.p (newReader code)) + 1)) (1 + (pick (Rdr.b (newReader code)) (Rdr.p (newReader code)) 3))).2)) + 1)) (1 + (pick (Rdr.b (newReader code)) (Rdr.p (newReader code)) 3))).2)) ∧ (Rdr.p ((anyExpr (Rdr.mk (Rdr.b ((randomCondition (Rdr.mk (Rdr.b (newReader code)) ((Rdr.p (newReader code)) + 1)) (1 + (pick (Rdr.b (newReader code)) (Rdr.p (newReader code)) 3))).2)) ((Rdr.p ((randomCondition (Rdr.mk (Rdr.b (newReader code)) ((Rdr.p (newReader code)) + 1)) (1 + (pick (Rdr.b (newReader code)) (Rdr.p (newReader code)) 3))).2)) + 1)) (1 + (pick (Rdr.b (newReader code)) (Rdr.p (newReader code)) 3))).2)) ≤ 600
   omega
  ·
   intro h12
   have h12q := (Go.Am.beq_neg h12)
   have e13 := e9.trans (Go.Am.bif_f h12)
   refine AW.kp [2, 5, 6, 7] [8, 28, 44] ⟨[(2, .ref 8 1 0), (5, .ref 44 1 0), (6, sI (1 + (pick (Rdr.b (newReader code)) (Rdr.p (newReader code)) 3))), (7, .ref 28 1 0)], [(8, .box 1 [sI 0, sI 0, sB false, sI 0, .nilsl]), (28, .box 1 [sI (Xpr.Kind ((randomCondition (Rdr.mk (Rdr.b (newReader code)) ((Rdr.p (newReader code)) + 1)) (1 + (pick (Rdr.b (newReader code)) (Rdr.p (newReader code)) 3))).1)), sI (Xpr.Col ((randomCondition (Rdr.mk (Rdr.b (newReader code)) ((Rdr.p (newReader code)) + 1)) (1 + (pick (Rdr.b (newReader code)) (Rdr.p (newReader code)) 3))).1)), sB (Val.Null (Xpr.V ((randomCondition (Rdr.mk (Rdr.b (newReader code)) ((Rdr.p (newReader code)) + 1)) (1 + (pick (Rdr.b (newReader code)) (Rdr.p (newReader code)) 3))).1))), sI (Val.N (Xpr.V ((randomCondition (Rdr.mk (Rdr.b (newReader code)) ((Rdr.p (newReader code)) + 1)) (1 + (pick (Rdr.b (newReader code)) (Rdr.p (newReader code)) 3))).1))), sD9 (Xpr.Kids ((randomCondition (Rdr.mk (Rdr.b (newReader code)) ((Rdr.p (newReader code)) + 1)) (1 + (pick (Rdr.b (newReader code)) (Rdr.p (newReader code)) 3))).1))]), (44, .box 1 [sD7 (Rdr.b ((randomCondition (Rdr.mk (Rdr.b (newReader code)) ((Rdr.p (newReader code)) + 1)) (1 + (pick (Rdr.b (newReader code)) (Rdr.p (newReader code)) 3))).2)), sI ((Rdr.p ((randomCondition (Rdr.mk (Rdr.b (newReader code)) ((Rdr.p (newReader code)) + 1)) (1 + (pick (Rdr.b (newReader code)) (Rdr.p (newReader code)) 3))).2)) + 1)])]⟩ ?_
   refine AW.skip (AW.meet ((Xpr.Kind ((randomCondition (Rdr.mk (Rdr.b (newReader code)) ((Rdr.p (newReader code)) + 1)) (1 + (pick (Rdr.b (newReader code)) (Rdr.p (newReader code)) 3))).1)), (Xpr.Col ((randomCondition (Rdr.mk (Rdr.b (newReader code)) ((Rdr.p (newReader code)) + 1)) (1 + (pick (Rdr.b (newReader code)) (Rdr.p (newReader code)) 3))).1)), (Val.Null (Xpr.V ((randomCondition (Rdr.mk (Rdr.b (newReader code)) ((Rdr.p (newReader code)) + 1)) (1 + (pick (Rdr.b (newReader code)) (Rdr.p (newReader code)) 3))).1))), (Val.N (Xpr.V ((randomCondition (Rdr.mk (Rdr.b (newReader code)) ((Rdr.p (newReader code)) + 1)) (1 + (pick (Rdr.b (newReader code)) (Rdr.p (newReader code)) 3))).1))), (Xpr.Kids ((randomCondition (Rdr.mk (Rdr.b (newReader code)) ((Rdr.p (newReader code)) + 1)) (1 + (pick (Rdr.b (newReader code)) (Rdr.p (newReader code)) 3))).1)), (Rdr.b ((randomCondition (Rdr.mk (Rdr.b (newReader code)) ((Rdr.p (newReader code)) + 1)) (1 + (pick (Rdr.b (newReader code)) (Rdr.p (newReader code)) 3))).2)), ((Rdr.p ((randomCondition (Rdr.mk (Rdr.b (newReader code)) ((Rdr.p (newReader code)) + 1)) (1 + (pick (Rdr.b (newReader code)) (Rdr.p (newReader code)) 3))).2)) + 1)) (by kernel_rfl) ⟨?_, e13⟩)
   show 0 ≤ ((Rdr.p ((randomCondition (Rdr.mk (Rdr.b (newReader code)) ((Rdr.p (newReader code)) + 1)) (1 + (pick (Rdr.b (newReader code)) (Rdr.p (newReader code)) 3))).2)) + 1) ∧ ((Rdr.p ((randomCondition (Rdr.mk (Rdr.b (newReader code)) ((Rdr.p (newReader code)) + 1)) (1 + (pick (Rdr.b (newReader code)) (Rdr.p (newReader code)) 3))).2)) + 1) ≤ 600
   omega
 ·
  intro x hR
  obtain ⟨ue0, ue1, ue2, ue3, ue4, r0, r1⟩ := x
  obtain ⟨hM0, e14⟩ := hR
  replace hM0 : 0 ≤ r1 ∧ r1 ≤ 600 := hM0
  have e15 := e0.trans (Go.Am.then_eq e14)
  refine AW.seq (AW.r1 hC [2, 5, 6, 7, 8] [8, 28, 44, 96] ⟨[(2, .ref 8 1 0), (5, .ref 44 1 0), (6, sI (1 + (pick (Rdr.b (newReader code)) (Rdr.p (newReader code)) 3))), (7, .ref 28 1 0), (8, .arr 96 1)], [(8, .box 1 [sI 0, sI 0, sB false, sI 0, .nilsl]), (28, .box 1 [sI ue0, sI ue1, sB ue2, sI ue3, sD9 ue4]), (44, .box 1 [sD7 r0, sI r1]), (96, .arr 1 (.int .i64) (([] : List Int) : List Int))]⟩ ?_)
  refine AW.seq (AW.seq (AW.r1 hC [2, 5, 6, 7, 8, 9] [8, 28, 44, 96] ⟨[(2, .ref 8 1 0), (5, .ref 44 1 0), (6, sI (1 + (pick (Rdr.b (newReader code)) (Rdr.p (newReader code)) 3))), (7, .ref 28 1 0), (8, .arr 96 1), (9, sI 0)], [(8, .box 1 [sI 0, sI 0, sB false, sI 0, .nilsl]), (28, .box 1 [sI ue0, sI ue1, sB ue2, sI ue3, sD9 ue4]), (44, .box 1 [sD7 r0, sI r1]), (96, .arr 1 (.int .i64) (([] : List Int) : List Int))]⟩ ?_))
  refine AW.cutQ (α := (List Int)) (fun x => ⟨[(2, .ref 8 1 0), (6, sI (1 + (pick (Rdr.b (newReader code)) (Rdr.p (newReader code)) 3))), (7, .ref 28 1 0), (8, .arr 96 1)], [(8, .box 1 [sI 0, sI 0, sB false, sI 0, .nilsl]), (28, .box 1 [sI ue0, sI ue1, sB ue2, sI ue3, sD9 ue4]), (96, .arr 1 (.int .i64) (x : List Int))]⟩) (fun x => (List.length x ≤ 3) ∧ (DrawRejectsNulls_l0 code r0 (Int.toNat ((1 + (pick (Rdr.b (newReader code)) (Rdr.p (newReader code)) 3)) - ((0 : Nat) : Int)) + 1) 0 r1 ([] : List Int)) = x) ?_ ?_
  ·
   skip
   refine AW.block (AW.loop (α := Nat × Int × (List Int)) (fun x => ⟨[(2, .ref 8 1 0), (5, .ref 44 1 0), (6, sI (1 + (pick (Rdr.b (newReader code)) (Rdr.p (newReader code)) 3))), (7, .ref 28 1 0), (8, .arr 96 1), (9, sI ((x.1 : Nat) : Int))], [(8, .box 1 [sI 0, sI 0, sB false, sI 0, .nilsl]), (28, .box 1 [sI ue0, sI ue1, sB ue2, sI ue3, sD9 ue4]), (44, .box 1 [sD7 r0, sI x.2.1]), (96, .arr 1 (.int .i64) (x.2.2 : List Int))]⟩) (fun x => ((0 ≤ x.2.1 ∧ x.2.1 ≤ 600 + (x.1 : Int)) ∧ List.length x.2.2 ≤ x.1 ∧ (x.1 : Int) ≤ 1 + pick (Rdr.b (newReader code)) (Rdr.p (newReader code)) 3) ∧ ∃ k, Int.toNat ((1 + (pick (Rdr.b (newReader code)) (Rdr.p (newReader code)) 3)) - ((x.1 : Nat) : Int)) < k ∧ (DrawRejectsNulls_l0 code r0 (Int.toNat ((1 + (pick (Rdr.b (newReader code)) (Rdr.p (newReader code)) 3)) - ((0 : Nat) : Int)) + 1) 0 r1 ([] : List Int)) = DrawRejectsNulls_l0 code r0 k x.1 x.2.1 x.2.2) (fun x => Int.toNat ((1 + (pick (Rdr.b (newReader code)) (Rdr.p (newReader code)) 3)) - ((x.1 : Nat) : Int))) (0, r1, ([] : List Int)) (by kernel_rfl) ⟨?_, _, Nat.lt_succ_self _, rfl⟩ ?_)
   ·
    show (0 ≤ r1 ∧ r1 ≤ 600 + (0 : Int)) ∧ List.length ([] : List Int) ≤ 0 ∧ (0 : Int) ≤ 1 + pick (Rdr.b (newReader code)) (Rdr.p (newReader code)) 3
    exact ⟨⟨by omega, by omega⟩, Nat.le_refl _, by omega⟩
   ·
    intro x hR
    obtain ⟨i, r11, list⟩ := x
    obtain ⟨hI0, k132, hk130, e131⟩ := hR
    replace hI0 : (0 ≤ r11 ∧ r11 ≤ 600 + (i : Int)) ∧ List.length list ≤ i ∧ (i : Int) ≤ 1 + pick (Rdr.b (newReader code)) (Rdr.p (newReader code)) 3 := hI0
    replace hk130 : Int.toNat ((1 + (pick (Rdr.b (newReader code)) (Rdr.p (newReader code)) 3)) - ((i : Nat) : Int)) < k132 := hk130
    obtain ⟨k132q, rfl⟩ : ∃ k, k132 = k + 1 := ⟨k132 - 1, by omega⟩
    refine AW.seq (AW.seq (AW.r1 hC [2, 5, 6, 7, 8, 9, 27] [8, 28, 44, 96] ⟨[(2, .ref 8 1 0), (5, .ref 44 1 0), (6, sI (1 + (pick (Rdr.b (newReader code)) (Rdr.p (newReader code)) 3))), (7, .ref 28 1 0), (8, .arr 96 1), (9, sI ((i : Nat) : Int)), (27, sB (decide (((i : Nat) : Int) < (1 + (pick (Rdr.b (newReader code)) (Rdr.p (newReader code)) 3)))))], [(8, .box 1 [sI 0, sI 0, sB false, sI 0, .nilsl]), (28, .box 1 [sI ue0, sI ue1, sB ue2, sI ue3, sD9 ue4]), (44, .box 1 [sD7 r0, sI r11]), (96, .arr 1 (.int .i64) (list : List Int))]⟩ ?_))
    refine AW.cd (decide (((i : Nat) : Int) < (1 + (pick (Rdr.b (newReader code)) (Rdr.p (newReader code)) 3)))) ?_ ?_
    ·
     intro h137
     have h137q := (of_decide_eq_true h137)
     have e138 := e131.trans (Go.Am.bif_t h137)
     refine AW.kp [2, 5, 6, 7, 8, 9] [8, 28, 44, 96] ⟨[(2, .ref 8 1 0), (5, .ref 44 1 0), (6, sI (1 + (pick (Rdr.b (newReader code)) (Rdr.p (newReader code)) 3))), (7, .ref 28 1 0), (8, .arr 96 1), (9, sI ((i : Nat) : Int))], [(8, .box 1 [sI 0, sI 0, sB false, sI 0, .nilsl]), (28, .box 1 [sI ue0, sI ue1, sB ue2, sI ue3, sD9 ue4]), (44, .box 1 [sD7 r0, sI r11]), (96, .arr 1 (.int .i64) (list : List Int))]⟩ ?_
     refine AW.skip (AW.seq (AW.block (AW.seq (AW.r0 hC [2, 5, 6, 7, 8, 9, 32] [8, 28, 44, 96] ⟨[(2, .ref 8 1 0), (5, .ref 44 1 0), (6, sI (1 + (pick (Rdr.b (newReader code)) (Rdr.p (newReader code)) 3))), (7, .ref 28 1 0), (8, .arr 96 1), (9, sI ((i : Nat) : Int)), (32, sB ((pick r0 r11 2) == 0))], [(8, .box 1 [sI 0, sI 0, sB false, sI 0, .nilsl]), (28, .box 1 [sI ue0, sI ue1, sB ue2, sI ue3, sD9 ue4]), (44, .box 1 [sD7 r0, sI (r11 + 1)]), (96, .arr 1 (.int .i64) (list : List Int))]⟩ [(0 ≤ (Rdr.mk r0 r11).p ∧ (Rdr.mk r0 r11).p ≤ 1099511627776)] ?_ ?_))))
     ·
      refine ⟨?_, trivial⟩
      ·
       first | omega | (dsimp only; omega) | (simp only [List.length_append, List.length_cons, List.length_nil]; omega) | (refine ⟨?_, ?_⟩ <;> first | omega | (dsimp only; omega) | (simp only [List.length_cons, List.length_nil]; omega))
     refine AW.cutQ (α := (List Int)) (fun x => ⟨[(2, .ref 8 1 0), (5, .ref 44 1 0), (6, sI (1 + (pick (Rdr.b (newReader code)) (Rdr.p (newReader code)) 3))), (7, .ref 28 1 0), (8, .arr 96 1), (9, sI ((i : Nat) : Int))], [(8, .box 1 [sI 0, sI 0, sB false, sI 0, .nilsl]), (28, .box 1 [sI ue0, sI ue1, sB ue2, sI ue3, sD9 ue4]), (44, .box 1 [sD7 r0, sI (r11 + 1)]), (96, .arr 1 (.int .i64) (x : List Int))]⟩) (fun x => (List.length x ≤ i + 1) ∧ (DrawRejectsNulls_j1 r0 i r11 list) = x) ?_ ?_
     ·
      skip
      have e162 : (DrawRejectsNulls_j1 r0 i r11 list) = (DrawRejectsNulls_j1 r0 i r11 list) := rfl
      refine AW.cd ((pick r0 r11 2) == 0) ?_ ?_
      ·
       intro h163
       have h163q := (Go.Am.beq_pos h163)
       have e164 := e162.trans (Go.Am.bif_t h163)
       refine AW.r0 hC [2, 5, 6, 7, 8, 9] [8, 28, 44, 96] ⟨[(2, .ref 8 1 0), (5, .ref 44 1 0), (6, sI (1 + (pick (Rdr.b (newReader code)) (Rdr.p (newReader code)) 3))), (7, .ref 28 1 0), (8, .arr 96 1), (9, sI ((i : Nat) : Int))], [(8, .box 1 [sI 0, sI 0, sB false, sI 0, .nilsl]), (28, .box 1 [sI ue0, sI ue1, sB ue2, sI ue3, sD9 ue4]), (44, .box 1 [sD7 r0, sI (r11 + 1)]), (96, .arr 1 (.int .i64) ((list ++ ([((i : Nat) : Int)] : List Int)) : List Int))]⟩ [(((List.length list : Nat) : Int) + ((List.length ([((i : Nat) : Int)] : List Int) : Nat) : Int) ≤ 4294967296)] ?_ ?_
       ·
        refine ⟨?_, trivial⟩
        ·
         first | omega | (dsimp only; omega) | (simp only [List.length_append, List.length_cons, List.length_nil]; omega) | (refine ⟨?_, ?_⟩ <;> first | omega | (dsimp only; omega) | (simp only [List.length_cons, List.length_nil]; omega))
       refine AW.meet (list ++ ([((i : Nat) : Int)] : List Int)) (by kernel_rfl) ⟨?_, e164⟩
       show List.length (list ++ ([((i : Nat) : Int)] : List Int)) ≤ i + 1
       first | omega | (simp only [List.length_append, List.length_cons, List.length_nil]; omega)
      ·
       intro h165
       have h165q := (Go.Am.beq_neg h165)
       have e166 := e162.trans (Go.Am.bif_f h165)
       refine AW.kp [2, 5, 6, 7, 8, 9] [8, 28, 44, 96] ⟨[(2, .ref 8 1 0), (5, .ref 44 1 0), (6, sI (1 + (pick (Rdr.b (newReader code)) (Rdr.p (newReader code)) 3))), (7, .ref 28 1 0), (8, .arr 96 1), (9, sI ((i : Nat) : Int))], [(8, .box 1 [sI 0, sI 0, sB false, sI 0, .nilsl]), (28, .box 1 [sI ue0, sI ue1, sB ue2, sI ue3, sD9 ue4]), (44, .box 1 [sD7 r0, sI (r11 + 1)]), (96, .arr 1 (.int .i64) (list : List Int))]⟩ ?_
       refine AW.skip (AW.meet list (by kernel_rfl) ⟨?_, e166⟩)
       show List.length list ≤ i + 1
       first | omega | (simp only [List.length_append, List.length_cons, List.length_nil]; omega)
     ·
      intro list1 hR
      obtain ⟨hM1, e167⟩ := hR
      replace hM1 : List.length list1 ≤ i + 1 := hM1
      have e168 := e138.trans (Go.Am.then_eq e167)
      refine AW.r0 hC [2, 5, 6, 7, 8, 9] [8, 28, 44, 96] ⟨[(2, .ref 8 1 0), (5, .ref 44 1 0), (6, sI (1 + (pick (Rdr.b (newReader code)) (Rdr.p (newReader code)) 3))), (7, .ref 28 1 0), (8, .arr 96 1), (9, sI ((i + 1 : Nat) : Int))], [(8, .box 1 [sI 0, sI 0, sB false, sI 0, .nilsl]), (28, .box 1 [sI ue0, sI ue1, sB ue2, sI ue3, sD9 ue4]), (44, .box 1 [sD7 r0, sI (r11 + 1)]), (96, .arr 1 (.int .i64) (list1 : List Int))]⟩ [R64 ((i + 1 : Nat) : Int)] ?_ ?_
      ·
       refine ⟨?_, trivial⟩
       ·
        refine R64.of ?_
        first | omega | (dsimp only; omega) | (simp only [List.length_append, List.length_cons, List.length_nil]; omega) | (refine ⟨?_, ?_⟩ <;> first | omega | (dsimp only; omega) | (simp only [List.length_cons, List.length_nil]; omega))
      refine AW.back (x := (i, r11, list)) (i + 1, (r11 + 1), list1) (by kernel_rfl) ⟨?_, k132q, ?_, e168⟩ ?_
      ·
       show (0 ≤ (r11 + 1) ∧ (r11 + 1) ≤ 600 + ((i + 1) : Int)) ∧ List.length list1 ≤ (i + 1) ∧ ((i + 1) : Int) ≤ 1 + pick (Rdr.b (newReader code)) (Rdr.p (newReader code)) 3
       (try simp only [List.length_append, List.length_cons, List.length_nil])
       omega
      ·
       show Int.toNat ((1 + (pick (Rdr.b (newReader code)) (Rdr.p (newReader code)) 3)) - (((i + 1) : Nat) : Int)) < k132q
       first | omega | (simp only [lens]; omega)
      ·
       show Int.toNat ((1 + (pick (Rdr.b (newReader code)) (Rdr.p (newReader code)) 3)) - (((i + 1) : Nat) : Int)) < Int.toNat ((1 + (pick (Rdr.b (newReader code)) (Rdr.p (newReader code)) 3)) - ((i : Nat) : Int))
       first | omega | (simp only [lens]; omega)
    ·
     intro h169
     have h169q := (of_decide_eq_false h169)
     have e170 := e131.trans (Go.Am.bif_f h169)
     refine AW.kp [2, 6, 7, 8] [8, 28, 96] ⟨[(2, .ref 8 1 0), (6, sI (1 + (pick (Rdr.b (newReader code)) (Rdr.p (newReader code)) 3))), (7, .ref 28 1 0), (8, .arr 96 1)], [(8, .box 1 [sI 0, sI 0, sB false, sI 0, .nilsl]), (28, .box 1 [sI ue0, sI ue1, sB ue2, sI ue3, sD9 ue4]), (96, .arr 1 (.int .i64) (list : List Int))]⟩ ?_
     refine AW.exit ?_
     refine AW.meet list (by kernel_rfl) ⟨?_, e170⟩
     show List.length list ≤ 3
     omega
  ·
   intro list hR
   obtain ⟨hJ0, e171⟩ := hR
   replace hJ0 : List.length list ≤ 3 := hJ0
   have e172 := e15.trans (Go.Am.then_eq e171)
   refine AW.seq (AW.r1 hC [2, 3, 4] [8, 96] ⟨[(2, .ref 8 1 0), (3, sI (1 + (pick (Rdr.b (newReader code)) (Rdr.p (newReader code)) 3))), (4, .arr 96 1)], [(8, .box 1 [sI ue0, sI ue1, sB ue2, sI ue3, sD9 ue4]), (96, .arr 1 (.int .i64) (list : List Int))]⟩ ?_)
   exact AW.ret (AW.retE (β := Xpr × Int × (List Int)) (fun v => [⟨(.named 1), v.1⟩, ⟨(.int .i64), v.2.1⟩, ⟨(.slice (.int .i64)), v.2.2⟩]) (fun v => []) (v := ((Xpr.mk ue0 ue1 (Val.mk ue2 ue3) ue4), (1 + (pick (Rdr.b (newReader code)) (Rdr.p (newReader code)) 3)), list)) e172 (by kernel_rfl) rfl rfl)

def isIn_l0 (list : List Int) (n : Int) : Nat → Nat → Unit ⊕ Bool
 | 0, i => .inl ()
 | k + 1, i => (bif (decide (((i : Nat) : Int) < ((List.length list : Nat) : Int))) then (bif ((List.getD list i 0) == n) then (.inr true) else (isIn_l0 list n k (i + 1))) else (.inl ()))

def isIn (list : List Int) (n : Int) : Bool := (Sum.elim (fun _ => false) (fun r => r) (isIn_l0 list n ((List.length list) - 0 + 1) 0))

def isIn_sp : FnSpec := mkSpec [.val (.slice (.int .i64)), .val (.int .i64)] [.val .bool] (fun (list : List Int) (n : Int) => True) (fun (list : List Int) (n : Int) => [⟨.bool, (isIn list n)⟩])

theorem isIn_ok : FnOK Try.prog 14 isIn_sp := by
 have hC : CtxOK Try.prog (mkCtx tyL []) := CtxOK.nil tyOK
 refine FnOK.of_body Try.func14 (by kernel_rfl) rfl (C := (mkCtx tyL [])) hC.ty (by kernel_rfl) ?_
 intro (list : List Int) (n : Int) hwf hpre E
 have hpre : True := hpre
 have hw_list : Wf ⟨(.slice (.int .i64)), (list : List Int)⟩ := hwf _ (List.Mem.head _)
 have hl_list : ((List.length list : Nat) : Int) ≤ 9223372036854775807 := hw_list.len
 have hw_n : Wf ⟨(.int .i64), (n : Int)⟩ := hwf _ (List.Mem.tail _ (List.Mem.head _))
 have hr_n : -9223372036854775808 ≤ n ∧ n ≤ 9223372036854775807 := hw_n.int_inv
 have e0 : isIn list n = isIn list n := rfl
 refine AW.seq (AW.r1 hC [0, 1] [] ⟨[(0, sD6 list), (1, sI n)], []⟩ ?_)
 refine AW.seq (AW.seq (AW.r1 hC [0, 1, 5] [] ⟨[(0, sD6 list), (1, sI n), (5, sI 0)], []⟩ ?_))
 refine AW.cutQ (α := Unit) (fun x => ⟨[], []⟩) (fun x => (True) ∧ (isIn_l0 list n ((List.length list) - 0 + 1) 0) = (.inl ())) ?_ ?_
 ·
  skip
  refine AW.block (AW.loop (α := Nat) (fun x => ⟨[(0, sD6 list), (1, sI n), (5, sI ((x : Nat) : Int))], []⟩) (fun x => (True) ∧ ∃ k, (List.length list) - x < k ∧ (isIn_l0 list n ((List.length list) - 0 + 1) 0) = isIn_l0 list n k x) (fun x => (List.length list) - x) 0 (by kernel_rfl) ⟨?_, _, Nat.lt_succ_self _, rfl⟩ ?_)
  ·
   show True
   first | exact trivial | (refine ⟨?_, ?_⟩ <;> first | omega | simp) | omega | simp
  ·
   intro i hR
   obtain ⟨hI0, k30, hk28, e29⟩ := hR
   replace hI0 : True := hI0
   replace hk28 : (List.length list) - i < k30 := hk28
   obtain ⟨k30q, rfl⟩ : ∃ k, k30 = k + 1 := ⟨k30 - 1, by omega⟩
   refine AW.seq (AW.seq (AW.r1 hC [0, 1, 5, 9] [] ⟨[(0, sD6 list), (1, sI n), (5, sI ((i : Nat) : Int)), (9, sB (decide (((i : Nat) : Int) < ((List.length list : Nat) : Int))))], []⟩ ?_))
   refine AW.cd (decide (((i : Nat) : Int) < ((List.length list : Nat) : Int))) ?_ ?_
   ·
    intro h31
    have h31q := (of_decide_eq_true h31)
    have e32 := e29.trans (Go.Am.bif_t h31)
    refine AW.kp [0, 1, 5] [] ⟨[(0, sD6 list), (1, sI n), (5, sI ((i : Nat) : Int))], []⟩ ?_
    refine AW.skip (AW.seq (AW.block (AW.seq (AW.r0 hC [0, 1, 5, 17] [] ⟨[(0, sD6 list), (1, sI n), (5, sI ((i : Nat) : Int)), (17, sB ((List.getD list i 0) == n))], []⟩ [IX ((i : Nat) : Int) ((List.length list : Nat) : Int)] ?_ ?_))))
    ·
     refine ⟨?_, trivial⟩
     ·
      refine IX.of ?_
      first | omega | (dsimp only; omega) | (simp only [lens] at *; omega)
    refine AW.cd ((List.getD list i 0) == n) ?_ ?_
    ·
     intro h33
     have h33q := (Go.Am.beq_pos h33)
     have e34 := e32.trans (Go.Am.bif_t h33)
     refine AW.seq (AW.r1 hC [4] [] ⟨[(4, sB true)], []⟩ ?_)
     refine AW.ret ?_
     have e35 := e0.trans (Go.Am.elim_r e34)
     exact AW.rB true e35
    ·
     intro h36
     have h36q := (Go.Am.beq_neg h36)
     have e37 := e32.trans (Go.Am.bif_f h36)
     refine AW.kp [0, 1, 5] [] ⟨[(0, sD6 list), (1, sI n), (5, sI ((i : Nat) : Int))], []⟩ ?_
     refine AW.skip (AW.r0 hC [0, 1, 5] [] ⟨[(0, sD6 list), (1, sI n), (5, sI ((i + 1 : Nat) : Int))], []⟩ [R64 ((i + 1 : Nat) : Int)] ?_ ?_)
     ·
      refine ⟨?_, trivial⟩
      ·
       refine R64.of ?_
       first | omega | (dsimp only; omega) | (simp only [lens] at *; omega)
     refine AW.back (x := i) (i + 1) (by kernel_rfl) ⟨?_, k30q, ?_, e37⟩ ?_
     ·
      show True
      first | assumption | exact trivial | (refine ⟨?_, ?_⟩ <;> first | omega | (simp only [lens] at *; omega)) | omega | (simp only [lens] at *; omega)
     ·
      show (List.length list) - (i + 1) < k30q
      first | omega | (simp only [lens]; omega)
     ·
      show (List.length list) - (i + 1) < (List.length list) - i
      first | omega | (simp only [lens]; omega)
   ·
    intro h38
    have h38q := (of_decide_eq_false h38)
    have e39 := e29.trans (Go.Am.bif_f h38)
    refine AW.kp [] [] ⟨[], []⟩ ?_
    refine AW.exit ?_
    refine AW.meet () (by kernel_rfl) ⟨?_, e39⟩
    show True
    first | assumption | exact trivial | omega
 ·
  intro x hR
  obtain ⟨hJ0, e40⟩ := hR
  replace hJ0 : True := hJ0
  have e41 := e0.trans (Go.Am.elim_l e40)
  refine AW.seq (AW.r1 hC [4] [] ⟨[(4, sB false)], []⟩ ?_)
  exact AW.ret (AW.rB false e41)

def isTrue (e : Xpr) (row : List Val) : Bool := (bif (bif ((EvalExpr (Xpr.mk (Xpr.Kind e) (Xpr.Col e) (Xpr.V e) (Xpr.Kids e)) row).2) then (!(Val.Null ((EvalExpr (Xpr.mk (Xpr.Kind e) (Xpr.Col e) (Xpr.V e) (Xpr.Kids e)) row).1))) else false) then ((Val.N ((EvalExpr (Xpr.mk (Xpr.Kind e) (Xpr.Col e) (Xpr.V e) (Xpr.Kids e)) row).1)) != 0) else false)

def isTrue_sp : FnSpec := mkSpec [.val (.named 1), .val (.slice (.named 0))] [.val .bool] (fun (e : Xpr) (row : List Val) => True) (fun (e : Xpr) (row : List Val) => [⟨.bool, (isTrue e row)⟩])

theorem isTrue_ok : FnOK Try.prog 15 isTrue_sp := by
 have hC : CtxOK Try.prog (mkCtx tyL [(10, EvalExpr_sp)]) := CtxOK.cons EvalExpr_ok (CtxOK.nil tyOK)
 refine FnOK.of_body Try.func15 (by kernel_rfl) rfl (C := (mkCtx tyL [(10, EvalExpr_sp)])) hC.ty (by kernel_rfl) ?_
 intro (e : Xpr) (row : List Val) hwf hpre E
 have hpre : True := hpre
 have hw_e : Wf ⟨(.named 1), (e : Xpr)⟩ := hwf _ (List.Mem.head _)
 obtain ⟨hr_e_Kind, hr_e_Col, hl_e_Kids⟩ := Xpr.wfl hw_e
 have hw_row : Wf ⟨(.slice (.named 0)), (row : List Val)⟩ := hwf _ (List.Mem.tail _ (List.Mem.head _))
 have hl_row : ((List.length row : Nat) : Int) ≤ 9223372036854775807 := hw_row.len
 have e0 : isTrue e row = isTrue e row := rfl
 refine AW.seq (AW.r1 hC [1, 2] [8] ⟨[(1, sD8 row), (2, .ref 8 1 0)], [(8, .box 1 [sI (Xpr.Kind e), sI (Xpr.Col e), sB (Val.Null (Xpr.V e)), sI (Val.N (Xpr.V e)), sD9 (Xpr.Kids e)])]⟩ ?_)
 refine AW.seq (AW.r0 hC [5, 6] [20] ⟨[(5, .ref 20 1 0), (6, sB ((EvalExpr (Xpr.mk (Xpr.Kind e) (Xpr.Col e) (Xpr.V e) (Xpr.Kids e)) row).2))], [(20, .box 1 [sB (Val.Null ((EvalExpr (Xpr.mk (Xpr.Kind e) (Xpr.Col e) (Xpr.V e) (Xpr.Kids e)) row).1)), sI (Val.N ((EvalExpr (Xpr.mk (Xpr.Kind e) (Xpr.Col e) (Xpr.V e) (Xpr.Kids e)) row).1))])]⟩ [(True)] ?_ ?_)
 ·
  refine ⟨?_, trivial⟩
  ·
   trivial
 refine AW.seq (AW.r0 hC [4] [] ⟨[(4, sB (bif (bif ((EvalExpr (Xpr.mk (Xpr.Kind e) (Xpr.Col e) (Xpr.V e) (Xpr.Kids e)) row).2) then (!(Val.Null ((EvalExpr (Xpr.mk (Xpr.Kind e) (Xpr.Col e) (Xpr.V e) (Xpr.Kids e)) row).1))) else false) then ((Val.N ((EvalExpr (Xpr.mk (Xpr.Kind e) (Xpr.Col e) (Xpr.V e) (Xpr.Kids e)) row).1)) != 0) else false))], []⟩ [((((EvalExpr (Xpr.mk (Xpr.Kind e) (Xpr.Col e) (Xpr.V e) (Xpr.Kids e)) row).2) = true) → ((((EvalExpr (Xpr.mk (Xpr.Kind e) (Xpr.Col e) (Xpr.V e) (Xpr.Kids e)) row).2) = true))), ((((EvalExpr (Xpr.mk (Xpr.Kind e) (Xpr.Col e) (Xpr.V e) (Xpr.Kids e)) row).2) = true) → ((((EvalExpr (Xpr.mk (Xpr.Kind e) (Xpr.Col e) (Xpr.V e) (Xpr.Kids e)) row).2) = true))), ((((EvalExpr (Xpr.mk (Xpr.Kind e) (Xpr.Col e) (Xpr.V e) (Xpr.Kids e)) row).2) = true) → ((((EvalExpr (Xpr.mk (Xpr.Kind e) (Xpr.Col e) (Xpr.V e) (Xpr.Kids e)) row).2) = true))), (((bif ((EvalExpr (Xpr.mk (Xpr.Kind e) (Xpr.Col e) (Xpr.V e) (Xpr.Kids e)) row).2) then (!(Val.Null ((EvalExpr (Xpr.mk (Xpr.Kind e) (Xpr.Col e) (Xpr.V e) (Xpr.Kids e)) row).1))) else false) = true) → (((bif ((EvalExpr (Xpr.mk (Xpr.Kind e) (Xpr.Col e) (Xpr.V e) (Xpr.Kids e)) row).2) then (!(Val.Null ((EvalExpr (Xpr.mk (Xpr.Kind e) (Xpr.Col e) (Xpr.V e) (Xpr.Kids e)) row).1))) else false) = true))), (((bif ((EvalExpr (Xpr.mk (Xpr.Kind e) (Xpr.Col e) (Xpr.V e) (Xpr.Kids e)) row).2) then (!(Val.Null ((EvalExpr (Xpr.mk (Xpr.Kind e) (Xpr.Col e) (Xpr.V e) (Xpr.Kids e)) row).1))) else false) = true) → (((bif ((EvalExpr (Xpr.mk (Xpr.Kind e) (Xpr.Col e) (Xpr.V e) (Xpr.Kids e)) row).2) then (!(Val.Null ((EvalExpr (Xpr.mk (Xpr.Kind e) (Xpr.Col e) (Xpr.V e) (Xpr.Kids e)) row).1))) else false) = true))), (((bif ((EvalExpr (Xpr.mk (Xpr.Kind e) (Xpr.Col e) (Xpr.V e) (Xpr.Kids e)) row).2) then (!(Val.Null ((EvalExpr (Xpr.mk (Xpr.Kind e) (Xpr.Col e) (Xpr.V e) (Xpr.Kids e)) row).1))) else false) = true) → (((bif ((EvalExpr (Xpr.mk (Xpr.Kind e) (Xpr.Col e) (Xpr.V e) (Xpr.Kids e)) row).2) then (!(Val.Null ((EvalExpr (Xpr.mk (Xpr.Kind e) (Xpr.Col e) (Xpr.V e) (Xpr.Kids e)) row).1))) else false) = true)))] ?_ ?_)
 ·
  refine ⟨?_, ?_, ?_, ?_, ?_, ?_, trivial⟩
  ·
   intro g1
   have g1p0 : ((EvalExpr (Xpr.mk (Xpr.Kind e) (Xpr.Col e) (Xpr.V e) (Xpr.Kids e)) row).2) = true := g1
   first | assumption | exact ⟨by assumption, by assumption⟩
  ·
   intro g2
   have g2p0 : ((EvalExpr (Xpr.mk (Xpr.Kind e) (Xpr.Col e) (Xpr.V e) (Xpr.Kids e)) row).2) = true := g2
   first | assumption | exact ⟨by assumption, by assumption⟩
  ·
   intro g3
   have g3p0 : ((EvalExpr (Xpr.mk (Xpr.Kind e) (Xpr.Col e) (Xpr.V e) (Xpr.Kids e)) row).2) = true := g3
   first | assumption | exact ⟨by assumption, by assumption⟩
  ·
   intro g4
   have g4p0 : (((EvalExpr (Xpr.mk (Xpr.Kind e) (Xpr.Col e) (Xpr.V e) (Xpr.Kids e)) row).2) = true) ∧ ((Val.Null ((EvalExpr (Xpr.mk (Xpr.Kind e) (Xpr.Col e) (Xpr.V e) (Xpr.Kids e)) row).1)) = false) := (And.imp (fun h => h) (fun h => (Go.Am.not_pos h)) (Go.Am.and_pos g4))
   first | assumption | exact ⟨by assumption, by assumption⟩
  ·
   intro g5
   have g5p0 : (((EvalExpr (Xpr.mk (Xpr.Kind e) (Xpr.Col e) (Xpr.V e) (Xpr.Kids e)) row).2) = true) ∧ ((Val.Null ((EvalExpr (Xpr.mk (Xpr.Kind e) (Xpr.Col e) (Xpr.V e) (Xpr.Kids e)) row).1)) = false) := (And.imp (fun h => h) (fun h => (Go.Am.not_pos h)) (Go.Am.and_pos g5))
   first | assumption | exact ⟨by assumption, by assumption⟩
  ·
   intro g6
   have g6p0 : (((EvalExpr (Xpr.mk (Xpr.Kind e) (Xpr.Col e) (Xpr.V e) (Xpr.Kids e)) row).2) = true) ∧ ((Val.Null ((EvalExpr (Xpr.mk (Xpr.Kind e) (Xpr.Col e) (Xpr.V e) (Xpr.Kids e)) row).1)) = false) := (And.imp (fun h => h) (fun h => (Go.Am.not_pos h)) (Go.Am.and_pos g6))
   first | assumption | exact ⟨by assumption, by assumption⟩
 exact AW.ret (AW.rB (bif (bif ((EvalExpr (Xpr.mk (Xpr.Kind e) (Xpr.Col e) (Xpr.V e) (Xpr.Kids e)) row).2) then (!(Val.Null ((EvalExpr (Xpr.mk (Xpr.Kind e) (Xpr.Col e) (Xpr.V e) (Xpr.Kids e)) row).1))) else false) then ((Val.N ((EvalExpr (Xpr.mk (Xpr.Kind e) (Xpr.Col e) (Xpr.V e) (Xpr.Kids e)) row).1)) != 0) else false) e0)

end
end Go.Proofs.Ytophfihhdelbiaa
