/-
  A part of the proof of this claim (AuK): what functions of the program compute, and plain facts of that. No conditions.
-/
import Derived.Test.YtbgbekpbbcahpaaAuJ
set_option linter.all false
namespace Go.Proofs.Ytbgbekpbbcahpaa
open Go Go.Am
noncomputable section

def DrawIndexed_l0 : Nat → Int → Int → Int → Bool → Int → (List Xpr) → (List Int) → Int → Int × Int × Bool × Int × (List Xpr) × (List Int) × Int
 | 0, n, ue0, ue1, ue2, ue3, ue4, r0, r1 => (ue0, ue1, ue2, ue3, ue4, r0, r1)
 | k + 1, n, ue0, ue1, ue2, ue3, ue4, r0, r1 => (bif (decide (0 < n)) then (DrawIndexed_l0 k (n - 1) 8 0 false 0 ([(Xpr.mk ue0 ue1 (Val.mk ue2 ue3) ue4), ((randomCondition (Rdr.mk r0 r1) 2).1)] : List Xpr) (Rdr.b ((randomCondition (Rdr.mk r0 r1) 2).2)) (Rdr.p ((randomCondition (Rdr.mk r0 r1) 2).2))) else (ue0, ue1, ue2, ue3, ue4, r0, r1))

def DrawIndexed (code : List Int) : Tab × Xpr × Int := (Go.Am.andThen (DrawIndexed_l0 (Int.toNat (pick (Rdr.b ((randomCondition ((anyTable (newReader code) 2 7).2) 2).2)) (Rdr.p ((randomCondition ((anyTable (newReader code) 2 7).2) 2).2)) 3) + 1) (pick (Rdr.b ((randomCondition ((anyTable (newReader code) 2 7).2) 2).2)) (Rdr.p ((randomCondition ((anyTable (newReader code) 2 7).2) 2).2)) 3) (Xpr.Kind ((randomCondition ((anyTable (newReader code) 2 7).2) 2).1)) (Xpr.Col ((randomCondition ((anyTable (newReader code) 2 7).2) 2).1)) (Val.Null (Xpr.V ((randomCondition ((anyTable (newReader code) 2 7).2) 2).1))) (Val.N (Xpr.V ((randomCondition ((anyTable (newReader code) 2 7).2) 2).1))) (Xpr.Kids ((randomCondition ((anyTable (newReader code) 2 7).2) 2).1)) (Rdr.b ((randomCondition ((anyTable (newReader code) 2 7).2) 2).2)) ((Rdr.p ((randomCondition ((anyTable (newReader code) 2 7).2) 2).2)) + 1)) (fun z => (fun (ue0 : Int) (ue1 : Int) (ue2 : Bool) (ue3 : Int) (ue4 : List Xpr) (r0 : List Int) (r1 : Int) => (((anyTable (newReader code) 2 7).1), (Xpr.mk ue0 ue1 (Val.mk ue2 ue3) ue4), (pick r0 r1 2))) z.1 z.2.1 z.2.2.1 z.2.2.2.1 z.2.2.2.2.1 z.2.2.2.2.2.1 z.2.2.2.2.2.2))

def DrawIndexed_sp : FnSpec := mkSpec [.val (.slice (.int .u8))] [.val (.named 3), .val (.named 1), .val (.int .i64)] (fun (code : List Int) => True) (fun (code : List Int) => [⟨(.named 3), ((DrawIndexed code).1)⟩, ⟨(.named 1), ((DrawIndexed code).2.1)⟩, ⟨(.int .i64), ((DrawIndexed code).2.2)⟩])

theorem DrawIndexed_ok : FnOK Try.prog 11 DrawIndexed_sp := by
 have hC : CtxOK Try.prog (mkCtx tyL [(30, newReader_sp), (31, anyTable_sp), (32, randomCondition_sp), (33, pickS)]) := CtxOK.cons newReader_ok (CtxOK.cons anyTable_ok (CtxOK.cons randomCondition_ok (CtxOK.cons pickS_ok (CtxOK.nil tyOK))))
 have hM : Try.prog.follows .mixedOrders = true := Try.checked.mixed
 refine FnOK.of_body Try.func11 (by kernel_rfl) rfl (C := (mkCtx tyL [(30, newReader_sp), (31, anyTable_sp), (32, randomCondition_sp), (33, pickS)])) hC.ty (by kernel_rfl) ?_
 intro (code : List Int) hwf hpre E
 have hpre : True := hpre
 have hw_code : Wf ⟨(.slice (.int .u8)), (code : List Int)⟩ := hwf _ (List.Mem.head _)
 have hl_code : ((List.length code : Nat) : Int) ≤ 9223372036854775807 := hw_code.len
 have h0 := newReader_p code
 have hT := (anyTable_p (newReader code) (width := 2) (most := 7) (by decide) (by decide)).1
 have hRC := randomCondition_p (anyTable (newReader code) 2 7).2 2
 have hC1 : ((anyTable (newReader code) 2 7).2).p ≤ _ := hRC.1
 have hC2 : _ ≤ ((anyTable (newReader code) 2 7).2).p + 390 := hRC.2
 have e0 : DrawIndexed code = DrawIndexed code := rfl
 refine AW.seq (AW.r1 hC [0, 2, 3] [8, 12] ⟨[(0, sD9 code), (2, .ref 8 1 0), (3, .ref 12 1 0)], [(8, .box 1 [sI 0, .nilsl]), (12, .box 1 [sI 0, sI 0, sB false, sI 0, .nilsl])]⟩ ?_)
 refine AW.seq (AW.r0 hC [2, 3, 5] [8, 12, 40] ⟨[(2, .ref 8 1 0), (3, .ref 12 1 0), (5, .ref 40 1 0)], [(8, .box 1 [sI 0, .nilsl]), (12, .box 1 [sI 0, sI 0, sB false, sI 0, .nilsl]), (40, .box 1 [sD9 (Rdr.b (newReader code)), sI (Rdr.p (newReader code))])]⟩ [(True)] ?_ ?_)
 ·
  refine ⟨?_, trivial⟩
  ·
   trivial
 refine AW.seq (AW.r0 hC [2, 3, 5, 6] [8, 12, 24, 40] ⟨[(2, .ref 8 1 0), (3, .ref 12 1 0), (5, .ref 40 1 0), (6, .ref 24 1 0)], [(8, .box 1 [sI 0, .nilsl]), (12, .box 1 [sI 0, sI 0, sB false, sI 0, .nilsl]), (24, .box 1 [sI (Tab.Width ((anyTable (newReader code) 2 7).1)), sD12 (Tab.Rows ((anyTable (newReader code) 2 7).1))]), (40, .box 1 [sD9 (Rdr.b ((anyTable (newReader code) 2 7).2)), sI (Rdr.p ((anyTable (newReader code) 2 7).2))])]⟩ [((0 ≤ (newReader code).p ∧ (newReader code).p ≤ 900000000000) ∧ (1 ≤ (2 : Int) ∧ (2 : Int) ≤ 6) ∧ (0 ≤ (7 : Int) ∧ (7 : Int) ≤ 99))] ?_ ?_)
 ·
  refine ⟨?_, trivial⟩
  ·
   omega
 refine AW.seq (AW.r0 hC [2, 3, 5, 6, 7] [8, 12, 24, 28, 40] ⟨[(2, .ref 8 1 0), (3, .ref 12 1 0), (5, .ref 40 1 0), (6, .ref 24 1 0), (7, .ref 28 1 0)], [(8, .box 1 [sI 0, .nilsl]), (12, .box 1 [sI 0, sI 0, sB false, sI 0, .nilsl]), (24, .box 1 [sI (Tab.Width ((anyTable (newReader code) 2 7).1)), sD12 (Tab.Rows ((anyTable (newReader code) 2 7).1))]), (28, .box 1 [sI (Xpr.Kind ((randomCondition ((anyTable (newReader code) 2 7).2) 2).1)), sI (Xpr.Col ((randomCondition ((anyTable (newReader code) 2 7).2) 2).1)), sB (Val.Null (Xpr.V ((randomCondition ((anyTable (newReader code) 2 7).2) 2).1))), sI (Val.N (Xpr.V ((randomCondition ((anyTable (newReader code) 2 7).2) 2).1))), sD11 (Xpr.Kids ((randomCondition ((anyTable (newReader code) 2 7).2) 2).1))]), (40, .box 1 [sD9 (Rdr.b ((randomCondition ((anyTable (newReader code) 2 7).2) 2).2)), sI (Rdr.p ((randomCondition ((anyTable (newReader code) 2 7).2) 2).2))])]⟩ [(0 ≤ ((anyTable (newReader code) 2 7).2).p ∧ ((anyTable (newReader code) 2 7).2).p ≤ 999999980000)] ?_ ?_)
 ·
  refine ⟨?_, trivial⟩
  ·
   omega
 refine AW.seq (AW.seq (AW.r0 hC [2, 3, 5, 6, 7, 8] [8, 12, 24, 28, 40] ⟨[(2, .ref 8 1 0), (3, .ref 12 1 0), (5, .ref 40 1 0), (6, .ref 24 1 0), (7, .ref 28 1 0), (8, sI (pick (Rdr.b ((randomCondition ((anyTable (newReader code) 2 7).2) 2).2)) (Rdr.p ((randomCondition ((anyTable (newReader code) 2 7).2) 2).2)) 3))], [(8, .box 1 [sI 0, .nilsl]), (12, .box 1 [sI 0, sI 0, sB false, sI 0, .nilsl]), (24, .box 1 [sI (Tab.Width ((anyTable (newReader code) 2 7).1)), sD12 (Tab.Rows ((anyTable (newReader code) 2 7).1))]), (28, .box 1 [sI (Xpr.Kind ((randomCondition ((anyTable (newReader code) 2 7).2) 2).1)), sI (Xpr.Col ((randomCondition ((anyTable (newReader code) 2 7).2) 2).1)), sB (Val.Null (Xpr.V ((randomCondition ((anyTable (newReader code) 2 7).2) 2).1))), sI (Val.N (Xpr.V ((randomCondition ((anyTable (newReader code) 2 7).2) 2).1))), sD11 (Xpr.Kids ((randomCondition ((anyTable (newReader code) 2 7).2) 2).1))]), (40, .box 1 [sD9 (Rdr.b ((randomCondition ((anyTable (newReader code) 2 7).2) 2).2)), sI ((Rdr.p ((randomCondition ((anyTable (newReader code) 2 7).2) 2).2)) + 1)])]⟩ [(0 ≤ ((randomCondition ((anyTable (newReader code) 2 7).2) 2).2).p ∧ ((randomCondition ((anyTable (newReader code) 2 7).2) 2).2).p ≤ 1099511627776)] ?_ ?_))
 ·
  refine ⟨?_, trivial⟩
  ·
   omega
 refine AW.cutQ (α := Int × Int × Bool × Int × (List Xpr) × (List Int) × Int) (fun x => ⟨[(2, .ref 8 1 0), (3, .ref 12 1 0), (5, .ref 40 1 0), (6, .ref 24 1 0), (7, .ref 28 1 0)], [(8, .box 1 [sI 0, .nilsl]), (12, .box 1 [sI 0, sI 0, sB false, sI 0, .nilsl]), (24, .box 1 [sI (Tab.Width ((anyTable (newReader code) 2 7).1)), sD12 (Tab.Rows ((anyTable (newReader code) 2 7).1))]), (28, .box 1 [sI x.1, sI x.2.1, sB x.2.2.1, sI x.2.2.2.1, sD11 x.2.2.2.2.1]), (40, .box 1 [sD9 x.2.2.2.2.2.1, sI x.2.2.2.2.2.2])]⟩) (fun x => (0 ≤ x.2.2.2.2.2.2 ∧ x.2.2.2.2.2.2 ≤ 60000) ∧ (DrawIndexed_l0 (Int.toNat (pick (Rdr.b ((randomCondition ((anyTable (newReader code) 2 7).2) 2).2)) (Rdr.p ((randomCondition ((anyTable (newReader code) 2 7).2) 2).2)) 3) + 1) (pick (Rdr.b ((randomCondition ((anyTable (newReader code) 2 7).2) 2).2)) (Rdr.p ((randomCondition ((anyTable (newReader code) 2 7).2) 2).2)) 3) (Xpr.Kind ((randomCondition ((anyTable (newReader code) 2 7).2) 2).1)) (Xpr.Col ((randomCondition ((anyTable (newReader code) 2 7).2) 2).1)) (Val.Null (Xpr.V ((randomCondition ((anyTable (newReader code) 2 7).2) 2).1))) (Val.N (Xpr.V ((randomCondition ((anyTable (newReader code) 2 7).2) 2).1))) (Xpr.Kids ((randomCondition ((anyTable (newReader code) 2 7).2) 2).1)) (Rdr.b ((randomCondition ((anyTable (newReader code) 2 7).2) 2).2)) ((Rdr.p ((randomCondition ((anyTable (newReader code) 2 7).2) 2).2)) + 1)) = x) ?_ ?_
 ·
  skip
  refine AW.block (AW.loop (α := Int × Int × Int × Bool × Int × (List Xpr) × (List Int) × Int) (fun x => ⟨[(2, .ref 8 1 0), (3, .ref 12 1 0), (5, .ref 40 1 0), (6, .ref 24 1 0), (7, .ref 28 1 0), (8, sI x.1)], [(8, .box 1 [sI 0, .nilsl]), (12, .box 1 [sI 0, sI 0, sB false, sI 0, .nilsl]), (24, .box 1 [sI (Tab.Width ((anyTable (newReader code) 2 7).1)), sD12 (Tab.Rows ((anyTable (newReader code) 2 7).1))]), (28, .box 1 [sI x.2.1, sI x.2.2.1, sB x.2.2.2.1, sI x.2.2.2.2.1, sD11 x.2.2.2.2.2.1]), (40, .box 1 [sD9 x.2.2.2.2.2.2.1, sI x.2.2.2.2.2.2.2])]⟩) (fun x => ((0 ≤ x.2.2.2.2.2.2.2 ∧ x.2.2.2.2.2.2.2 + 400 * x.1 ≤ 60000) ∧ 0 ≤ x.1 ∧ x.1 ≤ 3) ∧ ∃ k, Int.toNat x.1 < k ∧ (DrawIndexed_l0 (Int.toNat (pick (Rdr.b ((randomCondition ((anyTable (newReader code) 2 7).2) 2).2)) (Rdr.p ((randomCondition ((anyTable (newReader code) 2 7).2) 2).2)) 3) + 1) (pick (Rdr.b ((randomCondition ((anyTable (newReader code) 2 7).2) 2).2)) (Rdr.p ((randomCondition ((anyTable (newReader code) 2 7).2) 2).2)) 3) (Xpr.Kind ((randomCondition ((anyTable (newReader code) 2 7).2) 2).1)) (Xpr.Col ((randomCondition ((anyTable (newReader code) 2 7).2) 2).1)) (Val.Null (Xpr.V ((randomCondition ((anyTable (newReader code) 2 7).2) 2).1))) (Val.N (Xpr.V ((randomCondition ((anyTable (newReader code) 2 7).2) 2).1))) (Xpr.Kids ((randomCondition ((anyTable (newReader code) 2 7).2) 2).1)) (Rdr.b ((randomCondition ((anyTable (newReader code) 2 7).2) 2).2)) ((Rdr.p ((randomCondition ((anyTable (newReader code) 2 7).2) 2).2)) + 1)) = DrawIndexed_l0 k x.1 x.2.1 x.2.2.1 x.2.2.2.1 x.2.2.2.2.1 x.2.2.2.2.2.1 x.2.2.2.2.2.2.1 x.2.2.2.2.2.2.2) (fun x => Int.toNat x.1) ((pick (Rdr.b ((randomCondition ((anyTable (newReader code) 2 7).2) 2).2)) (Rdr.p ((randomCondition ((anyTable (newReader code) 2 7).2) 2).2)) 3), (Xpr.Kind ((randomCondition ((anyTable (newReader code) 2 7).2) 2).1)), (Xpr.Col ((randomCondition ((anyTable (newReader code) 2 7).2) 2).1)), (Val.Null (Xpr.V ((randomCondition ((anyTable (newReader code) 2 7).2) 2).1))), (Val.N (Xpr.V ((randomCondition ((anyTable (newReader code) 2 7).2) 2).1))), (Xpr.Kids ((randomCondition ((anyTable (newReader code) 2 7).2) 2).1)), (Rdr.b ((randomCondition ((anyTable (newReader code) 2 7).2) 2).2)), ((Rdr.p ((randomCondition ((anyTable (newReader code) 2 7).2) 2).2)) + 1)) (by kernel_rfl) ⟨?_, _, Nat.lt_succ_self _, rfl⟩ ?_)
  ·
   show (0 ≤ ((Rdr.p ((randomCondition ((anyTable (newReader code) 2 7).2) 2).2)) + 1) ∧ ((Rdr.p ((randomCondition ((anyTable (newReader code) 2 7).2) 2).2)) + 1) + 400 * (pick (Rdr.b ((randomCondition ((anyTable (newReader code) 2 7).2) 2).2)) (Rdr.p ((randomCondition ((anyTable (newReader code) 2 7).2) 2).2)) 3) ≤ 60000) ∧ 0 ≤ (pick (Rdr.b ((randomCondition ((anyTable (newReader code) 2 7).2) 2).2)) (Rdr.p ((randomCondition ((anyTable (newReader code) 2 7).2) 2).2)) 3) ∧ (pick (Rdr.b ((randomCondition ((anyTable (newReader code) 2 7).2) 2).2)) (Rdr.p ((randomCondition ((anyTable (newReader code) 2 7).2) 2).2)) 3) ≤ 3
   have hp := pick_ok (n := 3) (Rdr.b ((randomCondition ((anyTable (newReader code) 2 7).2) 2).2)) (Rdr.p ((randomCondition ((anyTable (newReader code) 2 7).2) 2).2)) (by decide)
   omega
  ·
   intro x hR
   obtain ⟨n, ue0, ue1, ue2, ue3, ue4, r0, r1⟩ := x
   obtain ⟨hI0, k15, hk13, e14⟩ := hR
   replace hI0 : (0 ≤ r1 ∧ r1 + 400 * n ≤ 60000) ∧ 0 ≤ n ∧ n ≤ 3 := hI0
   replace hk13 : Int.toNat n < k15 := hk13
   obtain ⟨k15q, rfl⟩ : ∃ k, k15 = k + 1 := ⟨k15 - 1, by omega⟩
   have hq := randomCondition_p (Rdr.mk r0 r1) 2
   have hq1 : r1 ≤ _ := hq.1
   have hq2 : _ ≤ r1 + 390 := hq.2
   refine AW.seq (AW.seq (AW.r1 hC [2, 3, 5, 6, 7, 8, 18] [8, 12, 24, 28, 40] ⟨[(2, .ref 8 1 0), (3, .ref 12 1 0), (5, .ref 40 1 0), (6, .ref 24 1 0), (7, .ref 28 1 0), (8, sI n), (18, sB (decide (0 < n)))], [(8, .box 1 [sI 0, .nilsl]), (12, .box 1 [sI 0, sI 0, sB false, sI 0, .nilsl]), (24, .box 1 [sI (Tab.Width ((anyTable (newReader code) 2 7).1)), sD12 (Tab.Rows ((anyTable (newReader code) 2 7).1))]), (28, .box 1 [sI ue0, sI ue1, sB ue2, sI ue3, sD11 ue4]), (40, .box 1 [sD9 r0, sI r1])]⟩ ?_))
   refine AW.cd (decide (0 < n)) ?_ ?_
   ·
    intro h16
    have h16q := (of_decide_eq_true h16)
    have e17 := e14.trans (Go.Am.bif_t h16)
    refine AW.kp [2, 3, 5, 6, 7, 8] [8, 12, 24, 28, 40] ⟨[(2, .ref 8 1 0), (3, .ref 12 1 0), (5, .ref 40 1 0), (6, .ref 24 1 0), (7, .ref 28 1 0), (8, sI n)], [(8, .box 1 [sI 0, .nilsl]), (12, .box 1 [sI 0, sI 0, sB false, sI 0, .nilsl]), (24, .box 1 [sI (Tab.Width ((anyTable (newReader code) 2 7).1)), sD12 (Tab.Rows ((anyTable (newReader code) 2 7).1))]), (28, .box 1 [sI ue0, sI ue1, sB ue2, sI ue3, sD11 ue4]), (40, .box 1 [sD9 r0, sI r1])]⟩ ?_
    refine AW.skip (AW.seq (AW.block (AW.d0 hC hM [2, 3, 5, 6, 7, 8] [8, 12, 24, 28, 40, 96] ⟨[(2, .ref 8 1 0), (3, .ref 12 1 0), (5, .ref 40 1 0), (6, .ref 24 1 0), (7, .ref 28 1 0), (8, sI n)], [(8, .box 1 [sI 0, .nilsl]), (12, .box 1 [sI 0, sI 0, sB false, sI 0, .nilsl]), (24, .box 1 [sI (Tab.Width ((anyTable (newReader code) 2 7).1)), sD12 (Tab.Rows ((anyTable (newReader code) 2 7).1))]), (28, .box 1 [sI 8, sI 0, sB false, sI 0, .arr 96 1]), (40, .box 1 [sD9 (Rdr.b ((randomCondition (Rdr.mk r0 r1) 2).2)), sI (Rdr.p ((randomCondition (Rdr.mk r0 r1) 2).2))]), (96, .arr 1 (.named 1) (([(Xpr.mk ue0 ue1 (Val.mk ue2 ue3) ue4), ((randomCondition (Rdr.mk r0 r1) 2).1)] : List Xpr) : List Xpr))]⟩ [(0 ≤ (Rdr.mk r0 r1).p ∧ (Rdr.mk r0 r1).p ≤ 999999980000)] ?_ ?_)))
    ·
     refine ⟨?_, trivial⟩
     ·
      dsimp only; omega
    refine AW.frz 96 ⟨[(2, .ref 8 1 0), (3, .ref 12 1 0), (5, .ref 40 1 0), (6, .ref 24 1 0), (7, .ref 28 1 0), (8, sI n)], [(8, .box 1 [sI 0, .nilsl]), (12, .box 1 [sI 0, sI 0, sB false, sI 0, .nilsl]), (24, .box 1 [sI (Tab.Width ((anyTable (newReader code) 2 7).1)), sD12 (Tab.Rows ((anyTable (newReader code) 2 7).1))]), (28, .box 1 [sI 8, sI 0, sB false, sI 0, sD11 ([(Xpr.mk ue0 ue1 (Val.mk ue2 ue3) ue4), ((randomCondition (Rdr.mk r0 r1) 2).1)] : List Xpr)]), (40, .box 1 [sD9 (Rdr.b ((randomCondition (Rdr.mk r0 r1) 2).2)), sI (Rdr.p ((randomCondition (Rdr.mk r0 r1) 2).2))])]⟩ (by kernel_rfl) ?_
    refine AW.r0 hC [2, 3, 5, 6, 7, 8] [8, 12, 24, 28, 40] ⟨[(2, .ref 8 1 0), (3, .ref 12 1 0), (5, .ref 40 1 0), (6, .ref 24 1 0), (7, .ref 28 1 0), (8, sI (n - 1))], [(8, .box 1 [sI 0, .nilsl]), (12, .box 1 [sI 0, sI 0, sB false, sI 0, .nilsl]), (24, .box 1 [sI (Tab.Width ((anyTable (newReader code) 2 7).1)), sD12 (Tab.Rows ((anyTable (newReader code) 2 7).1))]), (28, .box 1 [sI 8, sI 0, sB false, sI 0, sD11 ([(Xpr.mk ue0 ue1 (Val.mk ue2 ue3) ue4), ((randomCondition (Rdr.mk r0 r1) 2).1)] : List Xpr)]), (40, .box 1 [sD9 (Rdr.b ((randomCondition (Rdr.mk r0 r1) 2).2)), sI (Rdr.p ((randomCondition (Rdr.mk r0 r1) 2).2))])]⟩ [R64 (n - 1)] ?_ ?_
    ·
     refine ⟨?_, trivial⟩
     ·
      refine R64.of ?_
      omega
    refine AW.back (x := (n, ue0, ue1, ue2, ue3, ue4, r0, r1)) ((n - 1), 8, 0, false, 0, ([(Xpr.mk ue0 ue1 (Val.mk ue2 ue3) ue4), ((randomCondition (Rdr.mk r0 r1) 2).1)] : List Xpr), (Rdr.b ((randomCondition (Rdr.mk r0 r1) 2).2)), (Rdr.p ((randomCondition (Rdr.mk r0 r1) 2).2))) (by kernel_rfl) ⟨?_, k15q, ?_, e17⟩ ?_
    ·
     show (0 ≤ (Rdr.p ((randomCondition (Rdr.mk r0 r1) 2).2)) ∧ (Rdr.p ((randomCondition (Rdr.mk r0 r1) 2).2)) + 400 * (n - 1) ≤ 60000) ∧ 0 ≤ (n - 1) ∧ (n - 1) ≤ 3
     omega
    ·
     show Int.toNat (n - 1) < k15q
     omega
    ·
     show Int.toNat (n - 1) < Int.toNat n
     omega
   ·
    intro h18
    have h18q := (of_decide_eq_false h18)
    have e19 := e14.trans (Go.Am.bif_f h18)
    refine AW.kp [2, 3, 5, 6, 7] [8, 12, 24, 28, 40] ⟨[(2, .ref 8 1 0), (3, .ref 12 1 0), (5, .ref 40 1 0), (6, .ref 24 1 0), (7, .ref 28 1 0)], [(8, .box 1 [sI 0, .nilsl]), (12, .box 1 [sI 0, sI 0, sB false, sI 0, .nilsl]), (24, .box 1 [sI (Tab.Width ((anyTable (newReader code) 2 7).1)), sD12 (Tab.Rows ((anyTable (newReader code) 2 7).1))]), (28, .box 1 [sI ue0, sI ue1, sB ue2, sI ue3, sD11 ue4]), (40, .box 1 [sD9 r0, sI r1])]⟩ ?_
    refine AW.exit ?_
    refine AW.meet (ue0, ue1, ue2, ue3, ue4, r0, r1) (by kernel_rfl) ⟨?_, e19⟩
    show 0 ≤ r1 ∧ r1 ≤ 60000
    omega
 ·
  intro x hR
  obtain ⟨ue0, ue1, ue2, ue3, ue4, r0, r1⟩ := x
  obtain ⟨hJ0, e20⟩ := hR
  replace hJ0 : 0 ≤ r1 ∧ r1 ≤ 60000 := hJ0
  have e21 := e0.trans (Go.Am.then_eq e20)
  refine AW.seq (AW.d0 hC hM [2, 3, 4] [8, 12] ⟨[(2, .ref 8 1 0), (3, .ref 12 1 0), (4, sI (pick r0 r1 2))], [(8, .box 1 [sI (Tab.Width ((anyTable (newReader code) 2 7).1)), sD12 (Tab.Rows ((anyTable (newReader code) 2 7).1))]), (12, .box 1 [sI ue0, sI ue1, sB ue2, sI ue3, sD11 ue4])]⟩ [(0 ≤ (Rdr.mk r0 r1).p ∧ (Rdr.mk r0 r1).p ≤ 1099511627776)] ?_ ?_)
  ·
   refine ⟨?_, trivial⟩
   ·
    dsimp only; omega
  exact AW.ret (AW.retE (β := Tab × Xpr × Int) (fun v => [⟨(.named 3), v.1⟩, ⟨(.named 1), v.2.1⟩, ⟨(.int .i64), v.2.2⟩]) (fun v => []) (v := (((anyTable (newReader code) 2 7).1), (Xpr.mk ue0 ue1 (Val.mk ue2 ue3) ue4), (pick r0 r1 2))) e21 (by kernel_rfl) (by kernel_rfl) rfl)

end
end Go.Proofs.Ytbgbekpbbcahpaa
