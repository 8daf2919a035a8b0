/-
  A part of the proof of this claim (AwP): what functions of the program compute, and plain facts of that. No conditions.
-/
import Derived.Test.YtjcjpeckfikfkaaAwO
set_option linter.all false
namespace Go.Proofs.Ytjcjpeckfikfkaa
open Go Go.Am
noncomputable section

def DrawDistinctRows (code : List Int) : Tab := ((anyTable (Rdr.mk (Rdr.b (newReader code)) ((Rdr.p (newReader code)) + 1)) (1 + (pick (Rdr.b (newReader code)) (Rdr.p (newReader code)) 2)) 9).1)

def DrawDistinctRows_sp : FnSpec := mkSpec [.val (.slice (.int .u8))] [.val (.named 2)] (fun (code : List Int) => True) (fun (code : List Int) => [⟨(.named 2), (DrawDistinctRows code)⟩])

theorem DrawDistinctRows_ok : FnOK Try.prog 32 DrawDistinctRows_sp := by
 have hC : CtxOK Try.prog (mkCtx tyL [(55, newReader_sp), (56, pickS), (74, anyTable_sp)]) := CtxOK.cons newReader_ok (CtxOK.cons pickS_ok (CtxOK.cons anyTable_ok (CtxOK.nil tyOK)))
 refine FnOK.of_body Try.func32 (by kernel_rfl) rfl (C := (mkCtx tyL [(55, newReader_sp), (56, pickS), (74, anyTable_sp)])) hC.ty (by kernel_rfl) ?_
 intro (code : List Int) hwf hpre E
 have hpre : True := hpre
 have hw_code : Wf ⟨(.slice (.int .u8)), (code : List Int)⟩ := hwf _ (List.Mem.head _)
 have hl_code : ((List.length code : Nat) : Int) ≤ 9223372036854775807 := hw_code.len
 have h0 := newReader_p code
 have hw := pick_ok (n := 2) (newReader code).b (newReader code).p (by decide)
 have e0 : DrawDistinctRows code = DrawDistinctRows code := rfl
 refine AW.seq (AW.r1 hC [0, 2] [8] ⟨[(0, .data (.slice (.int .u8)) (code : List Int)), (2, .ref 8 1 0)], [(8, .box 1 [.int .i64 0, .nilsl])]⟩ ?_)
 refine AW.seq (AW.r0 hC [2, 3] [8, 20] ⟨[(2, .ref 8 1 0), (3, .ref 20 1 0)], [(8, .box 1 [.int .i64 0, .nilsl]), (20, .box 1 [.data (.slice (.int .u8)) ((Rdr.b (newReader code)) : List Int), .int .i64 (Rdr.p (newReader code))])]⟩ [(True)] ?_ ?_)
 ·
  refine ⟨?_, trivial⟩
  ·
   trivial
 refine AW.seq (AW.r0 hC [2] [8] ⟨[(2, .ref 8 1 0)], [(8, .box 1 [.int .i64 (Tab.Width ((anyTable (Rdr.mk (Rdr.b (newReader code)) ((Rdr.p (newReader code)) + 1)) (1 + (pick (Rdr.b (newReader code)) (Rdr.p (newReader code)) 2)) 9).1)), .data (.slice (.slice (.named 1))) ((Tab.Rows ((anyTable (Rdr.mk (Rdr.b (newReader code)) ((Rdr.p (newReader code)) + 1)) (1 + (pick (Rdr.b (newReader code)) (Rdr.p (newReader code)) 2)) 9).1)) : List (List Val))])]⟩ [(0 ≤ (newReader code).p ∧ (newReader code).p ≤ 1099511627776), (-9223372036854775808 ≤ (1 + (pick (Rdr.b (newReader code)) (Rdr.p (newReader code)) 2)) ∧ (1 + (pick (Rdr.b (newReader code)) (Rdr.p (newReader code)) 2)) ≤ 9223372036854775807), ((0 ≤ (Rdr.mk (Rdr.b (newReader code)) ((Rdr.p (newReader code)) + 1)).p ∧ (Rdr.mk (Rdr.b (newReader code)) ((Rdr.p (newReader code)) + 1)).p ≤ 1000000000000) ∧ (1 ≤ (1 + (pick (Rdr.b (newReader code)) (Rdr.p (newReader code)) 2)) ∧ (1 + (pick (Rdr.b (newReader code)) (Rdr.p (newReader code)) 2)) ≤ 6) ∧ (0 ≤ (9 : Int) ∧ (9 : Int) ≤ 99))] ?_ ?_)
 ·
  refine ⟨?_, ?_, ?_, trivial⟩
  ·
   omega
  ·
   omega
  ·
   dsimp only; omega
 exact AW.ret (AW.retE (β := Tab) (fun v => [⟨(.named 2), v⟩]) (fun v => []) (v := ((anyTable (Rdr.mk (Rdr.b (newReader code)) ((Rdr.p (newReader code)) + 1)) (1 + (pick (Rdr.b (newReader code)) (Rdr.p (newReader code)) 2)) 9).1)) e0 (by kernel_rfl) rfl rfl)

def DrawCountRow (code : List Int) : Tab × (List Val) := (bif (decide (0 < ((List.length (Tab.Rows ((anyTable (Rdr.mk (Rdr.b (newReader code)) ((Rdr.p (newReader code)) + 1)) (1 + (pick (Rdr.b (newReader code)) (Rdr.p (newReader code)) 2)) 8).1)) : Nat) : Int))) then (bif (bif (decide (0 < ((List.length (Tab.Rows ((anyTable (Rdr.mk (Rdr.b (newReader code)) ((Rdr.p (newReader code)) + 1)) (1 + (pick (Rdr.b (newReader code)) (Rdr.p (newReader code)) 2)) 8).1)) : Nat) : Int))) then ((pick (Rdr.b ((anyTable (Rdr.mk (Rdr.b (newReader code)) ((Rdr.p (newReader code)) + 1)) (1 + (pick (Rdr.b (newReader code)) (Rdr.p (newReader code)) 2)) 8).2)) (Rdr.p ((anyTable (Rdr.mk (Rdr.b (newReader code)) ((Rdr.p (newReader code)) + 1)) (1 + (pick (Rdr.b (newReader code)) (Rdr.p (newReader code)) 2)) 8).2)) 2) == 0) else false) then (((anyTable (Rdr.mk (Rdr.b (newReader code)) ((Rdr.p (newReader code)) + 1)) (1 + (pick (Rdr.b (newReader code)) (Rdr.p (newReader code)) 2)) 8).1), (copyRow (List.getD (Tab.Rows ((anyTable (Rdr.mk (Rdr.b (newReader code)) ((Rdr.p (newReader code)) + 1)) (1 + (pick (Rdr.b (newReader code)) (Rdr.p (newReader code)) 2)) 8).1)) (Int.toNat (pick (Rdr.b ((anyTable (Rdr.mk (Rdr.b (newReader code)) ((Rdr.p (newReader code)) + 1)) (1 + (pick (Rdr.b (newReader code)) (Rdr.p (newReader code)) 2)) 8).2)) ((Rdr.p ((anyTable (Rdr.mk (Rdr.b (newReader code)) ((Rdr.p (newReader code)) + 1)) (1 + (pick (Rdr.b (newReader code)) (Rdr.p (newReader code)) 2)) 8).2)) + 1) ((List.length (Tab.Rows ((anyTable (Rdr.mk (Rdr.b (newReader code)) ((Rdr.p (newReader code)) + 1)) (1 + (pick (Rdr.b (newReader code)) (Rdr.p (newReader code)) 2)) 8).1)) : Nat) : Int))) []))) else (((anyTable (Rdr.mk (Rdr.b (newReader code)) ((Rdr.p (newReader code)) + 1)) (1 + (pick (Rdr.b (newReader code)) (Rdr.p (newReader code)) 2)) 8).1), ((anyRow (Rdr.mk (Rdr.b ((anyTable (Rdr.mk (Rdr.b (newReader code)) ((Rdr.p (newReader code)) + 1)) (1 + (pick (Rdr.b (newReader code)) (Rdr.p (newReader code)) 2)) 8).2)) ((Rdr.p ((anyTable (Rdr.mk (Rdr.b (newReader code)) ((Rdr.p (newReader code)) + 1)) (1 + (pick (Rdr.b (newReader code)) (Rdr.p (newReader code)) 2)) 8).2)) + 1)) (1 + (pick (Rdr.b (newReader code)) (Rdr.p (newReader code)) 2))).1))) else (((anyTable (Rdr.mk (Rdr.b (newReader code)) ((Rdr.p (newReader code)) + 1)) (1 + (pick (Rdr.b (newReader code)) (Rdr.p (newReader code)) 2)) 8).1), ((anyRow ((anyTable (Rdr.mk (Rdr.b (newReader code)) ((Rdr.p (newReader code)) + 1)) (1 + (pick (Rdr.b (newReader code)) (Rdr.p (newReader code)) 2)) 8).2) (1 + (pick (Rdr.b (newReader code)) (Rdr.p (newReader code)) 2))).1)))

def DrawCountRow_sp : FnSpec := mkSpec [.val (.slice (.int .u8))] [.val (.named 2), .val (.slice (.named 1))] (fun (code : List Int) => True) (fun (code : List Int) => [⟨(.named 2), ((DrawCountRow code).1)⟩, ⟨(.slice (.named 1)), ((DrawCountRow code).2)⟩])

theorem DrawCountRow_ok : FnOK Try.prog 27 DrawCountRow_sp := by
 have hC : CtxOK Try.prog (mkCtx tyL [(55, newReader_sp), (56, pickS), (58, anyRow_sp), (74, anyTable_sp), (75, copyRow_sp)]) := CtxOK.cons newReader_ok (CtxOK.cons pickS_ok (CtxOK.cons anyRow_ok (CtxOK.cons anyTable_ok (CtxOK.cons copyRow_ok (CtxOK.nil tyOK)))))
 have hM : Try.prog.follows .mixedOrders = true := Try.checked.mixed
 refine FnOK.of_body Try.func27 (by kernel_rfl) rfl (C := (mkCtx tyL [(55, newReader_sp), (56, pickS), (58, anyRow_sp), (74, anyTable_sp), (75, copyRow_sp)])) hC.ty (by kernel_rfl) ?_
 intro (code : List Int) hwf hpre E
 have hpre : True := hpre
 have hw_code : Wf ⟨(.slice (.int .u8)), (code : List Int)⟩ := hwf _ (List.Mem.head _)
 have hl_code : ((List.length code : Nat) : Int) ≤ 9223372036854775807 := hw_code.len
 have h0 := newReader_p code
 have hw := pick_ok (n := 2) (newReader code).b (newReader code).p (by decide)
 have hT := anyTable_p (Rdr.mk (newReader code).b ((newReader code).p + 1)) (width := 1 + pick (newReader code).b (newReader code).p 2) (most := 8) (by omega) (by decide)
 simp only at hT
 have e0 : DrawCountRow code = DrawCountRow code := rfl
 refine AW.seq (AW.r1 hC [0, 2] [8] ⟨[(0, .data (.slice (.int .u8)) (code : List Int)), (2, .ref 8 1 0)], [(8, .box 1 [.int .i64 0, .nilsl])]⟩ ?_)
 refine AW.seq (AW.r0 hC [2, 4] [8, 32] ⟨[(2, .ref 8 1 0), (4, .ref 32 1 0)], [(8, .box 1 [.int .i64 0, .nilsl]), (32, .box 1 [.data (.slice (.int .u8)) ((Rdr.b (newReader code)) : List Int), .int .i64 (Rdr.p (newReader code))])]⟩ [(True)] ?_ ?_)
 ·
  refine ⟨?_, trivial⟩
  ·
   trivial
 refine AW.seq (AW.r0 hC [2, 4, 5] [8, 32] ⟨[(2, .ref 8 1 0), (4, .ref 32 1 0), (5, .int .i64 (1 + (pick (Rdr.b (newReader code)) (Rdr.p (newReader code)) 2)))], [(8, .box 1 [.int .i64 0, .nilsl]), (32, .box 1 [.data (.slice (.int .u8)) ((Rdr.b (newReader code)) : List Int), .int .i64 ((Rdr.p (newReader code)) + 1)])]⟩ [(0 ≤ (newReader code).p ∧ (newReader code).p ≤ 1099511627776), (-9223372036854775808 ≤ (1 + (pick (Rdr.b (newReader code)) (Rdr.p (newReader code)) 2)) ∧ (1 + (pick (Rdr.b (newReader code)) (Rdr.p (newReader code)) 2)) ≤ 9223372036854775807)] ?_ ?_)
 ·
  refine ⟨?_, ?_, trivial⟩
  ·
   omega
  ·
   omega
 refine AW.seq (AW.r0 hC [2, 4, 5, 6] [8, 24, 32] ⟨[(2, .ref 8 1 0), (4, .ref 32 1 0), (5, .int .i64 (1 + (pick (Rdr.b (newReader code)) (Rdr.p (newReader code)) 2))), (6, .ref 24 1 0)], [(8, .box 1 [.int .i64 0, .nilsl]), (24, .box 1 [.int .i64 (Tab.Width ((anyTable (Rdr.mk (Rdr.b (newReader code)) ((Rdr.p (newReader code)) + 1)) (1 + (pick (Rdr.b (newReader code)) (Rdr.p (newReader code)) 2)) 8).1)), .data (.slice (.slice (.named 1))) ((Tab.Rows ((anyTable (Rdr.mk (Rdr.b (newReader code)) ((Rdr.p (newReader code)) + 1)) (1 + (pick (Rdr.b (newReader code)) (Rdr.p (newReader code)) 2)) 8).1)) : List (List Val))]), (32, .box 1 [.data (.slice (.int .u8)) ((Rdr.b ((anyTable (Rdr.mk (Rdr.b (newReader code)) ((Rdr.p (newReader code)) + 1)) (1 + (pick (Rdr.b (newReader code)) (Rdr.p (newReader code)) 2)) 8).2)) : List Int), .int .i64 (Rdr.p ((anyTable (Rdr.mk (Rdr.b (newReader code)) ((Rdr.p (newReader code)) + 1)) (1 + (pick (Rdr.b (newReader code)) (Rdr.p (newReader code)) 2)) 8).2))])]⟩ [((0 ≤ (Rdr.mk (Rdr.b (newReader code)) ((Rdr.p (newReader code)) + 1)).p ∧ (Rdr.mk (Rdr.b (newReader code)) ((Rdr.p (newReader code)) + 1)).p ≤ 1000000000000) ∧ (1 ≤ (1 + (pick (Rdr.b (newReader code)) (Rdr.p (newReader code)) 2)) ∧ (1 + (pick (Rdr.b (newReader code)) (Rdr.p (newReader code)) 2)) ≤ 6) ∧ (0 ≤ (8 : Int) ∧ (8 : Int) ≤ 99))] ?_ ?_)
 ·
  refine ⟨?_, trivial⟩
  ·
   dsimp only; omega
 refine AW.seq (AW.seq ?_)
 refine Go.Am.bsplit (b := (decide (0 < ((List.length (Tab.Rows ((anyTable (Rdr.mk (Rdr.b (newReader code)) ((Rdr.p (newReader code)) + 1)) (1 + (pick (Rdr.b (newReader code)) (Rdr.p (newReader code)) 2)) 8).1)) : Nat) : Int)))) ?_ ?_
 ·
  intro h1
  have h1q : 0 < ((List.length (Tab.Rows ((anyTable (Rdr.mk (Rdr.b (newReader code)) ((Rdr.p (newReader code)) + 1)) (1 + (pick (Rdr.b (newReader code)) (Rdr.p (newReader code)) 2)) 8).1)) : Nat) : Int) := (of_decide_eq_true h1)
  have e2 := e0.trans (Go.Am.bif_t h1)
  refine AW.reg hC  false [(19, true)] [2, 4, 5, 6, 23] [8, 24, 32]
   ⟨[(2, .ref 8 1 0), (4, .ref 32 1 0), (5, .int .i64 (1 + (pick (Rdr.b (newReader code)) (Rdr.p (newReader code)) 2))), (6, .ref 24 1 0), (23, .bool (bif (decide (0 < ((List.length (Tab.Rows ((anyTable (Rdr.mk (Rdr.b (newReader code)) ((Rdr.p (newReader code)) + 1)) (1 + (pick (Rdr.b (newReader code)) (Rdr.p (newReader code)) 2)) 8).1)) : Nat) : Int))) then ((pick (Rdr.b ((anyTable (Rdr.mk (Rdr.b (newReader code)) ((Rdr.p (newReader code)) + 1)) (1 + (pick (Rdr.b (newReader code)) (Rdr.p (newReader code)) 2)) 8).2)) (Rdr.p ((anyTable (Rdr.mk (Rdr.b (newReader code)) ((Rdr.p (newReader code)) + 1)) (1 + (pick (Rdr.b (newReader code)) (Rdr.p (newReader code)) 2)) 8).2)) 2) == 0) else false))], [(8, .box 1 [.int .i64 0, .nilsl]), (24, .box 1 [.int .i64 (Tab.Width ((anyTable (Rdr.mk (Rdr.b (newReader code)) ((Rdr.p (newReader code)) + 1)) (1 + (pick (Rdr.b (newReader code)) (Rdr.p (newReader code)) 2)) 8).1)), .data (.slice (.slice (.named 1))) ((Tab.Rows ((anyTable (Rdr.mk (Rdr.b (newReader code)) ((Rdr.p (newReader code)) + 1)) (1 + (pick (Rdr.b (newReader code)) (Rdr.p (newReader code)) 2)) 8).1)) : List (List Val))]), (32, .box 1 [.data (.slice (.int .u8)) ((Rdr.b ((anyTable (Rdr.mk (Rdr.b (newReader code)) ((Rdr.p (newReader code)) + 1)) (1 + (pick (Rdr.b (newReader code)) (Rdr.p (newReader code)) 2)) 8).2)) : List Int), .int .i64 ((Rdr.p ((anyTable (Rdr.mk (Rdr.b (newReader code)) ((Rdr.p (newReader code)) + 1)) (1 + (pick (Rdr.b (newReader code)) (Rdr.p (newReader code)) 2)) 8).2)) + 1)])]⟩
   [((decide (0 < ((List.length (Tab.Rows ((anyTable (Rdr.mk (Rdr.b (newReader code)) ((Rdr.p (newReader code)) + 1)) (1 + (pick (Rdr.b (newReader code)) (Rdr.p (newReader code)) 2)) 8).1)) : Nat) : Int))) = true), ((decide (0 < ((List.length (Tab.Rows ((anyTable (Rdr.mk (Rdr.b (newReader code)) ((Rdr.p (newReader code)) + 1)) (1 + (pick (Rdr.b (newReader code)) (Rdr.p (newReader code)) 2)) 8).1)) : Nat) : Int))) = true), (0 ≤ ((anyTable (Rdr.mk (Rdr.b (newReader code)) ((Rdr.p (newReader code)) + 1)) (1 + (pick (Rdr.b (newReader code)) (Rdr.p (newReader code)) 2)) 8).2).p ∧ ((anyTable (Rdr.mk (Rdr.b (newReader code)) ((Rdr.p (newReader code)) + 1)) (1 + (pick (Rdr.b (newReader code)) (Rdr.p (newReader code)) 2)) 8).2).p ≤ 1099511627776), ((decide (0 < ((List.length (Tab.Rows ((anyTable (Rdr.mk (Rdr.b (newReader code)) ((Rdr.p (newReader code)) + 1)) (1 + (pick (Rdr.b (newReader code)) (Rdr.p (newReader code)) 2)) 8).1)) : Nat) : Int))) = true)] (by kernel_rfl) ?_ ?_
  ·
   refine ⟨?_, ?_, ?_, ?_, trivial⟩
   ·
    assumption
   ·
    assumption
   ·
    omega
   ·
    assumption
  refine AW.cd (bif (decide (0 < ((List.length (Tab.Rows ((anyTable (Rdr.mk (Rdr.b (newReader code)) ((Rdr.p (newReader code)) + 1)) (1 + (pick (Rdr.b (newReader code)) (Rdr.p (newReader code)) 2)) 8).1)) : Nat) : Int))) then ((pick (Rdr.b ((anyTable (Rdr.mk (Rdr.b (newReader code)) ((Rdr.p (newReader code)) + 1)) (1 + (pick (Rdr.b (newReader code)) (Rdr.p (newReader code)) 2)) 8).2)) (Rdr.p ((anyTable (Rdr.mk (Rdr.b (newReader code)) ((Rdr.p (newReader code)) + 1)) (1 + (pick (Rdr.b (newReader code)) (Rdr.p (newReader code)) 2)) 8).2)) 2) == 0) else false) ?_ ?_
  ·
   intro h3
   have h3q : (0 < ((List.length (Tab.Rows ((anyTable (Rdr.mk (Rdr.b (newReader code)) ((Rdr.p (newReader code)) + 1)) (1 + (pick (Rdr.b (newReader code)) (Rdr.p (newReader code)) 2)) 8).1)) : Nat) : Int)) ∧ ((pick (Rdr.b ((anyTable (Rdr.mk (Rdr.b (newReader code)) ((Rdr.p (newReader code)) + 1)) (1 + (pick (Rdr.b (newReader code)) (Rdr.p (newReader code)) 2)) 8).2)) (Rdr.p ((anyTable (Rdr.mk (Rdr.b (newReader code)) ((Rdr.p (newReader code)) + 1)) (1 + (pick (Rdr.b (newReader code)) (Rdr.p (newReader code)) 2)) 8).2)) 2) = 0) := (And.imp (fun h => (of_decide_eq_true h)) (fun h => (Go.Am.beq_pos h)) (Go.Am.and_pos h3))
   have e4 := e2.trans (Go.Am.bif_t h3)
   refine AW.seq (AW.d0 hC hM [2, 3] [8] ⟨[(2, .ref 8 1 0), (3, .data (.slice (.named 1)) ((copyRow (List.getD (Tab.Rows ((anyTable (Rdr.mk (Rdr.b (newReader code)) ((Rdr.p (newReader code)) + 1)) (1 + (pick (Rdr.b (newReader code)) (Rdr.p (newReader code)) 2)) 8).1)) (Int.toNat (pick (Rdr.b ((anyTable (Rdr.mk (Rdr.b (newReader code)) ((Rdr.p (newReader code)) + 1)) (1 + (pick (Rdr.b (newReader code)) (Rdr.p (newReader code)) 2)) 8).2)) ((Rdr.p ((anyTable (Rdr.mk (Rdr.b (newReader code)) ((Rdr.p (newReader code)) + 1)) (1 + (pick (Rdr.b (newReader code)) (Rdr.p (newReader code)) 2)) 8).2)) + 1) ((List.length (Tab.Rows ((anyTable (Rdr.mk (Rdr.b (newReader code)) ((Rdr.p (newReader code)) + 1)) (1 + (pick (Rdr.b (newReader code)) (Rdr.p (newReader code)) 2)) 8).1)) : Nat) : Int))) [])) : List Val))], [(8, .box 1 [.int .i64 (Tab.Width ((anyTable (Rdr.mk (Rdr.b (newReader code)) ((Rdr.p (newReader code)) + 1)) (1 + (pick (Rdr.b (newReader code)) (Rdr.p (newReader code)) 2)) 8).1)), .data (.slice (.slice (.named 1))) ((Tab.Rows ((anyTable (Rdr.mk (Rdr.b (newReader code)) ((Rdr.p (newReader code)) + 1)) (1 + (pick (Rdr.b (newReader code)) (Rdr.p (newReader code)) 2)) 8).1)) : List (List Val))])]⟩ [(0 ≤ (Rdr.mk (Rdr.b ((anyTable (Rdr.mk (Rdr.b (newReader code)) ((Rdr.p (newReader code)) + 1)) (1 + (pick (Rdr.b (newReader code)) (Rdr.p (newReader code)) 2)) 8).2)) ((Rdr.p ((anyTable (Rdr.mk (Rdr.b (newReader code)) ((Rdr.p (newReader code)) + 1)) (1 + (pick (Rdr.b (newReader code)) (Rdr.p (newReader code)) 2)) 8).2)) + 1)).p ∧ (Rdr.mk (Rdr.b ((anyTable (Rdr.mk (Rdr.b (newReader code)) ((Rdr.p (newReader code)) + 1)) (1 + (pick (Rdr.b (newReader code)) (Rdr.p (newReader code)) 2)) 8).2)) ((Rdr.p ((anyTable (Rdr.mk (Rdr.b (newReader code)) ((Rdr.p (newReader code)) + 1)) (1 + (pick (Rdr.b (newReader code)) (Rdr.p (newReader code)) 2)) 8).2)) + 1)).p ≤ 1099511627776), (0 ≤ (pick (Rdr.b ((anyTable (Rdr.mk (Rdr.b (newReader code)) ((Rdr.p (newReader code)) + 1)) (1 + (pick (Rdr.b (newReader code)) (Rdr.p (newReader code)) 2)) 8).2)) ((Rdr.p ((anyTable (Rdr.mk (Rdr.b (newReader code)) ((Rdr.p (newReader code)) + 1)) (1 + (pick (Rdr.b (newReader code)) (Rdr.p (newReader code)) 2)) 8).2)) + 1) ((List.length (Tab.Rows ((anyTable (Rdr.mk (Rdr.b (newReader code)) ((Rdr.p (newReader code)) + 1)) (1 + (pick (Rdr.b (newReader code)) (Rdr.p (newReader code)) 2)) 8).1)) : Nat) : Int)) ∧ (pick (Rdr.b ((anyTable (Rdr.mk (Rdr.b (newReader code)) ((Rdr.p (newReader code)) + 1)) (1 + (pick (Rdr.b (newReader code)) (Rdr.p (newReader code)) 2)) 8).2)) ((Rdr.p ((anyTable (Rdr.mk (Rdr.b (newReader code)) ((Rdr.p (newReader code)) + 1)) (1 + (pick (Rdr.b (newReader code)) (Rdr.p (newReader code)) 2)) 8).2)) + 1) ((List.length (Tab.Rows ((anyTable (Rdr.mk (Rdr.b (newReader code)) ((Rdr.p (newReader code)) + 1)) (1 + (pick (Rdr.b (newReader code)) (Rdr.p (newReader code)) 2)) 8).1)) : Nat) : Int)) < ((List.length (Tab.Rows ((anyTable (Rdr.mk (Rdr.b (newReader code)) ((Rdr.p (newReader code)) + 1)) (1 + (pick (Rdr.b (newReader code)) (Rdr.p (newReader code)) 2)) 8).1)) : Nat) : Int)), ((List.length (List.getD (Tab.Rows ((anyTable (Rdr.mk (Rdr.b (newReader code)) ((Rdr.p (newReader code)) + 1)) (1 + (pick (Rdr.b (newReader code)) (Rdr.p (newReader code)) 2)) 8).1)) (Int.toNat (pick (Rdr.b ((anyTable (Rdr.mk (Rdr.b (newReader code)) ((Rdr.p (newReader code)) + 1)) (1 + (pick (Rdr.b (newReader code)) (Rdr.p (newReader code)) 2)) 8).2)) ((Rdr.p ((anyTable (Rdr.mk (Rdr.b (newReader code)) ((Rdr.p (newReader code)) + 1)) (1 + (pick (Rdr.b (newReader code)) (Rdr.p (newReader code)) 2)) 8).2)) + 1) ((List.length (Tab.Rows ((anyTable (Rdr.mk (Rdr.b (newReader code)) ((Rdr.p (newReader code)) + 1)) (1 + (pick (Rdr.b (newReader code)) (Rdr.p (newReader code)) 2)) 8).1)) : Nat) : Int))) []) : Int) ≤ 1048576)] ?_ ?_)
   ·
    refine ⟨?_, ?_, ?_, trivial⟩
    ·
     dsimp only; omega
    ·
     exact pick_ok _ _ (by omega)
    ·
     have hpk := pick_ok (n := ((List.length (anyTable (Rdr.mk (newReader code).b ((newReader code).p + 1)) (1 + pick (newReader code).b (newReader code).p 2) 8).1.Rows : Nat) : Int)) (anyTable (Rdr.mk (newReader code).b ((newReader code).p + 1)) (1 + pick (newReader code).b (newReader code).p 2) 8).2.b ((anyTable (Rdr.mk (newReader code).b ((newReader code).p + 1)) (1 + pick (newReader code).b (newReader code).p 2) 8).2.p + 1) (by omega)
     refine hT.2.rb _ ?_
     omega
   exact AW.ret (AW.retE (β := Tab × (List Val)) (fun v => [⟨(.named 2), v.1⟩, ⟨(.slice (.named 1)), v.2⟩]) (fun v => []) (v := (((anyTable (Rdr.mk (Rdr.b (newReader code)) ((Rdr.p (newReader code)) + 1)) (1 + (pick (Rdr.b (newReader code)) (Rdr.p (newReader code)) 2)) 8).1), (copyRow (List.getD (Tab.Rows ((anyTable (Rdr.mk (Rdr.b (newReader code)) ((Rdr.p (newReader code)) + 1)) (1 + (pick (Rdr.b (newReader code)) (Rdr.p (newReader code)) 2)) 8).1)) (Int.toNat (pick (Rdr.b ((anyTable (Rdr.mk (Rdr.b (newReader code)) ((Rdr.p (newReader code)) + 1)) (1 + (pick (Rdr.b (newReader code)) (Rdr.p (newReader code)) 2)) 8).2)) ((Rdr.p ((anyTable (Rdr.mk (Rdr.b (newReader code)) ((Rdr.p (newReader code)) + 1)) (1 + (pick (Rdr.b (newReader code)) (Rdr.p (newReader code)) 2)) 8).2)) + 1) ((List.length (Tab.Rows ((anyTable (Rdr.mk (Rdr.b (newReader code)) ((Rdr.p (newReader code)) + 1)) (1 + (pick (Rdr.b (newReader code)) (Rdr.p (newReader code)) 2)) 8).1)) : Nat) : Int))) [])))) e4 (by kernel_rfl) rfl rfl)
  ·
   intro h5
   have h5q : (¬ (0 < ((List.length (Tab.Rows ((anyTable (Rdr.mk (Rdr.b (newReader code)) ((Rdr.p (newReader code)) + 1)) (1 + (pick (Rdr.b (newReader code)) (Rdr.p (newReader code)) 2)) 8).1)) : Nat) : Int))) ∨ ((pick (Rdr.b ((anyTable (Rdr.mk (Rdr.b (newReader code)) ((Rdr.p (newReader code)) + 1)) (1 + (pick (Rdr.b (newReader code)) (Rdr.p (newReader code)) 2)) 8).2)) (Rdr.p ((anyTable (Rdr.mk (Rdr.b (newReader code)) ((Rdr.p (newReader code)) + 1)) (1 + (pick (Rdr.b (newReader code)) (Rdr.p (newReader code)) 2)) 8).2)) 2) ≠ 0) := (Or.imp (fun h => (of_decide_eq_false h)) (fun h => (Go.Am.beq_neg h)) (Go.Am.and_neg h5))
   have e6 := e2.trans (Go.Am.bif_f h5)
   refine AW.kp [2, 4, 5, 6] [8, 24, 32] ⟨[(2, .ref 8 1 0), (4, .ref 32 1 0), (5, .int .i64 (1 + (pick (Rdr.b (newReader code)) (Rdr.p (newReader code)) 2))), (6, .ref 24 1 0)], [(8, .box 1 [.int .i64 0, .nilsl]), (24, .box 1 [.int .i64 (Tab.Width ((anyTable (Rdr.mk (Rdr.b (newReader code)) ((Rdr.p (newReader code)) + 1)) (1 + (pick (Rdr.b (newReader code)) (Rdr.p (newReader code)) 2)) 8).1)), .data (.slice (.slice (.named 1))) ((Tab.Rows ((anyTable (Rdr.mk (Rdr.b (newReader code)) ((Rdr.p (newReader code)) + 1)) (1 + (pick (Rdr.b (newReader code)) (Rdr.p (newReader code)) 2)) 8).1)) : List (List Val))]), (32, .box 1 [.data (.slice (.int .u8)) ((Rdr.b ((anyTable (Rdr.mk (Rdr.b (newReader code)) ((Rdr.p (newReader code)) + 1)) (1 + (pick (Rdr.b (newReader code)) (Rdr.p (newReader code)) 2)) 8).2)) : List Int), .int .i64 ((Rdr.p ((anyTable (Rdr.mk (Rdr.b (newReader code)) ((Rdr.p (newReader code)) + 1)) (1 + (pick (Rdr.b (newReader code)) (Rdr.p (newReader code)) 2)) 8).2)) + 1)])]⟩ ?_
   refine AW.skip (AW.seq (AW.d0 hC hM [2, 3] [8] ⟨[(2, .ref 8 1 0), (3, .data (.slice (.named 1)) (((anyRow (Rdr.mk (Rdr.b ((anyTable (Rdr.mk (Rdr.b (newReader code)) ((Rdr.p (newReader code)) + 1)) (1 + (pick (Rdr.b (newReader code)) (Rdr.p (newReader code)) 2)) 8).2)) ((Rdr.p ((anyTable (Rdr.mk (Rdr.b (newReader code)) ((Rdr.p (newReader code)) + 1)) (1 + (pick (Rdr.b (newReader code)) (Rdr.p (newReader code)) 2)) 8).2)) + 1)) (1 + (pick (Rdr.b (newReader code)) (Rdr.p (newReader code)) 2))).1) : List Val))], [(8, .box 1 [.int .i64 (Tab.Width ((anyTable (Rdr.mk (Rdr.b (newReader code)) ((Rdr.p (newReader code)) + 1)) (1 + (pick (Rdr.b (newReader code)) (Rdr.p (newReader code)) 2)) 8).1)), .data (.slice (.slice (.named 1))) ((Tab.Rows ((anyTable (Rdr.mk (Rdr.b (newReader code)) ((Rdr.p (newReader code)) + 1)) (1 + (pick (Rdr.b (newReader code)) (Rdr.p (newReader code)) 2)) 8).1)) : List (List Val))])]⟩ [((0 ≤ (Rdr.mk (Rdr.b ((anyTable (Rdr.mk (Rdr.b (newReader code)) ((Rdr.p (newReader code)) + 1)) (1 + (pick (Rdr.b (newReader code)) (Rdr.p (newReader code)) 2)) 8).2)) ((Rdr.p ((anyTable (Rdr.mk (Rdr.b (newReader code)) ((Rdr.p (newReader code)) + 1)) (1 + (pick (Rdr.b (newReader code)) (Rdr.p (newReader code)) 2)) 8).2)) + 1)).p ∧ (Rdr.mk (Rdr.b ((anyTable (Rdr.mk (Rdr.b (newReader code)) ((Rdr.p (newReader code)) + 1)) (1 + (pick (Rdr.b (newReader code)) (Rdr.p (newReader code)) 2)) 8).2)) ((Rdr.p ((anyTable (Rdr.mk (Rdr.b (newReader code)) ((Rdr.p (newReader code)) + 1)) (1 + (pick (Rdr.b (newReader code)) (Rdr.p (newReader code)) 2)) 8).2)) + 1)).p ≤ 1000000090000) ∧ 1 ≤ (1 + (pick (Rdr.b (newReader code)) (Rdr.p (newReader code)) 2)) ∧ (1 + (pick (Rdr.b (newReader code)) (Rdr.p (newReader code)) 2)) ≤ 6)] ?_ ?_))
   ·
    refine ⟨?_, trivial⟩
    ·
     dsimp only; omega
   exact AW.ret (AW.retE (β := Tab × (List Val)) (fun v => [⟨(.named 2), v.1⟩, ⟨(.slice (.named 1)), v.2⟩]) (fun v => []) (v := (((anyTable (Rdr.mk (Rdr.b (newReader code)) ((Rdr.p (newReader code)) + 1)) (1 + (pick (Rdr.b (newReader code)) (Rdr.p (newReader code)) 2)) 8).1), ((anyRow (Rdr.mk (Rdr.b ((anyTable (Rdr.mk (Rdr.b (newReader code)) ((Rdr.p (newReader code)) + 1)) (1 + (pick (Rdr.b (newReader code)) (Rdr.p (newReader code)) 2)) 8).2)) ((Rdr.p ((anyTable (Rdr.mk (Rdr.b (newReader code)) ((Rdr.p (newReader code)) + 1)) (1 + (pick (Rdr.b (newReader code)) (Rdr.p (newReader code)) 2)) 8).2)) + 1)) (1 + (pick (Rdr.b (newReader code)) (Rdr.p (newReader code)) 2))).1))) e6 (by kernel_rfl) rfl rfl)
 ·
  intro h7
  have h7q : ¬ (0 < ((List.length (Tab.Rows ((anyTable (Rdr.mk (Rdr.b (newReader code)) ((Rdr.p (newReader code)) + 1)) (1 + (pick (Rdr.b (newReader code)) (Rdr.p (newReader code)) 2)) 8).1)) : Nat) : Int)) := (of_decide_eq_false h7)
  have e8 := e0.trans (Go.Am.bif_f h7)
  refine AW.reg hC  false [(19, false)] [2, 4, 5, 6, 23] [8, 24, 32]
   ⟨[(2, .ref 8 1 0), (4, .ref 32 1 0), (5, .int .i64 (1 + (pick (Rdr.b (newReader code)) (Rdr.p (newReader code)) 2))), (6, .ref 24 1 0), (23, .bool false)], [(8, .box 1 [.int .i64 0, .nilsl]), (24, .box 1 [.int .i64 (Tab.Width ((anyTable (Rdr.mk (Rdr.b (newReader code)) ((Rdr.p (newReader code)) + 1)) (1 + (pick (Rdr.b (newReader code)) (Rdr.p (newReader code)) 2)) 8).1)), .data (.slice (.slice (.named 1))) ((Tab.Rows ((anyTable (Rdr.mk (Rdr.b (newReader code)) ((Rdr.p (newReader code)) + 1)) (1 + (pick (Rdr.b (newReader code)) (Rdr.p (newReader code)) 2)) 8).1)) : List (List Val))]), (32, .box 1 [.data (.slice (.int .u8)) ((Rdr.b ((anyTable (Rdr.mk (Rdr.b (newReader code)) ((Rdr.p (newReader code)) + 1)) (1 + (pick (Rdr.b (newReader code)) (Rdr.p (newReader code)) 2)) 8).2)) : List Int), .int .i64 (Rdr.p ((anyTable (Rdr.mk (Rdr.b (newReader code)) ((Rdr.p (newReader code)) + 1)) (1 + (pick (Rdr.b (newReader code)) (Rdr.p (newReader code)) 2)) 8).2))])]⟩
   [((decide (0 < ((List.length (Tab.Rows ((anyTable (Rdr.mk (Rdr.b (newReader code)) ((Rdr.p (newReader code)) + 1)) (1 + (pick (Rdr.b (newReader code)) (Rdr.p (newReader code)) 2)) 8).1)) : Nat) : Int))) = false), ((decide (0 < ((List.length (Tab.Rows ((anyTable (Rdr.mk (Rdr.b (newReader code)) ((Rdr.p (newReader code)) + 1)) (1 + (pick (Rdr.b (newReader code)) (Rdr.p (newReader code)) 2)) 8).1)) : Nat) : Int))) = false), ((decide (0 < ((List.length (Tab.Rows ((anyTable (Rdr.mk (Rdr.b (newReader code)) ((Rdr.p (newReader code)) + 1)) (1 + (pick (Rdr.b (newReader code)) (Rdr.p (newReader code)) 2)) 8).1)) : Nat) : Int))) = false), ((decide (0 < ((List.length (Tab.Rows ((anyTable (Rdr.mk (Rdr.b (newReader code)) ((Rdr.p (newReader code)) + 1)) (1 + (pick (Rdr.b (newReader code)) (Rdr.p (newReader code)) 2)) 8).1)) : Nat) : Int))) = false)] (by kernel_rfl) ?_ ?_
  ·
   refine ⟨?_, ?_, ?_, ?_, trivial⟩
   ·
    assumption
   ·
    assumption
   ·
    assumption
   ·
    assumption
  refine AW.cond (b := false) (by kernel_rfl) (fun h => by cases h) (fun _ => ?_)
  refine AW.kp [2, 4, 5, 6] [8, 24, 32] ⟨[(2, .ref 8 1 0), (4, .ref 32 1 0), (5, .int .i64 (1 + (pick (Rdr.b (newReader code)) (Rdr.p (newReader code)) 2))), (6, .ref 24 1 0)], [(8, .box 1 [.int .i64 0, .nilsl]), (24, .box 1 [.int .i64 (Tab.Width ((anyTable (Rdr.mk (Rdr.b (newReader code)) ((Rdr.p (newReader code)) + 1)) (1 + (pick (Rdr.b (newReader code)) (Rdr.p (newReader code)) 2)) 8).1)), .data (.slice (.slice (.named 1))) ((Tab.Rows ((anyTable (Rdr.mk (Rdr.b (newReader code)) ((Rdr.p (newReader code)) + 1)) (1 + (pick (Rdr.b (newReader code)) (Rdr.p (newReader code)) 2)) 8).1)) : List (List Val))]), (32, .box 1 [.data (.slice (.int .u8)) ((Rdr.b ((anyTable (Rdr.mk (Rdr.b (newReader code)) ((Rdr.p (newReader code)) + 1)) (1 + (pick (Rdr.b (newReader code)) (Rdr.p (newReader code)) 2)) 8).2)) : List Int), .int .i64 (Rdr.p ((anyTable (Rdr.mk (Rdr.b (newReader code)) ((Rdr.p (newReader code)) + 1)) (1 + (pick (Rdr.b (newReader code)) (Rdr.p (newReader code)) 2)) 8).2))])]⟩ ?_
  refine AW.skip (AW.seq (AW.d0 hC hM [2, 3] [8] ⟨[(2, .ref 8 1 0), (3, .data (.slice (.named 1)) (((anyRow ((anyTable (Rdr.mk (Rdr.b (newReader code)) ((Rdr.p (newReader code)) + 1)) (1 + (pick (Rdr.b (newReader code)) (Rdr.p (newReader code)) 2)) 8).2) (1 + (pick (Rdr.b (newReader code)) (Rdr.p (newReader code)) 2))).1) : List Val))], [(8, .box 1 [.int .i64 (Tab.Width ((anyTable (Rdr.mk (Rdr.b (newReader code)) ((Rdr.p (newReader code)) + 1)) (1 + (pick (Rdr.b (newReader code)) (Rdr.p (newReader code)) 2)) 8).1)), .data (.slice (.slice (.named 1))) ((Tab.Rows ((anyTable (Rdr.mk (Rdr.b (newReader code)) ((Rdr.p (newReader code)) + 1)) (1 + (pick (Rdr.b (newReader code)) (Rdr.p (newReader code)) 2)) 8).1)) : List (List Val))])]⟩ [((0 ≤ ((anyTable (Rdr.mk (Rdr.b (newReader code)) ((Rdr.p (newReader code)) + 1)) (1 + (pick (Rdr.b (newReader code)) (Rdr.p (newReader code)) 2)) 8).2).p ∧ ((anyTable (Rdr.mk (Rdr.b (newReader code)) ((Rdr.p (newReader code)) + 1)) (1 + (pick (Rdr.b (newReader code)) (Rdr.p (newReader code)) 2)) 8).2).p ≤ 1000000090000) ∧ 1 ≤ (1 + (pick (Rdr.b (newReader code)) (Rdr.p (newReader code)) 2)) ∧ (1 + (pick (Rdr.b (newReader code)) (Rdr.p (newReader code)) 2)) ≤ 6)] ?_ ?_))
  ·
   refine ⟨?_, trivial⟩
   ·
    omega
  exact AW.ret (AW.retE (β := Tab × (List Val)) (fun v => [⟨(.named 2), v.1⟩, ⟨(.slice (.named 1)), v.2⟩]) (fun v => []) (v := (((anyTable (Rdr.mk (Rdr.b (newReader code)) ((Rdr.p (newReader code)) + 1)) (1 + (pick (Rdr.b (newReader code)) (Rdr.p (newReader code)) 2)) 8).1), ((anyRow ((anyTable (Rdr.mk (Rdr.b (newReader code)) ((Rdr.p (newReader code)) + 1)) (1 + (pick (Rdr.b (newReader code)) (Rdr.p (newReader code)) 2)) 8).2) (1 + (pick (Rdr.b (newReader code)) (Rdr.p (newReader code)) 2))).1))) e8 (by kernel_rfl) rfl rfl)

def twoTables (r : Rdr) : Tab × Tab × Rdr := (bif ((pick (Rdr.b ((anyTable (Rdr.mk (Rdr.b r) ((Rdr.p r) + 1)) (1 + (pick (Rdr.b r) (Rdr.p r) 2)) 6).2)) (Rdr.p ((anyTable (Rdr.mk (Rdr.b r) ((Rdr.p r) + 1)) (1 + (pick (Rdr.b r) (Rdr.p r) 2)) 6).2)) 12) == 0) then (((anyTable (Rdr.mk (Rdr.b r) ((Rdr.p r) + 1)) (1 + (pick (Rdr.b r) (Rdr.p r) 2)) 6).1), ((anyTable (Rdr.mk (Rdr.b ((anyTable (Rdr.mk (Rdr.b r) ((Rdr.p r) + 1)) (1 + (pick (Rdr.b r) (Rdr.p r) 2)) 6).2)) ((Rdr.p ((anyTable (Rdr.mk (Rdr.b r) ((Rdr.p r) + 1)) (1 + (pick (Rdr.b r) (Rdr.p r) 2)) 6).2)) + 1)) 3 6).1), ((anyTable (Rdr.mk (Rdr.b ((anyTable (Rdr.mk (Rdr.b r) ((Rdr.p r) + 1)) (1 + (pick (Rdr.b r) (Rdr.p r) 2)) 6).2)) ((Rdr.p ((anyTable (Rdr.mk (Rdr.b r) ((Rdr.p r) + 1)) (1 + (pick (Rdr.b r) (Rdr.p r) 2)) 6).2)) + 1)) 3 6).2)) else (((anyTable (Rdr.mk (Rdr.b r) ((Rdr.p r) + 1)) (1 + (pick (Rdr.b r) (Rdr.p r) 2)) 6).1), ((anyTable (Rdr.mk (Rdr.b ((anyTable (Rdr.mk (Rdr.b r) ((Rdr.p r) + 1)) (1 + (pick (Rdr.b r) (Rdr.p r) 2)) 6).2)) ((Rdr.p ((anyTable (Rdr.mk (Rdr.b r) ((Rdr.p r) + 1)) (1 + (pick (Rdr.b r) (Rdr.p r) 2)) 6).2)) + 1)) (1 + (pick (Rdr.b r) (Rdr.p r) 2)) 6).1), ((anyTable (Rdr.mk (Rdr.b ((anyTable (Rdr.mk (Rdr.b r) ((Rdr.p r) + 1)) (1 + (pick (Rdr.b r) (Rdr.p r) 2)) 6).2)) ((Rdr.p ((anyTable (Rdr.mk (Rdr.b r) ((Rdr.p r) + 1)) (1 + (pick (Rdr.b r) (Rdr.p r) 2)) 6).2)) + 1)) (1 + (pick (Rdr.b r) (Rdr.p r) 2)) 6).2)))

def twoTables_sp : FnSpec := mkSpecB [.box 3] [.val (.named 2), .val (.named 2)] (fun (r : Rdr) => 0 ≤ r.p ∧ r.p ≤ 1000000) (fun (r : Rdr) => [⟨(.named 2), ((twoTables r).1)⟩, ⟨(.named 2), ((twoTables r).2.1)⟩]) (fun (r : Rdr) => [⟨(.named 3), ((twoTables r).2.2)⟩])

theorem twoTables_ok : FnOK Try.prog 81 twoTables_sp := by
 have hC : CtxOK Try.prog (mkCtx tyL [(56, pickS), (74, anyTable_sp)]) := CtxOK.cons pickS_ok (CtxOK.cons anyTable_ok (CtxOK.nil tyOK))
 have hM : Try.prog.follows .mixedOrders = true := Try.checked.mixed
 refine FnOK.of_body Try.func81 (by kernel_rfl) rfl (C := (mkCtx tyL [(56, pickS), (74, anyTable_sp)])) hC.ty (by kernel_rfl) ?_
 intro (r : Rdr) hwf hpre E
 have hpre : 0 ≤ r.p ∧ r.p ≤ 1000000 := hpre
 have hw_r : Wf ⟨(.named 3), (r : Rdr)⟩ := hwf _ (List.Mem.head _)
 have hl_r_b : ((List.length (Rdr.b r) : Nat) : Int) ≤ 9223372036854775807 := (hw_r.field (tv := ⟨(.slice (.int .u8)), Rdr.b r⟩) (List.Mem.head _)).len
 have hr_r_p : -9223372036854775808 ≤ Rdr.p r ∧ Rdr.p r ≤ 9223372036854775807 := (hw_r.field (tv := ⟨(.int .i64), Rdr.p r⟩) (List.Mem.tail _ (List.Mem.head _))).int_inv
 have hw := pick_ok (n := 2) r.b r.p (by decide)
 have hT := anyTable_p (Rdr.mk r.b (r.p + 1)) (width := 1 + pick r.b r.p 2) (most := 6) (by omega) (by decide)
 simp only at hT
 have e0 : twoTables r = twoTables r := rfl
 refine AW.seq (AW.r1 hC [0, 2, 3] [0, 8, 12] ⟨[(0, .ref 0 0 0), (2, .ref 8 1 0), (3, .ref 12 1 0)], [(0, .box 0 [.data (.slice (.int .u8)) ((Rdr.b r) : List Int), .int .i64 (Rdr.p r)]), (8, .box 1 [.int .i64 0, .nilsl]), (12, .box 1 [.int .i64 0, .nilsl])]⟩ ?_)
 refine AW.seq (AW.r0 hC [0, 2, 3, 4] [0, 8, 12] ⟨[(0, .ref 0 0 0), (2, .ref 8 1 0), (3, .ref 12 1 0), (4, .int .i64 (1 + (pick (Rdr.b r) (Rdr.p r) 2)))], [(0, .box 0 [.data (.slice (.int .u8)) ((Rdr.b r) : List Int), .int .i64 ((Rdr.p r) + 1)]), (8, .box 1 [.int .i64 0, .nilsl]), (12, .box 1 [.int .i64 0, .nilsl])]⟩ [(0 ≤ r.p ∧ r.p ≤ 1099511627776), (-9223372036854775808 ≤ (1 + (pick (Rdr.b r) (Rdr.p r) 2)) ∧ (1 + (pick (Rdr.b r) (Rdr.p r) 2)) ≤ 9223372036854775807)] ?_ ?_)
 ·
  refine ⟨?_, ?_, trivial⟩
  ·
   omega
  ·
   omega
 refine AW.seq (AW.r0 hC [0, 2, 3, 4, 5] [0, 8, 12, 20] ⟨[(0, .ref 0 0 0), (2, .ref 8 1 0), (3, .ref 12 1 0), (4, .int .i64 (1 + (pick (Rdr.b r) (Rdr.p r) 2))), (5, .ref 20 1 0)], [(0, .box 0 [.data (.slice (.int .u8)) ((Rdr.b ((anyTable (Rdr.mk (Rdr.b r) ((Rdr.p r) + 1)) (1 + (pick (Rdr.b r) (Rdr.p r) 2)) 6).2)) : List Int), .int .i64 (Rdr.p ((anyTable (Rdr.mk (Rdr.b r) ((Rdr.p r) + 1)) (1 + (pick (Rdr.b r) (Rdr.p r) 2)) 6).2))]), (8, .box 1 [.int .i64 0, .nilsl]), (12, .box 1 [.int .i64 0, .nilsl]), (20, .box 1 [.int .i64 (Tab.Width ((anyTable (Rdr.mk (Rdr.b r) ((Rdr.p r) + 1)) (1 + (pick (Rdr.b r) (Rdr.p r) 2)) 6).1)), .data (.slice (.slice (.named 1))) ((Tab.Rows ((anyTable (Rdr.mk (Rdr.b r) ((Rdr.p r) + 1)) (1 + (pick (Rdr.b r) (Rdr.p r) 2)) 6).1)) : List (List Val))])]⟩ [((0 ≤ (Rdr.mk (Rdr.b r) ((Rdr.p r) + 1)).p ∧ (Rdr.mk (Rdr.b r) ((Rdr.p r) + 1)).p ≤ 1000000000000) ∧ (1 ≤ (1 + (pick (Rdr.b r) (Rdr.p r) 2)) ∧ (1 + (pick (Rdr.b r) (Rdr.p r) 2)) ≤ 6) ∧ (0 ≤ (6 : Int) ∧ (6 : Int) ≤ 99))] ?_ ?_)
 ·
  refine ⟨?_, trivial⟩
  ·
   dsimp only; omega
 refine AW.seq (AW.seq (AW.r0 hC [0, 2, 3, 4, 5, 14] [0, 8, 12, 20] ⟨[(0, .ref 0 0 0), (2, .ref 8 1 0), (3, .ref 12 1 0), (4, .int .i64 (1 + (pick (Rdr.b r) (Rdr.p r) 2))), (5, .ref 20 1 0), (14, .bool ((pick (Rdr.b ((anyTable (Rdr.mk (Rdr.b r) ((Rdr.p r) + 1)) (1 + (pick (Rdr.b r) (Rdr.p r) 2)) 6).2)) (Rdr.p ((anyTable (Rdr.mk (Rdr.b r) ((Rdr.p r) + 1)) (1 + (pick (Rdr.b r) (Rdr.p r) 2)) 6).2)) 12) == 0))], [(0, .box 0 [.data (.slice (.int .u8)) ((Rdr.b ((anyTable (Rdr.mk (Rdr.b r) ((Rdr.p r) + 1)) (1 + (pick (Rdr.b r) (Rdr.p r) 2)) 6).2)) : List Int), .int .i64 ((Rdr.p ((anyTable (Rdr.mk (Rdr.b r) ((Rdr.p r) + 1)) (1 + (pick (Rdr.b r) (Rdr.p r) 2)) 6).2)) + 1)]), (8, .box 1 [.int .i64 0, .nilsl]), (12, .box 1 [.int .i64 0, .nilsl]), (20, .box 1 [.int .i64 (Tab.Width ((anyTable (Rdr.mk (Rdr.b r) ((Rdr.p r) + 1)) (1 + (pick (Rdr.b r) (Rdr.p r) 2)) 6).1)), .data (.slice (.slice (.named 1))) ((Tab.Rows ((anyTable (Rdr.mk (Rdr.b r) ((Rdr.p r) + 1)) (1 + (pick (Rdr.b r) (Rdr.p r) 2)) 6).1)) : List (List Val))])]⟩ [(0 ≤ ((anyTable (Rdr.mk (Rdr.b r) ((Rdr.p r) + 1)) (1 + (pick (Rdr.b r) (Rdr.p r) 2)) 6).2).p ∧ ((anyTable (Rdr.mk (Rdr.b r) ((Rdr.p r) + 1)) (1 + (pick (Rdr.b r) (Rdr.p r) 2)) 6).2).p ≤ 1099511627776)] ?_ ?_))
 ·
  refine ⟨?_, trivial⟩
  ·
   omega
 refine AW.cd ((pick (Rdr.b ((anyTable (Rdr.mk (Rdr.b r) ((Rdr.p r) + 1)) (1 + (pick (Rdr.b r) (Rdr.p r) 2)) 6).2)) (Rdr.p ((anyTable (Rdr.mk (Rdr.b r) ((Rdr.p r) + 1)) (1 + (pick (Rdr.b r) (Rdr.p r) 2)) 6).2)) 12) == 0) ?_ ?_
 ·
  intro h1
  have h1q : (pick (Rdr.b ((anyTable (Rdr.mk (Rdr.b r) ((Rdr.p r) + 1)) (1 + (pick (Rdr.b r) (Rdr.p r) 2)) 6).2)) (Rdr.p ((anyTable (Rdr.mk (Rdr.b r) ((Rdr.p r) + 1)) (1 + (pick (Rdr.b r) (Rdr.p r) 2)) 6).2)) 12) = 0 := (Go.Am.beq_pos h1)
  have e2 := e0.trans (Go.Am.bif_t h1)
  refine AW.r1 hC [0, 2, 3, 4, 5] [0, 8, 12, 20] ⟨[(0, .ref 0 0 0), (2, .ref 8 1 0), (3, .ref 12 1 0), (4, .int .i64 3), (5, .ref 20 1 0)], [(0, .box 0 [.data (.slice (.int .u8)) ((Rdr.b ((anyTable (Rdr.mk (Rdr.b r) ((Rdr.p r) + 1)) (1 + (pick (Rdr.b r) (Rdr.p r) 2)) 6).2)) : List Int), .int .i64 ((Rdr.p ((anyTable (Rdr.mk (Rdr.b r) ((Rdr.p r) + 1)) (1 + (pick (Rdr.b r) (Rdr.p r) 2)) 6).2)) + 1)]), (8, .box 1 [.int .i64 0, .nilsl]), (12, .box 1 [.int .i64 0, .nilsl]), (20, .box 1 [.int .i64 (Tab.Width ((anyTable (Rdr.mk (Rdr.b r) ((Rdr.p r) + 1)) (1 + (pick (Rdr.b r) (Rdr.p r) 2)) 6).1)), .data (.slice (.slice (.named 1))) ((Tab.Rows ((anyTable (Rdr.mk (Rdr.b r) ((Rdr.p r) + 1)) (1 + (pick (Rdr.b r) (Rdr.p r) 2)) 6).1)) : List (List Val))])]⟩ ?_
  refine AW.seq (AW.d0 hC hM [2, 3] [0, 8, 12] ⟨[(2, .ref 8 1 0), (3, .ref 12 1 0)], [(0, .box 0 [.data (.slice (.int .u8)) ((Rdr.b ((anyTable (Rdr.mk (Rdr.b ((anyTable (Rdr.mk (Rdr.b r) ((Rdr.p r) + 1)) (1 + (pick (Rdr.b r) (Rdr.p r) 2)) 6).2)) ((Rdr.p ((anyTable (Rdr.mk (Rdr.b r) ((Rdr.p r) + 1)) (1 + (pick (Rdr.b r) (Rdr.p r) 2)) 6).2)) + 1)) 3 6).2)) : List Int), .int .i64 (Rdr.p ((anyTable (Rdr.mk (Rdr.b ((anyTable (Rdr.mk (Rdr.b r) ((Rdr.p r) + 1)) (1 + (pick (Rdr.b r) (Rdr.p r) 2)) 6).2)) ((Rdr.p ((anyTable (Rdr.mk (Rdr.b r) ((Rdr.p r) + 1)) (1 + (pick (Rdr.b r) (Rdr.p r) 2)) 6).2)) + 1)) 3 6).2))]), (8, .box 1 [.int .i64 (Tab.Width ((anyTable (Rdr.mk (Rdr.b r) ((Rdr.p r) + 1)) (1 + (pick (Rdr.b r) (Rdr.p r) 2)) 6).1)), .data (.slice (.slice (.named 1))) ((Tab.Rows ((anyTable (Rdr.mk (Rdr.b r) ((Rdr.p r) + 1)) (1 + (pick (Rdr.b r) (Rdr.p r) 2)) 6).1)) : List (List Val))]), (12, .box 1 [.int .i64 (Tab.Width ((anyTable (Rdr.mk (Rdr.b ((anyTable (Rdr.mk (Rdr.b r) ((Rdr.p r) + 1)) (1 + (pick (Rdr.b r) (Rdr.p r) 2)) 6).2)) ((Rdr.p ((anyTable (Rdr.mk (Rdr.b r) ((Rdr.p r) + 1)) (1 + (pick (Rdr.b r) (Rdr.p r) 2)) 6).2)) + 1)) 3 6).1)), .data (.slice (.slice (.named 1))) ((Tab.Rows ((anyTable (Rdr.mk (Rdr.b ((anyTable (Rdr.mk (Rdr.b r) ((Rdr.p r) + 1)) (1 + (pick (Rdr.b r) (Rdr.p r) 2)) 6).2)) ((Rdr.p ((anyTable (Rdr.mk (Rdr.b r) ((Rdr.p r) + 1)) (1 + (pick (Rdr.b r) (Rdr.p r) 2)) 6).2)) + 1)) 3 6).1)) : List (List Val))])]⟩ [((0 ≤ (Rdr.mk (Rdr.b ((anyTable (Rdr.mk (Rdr.b r) ((Rdr.p r) + 1)) (1 + (pick (Rdr.b r) (Rdr.p r) 2)) 6).2)) ((Rdr.p ((anyTable (Rdr.mk (Rdr.b r) ((Rdr.p r) + 1)) (1 + (pick (Rdr.b r) (Rdr.p r) 2)) 6).2)) + 1)).p ∧ (Rdr.mk (Rdr.b ((anyTable (Rdr.mk (Rdr.b r) ((Rdr.p r) + 1)) (1 + (pick (Rdr.b r) (Rdr.p r) 2)) 6).2)) ((Rdr.p ((anyTable (Rdr.mk (Rdr.b r) ((Rdr.p r) + 1)) (1 + (pick (Rdr.b r) (Rdr.p r) 2)) 6).2)) + 1)).p ≤ 1000000000000) ∧ (1 ≤ (3 : Int) ∧ (3 : Int) ≤ 6) ∧ (0 ≤ (6 : Int) ∧ (6 : Int) ≤ 99))] ?_ ?_)
  ·
   refine ⟨?_, trivial⟩
   ·
    dsimp only; omega
  exact AW.ret (AW.retE (β := Tab × Tab × Rdr) (fun v => [⟨(.named 2), v.1⟩, ⟨(.named 2), v.2.1⟩]) (fun v => [⟨(.named 3), v.2.2⟩]) (v := (((anyTable (Rdr.mk (Rdr.b r) ((Rdr.p r) + 1)) (1 + (pick (Rdr.b r) (Rdr.p r) 2)) 6).1), ((anyTable (Rdr.mk (Rdr.b ((anyTable (Rdr.mk (Rdr.b r) ((Rdr.p r) + 1)) (1 + (pick (Rdr.b r) (Rdr.p r) 2)) 6).2)) ((Rdr.p ((anyTable (Rdr.mk (Rdr.b r) ((Rdr.p r) + 1)) (1 + (pick (Rdr.b r) (Rdr.p r) 2)) 6).2)) + 1)) 3 6).1), ((anyTable (Rdr.mk (Rdr.b ((anyTable (Rdr.mk (Rdr.b r) ((Rdr.p r) + 1)) (1 + (pick (Rdr.b r) (Rdr.p r) 2)) 6).2)) ((Rdr.p ((anyTable (Rdr.mk (Rdr.b r) ((Rdr.p r) + 1)) (1 + (pick (Rdr.b r) (Rdr.p r) 2)) 6).2)) + 1)) 3 6).2))) e2 (by kernel_rfl) rfl rfl)
 ·
  intro h3
  have h3q : (pick (Rdr.b ((anyTable (Rdr.mk (Rdr.b r) ((Rdr.p r) + 1)) (1 + (pick (Rdr.b r) (Rdr.p r) 2)) 6).2)) (Rdr.p ((anyTable (Rdr.mk (Rdr.b r) ((Rdr.p r) + 1)) (1 + (pick (Rdr.b r) (Rdr.p r) 2)) 6).2)) 12) ≠ 0 := (Go.Am.beq_neg h3)
  have e4 := e0.trans (Go.Am.bif_f h3)
  refine AW.kp [0, 2, 3, 4, 5] [0, 8, 12, 20] ⟨[(0, .ref 0 0 0), (2, .ref 8 1 0), (3, .ref 12 1 0), (4, .int .i64 (1 + (pick (Rdr.b r) (Rdr.p r) 2))), (5, .ref 20 1 0)], [(0, .box 0 [.data (.slice (.int .u8)) ((Rdr.b ((anyTable (Rdr.mk (Rdr.b r) ((Rdr.p r) + 1)) (1 + (pick (Rdr.b r) (Rdr.p r) 2)) 6).2)) : List Int), .int .i64 ((Rdr.p ((anyTable (Rdr.mk (Rdr.b r) ((Rdr.p r) + 1)) (1 + (pick (Rdr.b r) (Rdr.p r) 2)) 6).2)) + 1)]), (8, .box 1 [.int .i64 0, .nilsl]), (12, .box 1 [.int .i64 0, .nilsl]), (20, .box 1 [.int .i64 (Tab.Width ((anyTable (Rdr.mk (Rdr.b r) ((Rdr.p r) + 1)) (1 + (pick (Rdr.b r) (Rdr.p r) 2)) 6).1)), .data (.slice (.slice (.named 1))) ((Tab.Rows ((anyTable (Rdr.mk (Rdr.b r) ((Rdr.p r) + 1)) (1 + (pick (Rdr.b r) (Rdr.p r) 2)) 6).1)) : List (List Val))])]⟩ ?_
  refine AW.skip (AW.seq (AW.d0 hC hM [2, 3] [0, 8, 12] ⟨[(2, .ref 8 1 0), (3, .ref 12 1 0)], [(0, .box 0 [.data (.slice (.int .u8)) ((Rdr.b ((anyTable (Rdr.mk (Rdr.b ((anyTable (Rdr.mk (Rdr.b r) ((Rdr.p r) + 1)) (1 + (pick (Rdr.b r) (Rdr.p r) 2)) 6).2)) ((Rdr.p ((anyTable (Rdr.mk (Rdr.b r) ((Rdr.p r) + 1)) (1 + (pick (Rdr.b r) (Rdr.p r) 2)) 6).2)) + 1)) (1 + (pick (Rdr.b r) (Rdr.p r) 2)) 6).2)) : List Int), .int .i64 (Rdr.p ((anyTable (Rdr.mk (Rdr.b ((anyTable (Rdr.mk (Rdr.b r) ((Rdr.p r) + 1)) (1 + (pick (Rdr.b r) (Rdr.p r) 2)) 6).2)) ((Rdr.p ((anyTable (Rdr.mk (Rdr.b r) ((Rdr.p r) + 1)) (1 + (pick (Rdr.b r) (Rdr.p r) 2)) 6).2)) + 1)) (1 + (pick (Rdr.b r) (Rdr.p r) 2)) 6).2))]), (8, .box 1 [.int .i64 (Tab.Width ((anyTable (Rdr.mk (Rdr.b r) ((Rdr.p r) + 1)) (1 + (pick (Rdr.b r) (Rdr.p r) 2)) 6).1)), .data (.slice (.slice (.named 1))) ((Tab.Rows ((anyTable (Rdr.mk (Rdr.b r) ((Rdr.p r) + 1)) (1 + (pick (Rdr.b r) (Rdr.p r) 2)) 6).1)) : List (List Val))]), (12, .box 1 [.int .i64 (Tab.Width ((anyTable (Rdr.mk (Rdr.b ((anyTable (Rdr.mk (Rdr.b r) ((Rdr.p r) + 1)) (1 + (pick (Rdr.b r) (Rdr.p r) 2)) 6).2)) ((Rdr.p ((anyTable (Rdr.mk (Rdr.b r) ((Rdr.p r) + 1)) (1 + (pick (Rdr.b r) (Rdr.p r) 2)) 6).2)) + 1)) (1 + (pick (Rdr.b r) (Rdr.p r) 2)) 6).1)), .data (.slice (.slice (.named 1))) ((Tab.Rows ((anyTable (Rdr.mk (Rdr.b ((anyTable (Rdr.mk (Rdr.b r) ((Rdr.p r) + 1)) (1 + (pick (Rdr.b r) (Rdr.p r) 2)) 6).2)) ((Rdr.p ((anyTable (Rdr.mk (Rdr.b r) ((Rdr.p r) + 1)) (1 + (pick (Rdr.b r) (Rdr.p r) 2)) 6).2)) + 1)) (1 + (pick (Rdr.b r) (Rdr.p r) 2)) 6).1)) : List (List Val))])]⟩ [((0 ≤ (Rdr.mk (Rdr.b ((anyTable (Rdr.mk (Rdr.b r) ((Rdr.p r) + 1)) (1 + (pick (Rdr.b r) (Rdr.p r) 2)) 6).2)) ((Rdr.p ((anyTable (Rdr.mk (Rdr.b r) ((Rdr.p r) + 1)) (1 + (pick (Rdr.b r) (Rdr.p r) 2)) 6).2)) + 1)).p ∧ (Rdr.mk (Rdr.b ((anyTable (Rdr.mk (Rdr.b r) ((Rdr.p r) + 1)) (1 + (pick (Rdr.b r) (Rdr.p r) 2)) 6).2)) ((Rdr.p ((anyTable (Rdr.mk (Rdr.b r) ((Rdr.p r) + 1)) (1 + (pick (Rdr.b r) (Rdr.p r) 2)) 6).2)) + 1)).p ≤ 1000000000000) ∧ (1 ≤ (1 + (pick (Rdr.b r) (Rdr.p r) 2)) ∧ (1 + (pick (Rdr.b r) (Rdr.p r) 2)) ≤ 6) ∧ (0 ≤ (6 : Int) ∧ (6 : Int) ≤ 99))] ?_ ?_))
  ·
   refine ⟨?_, trivial⟩
   ·
    dsimp only; omega
  exact AW.ret (AW.retE (β := Tab × Tab × Rdr) (fun v => [⟨(.named 2), v.1⟩, ⟨(.named 2), v.2.1⟩]) (fun v => [⟨(.named 3), v.2.2⟩]) (v := (((anyTable (Rdr.mk (Rdr.b r) ((Rdr.p r) + 1)) (1 + (pick (Rdr.b r) (Rdr.p r) 2)) 6).1), ((anyTable (Rdr.mk (Rdr.b ((anyTable (Rdr.mk (Rdr.b r) ((Rdr.p r) + 1)) (1 + (pick (Rdr.b r) (Rdr.p r) 2)) 6).2)) ((Rdr.p ((anyTable (Rdr.mk (Rdr.b r) ((Rdr.p r) + 1)) (1 + (pick (Rdr.b r) (Rdr.p r) 2)) 6).2)) + 1)) (1 + (pick (Rdr.b r) (Rdr.p r) 2)) 6).1), ((anyTable (Rdr.mk (Rdr.b ((anyTable (Rdr.mk (Rdr.b r) ((Rdr.p r) + 1)) (1 + (pick (Rdr.b r) (Rdr.p r) 2)) 6).2)) ((Rdr.p ((anyTable (Rdr.mk (Rdr.b r) ((Rdr.p r) + 1)) (1 + (pick (Rdr.b r) (Rdr.p r) 2)) 6).2)) + 1)) (1 + (pick (Rdr.b r) (Rdr.p r) 2)) 6).2))) e4 (by kernel_rfl) rfl rfl)

def DrawUnionAll (code : List Int) : Tab × Tab := (((twoTables (newReader code)).1), ((twoTables (newReader code)).2.1))

def DrawUnionAll_sp : FnSpec := mkSpec [.val (.slice (.int .u8))] [.val (.named 2), .val (.named 2)] (fun (code : List Int) => True) (fun (code : List Int) => [⟨(.named 2), ((DrawUnionAll code).1)⟩, ⟨(.named 2), ((DrawUnionAll code).2)⟩])

theorem DrawUnionAll_ok : FnOK Try.prog 36 DrawUnionAll_sp := by
 have hC : CtxOK Try.prog (mkCtx tyL [(55, newReader_sp), (81, twoTables_sp)]) := CtxOK.cons newReader_ok (CtxOK.cons twoTables_ok (CtxOK.nil tyOK))
 refine FnOK.of_body Try.func36 (by kernel_rfl) rfl (C := (mkCtx tyL [(55, newReader_sp), (81, twoTables_sp)])) hC.ty (by kernel_rfl) ?_
 intro (code : List Int) hwf hpre E
 have hpre : True := hpre
 have hw_code : Wf ⟨(.slice (.int .u8)), (code : List Int)⟩ := hwf _ (List.Mem.head _)
 have hl_code : ((List.length code : Nat) : Int) ≤ 9223372036854775807 := hw_code.len
 have h0 := newReader_p code
 have e0 : DrawUnionAll code = DrawUnionAll code := rfl
 refine AW.seq (AW.r1 hC [0, 2, 3] [8, 12] ⟨[(0, .data (.slice (.int .u8)) (code : List Int)), (2, .ref 8 1 0), (3, .ref 12 1 0)], [(8, .box 1 [.int .i64 0, .nilsl]), (12, .box 1 [.int .i64 0, .nilsl])]⟩ ?_)
 refine AW.seq (AW.r0 hC [2, 3] [8, 12] ⟨[(2, .ref 8 1 0), (3, .ref 12 1 0)], [(8, .box 1 [.int .i64 (Tab.Width ((twoTables (newReader code)).1)), .data (.slice (.slice (.named 1))) ((Tab.Rows ((twoTables (newReader code)).1)) : List (List Val))]), (12, .box 1 [.int .i64 (Tab.Width ((twoTables (newReader code)).2.1)), .data (.slice (.slice (.named 1))) ((Tab.Rows ((twoTables (newReader code)).2.1)) : List (List Val))])]⟩ [(True), (0 ≤ (newReader code).p ∧ (newReader code).p ≤ 1000000)] ?_ ?_)
 ·
  refine ⟨?_, ?_, trivial⟩
  ·
   trivial
  ·
   omega
 exact AW.ret (AW.retE (β := Tab × Tab) (fun v => [⟨(.named 2), v.1⟩, ⟨(.named 2), v.2⟩]) (fun v => []) (v := (((twoTables (newReader code)).1), ((twoTables (newReader code)).2.1))) e0 (by kernel_rfl) rfl rfl)

end
end Go.Proofs.Ytjcjpeckfikfkaa
