/-
  A part of the proof of this claim (AwD): what functions of the program compute, and plain facts of that. No conditions.
-/
import Derived.Test.YtjcjpeckfikfkaaAwC
set_option linter.all false
namespace Go.Proofs.Ytjcjpeckfikfkaa
open Go Go.Am
noncomputable section

def anyValue (r : Rdr) : Val × Rdr := (bif ((pick (Rdr.b ((randomValue r).2)) (Rdr.p ((randomValue r).2)) 14) == 0) then ((Val.mk true 1), (Rdr.mk (Rdr.b ((randomValue r).2)) ((Rdr.p ((randomValue r).2)) + 1))) else (bif ((pick (Rdr.b ((randomValue r).2)) (Rdr.p ((randomValue r).2)) 14) == 1) then ((Val.mk false (one (Rdr.b ((randomValue r).2)) ((Rdr.p ((randomValue r).2)) + 1) ([10000, (-10000), 9999, (-9999)] : List Int))), (Rdr.mk (Rdr.b ((randomValue r).2)) (((Rdr.p ((randomValue r).2)) + 1) + 1))) else (((randomValue r).1), (Rdr.mk (Rdr.b ((randomValue r).2)) ((Rdr.p ((randomValue r).2)) + 1)))))

def anyValue_sp : FnSpec := mkSpecB [.box 3] [.val (.named 1)] (fun (r : Rdr) => 0 ≤ r.p ∧ r.p ≤ 1000000100000) (fun (r : Rdr) => [⟨(.named 1), ((anyValue r).1)⟩]) (fun (r : Rdr) => [⟨(.named 3), ((anyValue r).2)⟩])

theorem anyValue_ok : FnOK Try.prog 93 anyValue_sp := by
 have hC : CtxOK Try.prog (mkCtx tyL [(56, pickS), (59, oneS), (92, randomValue_sp)]) := CtxOK.cons pickS_ok (CtxOK.cons oneS_ok (CtxOK.cons randomValue_ok (CtxOK.nil tyOK)))
 refine FnOK.of_body Try.func93 (by kernel_rfl) rfl (C := (mkCtx tyL [(56, pickS), (59, oneS), (92, randomValue_sp)])) hC.ty (by kernel_rfl) ?_
 intro (r : Rdr) hwf hpre E
 have hpre : 0 ≤ r.p ∧ r.p ≤ 1000000100000 := hpre
 have hw_r : Wf ⟨(.named 3), (r : Rdr)⟩ := hwf _ (List.Mem.head _)
 have hl_r_b : ((List.length (Rdr.b r) : Nat) : Int) ≤ 9223372036854775807 := (hw_r.field (tv := ⟨(.slice (.int .u8)), Rdr.b r⟩) (List.Mem.head _)).len
 have hr_r_p : -9223372036854775808 ≤ Rdr.p r ∧ Rdr.p r ≤ 9223372036854775807 := (hw_r.field (tv := ⟨(.int .i64), Rdr.p r⟩) (List.Mem.tail _ (List.Mem.head _))).int_inv
 have e0 : anyValue r = anyValue r := rfl
 refine AW.seq (AW.r1 hC [0, 2] [0, 8] ⟨[(0, .ref 0 0 0), (2, .ref 8 1 0)], [(0, .box 0 [.data (.slice (.int .u8)) ((Rdr.b r) : List Int), .int .i64 (Rdr.p r)]), (8, .box 1 [.bool false, .int .i64 0])]⟩ ?_)
 refine AW.seq (AW.r0 hC [0, 2, 3] [0, 8, 12] ⟨[(0, .ref 0 0 0), (2, .ref 8 1 0), (3, .ref 12 1 0)], [(0, .box 0 [.data (.slice (.int .u8)) ((Rdr.b ((randomValue r).2)) : List Int), .int .i64 (Rdr.p ((randomValue r).2))]), (8, .box 1 [.bool false, .int .i64 0]), (12, .box 1 [.bool (Val.Null ((randomValue r).1)), .int .i64 (Val.N ((randomValue r).1))])]⟩ [(0 ≤ r.p ∧ r.p ≤ 1000000200000)] ?_ ?_)
 ·
  refine ⟨?_, trivial⟩
  ·
   have := randomValue_p r
   omega
 refine AW.seq (AW.seq (AW.r0 hC [0, 2, 3, 7] [0, 8, 12] ⟨[(0, .ref 0 0 0), (2, .ref 8 1 0), (3, .ref 12 1 0), (7, .int .i64 (pick (Rdr.b ((randomValue r).2)) (Rdr.p ((randomValue r).2)) 14))], [(0, .box 0 [.data (.slice (.int .u8)) ((Rdr.b ((randomValue r).2)) : List Int), .int .i64 ((Rdr.p ((randomValue r).2)) + 1)]), (8, .box 1 [.bool false, .int .i64 0]), (12, .box 1 [.bool (Val.Null ((randomValue r).1)), .int .i64 (Val.N ((randomValue r).1))])]⟩ [(0 ≤ ((randomValue r).2).p ∧ ((randomValue r).2).p ≤ 1099511627776)] ?_ ?_))
 ·
  refine ⟨?_, trivial⟩
  ·
   have := randomValue_p r
   omega
 refine AW.block (AW.seq (AW.r1 hC [0, 2, 3, 7, 8] [0, 8, 12] ⟨[(0, .ref 0 0 0), (2, .ref 8 1 0), (3, .ref 12 1 0), (7, .int .i64 (pick (Rdr.b ((randomValue r).2)) (Rdr.p ((randomValue r).2)) 14)), (8, .bool ((pick (Rdr.b ((randomValue r).2)) (Rdr.p ((randomValue r).2)) 14) == 0))], [(0, .box 0 [.data (.slice (.int .u8)) ((Rdr.b ((randomValue r).2)) : List Int), .int .i64 ((Rdr.p ((randomValue r).2)) + 1)]), (8, .box 1 [.bool false, .int .i64 0]), (12, .box 1 [.bool (Val.Null ((randomValue r).1)), .int .i64 (Val.N ((randomValue r).1))])]⟩ ?_))
 refine AW.cd ((pick (Rdr.b ((randomValue r).2)) (Rdr.p ((randomValue r).2)) 14) == 0) ?_ ?_
 ·
  intro h1
  have h1q : (pick (Rdr.b ((randomValue r).2)) (Rdr.p ((randomValue r).2)) 14) = 0 := (Go.Am.beq_pos h1)
  have e2 := e0.trans (Go.Am.bif_t h1)
  refine AW.seq (AW.r1 hC [2] [0, 8] ⟨[(2, .ref 8 1 0)], [(0, .box 0 [.data (.slice (.int .u8)) ((Rdr.b ((randomValue r).2)) : List Int), .int .i64 ((Rdr.p ((randomValue r).2)) + 1)]), (8, .box 1 [.bool true, .int .i64 1])]⟩ ?_)
  exact AW.ret (AW.retE (β := Val × Rdr) (fun v => [⟨(.named 1), v.1⟩]) (fun v => [⟨(.named 3), v.2⟩]) (v := ((Val.mk true 1), (Rdr.mk (Rdr.b ((randomValue r).2)) ((Rdr.p ((randomValue r).2)) + 1)))) e2 (by kernel_rfl) rfl rfl)
 ·
  intro h3
  have h3q : (pick (Rdr.b ((randomValue r).2)) (Rdr.p ((randomValue r).2)) 14) ≠ 0 := (Go.Am.beq_neg h3)
  have e4 := e0.trans (Go.Am.bif_f h3)
  refine AW.seq (AW.r1 hC [0, 2, 3, 11] [0, 8, 12] ⟨[(0, .ref 0 0 0), (2, .ref 8 1 0), (3, .ref 12 1 0), (11, .bool ((pick (Rdr.b ((randomValue r).2)) (Rdr.p ((randomValue r).2)) 14) == 1))], [(0, .box 0 [.data (.slice (.int .u8)) ((Rdr.b ((randomValue r).2)) : List Int), .int .i64 ((Rdr.p ((randomValue r).2)) + 1)]), (8, .box 1 [.bool false, .int .i64 0]), (12, .box 1 [.bool (Val.Null ((randomValue r).1)), .int .i64 (Val.N ((randomValue r).1))])]⟩ ?_)
  refine AW.cd ((pick (Rdr.b ((randomValue r).2)) (Rdr.p ((randomValue r).2)) 14) == 1) ?_ ?_
  ·
   intro h5
   have h5q : (pick (Rdr.b ((randomValue r).2)) (Rdr.p ((randomValue r).2)) 14) = 1 := (Go.Am.beq_pos h5)
   have e6 := e4.trans (Go.Am.bif_t h5)
   refine AW.seq (AW.r0 hC [2] [0, 8] ⟨[(2, .ref 8 1 0)], [(0, .box 0 [.data (.slice (.int .u8)) ((Rdr.b ((randomValue r).2)) : List Int), .int .i64 (((Rdr.p ((randomValue r).2)) + 1) + 1)]), (8, .box 1 [.bool false, .int .i64 (one (Rdr.b ((randomValue r).2)) ((Rdr.p ((randomValue r).2)) + 1) ([10000, (-10000), 9999, (-9999)] : List Int))])]⟩ [((0 ≤ (Rdr.mk (Rdr.b ((randomValue r).2)) ((Rdr.p ((randomValue r).2)) + 1)).p ∧ (Rdr.mk (Rdr.b ((randomValue r).2)) ((Rdr.p ((randomValue r).2)) + 1)).p ≤ 1099511627775) ∧ 1 ≤ (List.length ([10000, (-10000), 9999, (-9999)] : List Int) : Int))] ?_ ?_)
   ·
    refine ⟨?_, trivial⟩
    ·
     have := randomValue_p r
     refine ⟨?_, ?_⟩ <;> (try dsimp only) <;> first | omega | decide
   exact AW.ret (AW.retE (β := Val × Rdr) (fun v => [⟨(.named 1), v.1⟩]) (fun v => [⟨(.named 3), v.2⟩]) (v := ((Val.mk false (one (Rdr.b ((randomValue r).2)) ((Rdr.p ((randomValue r).2)) + 1) ([10000, (-10000), 9999, (-9999)] : List Int))), (Rdr.mk (Rdr.b ((randomValue r).2)) (((Rdr.p ((randomValue r).2)) + 1) + 1)))) e6 (by kernel_rfl) rfl rfl)
  ·
   intro h7
   have h7q : (pick (Rdr.b ((randomValue r).2)) (Rdr.p ((randomValue r).2)) 14) ≠ 1 := (Go.Am.beq_neg h7)
   have e8 := e4.trans (Go.Am.bif_f h7)
   refine AW.kp [2, 3] [0, 8, 12] ⟨[(2, .ref 8 1 0), (3, .ref 12 1 0)], [(0, .box 0 [.data (.slice (.int .u8)) ((Rdr.b ((randomValue r).2)) : List Int), .int .i64 ((Rdr.p ((randomValue r).2)) + 1)]), (8, .box 1 [.bool false, .int .i64 0]), (12, .box 1 [.bool (Val.Null ((randomValue r).1)), .int .i64 (Val.N ((randomValue r).1))])]⟩ ?_
   refine AW.skip (AW.seq (AW.r1 hC [2] [0, 8] ⟨[(2, .ref 8 1 0)], [(0, .box 0 [.data (.slice (.int .u8)) ((Rdr.b ((randomValue r).2)) : List Int), .int .i64 ((Rdr.p ((randomValue r).2)) + 1)]), (8, .box 1 [.bool (Val.Null ((randomValue r).1)), .int .i64 (Val.N ((randomValue r).1))])]⟩ ?_))
   exact AW.ret (AW.retE (β := Val × Rdr) (fun v => [⟨(.named 1), v.1⟩]) (fun v => [⟨(.named 3), v.2⟩]) (v := (((randomValue r).1), (Rdr.mk (Rdr.b ((randomValue r).2)) ((Rdr.p ((randomValue r).2)) + 1)))) e8 (by kernel_rfl) rfl rfl)

theorem anyValue_p (r : Rdr) : r.p ≤ (anyValue r).2.p ∧ (anyValue r).2.p ≤ r.p + 5 := by
 have := randomValue_p r
 unfold anyValue
 cases (pick (Rdr.b (randomValue r).2) (Rdr.p (randomValue r).2) 14 == 0) with
 | true => simp only [cond_true]; omega
 | false =>
  cases (pick (Rdr.b (randomValue r).2) (Rdr.p (randomValue r).2) 14 == 1) with
  | true => simp only [cond_true, cond_false]; omega
  | false => simp only [cond_false]; omega

def anyRow (r : Rdr) (width : Int) : (List Val) × Rdr := (bif ((pick (Rdr.b ((randomRow r width).2)) (Rdr.p ((randomRow r width).2)) 18) == 0) then (([] : List Val), (Rdr.mk (Rdr.b ((randomRow r width).2)) ((Rdr.p ((randomRow r width).2)) + 1))) else (bif ((pick (Rdr.b ((randomRow r width).2)) (Rdr.p ((randomRow r width).2)) 18) == 1) then (((randomRow (Rdr.mk (Rdr.b ((randomRow r width).2)) ((Rdr.p ((randomRow r width).2)) + 1)) 7).1), ((randomRow (Rdr.mk (Rdr.b ((randomRow r width).2)) ((Rdr.p ((randomRow r width).2)) + 1)) 7).2)) else (bif ((pick (Rdr.b ((randomRow r width).2)) (Rdr.p ((randomRow r width).2)) 18) == 2) then ((List.set ((randomRow r width).1) (Int.toNat (pick (Rdr.b ((randomRow r width).2)) ((Rdr.p ((randomRow r width).2)) + 1) ((List.length ((randomRow r width).1) : Nat) : Int))) ((anyValue (Rdr.mk (Rdr.b ((randomRow r width).2)) (((Rdr.p ((randomRow r width).2)) + 1) + 1))).1)), ((anyValue (Rdr.mk (Rdr.b ((randomRow r width).2)) (((Rdr.p ((randomRow r width).2)) + 1) + 1))).2)) else (((randomRow r width).1), (Rdr.mk (Rdr.b ((randomRow r width).2)) ((Rdr.p ((randomRow r width).2)) + 1))))))

def anyRow_sp : FnSpec := mkSpecB [.box 3, .val (.int .i64)] [.val (.slice (.named 1))] (fun (r : Rdr) (width : Int) => (0 ≤ r.p ∧ r.p ≤ 1000000090000) ∧ 1 ≤ width ∧ width ≤ 6) (fun (r : Rdr) (width : Int) => [⟨(.slice (.named 1)), ((anyRow r width).1)⟩]) (fun (r : Rdr) (width : Int) => [⟨(.named 3), ((anyRow r width).2)⟩])

theorem anyRow_ok : FnOK Try.prog 58 anyRow_sp := by
 have hC : CtxOK Try.prog (mkCtx tyL [(56, pickS), (57, randomRow_sp), (93, anyValue_sp)]) := CtxOK.cons pickS_ok (CtxOK.cons randomRow_ok (CtxOK.cons anyValue_ok (CtxOK.nil tyOK)))
 refine FnOK.of_body Try.func58 (by kernel_rfl) rfl (C := (mkCtx tyL [(56, pickS), (57, randomRow_sp), (93, anyValue_sp)])) hC.ty (by kernel_rfl) ?_
 intro (r : Rdr) (width : Int) hwf hpre E
 have hpre : (0 ≤ r.p ∧ r.p ≤ 1000000090000) ∧ 1 ≤ width ∧ width ≤ 6 := hpre
 have hw_r : Wf ⟨(.named 3), (r : Rdr)⟩ := hwf _ (List.Mem.head _)
 have hl_r_b : ((List.length (Rdr.b r) : Nat) : Int) ≤ 9223372036854775807 := (hw_r.field (tv := ⟨(.slice (.int .u8)), Rdr.b r⟩) (List.Mem.head _)).len
 have hr_r_p : -9223372036854775808 ≤ Rdr.p r ∧ Rdr.p r ≤ 9223372036854775807 := (hw_r.field (tv := ⟨(.int .i64), Rdr.p r⟩) (List.Mem.tail _ (List.Mem.head _))).int_inv
 have hw_width : Wf ⟨(.int .i64), (width : Int)⟩ := hwf _ (List.Mem.tail _ (List.Mem.head _))
 have hr_width : -9223372036854775808 ≤ width ∧ width ≤ 9223372036854775807 := hw_width.int_inv
 have hq := randomRow_p r (width := width) (by omega)
 have hl := randomRow_len r width
 have e0 : anyRow r width = anyRow r width := rfl
 refine AW.seq (AW.r1 hC [0, 1] [0] ⟨[(0, .ref 0 0 0), (1, .int .i64 width)], [(0, .box 0 [.data (.slice (.int .u8)) ((Rdr.b r) : List Int), .int .i64 (Rdr.p r)])]⟩ ?_)
 refine AW.seq (AW.r0 hC [0, 5] [0, 32] ⟨[(0, .ref 0 0 0), (5, .arr 32 1)], [(0, .box 0 [.data (.slice (.int .u8)) ((Rdr.b ((randomRow r width).2)) : List Int), .int .i64 (Rdr.p ((randomRow r width).2))]), (32, .arr 1 (.named 1) (((randomRow r width).1) : List Val))]⟩ [((0 ≤ r.p ∧ r.p ≤ 1000000100000) ∧ width ≤ 100)] ?_ ?_)
 ·
  refine ⟨?_, trivial⟩
  ·
   omega
 refine AW.seq (AW.seq (AW.r0 hC [0, 5, 10] [0, 32] ⟨[(0, .ref 0 0 0), (5, .arr 32 1), (10, .int .i64 (pick (Rdr.b ((randomRow r width).2)) (Rdr.p ((randomRow r width).2)) 18))], [(0, .box 0 [.data (.slice (.int .u8)) ((Rdr.b ((randomRow r width).2)) : List Int), .int .i64 ((Rdr.p ((randomRow r width).2)) + 1)]), (32, .arr 1 (.named 1) (((randomRow r width).1) : List Val))]⟩ [(0 ≤ ((randomRow r width).2).p ∧ ((randomRow r width).2).p ≤ 1099511627776)] ?_ ?_))
 ·
  refine ⟨?_, trivial⟩
  ·
   omega
 refine AW.block (AW.seq (AW.r1 hC [0, 5, 10, 11] [0, 32] ⟨[(0, .ref 0 0 0), (5, .arr 32 1), (10, .int .i64 (pick (Rdr.b ((randomRow r width).2)) (Rdr.p ((randomRow r width).2)) 18)), (11, .bool ((pick (Rdr.b ((randomRow r width).2)) (Rdr.p ((randomRow r width).2)) 18) == 0))], [(0, .box 0 [.data (.slice (.int .u8)) ((Rdr.b ((randomRow r width).2)) : List Int), .int .i64 ((Rdr.p ((randomRow r width).2)) + 1)]), (32, .arr 1 (.named 1) (((randomRow r width).1) : List Val))]⟩ ?_))
 refine AW.cd ((pick (Rdr.b ((randomRow r width).2)) (Rdr.p ((randomRow r width).2)) 18) == 0) ?_ ?_
 ·
  intro h1
  have h1q : (pick (Rdr.b ((randomRow r width).2)) (Rdr.p ((randomRow r width).2)) 18) = 0 := (Go.Am.beq_pos h1)
  have e2 := e0.trans (Go.Am.bif_t h1)
  refine AW.seq (AW.r1 hC [4] [0, 52] ⟨[(4, .arr 52 1)], [(0, .box 0 [.data (.slice (.int .u8)) ((Rdr.b ((randomRow r width).2)) : List Int), .int .i64 ((Rdr.p ((randomRow r width).2)) + 1)]), (52, .arr 1 (.named 1) (([] : List Val) : List Val))]⟩ ?_)
  exact AW.ret (AW.retE (β := (List Val) × Rdr) (fun v => [⟨(.slice (.named 1)), v.1⟩]) (fun v => [⟨(.named 3), v.2⟩]) (v := (([] : List Val), (Rdr.mk (Rdr.b ((randomRow r width).2)) ((Rdr.p ((randomRow r width).2)) + 1)))) e2 (by kernel_rfl) rfl rfl)
 ·
  intro h3
  have h3q : (pick (Rdr.b ((randomRow r width).2)) (Rdr.p ((randomRow r width).2)) 18) ≠ 0 := (Go.Am.beq_neg h3)
  have e4 := e0.trans (Go.Am.bif_f h3)
  refine AW.seq (AW.r1 hC [0, 5, 10, 14] [0, 32] ⟨[(0, .ref 0 0 0), (5, .arr 32 1), (10, .int .i64 (pick (Rdr.b ((randomRow r width).2)) (Rdr.p ((randomRow r width).2)) 18)), (14, .bool ((pick (Rdr.b ((randomRow r width).2)) (Rdr.p ((randomRow r width).2)) 18) == 1))], [(0, .box 0 [.data (.slice (.int .u8)) ((Rdr.b ((randomRow r width).2)) : List Int), .int .i64 ((Rdr.p ((randomRow r width).2)) + 1)]), (32, .arr 1 (.named 1) (((randomRow r width).1) : List Val))]⟩ ?_)
  refine AW.cd ((pick (Rdr.b ((randomRow r width).2)) (Rdr.p ((randomRow r width).2)) 18) == 1) ?_ ?_
  ·
   intro h5
   have h5q : (pick (Rdr.b ((randomRow r width).2)) (Rdr.p ((randomRow r width).2)) 18) = 1 := (Go.Am.beq_pos h5)
   have e6 := e4.trans (Go.Am.bif_t h5)
   refine AW.seq (AW.r0 hC [4] [0, 68] ⟨[(4, .arr 68 1)], [(0, .box 0 [.data (.slice (.int .u8)) ((Rdr.b ((randomRow (Rdr.mk (Rdr.b ((randomRow r width).2)) ((Rdr.p ((randomRow r width).2)) + 1)) 7).2)) : List Int), .int .i64 (Rdr.p ((randomRow (Rdr.mk (Rdr.b ((randomRow r width).2)) ((Rdr.p ((randomRow r width).2)) + 1)) 7).2))]), (68, .arr 1 (.named 1) (((randomRow (Rdr.mk (Rdr.b ((randomRow r width).2)) ((Rdr.p ((randomRow r width).2)) + 1)) 7).1) : List Val))]⟩ [((0 ≤ (Rdr.mk (Rdr.b ((randomRow r width).2)) ((Rdr.p ((randomRow r width).2)) + 1)).p ∧ (Rdr.mk (Rdr.b ((randomRow r width).2)) ((Rdr.p ((randomRow r width).2)) + 1)).p ≤ 1000000100000) ∧ (7 : Int) ≤ 100)] ?_ ?_)
   ·
    refine ⟨?_, trivial⟩
    ·
     dsimp only; omega
   exact AW.ret (AW.retE (β := (List Val) × Rdr) (fun v => [⟨(.slice (.named 1)), v.1⟩]) (fun v => [⟨(.named 3), v.2⟩]) (v := (((randomRow (Rdr.mk (Rdr.b ((randomRow r width).2)) ((Rdr.p ((randomRow r width).2)) + 1)) 7).1), ((randomRow (Rdr.mk (Rdr.b ((randomRow r width).2)) ((Rdr.p ((randomRow r width).2)) + 1)) 7).2))) e6 (by kernel_rfl) rfl rfl)
  ·
   intro h7
   have h7q : (pick (Rdr.b ((randomRow r width).2)) (Rdr.p ((randomRow r width).2)) 18) ≠ 1 := (Go.Am.beq_neg h7)
   have e8 := e4.trans (Go.Am.bif_f h7)
   refine AW.seq (AW.r1 hC [0, 5, 18] [0, 32] ⟨[(0, .ref 0 0 0), (5, .arr 32 1), (18, .bool ((pick (Rdr.b ((randomRow r width).2)) (Rdr.p ((randomRow r width).2)) 18) == 2))], [(0, .box 0 [.data (.slice (.int .u8)) ((Rdr.b ((randomRow r width).2)) : List Int), .int .i64 ((Rdr.p ((randomRow r width).2)) + 1)]), (32, .arr 1 (.named 1) (((randomRow r width).1) : List Val))]⟩ ?_)
   refine AW.cd ((pick (Rdr.b ((randomRow r width).2)) (Rdr.p ((randomRow r width).2)) 18) == 2) ?_ ?_
   ·
    intro h9
    have h9q : (pick (Rdr.b ((randomRow r width).2)) (Rdr.p ((randomRow r width).2)) 18) = 2 := (Go.Am.beq_pos h9)
    have e10 := e8.trans (Go.Am.bif_t h9)
    refine AW.r0 hC [5] [0, 32] ⟨[(5, .arr 32 1)], [(0, .box 0 [.data (.slice (.int .u8)) ((Rdr.b ((anyValue (Rdr.mk (Rdr.b ((randomRow r width).2)) (((Rdr.p ((randomRow r width).2)) + 1) + 1))).2)) : List Int), .int .i64 (Rdr.p ((anyValue (Rdr.mk (Rdr.b ((randomRow r width).2)) (((Rdr.p ((randomRow r width).2)) + 1) + 1))).2))]), (32, .arr 1 (.named 1) ((List.set ((randomRow r width).1) (Int.toNat (pick (Rdr.b ((randomRow r width).2)) ((Rdr.p ((randomRow r width).2)) + 1) ((List.length ((randomRow r width).1) : Nat) : Int))) ((anyValue (Rdr.mk (Rdr.b ((randomRow r width).2)) (((Rdr.p ((randomRow r width).2)) + 1) + 1))).1)) : List Val))]⟩ [(0 ≤ (Rdr.mk (Rdr.b ((randomRow r width).2)) ((Rdr.p ((randomRow r width).2)) + 1)).p ∧ (Rdr.mk (Rdr.b ((randomRow r width).2)) ((Rdr.p ((randomRow r width).2)) + 1)).p ≤ 1099511627776), (0 ≤ (Rdr.mk (Rdr.b ((randomRow r width).2)) (((Rdr.p ((randomRow r width).2)) + 1) + 1)).p ∧ (Rdr.mk (Rdr.b ((randomRow r width).2)) (((Rdr.p ((randomRow r width).2)) + 1) + 1)).p ≤ 1000000100000), (0 ≤ (pick (Rdr.b ((randomRow r width).2)) ((Rdr.p ((randomRow r width).2)) + 1) ((List.length ((randomRow r width).1) : Nat) : Int)) ∧ (pick (Rdr.b ((randomRow r width).2)) ((Rdr.p ((randomRow r width).2)) + 1) ((List.length ((randomRow r width).1) : Nat) : Int)) < ((List.length ((randomRow r width).1) : Nat) : Int))] ?_ ?_
    ·
     refine ⟨?_, ?_, ?_, trivial⟩
     ·
      dsimp only; omega
     ·
      dsimp only; omega
     ·
      exact pick_ok _ _ (by omega)
    refine AW.seq (AW.r1 hC [4] [0, 32] ⟨[(4, .arr 32 1)], [(0, .box 0 [.data (.slice (.int .u8)) ((Rdr.b ((anyValue (Rdr.mk (Rdr.b ((randomRow r width).2)) (((Rdr.p ((randomRow r width).2)) + 1) + 1))).2)) : List Int), .int .i64 (Rdr.p ((anyValue (Rdr.mk (Rdr.b ((randomRow r width).2)) (((Rdr.p ((randomRow r width).2)) + 1) + 1))).2))]), (32, .arr 1 (.named 1) ((List.set ((randomRow r width).1) (Int.toNat (pick (Rdr.b ((randomRow r width).2)) ((Rdr.p ((randomRow r width).2)) + 1) ((List.length ((randomRow r width).1) : Nat) : Int))) ((anyValue (Rdr.mk (Rdr.b ((randomRow r width).2)) (((Rdr.p ((randomRow r width).2)) + 1) + 1))).1)) : List Val))]⟩ ?_)
    exact AW.ret (AW.retE (β := (List Val) × Rdr) (fun v => [⟨(.slice (.named 1)), v.1⟩]) (fun v => [⟨(.named 3), v.2⟩]) (v := ((List.set ((randomRow r width).1) (Int.toNat (pick (Rdr.b ((randomRow r width).2)) ((Rdr.p ((randomRow r width).2)) + 1) ((List.length ((randomRow r width).1) : Nat) : Int))) ((anyValue (Rdr.mk (Rdr.b ((randomRow r width).2)) (((Rdr.p ((randomRow r width).2)) + 1) + 1))).1)), ((anyValue (Rdr.mk (Rdr.b ((randomRow r width).2)) (((Rdr.p ((randomRow r width).2)) + 1) + 1))).2))) e10 (by kernel_rfl) rfl rfl)
   ·
    intro h11
    have h11q : (pick (Rdr.b ((randomRow r width).2)) (Rdr.p ((randomRow r width).2)) 18) ≠ 2 := (Go.Am.beq_neg h11)
    have e12 := e8.trans (Go.Am.bif_f h11)
    refine AW.kp [5] [0, 32] ⟨[(5, .arr 32 1)], [(0, .box 0 [.data (.slice (.int .u8)) ((Rdr.b ((randomRow r width).2)) : List Int), .int .i64 ((Rdr.p ((randomRow r width).2)) + 1)]), (32, .arr 1 (.named 1) (((randomRow r width).1) : List Val))]⟩ ?_
    refine AW.skip (AW.seq (AW.r1 hC [4] [0, 32] ⟨[(4, .arr 32 1)], [(0, .box 0 [.data (.slice (.int .u8)) ((Rdr.b ((randomRow r width).2)) : List Int), .int .i64 ((Rdr.p ((randomRow r width).2)) + 1)]), (32, .arr 1 (.named 1) (((randomRow r width).1) : List Val))]⟩ ?_))
    exact AW.ret (AW.retE (β := (List Val) × Rdr) (fun v => [⟨(.slice (.named 1)), v.1⟩]) (fun v => [⟨(.named 3), v.2⟩]) (v := (((randomRow r width).1), (Rdr.mk (Rdr.b ((randomRow r width).2)) ((Rdr.p ((randomRow r width).2)) + 1)))) e12 (by kernel_rfl) rfl rfl)

theorem anyRow_p (r : Rdr) {width : Int} (hw : width ≤ 6) : r.p ≤ (anyRow r width).2.p ∧ (anyRow r width).2.p ≤ r.p + 500 := by
 have h := randomRow_p r (width := width) (by omega)
 have h2 := randomRow_p (Rdr.mk (Rdr.b ((randomRow r width).2)) ((Rdr.p ((randomRow r width).2)) + 1)) (width := 7) (by omega)
 have h3 := anyValue_p (Rdr.mk (Rdr.b ((randomRow r width).2)) (((Rdr.p ((randomRow r width).2)) + 1) + 1))
 simp only at h2 h3
 unfold anyRow
 cases (pick (Rdr.b ((randomRow r width).2)) (Rdr.p ((randomRow r width).2)) 18) == 0 with
 | true => simp only [cond_true]; omega
 | false =>
  cases (pick (Rdr.b ((randomRow r width).2)) (Rdr.p ((randomRow r width).2)) 18) == 1 with
  | true => simp only [cond_true, cond_false]; omega
  | false =>
   cases (pick (Rdr.b ((randomRow r width).2)) (Rdr.p ((randomRow r width).2)) 18) == 2 with
   | true => simp only [cond_true, cond_false]; omega
   | false => simp only [cond_false]; omega

theorem anyRow_len (r : Rdr) {width : Int} (hw : width ≤ 6) : (anyRow r width).1.length ≤ 100 := by
 have h := randomRow_p r (width := width) (by omega)
 have h2 := randomRow_p (Rdr.mk (Rdr.b ((randomRow r width).2)) ((Rdr.p ((randomRow r width).2)) + 1)) (width := 7) (by omega)
 unfold anyRow
 cases (pick (Rdr.b ((randomRow r width).2)) (Rdr.p ((randomRow r width).2)) 18) == 0 with
 | true => simp
 | false =>
  cases (pick (Rdr.b ((randomRow r width).2)) (Rdr.p ((randomRow r width).2)) 18) == 1 with
  | true => simp only [cond_true, cond_false]; omega
  | false =>
   cases (pick (Rdr.b ((randomRow r width).2)) (Rdr.p ((randomRow r width).2)) 18) == 2 with
   | true => simp only [cond_true, cond_false, List.length_set]; omega
   | false => simp only [cond_false]; omega

def anyTable_l0 (width : Int) : Nat → Int → (List Int) → Int → (List (List Val)) → (List Int) × Int × (List (List Val))
 | 0, n, r0, r1, rows => (r0, r1, rows)
 | k + 1, n, r0, r1, rows => (bif (decide (0 < n)) then (anyTable_l0 width k (n - 1) (Rdr.b ((randomRow (Rdr.mk r0 r1) width).2)) (Rdr.p ((randomRow (Rdr.mk r0 r1) width).2)) (rows ++ ([((randomRow (Rdr.mk r0 r1) width).1)] : List (List Val)))) else (r0, r1, rows))

def anyTable_l1 (rows : List (List Val)) : Nat → Nat → (List (List Val)) → (List (List Val))
 | 0, i, ar8103 => ar8103
 | k + 1, i, ar8103 => (bif (decide (((i : Nat) : Int) < ((List.length rows : Nat) : Int))) then (anyTable_l1 rows k (i + 1) (insertRow ar8103 (List.getD rows i []))) else ar8103)

def anyTable (r : Rdr) (width : Int) (most : Int) : Tab × Rdr := (Go.Am.andThen (anyTable_l0 width (Int.toNat (pick (Rdr.b r) (Rdr.p r) (most + 1)) + 1) (pick (Rdr.b r) (Rdr.p r) (most + 1)) (Rdr.b r) ((Rdr.p r) + 1) ([] : List (List Val))) (fun z => (fun (r0 : List Int) (r1 : Int) (rows : List (List Val)) => (Go.Am.andThen (anyTable_l1 rows ((List.length rows) - 0 + 1) 0 ([] : List (List Val))) (fun z => (fun (ar8103 : List (List Val)) => (bif ((pick r0 r1 20) == 0) then ((Tab.mk (one r0 (r1 + 1) ([0, 7, 2] : List Int)) ar8103), (Rdr.mk r0 ((r1 + 1) + 1))) else (bif ((pick r0 r1 20) == 1) then (bif (decide (0 < ((List.length ar8103 : Nat) : Int))) then ((Tab.mk width (ar8103 ++ ([(copyRow (List.getD ar8103 0 []))] : List (List Val)))), (Rdr.mk r0 (r1 + 1))) else ((Tab.mk width ar8103), (Rdr.mk r0 (r1 + 1)))) else (bif ((pick r0 r1 20) == 2) then (bif (decide (0 < ((List.length ar8103 : Nat) : Int))) then ((Tab.mk width (List.set ar8103 0 ((anyRow (Rdr.mk r0 (r1 + 1)) width).1))), ((anyRow (Rdr.mk r0 (r1 + 1)) width).2)) else ((Tab.mk width ar8103), (Rdr.mk r0 (r1 + 1)))) else ((Tab.mk width ar8103), (Rdr.mk r0 (r1 + 1))))))) z))) z.1 z.2.1 z.2.2))

def anyTable_sp : FnSpec := mkSpecB [.box 3, .val (.int .i64), .val (.int .i64)] [.val (.named 2)] (fun (r : Rdr) (width : Int) (most : Int) => (0 ≤ r.p ∧ r.p ≤ 1000000000000) ∧ (1 ≤ width ∧ width ≤ 6) ∧ (0 ≤ most ∧ most ≤ 99)) (fun (r : Rdr) (width : Int) (most : Int) => [⟨(.named 2), ((anyTable r width most).1)⟩]) (fun (r : Rdr) (width : Int) (most : Int) => [⟨(.named 3), ((anyTable r width most).2)⟩])

theorem anyTable_ok : FnOK Try.prog 74 anyTable_sp := by
 have hC : CtxOK Try.prog (mkCtx tyL [(56, pickS), (57, randomRow_sp), (58, anyRow_sp), (59, oneS), (75, copyRow_sp), (99, insertRow_sp)]) := CtxOK.cons pickS_ok (CtxOK.cons randomRow_ok (CtxOK.cons anyRow_ok (CtxOK.cons oneS_ok (CtxOK.cons copyRow_ok (CtxOK.cons insertRow_ok (CtxOK.nil tyOK))))))
 have hM : Try.prog.follows .mixedOrders = true := Try.checked.mixed
 have hC1 := hC.rebase 1000
 have hC2 := hC.rebase 2000
 refine FnOK.of_body Try.func74 (by kernel_rfl) rfl (C := (mkCtx tyL [(56, pickS), (57, randomRow_sp), (58, anyRow_sp), (59, oneS), (75, copyRow_sp), (99, insertRow_sp)])) hC.ty (by kernel_rfl) ?_
 intro (r : Rdr) (width : Int) (most : Int) hwf hpre E
 have hpre : (0 ≤ r.p ∧ r.p ≤ 1000000000000) ∧ (1 ≤ width ∧ width ≤ 6) ∧ (0 ≤ most ∧ most ≤ 99) := hpre
 have hw_r : Wf ⟨(.named 3), (r : Rdr)⟩ := hwf _ (List.Mem.head _)
 have hl_r_b : ((List.length (Rdr.b r) : Nat) : Int) ≤ 9223372036854775807 := (hw_r.field (tv := ⟨(.slice (.int .u8)), Rdr.b r⟩) (List.Mem.head _)).len
 have hr_r_p : -9223372036854775808 ≤ Rdr.p r ∧ Rdr.p r ≤ 9223372036854775807 := (hw_r.field (tv := ⟨(.int .i64), Rdr.p r⟩) (List.Mem.tail _ (List.Mem.head _))).int_inv
 have hw_width : Wf ⟨(.int .i64), (width : Int)⟩ := hwf _ (List.Mem.tail _ (List.Mem.head _))
 have hr_width : -9223372036854775808 ≤ width ∧ width ≤ 9223372036854775807 := hw_width.int_inv
 have hw_most : Wf ⟨(.int .i64), (most : Int)⟩ := hwf _ (List.Mem.tail _ (List.Mem.tail _ (List.Mem.head _)))
 have hr_most : -9223372036854775808 ≤ most ∧ most ≤ 9223372036854775807 := hw_most.int_inv
 have e0 : anyTable r width most = anyTable r width most := rfl
 refine AW.seq (AW.r1 hC [0, 1, 2, 6] [0, 24] ⟨[(0, .ref 0 0 0), (1, .int .i64 width), (2, .int .i64 most), (6, .ref 24 1 0)], [(0, .box 0 [.data (.slice (.int .u8)) ((Rdr.b r) : List Int), .int .i64 (Rdr.p r)]), (24, .box 1 [.int .i64 0, .nilsl])]⟩ ?_)
 refine AW.seq (AW.regionO [0, 1, 2, 3, 4, 5] (by rfl) ?_)
 refine AWO.run hC false [] [0, 1, 2] [3, 4, 5] [0, 1, 6, 8, 9, 10] [0, 24]
  ⟨[(0, .ref 0 0 0), (1, .int .i64 width), (6, .ref 24 1 0), (8, .ref 0 0 0), (9, .int .i64 width), (10, .int .i64 most)], [(0, .box 0 [.data (.slice (.int .u8)) ((Rdr.b r) : List Int), .int .i64 (Rdr.p r)]), (24, .box 1 [.int .i64 0, .nilsl])]⟩
  [] (by rfl) (by kernel_rfl) ?_ ?_
 ·
  exact trivial
 refine AWO.call hC.ty (vs := [.ref 0 0 0, .int .i64 width, .int .i64 most]) (caps := []) (by rfl) rfl (.inl rfl) (by decide) (by kernel_rfl) (by kernel_rfl) Try.func105 (by kernel_rfl) rfl (by kernel_rfl) ?_
 intro o1 ho1
 refine AW.kp [0, 1, 2, 1000, 1001, 1006] [0, 24] ⟨[(0, .ref 0 0 0), (1, .int .i64 width), (2, .int .i64 most), (1000, .ref 0 0 0), (1001, .int .i64 width), (1006, .ref 24 1 0)], [(0, .box 0 [.data (.slice (.int .u8)) ((Rdr.b r) : List Int), .int .i64 (Rdr.p r)]), (24, .box 1 [.int .i64 0, .nilsl])]⟩ ?_
 refine AW.seq (AW.r1 hC1 [0, 1, 2, 6, 1000, 1001, 1006] [0, 24, 4024] ⟨[(0, .ref 0 0 0), (1, .int .i64 width), (2, .int .i64 most), (6, .ref 4024 1 0), (1000, .ref 0 0 0), (1001, .int .i64 width), (1006, .ref 24 1 0)], [(0, .box 0 [.data (.slice (.int .u8)) ((Rdr.b r) : List Int), .int .i64 (Rdr.p r)]), (24, .box 1 [.int .i64 0, .nilsl]), (4024, .box 1 [.int .i64 0, .nilsl])]⟩ ?_)
 refine AW.seq (AW.r1 hC1 [0, 1, 2, 6, 7, 1000, 1001, 1006] [0, 24, 4024, 4036] ⟨[(0, .ref 0 0 0), (1, .int .i64 width), (2, .int .i64 most), (6, .ref 4024 1 0), (7, .arr 4036 1), (1000, .ref 0 0 0), (1001, .int .i64 width), (1006, .ref 24 1 0)], [(0, .box 0 [.data (.slice (.int .u8)) ((Rdr.b r) : List Int), .int .i64 (Rdr.p r)]), (24, .box 1 [.int .i64 0, .nilsl]), (4024, .box 1 [.int .i64 0, .nilsl]), (4036, .arr 1 (.slice (.named 1)) (([] : List (List Val)) : List (List Val)))]⟩ ?_)
 refine AW.seq (AW.seq (AW.r0 hC1 [0, 1, 6, 7, 8, 1000, 1001, 1006] [0, 24, 4024, 4036] ⟨[(0, .ref 0 0 0), (1, .int .i64 width), (6, .ref 4024 1 0), (7, .arr 4036 1), (8, .int .i64 (pick (Rdr.b r) (Rdr.p r) (most + 1))), (1000, .ref 0 0 0), (1001, .int .i64 width), (1006, .ref 24 1 0)], [(0, .box 0 [.data (.slice (.int .u8)) ((Rdr.b r) : List Int), .int .i64 ((Rdr.p r) + 1)]), (24, .box 1 [.int .i64 0, .nilsl]), (4024, .box 1 [.int .i64 0, .nilsl]), (4036, .arr 1 (.slice (.named 1)) (([] : List (List Val)) : List (List Val)))]⟩ [(-9223372036854775808 ≤ (most + 1) ∧ (most + 1) ≤ 9223372036854775807), (0 ≤ r.p ∧ r.p ≤ 1099511627776)] ?_ ?_))
 ·
  refine ⟨?_, ?_, trivial⟩
  ·
   omega
  ·
   omega
 refine AW.cutQ (α := (List Int) × Int × (List (List Val))) (fun x => ⟨[(1, .int .i64 width), (6, .ref 4024 1 0), (7, .arr 4036 1), (1000, .ref 0 0 0), (1001, .int .i64 width), (1006, .ref 24 1 0)], [(0, .box 0 [.data (.slice (.int .u8)) (x.1 : List Int), .int .i64 x.2.1]), (24, .box 1 [.int .i64 0, .nilsl]), (4024, .box 1 [.int .i64 0, .nilsl]), (4036, .arr 1 (.slice (.named 1)) (x.2.2 : List (List Val)))]⟩) (fun x => ((RB x.2.2 ∧ List.length x.2.2 ≤ 100) ∧ (0 ≤ x.2.1 ∧ x.2.1 ≤ r.p + 40000)) ∧ (anyTable_l0 width (Int.toNat (pick (Rdr.b r) (Rdr.p r) (most + 1)) + 1) (pick (Rdr.b r) (Rdr.p r) (most + 1)) (Rdr.b r) ((Rdr.p r) + 1) ([] : List (List Val))) = x) ?_ ?_
 ·
  skip
  refine AW.block (AW.loop (α := Int × (List Int) × Int × (List (List Val))) (fun x => ⟨[(0, .ref 0 0 0), (1, .int .i64 width), (6, .ref 4024 1 0), (7, .arr 4036 1), (8, .int .i64 x.1), (1000, .ref 0 0 0), (1001, .int .i64 width), (1006, .ref 24 1 0)], [(0, .box 0 [.data (.slice (.int .u8)) (x.2.1 : List Int), .int .i64 x.2.2.1]), (24, .box 1 [.int .i64 0, .nilsl]), (4024, .box 1 [.int .i64 0, .nilsl]), (4036, .arr 1 (.slice (.named 1)) (x.2.2.2 : List (List Val)))]⟩) (fun x => ((RB x.2.2.2 ∧ (List.length x.2.2.2 : Int) + x.1 ≤ 100 ∧ 0 ≤ x.1) ∧ (0 ≤ x.2.2.1 ∧ x.2.2.1 + 300 * x.1 ≤ r.p + 40000)) ∧ ∃ k, Int.toNat x.1 < k ∧ (anyTable_l0 width (Int.toNat (pick (Rdr.b r) (Rdr.p r) (most + 1)) + 1) (pick (Rdr.b r) (Rdr.p r) (most + 1)) (Rdr.b r) ((Rdr.p r) + 1) ([] : List (List Val))) = anyTable_l0 width k x.1 x.2.1 x.2.2.1 x.2.2.2) (fun x => Int.toNat x.1) ((pick (Rdr.b r) (Rdr.p r) (most + 1)), (Rdr.b r), ((Rdr.p r) + 1), ([] : List (List Val))) (by kernel_rfl) ⟨?_, _, Nat.lt_succ_self _, rfl⟩ ?_)
  ·
   show (RB ([] : List (List Val)) ∧ (List.length ([] : List (List Val)) : Int) + (pick (Rdr.b r) (Rdr.p r) (most + 1)) ≤ 100 ∧ 0 ≤ (pick (Rdr.b r) (Rdr.p r) (most + 1))) ∧ (0 ≤ ((Rdr.p r) + 1) ∧ ((Rdr.p r) + 1) + 300 * (pick (Rdr.b r) (Rdr.p r) (most + 1)) ≤ r.p + 40000)
   have := pick_ok (n := most + 1) r.b r.p (by omega)
   simp only [List.length_nil]
   exact ⟨⟨RB.nil, by omega, by omega⟩, by omega⟩
  ·
   intro x hR
   obtain ⟨n, r0, r1, rows⟩ := x
   obtain ⟨hI0, k50, hk48, e49⟩ := hR
   replace hI0 : (RB rows ∧ (List.length rows : Int) + n ≤ 100 ∧ 0 ≤ n) ∧ (0 ≤ r1 ∧ r1 + 300 * n ≤ r.p + 40000) := hI0
   replace hk48 : Int.toNat n < k50 := hk48
   obtain ⟨k50q, rfl⟩ : ∃ k, k50 = k + 1 := ⟨k50 - 1, by omega⟩
   have hrr := randomRow_p (Rdr.mk r0 r1) (width := width) (by omega)
   simp only at hrr
   refine AW.seq (AW.seq (AW.r1 hC1 [0, 1, 6, 7, 8, 15, 1000, 1001, 1006] [0, 24, 4024, 4036] ⟨[(0, .ref 0 0 0), (1, .int .i64 width), (6, .ref 4024 1 0), (7, .arr 4036 1), (8, .int .i64 n), (15, .bool (decide (0 < n))), (1000, .ref 0 0 0), (1001, .int .i64 width), (1006, .ref 24 1 0)], [(0, .box 0 [.data (.slice (.int .u8)) (r0 : List Int), .int .i64 r1]), (24, .box 1 [.int .i64 0, .nilsl]), (4024, .box 1 [.int .i64 0, .nilsl]), (4036, .arr 1 (.slice (.named 1)) (rows : List (List Val)))]⟩ ?_))
   refine AW.cd (decide (0 < n)) ?_ ?_
   ·
    intro h51
    have h51q : 0 < n := (of_decide_eq_true h51)
    have e52 := e49.trans (Go.Am.bif_t h51)
    refine AW.kp [0, 1, 6, 7, 8, 1000, 1001, 1006] [0, 24, 4024, 4036] ⟨[(0, .ref 0 0 0), (1, .int .i64 width), (6, .ref 4024 1 0), (7, .arr 4036 1), (8, .int .i64 n), (1000, .ref 0 0 0), (1001, .int .i64 width), (1006, .ref 24 1 0)], [(0, .box 0 [.data (.slice (.int .u8)) (r0 : List Int), .int .i64 r1]), (24, .box 1 [.int .i64 0, .nilsl]), (4024, .box 1 [.int .i64 0, .nilsl]), (4036, .arr 1 (.slice (.named 1)) (rows : List (List Val)))]⟩ ?_
    refine AW.skip (AW.seq (AW.block (AW.r0 hC1 [0, 1, 6, 7, 8, 1000, 1001, 1006] [0, 24, 4024, 4036] ⟨[(0, .ref 0 0 0), (1, .int .i64 width), (6, .ref 4024 1 0), (7, .arr 4036 1), (8, .int .i64 n), (1000, .ref 0 0 0), (1001, .int .i64 width), (1006, .ref 24 1 0)], [(0, .box 0 [.data (.slice (.int .u8)) ((Rdr.b ((randomRow (Rdr.mk r0 r1) width).2)) : List Int), .int .i64 (Rdr.p ((randomRow (Rdr.mk r0 r1) width).2))]), (24, .box 1 [.int .i64 0, .nilsl]), (4024, .box 1 [.int .i64 0, .nilsl]), (4036, .arr 1 (.slice (.named 1)) ((rows ++ ([((randomRow (Rdr.mk r0 r1) width).1)] : List (List Val))) : List (List Val)))]⟩ [((0 ≤ (Rdr.mk r0 r1).p ∧ (Rdr.mk r0 r1).p ≤ 1000000100000) ∧ width ≤ 100), (((List.length rows : Nat) : Int) + ((List.length ([((randomRow (Rdr.mk r0 r1) width).1)] : List (List Val)) : Nat) : Int) ≤ 4294967296)] ?_ ?_)))
    ·
     refine ⟨?_, ?_, trivial⟩
     ·
      dsimp only; omega
     ·
      simp only [lens] at *; omega
    refine AW.r0 hC1 [0, 1, 6, 7, 8, 1000, 1001, 1006] [0, 24, 4024, 4036] ⟨[(0, .ref 0 0 0), (1, .int .i64 width), (6, .ref 4024 1 0), (7, .arr 4036 1), (8, .int .i64 (n - 1)), (1000, .ref 0 0 0), (1001, .int .i64 width), (1006, .ref 24 1 0)], [(0, .box 0 [.data (.slice (.int .u8)) ((Rdr.b ((randomRow (Rdr.mk r0 r1) width).2)) : List Int), .int .i64 (Rdr.p ((randomRow (Rdr.mk r0 r1) width).2))]), (24, .box 1 [.int .i64 0, .nilsl]), (4024, .box 1 [.int .i64 0, .nilsl]), (4036, .arr 1 (.slice (.named 1)) ((rows ++ ([((randomRow (Rdr.mk r0 r1) width).1)] : List (List Val))) : List (List Val)))]⟩ [(-9223372036854775808 ≤ (n - 1) ∧ (n - 1) ≤ 9223372036854775807)] ?_ ?_
    ·
     refine ⟨?_, trivial⟩
     ·
      omega
    refine AW.back (x := (n, r0, r1, rows)) ((n - 1), (Rdr.b ((randomRow (Rdr.mk r0 r1) width).2)), (Rdr.p ((randomRow (Rdr.mk r0 r1) width).2)), (rows ++ ([((randomRow (Rdr.mk r0 r1) width).1)] : List (List Val)))) (by kernel_rfl) ⟨?_, k50q, ?_, e52⟩ ?_
    ·
     show (RB (rows ++ ([((randomRow (Rdr.mk r0 r1) width).1)] : List (List Val))) ∧ (List.length (rows ++ ([((randomRow (Rdr.mk r0 r1) width).1)] : List (List Val))) : Int) + (n - 1) ≤ 100 ∧ 0 ≤ (n - 1)) ∧ (0 ≤ (Rdr.p ((randomRow (Rdr.mk r0 r1) width).2)) ∧ (Rdr.p ((randomRow (Rdr.mk r0 r1) width).2)) + 300 * (n - 1) ≤ r.p + 40000)
     simp only [List.length_append, List.length_cons, List.length_nil]
     exact ⟨⟨hI0.1.1.add (by omega), by omega, by omega⟩, by omega⟩
    ·
     show Int.toNat (n - 1) < k50q
     omega
    ·
     show Int.toNat (n - 1) < Int.toNat n
     omega
   ·
    intro h53
    have h53q : ¬ (0 < n) := (of_decide_eq_false h53)
    have e54 := e49.trans (Go.Am.bif_f h53)
    refine AW.kp [1, 6, 7, 1000, 1001, 1006] [0, 24, 4024, 4036] ⟨[(1, .int .i64 width), (6, .ref 4024 1 0), (7, .arr 4036 1), (1000, .ref 0 0 0), (1001, .int .i64 width), (1006, .ref 24 1 0)], [(0, .box 0 [.data (.slice (.int .u8)) (r0 : List Int), .int .i64 r1]), (24, .box 1 [.int .i64 0, .nilsl]), (4024, .box 1 [.int .i64 0, .nilsl]), (4036, .arr 1 (.slice (.named 1)) (rows : List (List Val)))]⟩ ?_
    refine AW.exit ?_
    refine AW.meet (r0, r1, rows) (by kernel_rfl) ⟨?_, e54⟩
    show (RB rows ∧ List.length rows ≤ 100) ∧ (0 ≤ r1 ∧ r1 ≤ r.p + 40000)
    exact ⟨⟨hI0.1.1, by omega⟩, by omega⟩
 ·
  intro x hR
  obtain ⟨r0, r1, rows⟩ := x
  obtain ⟨hJ0, e55⟩ := hR
  replace hJ0 : (RB rows ∧ List.length rows ≤ 100) ∧ (0 ≤ r1 ∧ r1 ≤ r.p + 40000) := hJ0
  have e56 := e0.trans (Go.Am.then_eq e55)
  refine AW.seq (AW.regionO [0, 1, 2, 3] (by rfl) ?_)
  refine AWO.run hC1 false [] [0, 1] [2, 3] [6, 24, 25, 1000, 1001, 1006] [0, 24, 4024, 4036]
   ⟨[(6, .ref 4024 1 0), (24, .int .i64 width), (25, .arr 4036 1), (1000, .ref 0 0 0), (1001, .int .i64 width), (1006, .ref 24 1 0)], [(0, .box 0 [.data (.slice (.int .u8)) (r0 : List Int), .int .i64 r1]), (24, .box 1 [.int .i64 0, .nilsl]), (4024, .box 1 [.int .i64 0, .nilsl]), (4036, .arr 1 (.slice (.named 1)) (rows : List (List Val)))]⟩
   [] (by rfl) (by kernel_rfl) ?_ ?_
  ·
   exact trivial
  refine AWO.call hC1.ty (vs := [.int .i64 width, .arr 4036 1]) (caps := []) (by rfl) rfl (.inl rfl) (by decide) (by kernel_rfl) (by kernel_rfl) Try.func66 (by kernel_rfl) rfl (by kernel_rfl) ?_
  intro o2 ho2
  refine AW.kp [0, 1, 1006, 2000, 2001, 2006] [0, 24, 4024, 4036] ⟨[(0, .int .i64 width), (1, .arr 4036 1), (1006, .ref 4024 1 0), (2000, .ref 0 0 0), (2001, .int .i64 width), (2006, .ref 24 1 0)], [(0, .box 0 [.data (.slice (.int .u8)) (r0 : List Int), .int .i64 r1]), (24, .box 1 [.int .i64 0, .nilsl]), (4024, .box 1 [.int .i64 0, .nilsl]), (4036, .arr 1 (.slice (.named 1)) (rows : List (List Val)))]⟩ ?_
  refine AW.seq (AW.r1 hC2 [0, 1, 4, 1006, 2000, 2001, 2006] [0, 24, 4024, 4036, 8016] ⟨[(0, .int .i64 width), (1, .arr 4036 1), (4, .ref 8016 1 0), (1006, .ref 4024 1 0), (2000, .ref 0 0 0), (2001, .int .i64 width), (2006, .ref 24 1 0)], [(0, .box 0 [.data (.slice (.int .u8)) (r0 : List Int), .int .i64 r1]), (24, .box 1 [.int .i64 0, .nilsl]), (4024, .box 1 [.int .i64 0, .nilsl]), (4036, .arr 1 (.slice (.named 1)) (rows : List (List Val))), (8016, .box 1 [.int .i64 0, .nilsl])]⟩ ?_)
  refine AW.seq (AW.r1 hC2 [1, 4, 5, 1006, 2000, 2001, 2006] [0, 24, 4024, 4036, 8016, 8020] ⟨[(1, .arr 4036 1), (4, .ref 8016 1 0), (5, .ref 8020 1 0), (1006, .ref 4024 1 0), (2000, .ref 0 0 0), (2001, .int .i64 width), (2006, .ref 24 1 0)], [(0, .box 0 [.data (.slice (.int .u8)) (r0 : List Int), .int .i64 r1]), (24, .box 1 [.int .i64 0, .nilsl]), (4024, .box 1 [.int .i64 0, .nilsl]), (4036, .arr 1 (.slice (.named 1)) (rows : List (List Val))), (8016, .box 1 [.int .i64 0, .nilsl]), (8020, .box 1 [.int .i64 width, .nilsl])]⟩ ?_)
  refine AW.seq (AW.seq (AW.r1 hC2 [1, 4, 5, 11, 1006, 2000, 2001, 2006] [0, 24, 4024, 4036, 8016, 8020] ⟨[(1, .arr 4036 1), (4, .ref 8016 1 0), (5, .ref 8020 1 0), (11, .bool (decide (400 < ((List.length rows : Nat) : Int)))), (1006, .ref 4024 1 0), (2000, .ref 0 0 0), (2001, .int .i64 width), (2006, .ref 24 1 0)], [(0, .box 0 [.data (.slice (.int .u8)) (r0 : List Int), .int .i64 r1]), (24, .box 1 [.int .i64 0, .nilsl]), (4024, .box 1 [.int .i64 0, .nilsl]), (4036, .arr 1 (.slice (.named 1)) (rows : List (List Val))), (8016, .box 1 [.int .i64 0, .nilsl]), (8020, .box 1 [.int .i64 width, .nilsl])]⟩ ?_))
  refine AW.cd (decide (400 < ((List.length rows : Nat) : Int))) ?_ ?_
  ·
   intro h64
   have h64q : 400 < ((List.length rows : Nat) : Int) := (of_decide_eq_true h64)
   exfalso
   omega
  ·
   intro h65
   have h65q : ¬ (400 < ((List.length rows : Nat) : Int)) := (of_decide_eq_false h65)
   refine AW.kp [1, 4, 5, 1006, 2000, 2001, 2006] [0, 24, 4024, 4036, 8016, 8020] ⟨[(1, .arr 4036 1), (4, .ref 8016 1 0), (5, .ref 8020 1 0), (1006, .ref 4024 1 0), (2000, .ref 0 0 0), (2001, .int .i64 width), (2006, .ref 24 1 0)], [(0, .box 0 [.data (.slice (.int .u8)) (r0 : List Int), .int .i64 r1]), (24, .box 1 [.int .i64 0, .nilsl]), (4024, .box 1 [.int .i64 0, .nilsl]), (4036, .arr 1 (.slice (.named 1)) (rows : List (List Val))), (8016, .box 1 [.int .i64 0, .nilsl]), (8020, .box 1 [.int .i64 width, .nilsl])]⟩ ?_
   refine AW.skip (AW.seq (AW.seq (AW.r1 hC2 [1, 4, 5, 6, 1006, 2000, 2001, 2006] [0, 24, 4024, 4036, 8016, 8020] ⟨[(1, .arr 4036 1), (4, .ref 8016 1 0), (5, .ref 8020 1 0), (6, .int .i64 0), (1006, .ref 4024 1 0), (2000, .ref 0 0 0), (2001, .int .i64 width), (2006, .ref 24 1 0)], [(0, .box 0 [.data (.slice (.int .u8)) (r0 : List Int), .int .i64 r1]), (24, .box 1 [.int .i64 0, .nilsl]), (4024, .box 1 [.int .i64 0, .nilsl]), (4036, .arr 1 (.slice (.named 1)) (rows : List (List Val))), (8016, .box 1 [.int .i64 0, .nilsl]), (8020, .box 1 [.int .i64 width, .nilsl])]⟩ ?_)))
   refine AW.adoptB 8020 1 1 8103 [.int .i64 width, .nilsl] (.slice (.named 1)) (by kernel_rfl) (by kernel_rfl) (by kernel_rfl) ?_
   refine AW.kp [1, 4, 5, 6, 1006, 2000, 2001, 2006] [0, 24, 4024, 4036, 8016, 8020, 8103] ⟨[(1, .arr 4036 1), (4, .ref 8016 1 0), (5, .ref 8020 1 0), (6, .int .i64 0), (1006, .ref 4024 1 0), (2000, .ref 0 0 0), (2001, .int .i64 width), (2006, .ref 24 1 0)], [(0, .box 0 [.data (.slice (.int .u8)) (r0 : List Int), .int .i64 r1]), (24, .box 1 [.int .i64 0, .nilsl]), (4024, .box 1 [.int .i64 0, .nilsl]), (4036, .arr 1 (.slice (.named 1)) (rows : List (List Val))), (8016, .box 1 [.int .i64 0, .nilsl]), (8020, .box 1 [.int .i64 width, .arr 8103 1]), (8103, .arr 1 (.slice (.named 1)) (([] : List (List Val)) : List (List Val)))]⟩ ?_
   refine AW.cutQ (α := (List (List Val))) (fun x => ⟨[(4, .ref 8016 1 0), (5, .ref 8020 1 0), (1006, .ref 4024 1 0), (2000, .ref 0 0 0), (2001, .int .i64 width), (2006, .ref 24 1 0)], [(0, .box 0 [.data (.slice (.int .u8)) (r0 : List Int), .int .i64 r1]), (24, .box 1 [.int .i64 0, .nilsl]), (4024, .box 1 [.int .i64 0, .nilsl]), (8016, .box 1 [.int .i64 0, .nilsl]), (8020, .box 1 [.int .i64 width, .arr 8103 1]), (8103, .arr 1 (.slice (.named 1)) (x : List (List Val)))]⟩) (fun x => (List.length x ≤ 400 ∧ RB x) ∧ (anyTable_l1 rows ((List.length rows) - 0 + 1) 0 ([] : List (List Val))) = x) ?_ ?_
   ·
    skip
    refine AW.block (AW.loopR (α := Nat × (List (List Val))) (fun x => ⟨[(1, .arr 4036 1), (4, .ref 8016 1 0), (5, .ref 8020 1 0), (6, .int .i64 ((x.1 : Nat) : Int)), (1006, .ref 4024 1 0), (2000, .ref 0 0 0), (2001, .int .i64 width), (2006, .ref 24 1 0)], [(0, .box 0 [.data (.slice (.int .u8)) (r0 : List Int), .int .i64 r1]), (24, .box 1 [.int .i64 0, .nilsl]), (4024, .box 1 [.int .i64 0, .nilsl]), (4036, .arr 1 (.slice (.named 1)) (rows : List (List Val))), (8016, .box 1 [.int .i64 0, .nilsl]), (8020, .box 1 [.int .i64 width, .arr 8103 1]), (8103, .arr 1 (.slice (.named 1)) (x.2 : List (List Val)))]⟩) (fun x => ((List.length x.2 = x.1 ∧ x.1 ≤ 400) ∧ RB x.2) ∧ ∃ k, (List.length rows) - x.1 < k ∧ (anyTable_l1 rows ((List.length rows) - 0 + 1) 0 ([] : List (List Val))) = anyTable_l1 rows k x.1 x.2) (fun x => (List.length rows) - x.1) (0, ([] : List (List Val))) (by kernel_rfl) ⟨?_, _, Nat.lt_succ_self _, rfl⟩ ?_)
    ·
     show (List.length ([] : List (List Val)) = 0 ∧ 0 ≤ 400) ∧ RB ([] : List (List Val))
     exact ⟨⟨rfl, by omega⟩, RB.nil⟩
    ·
     intro x hR
     obtain ⟨i, ar8103⟩ := x
     obtain ⟨hI1, k68, hk66, e67⟩ := hR
     replace hI1 : (List.length ar8103 = i ∧ i ≤ 400) ∧ RB ar8103 := hI1
     replace hk66 : (List.length rows) - i < k68 := hk66
     obtain ⟨k68q, rfl⟩ : ∃ k, k68 = k + 1 := ⟨k68 - 1, by omega⟩
     refine AW.seq (AW.seq (AW.r1 hC2 [1, 4, 5, 6, 16, 1006, 2000, 2001, 2006] [0, 24, 4024, 4036, 8016, 8020, 8103] ⟨[(1, .arr 4036 1), (4, .ref 8016 1 0), (5, .ref 8020 1 0), (6, .int .i64 ((i : Nat) : Int)), (16, .bool (decide (((i : Nat) : Int) < ((List.length rows : Nat) : Int)))), (1006, .ref 4024 1 0), (2000, .ref 0 0 0), (2001, .int .i64 width), (2006, .ref 24 1 0)], [(0, .box 0 [.data (.slice (.int .u8)) (r0 : List Int), .int .i64 r1]), (24, .box 1 [.int .i64 0, .nilsl]), (4024, .box 1 [.int .i64 0, .nilsl]), (4036, .arr 1 (.slice (.named 1)) (rows : List (List Val))), (8016, .box 1 [.int .i64 0, .nilsl]), (8020, .box 1 [.int .i64 width, .arr 8103 1]), (8103, .arr 1 (.slice (.named 1)) (ar8103 : List (List Val)))]⟩ ?_))
     refine AW.cd (decide (((i : Nat) : Int) < ((List.length rows : Nat) : Int))) ?_ ?_
     ·
      intro h69
      have h69q : ((i : Nat) : Int) < ((List.length rows : Nat) : Int) := (of_decide_eq_true h69)
      have e70 := e67.trans (Go.Am.bif_t h69)
      refine AW.kp [1, 4, 5, 6, 1006, 2000, 2001, 2006] [0, 24, 4024, 4036, 8016, 8020, 8103] ⟨[(1, .arr 4036 1), (4, .ref 8016 1 0), (5, .ref 8020 1 0), (6, .int .i64 ((i : Nat) : Int)), (1006, .ref 4024 1 0), (2000, .ref 0 0 0), (2001, .int .i64 width), (2006, .ref 24 1 0)], [(0, .box 0 [.data (.slice (.int .u8)) (r0 : List Int), .int .i64 r1]), (24, .box 1 [.int .i64 0, .nilsl]), (4024, .box 1 [.int .i64 0, .nilsl]), (4036, .arr 1 (.slice (.named 1)) (rows : List (List Val))), (8016, .box 1 [.int .i64 0, .nilsl]), (8020, .box 1 [.int .i64 width, .arr 8103 1]), (8103, .arr 1 (.slice (.named 1)) (ar8103 : List (List Val)))]⟩ ?_
      refine AW.skip (AW.seq (AW.block (AW.d0 hC2 hM [1, 4, 5, 6, 1006, 2000, 2001, 2006] [0, 24, 4024, 4036, 8016, 8020, 8100] ⟨[(1, .arr 4036 1), (4, .ref 8016 1 0), (5, .ref 8020 1 0), (6, .int .i64 ((i : Nat) : Int)), (1006, .ref 4024 1 0), (2000, .ref 0 0 0), (2001, .int .i64 width), (2006, .ref 24 1 0)], [(0, .box 0 [.data (.slice (.int .u8)) (r0 : List Int), .int .i64 r1]), (24, .box 1 [.int .i64 0, .nilsl]), (4024, .box 1 [.int .i64 0, .nilsl]), (4036, .arr 1 (.slice (.named 1)) (rows : List (List Val))), (8016, .box 1 [.int .i64 0, .nilsl]), (8020, .box 1 [.int .i64 width, .arr 8100 1]), (8100, .arr 1 (.slice (.named 1)) ((insertRow ar8103 (List.getD rows i [])) : List (List Val)))]⟩ [(0 ≤ ((i : Nat) : Int) ∧ ((i : Nat) : Int) < ((List.length rows : Nat) : Int)), ((List.length ar8103 : Int) ≤ 1048576 ∧ (List.length (List.getD rows i []) : Int) ≤ 1048576)] ?_ ?_)))
      ·
       refine ⟨?_, ?_, trivial⟩
       ·
        omega
       ·
        exact ⟨by omega, hJ0.1.1 i (by omega)⟩
      refine AW.r0 hC2 [1, 4, 5, 6, 1006, 2000, 2001, 2006] [0, 24, 4024, 4036, 8016, 8020, 8100] ⟨[(1, .arr 4036 1), (4, .ref 8016 1 0), (5, .ref 8020 1 0), (6, .int .i64 ((i + 1 : Nat) : Int)), (1006, .ref 4024 1 0), (2000, .ref 0 0 0), (2001, .int .i64 width), (2006, .ref 24 1 0)], [(0, .box 0 [.data (.slice (.int .u8)) (r0 : List Int), .int .i64 r1]), (24, .box 1 [.int .i64 0, .nilsl]), (4024, .box 1 [.int .i64 0, .nilsl]), (4036, .arr 1 (.slice (.named 1)) (rows : List (List Val))), (8016, .box 1 [.int .i64 0, .nilsl]), (8020, .box 1 [.int .i64 width, .arr 8100 1]), (8100, .arr 1 (.slice (.named 1)) ((insertRow ar8103 (List.getD rows i [])) : List (List Val)))]⟩ [(-9223372036854775808 ≤ ((i + 1 : Nat) : Int) ∧ ((i + 1 : Nat) : Int) ≤ 9223372036854775807)] ?_ ?_
      ·
       refine ⟨?_, trivial⟩
       ·
        omega
      refine AW.backR (x := (i, ar8103)) (i + 1, (insertRow ar8103 (List.getD rows i []))) (Turn.of [1, 4, 5, 6, 1006, 2000, 2001, 2006] [0, 24, 4024, 4036, 8016, 8020, 8100] [(8100, 8103)] [1, 4, 5, 6, 1006, 2000, 2001, 2006] [0, 24, 4024, 4036, 8016, 8020, 8103] (by kernel_rfl)) ⟨?_, k68q, ?_, e70⟩ ?_
      ·
       show (List.length (insertRow ar8103 (List.getD rows i [])) = (i + 1) ∧ (i + 1) ≤ 400) ∧ RB (insertRow ar8103 (List.getD rows i []))
       rw [insertRow_len]
       exact ⟨by omega, hI1.2.insert (hJ0.1.1 i (by omega))⟩
      ·
       show (List.length rows) - (i + 1) < k68q
       omega
      ·
       show (List.length rows) - (i + 1) < (List.length rows) - i
       omega
     ·
      intro h71
      have h71q : ¬ (((i : Nat) : Int) < ((List.length rows : Nat) : Int)) := (of_decide_eq_false h71)
      have e72 := e67.trans (Go.Am.bif_f h71)
      refine AW.kp [4, 5, 1006, 2000, 2001, 2006] [0, 24, 4024, 8016, 8020, 8103] ⟨[(4, .ref 8016 1 0), (5, .ref 8020 1 0), (1006, .ref 4024 1 0), (2000, .ref 0 0 0), (2001, .int .i64 width), (2006, .ref 24 1 0)], [(0, .box 0 [.data (.slice (.int .u8)) (r0 : List Int), .int .i64 r1]), (24, .box 1 [.int .i64 0, .nilsl]), (4024, .box 1 [.int .i64 0, .nilsl]), (8016, .box 1 [.int .i64 0, .nilsl]), (8020, .box 1 [.int .i64 width, .arr 8103 1]), (8103, .arr 1 (.slice (.named 1)) (ar8103 : List (List Val)))]⟩ ?_
      refine AW.exit ?_
      refine AW.meet ar8103 (by kernel_rfl) ⟨?_, e72⟩
      show List.length ar8103 ≤ 400 ∧ RB ar8103
      exact ⟨by omega, hI1.2⟩
   ·
    intro ar8103 hR
    obtain ⟨hJ1, e73⟩ := hR
    replace hJ1 : List.length ar8103 ≤ 400 ∧ RB ar8103 := hJ1
    have e74 := e56.trans (Go.Am.then_eq e73)
    refine AW.seq (AW.r1 hC2 [4, 1006, 2000, 2001, 2006] [0, 24, 4024, 8016, 8103] ⟨[(4, .ref 8016 1 0), (1006, .ref 4024 1 0), (2000, .ref 0 0 0), (2001, .int .i64 width), (2006, .ref 24 1 0)], [(0, .box 0 [.data (.slice (.int .u8)) (r0 : List Int), .int .i64 r1]), (24, .box 1 [.int .i64 0, .nilsl]), (4024, .box 1 [.int .i64 0, .nilsl]), (8016, .box 1 [.int .i64 width, .arr 8103 1]), (8103, .arr 1 (.slice (.named 1)) (ar8103 : List (List Val)))]⟩ ?_)
    refine AW.ret ?_
    refine ⟨[.agg [.int .i64 width, .arr 8103 1]], by kernel_rfl, ?_⟩
    refine AWO.keep [6, 26, 1000, 1001, 1006] [0, 24, 4024, 8103] ⟨[(6, .ref 4024 1 0), (26, .agg [.int .i64 width, .arr 8103 1]), (1000, .ref 0 0 0), (1001, .int .i64 width), (1006, .ref 24 1 0)], [(0, .box 0 [.data (.slice (.int .u8)) (r0 : List Int), .int .i64 r1]), (24, .box 1 [.int .i64 0, .nilsl]), (4024, .box 1 [.int .i64 0, .nilsl]), (8103, .arr 1 (.slice (.named 1)) (ar8103 : List (List Val)))]⟩ (by kernel_rfl) ?_
    refine AWO.run hC1 false [] [3] [] [6, 1000, 1001, 1006] [0, 24, 4024, 8103]
     ⟨[(6, .ref 4024 1 0), (1000, .ref 0 0 0), (1001, .int .i64 width), (1006, .ref 24 1 0)], [(0, .box 0 [.data (.slice (.int .u8)) (r0 : List Int), .int .i64 r1]), (24, .box 1 [.int .i64 0, .nilsl]), (4024, .box 1 [.int .i64 width, .arr 8103 1]), (8103, .arr 1 (.slice (.named 1)) (ar8103 : List (List Val)))]⟩
     [] (by rfl) (by kernel_rfl) ?_ ?_
    ·
     exact trivial
    refine AWO.nil ?_
    refine AW.ret ?_
    refine ⟨[.agg [.int .i64 width, .arr 8103 1]], by kernel_rfl, ?_⟩
    refine AWO.keep [0, 1, 6, 11] [0, 24, 8103] ⟨[(0, .ref 0 0 0), (1, .int .i64 width), (6, .ref 24 1 0), (11, .agg [.int .i64 width, .arr 8103 1])], [(0, .box 0 [.data (.slice (.int .u8)) (r0 : List Int), .int .i64 r1]), (24, .box 1 [.int .i64 0, .nilsl]), (8103, .arr 1 (.slice (.named 1)) (ar8103 : List (List Val)))]⟩ (by kernel_rfl) ?_
    refine AWO.run hC false [] [4, 5] [] [0, 1, 6, 7] [0, 24, 28, 8103]
     ⟨[(0, .ref 0 0 0), (1, .int .i64 width), (6, .ref 24 1 0), (7, .ref 28 1 0)], [(0, .box 0 [.data (.slice (.int .u8)) (r0 : List Int), .int .i64 r1]), (24, .box 1 [.int .i64 0, .nilsl]), (28, .box 1 [.int .i64 width, .arr 8103 1]), (8103, .arr 1 (.slice (.named 1)) (ar8103 : List (List Val)))]⟩
     [] (by rfl) (by kernel_rfl) ?_ ?_
    ·
     exact trivial
    refine AWO.nil ?_
    refine AW.seq (AW.seq (AW.r0 hC [0, 1, 6, 7, 13] [0, 24, 28, 8103] ⟨[(0, .ref 0 0 0), (1, .int .i64 width), (6, .ref 24 1 0), (7, .ref 28 1 0), (13, .int .i64 (pick r0 r1 20))], [(0, .box 0 [.data (.slice (.int .u8)) (r0 : List Int), .int .i64 (r1 + 1)]), (24, .box 1 [.int .i64 0, .nilsl]), (28, .box 1 [.int .i64 width, .arr 8103 1]), (8103, .arr 1 (.slice (.named 1)) (ar8103 : List (List Val)))]⟩ [(0 ≤ (Rdr.mk r0 r1).p ∧ (Rdr.mk r0 r1).p ≤ 1099511627776)] ?_ ?_))
    ·
     refine ⟨?_, trivial⟩
     ·
      dsimp only; omega
    refine AW.block (AW.seq (AW.r1 hC [0, 1, 6, 7, 13, 14] [0, 24, 28, 8103] ⟨[(0, .ref 0 0 0), (1, .int .i64 width), (6, .ref 24 1 0), (7, .ref 28 1 0), (13, .int .i64 (pick r0 r1 20)), (14, .bool ((pick r0 r1 20) == 0))], [(0, .box 0 [.data (.slice (.int .u8)) (r0 : List Int), .int .i64 (r1 + 1)]), (24, .box 1 [.int .i64 0, .nilsl]), (28, .box 1 [.int .i64 width, .arr 8103 1]), (8103, .arr 1 (.slice (.named 1)) (ar8103 : List (List Val)))]⟩ ?_))
    refine AW.cd ((pick r0 r1 20) == 0) ?_ ?_
    ·
     intro h75
     have h75q : (pick r0 r1 20) = 0 := (Go.Am.beq_pos h75)
     have e76 := e74.trans (Go.Am.bif_t h75)
     refine AW.r0 hC [6, 7] [0, 24, 28, 8103] ⟨[(6, .ref 24 1 0), (7, .ref 28 1 0)], [(0, .box 0 [.data (.slice (.int .u8)) (r0 : List Int), .int .i64 ((r1 + 1) + 1)]), (24, .box 1 [.int .i64 0, .nilsl]), (28, .box 1 [.int .i64 (one r0 (r1 + 1) ([0, 7, 2] : List Int)), .arr 8103 1]), (8103, .arr 1 (.slice (.named 1)) (ar8103 : List (List Val)))]⟩ [((0 ≤ (Rdr.mk r0 (r1 + 1)).p ∧ (Rdr.mk r0 (r1 + 1)).p ≤ 1099511627775) ∧ 1 ≤ (List.length ([0, 7, 2] : List Int) : Int))] ?_ ?_
     ·
      refine ⟨?_, trivial⟩
      ·
       simp only [lens] at *; omega
     refine AW.seq (AW.r1 hC [6] [0, 24, 8103] ⟨[(6, .ref 24 1 0)], [(0, .box 0 [.data (.slice (.int .u8)) (r0 : List Int), .int .i64 ((r1 + 1) + 1)]), (24, .box 1 [.int .i64 (one r0 (r1 + 1) ([0, 7, 2] : List Int)), .arr 8103 1]), (8103, .arr 1 (.slice (.named 1)) (ar8103 : List (List Val)))]⟩ ?_)
     exact AW.ret (AW.retE (β := Tab × Rdr) (fun v => [⟨(.named 2), v.1⟩]) (fun v => [⟨(.named 3), v.2⟩]) (v := ((Tab.mk (one r0 (r1 + 1) ([0, 7, 2] : List Int)) ar8103), (Rdr.mk r0 ((r1 + 1) + 1)))) e76 (by kernel_rfl) rfl rfl)
    ·
     intro h77
     have h77q : (pick r0 r1 20) ≠ 0 := (Go.Am.beq_neg h77)
     have e78 := e74.trans (Go.Am.bif_f h77)
     refine AW.seq (AW.r1 hC [0, 1, 6, 7, 13, 20] [0, 24, 28, 8103] ⟨[(0, .ref 0 0 0), (1, .int .i64 width), (6, .ref 24 1 0), (7, .ref 28 1 0), (13, .int .i64 (pick r0 r1 20)), (20, .bool ((pick r0 r1 20) == 1))], [(0, .box 0 [.data (.slice (.int .u8)) (r0 : List Int), .int .i64 (r1 + 1)]), (24, .box 1 [.int .i64 0, .nilsl]), (28, .box 1 [.int .i64 width, .arr 8103 1]), (8103, .arr 1 (.slice (.named 1)) (ar8103 : List (List Val)))]⟩ ?_)
     refine AW.cd ((pick r0 r1 20) == 1) ?_ ?_
     ·
      intro h79
      have h79q : (pick r0 r1 20) = 1 := (Go.Am.beq_pos h79)
      have e80 := e78.trans (Go.Am.bif_t h79)
      refine AW.seq (AW.r1 hC [6, 7, 25] [0, 24, 28, 8103] ⟨[(6, .ref 24 1 0), (7, .ref 28 1 0), (25, .bool (decide (0 < ((List.length ar8103 : Nat) : Int))))], [(0, .box 0 [.data (.slice (.int .u8)) (r0 : List Int), .int .i64 (r1 + 1)]), (24, .box 1 [.int .i64 0, .nilsl]), (28, .box 1 [.int .i64 width, .arr 8103 1]), (8103, .arr 1 (.slice (.named 1)) (ar8103 : List (List Val)))]⟩ ?_)
      refine AW.cd (decide (0 < ((List.length ar8103 : Nat) : Int))) ?_ ?_
      ·
       intro h81
       have h81q : 0 < ((List.length ar8103 : Nat) : Int) := (of_decide_eq_true h81)
       have e82 := e80.trans (Go.Am.bif_t h81)
       refine AW.d0 hC hM [6, 7] [0, 24, 28, 8103] ⟨[(6, .ref 24 1 0), (7, .ref 28 1 0)], [(0, .box 0 [.data (.slice (.int .u8)) (r0 : List Int), .int .i64 (r1 + 1)]), (24, .box 1 [.int .i64 0, .nilsl]), (28, .box 1 [.int .i64 width, .arr 8103 1]), (8103, .arr 1 (.slice (.named 1)) ((ar8103 ++ ([(copyRow (List.getD ar8103 0 []))] : List (List Val))) : List (List Val)))]⟩ [(0 ≤ (0 : Int) ∧ (0 : Int) < ((List.length ar8103 : Nat) : Int)), ((List.length (List.getD ar8103 0 []) : Int) ≤ 1048576), (((List.length ar8103 : Nat) : Int) + ((List.length ([(copyRow (List.getD ar8103 0 []))] : List (List Val)) : Nat) : Int) ≤ 4294967296)] ?_ ?_
       ·
        refine ⟨?_, ?_, ?_, trivial⟩
        ·
         omega
        ·
         have := hJ1.2 0 (by omega)
         omega
        ·
         simp only [lens] at *; omega
       refine AW.seq (AW.r1 hC [6] [0, 24, 8103] ⟨[(6, .ref 24 1 0)], [(0, .box 0 [.data (.slice (.int .u8)) (r0 : List Int), .int .i64 (r1 + 1)]), (24, .box 1 [.int .i64 width, .arr 8103 1]), (8103, .arr 1 (.slice (.named 1)) ((ar8103 ++ ([(copyRow (List.getD ar8103 0 []))] : List (List Val))) : List (List Val)))]⟩ ?_)
       exact AW.ret (AW.retE (β := Tab × Rdr) (fun v => [⟨(.named 2), v.1⟩]) (fun v => [⟨(.named 3), v.2⟩]) (v := ((Tab.mk width (ar8103 ++ ([(copyRow (List.getD ar8103 0 []))] : List (List Val)))), (Rdr.mk r0 (r1 + 1)))) e82 (by kernel_rfl) rfl rfl)
      ·
       intro h83
       have h83q : ¬ (0 < ((List.length ar8103 : Nat) : Int)) := (of_decide_eq_false h83)
       have e84 := e80.trans (Go.Am.bif_f h83)
       refine AW.kp [6, 7] [0, 24, 28, 8103] ⟨[(6, .ref 24 1 0), (7, .ref 28 1 0)], [(0, .box 0 [.data (.slice (.int .u8)) (r0 : List Int), .int .i64 (r1 + 1)]), (24, .box 1 [.int .i64 0, .nilsl]), (28, .box 1 [.int .i64 width, .arr 8103 1]), (8103, .arr 1 (.slice (.named 1)) (ar8103 : List (List Val)))]⟩ ?_
       refine AW.skip (AW.seq (AW.r1 hC [6] [0, 24, 8103] ⟨[(6, .ref 24 1 0)], [(0, .box 0 [.data (.slice (.int .u8)) (r0 : List Int), .int .i64 (r1 + 1)]), (24, .box 1 [.int .i64 width, .arr 8103 1]), (8103, .arr 1 (.slice (.named 1)) (ar8103 : List (List Val)))]⟩ ?_))
       exact AW.ret (AW.retE (β := Tab × Rdr) (fun v => [⟨(.named 2), v.1⟩]) (fun v => [⟨(.named 3), v.2⟩]) (v := ((Tab.mk width ar8103), (Rdr.mk r0 (r1 + 1)))) e84 (by kernel_rfl) rfl rfl)
     ·
      intro h85
      have h85q : (pick r0 r1 20) ≠ 1 := (Go.Am.beq_neg h85)
      have e86 := e78.trans (Go.Am.bif_f h85)
      refine AW.seq (AW.r1 hC [0, 1, 6, 7, 36] [0, 24, 28, 8103] ⟨[(0, .ref 0 0 0), (1, .int .i64 width), (6, .ref 24 1 0), (7, .ref 28 1 0), (36, .bool ((pick r0 r1 20) == 2))], [(0, .box 0 [.data (.slice (.int .u8)) (r0 : List Int), .int .i64 (r1 + 1)]), (24, .box 1 [.int .i64 0, .nilsl]), (28, .box 1 [.int .i64 width, .arr 8103 1]), (8103, .arr 1 (.slice (.named 1)) (ar8103 : List (List Val)))]⟩ ?_)
      refine AW.cd ((pick r0 r1 20) == 2) ?_ ?_
      ·
       intro h87
       have h87q : (pick r0 r1 20) = 2 := (Go.Am.beq_pos h87)
       have e88 := e86.trans (Go.Am.bif_t h87)
       refine AW.seq (AW.r1 hC [0, 1, 6, 7, 41] [0, 24, 28, 8103] ⟨[(0, .ref 0 0 0), (1, .int .i64 width), (6, .ref 24 1 0), (7, .ref 28 1 0), (41, .bool (decide (0 < ((List.length ar8103 : Nat) : Int))))], [(0, .box 0 [.data (.slice (.int .u8)) (r0 : List Int), .int .i64 (r1 + 1)]), (24, .box 1 [.int .i64 0, .nilsl]), (28, .box 1 [.int .i64 width, .arr 8103 1]), (8103, .arr 1 (.slice (.named 1)) (ar8103 : List (List Val)))]⟩ ?_)
       refine AW.cd (decide (0 < ((List.length ar8103 : Nat) : Int))) ?_ ?_
       ·
        intro h89
        have h89q : 0 < ((List.length ar8103 : Nat) : Int) := (of_decide_eq_true h89)
        have e90 := e88.trans (Go.Am.bif_t h89)
        refine AW.d0 hC hM [6, 7] [0, 24, 28, 8103] ⟨[(6, .ref 24 1 0), (7, .ref 28 1 0)], [(0, .box 0 [.data (.slice (.int .u8)) ((Rdr.b ((anyRow (Rdr.mk r0 (r1 + 1)) width).2)) : List Int), .int .i64 (Rdr.p ((anyRow (Rdr.mk r0 (r1 + 1)) width).2))]), (24, .box 1 [.int .i64 0, .nilsl]), (28, .box 1 [.int .i64 width, .arr 8103 1]), (8103, .arr 1 (.slice (.named 1)) ((List.set ar8103 0 ((anyRow (Rdr.mk r0 (r1 + 1)) width).1)) : List (List Val)))]⟩ [((0 ≤ (Rdr.mk r0 (r1 + 1)).p ∧ (Rdr.mk r0 (r1 + 1)).p ≤ 1000000090000) ∧ 1 ≤ width ∧ width ≤ 6), (0 ≤ (0 : Int) ∧ (0 : Int) < ((List.length ar8103 : Nat) : Int))] ?_ ?_
        ·
         refine ⟨?_, ?_, trivial⟩
         ·
          dsimp only; omega
         ·
          omega
        refine AW.seq (AW.r1 hC [6] [0, 24, 8103] ⟨[(6, .ref 24 1 0)], [(0, .box 0 [.data (.slice (.int .u8)) ((Rdr.b ((anyRow (Rdr.mk r0 (r1 + 1)) width).2)) : List Int), .int .i64 (Rdr.p ((anyRow (Rdr.mk r0 (r1 + 1)) width).2))]), (24, .box 1 [.int .i64 width, .arr 8103 1]), (8103, .arr 1 (.slice (.named 1)) ((List.set ar8103 0 ((anyRow (Rdr.mk r0 (r1 + 1)) width).1)) : List (List Val)))]⟩ ?_)
        exact AW.ret (AW.retE (β := Tab × Rdr) (fun v => [⟨(.named 2), v.1⟩]) (fun v => [⟨(.named 3), v.2⟩]) (v := ((Tab.mk width (List.set ar8103 0 ((anyRow (Rdr.mk r0 (r1 + 1)) width).1))), ((anyRow (Rdr.mk r0 (r1 + 1)) width).2))) e90 (by kernel_rfl) rfl rfl)
       ·
        intro h91
        have h91q : ¬ (0 < ((List.length ar8103 : Nat) : Int)) := (of_decide_eq_false h91)
        have e92 := e88.trans (Go.Am.bif_f h91)
        refine AW.kp [6, 7] [0, 24, 28, 8103] ⟨[(6, .ref 24 1 0), (7, .ref 28 1 0)], [(0, .box 0 [.data (.slice (.int .u8)) (r0 : List Int), .int .i64 (r1 + 1)]), (24, .box 1 [.int .i64 0, .nilsl]), (28, .box 1 [.int .i64 width, .arr 8103 1]), (8103, .arr 1 (.slice (.named 1)) (ar8103 : List (List Val)))]⟩ ?_
        refine AW.skip (AW.seq (AW.r1 hC [6] [0, 24, 8103] ⟨[(6, .ref 24 1 0)], [(0, .box 0 [.data (.slice (.int .u8)) (r0 : List Int), .int .i64 (r1 + 1)]), (24, .box 1 [.int .i64 width, .arr 8103 1]), (8103, .arr 1 (.slice (.named 1)) (ar8103 : List (List Val)))]⟩ ?_))
        exact AW.ret (AW.retE (β := Tab × Rdr) (fun v => [⟨(.named 2), v.1⟩]) (fun v => [⟨(.named 3), v.2⟩]) (v := ((Tab.mk width ar8103), (Rdr.mk r0 (r1 + 1)))) e92 (by kernel_rfl) rfl rfl)
      ·
       intro h93
       have h93q : (pick r0 r1 20) ≠ 2 := (Go.Am.beq_neg h93)
       have e94 := e86.trans (Go.Am.bif_f h93)
       refine AW.kp [6, 7] [0, 24, 28, 8103] ⟨[(6, .ref 24 1 0), (7, .ref 28 1 0)], [(0, .box 0 [.data (.slice (.int .u8)) (r0 : List Int), .int .i64 (r1 + 1)]), (24, .box 1 [.int .i64 0, .nilsl]), (28, .box 1 [.int .i64 width, .arr 8103 1]), (8103, .arr 1 (.slice (.named 1)) (ar8103 : List (List Val)))]⟩ ?_
       refine AW.skip (AW.seq (AW.r1 hC [6] [0, 24, 8103] ⟨[(6, .ref 24 1 0)], [(0, .box 0 [.data (.slice (.int .u8)) (r0 : List Int), .int .i64 (r1 + 1)]), (24, .box 1 [.int .i64 width, .arr 8103 1]), (8103, .arr 1 (.slice (.named 1)) (ar8103 : List (List Val)))]⟩ ?_))
       exact AW.ret (AW.retE (β := Tab × Rdr) (fun v => [⟨(.named 2), v.1⟩]) (fun v => [⟨(.named 3), v.2⟩]) (v := ((Tab.mk width ar8103), (Rdr.mk r0 (r1 + 1)))) e94 (by kernel_rfl) rfl rfl)

end
end Go.Proofs.Ytjcjpeckfikfkaa
