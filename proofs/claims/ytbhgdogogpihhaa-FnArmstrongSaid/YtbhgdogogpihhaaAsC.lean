/-
  A part of the proof of this claim (AsC): what functions of the program compute, and plain facts of that. No conditions.
-/
import Derived.Test.YtbhgdogogpihhaaAsB
set_option linter.all false
namespace Go.Proofs.Ytbhgdogogpihhaa
open Go Go.Am
noncomputable section

theorem pow32 {w : Int} (h : w ≤ 6) (h0 : 0 ≤ w) : (1 : Int) ≤ 1 * 2 ^ w.toNat ∧ (1 : Int) * 2 ^ w.toNat ≤ 64 := by
 have := pow64 h h0
 omega

def someSet (r : Rdr) (width : Int) : Int × Rdr := (bif ((pick (Rdr.b r) (Rdr.p r) 16) == 0) then ((one (Rdr.b r) ((Rdr.p r) + 1) ([(-1), 64] : List Int)), (Rdr.mk (Rdr.b r) (((Rdr.p r) + 1) + 1))) else ((pick (Rdr.b r) ((Rdr.p r) + 1) ((1 : Int) * 2 ^ (Int.toNat (if 6 < (if 0 > width then 0 else width) then 6 else (if 0 > width then 0 else width))))), (Rdr.mk (Rdr.b r) (((Rdr.p r) + 1) + 1))))

def someSet_sp : FnSpec := mkSpecB [.box 3, .val (.int .i64)] [.val (.int .i64)] (fun (r : Rdr) (width : Int) => 0 ≤ r.p ∧ r.p ≤ 1000000100000) (fun (r : Rdr) (width : Int) => [⟨(.int .i64), ((someSet r width).1)⟩]) (fun (r : Rdr) (width : Int) => [⟨(.named 3), ((someSet r width).2)⟩])

theorem someSet_ok : FnOK Try.prog 53 someSet_sp := by
 have hC : CtxOK Try.prog (mkCtx tyL [(62, pickS), (77, oneS)]) := CtxOK.cons pickS_ok (CtxOK.cons oneS_ok (CtxOK.nil tyOK))
 refine FnOK.of_body Try.func53 (by kernel_rfl) rfl (C := (mkCtx tyL [(62, pickS), (77, oneS)])) hC.ty (by kernel_rfl) ?_
 intro (r : Rdr) (width : Int) hwf hpre E
 have hpre : 0 ≤ r.p ∧ r.p ≤ 1000000100000 := hpre
 have hw_r : Wf ⟨(.named 3), (r : Rdr)⟩ := hwf _ (List.Mem.head _)
 have hl_r_b : ((List.length (Rdr.b r) : Nat) : Int) ≤ 9223372036854775807 := (hw_r.field (tv := ⟨(.slice (.int .u8)), Rdr.b r⟩) (List.Mem.head _)).len
 have hr_r_p : -9223372036854775808 ≤ Rdr.p r ∧ Rdr.p r ≤ 9223372036854775807 := (hw_r.field (tv := ⟨(.int .i64), Rdr.p r⟩) (List.Mem.tail _ (List.Mem.head _))).int_inv
 have hw_width : Wf ⟨(.int .i64), (width : Int)⟩ := hwf _ (List.Mem.tail _ (List.Mem.head _))
 have hr_width : -9223372036854775808 ≤ width ∧ width ≤ 9223372036854775807 := hw_width.int_inv
 have e0 : someSet r width = someSet r width := rfl
 refine AW.seq (AW.r1 hC [0, 1] [0] ⟨[(0, .ref 0 0 0), (1, .int .i64 width)], [(0, .box 0 [.data (.slice (.int .u8)) ((Rdr.b r) : List Int), .int .i64 (Rdr.p r)])]⟩ ?_)
 refine AW.seq (AW.seq (AW.r0 hC [0, 1, 7] [0] ⟨[(0, .ref 0 0 0), (1, .int .i64 width), (7, .bool ((pick (Rdr.b r) (Rdr.p r) 16) == 0))], [(0, .box 0 [.data (.slice (.int .u8)) ((Rdr.b r) : List Int), .int .i64 ((Rdr.p r) + 1)])]⟩ [(0 ≤ r.p ∧ r.p ≤ 1099511627776)] ?_ ?_))
 ·
  refine ⟨?_, trivial⟩
  ·
   first | omega | (dsimp only; omega) | (simp only [lens] at *; omega)
 refine AW.cd ((pick (Rdr.b r) (Rdr.p r) 16) == 0) ?_ ?_
 ·
  intro h1
  have h1q : (pick (Rdr.b r) (Rdr.p r) 16) = 0 := (Go.Am.beq_pos h1)
  have e2 := e0.trans (Go.Am.bif_t h1)
  refine AW.seq (AW.r0 hC [4] [0] ⟨[(4, .int .i64 (one (Rdr.b r) ((Rdr.p r) + 1) ([(-1), 64] : List Int)))], [(0, .box 0 [.data (.slice (.int .u8)) ((Rdr.b r) : List Int), .int .i64 (((Rdr.p r) + 1) + 1)])]⟩ [((0 ≤ (Rdr.mk (Rdr.b r) ((Rdr.p r) + 1)).p ∧ (Rdr.mk (Rdr.b r) ((Rdr.p r) + 1)).p ≤ 1099511627775) ∧ 1 ≤ (List.length ([(-1), 64] : List Int) : Int))] ?_ ?_)
  ·
   refine ⟨?_, trivial⟩
   ·
    refine ⟨?_, ?_⟩ <;> (try dsimp only) <;> first | omega | decide
  exact AW.ret (AW.retE (β := Int × Rdr) (fun v => [⟨(.int .i64), v.1⟩]) (fun v => [⟨(.named 3), v.2⟩]) (v := ((one (Rdr.b r) ((Rdr.p r) + 1) ([(-1), 64] : List Int)), (Rdr.mk (Rdr.b r) (((Rdr.p r) + 1) + 1)))) e2 (by kernel_rfl) rfl rfl)
 ·
  intro h3
  have h3q : (pick (Rdr.b r) (Rdr.p r) 16) ≠ 0 := (Go.Am.beq_neg h3)
  have e4 := e0.trans (Go.Am.bif_f h3)
  refine AW.kp [0, 1] [0] ⟨[(0, .ref 0 0 0), (1, .int .i64 width)], [(0, .box 0 [.data (.slice (.int .u8)) ((Rdr.b r) : List Int), .int .i64 ((Rdr.p r) + 1)])]⟩ ?_
  refine AW.skip (AW.seq (AW.r0 hC [4] [0] ⟨[(4, .int .i64 (pick (Rdr.b r) ((Rdr.p r) + 1) ((1 : Int) * 2 ^ (Int.toNat (if 6 < (if 0 > width then 0 else width) then 6 else (if 0 > width then 0 else width))))))], [(0, .box 0 [.data (.slice (.int .u8)) ((Rdr.b r) : List Int), .int .i64 (((Rdr.p r) + 1) + 1)])]⟩ [(0 ≤ (if 6 < (if 0 > width then 0 else width) then 6 else (if 0 > width then 0 else width)) ∧ (if 6 < (if 0 > width then 0 else width) then 6 else (if 0 > width then 0 else width)) ≤ 64), (-9223372036854775808 ≤ ((1 : Int) * 2 ^ (Int.toNat (if 6 < (if 0 > width then 0 else width) then 6 else (if 0 > width then 0 else width)))) ∧ ((1 : Int) * 2 ^ (Int.toNat (if 6 < (if 0 > width then 0 else width) then 6 else (if 0 > width then 0 else width)))) ≤ 9223372036854775807), (0 ≤ (Rdr.mk (Rdr.b r) ((Rdr.p r) + 1)).p ∧ (Rdr.mk (Rdr.b r) ((Rdr.p r) + 1)).p ≤ 1099511627776)] ?_ ?_))
  ·
   refine ⟨?_, ?_, ?_, trivial⟩
   ·
    generalize hm : (if 6 < (if 0 > width then 0 else width) then 6 else (if 0 > width then 0 else width)) = m
    have hm0 : 0 ≤ m ∧ m ≤ 6 := by rw [← hm]; split <;> split <;> omega
    have := pow32 hm0.2 hm0.1
    omega
   ·
    generalize hm : (if 6 < (if 0 > width then 0 else width) then 6 else (if 0 > width then 0 else width)) = m
    have hm0 : 0 ≤ m ∧ m ≤ 6 := by rw [← hm]; split <;> split <;> omega
    have := pow32 hm0.2 hm0.1
    omega
   ·
    first | omega | (dsimp only; omega) | (simp only [lens] at *; omega)
  exact AW.ret (AW.retE (β := Int × Rdr) (fun v => [⟨(.int .i64), v.1⟩]) (fun v => [⟨(.named 3), v.2⟩]) (v := ((pick (Rdr.b r) ((Rdr.p r) + 1) ((1 : Int) * 2 ^ (Int.toNat (if 6 < (if 0 > width then 0 else width) then 6 else (if 0 > width then 0 else width))))), (Rdr.mk (Rdr.b r) (((Rdr.p r) + 1) + 1)))) e4 (by kernel_rfl) rfl rfl)

theorem someSet_p (r : Rdr) (w : Int) : r.p ≤ (someSet r w).2.p ∧ (someSet r w).2.p ≤ r.p + 2 := by
 unfold someSet
 cases (pick (Rdr.b r) (Rdr.p r) 16 == 0) with
 | true => simp only [cond_true]; omega
 | false => simp only [cond_false]; omega

def DrawHoldsIn (code : List Int) : Dep × Tab := ((Dep.mk ((someSet ((anyTable (newReader code) 3 5).2) 3).1) ((someSet ((someSet ((anyTable (newReader code) 3 5).2) 3).2) 3).1)), ((anyTable (newReader code) 3 5).1))

def DrawHoldsIn_sp : FnSpec := mkSpec [.val (.slice (.int .u8))] [.val (.named 0), .val (.named 2)] (fun (code : List Int) => True) (fun (code : List Int) => [⟨(.named 0), ((DrawHoldsIn code).1)⟩, ⟨(.named 2), ((DrawHoldsIn code).2)⟩])

theorem DrawHoldsIn_ok : FnOK Try.prog 13 DrawHoldsIn_sp := by
 have hC : CtxOK Try.prog (mkCtx tyL [(51, newReader_sp), (52, anyTable_sp), (53, someSet_sp)]) := CtxOK.cons newReader_ok (CtxOK.cons anyTable_ok (CtxOK.cons someSet_ok (CtxOK.nil tyOK)))
 have hM : Try.prog.follows .mixedOrders = true := Try.checked.mixed
 refine FnOK.of_body Try.func13 (by kernel_rfl) rfl (C := (mkCtx tyL [(51, newReader_sp), (52, anyTable_sp), (53, someSet_sp)])) hC.ty (by kernel_rfl) ?_
 intro (code : List Int) hwf hpre E
 have hpre : True := hpre
 have hw_code : Wf ⟨(.slice (.int .u8)), (code : List Int)⟩ := hwf _ (List.Mem.head _)
 have hl_code : ((List.length code : Nat) : Int) ≤ 9223372036854775807 := hw_code.len
 have h0 := newReader_p code
 have hT := anyTable_p (newReader code) (width := 3) (most := 5) (by decide) (by decide)
 have hS := someSet_p (anyTable (newReader code) 3 5).2 3
 have e0 : DrawHoldsIn code = DrawHoldsIn code := rfl
 refine AW.seq (AW.r1 hC [0, 2, 3] [8, 12] ⟨[(0, .data (.slice (.int .u8)) (code : List Int)), (2, .ref 8 1 0), (3, .ref 12 1 0)], [(8, .box 1 [.int .i64 0, .int .i64 0]), (12, .box 1 [.int .i64 0, .nilsl])]⟩ ?_)
 refine AW.seq (AW.r0 hC [2, 3, 4] [8, 12, 32] ⟨[(2, .ref 8 1 0), (3, .ref 12 1 0), (4, .ref 32 1 0)], [(8, .box 1 [.int .i64 0, .int .i64 0]), (12, .box 1 [.int .i64 0, .nilsl]), (32, .box 1 [.data (.slice (.int .u8)) ((Rdr.b (newReader code)) : List Int), .int .i64 (Rdr.p (newReader code))])]⟩ [(True)] ?_ ?_)
 ·
  refine ⟨?_, trivial⟩
  ·
   trivial
 refine AW.seq (AW.r0 hC [2, 3, 4, 5] [8, 12, 20, 32] ⟨[(2, .ref 8 1 0), (3, .ref 12 1 0), (4, .ref 32 1 0), (5, .ref 20 1 0)], [(8, .box 1 [.int .i64 0, .int .i64 0]), (12, .box 1 [.int .i64 0, .nilsl]), (20, .box 1 [.int .i64 (Tab.Width ((anyTable (newReader code) 3 5).1)), .data (.slice (.slice (.named 1))) ((Tab.Rows ((anyTable (newReader code) 3 5).1)) : List (List Val))]), (32, .box 1 [.data (.slice (.int .u8)) ((Rdr.b ((anyTable (newReader code) 3 5).2)) : List Int), .int .i64 (Rdr.p ((anyTable (newReader code) 3 5).2))])]⟩ [((0 ≤ (newReader code).p ∧ (newReader code).p ≤ 1000000000000) ∧ (1 ≤ (3 : Int) ∧ (3 : Int) ≤ 6) ∧ (0 ≤ (5 : Int) ∧ (5 : Int) ≤ 99))] ?_ ?_)
 ·
  refine ⟨?_, trivial⟩
  ·
   first | omega | (dsimp only; omega) | (simp only [lens] at *; omega)
 refine AW.seq (AW.r0 hC [2, 3, 5, 6] [8, 12, 20, 24] ⟨[(2, .ref 8 1 0), (3, .ref 12 1 0), (5, .ref 20 1 0), (6, .ref 24 1 0)], [(8, .box 1 [.int .i64 0, .int .i64 0]), (12, .box 1 [.int .i64 0, .nilsl]), (20, .box 1 [.int .i64 (Tab.Width ((anyTable (newReader code) 3 5).1)), .data (.slice (.slice (.named 1))) ((Tab.Rows ((anyTable (newReader code) 3 5).1)) : List (List Val))]), (24, .box 1 [.int .i64 ((someSet ((anyTable (newReader code) 3 5).2) 3).1), .int .i64 ((someSet ((someSet ((anyTable (newReader code) 3 5).2) 3).2) 3).1)])]⟩ [(0 ≤ ((anyTable (newReader code) 3 5).2).p ∧ ((anyTable (newReader code) 3 5).2).p ≤ 1000000100000), (0 ≤ ((someSet ((anyTable (newReader code) 3 5).2) 3).2).p ∧ ((someSet ((anyTable (newReader code) 3 5).2) 3).2).p ≤ 1000000100000)] ?_ ?_)
 ·
  refine ⟨?_, ?_, trivial⟩
  ·
   first | omega | (dsimp only; omega) | (simp only [lens] at *; omega)
  ·
   first | omega | (dsimp only; omega) | (simp only [lens] at *; omega)
 refine AW.seq (AW.d1 hC hM [2, 3] [8, 12] ⟨[(2, .ref 8 1 0), (3, .ref 12 1 0)], [(8, .box 1 [.int .i64 ((someSet ((anyTable (newReader code) 3 5).2) 3).1), .int .i64 ((someSet ((someSet ((anyTable (newReader code) 3 5).2) 3).2) 3).1)]), (12, .box 1 [.int .i64 (Tab.Width ((anyTable (newReader code) 3 5).1)), .data (.slice (.slice (.named 1))) ((Tab.Rows ((anyTable (newReader code) 3 5).1)) : List (List Val))])]⟩ ?_)
 exact AW.ret (AW.retE (β := Dep × Tab) (fun v => [⟨(.named 0), v.1⟩, ⟨(.named 2), v.2⟩]) (fun v => []) (v := ((Dep.mk ((someSet ((anyTable (newReader code) 3 5).2) 3).1) ((someSet ((someSet ((anyTable (newReader code) 3 5).2) 3).2) 3).1)), ((anyTable (newReader code) 3 5).1))) e0 (by kernel_rfl) rfl rfl)

def FnHoldsIn (code : List Int) : Bool := (bif (decide (1048576 < ((List.length code : Nat) : Int))) then true else (bif (bif (bif (bif (bif (bif (bif ((HoldsIn ((DrawHoldsIn code).1) ((DrawHoldsIn code).2)) != (sHoldsIn ((DrawHoldsIn code).1) ((DrawHoldsIn code).2))) then true else (!(ValidTable ((DrawHoldsIn code).2)))) then true else ((Tab.Width ((DrawHoldsIn code).2)) != 3)) then true else (decide ((Dep.From ((DrawHoldsIn code).1)) < 0))) then true else (decide (7 < (Dep.From ((DrawHoldsIn code).1))))) then true else (decide ((Dep.To ((DrawHoldsIn code).1)) < 0))) then true else (decide (7 < (Dep.To ((DrawHoldsIn code).1))))) then ((HoldsIn ((DrawHoldsIn code).1) ((DrawHoldsIn code).2)) == (sHoldsIn ((DrawHoldsIn code).1) ((DrawHoldsIn code).2))) else (bif (bif ((bits .and .i64 (Dep.From ((DrawHoldsIn code).1)) (Dep.To ((DrawHoldsIn code).1))) != (Dep.To ((DrawHoldsIn code).1))) then true else (HoldsIn ((DrawHoldsIn code).1) ((DrawHoldsIn code).2))) then (bif (!(HoldsIn ((DrawHoldsIn code).1) ((DrawHoldsIn code).2))) then true else (HoldsIn ((DrawHoldsIn code).1) (Tab.mk (Tab.Width ((DrawHoldsIn code).2)) (List.take (Int.toNat (((List.length (Tab.Rows ((DrawHoldsIn code).2)) : Nat) : Int) / 2)) (Tab.Rows ((DrawHoldsIn code).2)))))) else false)))

def FnHoldsIn_sp : FnSpec := mkSpec [.val (.slice (.int .u8))] [.val .bool] (fun (code : List Int) => True) (fun (code : List Int) => [⟨.bool, (FnHoldsIn code)⟩])

theorem FnHoldsIn_ok : FnOK Try.prog 3 FnHoldsIn_sp := by
 have hC : CtxOK Try.prog (mkCtx tyL [(13, DrawHoldsIn_sp), (14, HoldsIn_sp), (15, sHoldsIn_sp), (16, ValidTable_sp)]) := CtxOK.cons DrawHoldsIn_ok (CtxOK.cons HoldsIn_ok (CtxOK.cons sHoldsIn_ok (CtxOK.cons ValidTable_ok (CtxOK.nil tyOK))))
 have hM : Try.prog.follows .mixedOrders = true := Try.checked.mixed
 refine FnOK.of_body Try.func3 (by kernel_rfl) rfl (C := (mkCtx tyL [(13, DrawHoldsIn_sp), (14, HoldsIn_sp), (15, sHoldsIn_sp), (16, ValidTable_sp)])) hC.ty (by kernel_rfl) ?_
 intro (code : List Int) hwf hpre E
 have hpre : True := hpre
 have hw_code : Wf ⟨(.slice (.int .u8)), (code : List Int)⟩ := hwf _ (List.Mem.head _)
 have hl_code : ((List.length code : Nat) : Int) ≤ 9223372036854775807 := hw_code.len
 have e0 : FnHoldsIn code = FnHoldsIn code := rfl
 refine AW.seq (AW.r1 hC [0] [] ⟨[(0, .data (.slice (.int .u8)) (code : List Int))], []⟩ ?_)
 refine AW.seq (AW.seq (AW.r1 hC [0, 9] [] ⟨[(0, .data (.slice (.int .u8)) (code : List Int)), (9, .bool (decide (1048576 < ((List.length code : Nat) : Int))))], []⟩ ?_))
 refine AW.cd (decide (1048576 < ((List.length code : Nat) : Int))) ?_ ?_
 ·
  intro h1
  have h1q : 1048576 < ((List.length code : Nat) : Int) := (of_decide_eq_true h1)
  have e2 := e0.trans (Go.Am.bif_t h1)
  refine AW.seq (AW.r1 hC [2] [] ⟨[(2, .bool true)], []⟩ ?_)
  exact AW.ret (AW.retE (β := Bool) (fun v => [⟨.bool, v⟩]) (fun v => []) (v := true) e2 (by kernel_rfl) rfl rfl)
 ·
  intro h3
  have h3q : ¬ (1048576 < ((List.length code : Nat) : Int)) := (of_decide_eq_false h3)
  have e4 := e0.trans (Go.Am.bif_f h3)
  refine AW.kp [0] [] ⟨[(0, .data (.slice (.int .u8)) (code : List Int))], []⟩ ?_
  refine AW.skip (AW.seq (AW.r0 hC [3, 4] [12, 16] ⟨[(3, .ref 12 1 0), (4, .ref 16 1 0)], [(12, .box 1 [.int .i64 (Dep.From ((DrawHoldsIn code).1)), .int .i64 (Dep.To ((DrawHoldsIn code).1))]), (16, .box 1 [.int .i64 (Tab.Width ((DrawHoldsIn code).2)), .data (.slice (.slice (.named 1))) ((Tab.Rows ((DrawHoldsIn code).2)) : List (List Val))])]⟩ [(True)] ?_ ?_))
  ·
   refine ⟨?_, trivial⟩
   ·
    trivial
  refine AW.seq (AW.r0 hC [3, 4, 5] [12, 16] ⟨[(3, .ref 12 1 0), (4, .ref 16 1 0), (5, .bool (HoldsIn ((DrawHoldsIn code).1) ((DrawHoldsIn code).2)))], [(12, .box 1 [.int .i64 (Dep.From ((DrawHoldsIn code).1)), .int .i64 (Dep.To ((DrawHoldsIn code).1))]), (16, .box 1 [.int .i64 (Tab.Width ((DrawHoldsIn code).2)), .data (.slice (.slice (.named 1))) ((Tab.Rows ((DrawHoldsIn code).2)) : List (List Val))])]⟩ [(True)] ?_ ?_)
  ·
   refine ⟨?_, trivial⟩
   ·
    trivial
  refine AW.seq (AW.seq (AW.r0 hC [3, 4, 5, 52] [12, 16] ⟨[(3, .ref 12 1 0), (4, .ref 16 1 0), (5, .bool (HoldsIn ((DrawHoldsIn code).1) ((DrawHoldsIn code).2))), (52, .bool (bif (bif (bif (bif (bif (bif ((HoldsIn ((DrawHoldsIn code).1) ((DrawHoldsIn code).2)) != (sHoldsIn ((DrawHoldsIn code).1) ((DrawHoldsIn code).2))) then true else (!(ValidTable ((DrawHoldsIn code).2)))) then true else ((Tab.Width ((DrawHoldsIn code).2)) != 3)) then true else (decide ((Dep.From ((DrawHoldsIn code).1)) < 0))) then true else (decide (7 < (Dep.From ((DrawHoldsIn code).1))))) then true else (decide ((Dep.To ((DrawHoldsIn code).1)) < 0))) then true else (decide (7 < (Dep.To ((DrawHoldsIn code).1))))))], [(12, .box 1 [.int .i64 (Dep.From ((DrawHoldsIn code).1)), .int .i64 (Dep.To ((DrawHoldsIn code).1))]), (16, .box 1 [.int .i64 (Tab.Width ((DrawHoldsIn code).2)), .data (.slice (.slice (.named 1))) ((Tab.Rows ((DrawHoldsIn code).2)) : List (List Val))])]⟩ [(True), ((((HoldsIn ((DrawHoldsIn code).1) ((DrawHoldsIn code).2)) != (sHoldsIn ((DrawHoldsIn code).1) ((DrawHoldsIn code).2))) = false) → ((((HoldsIn ((DrawHoldsIn code).1) ((DrawHoldsIn code).2)) != (sHoldsIn ((DrawHoldsIn code).1) ((DrawHoldsIn code).2))) = false))), ((((HoldsIn ((DrawHoldsIn code).1) ((DrawHoldsIn code).2)) != (sHoldsIn ((DrawHoldsIn code).1) ((DrawHoldsIn code).2))) = false) → (True)), ((((HoldsIn ((DrawHoldsIn code).1) ((DrawHoldsIn code).2)) != (sHoldsIn ((DrawHoldsIn code).1) ((DrawHoldsIn code).2))) = false) → ((((HoldsIn ((DrawHoldsIn code).1) ((DrawHoldsIn code).2)) != (sHoldsIn ((DrawHoldsIn code).1) ((DrawHoldsIn code).2))) = false))), ((((HoldsIn ((DrawHoldsIn code).1) ((DrawHoldsIn code).2)) != (sHoldsIn ((DrawHoldsIn code).1) ((DrawHoldsIn code).2))) = false) → ((((HoldsIn ((DrawHoldsIn code).1) ((DrawHoldsIn code).2)) != (sHoldsIn ((DrawHoldsIn code).1) ((DrawHoldsIn code).2))) = false))), (((bif ((HoldsIn ((DrawHoldsIn code).1) ((DrawHoldsIn code).2)) != (sHoldsIn ((DrawHoldsIn code).1) ((DrawHoldsIn code).2))) then true else (!(ValidTable ((DrawHoldsIn code).2)))) = false) → (((bif ((HoldsIn ((DrawHoldsIn code).1) ((DrawHoldsIn code).2)) != (sHoldsIn ((DrawHoldsIn code).1) ((DrawHoldsIn code).2))) then true else (!(ValidTable ((DrawHoldsIn code).2)))) = false))), (((bif ((HoldsIn ((DrawHoldsIn code).1) ((DrawHoldsIn code).2)) != (sHoldsIn ((DrawHoldsIn code).1) ((DrawHoldsIn code).2))) then true else (!(ValidTable ((DrawHoldsIn code).2)))) = false) → (((bif ((HoldsIn ((DrawHoldsIn code).1) ((DrawHoldsIn code).2)) != (sHoldsIn ((DrawHoldsIn code).1) ((DrawHoldsIn code).2))) then true else (!(ValidTable ((DrawHoldsIn code).2)))) = false))), (((bif ((HoldsIn ((DrawHoldsIn code).1) ((DrawHoldsIn code).2)) != (sHoldsIn ((DrawHoldsIn code).1) ((DrawHoldsIn code).2))) then true else (!(ValidTable ((DrawHoldsIn code).2)))) = false) → (((bif ((HoldsIn ((DrawHoldsIn code).1) ((DrawHoldsIn code).2)) != (sHoldsIn ((DrawHoldsIn code).1) ((DrawHoldsIn code).2))) then true else (!(ValidTable ((DrawHoldsIn code).2)))) = false))), (((bif (bif ((HoldsIn ((DrawHoldsIn code).1) ((DrawHoldsIn code).2)) != (sHoldsIn ((DrawHoldsIn code).1) ((DrawHoldsIn code).2))) then true else (!(ValidTable ((DrawHoldsIn code).2)))) then true else ((Tab.Width ((DrawHoldsIn code).2)) != 3)) = false) → (((bif (bif ((HoldsIn ((DrawHoldsIn code).1) ((DrawHoldsIn code).2)) != (sHoldsIn ((DrawHoldsIn code).1) ((DrawHoldsIn code).2))) then true else (!(ValidTable ((DrawHoldsIn code).2)))) then true else ((Tab.Width ((DrawHoldsIn code).2)) != 3)) = false))), (((bif (bif ((HoldsIn ((DrawHoldsIn code).1) ((DrawHoldsIn code).2)) != (sHoldsIn ((DrawHoldsIn code).1) ((DrawHoldsIn code).2))) then true else (!(ValidTable ((DrawHoldsIn code).2)))) then true else ((Tab.Width ((DrawHoldsIn code).2)) != 3)) = false) → (((bif (bif ((HoldsIn ((DrawHoldsIn code).1) ((DrawHoldsIn code).2)) != (sHoldsIn ((DrawHoldsIn code).1) ((DrawHoldsIn code).2))) then true else (!(ValidTable ((DrawHoldsIn code).2)))) then true else ((Tab.Width ((DrawHoldsIn code).2)) != 3)) = false))), (((bif (bif ((HoldsIn ((DrawHoldsIn code).1) ((DrawHoldsIn code).2)) != (sHoldsIn ((DrawHoldsIn code).1) ((DrawHoldsIn code).2))) then true else (!(ValidTable ((DrawHoldsIn code).2)))) then true else ((Tab.Width ((DrawHoldsIn code).2)) != 3)) = false) → (((bif (bif ((HoldsIn ((DrawHoldsIn code).1) ((DrawHoldsIn code).2)) != (sHoldsIn ((DrawHoldsIn code).1) ((DrawHoldsIn code).2))) then true else (!(ValidTable ((DrawHoldsIn code).2)))) then true else ((Tab.Width ((DrawHoldsIn code).2)) != 3)) = false))), (((bif (bif (bif ((HoldsIn ((DrawHoldsIn code).1) ((DrawHoldsIn code).2)) != (sHoldsIn ((DrawHoldsIn code).1) ((DrawHoldsIn code).2))) then true else (!(ValidTable ((DrawHoldsIn code).2)))) then true else ((Tab.Width ((DrawHoldsIn code).2)) != 3)) then true else (decide ((Dep.From ((DrawHoldsIn code).1)) < 0))) = false) → (((bif (bif (bif ((HoldsIn ((DrawHoldsIn code).1) ((DrawHoldsIn code).2)) != (sHoldsIn ((DrawHoldsIn code).1) ((DrawHoldsIn code).2))) then true else (!(ValidTable ((DrawHoldsIn code).2)))) then true else ((Tab.Width ((DrawHoldsIn code).2)) != 3)) then true else (decide ((Dep.From ((DrawHoldsIn code).1)) < 0))) = false))), (((bif (bif (bif ((HoldsIn ((DrawHoldsIn code).1) ((DrawHoldsIn code).2)) != (sHoldsIn ((DrawHoldsIn code).1) ((DrawHoldsIn code).2))) then true else (!(ValidTable ((DrawHoldsIn code).2)))) then true else ((Tab.Width ((DrawHoldsIn code).2)) != 3)) then true else (decide ((Dep.From ((DrawHoldsIn code).1)) < 0))) = false) → (((bif (bif (bif ((HoldsIn ((DrawHoldsIn code).1) ((DrawHoldsIn code).2)) != (sHoldsIn ((DrawHoldsIn code).1) ((DrawHoldsIn code).2))) then true else (!(ValidTable ((DrawHoldsIn code).2)))) then true else ((Tab.Width ((DrawHoldsIn code).2)) != 3)) then true else (decide ((Dep.From ((DrawHoldsIn code).1)) < 0))) = false))), (((bif (bif (bif ((HoldsIn ((DrawHoldsIn code).1) ((DrawHoldsIn code).2)) != (sHoldsIn ((DrawHoldsIn code).1) ((DrawHoldsIn code).2))) then true else (!(ValidTable ((DrawHoldsIn code).2)))) then true else ((Tab.Width ((DrawHoldsIn code).2)) != 3)) then true else (decide ((Dep.From ((DrawHoldsIn code).1)) < 0))) = false) → (((bif (bif (bif ((HoldsIn ((DrawHoldsIn code).1) ((DrawHoldsIn code).2)) != (sHoldsIn ((DrawHoldsIn code).1) ((DrawHoldsIn code).2))) then true else (!(ValidTable ((DrawHoldsIn code).2)))) then true else ((Tab.Width ((DrawHoldsIn code).2)) != 3)) then true else (decide ((Dep.From ((DrawHoldsIn code).1)) < 0))) = false))), (((bif (bif (bif (bif ((HoldsIn ((DrawHoldsIn code).1) ((DrawHoldsIn code).2)) != (sHoldsIn ((DrawHoldsIn code).1) ((DrawHoldsIn code).2))) then true else (!(ValidTable ((DrawHoldsIn code).2)))) then true else ((Tab.Width ((DrawHoldsIn code).2)) != 3)) then true else (decide ((Dep.From ((DrawHoldsIn code).1)) < 0))) then true else (decide (7 < (Dep.From ((DrawHoldsIn code).1))))) = false) → (((bif (bif (bif (bif ((HoldsIn ((DrawHoldsIn code).1) ((DrawHoldsIn code).2)) != (sHoldsIn ((DrawHoldsIn code).1) ((DrawHoldsIn code).2))) then true else (!(ValidTable ((DrawHoldsIn code).2)))) then true else ((Tab.Width ((DrawHoldsIn code).2)) != 3)) then true else (decide ((Dep.From ((DrawHoldsIn code).1)) < 0))) then true else (decide (7 < (Dep.From ((DrawHoldsIn code).1))))) = false))), (((bif (bif (bif (bif ((HoldsIn ((DrawHoldsIn code).1) ((DrawHoldsIn code).2)) != (sHoldsIn ((DrawHoldsIn code).1) ((DrawHoldsIn code).2))) then true else (!(ValidTable ((DrawHoldsIn code).2)))) then true else ((Tab.Width ((DrawHoldsIn code).2)) != 3)) then true else (decide ((Dep.From ((DrawHoldsIn code).1)) < 0))) then true else (decide (7 < (Dep.From ((DrawHoldsIn code).1))))) = false) → (((bif (bif (bif (bif ((HoldsIn ((DrawHoldsIn code).1) ((DrawHoldsIn code).2)) != (sHoldsIn ((DrawHoldsIn code).1) ((DrawHoldsIn code).2))) then true else (!(ValidTable ((DrawHoldsIn code).2)))) then true else ((Tab.Width ((DrawHoldsIn code).2)) != 3)) then true else (decide ((Dep.From ((DrawHoldsIn code).1)) < 0))) then true else (decide (7 < (Dep.From ((DrawHoldsIn code).1))))) = false))), (((bif (bif (bif (bif ((HoldsIn ((DrawHoldsIn code).1) ((DrawHoldsIn code).2)) != (sHoldsIn ((DrawHoldsIn code).1) ((DrawHoldsIn code).2))) then true else (!(ValidTable ((DrawHoldsIn code).2)))) then true else ((Tab.Width ((DrawHoldsIn code).2)) != 3)) then true else (decide ((Dep.From ((DrawHoldsIn code).1)) < 0))) then true else (decide (7 < (Dep.From ((DrawHoldsIn code).1))))) = false) → (((bif (bif (bif (bif ((HoldsIn ((DrawHoldsIn code).1) ((DrawHoldsIn code).2)) != (sHoldsIn ((DrawHoldsIn code).1) ((DrawHoldsIn code).2))) then true else (!(ValidTable ((DrawHoldsIn code).2)))) then true else ((Tab.Width ((DrawHoldsIn code).2)) != 3)) then true else (decide ((Dep.From ((DrawHoldsIn code).1)) < 0))) then true else (decide (7 < (Dep.From ((DrawHoldsIn code).1))))) = false))), (((bif (bif (bif (bif (bif ((HoldsIn ((DrawHoldsIn code).1) ((DrawHoldsIn code).2)) != (sHoldsIn ((DrawHoldsIn code).1) ((DrawHoldsIn code).2))) then true else (!(ValidTable ((DrawHoldsIn code).2)))) then true else ((Tab.Width ((DrawHoldsIn code).2)) != 3)) then true else (decide ((Dep.From ((DrawHoldsIn code).1)) < 0))) then true else (decide (7 < (Dep.From ((DrawHoldsIn code).1))))) then true else (decide ((Dep.To ((DrawHoldsIn code).1)) < 0))) = false) → (((bif (bif (bif (bif (bif ((HoldsIn ((DrawHoldsIn code).1) ((DrawHoldsIn code).2)) != (sHoldsIn ((DrawHoldsIn code).1) ((DrawHoldsIn code).2))) then true else (!(ValidTable ((DrawHoldsIn code).2)))) then true else ((Tab.Width ((DrawHoldsIn code).2)) != 3)) then true else (decide ((Dep.From ((DrawHoldsIn code).1)) < 0))) then true else (decide (7 < (Dep.From ((DrawHoldsIn code).1))))) then true else (decide ((Dep.To ((DrawHoldsIn code).1)) < 0))) = false))), (((bif (bif (bif (bif (bif ((HoldsIn ((DrawHoldsIn code).1) ((DrawHoldsIn code).2)) != (sHoldsIn ((DrawHoldsIn code).1) ((DrawHoldsIn code).2))) then true else (!(ValidTable ((DrawHoldsIn code).2)))) then true else ((Tab.Width ((DrawHoldsIn code).2)) != 3)) then true else (decide ((Dep.From ((DrawHoldsIn code).1)) < 0))) then true else (decide (7 < (Dep.From ((DrawHoldsIn code).1))))) then true else (decide ((Dep.To ((DrawHoldsIn code).1)) < 0))) = false) → (((bif (bif (bif (bif (bif ((HoldsIn ((DrawHoldsIn code).1) ((DrawHoldsIn code).2)) != (sHoldsIn ((DrawHoldsIn code).1) ((DrawHoldsIn code).2))) then true else (!(ValidTable ((DrawHoldsIn code).2)))) then true else ((Tab.Width ((DrawHoldsIn code).2)) != 3)) then true else (decide ((Dep.From ((DrawHoldsIn code).1)) < 0))) then true else (decide (7 < (Dep.From ((DrawHoldsIn code).1))))) then true else (decide ((Dep.To ((DrawHoldsIn code).1)) < 0))) = false))), (((bif (bif (bif (bif (bif ((HoldsIn ((DrawHoldsIn code).1) ((DrawHoldsIn code).2)) != (sHoldsIn ((DrawHoldsIn code).1) ((DrawHoldsIn code).2))) then true else (!(ValidTable ((DrawHoldsIn code).2)))) then true else ((Tab.Width ((DrawHoldsIn code).2)) != 3)) then true else (decide ((Dep.From ((DrawHoldsIn code).1)) < 0))) then true else (decide (7 < (Dep.From ((DrawHoldsIn code).1))))) then true else (decide ((Dep.To ((DrawHoldsIn code).1)) < 0))) = false) → (((bif (bif (bif (bif (bif ((HoldsIn ((DrawHoldsIn code).1) ((DrawHoldsIn code).2)) != (sHoldsIn ((DrawHoldsIn code).1) ((DrawHoldsIn code).2))) then true else (!(ValidTable ((DrawHoldsIn code).2)))) then true else ((Tab.Width ((DrawHoldsIn code).2)) != 3)) then true else (decide ((Dep.From ((DrawHoldsIn code).1)) < 0))) then true else (decide (7 < (Dep.From ((DrawHoldsIn code).1))))) then true else (decide ((Dep.To ((DrawHoldsIn code).1)) < 0))) = false)))] ?_ ?_))
  ·
   refine ⟨?_, ?_, ?_, ?_, ?_, ?_, ?_, ?_, ?_, ?_, ?_, ?_, ?_, ?_, ?_, ?_, ?_, ?_, ?_, ?_, trivial⟩
   ·
    trivial
   ·
    intro g5
    have g5p0 : ((HoldsIn ((DrawHoldsIn code).1) ((DrawHoldsIn code).2)) != (sHoldsIn ((DrawHoldsIn code).1) ((DrawHoldsIn code).2))) = false := g5
    first | assumption | exact ⟨by assumption, by assumption⟩
   ·
    intro g6
    have g6p0 : ((HoldsIn ((DrawHoldsIn code).1) ((DrawHoldsIn code).2)) != (sHoldsIn ((DrawHoldsIn code).1) ((DrawHoldsIn code).2))) = false := g6
    trivial
   ·
    intro g7
    have g7p0 : ((HoldsIn ((DrawHoldsIn code).1) ((DrawHoldsIn code).2)) != (sHoldsIn ((DrawHoldsIn code).1) ((DrawHoldsIn code).2))) = false := g7
    first | assumption | exact ⟨by assumption, by assumption⟩
   ·
    intro g8
    have g8p0 : ((HoldsIn ((DrawHoldsIn code).1) ((DrawHoldsIn code).2)) != (sHoldsIn ((DrawHoldsIn code).1) ((DrawHoldsIn code).2))) = false := g8
    first | assumption | exact ⟨by assumption, by assumption⟩
   ·
    intro g9
    have g9p0 : (((HoldsIn ((DrawHoldsIn code).1) ((DrawHoldsIn code).2)) != (sHoldsIn ((DrawHoldsIn code).1) ((DrawHoldsIn code).2))) = false) ∧ ((ValidTable ((DrawHoldsIn code).2)) = true) := (And.imp (fun h => h) (fun h => (Go.Am.not_neg h)) (Go.Am.or_neg g9))
    first | assumption | exact ⟨by assumption, by assumption⟩
   ·
    intro g10
    have g10p0 : (((HoldsIn ((DrawHoldsIn code).1) ((DrawHoldsIn code).2)) != (sHoldsIn ((DrawHoldsIn code).1) ((DrawHoldsIn code).2))) = false) ∧ ((ValidTable ((DrawHoldsIn code).2)) = true) := (And.imp (fun h => h) (fun h => (Go.Am.not_neg h)) (Go.Am.or_neg g10))
    first | assumption | exact ⟨by assumption, by assumption⟩
   ·
    intro g11
    have g11p0 : (((HoldsIn ((DrawHoldsIn code).1) ((DrawHoldsIn code).2)) != (sHoldsIn ((DrawHoldsIn code).1) ((DrawHoldsIn code).2))) = false) ∧ ((ValidTable ((DrawHoldsIn code).2)) = true) := (And.imp (fun h => h) (fun h => (Go.Am.not_neg h)) (Go.Am.or_neg g11))
    first | assumption | exact ⟨by assumption, by assumption⟩
   ·
    intro g12
    have g12p0 : ((((HoldsIn ((DrawHoldsIn code).1) ((DrawHoldsIn code).2)) != (sHoldsIn ((DrawHoldsIn code).1) ((DrawHoldsIn code).2))) = false) ∧ ((ValidTable ((DrawHoldsIn code).2)) = true)) ∧ ((Tab.Width ((DrawHoldsIn code).2)) = 3) := (And.imp (fun h => (And.imp (fun h => h) (fun h => (Go.Am.not_neg h)) (Go.Am.or_neg h))) (fun h => (Go.Am.bne_neg h)) (Go.Am.or_neg g12))
    first | assumption | exact ⟨by assumption, by assumption⟩
   ·
    intro g13
    have g13p0 : ((((HoldsIn ((DrawHoldsIn code).1) ((DrawHoldsIn code).2)) != (sHoldsIn ((DrawHoldsIn code).1) ((DrawHoldsIn code).2))) = false) ∧ ((ValidTable ((DrawHoldsIn code).2)) = true)) ∧ ((Tab.Width ((DrawHoldsIn code).2)) = 3) := (And.imp (fun h => (And.imp (fun h => h) (fun h => (Go.Am.not_neg h)) (Go.Am.or_neg h))) (fun h => (Go.Am.bne_neg h)) (Go.Am.or_neg g13))
    first | assumption | exact ⟨by assumption, by assumption⟩
   ·
    intro g14
    have g14p0 : ((((HoldsIn ((DrawHoldsIn code).1) ((DrawHoldsIn code).2)) != (sHoldsIn ((DrawHoldsIn code).1) ((DrawHoldsIn code).2))) = false) ∧ ((ValidTable ((DrawHoldsIn code).2)) = true)) ∧ ((Tab.Width ((DrawHoldsIn code).2)) = 3) := (And.imp (fun h => (And.imp (fun h => h) (fun h => (Go.Am.not_neg h)) (Go.Am.or_neg h))) (fun h => (Go.Am.bne_neg h)) (Go.Am.or_neg g14))
    first | assumption | exact ⟨by assumption, by assumption⟩
   ·
    intro g15
    have g15p0 : (((((HoldsIn ((DrawHoldsIn code).1) ((DrawHoldsIn code).2)) != (sHoldsIn ((DrawHoldsIn code).1) ((DrawHoldsIn code).2))) = false) ∧ ((ValidTable ((DrawHoldsIn code).2)) = true)) ∧ ((Tab.Width ((DrawHoldsIn code).2)) = 3)) ∧ (¬ ((Dep.From ((DrawHoldsIn code).1)) < 0)) := (And.imp (fun h => (And.imp (fun h => (And.imp (fun h => h) (fun h => (Go.Am.not_neg h)) (Go.Am.or_neg h))) (fun h => (Go.Am.bne_neg h)) (Go.Am.or_neg h))) (fun h => (of_decide_eq_false h)) (Go.Am.or_neg g15))
    first | assumption | exact ⟨by assumption, by assumption⟩
   ·
    intro g16
    have g16p0 : (((((HoldsIn ((DrawHoldsIn code).1) ((DrawHoldsIn code).2)) != (sHoldsIn ((DrawHoldsIn code).1) ((DrawHoldsIn code).2))) = false) ∧ ((ValidTable ((DrawHoldsIn code).2)) = true)) ∧ ((Tab.Width ((DrawHoldsIn code).2)) = 3)) ∧ (¬ ((Dep.From ((DrawHoldsIn code).1)) < 0)) := (And.imp (fun h => (And.imp (fun h => (And.imp (fun h => h) (fun h => (Go.Am.not_neg h)) (Go.Am.or_neg h))) (fun h => (Go.Am.bne_neg h)) (Go.Am.or_neg h))) (fun h => (of_decide_eq_false h)) (Go.Am.or_neg g16))
    first | assumption | exact ⟨by assumption, by assumption⟩
   ·
    intro g17
    have g17p0 : (((((HoldsIn ((DrawHoldsIn code).1) ((DrawHoldsIn code).2)) != (sHoldsIn ((DrawHoldsIn code).1) ((DrawHoldsIn code).2))) = false) ∧ ((ValidTable ((DrawHoldsIn code).2)) = true)) ∧ ((Tab.Width ((DrawHoldsIn code).2)) = 3)) ∧ (¬ ((Dep.From ((DrawHoldsIn code).1)) < 0)) := (And.imp (fun h => (And.imp (fun h => (And.imp (fun h => h) (fun h => (Go.Am.not_neg h)) (Go.Am.or_neg h))) (fun h => (Go.Am.bne_neg h)) (Go.Am.or_neg h))) (fun h => (of_decide_eq_false h)) (Go.Am.or_neg g17))
    first | assumption | exact ⟨by assumption, by assumption⟩
   ·
    intro g18
    have g18p0 : ((((((HoldsIn ((DrawHoldsIn code).1) ((DrawHoldsIn code).2)) != (sHoldsIn ((DrawHoldsIn code).1) ((DrawHoldsIn code).2))) = false) ∧ ((ValidTable ((DrawHoldsIn code).2)) = true)) ∧ ((Tab.Width ((DrawHoldsIn code).2)) = 3)) ∧ (¬ ((Dep.From ((DrawHoldsIn code).1)) < 0))) ∧ (¬ (7 < (Dep.From ((DrawHoldsIn code).1)))) := (And.imp (fun h => (And.imp (fun h => (And.imp (fun h => (And.imp (fun h => h) (fun h => (Go.Am.not_neg h)) (Go.Am.or_neg h))) (fun h => (Go.Am.bne_neg h)) (Go.Am.or_neg h))) (fun h => (of_decide_eq_false h)) (Go.Am.or_neg h))) (fun h => (of_decide_eq_false h)) (Go.Am.or_neg g18))
    first | assumption | exact ⟨by assumption, by assumption⟩
   ·
    intro g19
    have g19p0 : ((((((HoldsIn ((DrawHoldsIn code).1) ((DrawHoldsIn code).2)) != (sHoldsIn ((DrawHoldsIn code).1) ((DrawHoldsIn code).2))) = false) ∧ ((ValidTable ((DrawHoldsIn code).2)) = true)) ∧ ((Tab.Width ((DrawHoldsIn code).2)) = 3)) ∧ (¬ ((Dep.From ((DrawHoldsIn code).1)) < 0))) ∧ (¬ (7 < (Dep.From ((DrawHoldsIn code).1)))) := (And.imp (fun h => (And.imp (fun h => (And.imp (fun h => (And.imp (fun h => h) (fun h => (Go.Am.not_neg h)) (Go.Am.or_neg h))) (fun h => (Go.Am.bne_neg h)) (Go.Am.or_neg h))) (fun h => (of_decide_eq_false h)) (Go.Am.or_neg h))) (fun h => (of_decide_eq_false h)) (Go.Am.or_neg g19))
    first | assumption | exact ⟨by assumption, by assumption⟩
   ·
    intro g20
    have g20p0 : ((((((HoldsIn ((DrawHoldsIn code).1) ((DrawHoldsIn code).2)) != (sHoldsIn ((DrawHoldsIn code).1) ((DrawHoldsIn code).2))) = false) ∧ ((ValidTable ((DrawHoldsIn code).2)) = true)) ∧ ((Tab.Width ((DrawHoldsIn code).2)) = 3)) ∧ (¬ ((Dep.From ((DrawHoldsIn code).1)) < 0))) ∧ (¬ (7 < (Dep.From ((DrawHoldsIn code).1)))) := (And.imp (fun h => (And.imp (fun h => (And.imp (fun h => (And.imp (fun h => h) (fun h => (Go.Am.not_neg h)) (Go.Am.or_neg h))) (fun h => (Go.Am.bne_neg h)) (Go.Am.or_neg h))) (fun h => (of_decide_eq_false h)) (Go.Am.or_neg h))) (fun h => (of_decide_eq_false h)) (Go.Am.or_neg g20))
    first | assumption | exact ⟨by assumption, by assumption⟩
   ·
    intro g21
    have g21p0 : (((((((HoldsIn ((DrawHoldsIn code).1) ((DrawHoldsIn code).2)) != (sHoldsIn ((DrawHoldsIn code).1) ((DrawHoldsIn code).2))) = false) ∧ ((ValidTable ((DrawHoldsIn code).2)) = true)) ∧ ((Tab.Width ((DrawHoldsIn code).2)) = 3)) ∧ (¬ ((Dep.From ((DrawHoldsIn code).1)) < 0))) ∧ (¬ (7 < (Dep.From ((DrawHoldsIn code).1))))) ∧ (¬ ((Dep.To ((DrawHoldsIn code).1)) < 0)) := (And.imp (fun h => (And.imp (fun h => (And.imp (fun h => (And.imp (fun h => (And.imp (fun h => h) (fun h => (Go.Am.not_neg h)) (Go.Am.or_neg h))) (fun h => (Go.Am.bne_neg h)) (Go.Am.or_neg h))) (fun h => (of_decide_eq_false h)) (Go.Am.or_neg h))) (fun h => (of_decide_eq_false h)) (Go.Am.or_neg h))) (fun h => (of_decide_eq_false h)) (Go.Am.or_neg g21))
    first | assumption | exact ⟨by assumption, by assumption⟩
   ·
    intro g22
    have g22p0 : (((((((HoldsIn ((DrawHoldsIn code).1) ((DrawHoldsIn code).2)) != (sHoldsIn ((DrawHoldsIn code).1) ((DrawHoldsIn code).2))) = false) ∧ ((ValidTable ((DrawHoldsIn code).2)) = true)) ∧ ((Tab.Width ((DrawHoldsIn code).2)) = 3)) ∧ (¬ ((Dep.From ((DrawHoldsIn code).1)) < 0))) ∧ (¬ (7 < (Dep.From ((DrawHoldsIn code).1))))) ∧ (¬ ((Dep.To ((DrawHoldsIn code).1)) < 0)) := (And.imp (fun h => (And.imp (fun h => (And.imp (fun h => (And.imp (fun h => (And.imp (fun h => h) (fun h => (Go.Am.not_neg h)) (Go.Am.or_neg h))) (fun h => (Go.Am.bne_neg h)) (Go.Am.or_neg h))) (fun h => (of_decide_eq_false h)) (Go.Am.or_neg h))) (fun h => (of_decide_eq_false h)) (Go.Am.or_neg h))) (fun h => (of_decide_eq_false h)) (Go.Am.or_neg g22))
    first | assumption | exact ⟨by assumption, by assumption⟩
   ·
    intro g23
    have g23p0 : (((((((HoldsIn ((DrawHoldsIn code).1) ((DrawHoldsIn code).2)) != (sHoldsIn ((DrawHoldsIn code).1) ((DrawHoldsIn code).2))) = false) ∧ ((ValidTable ((DrawHoldsIn code).2)) = true)) ∧ ((Tab.Width ((DrawHoldsIn code).2)) = 3)) ∧ (¬ ((Dep.From ((DrawHoldsIn code).1)) < 0))) ∧ (¬ (7 < (Dep.From ((DrawHoldsIn code).1))))) ∧ (¬ ((Dep.To ((DrawHoldsIn code).1)) < 0)) := (And.imp (fun h => (And.imp (fun h => (And.imp (fun h => (And.imp (fun h => (And.imp (fun h => h) (fun h => (Go.Am.not_neg h)) (Go.Am.or_neg h))) (fun h => (Go.Am.bne_neg h)) (Go.Am.or_neg h))) (fun h => (of_decide_eq_false h)) (Go.Am.or_neg h))) (fun h => (of_decide_eq_false h)) (Go.Am.or_neg h))) (fun h => (of_decide_eq_false h)) (Go.Am.or_neg g23))
    first | assumption | exact ⟨by assumption, by assumption⟩
  refine AW.cd (bif (bif (bif (bif (bif (bif ((HoldsIn ((DrawHoldsIn code).1) ((DrawHoldsIn code).2)) != (sHoldsIn ((DrawHoldsIn code).1) ((DrawHoldsIn code).2))) then true else (!(ValidTable ((DrawHoldsIn code).2)))) then true else ((Tab.Width ((DrawHoldsIn code).2)) != 3)) then true else (decide ((Dep.From ((DrawHoldsIn code).1)) < 0))) then true else (decide (7 < (Dep.From ((DrawHoldsIn code).1))))) then true else (decide ((Dep.To ((DrawHoldsIn code).1)) < 0))) then true else (decide (7 < (Dep.To ((DrawHoldsIn code).1))))) ?_ ?_
  ·
   intro h24
   have h24q : ((((((((HoldsIn ((DrawHoldsIn code).1) ((DrawHoldsIn code).2)) != (sHoldsIn ((DrawHoldsIn code).1) ((DrawHoldsIn code).2))) = true) ∨ ((ValidTable ((DrawHoldsIn code).2)) = false)) ∨ ((Tab.Width ((DrawHoldsIn code).2)) ≠ 3)) ∨ ((Dep.From ((DrawHoldsIn code).1)) < 0)) ∨ (7 < (Dep.From ((DrawHoldsIn code).1)))) ∨ ((Dep.To ((DrawHoldsIn code).1)) < 0)) ∨ (7 < (Dep.To ((DrawHoldsIn code).1))) := (Or.imp (fun h => (Or.imp (fun h => (Or.imp (fun h => (Or.imp (fun h => (Or.imp (fun h => (Or.imp (fun h => h) (fun h => (Go.Am.not_pos h)) (Go.Am.or_pos h))) (fun h => (Go.Am.bne_pos h)) (Go.Am.or_pos h))) (fun h => (of_decide_eq_true h)) (Go.Am.or_pos h))) (fun h => (of_decide_eq_true h)) (Go.Am.or_pos h))) (fun h => (of_decide_eq_true h)) (Go.Am.or_pos h))) (fun h => (of_decide_eq_true h)) (Go.Am.or_pos h24))
   have e25 := e4.trans (Go.Am.bif_t h24)
   refine AW.seq (AW.r0 hC [2] [] ⟨[(2, .bool ((HoldsIn ((DrawHoldsIn code).1) ((DrawHoldsIn code).2)) == (sHoldsIn ((DrawHoldsIn code).1) ((DrawHoldsIn code).2))))], []⟩ [(True)] ?_ ?_)
   ·
    refine ⟨?_, trivial⟩
    ·
     trivial
   exact AW.ret (AW.retE (β := Bool) (fun v => [⟨.bool, v⟩]) (fun v => []) (v := ((HoldsIn ((DrawHoldsIn code).1) ((DrawHoldsIn code).2)) == (sHoldsIn ((DrawHoldsIn code).1) ((DrawHoldsIn code).2)))) e25 (by kernel_rfl) rfl rfl)
  ·
   intro h26
   have h26q : ((((((((HoldsIn ((DrawHoldsIn code).1) ((DrawHoldsIn code).2)) != (sHoldsIn ((DrawHoldsIn code).1) ((DrawHoldsIn code).2))) = false) ∧ ((ValidTable ((DrawHoldsIn code).2)) = true)) ∧ ((Tab.Width ((DrawHoldsIn code).2)) = 3)) ∧ (¬ ((Dep.From ((DrawHoldsIn code).1)) < 0))) ∧ (¬ (7 < (Dep.From ((DrawHoldsIn code).1))))) ∧ (¬ ((Dep.To ((DrawHoldsIn code).1)) < 0))) ∧ (¬ (7 < (Dep.To ((DrawHoldsIn code).1)))) := (And.imp (fun h => (And.imp (fun h => (And.imp (fun h => (And.imp (fun h => (And.imp (fun h => (And.imp (fun h => h) (fun h => (Go.Am.not_neg h)) (Go.Am.or_neg h))) (fun h => (Go.Am.bne_neg h)) (Go.Am.or_neg h))) (fun h => (of_decide_eq_false h)) (Go.Am.or_neg h))) (fun h => (of_decide_eq_false h)) (Go.Am.or_neg h))) (fun h => (of_decide_eq_false h)) (Go.Am.or_neg h))) (fun h => (of_decide_eq_false h)) (Go.Am.or_neg h26))
   have e27 := e4.trans (Go.Am.bif_f h26)
   refine AW.kp [3, 4, 5] [12, 16] ⟨[(3, .ref 12 1 0), (4, .ref 16 1 0), (5, .bool (HoldsIn ((DrawHoldsIn code).1) ((DrawHoldsIn code).2)))], [(12, .box 1 [.int .i64 (Dep.From ((DrawHoldsIn code).1)), .int .i64 (Dep.To ((DrawHoldsIn code).1))]), (16, .box 1 [.int .i64 (Tab.Width ((DrawHoldsIn code).2)), .data (.slice (.slice (.named 1))) ((Tab.Rows ((DrawHoldsIn code).2)) : List (List Val))])]⟩ ?_
   refine AW.skip (AW.seq (AW.d0 hC hM [3, 5, 6] [12, 24] ⟨[(3, .ref 12 1 0), (5, .bool (HoldsIn ((DrawHoldsIn code).1) ((DrawHoldsIn code).2))), (6, .ref 24 1 0)], [(12, .box 1 [.int .i64 (Dep.From ((DrawHoldsIn code).1)), .int .i64 (Dep.To ((DrawHoldsIn code).1))]), (24, .box 1 [.int .i64 (Tab.Width ((DrawHoldsIn code).2)), .data (.slice (.slice (.named 1))) ((List.take (Int.toNat (((List.length (Tab.Rows ((DrawHoldsIn code).2)) : Nat) : Int) / 2)) (Tab.Rows ((DrawHoldsIn code).2))) : List (List Val))])]⟩ [(0 ≤ ((List.length (Tab.Rows ((DrawHoldsIn code).2)) : Nat) : Int) ∧ 0 < (2 : Int)), (0 ≤ (((List.length (Tab.Rows ((DrawHoldsIn code).2)) : Nat) : Int) / 2) ∧ (((List.length (Tab.Rows ((DrawHoldsIn code).2)) : Nat) : Int) / 2) ≤ ((List.length (Tab.Rows ((DrawHoldsIn code).2)) : Nat) : Int))] ?_ ?_))
   ·
    refine ⟨?_, ?_, trivial⟩
    ·
     first | omega | (dsimp only; omega) | (simp only [lens] at *; omega)
    ·
     first | omega | (dsimp only; omega) | (simp only [lens] at *; omega)
   refine AW.seq (AW.r0 hC [2] [] ⟨[(2, .bool (bif (bif ((bits .and .i64 (Dep.From ((DrawHoldsIn code).1)) (Dep.To ((DrawHoldsIn code).1))) != (Dep.To ((DrawHoldsIn code).1))) then true else (HoldsIn ((DrawHoldsIn code).1) ((DrawHoldsIn code).2))) then (bif (!(HoldsIn ((DrawHoldsIn code).1) ((DrawHoldsIn code).2))) then true else (HoldsIn ((DrawHoldsIn code).1) (Tab.mk (Tab.Width ((DrawHoldsIn code).2)) (List.take (Int.toNat (((List.length (Tab.Rows ((DrawHoldsIn code).2)) : Nat) : Int) / 2)) (Tab.Rows ((DrawHoldsIn code).2)))))) else false))], []⟩ [((((bits .and .i64 (Dep.From ((DrawHoldsIn code).1)) (Dep.To ((DrawHoldsIn code).1))) != (Dep.To ((DrawHoldsIn code).1))) = false) → ((((bits .and .i64 (Dep.From ((DrawHoldsIn code).1)) (Dep.To ((DrawHoldsIn code).1))) != (Dep.To ((DrawHoldsIn code).1))) = false))), (((bif ((bits .and .i64 (Dep.From ((DrawHoldsIn code).1)) (Dep.To ((DrawHoldsIn code).1))) != (Dep.To ((DrawHoldsIn code).1))) then true else (HoldsIn ((DrawHoldsIn code).1) ((DrawHoldsIn code).2))) = true) → (((bif ((bits .and .i64 (Dep.From ((DrawHoldsIn code).1)) (Dep.To ((DrawHoldsIn code).1))) != (Dep.To ((DrawHoldsIn code).1))) then true else (HoldsIn ((DrawHoldsIn code).1) ((DrawHoldsIn code).2))) = true))), (((bif ((bits .and .i64 (Dep.From ((DrawHoldsIn code).1)) (Dep.To ((DrawHoldsIn code).1))) != (Dep.To ((DrawHoldsIn code).1))) then true else (HoldsIn ((DrawHoldsIn code).1) ((DrawHoldsIn code).2))) = true) → (((bif ((bits .and .i64 (Dep.From ((DrawHoldsIn code).1)) (Dep.To ((DrawHoldsIn code).1))) != (Dep.To ((DrawHoldsIn code).1))) then true else (HoldsIn ((DrawHoldsIn code).1) ((DrawHoldsIn code).2))) = true))), ((((bif ((bits .and .i64 (Dep.From ((DrawHoldsIn code).1)) (Dep.To ((DrawHoldsIn code).1))) != (Dep.To ((DrawHoldsIn code).1))) then true else (HoldsIn ((DrawHoldsIn code).1) ((DrawHoldsIn code).2))) = true) ∧ ((!(HoldsIn ((DrawHoldsIn code).1) ((DrawHoldsIn code).2))) = false)) → ((((bif ((bits .and .i64 (Dep.From ((DrawHoldsIn code).1)) (Dep.To ((DrawHoldsIn code).1))) != (Dep.To ((DrawHoldsIn code).1))) then true else (HoldsIn ((DrawHoldsIn code).1) ((DrawHoldsIn code).2))) = true) ∧ ((!(HoldsIn ((DrawHoldsIn code).1) ((DrawHoldsIn code).2))) = false)))), ((((bif ((bits .and .i64 (Dep.From ((DrawHoldsIn code).1)) (Dep.To ((DrawHoldsIn code).1))) != (Dep.To ((DrawHoldsIn code).1))) then true else (HoldsIn ((DrawHoldsIn code).1) ((DrawHoldsIn code).2))) = true) ∧ ((!(HoldsIn ((DrawHoldsIn code).1) ((DrawHoldsIn code).2))) = false)) → ((((bif ((bits .and .i64 (Dep.From ((DrawHoldsIn code).1)) (Dep.To ((DrawHoldsIn code).1))) != (Dep.To ((DrawHoldsIn code).1))) then true else (HoldsIn ((DrawHoldsIn code).1) ((DrawHoldsIn code).2))) = true) ∧ ((!(HoldsIn ((DrawHoldsIn code).1) ((DrawHoldsIn code).2))) = false)))), ((((bif ((bits .and .i64 (Dep.From ((DrawHoldsIn code).1)) (Dep.To ((DrawHoldsIn code).1))) != (Dep.To ((DrawHoldsIn code).1))) then true else (HoldsIn ((DrawHoldsIn code).1) ((DrawHoldsIn code).2))) = true) ∧ ((!(HoldsIn ((DrawHoldsIn code).1) ((DrawHoldsIn code).2))) = false)) → (True)), (((bif ((bits .and .i64 (Dep.From ((DrawHoldsIn code).1)) (Dep.To ((DrawHoldsIn code).1))) != (Dep.To ((DrawHoldsIn code).1))) then true else (HoldsIn ((DrawHoldsIn code).1) ((DrawHoldsIn code).2))) = true) → (((bif ((bits .and .i64 (Dep.From ((DrawHoldsIn code).1)) (Dep.To ((DrawHoldsIn code).1))) != (Dep.To ((DrawHoldsIn code).1))) then true else (HoldsIn ((DrawHoldsIn code).1) ((DrawHoldsIn code).2))) = true))), (((bif ((bits .and .i64 (Dep.From ((DrawHoldsIn code).1)) (Dep.To ((DrawHoldsIn code).1))) != (Dep.To ((DrawHoldsIn code).1))) then true else (HoldsIn ((DrawHoldsIn code).1) ((DrawHoldsIn code).2))) = true) → (((!(HoldsIn ((DrawHoldsIn code).1) ((DrawHoldsIn code).2))) = false) → ((((bif ((bits .and .i64 (Dep.From ((DrawHoldsIn code).1)) (Dep.To ((DrawHoldsIn code).1))) != (Dep.To ((DrawHoldsIn code).1))) then true else (HoldsIn ((DrawHoldsIn code).1) ((DrawHoldsIn code).2))) = true) ∧ ((!(HoldsIn ((DrawHoldsIn code).1) ((DrawHoldsIn code).2))) = false))))), (((bif ((bits .and .i64 (Dep.From ((DrawHoldsIn code).1)) (Dep.To ((DrawHoldsIn code).1))) != (Dep.To ((DrawHoldsIn code).1))) then true else (HoldsIn ((DrawHoldsIn code).1) ((DrawHoldsIn code).2))) = true) → (((bif ((bits .and .i64 (Dep.From ((DrawHoldsIn code).1)) (Dep.To ((DrawHoldsIn code).1))) != (Dep.To ((DrawHoldsIn code).1))) then true else (HoldsIn ((DrawHoldsIn code).1) ((DrawHoldsIn code).2))) = true)))] ?_ ?_)
   ·
    refine ⟨?_, ?_, ?_, ?_, ?_, ?_, ?_, ?_, ?_, trivial⟩
    ·
     intro g28
     have g28p0 : (bits .and .i64 (Dep.From ((DrawHoldsIn code).1)) (Dep.To ((DrawHoldsIn code).1))) = (Dep.To ((DrawHoldsIn code).1)) := (Go.Am.bne_neg g28)
     first | assumption | exact ⟨by assumption, by assumption⟩
    ·
     intro g29
     have g29p0 : ((bits .and .i64 (Dep.From ((DrawHoldsIn code).1)) (Dep.To ((DrawHoldsIn code).1))) ≠ (Dep.To ((DrawHoldsIn code).1))) ∨ ((HoldsIn ((DrawHoldsIn code).1) ((DrawHoldsIn code).2)) = true) := (Or.imp (fun h => (Go.Am.bne_pos h)) (fun h => h) (Go.Am.or_pos g29))
     first | assumption | exact ⟨by assumption, by assumption⟩
    ·
     intro g30
     have g30p0 : ((bits .and .i64 (Dep.From ((DrawHoldsIn code).1)) (Dep.To ((DrawHoldsIn code).1))) ≠ (Dep.To ((DrawHoldsIn code).1))) ∨ ((HoldsIn ((DrawHoldsIn code).1) ((DrawHoldsIn code).2)) = true) := (Or.imp (fun h => (Go.Am.bne_pos h)) (fun h => h) (Go.Am.or_pos g30))
     first | assumption | exact ⟨by assumption, by assumption⟩
    ·
     intro g31
     have g31p0 : ((bits .and .i64 (Dep.From ((DrawHoldsIn code).1)) (Dep.To ((DrawHoldsIn code).1))) ≠ (Dep.To ((DrawHoldsIn code).1))) ∨ ((HoldsIn ((DrawHoldsIn code).1) ((DrawHoldsIn code).2)) = true) := (Or.imp (fun h => (Go.Am.bne_pos h)) (fun h => h) (Go.Am.or_pos (g31).1))
     have g31p1 : (HoldsIn ((DrawHoldsIn code).1) ((DrawHoldsIn code).2)) = true := (Go.Am.not_neg (g31).2)
     first | assumption | exact ⟨by assumption, by assumption⟩
    ·
     intro g32
     have g32p0 : ((bits .and .i64 (Dep.From ((DrawHoldsIn code).1)) (Dep.To ((DrawHoldsIn code).1))) ≠ (Dep.To ((DrawHoldsIn code).1))) ∨ ((HoldsIn ((DrawHoldsIn code).1) ((DrawHoldsIn code).2)) = true) := (Or.imp (fun h => (Go.Am.bne_pos h)) (fun h => h) (Go.Am.or_pos (g32).1))
     have g32p1 : (HoldsIn ((DrawHoldsIn code).1) ((DrawHoldsIn code).2)) = true := (Go.Am.not_neg (g32).2)
     first | assumption | exact ⟨by assumption, by assumption⟩
    ·
     intro g33
     have g33p0 : ((bits .and .i64 (Dep.From ((DrawHoldsIn code).1)) (Dep.To ((DrawHoldsIn code).1))) ≠ (Dep.To ((DrawHoldsIn code).1))) ∨ ((HoldsIn ((DrawHoldsIn code).1) ((DrawHoldsIn code).2)) = true) := (Or.imp (fun h => (Go.Am.bne_pos h)) (fun h => h) (Go.Am.or_pos (g33).1))
     have g33p1 : (HoldsIn ((DrawHoldsIn code).1) ((DrawHoldsIn code).2)) = true := (Go.Am.not_neg (g33).2)
     trivial
    ·
     intro g34
     have g34p0 : ((bits .and .i64 (Dep.From ((DrawHoldsIn code).1)) (Dep.To ((DrawHoldsIn code).1))) ≠ (Dep.To ((DrawHoldsIn code).1))) ∨ ((HoldsIn ((DrawHoldsIn code).1) ((DrawHoldsIn code).2)) = true) := (Or.imp (fun h => (Go.Am.bne_pos h)) (fun h => h) (Go.Am.or_pos g34))
     first | assumption | exact ⟨by assumption, by assumption⟩
    ·
     intro g35
     have g35p0 : ((bits .and .i64 (Dep.From ((DrawHoldsIn code).1)) (Dep.To ((DrawHoldsIn code).1))) ≠ (Dep.To ((DrawHoldsIn code).1))) ∨ ((HoldsIn ((DrawHoldsIn code).1) ((DrawHoldsIn code).2)) = true) := (Or.imp (fun h => (Go.Am.bne_pos h)) (fun h => h) (Go.Am.or_pos g35))
     intro g36
     have g36p0 : (HoldsIn ((DrawHoldsIn code).1) ((DrawHoldsIn code).2)) = true := (Go.Am.not_neg g36)
     first | assumption | exact ⟨by assumption, by assumption⟩
    ·
     intro g37
     have g37p0 : ((bits .and .i64 (Dep.From ((DrawHoldsIn code).1)) (Dep.To ((DrawHoldsIn code).1))) ≠ (Dep.To ((DrawHoldsIn code).1))) ∨ ((HoldsIn ((DrawHoldsIn code).1) ((DrawHoldsIn code).2)) = true) := (Or.imp (fun h => (Go.Am.bne_pos h)) (fun h => h) (Go.Am.or_pos g37))
     first | assumption | exact ⟨by assumption, by assumption⟩
   exact AW.ret (AW.retE (β := Bool) (fun v => [⟨.bool, v⟩]) (fun v => []) (v := (bif (bif ((bits .and .i64 (Dep.From ((DrawHoldsIn code).1)) (Dep.To ((DrawHoldsIn code).1))) != (Dep.To ((DrawHoldsIn code).1))) then true else (HoldsIn ((DrawHoldsIn code).1) ((DrawHoldsIn code).2))) then (bif (!(HoldsIn ((DrawHoldsIn code).1) ((DrawHoldsIn code).2))) then true else (HoldsIn ((DrawHoldsIn code).1) (Tab.mk (Tab.Width ((DrawHoldsIn code).2)) (List.take (Int.toNat (((List.length (Tab.Rows ((DrawHoldsIn code).2)) : Nat) : Int) / 2)) (Tab.Rows ((DrawHoldsIn code).2)))))) else false)) e27 (by kernel_rfl) rfl rfl)

end
end Go.Proofs.Ytbhgdogogpihhaa
