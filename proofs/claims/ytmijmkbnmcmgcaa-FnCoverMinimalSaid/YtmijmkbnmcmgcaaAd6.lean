/-
  A part of the proof of this claim (Ad6): what functions of the program compute, and plain facts of that. No conditions.
-/
import Derived.Test.YtmijmkbnmcmgcaaAd5
set_option linter.all false
namespace Go.Proofs.Ytmijmkbnmcmgcaa
open Go Go.Am
noncomputable section

def someSet (r : Rdr) (width : Int) : Int × Rdr := (bif ((pick (Rdr.b r) (Rdr.p r) 16) == 0) then ((one (Rdr.b r) ((Rdr.p r) + 1) ([(-1), 64] : List Int)), (Rdr.mk (Rdr.b r) (((Rdr.p r) + 1) + 1))) else ((pick (Rdr.b r) ((Rdr.p r) + 1) ((1 : Int) * 2 ^ (Int.toNat (if 6 < (if 0 > width then 0 else width) then 6 else (if 0 > width then 0 else width))))), (Rdr.mk (Rdr.b r) (((Rdr.p r) + 1) + 1))))

def someSet_sp : FnSpec := mkSpecB [.box 1, .val (.int .i64)] [.val (.int .i64)] (fun (r : Rdr) (width : Int) => 0 ≤ r.p ∧ r.p ≤ 1000000000000) (fun (r : Rdr) (width : Int) => [⟨(.int .i64), ((someSet r width).1)⟩]) (fun (r : Rdr) (width : Int) => [⟨(.named 1), ((someSet r width).2)⟩])

theorem someSet_ok : FnOK Try.prog 58 someSet_sp := by
 have hC : CtxOK Try.prog (mkCtx tyL [(49, pickS), (59, oneS)]) := CtxOK.cons pickS_ok (CtxOK.cons oneS_ok (CtxOK.nil tyOK))
 refine FnOK.of_body Try.func58 (by kernel_rfl) rfl (C := (mkCtx tyL [(49, pickS), (59, oneS)])) hC.ty (by kernel_rfl) ?_
 intro (r : Rdr) (width : Int) hwf hpre E
 have hpre : 0 ≤ r.p ∧ r.p ≤ 1000000000000 := hpre
 have hw_r : Wf ⟨(.named 1), (r : Rdr)⟩ := hwf _ (List.Mem.head _)
 have hl_r_b : ((List.length (Rdr.b r) : Nat) : Int) ≤ 9223372036854775807 := (hw_r.field (tv := ⟨(.slice (.int .u8)), Rdr.b r⟩) (List.Mem.head _)).len
 have hr_r_p : -9223372036854775808 ≤ Rdr.p r ∧ Rdr.p r ≤ 9223372036854775807 := (hw_r.field (tv := ⟨(.int .i64), Rdr.p r⟩) (List.Mem.tail _ (List.Mem.head _))).int_inv
 have hw_width : Wf ⟨(.int .i64), (width : Int)⟩ := hwf _ (List.Mem.tail _ (List.Mem.head _))
 have hr_width : -9223372036854775808 ≤ width ∧ width ≤ 9223372036854775807 := hw_width.int_inv
 have e0 : someSet r width = someSet r width := rfl
 refine AW.seq (AW.r1 hC [0, 1] [0] ⟨[(0, .ref 0 0 0), (1, .int .i64 width)], [(0, .box 0 [.data (.slice (.int .u8)) ((Rdr.b r) : List Int), .int .i64 (Rdr.p r)])]⟩ ?_)
 refine AW.seq (AW.seq (AW.r0 hC [0, 1, 7] [0] ⟨[(0, .ref 0 0 0), (1, .int .i64 width), (7, .bool ((pick (Rdr.b r) (Rdr.p r) 16) == 0))], [(0, .box 0 [.data (.slice (.int .u8)) ((Rdr.b r) : List Int), .int .i64 ((Rdr.p r) + 1)])]⟩ [(0 ≤ r.p ∧ r.p ≤ 1099511627776)] ?_ ?_))
 ·
  refine ⟨?_, trivial⟩
  ·
   omega
 refine AW.cd ((pick (Rdr.b r) (Rdr.p r) 16) == 0) ?_ ?_
 ·
  intro h1
  have h1q : (pick (Rdr.b r) (Rdr.p r) 16) = 0 := (Go.Am.beq_pos h1)
  have e2 := e0.trans (Go.Am.bif_t h1)
  refine AW.seq (AW.r0 hC [4] [0] ⟨[(4, .int .i64 (one (Rdr.b r) ((Rdr.p r) + 1) ([(-1), 64] : List Int)))], [(0, .box 0 [.data (.slice (.int .u8)) ((Rdr.b r) : List Int), .int .i64 (((Rdr.p r) + 1) + 1)])]⟩ [((0 ≤ (Rdr.mk (Rdr.b r) ((Rdr.p r) + 1)).p ∧ (Rdr.mk (Rdr.b r) ((Rdr.p r) + 1)).p ≤ 1099511627775) ∧ 1 ≤ (List.length ([(-1), 64] : List Int) : Int))] ?_ ?_)
  ·
   refine ⟨?_, trivial⟩
   ·
    refine ⟨?_, ?_⟩ <;> (try dsimp only) <;> first | omega | decide
  exact AW.ret (AW.retE (β := Int × Rdr) (fun v => [⟨(.int .i64), v.1⟩]) (fun v => [⟨(.named 1), v.2⟩]) (v := ((one (Rdr.b r) ((Rdr.p r) + 1) ([(-1), 64] : List Int)), (Rdr.mk (Rdr.b r) (((Rdr.p r) + 1) + 1)))) e2 (by kernel_rfl) rfl rfl)
 ·
  intro h3
  have h3q : (pick (Rdr.b r) (Rdr.p r) 16) ≠ 0 := (Go.Am.beq_neg h3)
  have e4 := e0.trans (Go.Am.bif_f h3)
  refine AW.kp [0, 1] [0] ⟨[(0, .ref 0 0 0), (1, .int .i64 width)], [(0, .box 0 [.data (.slice (.int .u8)) ((Rdr.b r) : List Int), .int .i64 ((Rdr.p r) + 1)])]⟩ ?_
  refine AW.skip (AW.seq (AW.r0 hC [4] [0] ⟨[(4, .int .i64 (pick (Rdr.b r) ((Rdr.p r) + 1) ((1 : Int) * 2 ^ (Int.toNat (if 6 < (if 0 > width then 0 else width) then 6 else (if 0 > width then 0 else width))))))], [(0, .box 0 [.data (.slice (.int .u8)) ((Rdr.b r) : List Int), .int .i64 (((Rdr.p r) + 1) + 1)])]⟩ [(0 ≤ (if 6 < (if 0 > width then 0 else width) then 6 else (if 0 > width then 0 else width)) ∧ (if 6 < (if 0 > width then 0 else width) then 6 else (if 0 > width then 0 else width)) ≤ 64), (-9223372036854775808 ≤ ((1 : Int) * 2 ^ (Int.toNat (if 6 < (if 0 > width then 0 else width) then 6 else (if 0 > width then 0 else width)))) ∧ ((1 : Int) * 2 ^ (Int.toNat (if 6 < (if 0 > width then 0 else width) then 6 else (if 0 > width then 0 else width)))) ≤ 9223372036854775807), (0 ≤ (Rdr.mk (Rdr.b r) ((Rdr.p r) + 1)).p ∧ (Rdr.mk (Rdr.b r) ((Rdr.p r) + 1)).p ≤ 1099511627776)] ?_ ?_))
  ·
   refine ⟨?_, ?_, ?_, trivial⟩
   ·
    generalize hm : (if 6 < (if 0 > width then 0 else width) then 6 else (if 0 > width then 0 else width)) = m
    have hm0 : 0 ≤ m ∧ m ≤ 6 := by rw [← hm]; split <;> split <;> omega
    have := pow32 hm0.2 hm0.1
    omega
   ·
    generalize hm : (if 6 < (if 0 > width then 0 else width) then 6 else (if 0 > width then 0 else width)) = m
    have hm0 : 0 ≤ m ∧ m ≤ 6 := by rw [← hm]; split <;> split <;> omega
    have := pow32 hm0.2 hm0.1
    omega
   ·
    dsimp only; omega
  exact AW.ret (AW.retE (β := Int × Rdr) (fun v => [⟨(.int .i64), v.1⟩]) (fun v => [⟨(.named 1), v.2⟩]) (v := ((pick (Rdr.b r) ((Rdr.p r) + 1) ((1 : Int) * 2 ^ (Int.toNat (if 6 < (if 0 > width then 0 else width) then 6 else (if 0 > width then 0 else width))))), (Rdr.mk (Rdr.b r) (((Rdr.p r) + 1) + 1)))) e4 (by kernel_rfl) rfl rfl)

theorem someSet_p (r : Rdr) (w : Int) : r.p ≤ (someSet r w).2.p ∧ (someSet r w).2.p ≤ r.p + 2 := by
 unfold someSet
 cases (pick (Rdr.b r) (Rdr.p r) 16 == 0) with
 | true => simp only [cond_true]; omega
 | false => simp only [cond_false]; omega

def DrawClosureOf (code : List Int) : (List Dep) × Int × Int := (((someDependencies (newReader code)).1), ((someDependencies (newReader code)).2.1), ((someSet ((someDependencies (newReader code)).2.2) ((someDependencies (newReader code)).2.1)).1))

def DrawClosureOf_sp : FnSpec := mkSpec [.val (.slice (.int .u8))] [.own (.named 0), .val (.int .i64), .val (.int .i64)] (fun (code : List Int) => True) (fun (code : List Int) => [⟨(.slice (.named 0)), ((DrawClosureOf code).1)⟩, ⟨(.int .i64), ((DrawClosureOf code).2.1)⟩, ⟨(.int .i64), ((DrawClosureOf code).2.2)⟩])

theorem DrawClosureOf_ok : FnOK Try.prog 43 DrawClosureOf_sp := by
 have hC : CtxOK Try.prog (mkCtx tyL [(47, newReader_sp), (48, someDependencies_sp), (58, someSet_sp)]) := CtxOK.cons newReader_ok (CtxOK.cons someDependencies_ok (CtxOK.cons someSet_ok (CtxOK.nil tyOK)))
 refine FnOK.of_body Try.func43 (by kernel_rfl) rfl (C := (mkCtx tyL [(47, newReader_sp), (48, someDependencies_sp), (58, someSet_sp)])) hC.ty (by kernel_rfl) ?_
 intro (code : List Int) hwf hpre E
 have hpre : True := hpre
 have hw_code : Wf ⟨(.slice (.int .u8)), (code : List Int)⟩ := hwf _ (List.Mem.head _)
 have hl_code : ((List.length code : Nat) : Int) ≤ 9223372036854775807 := hw_code.len
 have e0 : DrawClosureOf code = DrawClosureOf code := rfl
 refine AW.seq (AW.r1 hC [0] [] ⟨[(0, .data (.slice (.int .u8)) (code : List Int))], []⟩ ?_)
 refine AW.seq (AW.r0 hC [5] [36] ⟨[(5, .ref 36 1 0)], [(36, .box 1 [.data (.slice (.int .u8)) ((Rdr.b (newReader code)) : List Int), .int .i64 (Rdr.p (newReader code))])]⟩ [(True)] ?_ ?_)
 ·
  refine ⟨?_, trivial⟩
  ·
   trivial
 refine AW.seq (AW.r0 hC [5, 6, 7] [36, 48] ⟨[(5, .ref 36 1 0), (6, .arr 48 1), (7, .int .i64 ((someDependencies (newReader code)).2.1))], [(36, .box 1 [.data (.slice (.int .u8)) ((Rdr.b ((someDependencies (newReader code)).2.2)) : List Int), .int .i64 (Rdr.p ((someDependencies (newReader code)).2.2))]), (48, .arr 1 (.named 0) (((someDependencies (newReader code)).1) : List Dep))]⟩ [(0 ≤ (newReader code).p ∧ (newReader code).p ≤ 1000000000000)] ?_ ?_)
 ·
  refine ⟨?_, trivial⟩
  ·
   have := newReader_p code
   omega
 refine AW.seq (AW.r0 hC [2, 3, 4] [48] ⟨[(2, .arr 48 1), (3, .int .i64 ((someDependencies (newReader code)).2.1)), (4, .int .i64 ((someSet ((someDependencies (newReader code)).2.2) ((someDependencies (newReader code)).2.1)).1))], [(48, .arr 1 (.named 0) (((someDependencies (newReader code)).1) : List Dep))]⟩ [(0 ≤ ((someDependencies (newReader code)).2.2).p ∧ ((someDependencies (newReader code)).2.2).p ≤ 1000000000000)] ?_ ?_)
 ·
  refine ⟨?_, trivial⟩
  ·
   have := someDependencies_p (newReader code)
   have := newReader_p code
   omega
 exact AW.ret (AW.retE (β := (List Dep) × Int × Int) (fun v => [⟨(.slice (.named 0)), v.1⟩, ⟨(.int .i64), v.2.1⟩, ⟨(.int .i64), v.2.2⟩]) (fun v => []) (v := (((someDependencies (newReader code)).1), ((someDependencies (newReader code)).2.1), ((someSet ((someDependencies (newReader code)).2.2) ((someDependencies (newReader code)).2.1)).1))) e0 (by kernel_rfl) rfl rfl)

def DrawIsKey (code : List Int) : (List Dep) × Int × Int := (((DrawClosureOf code).1), ((DrawClosureOf code).2.1), ((DrawClosureOf code).2.2))

def DrawIsKey_sp : FnSpec := mkSpec [.val (.slice (.int .u8))] [.own (.named 0), .val (.int .i64), .val (.int .i64)] (fun (code : List Int) => True) (fun (code : List Int) => [⟨(.slice (.named 0)), ((DrawIsKey code).1)⟩, ⟨(.int .i64), ((DrawIsKey code).2.1)⟩, ⟨(.int .i64), ((DrawIsKey code).2.2)⟩])

theorem DrawIsKey_ok : FnOK Try.prog 17 DrawIsKey_sp := by
 have hC : CtxOK Try.prog (mkCtx tyL [(43, DrawClosureOf_sp)]) := CtxOK.cons DrawClosureOf_ok (CtxOK.nil tyOK)
 refine FnOK.of_body Try.func17 (by kernel_rfl) rfl (C := (mkCtx tyL [(43, DrawClosureOf_sp)])) hC.ty (by kernel_rfl) ?_
 intro (code : List Int) hwf hpre E
 have hpre : True := hpre
 have hw_code : Wf ⟨(.slice (.int .u8)), (code : List Int)⟩ := hwf _ (List.Mem.head _)
 have hl_code : ((List.length code : Nat) : Int) ≤ 9223372036854775807 := hw_code.len
 have e0 : DrawIsKey code = DrawIsKey code := rfl
 refine AW.seq (AW.r1 hC [0] [] ⟨[(0, .data (.slice (.int .u8)) (code : List Int))], []⟩ ?_)
 refine AW.seq (AW.r0 hC [2, 3, 4] [24] ⟨[(2, .arr 24 1), (3, .int .i64 ((DrawClosureOf code).2.1)), (4, .int .i64 ((DrawClosureOf code).2.2))], [(24, .arr 1 (.named 0) (((DrawClosureOf code).1) : List Dep))]⟩ [(True)] ?_ ?_)
 ·
  refine ⟨?_, trivial⟩
  ·
   trivial
 exact AW.ret (AW.retE (β := (List Dep) × Int × Int) (fun v => [⟨(.slice (.named 0)), v.1⟩, ⟨(.int .i64), v.2.1⟩, ⟨(.int .i64), v.2.2⟩]) (fun v => []) (v := (((DrawClosureOf code).1), ((DrawClosureOf code).2.1), ((DrawClosureOf code).2.2))) e0 (by kernel_rfl) rfl rfl)

def DrawCandidateKeys (code : List Int) : (List Dep) × Int := (((someDependencies (newReader code)).1), ((someDependencies (newReader code)).2.1))

def DrawCandidateKeys_sp : FnSpec := mkSpec [.val (.slice (.int .u8))] [.own (.named 0), .val (.int .i64)] (fun (code : List Int) => True) (fun (code : List Int) => [⟨(.slice (.named 0)), ((DrawCandidateKeys code).1)⟩, ⟨(.int .i64), ((DrawCandidateKeys code).2)⟩])

theorem DrawCandidateKeys_ok : FnOK Try.prog 22 DrawCandidateKeys_sp := by
 have hC : CtxOK Try.prog (mkCtx tyL [(47, newReader_sp), (48, someDependencies_sp)]) := CtxOK.cons newReader_ok (CtxOK.cons someDependencies_ok (CtxOK.nil tyOK))
 refine FnOK.of_body Try.func22 (by kernel_rfl) rfl (C := (mkCtx tyL [(47, newReader_sp), (48, someDependencies_sp)])) hC.ty (by kernel_rfl) ?_
 intro (code : List Int) hwf hpre E
 have hpre : True := hpre
 have hw_code : Wf ⟨(.slice (.int .u8)), (code : List Int)⟩ := hwf _ (List.Mem.head _)
 have hl_code : ((List.length code : Nat) : Int) ≤ 9223372036854775807 := hw_code.len
 have e0 : DrawCandidateKeys code = DrawCandidateKeys code := rfl
 refine AW.seq (AW.r1 hC [0] [] ⟨[(0, .data (.slice (.int .u8)) (code : List Int))], []⟩ ?_)
 refine AW.seq (AW.r0 hC [2, 3] [24] ⟨[(2, .arr 24 1), (3, .int .i64 ((someDependencies (newReader code)).2.1))], [(24, .arr 1 (.named 0) (((someDependencies (newReader code)).1) : List Dep))]⟩ [(True), (0 ≤ (newReader code).p ∧ (newReader code).p ≤ 1000000000000)] ?_ ?_)
 ·
  refine ⟨?_, ?_, trivial⟩
  ·
   trivial
  ·
   have := newReader_p code
   omega
 exact AW.ret (AW.retE (β := (List Dep) × Int) (fun v => [⟨(.slice (.named 0)), v.1⟩, ⟨(.int .i64), v.2⟩]) (fun v => []) (v := (((someDependencies (newReader code)).1), ((someDependencies (newReader code)).2.1))) e0 (by kernel_rfl) rfl rfl)

def DrawMinimalCover (code : List Int) : (List Dep) × Int := (((someDependencies (newReader code)).1), ((someDependencies (newReader code)).2.1))

def DrawMinimalCover_sp : FnSpec := mkSpec [.val (.slice (.int .u8))] [.own (.named 0), .val (.int .i64)] (fun (code : List Int) => True) (fun (code : List Int) => [⟨(.slice (.named 0)), ((DrawMinimalCover code).1)⟩, ⟨(.int .i64), ((DrawMinimalCover code).2)⟩])

theorem DrawMinimalCover_ok : FnOK Try.prog 30 DrawMinimalCover_sp := by
 have hC : CtxOK Try.prog (mkCtx tyL [(47, newReader_sp), (48, someDependencies_sp)]) := CtxOK.cons newReader_ok (CtxOK.cons someDependencies_ok (CtxOK.nil tyOK))
 refine FnOK.of_body Try.func30 (by kernel_rfl) rfl (C := (mkCtx tyL [(47, newReader_sp), (48, someDependencies_sp)])) hC.ty (by kernel_rfl) ?_
 intro (code : List Int) hwf hpre E
 have hpre : True := hpre
 have hw_code : Wf ⟨(.slice (.int .u8)), (code : List Int)⟩ := hwf _ (List.Mem.head _)
 have hl_code : ((List.length code : Nat) : Int) ≤ 9223372036854775807 := hw_code.len
 have e0 : DrawMinimalCover code = DrawMinimalCover code := rfl
 refine AW.seq (AW.r1 hC [0] [] ⟨[(0, .data (.slice (.int .u8)) (code : List Int))], []⟩ ?_)
 refine AW.seq (AW.r0 hC [2, 3] [24] ⟨[(2, .arr 24 1), (3, .int .i64 ((someDependencies (newReader code)).2.1))], [(24, .arr 1 (.named 0) (((someDependencies (newReader code)).1) : List Dep))]⟩ [(True), (0 ≤ (newReader code).p ∧ (newReader code).p ≤ 1000000000000)] ?_ ?_)
 ·
  refine ⟨?_, ?_, trivial⟩
  ·
   trivial
  ·
   have := newReader_p code
   omega
 exact AW.ret (AW.retE (β := (List Dep) × Int) (fun v => [⟨(.slice (.named 0)), v.1⟩, ⟨(.int .i64), v.2⟩]) (fun v => []) (v := (((someDependencies (newReader code)).1), ((someDependencies (newReader code)).2.1))) e0 (by kernel_rfl) rfl rfl)

def DrawIsNormalForm (code : List Int) : (List Dep) × Int := (bif (bif ((pick (Rdr.b ((someDependencies (newReader code)).2.2)) (Rdr.p ((someDependencies (newReader code)).2.2)) 2) == 0) then (decide (1 < ((List.length ((someDependencies (newReader code)).1) : Nat) : Int))) else false) then ((List.take 1 (List.drop 0 ((someDependencies (newReader code)).1))), ((someDependencies (newReader code)).2.1)) else (((someDependencies (newReader code)).1), ((someDependencies (newReader code)).2.1)))

def DrawIsNormalForm_sp : FnSpec := mkSpec [.val (.slice (.int .u8))] [.val (.slice (.named 0)), .val (.int .i64)] (fun (code : List Int) => True) (fun (code : List Int) => [⟨(.slice (.named 0)), ((DrawIsNormalForm code).1)⟩, ⟨(.int .i64), ((DrawIsNormalForm code).2)⟩])

theorem DrawIsNormalForm_ok : FnOK Try.prog 21 DrawIsNormalForm_sp := by
 have hC : CtxOK Try.prog (mkCtx tyL [(47, newReader_sp), (48, someDependencies_sp), (49, pickS)]) := CtxOK.cons newReader_ok (CtxOK.cons someDependencies_ok (CtxOK.cons pickS_ok (CtxOK.nil tyOK)))
 refine FnOK.of_body Try.func21 (by kernel_rfl) rfl (C := (mkCtx tyL [(47, newReader_sp), (48, someDependencies_sp), (49, pickS)])) hC.ty (by kernel_rfl) ?_
 intro (code : List Int) hwf hpre E
 have hpre : True := hpre
 have hw_code : Wf ⟨(.slice (.int .u8)), (code : List Int)⟩ := hwf _ (List.Mem.head _)
 have hl_code : ((List.length code : Nat) : Int) ≤ 9223372036854775807 := hw_code.len
 have e0 : DrawIsNormalForm code = DrawIsNormalForm code := rfl
 refine AW.seq (AW.r1 hC [0] [] ⟨[(0, .data (.slice (.int .u8)) (code : List Int))], []⟩ ?_)
 refine AW.seq (AW.r0 hC [4] [32] ⟨[(4, .ref 32 1 0)], [(32, .box 1 [.data (.slice (.int .u8)) ((Rdr.b (newReader code)) : List Int), .int .i64 (Rdr.p (newReader code))])]⟩ [(True)] ?_ ?_)
 ·
  refine ⟨?_, trivial⟩
  ·
   trivial
 refine AW.seq (AW.r0 hC [4, 5, 6] [32, 44] ⟨[(4, .ref 32 1 0), (5, .arr 44 1), (6, .int .i64 ((someDependencies (newReader code)).2.1))], [(32, .box 1 [.data (.slice (.int .u8)) ((Rdr.b ((someDependencies (newReader code)).2.2)) : List Int), .int .i64 (Rdr.p ((someDependencies (newReader code)).2.2))]), (44, .arr 1 (.named 0) (((someDependencies (newReader code)).1) : List Dep))]⟩ [(0 ≤ (newReader code).p ∧ (newReader code).p ≤ 1000000000000)] ?_ ?_)
 ·
  refine ⟨?_, trivial⟩
  ·
   have := newReader_p code
   omega
 refine AW.seq (AW.seq (AW.r0 hC [5, 6, 21] [44] ⟨[(5, .arr 44 1), (6, .int .i64 ((someDependencies (newReader code)).2.1)), (21, .bool (bif ((pick (Rdr.b ((someDependencies (newReader code)).2.2)) (Rdr.p ((someDependencies (newReader code)).2.2)) 2) == 0) then (decide (1 < ((List.length ((someDependencies (newReader code)).1) : Nat) : Int))) else false))], [(44, .arr 1 (.named 0) (((someDependencies (newReader code)).1) : List Dep))]⟩ [(0 ≤ ((someDependencies (newReader code)).2.2).p ∧ ((someDependencies (newReader code)).2.2).p ≤ 1099511627776), ((((pick (Rdr.b ((someDependencies (newReader code)).2.2)) (Rdr.p ((someDependencies (newReader code)).2.2)) 2) == 0) = true) → ((((pick (Rdr.b ((someDependencies (newReader code)).2.2)) (Rdr.p ((someDependencies (newReader code)).2.2)) 2) == 0) = true))), ((((pick (Rdr.b ((someDependencies (newReader code)).2.2)) (Rdr.p ((someDependencies (newReader code)).2.2)) 2) == 0) = true) → ((((pick (Rdr.b ((someDependencies (newReader code)).2.2)) (Rdr.p ((someDependencies (newReader code)).2.2)) 2) == 0) = true))), ((((pick (Rdr.b ((someDependencies (newReader code)).2.2)) (Rdr.p ((someDependencies (newReader code)).2.2)) 2) == 0) = true) → ((((pick (Rdr.b ((someDependencies (newReader code)).2.2)) (Rdr.p ((someDependencies (newReader code)).2.2)) 2) == 0) = true)))] ?_ ?_))
 ·
  refine ⟨?_, ?_, ?_, ?_, trivial⟩
  ·
   have := someDependencies_p (newReader code)
   have := newReader_p code
   omega
  ·
   intro g1
   have g1p0 : (pick (Rdr.b ((someDependencies (newReader code)).2.2)) (Rdr.p ((someDependencies (newReader code)).2.2)) 2) = 0 := (Go.Am.beq_pos g1)
   assumption
  ·
   intro g2
   have g2p0 : (pick (Rdr.b ((someDependencies (newReader code)).2.2)) (Rdr.p ((someDependencies (newReader code)).2.2)) 2) = 0 := (Go.Am.beq_pos g2)
   assumption
  ·
   intro g3
   have g3p0 : (pick (Rdr.b ((someDependencies (newReader code)).2.2)) (Rdr.p ((someDependencies (newReader code)).2.2)) 2) = 0 := (Go.Am.beq_pos g3)
   assumption
 refine AW.cd (bif ((pick (Rdr.b ((someDependencies (newReader code)).2.2)) (Rdr.p ((someDependencies (newReader code)).2.2)) 2) == 0) then (decide (1 < ((List.length ((someDependencies (newReader code)).1) : Nat) : Int))) else false) ?_ ?_
 ·
  intro h4
  have h4q : ((pick (Rdr.b ((someDependencies (newReader code)).2.2)) (Rdr.p ((someDependencies (newReader code)).2.2)) 2) = 0) ∧ (1 < ((List.length ((someDependencies (newReader code)).1) : Nat) : Int)) := (And.imp (fun h => (Go.Am.beq_pos h)) (fun h => (of_decide_eq_true h)) (Go.Am.and_pos h4))
  have e5 := e0.trans (Go.Am.bif_t h4)
  refine AW.seq (AW.r0 hC [2, 3] [44] ⟨[(2, .sub 44 1 0 1), (3, .int .i64 ((someDependencies (newReader code)).2.1))], [(44, .arr 1 (.named 0) (((someDependencies (newReader code)).1) : List Dep))]⟩ [(0 ≤ (1 : Int) ∧ (1 : Int) ≤ ((List.length ((someDependencies (newReader code)).1) : Nat) : Int))] ?_ ?_)
  ·
   refine ⟨?_, trivial⟩
   ·
    have := someDependencies_p (newReader code)
    have := newReader_p code
    omega
  exact AW.ret (AW.retE (β := (List Dep) × Int) (fun v => [⟨(.slice (.named 0)), v.1⟩, ⟨(.int .i64), v.2⟩]) (fun v => []) (v := ((List.take 1 (List.drop 0 ((someDependencies (newReader code)).1))), ((someDependencies (newReader code)).2.1))) e5 (by kernel_rfl) rfl rfl)
 ·
  intro h6
  have h6q : ((pick (Rdr.b ((someDependencies (newReader code)).2.2)) (Rdr.p ((someDependencies (newReader code)).2.2)) 2) ≠ 0) ∨ (¬ (1 < ((List.length ((someDependencies (newReader code)).1) : Nat) : Int))) := (Or.imp (fun h => (Go.Am.beq_neg h)) (fun h => (of_decide_eq_false h)) (Go.Am.and_neg h6))
  have e7 := e0.trans (Go.Am.bif_f h6)
  refine AW.kp [5, 6] [44] ⟨[(5, .arr 44 1), (6, .int .i64 ((someDependencies (newReader code)).2.1))], [(44, .arr 1 (.named 0) (((someDependencies (newReader code)).1) : List Dep))]⟩ ?_
  refine AW.skip (AW.seq (AW.r1 hC [2, 3] [44] ⟨[(2, .arr 44 1), (3, .int .i64 ((someDependencies (newReader code)).2.1))], [(44, .arr 1 (.named 0) (((someDependencies (newReader code)).1) : List Dep))]⟩ ?_))
  exact AW.ret (AW.retE (β := (List Dep) × Int) (fun v => [⟨(.slice (.named 0)), v.1⟩, ⟨(.int .i64), v.2⟩]) (fun v => []) (v := (((someDependencies (newReader code)).1), ((someDependencies (newReader code)).2.1))) e7 (by kernel_rfl) rfl rfl)

def FnIsKey (code : List Int) (more : List Int) : Bool := (bif (bif (decide (1048576 < ((List.length code : Nat) : Int))) then true else (decide (1048576 < ((List.length more : Nat) : Int)))) then true else (bif (bif (bif (bif ((iIsKey ((DrawIsKey code).1) ((DrawIsKey code).2.1) ((DrawIsKey code).2.2)) != (IsKey ((DrawIsKey code).1) ((DrawIsKey code).2.1) ((DrawIsKey code).2.2))) then true else (!(ValidDependencies ((DrawIsKey code).1) ((DrawIsKey code).2.1)))) then true else (decide (((DrawIsKey code).2.2) < 0))) then true else (decide (((1 : Int) * 2 ^ (Int.toNat ((DrawIsKey code).2.1))) ≤ ((DrawIsKey code).2.2)))) then ((iIsKey ((DrawIsKey code).1) ((DrawIsKey code).2.1) ((DrawIsKey code).2.2)) == (IsKey ((DrawIsKey code).1) ((DrawIsKey code).2.1) ((DrawIsKey code).2.2))) else (bif (iIsKey ((DrawIsKey code).1) ((DrawIsKey code).2.1) (((1 : Int) * 2 ^ (Int.toNat ((DrawIsKey code).2.1))) - 1)) then (bif (!(iIsKey ((DrawIsKey code).1) ((DrawIsKey code).2.1) ((DrawIsKey code).2.2))) then true else (iIsKey ((DrawIsKey code).1) ((DrawIsKey code).2.1) (bits .or .i64 ((DrawIsKey code).2.2) (((List.length more : Nat) : Int) % ((1 : Int) * 2 ^ (Int.toNat ((DrawIsKey code).2.1))))))) else false)))

def FnIsKey_sp : FnSpec := mkSpec [.val (.slice (.int .u8)), .val (.slice (.int .u8))] [.val .bool] (fun (code : List Int) (more : List Int) => True) (fun (code : List Int) (more : List Int) => [⟨.bool, (FnIsKey code more)⟩])

theorem FnIsKey_ok : FnOK Try.prog 4 FnIsKey_sp := by
 have hC : CtxOK Try.prog (mkCtx tyL [(13, IsKey_sp), (15, iIsKey_sp), (17, DrawIsKey_sp), (18, ValidDependencies_sp)]) := CtxOK.cons IsKey_ok (CtxOK.cons iIsKey_ok (CtxOK.cons DrawIsKey_ok (CtxOK.cons ValidDependencies_ok (CtxOK.nil tyOK))))
 refine FnOK.of_body Try.func4 (by kernel_rfl) rfl (C := (mkCtx tyL [(13, IsKey_sp), (15, iIsKey_sp), (17, DrawIsKey_sp), (18, ValidDependencies_sp)])) hC.ty (by kernel_rfl) ?_
 intro (code : List Int) (more : List Int) hwf hpre E
 have hpre : True := hpre
 have hw_code : Wf ⟨(.slice (.int .u8)), (code : List Int)⟩ := hwf _ (List.Mem.head _)
 have hl_code : ((List.length code : Nat) : Int) ≤ 9223372036854775807 := hw_code.len
 have hw_more : Wf ⟨(.slice (.int .u8)), (more : List Int)⟩ := hwf _ (List.Mem.tail _ (List.Mem.head _))
 have hl_more : ((List.length more : Nat) : Int) ≤ 9223372036854775807 := hw_more.len
 have e0 : FnIsKey code more = FnIsKey code more := rfl
 refine AW.seq (AW.r1 hC [0, 1] [] ⟨[(0, .data (.slice (.int .u8)) (code : List Int)), (1, .data (.slice (.int .u8)) (more : List Int))], []⟩ ?_)
 refine AW.seq (AW.seq (AW.r0 hC [0, 1, 16] [] ⟨[(0, .data (.slice (.int .u8)) (code : List Int)), (1, .data (.slice (.int .u8)) (more : List Int)), (16, .bool (bif (decide (1048576 < ((List.length code : Nat) : Int))) then true else (decide (1048576 < ((List.length more : Nat) : Int)))))], []⟩ [(((decide (1048576 < ((List.length code : Nat) : Int))) = false) → (((decide (1048576 < ((List.length code : Nat) : Int))) = false))), (((decide (1048576 < ((List.length code : Nat) : Int))) = false) → (((decide (1048576 < ((List.length code : Nat) : Int))) = false))), (((decide (1048576 < ((List.length code : Nat) : Int))) = false) → (((decide (1048576 < ((List.length code : Nat) : Int))) = false)))] ?_ ?_))
 ·
  refine ⟨?_, ?_, ?_, trivial⟩
  ·
   intro g1
   have g1p0 : ¬ (1048576 < ((List.length code : Nat) : Int)) := (of_decide_eq_false g1)
   assumption
  ·
   intro g2
   have g2p0 : ¬ (1048576 < ((List.length code : Nat) : Int)) := (of_decide_eq_false g2)
   assumption
  ·
   intro g3
   have g3p0 : ¬ (1048576 < ((List.length code : Nat) : Int)) := (of_decide_eq_false g3)
   assumption
 refine AW.cd (bif (decide (1048576 < ((List.length code : Nat) : Int))) then true else (decide (1048576 < ((List.length more : Nat) : Int)))) ?_ ?_
 ·
  intro h4
  have h4q : (1048576 < ((List.length code : Nat) : Int)) ∨ (1048576 < ((List.length more : Nat) : Int)) := (Or.imp (fun h => (of_decide_eq_true h)) (fun h => (of_decide_eq_true h)) (Go.Am.or_pos h4))
  have e5 := e0.trans (Go.Am.bif_t h4)
  refine AW.seq (AW.r1 hC [4] [] ⟨[(4, .bool true)], []⟩ ?_)
  exact AW.ret (AW.retE (β := Bool) (fun v => [⟨.bool, v⟩]) (fun v => []) (v := true) e5 (by kernel_rfl) rfl rfl)
 ·
  intro h6
  have h6q : (¬ (1048576 < ((List.length code : Nat) : Int))) ∧ (¬ (1048576 < ((List.length more : Nat) : Int))) := (And.imp (fun h => (of_decide_eq_false h)) (fun h => (of_decide_eq_false h)) (Go.Am.or_neg h6))
  have e7 := e0.trans (Go.Am.bif_f h6)
  refine AW.kp [0, 1] [] ⟨[(0, .data (.slice (.int .u8)) (code : List Int)), (1, .data (.slice (.int .u8)) (more : List Int))], []⟩ ?_
  refine AW.skip (AW.seq (AW.r0 hC [1, 5, 6, 7] [76] ⟨[(1, .data (.slice (.int .u8)) (more : List Int)), (5, .arr 76 1), (6, .int .i64 ((DrawIsKey code).2.1)), (7, .int .i64 ((DrawIsKey code).2.2))], [(76, .arr 1 (.named 0) (((DrawIsKey code).1) : List Dep))]⟩ [(True)] ?_ ?_))
  ·
   refine ⟨?_, trivial⟩
   ·
    trivial
  refine AW.seq (AW.r0 hC [1, 5, 6, 7, 8] [76] ⟨[(1, .data (.slice (.int .u8)) (more : List Int)), (5, .arr 76 1), (6, .int .i64 ((DrawIsKey code).2.1)), (7, .int .i64 ((DrawIsKey code).2.2)), (8, .bool (iIsKey ((DrawIsKey code).1) ((DrawIsKey code).2.1) ((DrawIsKey code).2.2)))], [(76, .arr 1 (.named 0) (((DrawIsKey code).1) : List Dep))]⟩ [(True)] ?_ ?_)
  ·
   refine ⟨?_, trivial⟩
   ·
    trivial
  refine AW.seq (AW.seq (AW.r0 hC [1, 5, 6, 7, 8, 48] [76] ⟨[(1, .data (.slice (.int .u8)) (more : List Int)), (5, .arr 76 1), (6, .int .i64 ((DrawIsKey code).2.1)), (7, .int .i64 ((DrawIsKey code).2.2)), (8, .bool (iIsKey ((DrawIsKey code).1) ((DrawIsKey code).2.1) ((DrawIsKey code).2.2))), (48, .bool (bif (bif (bif ((iIsKey ((DrawIsKey code).1) ((DrawIsKey code).2.1) ((DrawIsKey code).2.2)) != (IsKey ((DrawIsKey code).1) ((DrawIsKey code).2.1) ((DrawIsKey code).2.2))) then true else (!(ValidDependencies ((DrawIsKey code).1) ((DrawIsKey code).2.1)))) then true else (decide (((DrawIsKey code).2.2) < 0))) then true else (decide (((1 : Int) * 2 ^ (Int.toNat ((DrawIsKey code).2.1))) ≤ ((DrawIsKey code).2.2)))))], [(76, .arr 1 (.named 0) (((DrawIsKey code).1) : List Dep))]⟩ [(True), ((((iIsKey ((DrawIsKey code).1) ((DrawIsKey code).2.1) ((DrawIsKey code).2.2)) != (IsKey ((DrawIsKey code).1) ((DrawIsKey code).2.1) ((DrawIsKey code).2.2))) = false) → ((((iIsKey ((DrawIsKey code).1) ((DrawIsKey code).2.1) ((DrawIsKey code).2.2)) != (IsKey ((DrawIsKey code).1) ((DrawIsKey code).2.1) ((DrawIsKey code).2.2))) = false))), ((((iIsKey ((DrawIsKey code).1) ((DrawIsKey code).2.1) ((DrawIsKey code).2.2)) != (IsKey ((DrawIsKey code).1) ((DrawIsKey code).2.1) ((DrawIsKey code).2.2))) = false) → ((((iIsKey ((DrawIsKey code).1) ((DrawIsKey code).2.1) ((DrawIsKey code).2.2)) != (IsKey ((DrawIsKey code).1) ((DrawIsKey code).2.1) ((DrawIsKey code).2.2))) = false))), ((((iIsKey ((DrawIsKey code).1) ((DrawIsKey code).2.1) ((DrawIsKey code).2.2)) != (IsKey ((DrawIsKey code).1) ((DrawIsKey code).2.1) ((DrawIsKey code).2.2))) = false) → (True)), ((((iIsKey ((DrawIsKey code).1) ((DrawIsKey code).2.1) ((DrawIsKey code).2.2)) != (IsKey ((DrawIsKey code).1) ((DrawIsKey code).2.1) ((DrawIsKey code).2.2))) = false) → ((((iIsKey ((DrawIsKey code).1) ((DrawIsKey code).2.1) ((DrawIsKey code).2.2)) != (IsKey ((DrawIsKey code).1) ((DrawIsKey code).2.1) ((DrawIsKey code).2.2))) = false))), ((((iIsKey ((DrawIsKey code).1) ((DrawIsKey code).2.1) ((DrawIsKey code).2.2)) != (IsKey ((DrawIsKey code).1) ((DrawIsKey code).2.1) ((DrawIsKey code).2.2))) = false) → ((((iIsKey ((DrawIsKey code).1) ((DrawIsKey code).2.1) ((DrawIsKey code).2.2)) != (IsKey ((DrawIsKey code).1) ((DrawIsKey code).2.1) ((DrawIsKey code).2.2))) = false))), (((bif ((iIsKey ((DrawIsKey code).1) ((DrawIsKey code).2.1) ((DrawIsKey code).2.2)) != (IsKey ((DrawIsKey code).1) ((DrawIsKey code).2.1) ((DrawIsKey code).2.2))) then true else (!(ValidDependencies ((DrawIsKey code).1) ((DrawIsKey code).2.1)))) = false) → (((bif ((iIsKey ((DrawIsKey code).1) ((DrawIsKey code).2.1) ((DrawIsKey code).2.2)) != (IsKey ((DrawIsKey code).1) ((DrawIsKey code).2.1) ((DrawIsKey code).2.2))) then true else (!(ValidDependencies ((DrawIsKey code).1) ((DrawIsKey code).2.1)))) = false))), (((bif ((iIsKey ((DrawIsKey code).1) ((DrawIsKey code).2.1) ((DrawIsKey code).2.2)) != (IsKey ((DrawIsKey code).1) ((DrawIsKey code).2.1) ((DrawIsKey code).2.2))) then true else (!(ValidDependencies ((DrawIsKey code).1) ((DrawIsKey code).2.1)))) = false) → (((bif ((iIsKey ((DrawIsKey code).1) ((DrawIsKey code).2.1) ((DrawIsKey code).2.2)) != (IsKey ((DrawIsKey code).1) ((DrawIsKey code).2.1) ((DrawIsKey code).2.2))) then true else (!(ValidDependencies ((DrawIsKey code).1) ((DrawIsKey code).2.1)))) = false))), (((bif (bif ((iIsKey ((DrawIsKey code).1) ((DrawIsKey code).2.1) ((DrawIsKey code).2.2)) != (IsKey ((DrawIsKey code).1) ((DrawIsKey code).2.1) ((DrawIsKey code).2.2))) then true else (!(ValidDependencies ((DrawIsKey code).1) ((DrawIsKey code).2.1)))) then true else (decide (((DrawIsKey code).2.2) < 0))) = false) → (((bif (bif ((iIsKey ((DrawIsKey code).1) ((DrawIsKey code).2.1) ((DrawIsKey code).2.2)) != (IsKey ((DrawIsKey code).1) ((DrawIsKey code).2.1) ((DrawIsKey code).2.2))) then true else (!(ValidDependencies ((DrawIsKey code).1) ((DrawIsKey code).2.1)))) then true else (decide (((DrawIsKey code).2.2) < 0))) = false))), (((bif (bif ((iIsKey ((DrawIsKey code).1) ((DrawIsKey code).2.1) ((DrawIsKey code).2.2)) != (IsKey ((DrawIsKey code).1) ((DrawIsKey code).2.1) ((DrawIsKey code).2.2))) then true else (!(ValidDependencies ((DrawIsKey code).1) ((DrawIsKey code).2.1)))) then true else (decide (((DrawIsKey code).2.2) < 0))) = false) → (0 ≤ ((DrawIsKey code).2.1) ∧ ((DrawIsKey code).2.1) ≤ 64)), (((bif (bif ((iIsKey ((DrawIsKey code).1) ((DrawIsKey code).2.1) ((DrawIsKey code).2.2)) != (IsKey ((DrawIsKey code).1) ((DrawIsKey code).2.1) ((DrawIsKey code).2.2))) then true else (!(ValidDependencies ((DrawIsKey code).1) ((DrawIsKey code).2.1)))) then true else (decide (((DrawIsKey code).2.2) < 0))) = false) → (-9223372036854775808 ≤ ((1 : Int) * 2 ^ (Int.toNat ((DrawIsKey code).2.1))) ∧ ((1 : Int) * 2 ^ (Int.toNat ((DrawIsKey code).2.1))) ≤ 9223372036854775807)), (((bif (bif ((iIsKey ((DrawIsKey code).1) ((DrawIsKey code).2.1) ((DrawIsKey code).2.2)) != (IsKey ((DrawIsKey code).1) ((DrawIsKey code).2.1) ((DrawIsKey code).2.2))) then true else (!(ValidDependencies ((DrawIsKey code).1) ((DrawIsKey code).2.1)))) then true else (decide (((DrawIsKey code).2.2) < 0))) = false) → (((bif (bif ((iIsKey ((DrawIsKey code).1) ((DrawIsKey code).2.1) ((DrawIsKey code).2.2)) != (IsKey ((DrawIsKey code).1) ((DrawIsKey code).2.1) ((DrawIsKey code).2.2))) then true else (!(ValidDependencies ((DrawIsKey code).1) ((DrawIsKey code).2.1)))) then true else (decide (((DrawIsKey code).2.2) < 0))) = false))), (((bif (bif ((iIsKey ((DrawIsKey code).1) ((DrawIsKey code).2.1) ((DrawIsKey code).2.2)) != (IsKey ((DrawIsKey code).1) ((DrawIsKey code).2.1) ((DrawIsKey code).2.2))) then true else (!(ValidDependencies ((DrawIsKey code).1) ((DrawIsKey code).2.1)))) then true else (decide (((DrawIsKey code).2.2) < 0))) = false) → (((bif (bif ((iIsKey ((DrawIsKey code).1) ((DrawIsKey code).2.1) ((DrawIsKey code).2.2)) != (IsKey ((DrawIsKey code).1) ((DrawIsKey code).2.1) ((DrawIsKey code).2.2))) then true else (!(ValidDependencies ((DrawIsKey code).1) ((DrawIsKey code).2.1)))) then true else (decide (((DrawIsKey code).2.2) < 0))) = false))), (((bif (bif ((iIsKey ((DrawIsKey code).1) ((DrawIsKey code).2.1) ((DrawIsKey code).2.2)) != (IsKey ((DrawIsKey code).1) ((DrawIsKey code).2.1) ((DrawIsKey code).2.2))) then true else (!(ValidDependencies ((DrawIsKey code).1) ((DrawIsKey code).2.1)))) then true else (decide (((DrawIsKey code).2.2) < 0))) = false) → (((bif (bif ((iIsKey ((DrawIsKey code).1) ((DrawIsKey code).2.1) ((DrawIsKey code).2.2)) != (IsKey ((DrawIsKey code).1) ((DrawIsKey code).2.1) ((DrawIsKey code).2.2))) then true else (!(ValidDependencies ((DrawIsKey code).1) ((DrawIsKey code).2.1)))) then true else (decide (((DrawIsKey code).2.2) < 0))) = false)))] ?_ ?_))
  ·
   refine ⟨?_, ?_, ?_, ?_, ?_, ?_, ?_, ?_, ?_, ?_, ?_, ?_, ?_, ?_, trivial⟩
   ·
    trivial
   ·
    intro g8
    have g8p0 : ((iIsKey ((DrawIsKey code).1) ((DrawIsKey code).2.1) ((DrawIsKey code).2.2)) != (IsKey ((DrawIsKey code).1) ((DrawIsKey code).2.1) ((DrawIsKey code).2.2))) = false := g8
    assumption
   ·
    intro g9
    have g9p0 : ((iIsKey ((DrawIsKey code).1) ((DrawIsKey code).2.1) ((DrawIsKey code).2.2)) != (IsKey ((DrawIsKey code).1) ((DrawIsKey code).2.1) ((DrawIsKey code).2.2))) = false := g9
    assumption
   ·
    intro g10
    have g10p0 : ((iIsKey ((DrawIsKey code).1) ((DrawIsKey code).2.1) ((DrawIsKey code).2.2)) != (IsKey ((DrawIsKey code).1) ((DrawIsKey code).2.1) ((DrawIsKey code).2.2))) = false := g10
    trivial
   ·
    intro g11
    have g11p0 : ((iIsKey ((DrawIsKey code).1) ((DrawIsKey code).2.1) ((DrawIsKey code).2.2)) != (IsKey ((DrawIsKey code).1) ((DrawIsKey code).2.1) ((DrawIsKey code).2.2))) = false := g11
    assumption
   ·
    intro g12
    have g12p0 : ((iIsKey ((DrawIsKey code).1) ((DrawIsKey code).2.1) ((DrawIsKey code).2.2)) != (IsKey ((DrawIsKey code).1) ((DrawIsKey code).2.1) ((DrawIsKey code).2.2))) = false := g12
    assumption
   ·
    intro g13
    have g13p0 : (((iIsKey ((DrawIsKey code).1) ((DrawIsKey code).2.1) ((DrawIsKey code).2.2)) != (IsKey ((DrawIsKey code).1) ((DrawIsKey code).2.1) ((DrawIsKey code).2.2))) = false) ∧ ((ValidDependencies ((DrawIsKey code).1) ((DrawIsKey code).2.1)) = true) := (And.imp (fun h => h) (fun h => (Go.Am.not_neg h)) (Go.Am.or_neg g13))
    assumption
   ·
    intro g14
    have g14p0 : (((iIsKey ((DrawIsKey code).1) ((DrawIsKey code).2.1) ((DrawIsKey code).2.2)) != (IsKey ((DrawIsKey code).1) ((DrawIsKey code).2.1) ((DrawIsKey code).2.2))) = false) ∧ ((ValidDependencies ((DrawIsKey code).1) ((DrawIsKey code).2.1)) = true) := (And.imp (fun h => h) (fun h => (Go.Am.not_neg h)) (Go.Am.or_neg g14))
    assumption
   ·
    intro g15
    have g15p0 : ((((iIsKey ((DrawIsKey code).1) ((DrawIsKey code).2.1) ((DrawIsKey code).2.2)) != (IsKey ((DrawIsKey code).1) ((DrawIsKey code).2.1) ((DrawIsKey code).2.2))) = false) ∧ ((ValidDependencies ((DrawIsKey code).1) ((DrawIsKey code).2.1)) = true)) ∧ (¬ (((DrawIsKey code).2.2) < 0)) := (And.imp (fun h => (And.imp (fun h => h) (fun h => (Go.Am.not_neg h)) (Go.Am.or_neg h))) (fun h => (of_decide_eq_false h)) (Go.Am.or_neg g15))
    assumption
   ·
    intro g16
    have g16p0 : ((((iIsKey ((DrawIsKey code).1) ((DrawIsKey code).2.1) ((DrawIsKey code).2.2)) != (IsKey ((DrawIsKey code).1) ((DrawIsKey code).2.1) ((DrawIsKey code).2.2))) = false) ∧ ((ValidDependencies ((DrawIsKey code).1) ((DrawIsKey code).2.1)) = true)) ∧ (¬ (((DrawIsKey code).2.2) < 0)) := (And.imp (fun h => (And.imp (fun h => h) (fun h => (Go.Am.not_neg h)) (Go.Am.or_neg h))) (fun h => (of_decide_eq_false h)) (Go.Am.or_neg g16))
    have hv := (ValidDependencies_iff.1 (by first | exact g16p0.1.2 | exact h6q.1.1.2)).1
    have := pow64 (w := (DrawIsKey code).2.1) hv.2 (by omega)
    omega
   ·
    intro g17
    have g17p0 : ((((iIsKey ((DrawIsKey code).1) ((DrawIsKey code).2.1) ((DrawIsKey code).2.2)) != (IsKey ((DrawIsKey code).1) ((DrawIsKey code).2.1) ((DrawIsKey code).2.2))) = false) ∧ ((ValidDependencies ((DrawIsKey code).1) ((DrawIsKey code).2.1)) = true)) ∧ (¬ (((DrawIsKey code).2.2) < 0)) := (And.imp (fun h => (And.imp (fun h => h) (fun h => (Go.Am.not_neg h)) (Go.Am.or_neg h))) (fun h => (of_decide_eq_false h)) (Go.Am.or_neg g17))
    have hv := (ValidDependencies_iff.1 (by first | exact g17p0.1.2 | exact h6q.1.1.2)).1
    have := pow64 (w := (DrawIsKey code).2.1) hv.2 (by omega)
    omega
   ·
    intro g18
    have g18p0 : ((((iIsKey ((DrawIsKey code).1) ((DrawIsKey code).2.1) ((DrawIsKey code).2.2)) != (IsKey ((DrawIsKey code).1) ((DrawIsKey code).2.1) ((DrawIsKey code).2.2))) = false) ∧ ((ValidDependencies ((DrawIsKey code).1) ((DrawIsKey code).2.1)) = true)) ∧ (¬ (((DrawIsKey code).2.2) < 0)) := (And.imp (fun h => (And.imp (fun h => h) (fun h => (Go.Am.not_neg h)) (Go.Am.or_neg h))) (fun h => (of_decide_eq_false h)) (Go.Am.or_neg g18))
    assumption
   ·
    intro g19
    have g19p0 : ((((iIsKey ((DrawIsKey code).1) ((DrawIsKey code).2.1) ((DrawIsKey code).2.2)) != (IsKey ((DrawIsKey code).1) ((DrawIsKey code).2.1) ((DrawIsKey code).2.2))) = false) ∧ ((ValidDependencies ((DrawIsKey code).1) ((DrawIsKey code).2.1)) = true)) ∧ (¬ (((DrawIsKey code).2.2) < 0)) := (And.imp (fun h => (And.imp (fun h => h) (fun h => (Go.Am.not_neg h)) (Go.Am.or_neg h))) (fun h => (of_decide_eq_false h)) (Go.Am.or_neg g19))
    assumption
   ·
    intro g20
    have g20p0 : ((((iIsKey ((DrawIsKey code).1) ((DrawIsKey code).2.1) ((DrawIsKey code).2.2)) != (IsKey ((DrawIsKey code).1) ((DrawIsKey code).2.1) ((DrawIsKey code).2.2))) = false) ∧ ((ValidDependencies ((DrawIsKey code).1) ((DrawIsKey code).2.1)) = true)) ∧ (¬ (((DrawIsKey code).2.2) < 0)) := (And.imp (fun h => (And.imp (fun h => h) (fun h => (Go.Am.not_neg h)) (Go.Am.or_neg h))) (fun h => (of_decide_eq_false h)) (Go.Am.or_neg g20))
    assumption
  refine AW.cd (bif (bif (bif ((iIsKey ((DrawIsKey code).1) ((DrawIsKey code).2.1) ((DrawIsKey code).2.2)) != (IsKey ((DrawIsKey code).1) ((DrawIsKey code).2.1) ((DrawIsKey code).2.2))) then true else (!(ValidDependencies ((DrawIsKey code).1) ((DrawIsKey code).2.1)))) then true else (decide (((DrawIsKey code).2.2) < 0))) then true else (decide (((1 : Int) * 2 ^ (Int.toNat ((DrawIsKey code).2.1))) ≤ ((DrawIsKey code).2.2)))) ?_ ?_
  ·
   intro h21
   have h21q : (((((iIsKey ((DrawIsKey code).1) ((DrawIsKey code).2.1) ((DrawIsKey code).2.2)) != (IsKey ((DrawIsKey code).1) ((DrawIsKey code).2.1) ((DrawIsKey code).2.2))) = true) ∨ ((ValidDependencies ((DrawIsKey code).1) ((DrawIsKey code).2.1)) = false)) ∨ (((DrawIsKey code).2.2) < 0)) ∨ (((1 : Int) * 2 ^ (Int.toNat ((DrawIsKey code).2.1))) ≤ ((DrawIsKey code).2.2)) := (Or.imp (fun h => (Or.imp (fun h => (Or.imp (fun h => h) (fun h => (Go.Am.not_pos h)) (Go.Am.or_pos h))) (fun h => (of_decide_eq_true h)) (Go.Am.or_pos h))) (fun h => (of_decide_eq_true h)) (Go.Am.or_pos h21))
   have e22 := e7.trans (Go.Am.bif_t h21)
   refine AW.seq (AW.r0 hC [4] [] ⟨[(4, .bool ((iIsKey ((DrawIsKey code).1) ((DrawIsKey code).2.1) ((DrawIsKey code).2.2)) == (IsKey ((DrawIsKey code).1) ((DrawIsKey code).2.1) ((DrawIsKey code).2.2))))], []⟩ [(True)] ?_ ?_)
   ·
    refine ⟨?_, trivial⟩
    ·
     trivial
   exact AW.ret (AW.retE (β := Bool) (fun v => [⟨.bool, v⟩]) (fun v => []) (v := ((iIsKey ((DrawIsKey code).1) ((DrawIsKey code).2.1) ((DrawIsKey code).2.2)) == (IsKey ((DrawIsKey code).1) ((DrawIsKey code).2.1) ((DrawIsKey code).2.2)))) e22 (by kernel_rfl) rfl rfl)
  ·
   intro h23
   have h23q : (((((iIsKey ((DrawIsKey code).1) ((DrawIsKey code).2.1) ((DrawIsKey code).2.2)) != (IsKey ((DrawIsKey code).1) ((DrawIsKey code).2.1) ((DrawIsKey code).2.2))) = false) ∧ ((ValidDependencies ((DrawIsKey code).1) ((DrawIsKey code).2.1)) = true)) ∧ (¬ (((DrawIsKey code).2.2) < 0))) ∧ (¬ (((1 : Int) * 2 ^ (Int.toNat ((DrawIsKey code).2.1))) ≤ ((DrawIsKey code).2.2))) := (And.imp (fun h => (And.imp (fun h => (And.imp (fun h => h) (fun h => (Go.Am.not_neg h)) (Go.Am.or_neg h))) (fun h => (of_decide_eq_false h)) (Go.Am.or_neg h))) (fun h => (of_decide_eq_false h)) (Go.Am.or_neg h23))
   have e24 := e7.trans (Go.Am.bif_f h23)
   refine AW.kp [1, 5, 6, 7, 8] [76] ⟨[(1, .data (.slice (.int .u8)) (more : List Int)), (5, .arr 76 1), (6, .int .i64 ((DrawIsKey code).2.1)), (7, .int .i64 ((DrawIsKey code).2.2)), (8, .bool (iIsKey ((DrawIsKey code).1) ((DrawIsKey code).2.1) ((DrawIsKey code).2.2)))], [(76, .arr 1 (.named 0) (((DrawIsKey code).1) : List Dep))]⟩ ?_
   refine AW.skip (AW.seq (AW.r0 hC [4] [] ⟨[(4, .bool (bif (iIsKey ((DrawIsKey code).1) ((DrawIsKey code).2.1) (((1 : Int) * 2 ^ (Int.toNat ((DrawIsKey code).2.1))) - 1)) then (bif (!(iIsKey ((DrawIsKey code).1) ((DrawIsKey code).2.1) ((DrawIsKey code).2.2))) then true else (iIsKey ((DrawIsKey code).1) ((DrawIsKey code).2.1) (bits .or .i64 ((DrawIsKey code).2.2) (((List.length more : Nat) : Int) % ((1 : Int) * 2 ^ (Int.toNat ((DrawIsKey code).2.1))))))) else false))], []⟩ [(0 ≤ ((DrawIsKey code).2.1) ∧ ((DrawIsKey code).2.1) ≤ 64), (-9223372036854775808 ≤ ((1 : Int) * 2 ^ (Int.toNat ((DrawIsKey code).2.1))) ∧ ((1 : Int) * 2 ^ (Int.toNat ((DrawIsKey code).2.1))) ≤ 9223372036854775807), (-9223372036854775808 ≤ (((1 : Int) * 2 ^ (Int.toNat ((DrawIsKey code).2.1))) - 1) ∧ (((1 : Int) * 2 ^ (Int.toNat ((DrawIsKey code).2.1))) - 1) ≤ 9223372036854775807), (True), (((iIsKey ((DrawIsKey code).1) ((DrawIsKey code).2.1) (((1 : Int) * 2 ^ (Int.toNat ((DrawIsKey code).2.1))) - 1)) = true) → (((iIsKey ((DrawIsKey code).1) ((DrawIsKey code).2.1) (((1 : Int) * 2 ^ (Int.toNat ((DrawIsKey code).2.1))) - 1)) = true))), (((iIsKey ((DrawIsKey code).1) ((DrawIsKey code).2.1) (((1 : Int) * 2 ^ (Int.toNat ((DrawIsKey code).2.1))) - 1)) = true) → (((iIsKey ((DrawIsKey code).1) ((DrawIsKey code).2.1) (((1 : Int) * 2 ^ (Int.toNat ((DrawIsKey code).2.1))) - 1)) = true))), ((((iIsKey ((DrawIsKey code).1) ((DrawIsKey code).2.1) (((1 : Int) * 2 ^ (Int.toNat ((DrawIsKey code).2.1))) - 1)) = true) ∧ ((!(iIsKey ((DrawIsKey code).1) ((DrawIsKey code).2.1) ((DrawIsKey code).2.2))) = false)) → ((((iIsKey ((DrawIsKey code).1) ((DrawIsKey code).2.1) (((1 : Int) * 2 ^ (Int.toNat ((DrawIsKey code).2.1))) - 1)) = true) ∧ ((!(iIsKey ((DrawIsKey code).1) ((DrawIsKey code).2.1) ((DrawIsKey code).2.2))) = false)))), ((((iIsKey ((DrawIsKey code).1) ((DrawIsKey code).2.1) (((1 : Int) * 2 ^ (Int.toNat ((DrawIsKey code).2.1))) - 1)) = true) ∧ ((!(iIsKey ((DrawIsKey code).1) ((DrawIsKey code).2.1) ((DrawIsKey code).2.2))) = false)) → ((((iIsKey ((DrawIsKey code).1) ((DrawIsKey code).2.1) (((1 : Int) * 2 ^ (Int.toNat ((DrawIsKey code).2.1))) - 1)) = true) ∧ ((!(iIsKey ((DrawIsKey code).1) ((DrawIsKey code).2.1) ((DrawIsKey code).2.2))) = false)))), ((((iIsKey ((DrawIsKey code).1) ((DrawIsKey code).2.1) (((1 : Int) * 2 ^ (Int.toNat ((DrawIsKey code).2.1))) - 1)) = true) ∧ ((!(iIsKey ((DrawIsKey code).1) ((DrawIsKey code).2.1) ((DrawIsKey code).2.2))) = false)) → (0 ≤ ((DrawIsKey code).2.1) ∧ ((DrawIsKey code).2.1) ≤ 64)), ((((iIsKey ((DrawIsKey code).1) ((DrawIsKey code).2.1) (((1 : Int) * 2 ^ (Int.toNat ((DrawIsKey code).2.1))) - 1)) = true) ∧ ((!(iIsKey ((DrawIsKey code).1) ((DrawIsKey code).2.1) ((DrawIsKey code).2.2))) = false)) → (-9223372036854775808 ≤ ((1 : Int) * 2 ^ (Int.toNat ((DrawIsKey code).2.1))) ∧ ((1 : Int) * 2 ^ (Int.toNat ((DrawIsKey code).2.1))) ≤ 9223372036854775807)), ((((iIsKey ((DrawIsKey code).1) ((DrawIsKey code).2.1) (((1 : Int) * 2 ^ (Int.toNat ((DrawIsKey code).2.1))) - 1)) = true) ∧ ((!(iIsKey ((DrawIsKey code).1) ((DrawIsKey code).2.1) ((DrawIsKey code).2.2))) = false)) → ((((iIsKey ((DrawIsKey code).1) ((DrawIsKey code).2.1) (((1 : Int) * 2 ^ (Int.toNat ((DrawIsKey code).2.1))) - 1)) = true) ∧ ((!(iIsKey ((DrawIsKey code).1) ((DrawIsKey code).2.1) ((DrawIsKey code).2.2))) = false)))), ((((iIsKey ((DrawIsKey code).1) ((DrawIsKey code).2.1) (((1 : Int) * 2 ^ (Int.toNat ((DrawIsKey code).2.1))) - 1)) = true) ∧ ((!(iIsKey ((DrawIsKey code).1) ((DrawIsKey code).2.1) ((DrawIsKey code).2.2))) = false)) → ((((iIsKey ((DrawIsKey code).1) ((DrawIsKey code).2.1) (((1 : Int) * 2 ^ (Int.toNat ((DrawIsKey code).2.1))) - 1)) = true) ∧ ((!(iIsKey ((DrawIsKey code).1) ((DrawIsKey code).2.1) ((DrawIsKey code).2.2))) = false)))), ((((iIsKey ((DrawIsKey code).1) ((DrawIsKey code).2.1) (((1 : Int) * 2 ^ (Int.toNat ((DrawIsKey code).2.1))) - 1)) = true) ∧ ((!(iIsKey ((DrawIsKey code).1) ((DrawIsKey code).2.1) ((DrawIsKey code).2.2))) = false)) → (0 ≤ ((List.length more : Nat) : Int) ∧ 0 < ((1 : Int) * 2 ^ (Int.toNat ((DrawIsKey code).2.1))))), ((((iIsKey ((DrawIsKey code).1) ((DrawIsKey code).2.1) (((1 : Int) * 2 ^ (Int.toNat ((DrawIsKey code).2.1))) - 1)) = true) ∧ ((!(iIsKey ((DrawIsKey code).1) ((DrawIsKey code).2.1) ((DrawIsKey code).2.2))) = false)) → ((((iIsKey ((DrawIsKey code).1) ((DrawIsKey code).2.1) (((1 : Int) * 2 ^ (Int.toNat ((DrawIsKey code).2.1))) - 1)) = true) ∧ ((!(iIsKey ((DrawIsKey code).1) ((DrawIsKey code).2.1) ((DrawIsKey code).2.2))) = false)))), ((((iIsKey ((DrawIsKey code).1) ((DrawIsKey code).2.1) (((1 : Int) * 2 ^ (Int.toNat ((DrawIsKey code).2.1))) - 1)) = true) ∧ ((!(iIsKey ((DrawIsKey code).1) ((DrawIsKey code).2.1) ((DrawIsKey code).2.2))) = false)) → ((((iIsKey ((DrawIsKey code).1) ((DrawIsKey code).2.1) (((1 : Int) * 2 ^ (Int.toNat ((DrawIsKey code).2.1))) - 1)) = true) ∧ ((!(iIsKey ((DrawIsKey code).1) ((DrawIsKey code).2.1) ((DrawIsKey code).2.2))) = false)))), ((((iIsKey ((DrawIsKey code).1) ((DrawIsKey code).2.1) (((1 : Int) * 2 ^ (Int.toNat ((DrawIsKey code).2.1))) - 1)) = true) ∧ ((!(iIsKey ((DrawIsKey code).1) ((DrawIsKey code).2.1) ((DrawIsKey code).2.2))) = false)) → ((((iIsKey ((DrawIsKey code).1) ((DrawIsKey code).2.1) (((1 : Int) * 2 ^ (Int.toNat ((DrawIsKey code).2.1))) - 1)) = true) ∧ ((!(iIsKey ((DrawIsKey code).1) ((DrawIsKey code).2.1) ((DrawIsKey code).2.2))) = false)))), ((((iIsKey ((DrawIsKey code).1) ((DrawIsKey code).2.1) (((1 : Int) * 2 ^ (Int.toNat ((DrawIsKey code).2.1))) - 1)) = true) ∧ ((!(iIsKey ((DrawIsKey code).1) ((DrawIsKey code).2.1) ((DrawIsKey code).2.2))) = false)) → ((((iIsKey ((DrawIsKey code).1) ((DrawIsKey code).2.1) (((1 : Int) * 2 ^ (Int.toNat ((DrawIsKey code).2.1))) - 1)) = true) ∧ ((!(iIsKey ((DrawIsKey code).1) ((DrawIsKey code).2.1) ((DrawIsKey code).2.2))) = false)))), ((((iIsKey ((DrawIsKey code).1) ((DrawIsKey code).2.1) (((1 : Int) * 2 ^ (Int.toNat ((DrawIsKey code).2.1))) - 1)) = true) ∧ ((!(iIsKey ((DrawIsKey code).1) ((DrawIsKey code).2.1) ((DrawIsKey code).2.2))) = false)) → ((((iIsKey ((DrawIsKey code).1) ((DrawIsKey code).2.1) (((1 : Int) * 2 ^ (Int.toNat ((DrawIsKey code).2.1))) - 1)) = true) ∧ ((!(iIsKey ((DrawIsKey code).1) ((DrawIsKey code).2.1) ((DrawIsKey code).2.2))) = false)))), ((((iIsKey ((DrawIsKey code).1) ((DrawIsKey code).2.1) (((1 : Int) * 2 ^ (Int.toNat ((DrawIsKey code).2.1))) - 1)) = true) ∧ ((!(iIsKey ((DrawIsKey code).1) ((DrawIsKey code).2.1) ((DrawIsKey code).2.2))) = false)) → (True)), (((iIsKey ((DrawIsKey code).1) ((DrawIsKey code).2.1) (((1 : Int) * 2 ^ (Int.toNat ((DrawIsKey code).2.1))) - 1)) = true) → (((iIsKey ((DrawIsKey code).1) ((DrawIsKey code).2.1) (((1 : Int) * 2 ^ (Int.toNat ((DrawIsKey code).2.1))) - 1)) = true))), (((iIsKey ((DrawIsKey code).1) ((DrawIsKey code).2.1) (((1 : Int) * 2 ^ (Int.toNat ((DrawIsKey code).2.1))) - 1)) = true) → (((!(iIsKey ((DrawIsKey code).1) ((DrawIsKey code).2.1) ((DrawIsKey code).2.2))) = false) → ((((iIsKey ((DrawIsKey code).1) ((DrawIsKey code).2.1) (((1 : Int) * 2 ^ (Int.toNat ((DrawIsKey code).2.1))) - 1)) = true) ∧ ((!(iIsKey ((DrawIsKey code).1) ((DrawIsKey code).2.1) ((DrawIsKey code).2.2))) = false))))), (((iIsKey ((DrawIsKey code).1) ((DrawIsKey code).2.1) (((1 : Int) * 2 ^ (Int.toNat ((DrawIsKey code).2.1))) - 1)) = true) → (((iIsKey ((DrawIsKey code).1) ((DrawIsKey code).2.1) (((1 : Int) * 2 ^ (Int.toNat ((DrawIsKey code).2.1))) - 1)) = true)))] ?_ ?_))
   ·
    refine ⟨?_, ?_, ?_, ?_, ?_, ?_, ?_, ?_, ?_, ?_, ?_, ?_, ?_, ?_, ?_, ?_, ?_, ?_, ?_, ?_, ?_, ?_, trivial⟩
    ·
     have hv := (ValidDependencies_iff.1 (by first | exact trivial.1.2 | exact h23q.1.1.2)).1
     have := pow64 (w := (DrawIsKey code).2.1) hv.2 (by omega)
     omega
    ·
     have hv := (ValidDependencies_iff.1 (by first | exact trivial.1.2 | exact h23q.1.1.2)).1
     have := pow64 (w := (DrawIsKey code).2.1) hv.2 (by omega)
     omega
    ·
     have hv := (ValidDependencies_iff.1 (by first | exact trivial.1.2 | exact h23q.1.1.2)).1
     have := pow64 (w := (DrawIsKey code).2.1) hv.2 (by omega)
     omega
    ·
     trivial
    ·
     intro g25
     have g25p0 : (iIsKey ((DrawIsKey code).1) ((DrawIsKey code).2.1) (((1 : Int) * 2 ^ (Int.toNat ((DrawIsKey code).2.1))) - 1)) = true := g25
     assumption
    ·
     intro g26
     have g26p0 : (iIsKey ((DrawIsKey code).1) ((DrawIsKey code).2.1) (((1 : Int) * 2 ^ (Int.toNat ((DrawIsKey code).2.1))) - 1)) = true := g26
     assumption
    ·
     intro g27
     have g27p0 : (iIsKey ((DrawIsKey code).1) ((DrawIsKey code).2.1) (((1 : Int) * 2 ^ (Int.toNat ((DrawIsKey code).2.1))) - 1)) = true := (g27).1
     have g27p1 : (iIsKey ((DrawIsKey code).1) ((DrawIsKey code).2.1) ((DrawIsKey code).2.2)) = true := (Go.Am.not_neg (g27).2)
     assumption
    ·
     intro g28
     have g28p0 : (iIsKey ((DrawIsKey code).1) ((DrawIsKey code).2.1) (((1 : Int) * 2 ^ (Int.toNat ((DrawIsKey code).2.1))) - 1)) = true := (g28).1
     have g28p1 : (iIsKey ((DrawIsKey code).1) ((DrawIsKey code).2.1) ((DrawIsKey code).2.2)) = true := (Go.Am.not_neg (g28).2)
     assumption
    ·
     intro g29
     have g29p0 : (iIsKey ((DrawIsKey code).1) ((DrawIsKey code).2.1) (((1 : Int) * 2 ^ (Int.toNat ((DrawIsKey code).2.1))) - 1)) = true := (g29).1
     have g29p1 : (iIsKey ((DrawIsKey code).1) ((DrawIsKey code).2.1) ((DrawIsKey code).2.2)) = true := (Go.Am.not_neg (g29).2)
     have hv := (ValidDependencies_iff.1 (by first | exact g29p1.1.2 | exact h23q.1.1.2)).1
     have := pow64 (w := (DrawIsKey code).2.1) hv.2 (by omega)
     omega
    ·
     intro g30
     have g30p0 : (iIsKey ((DrawIsKey code).1) ((DrawIsKey code).2.1) (((1 : Int) * 2 ^ (Int.toNat ((DrawIsKey code).2.1))) - 1)) = true := (g30).1
     have g30p1 : (iIsKey ((DrawIsKey code).1) ((DrawIsKey code).2.1) ((DrawIsKey code).2.2)) = true := (Go.Am.not_neg (g30).2)
     have hv := (ValidDependencies_iff.1 (by first | exact g30p1.1.2 | exact h23q.1.1.2)).1
     have := pow64 (w := (DrawIsKey code).2.1) hv.2 (by omega)
     omega
    ·
     intro g31
     have g31p0 : (iIsKey ((DrawIsKey code).1) ((DrawIsKey code).2.1) (((1 : Int) * 2 ^ (Int.toNat ((DrawIsKey code).2.1))) - 1)) = true := (g31).1
     have g31p1 : (iIsKey ((DrawIsKey code).1) ((DrawIsKey code).2.1) ((DrawIsKey code).2.2)) = true := (Go.Am.not_neg (g31).2)
     assumption
    ·
     intro g32
     have g32p0 : (iIsKey ((DrawIsKey code).1) ((DrawIsKey code).2.1) (((1 : Int) * 2 ^ (Int.toNat ((DrawIsKey code).2.1))) - 1)) = true := (g32).1
     have g32p1 : (iIsKey ((DrawIsKey code).1) ((DrawIsKey code).2.1) ((DrawIsKey code).2.2)) = true := (Go.Am.not_neg (g32).2)
     assumption
    ·
     intro g33
     have g33p0 : (iIsKey ((DrawIsKey code).1) ((DrawIsKey code).2.1) (((1 : Int) * 2 ^ (Int.toNat ((DrawIsKey code).2.1))) - 1)) = true := (g33).1
     have g33p1 : (iIsKey ((DrawIsKey code).1) ((DrawIsKey code).2.1) ((DrawIsKey code).2.2)) = true := (Go.Am.not_neg (g33).2)
     have hv := (ValidDependencies_iff.1 (by first | exact g33p1.1.2 | exact h23q.1.1.2)).1
     have := pow64 (w := (DrawIsKey code).2.1) hv.2 (by omega)
     omega
    ·
     intro g34
     have g34p0 : (iIsKey ((DrawIsKey code).1) ((DrawIsKey code).2.1) (((1 : Int) * 2 ^ (Int.toNat ((DrawIsKey code).2.1))) - 1)) = true := (g34).1
     have g34p1 : (iIsKey ((DrawIsKey code).1) ((DrawIsKey code).2.1) ((DrawIsKey code).2.2)) = true := (Go.Am.not_neg (g34).2)
     assumption
    ·
     intro g35
     have g35p0 : (iIsKey ((DrawIsKey code).1) ((DrawIsKey code).2.1) (((1 : Int) * 2 ^ (Int.toNat ((DrawIsKey code).2.1))) - 1)) = true := (g35).1
     have g35p1 : (iIsKey ((DrawIsKey code).1) ((DrawIsKey code).2.1) ((DrawIsKey code).2.2)) = true := (Go.Am.not_neg (g35).2)
     assumption
    ·
     intro g36
     have g36p0 : (iIsKey ((DrawIsKey code).1) ((DrawIsKey code).2.1) (((1 : Int) * 2 ^ (Int.toNat ((DrawIsKey code).2.1))) - 1)) = true := (g36).1
     have g36p1 : (iIsKey ((DrawIsKey code).1) ((DrawIsKey code).2.1) ((DrawIsKey code).2.2)) = true := (Go.Am.not_neg (g36).2)
     assumption
    ·
     intro g37
     have g37p0 : (iIsKey ((DrawIsKey code).1) ((DrawIsKey code).2.1) (((1 : Int) * 2 ^ (Int.toNat ((DrawIsKey code).2.1))) - 1)) = true := (g37).1
     have g37p1 : (iIsKey ((DrawIsKey code).1) ((DrawIsKey code).2.1) ((DrawIsKey code).2.2)) = true := (Go.Am.not_neg (g37).2)
     assumption
    ·
     intro g38
     have g38p0 : (iIsKey ((DrawIsKey code).1) ((DrawIsKey code).2.1) (((1 : Int) * 2 ^ (Int.toNat ((DrawIsKey code).2.1))) - 1)) = true := (g38).1
     have g38p1 : (iIsKey ((DrawIsKey code).1) ((DrawIsKey code).2.1) ((DrawIsKey code).2.2)) = true := (Go.Am.not_neg (g38).2)
     assumption
    ·
     intro g39
     have g39p0 : (iIsKey ((DrawIsKey code).1) ((DrawIsKey code).2.1) (((1 : Int) * 2 ^ (Int.toNat ((DrawIsKey code).2.1))) - 1)) = true := (g39).1
     have g39p1 : (iIsKey ((DrawIsKey code).1) ((DrawIsKey code).2.1) ((DrawIsKey code).2.2)) = true := (Go.Am.not_neg (g39).2)
     trivial
    ·
     intro g40
     have g40p0 : (iIsKey ((DrawIsKey code).1) ((DrawIsKey code).2.1) (((1 : Int) * 2 ^ (Int.toNat ((DrawIsKey code).2.1))) - 1)) = true := g40
     assumption
    ·
     intro g41
     have g41p0 : (iIsKey ((DrawIsKey code).1) ((DrawIsKey code).2.1) (((1 : Int) * 2 ^ (Int.toNat ((DrawIsKey code).2.1))) - 1)) = true := g41
     intro g42
     have g42p0 : (iIsKey ((DrawIsKey code).1) ((DrawIsKey code).2.1) ((DrawIsKey code).2.2)) = true := (Go.Am.not_neg g42)
     exact ⟨by assumption, by assumption⟩
    ·
     intro g43
     have g43p0 : (iIsKey ((DrawIsKey code).1) ((DrawIsKey code).2.1) (((1 : Int) * 2 ^ (Int.toNat ((DrawIsKey code).2.1))) - 1)) = true := g43
     assumption
   exact AW.ret (AW.retE (β := Bool) (fun v => [⟨.bool, v⟩]) (fun v => []) (v := (bif (iIsKey ((DrawIsKey code).1) ((DrawIsKey code).2.1) (((1 : Int) * 2 ^ (Int.toNat ((DrawIsKey code).2.1))) - 1)) then (bif (!(iIsKey ((DrawIsKey code).1) ((DrawIsKey code).2.1) ((DrawIsKey code).2.2))) then true else (iIsKey ((DrawIsKey code).1) ((DrawIsKey code).2.1) (bits .or .i64 ((DrawIsKey code).2.2) (((List.length more : Nat) : Int) % ((1 : Int) * 2 ^ (Int.toNat ((DrawIsKey code).2.1))))))) else false)) e24 (by kernel_rfl) rfl rfl)

def FnIsNormalForm_l0 (code : List Int) : Nat → Bool → Nat → Bool
 | 0, want, i => want
 | k + 1, want, i => (bif (decide (((i : Nat) : Int) < ((List.length ((DrawIsNormalForm code).1) : Nat) : Int))) then (FnIsNormalForm_l0 code k (bif want then (bif ((bits .and .i64 (Dep.To (List.getD ((DrawIsNormalForm code).1) i Dep.zero)) (Dep.From (List.getD ((DrawIsNormalForm code).1) i Dep.zero))) == (Dep.To (List.getD ((DrawIsNormalForm code).1) i Dep.zero))) then true else (iIsKey ((DrawIsNormalForm code).1) ((DrawIsNormalForm code).2) (Dep.From (List.getD ((DrawIsNormalForm code).1) i Dep.zero)))) else false) (i + 1)) else want)

def FnIsNormalForm (code : List Int) : Bool := (bif (decide (1048576 < ((List.length code : Nat) : Int))) then true else (bif (bif ((iIsNormalForm ((DrawIsNormalForm code).1) ((DrawIsNormalForm code).2)) != (IsNormalForm ((DrawIsNormalForm code).1) ((DrawIsNormalForm code).2))) then true else (!(ValidDependencies ((DrawIsNormalForm code).1) ((DrawIsNormalForm code).2)))) then ((iIsNormalForm ((DrawIsNormalForm code).1) ((DrawIsNormalForm code).2)) == (IsNormalForm ((DrawIsNormalForm code).1) ((DrawIsNormalForm code).2))) else (Go.Am.andThen (FnIsNormalForm_l0 code ((List.length ((DrawIsNormalForm code).1)) - 0 + 1) true 0) (fun z => (fun (want : Bool) => (bif ((iIsNormalForm ((DrawIsNormalForm code).1) ((DrawIsNormalForm code).2)) == want) then (bif ((iIsNormalForm ((DrawIsNormalForm code).1) ((DrawIsNormalForm code).2)) == want) then (iIsNormalForm ([] : List Dep) ((DrawIsNormalForm code).2)) else false) else false)) z))))

def FnIsNormalForm_sp : FnSpec := mkSpec [.val (.slice (.int .u8))] [.val .bool] (fun (code : List Int) => True) (fun (code : List Int) => [⟨.bool, (FnIsNormalForm code)⟩])

theorem FnIsNormalForm_ok : FnOK Try.prog 6 FnIsNormalForm_sp := by
 have hC : CtxOK Try.prog (mkCtx tyL [(15, iIsKey_sp), (18, ValidDependencies_sp), (19, IsNormalForm_sp), (20, iIsNormalForm_sp), (21, DrawIsNormalForm_sp)]) := CtxOK.cons iIsKey_ok (CtxOK.cons ValidDependencies_ok (CtxOK.cons IsNormalForm_ok (CtxOK.cons iIsNormalForm_ok (CtxOK.cons DrawIsNormalForm_ok (CtxOK.nil tyOK)))))
 have hM : Try.prog.follows .mixedOrders = true := Try.checked.mixed
 refine FnOK.of_body Try.func6 (by kernel_rfl) rfl (C := (mkCtx tyL [(15, iIsKey_sp), (18, ValidDependencies_sp), (19, IsNormalForm_sp), (20, iIsNormalForm_sp), (21, DrawIsNormalForm_sp)])) hC.ty (by kernel_rfl) ?_
 intro (code : List Int) hwf hpre E
 have hpre : True := hpre
 have hw_code : Wf ⟨(.slice (.int .u8)), (code : List Int)⟩ := hwf _ (List.Mem.head _)
 have hl_code : ((List.length code : Nat) : Int) ≤ 9223372036854775807 := hw_code.len
 have e0 : FnIsNormalForm code = FnIsNormalForm code := rfl
 refine AW.seq (AW.r1 hC [0] [] ⟨[(0, .data (.slice (.int .u8)) (code : List Int))], []⟩ ?_)
 refine AW.seq (AW.seq (AW.r1 hC [0, 10] [] ⟨[(0, .data (.slice (.int .u8)) (code : List Int)), (10, .bool (decide (1048576 < ((List.length code : Nat) : Int))))], []⟩ ?_))
 refine AW.cd (decide (1048576 < ((List.length code : Nat) : Int))) ?_ ?_
 ·
  intro h1
  have h1q : 1048576 < ((List.length code : Nat) : Int) := (of_decide_eq_true h1)
  have e2 := e0.trans (Go.Am.bif_t h1)
  refine AW.seq (AW.r1 hC [2] [] ⟨[(2, .bool true)], []⟩ ?_)
  exact AW.ret (AW.retE (β := Bool) (fun v => [⟨.bool, v⟩]) (fun v => []) (v := true) e2 (by kernel_rfl) rfl rfl)
 ·
  intro h3
  have h3q : ¬ (1048576 < ((List.length code : Nat) : Int)) := (of_decide_eq_false h3)
  have e4 := e0.trans (Go.Am.bif_f h3)
  refine AW.kp [0] [] ⟨[(0, .data (.slice (.int .u8)) (code : List Int))], []⟩ ?_
  refine AW.skip (AW.seq (AW.r0 hC [3, 4] [] ⟨[(3, .data (.slice (.named 0)) (((DrawIsNormalForm code).1) : List Dep)), (4, .int .i64 ((DrawIsNormalForm code).2))], []⟩ [(True)] ?_ ?_))
  ·
   refine ⟨?_, trivial⟩
   ·
    trivial
  refine AW.seq (AW.r0 hC [3, 4, 5] [] ⟨[(3, .data (.slice (.named 0)) (((DrawIsNormalForm code).1) : List Dep)), (4, .int .i64 ((DrawIsNormalForm code).2)), (5, .bool (iIsNormalForm ((DrawIsNormalForm code).1) ((DrawIsNormalForm code).2)))], []⟩ [(True)] ?_ ?_)
  ·
   refine ⟨?_, trivial⟩
   ·
    trivial
  refine AW.seq (AW.seq (AW.r0 hC [3, 4, 5, 29] [] ⟨[(3, .data (.slice (.named 0)) (((DrawIsNormalForm code).1) : List Dep)), (4, .int .i64 ((DrawIsNormalForm code).2)), (5, .bool (iIsNormalForm ((DrawIsNormalForm code).1) ((DrawIsNormalForm code).2))), (29, .bool (bif ((iIsNormalForm ((DrawIsNormalForm code).1) ((DrawIsNormalForm code).2)) != (IsNormalForm ((DrawIsNormalForm code).1) ((DrawIsNormalForm code).2))) then true else (!(ValidDependencies ((DrawIsNormalForm code).1) ((DrawIsNormalForm code).2)))))], []⟩ [(True), ((((iIsNormalForm ((DrawIsNormalForm code).1) ((DrawIsNormalForm code).2)) != (IsNormalForm ((DrawIsNormalForm code).1) ((DrawIsNormalForm code).2))) = false) → ((((iIsNormalForm ((DrawIsNormalForm code).1) ((DrawIsNormalForm code).2)) != (IsNormalForm ((DrawIsNormalForm code).1) ((DrawIsNormalForm code).2))) = false))), ((((iIsNormalForm ((DrawIsNormalForm code).1) ((DrawIsNormalForm code).2)) != (IsNormalForm ((DrawIsNormalForm code).1) ((DrawIsNormalForm code).2))) = false) → ((((iIsNormalForm ((DrawIsNormalForm code).1) ((DrawIsNormalForm code).2)) != (IsNormalForm ((DrawIsNormalForm code).1) ((DrawIsNormalForm code).2))) = false))), ((((iIsNormalForm ((DrawIsNormalForm code).1) ((DrawIsNormalForm code).2)) != (IsNormalForm ((DrawIsNormalForm code).1) ((DrawIsNormalForm code).2))) = false) → (True)), ((((iIsNormalForm ((DrawIsNormalForm code).1) ((DrawIsNormalForm code).2)) != (IsNormalForm ((DrawIsNormalForm code).1) ((DrawIsNormalForm code).2))) = false) → ((((iIsNormalForm ((DrawIsNormalForm code).1) ((DrawIsNormalForm code).2)) != (IsNormalForm ((DrawIsNormalForm code).1) ((DrawIsNormalForm code).2))) = false))), ((((iIsNormalForm ((DrawIsNormalForm code).1) ((DrawIsNormalForm code).2)) != (IsNormalForm ((DrawIsNormalForm code).1) ((DrawIsNormalForm code).2))) = false) → ((((iIsNormalForm ((DrawIsNormalForm code).1) ((DrawIsNormalForm code).2)) != (IsNormalForm ((DrawIsNormalForm code).1) ((DrawIsNormalForm code).2))) = false)))] ?_ ?_))
  ·
   refine ⟨?_, ?_, ?_, ?_, ?_, ?_, trivial⟩
   ·
    trivial
   ·
    intro g5
    have g5p0 : ((iIsNormalForm ((DrawIsNormalForm code).1) ((DrawIsNormalForm code).2)) != (IsNormalForm ((DrawIsNormalForm code).1) ((DrawIsNormalForm code).2))) = false := g5
    assumption
   ·
    intro g6
    have g6p0 : ((iIsNormalForm ((DrawIsNormalForm code).1) ((DrawIsNormalForm code).2)) != (IsNormalForm ((DrawIsNormalForm code).1) ((DrawIsNormalForm code).2))) = false := g6
    assumption
   ·
    intro g7
    have g7p0 : ((iIsNormalForm ((DrawIsNormalForm code).1) ((DrawIsNormalForm code).2)) != (IsNormalForm ((DrawIsNormalForm code).1) ((DrawIsNormalForm code).2))) = false := g7
    trivial
   ·
    intro g8
    have g8p0 : ((iIsNormalForm ((DrawIsNormalForm code).1) ((DrawIsNormalForm code).2)) != (IsNormalForm ((DrawIsNormalForm code).1) ((DrawIsNormalForm code).2))) = false := g8
    assumption
   ·
    intro g9
    have g9p0 : ((iIsNormalForm ((DrawIsNormalForm code).1) ((DrawIsNormalForm code).2)) != (IsNormalForm ((DrawIsNormalForm code).1) ((DrawIsNormalForm code).2))) = false := g9
    assumption
  refine AW.cd (bif ((iIsNormalForm ((DrawIsNormalForm code).1) ((DrawIsNormalForm code).2)) != (IsNormalForm ((DrawIsNormalForm code).1) ((DrawIsNormalForm code).2))) then true else (!(ValidDependencies ((DrawIsNormalForm code).1) ((DrawIsNormalForm code).2)))) ?_ ?_
  ·
   intro h10
   have h10q : (((iIsNormalForm ((DrawIsNormalForm code).1) ((DrawIsNormalForm code).2)) != (IsNormalForm ((DrawIsNormalForm code).1) ((DrawIsNormalForm code).2))) = true) ∨ ((ValidDependencies ((DrawIsNormalForm code).1) ((DrawIsNormalForm code).2)) = false) := (Or.imp (fun h => h) (fun h => (Go.Am.not_pos h)) (Go.Am.or_pos h10))
   have e11 := e4.trans (Go.Am.bif_t h10)
   refine AW.seq (AW.r0 hC [2] [] ⟨[(2, .bool ((iIsNormalForm ((DrawIsNormalForm code).1) ((DrawIsNormalForm code).2)) == (IsNormalForm ((DrawIsNormalForm code).1) ((DrawIsNormalForm code).2))))], []⟩ [(True)] ?_ ?_)
   ·
    refine ⟨?_, trivial⟩
    ·
     trivial
   exact AW.ret (AW.retE (β := Bool) (fun v => [⟨.bool, v⟩]) (fun v => []) (v := ((iIsNormalForm ((DrawIsNormalForm code).1) ((DrawIsNormalForm code).2)) == (IsNormalForm ((DrawIsNormalForm code).1) ((DrawIsNormalForm code).2)))) e11 (by kernel_rfl) rfl rfl)
  ·
   intro h12
   have h12q : (((iIsNormalForm ((DrawIsNormalForm code).1) ((DrawIsNormalForm code).2)) != (IsNormalForm ((DrawIsNormalForm code).1) ((DrawIsNormalForm code).2))) = false) ∧ ((ValidDependencies ((DrawIsNormalForm code).1) ((DrawIsNormalForm code).2)) = true) := (And.imp (fun h => h) (fun h => (Go.Am.not_neg h)) (Go.Am.or_neg h12))
   have e13 := e4.trans (Go.Am.bif_f h12)
   refine AW.kp [3, 4, 5] [] ⟨[(3, .data (.slice (.named 0)) (((DrawIsNormalForm code).1) : List Dep)), (4, .int .i64 ((DrawIsNormalForm code).2)), (5, .bool (iIsNormalForm ((DrawIsNormalForm code).1) ((DrawIsNormalForm code).2)))], []⟩ ?_
   refine AW.skip (AW.seq (AW.r1 hC [3, 4, 5, 6] [] ⟨[(3, .data (.slice (.named 0)) (((DrawIsNormalForm code).1) : List Dep)), (4, .int .i64 ((DrawIsNormalForm code).2)), (5, .bool (iIsNormalForm ((DrawIsNormalForm code).1) ((DrawIsNormalForm code).2))), (6, .bool true)], []⟩ ?_))
   refine AW.seq (AW.seq (AW.r1 hC [3, 4, 5, 6, 7] [] ⟨[(3, .data (.slice (.named 0)) (((DrawIsNormalForm code).1) : List Dep)), (4, .int .i64 ((DrawIsNormalForm code).2)), (5, .bool (iIsNormalForm ((DrawIsNormalForm code).1) ((DrawIsNormalForm code).2))), (6, .bool true), (7, .int .i64 0)], []⟩ ?_))
   refine AW.cutQ (α := Bool) (fun x => ⟨[(4, .int .i64 ((DrawIsNormalForm code).2)), (5, .bool (iIsNormalForm ((DrawIsNormalForm code).1) ((DrawIsNormalForm code).2))), (6, .bool x)], []⟩) (fun x => (True) ∧ (FnIsNormalForm_l0 code ((List.length ((DrawIsNormalForm code).1)) - 0 + 1) true 0) = x) ?_ ?_
   ·
    skip
    refine AW.block (AW.loop (α := Bool × Nat) (fun x => ⟨[(3, .data (.slice (.named 0)) (((DrawIsNormalForm code).1) : List Dep)), (4, .int .i64 ((DrawIsNormalForm code).2)), (5, .bool (iIsNormalForm ((DrawIsNormalForm code).1) ((DrawIsNormalForm code).2))), (6, .bool x.1), (7, .int .i64 ((x.2 : Nat) : Int))], []⟩) (fun x => (True) ∧ ∃ k, (List.length ((DrawIsNormalForm code).1)) - x.2 < k ∧ (FnIsNormalForm_l0 code ((List.length ((DrawIsNormalForm code).1)) - 0 + 1) true 0) = FnIsNormalForm_l0 code k x.1 x.2) (fun x => (List.length ((DrawIsNormalForm code).1)) - x.2) (true, 0) (by kernel_rfl) ⟨?_, _, Nat.lt_succ_self _, rfl⟩ ?_)
    ·
     show True
     exact trivial
    ·
     intro x hR
     obtain ⟨want, i⟩ := x
     obtain ⟨hI0, k28, hk26, e27⟩ := hR
     replace hI0 : True := hI0
     replace hk26 : (List.length ((DrawIsNormalForm code).1)) - i < k28 := hk26
     obtain ⟨k28q, rfl⟩ : ∃ k, k28 = k + 1 := ⟨k28 - 1, by omega⟩
     refine AW.seq (AW.seq (AW.r1 hC [3, 4, 5, 6, 7, 38] [] ⟨[(3, .data (.slice (.named 0)) (((DrawIsNormalForm code).1) : List Dep)), (4, .int .i64 ((DrawIsNormalForm code).2)), (5, .bool (iIsNormalForm ((DrawIsNormalForm code).1) ((DrawIsNormalForm code).2))), (6, .bool want), (7, .int .i64 ((i : Nat) : Int)), (38, .bool (decide (((i : Nat) : Int) < ((List.length ((DrawIsNormalForm code).1) : Nat) : Int))))], []⟩ ?_))
     refine AW.cd (decide (((i : Nat) : Int) < ((List.length ((DrawIsNormalForm code).1) : Nat) : Int))) ?_ ?_
     ·
      intro h29
      have h29q : ((i : Nat) : Int) < ((List.length ((DrawIsNormalForm code).1) : Nat) : Int) := (of_decide_eq_true h29)
      have e30 := e27.trans (Go.Am.bif_t h29)
      refine AW.kp [3, 4, 5, 6, 7] [] ⟨[(3, .data (.slice (.named 0)) (((DrawIsNormalForm code).1) : List Dep)), (4, .int .i64 ((DrawIsNormalForm code).2)), (5, .bool (iIsNormalForm ((DrawIsNormalForm code).1) ((DrawIsNormalForm code).2))), (6, .bool want), (7, .int .i64 ((i : Nat) : Int))], []⟩ ?_
      refine AW.skip (AW.seq (AW.block (AW.d0 hC hM [3, 4, 5, 6, 7] [] ⟨[(3, .data (.slice (.named 0)) (((DrawIsNormalForm code).1) : List Dep)), (4, .int .i64 ((DrawIsNormalForm code).2)), (5, .bool (iIsNormalForm ((DrawIsNormalForm code).1) ((DrawIsNormalForm code).2))), (6, .bool (bif want then (bif ((bits .and .i64 (Dep.To (List.getD ((DrawIsNormalForm code).1) i Dep.zero)) (Dep.From (List.getD ((DrawIsNormalForm code).1) i Dep.zero))) == (Dep.To (List.getD ((DrawIsNormalForm code).1) i Dep.zero))) then true else (iIsKey ((DrawIsNormalForm code).1) ((DrawIsNormalForm code).2) (Dep.From (List.getD ((DrawIsNormalForm code).1) i Dep.zero)))) else false)), (7, .int .i64 ((i : Nat) : Int))], []⟩ [((want = true) → ((want = true))), ((want = true) → ((want = true))), ((want = true) → (0 ≤ ((i : Nat) : Int) ∧ ((i : Nat) : Int) < ((List.length ((DrawIsNormalForm code).1) : Nat) : Int))), ((want = true) → ((want = true))), ((want = true) → ((want = true))), ((want = true) → ((want = true))), ((want = true) → ((want = true))), ((want = true) → (0 ≤ ((i : Nat) : Int) ∧ ((i : Nat) : Int) < ((List.length ((DrawIsNormalForm code).1) : Nat) : Int))), ((want = true) → ((want = true))), ((want = true) → ((want = true))), ((want = true) → ((want = true))), ((want = true) → ((want = true))), ((want = true) → ((want = true))), ((want = true) → ((want = true))), ((want = true) → (0 ≤ ((i : Nat) : Int) ∧ ((i : Nat) : Int) < ((List.length ((DrawIsNormalForm code).1) : Nat) : Int))), ((want = true) → ((want = true))), ((want = true) → ((want = true))), ((want = true) → ((want = true))), ((want = true) → ((want = true))), ((want = true) → ((want = true))), (((want = true) ∧ (((bits .and .i64 (Dep.To (List.getD ((DrawIsNormalForm code).1) i Dep.zero)) (Dep.From (List.getD ((DrawIsNormalForm code).1) i Dep.zero))) == (Dep.To (List.getD ((DrawIsNormalForm code).1) i Dep.zero))) = false)) → (((want = true) ∧ (((bits .and .i64 (Dep.To (List.getD ((DrawIsNormalForm code).1) i Dep.zero)) (Dep.From (List.getD ((DrawIsNormalForm code).1) i Dep.zero))) == (Dep.To (List.getD ((DrawIsNormalForm code).1) i Dep.zero))) = false)))), (((want = true) ∧ (((bits .and .i64 (Dep.To (List.getD ((DrawIsNormalForm code).1) i Dep.zero)) (Dep.From (List.getD ((DrawIsNormalForm code).1) i Dep.zero))) == (Dep.To (List.getD ((DrawIsNormalForm code).1) i Dep.zero))) = false)) → (((want = true) ∧ (((bits .and .i64 (Dep.To (List.getD ((DrawIsNormalForm code).1) i Dep.zero)) (Dep.From (List.getD ((DrawIsNormalForm code).1) i Dep.zero))) == (Dep.To (List.getD ((DrawIsNormalForm code).1) i Dep.zero))) = false)))), (((want = true) ∧ (((bits .and .i64 (Dep.To (List.getD ((DrawIsNormalForm code).1) i Dep.zero)) (Dep.From (List.getD ((DrawIsNormalForm code).1) i Dep.zero))) == (Dep.To (List.getD ((DrawIsNormalForm code).1) i Dep.zero))) = false)) → (0 ≤ ((i : Nat) : Int) ∧ ((i : Nat) : Int) < ((List.length ((DrawIsNormalForm code).1) : Nat) : Int))), (((want = true) ∧ (((bits .and .i64 (Dep.To (List.getD ((DrawIsNormalForm code).1) i Dep.zero)) (Dep.From (List.getD ((DrawIsNormalForm code).1) i Dep.zero))) == (Dep.To (List.getD ((DrawIsNormalForm code).1) i Dep.zero))) = false)) → (((want = true) ∧ (((bits .and .i64 (Dep.To (List.getD ((DrawIsNormalForm code).1) i Dep.zero)) (Dep.From (List.getD ((DrawIsNormalForm code).1) i Dep.zero))) == (Dep.To (List.getD ((DrawIsNormalForm code).1) i Dep.zero))) = false)))), (((want = true) ∧ (((bits .and .i64 (Dep.To (List.getD ((DrawIsNormalForm code).1) i Dep.zero)) (Dep.From (List.getD ((DrawIsNormalForm code).1) i Dep.zero))) == (Dep.To (List.getD ((DrawIsNormalForm code).1) i Dep.zero))) = false)) → (((want = true) ∧ (((bits .and .i64 (Dep.To (List.getD ((DrawIsNormalForm code).1) i Dep.zero)) (Dep.From (List.getD ((DrawIsNormalForm code).1) i Dep.zero))) == (Dep.To (List.getD ((DrawIsNormalForm code).1) i Dep.zero))) = false)))), (((want = true) ∧ (((bits .and .i64 (Dep.To (List.getD ((DrawIsNormalForm code).1) i Dep.zero)) (Dep.From (List.getD ((DrawIsNormalForm code).1) i Dep.zero))) == (Dep.To (List.getD ((DrawIsNormalForm code).1) i Dep.zero))) = false)) → (((want = true) ∧ (((bits .and .i64 (Dep.To (List.getD ((DrawIsNormalForm code).1) i Dep.zero)) (Dep.From (List.getD ((DrawIsNormalForm code).1) i Dep.zero))) == (Dep.To (List.getD ((DrawIsNormalForm code).1) i Dep.zero))) = false)))), (((want = true) ∧ (((bits .and .i64 (Dep.To (List.getD ((DrawIsNormalForm code).1) i Dep.zero)) (Dep.From (List.getD ((DrawIsNormalForm code).1) i Dep.zero))) == (Dep.To (List.getD ((DrawIsNormalForm code).1) i Dep.zero))) = false)) → (((want = true) ∧ (((bits .and .i64 (Dep.To (List.getD ((DrawIsNormalForm code).1) i Dep.zero)) (Dep.From (List.getD ((DrawIsNormalForm code).1) i Dep.zero))) == (Dep.To (List.getD ((DrawIsNormalForm code).1) i Dep.zero))) = false)))), (((want = true) ∧ (((bits .and .i64 (Dep.To (List.getD ((DrawIsNormalForm code).1) i Dep.zero)) (Dep.From (List.getD ((DrawIsNormalForm code).1) i Dep.zero))) == (Dep.To (List.getD ((DrawIsNormalForm code).1) i Dep.zero))) = false)) → (((want = true) ∧ (((bits .and .i64 (Dep.To (List.getD ((DrawIsNormalForm code).1) i Dep.zero)) (Dep.From (List.getD ((DrawIsNormalForm code).1) i Dep.zero))) == (Dep.To (List.getD ((DrawIsNormalForm code).1) i Dep.zero))) = false)))), (((want = true) ∧ (((bits .and .i64 (Dep.To (List.getD ((DrawIsNormalForm code).1) i Dep.zero)) (Dep.From (List.getD ((DrawIsNormalForm code).1) i Dep.zero))) == (Dep.To (List.getD ((DrawIsNormalForm code).1) i Dep.zero))) = false)) → (True)), ((want = true) → ((want = true))), ((want = true) → ((((bits .and .i64 (Dep.To (List.getD ((DrawIsNormalForm code).1) i Dep.zero)) (Dep.From (List.getD ((DrawIsNormalForm code).1) i Dep.zero))) == (Dep.To (List.getD ((DrawIsNormalForm code).1) i Dep.zero))) = false) → (((want = true) ∧ (((bits .and .i64 (Dep.To (List.getD ((DrawIsNormalForm code).1) i Dep.zero)) (Dep.From (List.getD ((DrawIsNormalForm code).1) i Dep.zero))) == (Dep.To (List.getD ((DrawIsNormalForm code).1) i Dep.zero))) = false))))), ((want = true) → ((want = true)))] ?_ ?_)))
      ·
       refine ⟨?_, ?_, ?_, ?_, ?_, ?_, ?_, ?_, ?_, ?_, ?_, ?_, ?_, ?_, ?_, ?_, ?_, ?_, ?_, ?_, ?_, ?_, ?_, ?_, ?_, ?_, ?_, ?_, ?_, ?_, ?_, ?_, trivial⟩
       ·
        intro g31
        have g31p0 : want = true := g31
        assumption
       ·
        intro g32
        have g32p0 : want = true := g32
        assumption
       ·
        intro g33
        have g33p0 : want = true := g33
        omega
       ·
        intro g34
        have g34p0 : want = true := g34
        assumption
       ·
        intro g35
        have g35p0 : want = true := g35
        assumption
       ·
        intro g36
        have g36p0 : want = true := g36
        assumption
       ·
        intro g37
        have g37p0 : want = true := g37
        assumption
       ·
        intro g38
        have g38p0 : want = true := g38
        omega
       ·
        intro g39
        have g39p0 : want = true := g39
        assumption
       ·
        intro g40
        have g40p0 : want = true := g40
        assumption
       ·
        intro g41
        have g41p0 : want = true := g41
        assumption
       ·
        intro g42
        have g42p0 : want = true := g42
        assumption
       ·
        intro g43
        have g43p0 : want = true := g43
        assumption
       ·
        intro g44
        have g44p0 : want = true := g44
        assumption
       ·
        intro g45
        have g45p0 : want = true := g45
        omega
       ·
        intro g46
        have g46p0 : want = true := g46
        assumption
       ·
        intro g47
        have g47p0 : want = true := g47
        assumption
       ·
        intro g48
        have g48p0 : want = true := g48
        assumption
       ·
        intro g49
        have g49p0 : want = true := g49
        assumption
       ·
        intro g50
        have g50p0 : want = true := g50
        assumption
       ·
        intro g51
        have g51p0 : want = true := (g51).1
        have g51p1 : (bits .and .i64 (Dep.To (List.getD ((DrawIsNormalForm code).1) i Dep.zero)) (Dep.From (List.getD ((DrawIsNormalForm code).1) i Dep.zero))) ≠ (Dep.To (List.getD ((DrawIsNormalForm code).1) i Dep.zero)) := (Go.Am.beq_neg (g51).2)
        assumption
       ·
        intro g52
        have g52p0 : want = true := (g52).1
        have g52p1 : (bits .and .i64 (Dep.To (List.getD ((DrawIsNormalForm code).1) i Dep.zero)) (Dep.From (List.getD ((DrawIsNormalForm code).1) i Dep.zero))) ≠ (Dep.To (List.getD ((DrawIsNormalForm code).1) i Dep.zero)) := (Go.Am.beq_neg (g52).2)
        assumption
       ·
        intro g53
        have g53p0 : want = true := (g53).1
        have g53p1 : (bits .and .i64 (Dep.To (List.getD ((DrawIsNormalForm code).1) i Dep.zero)) (Dep.From (List.getD ((DrawIsNormalForm code).1) i Dep.zero))) ≠ (Dep.To (List.getD ((DrawIsNormalForm code).1) i Dep.zero)) := (Go.Am.beq_neg (g53).2)
        omega
       ·
        intro g54
        have g54p0 : want = true := (g54).1
        have g54p1 : (bits .and .i64 (Dep.To (List.getD ((DrawIsNormalForm code).1) i Dep.zero)) (Dep.From (List.getD ((DrawIsNormalForm code).1) i Dep.zero))) ≠ (Dep.To (List.getD ((DrawIsNormalForm code).1) i Dep.zero)) := (Go.Am.beq_neg (g54).2)
        assumption
       ·
        intro g55
        have g55p0 : want = true := (g55).1
        have g55p1 : (bits .and .i64 (Dep.To (List.getD ((DrawIsNormalForm code).1) i Dep.zero)) (Dep.From (List.getD ((DrawIsNormalForm code).1) i Dep.zero))) ≠ (Dep.To (List.getD ((DrawIsNormalForm code).1) i Dep.zero)) := (Go.Am.beq_neg (g55).2)
        assumption
       ·
        intro g56
        have g56p0 : want = true := (g56).1
        have g56p1 : (bits .and .i64 (Dep.To (List.getD ((DrawIsNormalForm code).1) i Dep.zero)) (Dep.From (List.getD ((DrawIsNormalForm code).1) i Dep.zero))) ≠ (Dep.To (List.getD ((DrawIsNormalForm code).1) i Dep.zero)) := (Go.Am.beq_neg (g56).2)
        assumption
       ·
        intro g57
        have g57p0 : want = true := (g57).1
        have g57p1 : (bits .and .i64 (Dep.To (List.getD ((DrawIsNormalForm code).1) i Dep.zero)) (Dep.From (List.getD ((DrawIsNormalForm code).1) i Dep.zero))) ≠ (Dep.To (List.getD ((DrawIsNormalForm code).1) i Dep.zero)) := (Go.Am.beq_neg (g57).2)
        assumption
       ·
        intro g58
        have g58p0 : want = true := (g58).1
        have g58p1 : (bits .and .i64 (Dep.To (List.getD ((DrawIsNormalForm code).1) i Dep.zero)) (Dep.From (List.getD ((DrawIsNormalForm code).1) i Dep.zero))) ≠ (Dep.To (List.getD ((DrawIsNormalForm code).1) i Dep.zero)) := (Go.Am.beq_neg (g58).2)
        assumption
       ·
        intro g59
        have g59p0 : want = true := (g59).1
        have g59p1 : (bits .and .i64 (Dep.To (List.getD ((DrawIsNormalForm code).1) i Dep.zero)) (Dep.From (List.getD ((DrawIsNormalForm code).1) i Dep.zero))) ≠ (Dep.To (List.getD ((DrawIsNormalForm code).1) i Dep.zero)) := (Go.Am.beq_neg (g59).2)
        trivial
       ·
        intro g60
        have g60p0 : want = true := g60
        assumption
       ·
        intro g61
        have g61p0 : want = true := g61
        intro g62
        have g62p0 : (bits .and .i64 (Dep.To (List.getD ((DrawIsNormalForm code).1) i Dep.zero)) (Dep.From (List.getD ((DrawIsNormalForm code).1) i Dep.zero))) ≠ (Dep.To (List.getD ((DrawIsNormalForm code).1) i Dep.zero)) := (Go.Am.beq_neg g62)
        exact ⟨by assumption, by assumption⟩
       ·
        intro g63
        have g63p0 : want = true := g63
        assumption
      refine AW.r0 hC [3, 4, 5, 6, 7] [] ⟨[(3, .data (.slice (.named 0)) (((DrawIsNormalForm code).1) : List Dep)), (4, .int .i64 ((DrawIsNormalForm code).2)), (5, .bool (iIsNormalForm ((DrawIsNormalForm code).1) ((DrawIsNormalForm code).2))), (6, .bool (bif want then (bif ((bits .and .i64 (Dep.To (List.getD ((DrawIsNormalForm code).1) i Dep.zero)) (Dep.From (List.getD ((DrawIsNormalForm code).1) i Dep.zero))) == (Dep.To (List.getD ((DrawIsNormalForm code).1) i Dep.zero))) then true else (iIsKey ((DrawIsNormalForm code).1) ((DrawIsNormalForm code).2) (Dep.From (List.getD ((DrawIsNormalForm code).1) i Dep.zero)))) else false)), (7, .int .i64 ((i + 1 : Nat) : Int))], []⟩ [(-9223372036854775808 ≤ ((i + 1 : Nat) : Int) ∧ ((i + 1 : Nat) : Int) ≤ 9223372036854775807)] ?_ ?_
      ·
       refine ⟨?_, trivial⟩
       ·
        have := (ValidDependencies_iff.1 h12q.2).2.1
        omega
      refine AW.back (x := (want, i)) ((bif want then (bif ((bits .and .i64 (Dep.To (List.getD ((DrawIsNormalForm code).1) i Dep.zero)) (Dep.From (List.getD ((DrawIsNormalForm code).1) i Dep.zero))) == (Dep.To (List.getD ((DrawIsNormalForm code).1) i Dep.zero))) then true else (iIsKey ((DrawIsNormalForm code).1) ((DrawIsNormalForm code).2) (Dep.From (List.getD ((DrawIsNormalForm code).1) i Dep.zero)))) else false), i + 1) (by kernel_rfl) ⟨?_, k28q, ?_, e30⟩ ?_
      ·
       show True
       assumption
      ·
       show (List.length ((DrawIsNormalForm code).1)) - (i + 1) < k28q
       omega
      ·
       show (List.length ((DrawIsNormalForm code).1)) - (i + 1) < (List.length ((DrawIsNormalForm code).1)) - i
       omega
     ·
      intro h64
      have h64q : ¬ (((i : Nat) : Int) < ((List.length ((DrawIsNormalForm code).1) : Nat) : Int)) := (of_decide_eq_false h64)
      have e65 := e27.trans (Go.Am.bif_f h64)
      refine AW.kp [4, 5, 6] [] ⟨[(4, .int .i64 ((DrawIsNormalForm code).2)), (5, .bool (iIsNormalForm ((DrawIsNormalForm code).1) ((DrawIsNormalForm code).2))), (6, .bool want)], []⟩ ?_
      refine AW.exit ?_
      refine AW.meet want (by kernel_rfl) ⟨?_, e65⟩
      show True
      assumption
   ·
    intro want hR
    obtain ⟨hJ0, e66⟩ := hR
    replace hJ0 : True := hJ0
    have e67 := e13.trans (Go.Am.then_eq e66)
    refine AW.seq ?_
    refine Go.Am.bsplit (b := ((iIsNormalForm ((DrawIsNormalForm code).1) ((DrawIsNormalForm code).2)) == want)) ?_ ?_
    ·
     intro h68
     have h68q : ((iIsNormalForm ((DrawIsNormalForm code).1) ((DrawIsNormalForm code).2)) == want) = true := h68
     have e69 := e67.trans (Go.Am.bif_t h68)
     refine AW.reg hC  false [(74, true)] [2] []
      ⟨[(2, .bool (bif ((iIsNormalForm ((DrawIsNormalForm code).1) ((DrawIsNormalForm code).2)) == want) then (iIsNormalForm ([] : List Dep) ((DrawIsNormalForm code).2)) else false))], []⟩
      [(((iIsNormalForm ((DrawIsNormalForm code).1) ((DrawIsNormalForm code).2)) == want) = true), (((iIsNormalForm ((DrawIsNormalForm code).1) ((DrawIsNormalForm code).2)) == want) = true), (((iIsNormalForm ((DrawIsNormalForm code).1) ((DrawIsNormalForm code).2)) == want) = true), (True)] (by kernel_rfl) ?_ ?_
     ·
      refine ⟨?_, ?_, ?_, ?_, trivial⟩
      ·
       assumption
      ·
       assumption
      ·
       assumption
      ·
       trivial
     exact AW.ret (AW.retE (β := Bool) (fun v => [⟨.bool, v⟩]) (fun v => []) (v := (bif ((iIsNormalForm ((DrawIsNormalForm code).1) ((DrawIsNormalForm code).2)) == want) then (iIsNormalForm ([] : List Dep) ((DrawIsNormalForm code).2)) else false)) e69 (by kernel_rfl) rfl rfl)
    ·
     intro h70
     have h70q : ((iIsNormalForm ((DrawIsNormalForm code).1) ((DrawIsNormalForm code).2)) == want) = false := h70
     have e71 := e67.trans (Go.Am.bif_f h70)
     refine AW.reg hC  false [(74, false)] [2] []
      ⟨[(2, .bool false)], []⟩
      [(((iIsNormalForm ((DrawIsNormalForm code).1) ((DrawIsNormalForm code).2)) == want) = false), (((iIsNormalForm ((DrawIsNormalForm code).1) ((DrawIsNormalForm code).2)) == want) = false), (((iIsNormalForm ((DrawIsNormalForm code).1) ((DrawIsNormalForm code).2)) == want) = false), (((iIsNormalForm ((DrawIsNormalForm code).1) ((DrawIsNormalForm code).2)) == want) = false)] (by kernel_rfl) ?_ ?_
     ·
      refine ⟨?_, ?_, ?_, ?_, trivial⟩
      ·
       assumption
      ·
       assumption
      ·
       assumption
      ·
       assumption
     exact AW.ret (AW.retE (β := Bool) (fun v => [⟨.bool, v⟩]) (fun v => []) (v := false) e71 (by kernel_rfl) rfl rfl)

end
end Go.Proofs.Ytmijmkbnmcmgcaa
