/-
  A part of the proof of this claim (AsH): what functions of the program compute, and plain facts of that. No conditions.
-/
import Derived.Test.YtbhgdogogpihhaaAsG
set_option linter.all false
namespace Go.Proofs.Ytbhgdogogpihhaa
open Go Go.Am
noncomputable section

theorem dep64 {f : Dep} {w : Int} {fds : List Dep} (h : ValidDependencies fds w = true) (hf : depValid f w = true) : (0 ≤ f.From ∧ f.From < 64) ∧ ∀ h ∈ fds, (0 ≤ h.From ∧ h.From < 64) ∧ (0 ≤ h.To ∧ h.To < 64) :=
 deps64 h (ivalidSet_iff.2 (depValid_iff.1 hf).1)

theorem sdep64 {f : Dep} {w : Int} {fds : List Dep} (h : validDependencies fds w = true) (hf : validSet f.From w = true) : (0 ≤ f.From ∧ f.From < 64) ∧ ∀ h ∈ fds, (0 ≤ h.From ∧ h.From < 64) ∧ (0 ≤ h.To ∧ h.To < 64) :=
 sdeps64 h hf

def iImplies (fds : List Dep) (width : Int) (f : Dep) : Bool := (bif (bif (ValidDependencies fds width) then (depValid f width) else false) then (iimplies fds f) else false)

def iImplies_sp : FnSpec := mkSpec [.val (.slice (.named 0)), .val (.int .i64), .val (.named 0)] [.val .bool] (fun (fds : List Dep) (width : Int) (f : Dep) => True) (fun (fds : List Dep) (width : Int) (f : Dep) => [⟨.bool, (iImplies fds width f)⟩])

theorem iImplies_ok : FnOK Try.prog 18 iImplies_sp := by
 have hC : CtxOK Try.prog (mkCtx tyL [(54, depValid_sp), (63, ValidDependencies_sp), (64, iimplies_sp)]) := CtxOK.cons depValid_ok (CtxOK.cons ValidDependencies_ok (CtxOK.cons iimplies_ok (CtxOK.nil tyOK)))
 refine FnOK.of_body Try.func18 (by kernel_rfl) rfl (C := (mkCtx tyL [(54, depValid_sp), (63, ValidDependencies_sp), (64, iimplies_sp)])) hC.ty (by kernel_rfl) ?_
 intro (fds : List Dep) (width : Int) (f : Dep) hwf hpre E
 have hpre : True := hpre
 have hw_fds : Wf ⟨(.slice (.named 0)), (fds : List Dep)⟩ := hwf _ (List.Mem.head _)
 have hl_fds : ((List.length fds : Nat) : Int) ≤ 9223372036854775807 := hw_fds.len
 have hw_width : Wf ⟨(.int .i64), (width : Int)⟩ := hwf _ (List.Mem.tail _ (List.Mem.head _))
 have hr_width : -9223372036854775808 ≤ width ∧ width ≤ 9223372036854775807 := hw_width.int_inv
 have hw_f : Wf ⟨(.named 0), (f : Dep)⟩ := hwf _ (List.Mem.tail _ (List.Mem.tail _ (List.Mem.head _)))
 have hr_f_From : -9223372036854775808 ≤ Dep.From f ∧ Dep.From f ≤ 9223372036854775807 := (hw_f.field (tv := ⟨(.int .i64), Dep.From f⟩) (List.Mem.head _)).int_inv
 have hr_f_To : -9223372036854775808 ≤ Dep.To f ∧ Dep.To f ≤ 9223372036854775807 := (hw_f.field (tv := ⟨(.int .i64), Dep.To f⟩) (List.Mem.tail _ (List.Mem.head _))).int_inv
 have e0 : iImplies fds width f = iImplies fds width f := rfl
 refine AW.seq (AW.r1 hC [0, 1, 5] [20] ⟨[(0, .data (.slice (.named 0)) (fds : List Dep)), (1, .int .i64 width), (5, .ref 20 1 0)], [(20, .box 1 [.int .i64 (Dep.From f), .int .i64 (Dep.To f)])]⟩ ?_)
 refine AW.seq (AW.r0 hC [6] [] ⟨[(6, .bool (bif (bif (ValidDependencies fds width) then (depValid f width) else false) then (iimplies fds f) else false))], []⟩ [(True), (((ValidDependencies fds width) = true) → (((ValidDependencies fds width) = true))), (((ValidDependencies fds width) = true) → (((ValidDependencies fds width) = true))), (((ValidDependencies fds width) = true) → (1 ≤ width ∧ width ≤ 6)), (((ValidDependencies fds width) = true) → (((ValidDependencies fds width) = true))), (((bif (ValidDependencies fds width) then (depValid f width) else false) = true) → (((bif (ValidDependencies fds width) then (depValid f width) else false) = true))), (((bif (ValidDependencies fds width) then (depValid f width) else false) = true) → (((bif (ValidDependencies fds width) then (depValid f width) else false) = true))), (((bif (ValidDependencies fds width) then (depValid f width) else false) = true) → ((0 ≤ f.From ∧ f.From < 64) ∧ ∀ h ∈ fds, (0 ≤ h.From ∧ h.From < 64) ∧ (0 ≤ h.To ∧ h.To < 64))), (((bif (ValidDependencies fds width) then (depValid f width) else false) = true) → (((bif (ValidDependencies fds width) then (depValid f width) else false) = true)))] ?_ ?_)
 ·
  refine ⟨?_, ?_, ?_, ?_, ?_, ?_, ?_, ?_, ?_, trivial⟩
  ·
   trivial
  ·
   intro g1
   have g1p0 : (ValidDependencies fds width) = true := g1
   first | assumption | exact ⟨by assumption, by assumption⟩
  ·
   intro g2
   have g2p0 : (ValidDependencies fds width) = true := g2
   first | assumption | exact ⟨by assumption, by assumption⟩
  ·
   intro g3
   have g3p0 : (ValidDependencies fds width) = true := g3
   exact (ValidDependencies_iff.1 (by first | exact g3p0 | exact trivial | exact trivial)).1
  ·
   intro g4
   have g4p0 : (ValidDependencies fds width) = true := g4
   first | assumption | exact ⟨by assumption, by assumption⟩
  ·
   intro g5
   have g5p0 : ((ValidDependencies fds width) = true) ∧ ((depValid f width) = true) := (And.imp (fun h => h) (fun h => h) (Go.Am.and_pos g5))
   first | assumption | exact ⟨by assumption, by assumption⟩
  ·
   intro g6
   have g6p0 : ((ValidDependencies fds width) = true) ∧ ((depValid f width) = true) := (And.imp (fun h => h) (fun h => h) (Go.Am.and_pos g6))
   first | assumption | exact ⟨by assumption, by assumption⟩
  ·
   intro g7
   have g7p0 : ((ValidDependencies fds width) = true) ∧ ((depValid f width) = true) := (And.imp (fun h => h) (fun h => h) (Go.Am.and_pos g7))
   exact dep64 (by first | exact g7p0.1 | exact trivial) (by first | exact g7p0.2 | exact g7p0)
  ·
   intro g8
   have g8p0 : ((ValidDependencies fds width) = true) ∧ ((depValid f width) = true) := (And.imp (fun h => h) (fun h => h) (Go.Am.and_pos g8))
   first | assumption | exact ⟨by assumption, by assumption⟩
 exact AW.ret (AW.retE (β := Bool) (fun v => [⟨.bool, v⟩]) (fun v => []) (v := (bif (bif (ValidDependencies fds width) then (depValid f width) else false) then (iimplies fds f) else false)) e0 (by kernel_rfl) rfl rfl)

def Implies (fds : List Dep) (width : Int) (f : Dep) : Bool := (bif (bif (bif (validDependencies fds width) then (validSet (Dep.From f) width) else false) then (validSet (Dep.To f) width) else false) then (implies fds f) else false)

def Implies_sp : FnSpec := mkSpec [.val (.slice (.named 0)), .val (.int .i64), .val (.named 0)] [.val .bool] (fun (fds : List Dep) (width : Int) (f : Dep) => True) (fun (fds : List Dep) (width : Int) (f : Dep) => [⟨.bool, (Implies fds width f)⟩])

theorem Implies_ok : FnOK Try.prog 19 Implies_sp := by
 have hC : CtxOK Try.prog (mkCtx tyL [(57, validSet_sp), (65, validDependencies_sp), (66, implies_sp)]) := CtxOK.cons validSet_ok (CtxOK.cons validDependencies_ok (CtxOK.cons implies_ok (CtxOK.nil tyOK)))
 refine FnOK.of_body Try.func19 (by kernel_rfl) rfl (C := (mkCtx tyL [(57, validSet_sp), (65, validDependencies_sp), (66, implies_sp)])) hC.ty (by kernel_rfl) ?_
 intro (fds : List Dep) (width : Int) (f : Dep) hwf hpre E
 have hpre : True := hpre
 have hw_fds : Wf ⟨(.slice (.named 0)), (fds : List Dep)⟩ := hwf _ (List.Mem.head _)
 have hl_fds : ((List.length fds : Nat) : Int) ≤ 9223372036854775807 := hw_fds.len
 have hw_width : Wf ⟨(.int .i64), (width : Int)⟩ := hwf _ (List.Mem.tail _ (List.Mem.head _))
 have hr_width : -9223372036854775808 ≤ width ∧ width ≤ 9223372036854775807 := hw_width.int_inv
 have hw_f : Wf ⟨(.named 0), (f : Dep)⟩ := hwf _ (List.Mem.tail _ (List.Mem.tail _ (List.Mem.head _)))
 have hr_f_From : -9223372036854775808 ≤ Dep.From f ∧ Dep.From f ≤ 9223372036854775807 := (hw_f.field (tv := ⟨(.int .i64), Dep.From f⟩) (List.Mem.head _)).int_inv
 have hr_f_To : -9223372036854775808 ≤ Dep.To f ∧ Dep.To f ≤ 9223372036854775807 := (hw_f.field (tv := ⟨(.int .i64), Dep.To f⟩) (List.Mem.tail _ (List.Mem.head _))).int_inv
 have e0 : Implies fds width f = Implies fds width f := rfl
 refine AW.seq (AW.r1 hC [0, 1, 5] [20] ⟨[(0, .data (.slice (.named 0)) (fds : List Dep)), (1, .int .i64 width), (5, .ref 20 1 0)], [(20, .box 1 [.int .i64 (Dep.From f), .int .i64 (Dep.To f)])]⟩ ?_)
 refine AW.seq (AW.r0 hC [6] [] ⟨[(6, .bool (bif (bif (bif (validDependencies fds width) then (validSet (Dep.From f) width) else false) then (validSet (Dep.To f) width) else false) then (implies fds f) else false))], []⟩ [(True), (((validDependencies fds width) = true) → (((validDependencies fds width) = true))), (((validDependencies fds width) = true) → (((validDependencies fds width) = true))), (((validDependencies fds width) = true) → (((validDependencies fds width) = true))), (((validDependencies fds width) = true) → (True)), (((validDependencies fds width) = true) → (((validDependencies fds width) = true))), (((bif (validDependencies fds width) then (validSet (Dep.From f) width) else false) = true) → (((bif (validDependencies fds width) then (validSet (Dep.From f) width) else false) = true))), (((bif (validDependencies fds width) then (validSet (Dep.From f) width) else false) = true) → (((bif (validDependencies fds width) then (validSet (Dep.From f) width) else false) = true))), (((bif (validDependencies fds width) then (validSet (Dep.From f) width) else false) = true) → (((bif (validDependencies fds width) then (validSet (Dep.From f) width) else false) = true))), (((bif (validDependencies fds width) then (validSet (Dep.From f) width) else false) = true) → (True)), (((bif (validDependencies fds width) then (validSet (Dep.From f) width) else false) = true) → (((bif (validDependencies fds width) then (validSet (Dep.From f) width) else false) = true))), (((bif (bif (validDependencies fds width) then (validSet (Dep.From f) width) else false) then (validSet (Dep.To f) width) else false) = true) → (((bif (bif (validDependencies fds width) then (validSet (Dep.From f) width) else false) then (validSet (Dep.To f) width) else false) = true))), (((bif (bif (validDependencies fds width) then (validSet (Dep.From f) width) else false) then (validSet (Dep.To f) width) else false) = true) → (((bif (bif (validDependencies fds width) then (validSet (Dep.From f) width) else false) then (validSet (Dep.To f) width) else false) = true))), (((bif (bif (validDependencies fds width) then (validSet (Dep.From f) width) else false) then (validSet (Dep.To f) width) else false) = true) → ((0 ≤ f.From ∧ f.From < 64) ∧ ∀ h ∈ fds, (0 ≤ h.From ∧ h.From < 64) ∧ (0 ≤ h.To ∧ h.To < 64))), (((bif (bif (validDependencies fds width) then (validSet (Dep.From f) width) else false) then (validSet (Dep.To f) width) else false) = true) → (((bif (bif (validDependencies fds width) then (validSet (Dep.From f) width) else false) then (validSet (Dep.To f) width) else false) = true)))] ?_ ?_)
 ·
  refine ⟨?_, ?_, ?_, ?_, ?_, ?_, ?_, ?_, ?_, ?_, ?_, ?_, ?_, ?_, ?_, trivial⟩
  ·
   trivial
  ·
   intro g1
   have g1p0 : (validDependencies fds width) = true := g1
   first | assumption | exact ⟨by assumption, by assumption⟩
  ·
   intro g2
   have g2p0 : (validDependencies fds width) = true := g2
   first | assumption | exact ⟨by assumption, by assumption⟩
  ·
   intro g3
   have g3p0 : (validDependencies fds width) = true := g3
   first | assumption | exact ⟨by assumption, by assumption⟩
  ·
   intro g4
   have g4p0 : (validDependencies fds width) = true := g4
   trivial
  ·
   intro g5
   have g5p0 : (validDependencies fds width) = true := g5
   first | assumption | exact ⟨by assumption, by assumption⟩
  ·
   intro g6
   have g6p0 : ((validDependencies fds width) = true) ∧ ((validSet (Dep.From f) width) = true) := (And.imp (fun h => h) (fun h => h) (Go.Am.and_pos g6))
   first | assumption | exact ⟨by assumption, by assumption⟩
  ·
   intro g7
   have g7p0 : ((validDependencies fds width) = true) ∧ ((validSet (Dep.From f) width) = true) := (And.imp (fun h => h) (fun h => h) (Go.Am.and_pos g7))
   first | assumption | exact ⟨by assumption, by assumption⟩
  ·
   intro g8
   have g8p0 : ((validDependencies fds width) = true) ∧ ((validSet (Dep.From f) width) = true) := (And.imp (fun h => h) (fun h => h) (Go.Am.and_pos g8))
   first | assumption | exact ⟨by assumption, by assumption⟩
  ·
   intro g9
   have g9p0 : ((validDependencies fds width) = true) ∧ ((validSet (Dep.From f) width) = true) := (And.imp (fun h => h) (fun h => h) (Go.Am.and_pos g9))
   trivial
  ·
   intro g10
   have g10p0 : ((validDependencies fds width) = true) ∧ ((validSet (Dep.From f) width) = true) := (And.imp (fun h => h) (fun h => h) (Go.Am.and_pos g10))
   first | assumption | exact ⟨by assumption, by assumption⟩
  ·
   intro g11
   have g11p0 : (((validDependencies fds width) = true) ∧ ((validSet (Dep.From f) width) = true)) ∧ ((validSet (Dep.To f) width) = true) := (And.imp (fun h => (And.imp (fun h => h) (fun h => h) (Go.Am.and_pos h))) (fun h => h) (Go.Am.and_pos g11))
   first | assumption | exact ⟨by assumption, by assumption⟩
  ·
   intro g12
   have g12p0 : (((validDependencies fds width) = true) ∧ ((validSet (Dep.From f) width) = true)) ∧ ((validSet (Dep.To f) width) = true) := (And.imp (fun h => (And.imp (fun h => h) (fun h => h) (Go.Am.and_pos h))) (fun h => h) (Go.Am.and_pos g12))
   first | assumption | exact ⟨by assumption, by assumption⟩
  ·
   intro g13
   have g13p0 : (((validDependencies fds width) = true) ∧ ((validSet (Dep.From f) width) = true)) ∧ ((validSet (Dep.To f) width) = true) := (And.imp (fun h => (And.imp (fun h => h) (fun h => h) (Go.Am.and_pos h))) (fun h => h) (Go.Am.and_pos g13))
   exact sdep64 (by first | exact g13p0.1.1 | exact g13p0.1 | exact trivial) (by first | exact g13p0.1.2 | exact g13p0.2 | exact g13p0)
  ·
   intro g14
   have g14p0 : (((validDependencies fds width) = true) ∧ ((validSet (Dep.From f) width) = true)) ∧ ((validSet (Dep.To f) width) = true) := (And.imp (fun h => (And.imp (fun h => h) (fun h => h) (Go.Am.and_pos h))) (fun h => h) (Go.Am.and_pos g14))
   first | assumption | exact ⟨by assumption, by assumption⟩
 exact AW.ret (AW.retE (β := Bool) (fun v => [⟨.bool, v⟩]) (fun v => []) (v := (bif (bif (bif (validDependencies fds width) then (validSet (Dep.From f) width) else false) then (validSet (Dep.To f) width) else false) then (implies fds f) else false)) e0 (by kernel_rfl) rfl rfl)

def DrawArmstrong_l0 (code : List Int) : Nat → Int → Int → (List Dep) → Int × (List Dep)
 | 0, n, r1, fds => (r1, fds)
 | k + 1, n, r1, fds => (bif (decide (0 < n)) then (DrawArmstrong_l0 code k (n - 1) ((r1 + 1) + 1) (fds ++ ([(Dep.mk (pick (Rdr.b ((anyTable (newReader code) 3 3).2)) r1 8) (pick (Rdr.b ((anyTable (newReader code) 3 3).2)) (r1 + 1) 8))] : List Dep))) else (r1, fds))

def DrawArmstrong (code : List Int) : (List Dep) × Dep × Tab := (Go.Am.andThen (DrawArmstrong_l0 code (Int.toNat (1 + (pick (Rdr.b ((anyTable (newReader code) 3 3).2)) (Rdr.p ((anyTable (newReader code) 3 3).2)) 3)) + 1) (1 + (pick (Rdr.b ((anyTable (newReader code) 3 3).2)) (Rdr.p ((anyTable (newReader code) 3 3).2)) 3)) ((Rdr.p ((anyTable (newReader code) 3 3).2)) + 1) ([] : List Dep)) (fun z => (fun (r1 : Int) (fds : List Dep) => (fds, (Dep.mk (pick (Rdr.b ((anyTable (newReader code) 3 3).2)) r1 8) (pick (Rdr.b ((anyTable (newReader code) 3 3).2)) (r1 + 1) 8)), ((anyTable (newReader code) 3 3).1))) z.1 z.2))

def DrawArmstrong_sp : FnSpec := mkSpec [.val (.slice (.int .u8))] [.own (.named 0), .val (.named 0), .val (.named 2)] (fun (code : List Int) => True) (fun (code : List Int) => [⟨(.slice (.named 0)), ((DrawArmstrong code).1)⟩, ⟨(.named 0), ((DrawArmstrong code).2.1)⟩, ⟨(.named 2), ((DrawArmstrong code).2.2)⟩])

theorem DrawArmstrong_ok : FnOK Try.prog 17 DrawArmstrong_sp := by
 have hC : CtxOK Try.prog (mkCtx tyL [(51, newReader_sp), (52, anyTable_sp), (62, pickS)]) := CtxOK.cons newReader_ok (CtxOK.cons anyTable_ok (CtxOK.cons pickS_ok (CtxOK.nil tyOK)))
 have hM : Try.prog.follows .mixedOrders = true := Try.checked.mixed
 refine FnOK.of_body Try.func17 (by kernel_rfl) rfl (C := (mkCtx tyL [(51, newReader_sp), (52, anyTable_sp), (62, pickS)])) hC.ty (by kernel_rfl) ?_
 intro (code : List Int) hwf hpre E
 have hpre : True := hpre
 have hw_code : Wf ⟨(.slice (.int .u8)), (code : List Int)⟩ := hwf _ (List.Mem.head _)
 have hl_code : ((List.length code : Nat) : Int) ≤ 9223372036854775807 := hw_code.len
 have h0 := newReader_p code
 have hT := anyTable_p (newReader code) (width := 3) (most := 3) (by decide) (by decide)
 have hp := pick_ok (n := 3) (anyTable (newReader code) 3 3).2.b (anyTable (newReader code) 3 3).2.p (by decide)
 have e0 : DrawArmstrong code = DrawArmstrong code := rfl
 refine AW.seq (AW.r1 hC [0, 3, 4] [12, 16] ⟨[(0, .data (.slice (.int .u8)) (code : List Int)), (3, .ref 12 1 0), (4, .ref 16 1 0)], [(12, .box 1 [.int .i64 0, .int .i64 0]), (16, .box 1 [.int .i64 0, .nilsl])]⟩ ?_)
 refine AW.seq (AW.r0 hC [3, 4, 5] [12, 16, 40] ⟨[(3, .ref 12 1 0), (4, .ref 16 1 0), (5, .ref 40 1 0)], [(12, .box 1 [.int .i64 0, .int .i64 0]), (16, .box 1 [.int .i64 0, .nilsl]), (40, .box 1 [.data (.slice (.int .u8)) ((Rdr.b (newReader code)) : List Int), .int .i64 (Rdr.p (newReader code))])]⟩ [(True)] ?_ ?_)
 ·
  refine ⟨?_, trivial⟩
  ·
   trivial
 refine AW.seq (AW.r0 hC [3, 4, 5, 6] [12, 16, 24, 40] ⟨[(3, .ref 12 1 0), (4, .ref 16 1 0), (5, .ref 40 1 0), (6, .ref 24 1 0)], [(12, .box 1 [.int .i64 0, .int .i64 0]), (16, .box 1 [.int .i64 0, .nilsl]), (24, .box 1 [.int .i64 (Tab.Width ((anyTable (newReader code) 3 3).1)), .data (.slice (.slice (.named 1))) ((Tab.Rows ((anyTable (newReader code) 3 3).1)) : List (List Val))]), (40, .box 1 [.data (.slice (.int .u8)) ((Rdr.b ((anyTable (newReader code) 3 3).2)) : List Int), .int .i64 (Rdr.p ((anyTable (newReader code) 3 3).2))])]⟩ [((0 ≤ (newReader code).p ∧ (newReader code).p ≤ 1000000000000) ∧ (1 ≤ (3 : Int) ∧ (3 : Int) ≤ 6) ∧ (0 ≤ (3 : Int) ∧ (3 : Int) ≤ 99))] ?_ ?_)
 ·
  refine ⟨?_, trivial⟩
  ·
   first | omega | (dsimp only; omega) | (simp only [lens] at *; omega)
 refine AW.seq (AW.r1 hC [3, 4, 5, 6, 7] [12, 16, 24, 40, 52] ⟨[(3, .ref 12 1 0), (4, .ref 16 1 0), (5, .ref 40 1 0), (6, .ref 24 1 0), (7, .arr 52 1)], [(12, .box 1 [.int .i64 0, .int .i64 0]), (16, .box 1 [.int .i64 0, .nilsl]), (24, .box 1 [.int .i64 (Tab.Width ((anyTable (newReader code) 3 3).1)), .data (.slice (.slice (.named 1))) ((Tab.Rows ((anyTable (newReader code) 3 3).1)) : List (List Val))]), (40, .box 1 [.data (.slice (.int .u8)) ((Rdr.b ((anyTable (newReader code) 3 3).2)) : List Int), .int .i64 (Rdr.p ((anyTable (newReader code) 3 3).2))]), (52, .arr 1 (.named 0) (([] : List Dep) : List Dep))]⟩ ?_)
 refine AW.seq (AW.seq (AW.r0 hC [3, 4, 5, 6, 7, 8] [12, 16, 24, 40, 52] ⟨[(3, .ref 12 1 0), (4, .ref 16 1 0), (5, .ref 40 1 0), (6, .ref 24 1 0), (7, .arr 52 1), (8, .int .i64 (1 + (pick (Rdr.b ((anyTable (newReader code) 3 3).2)) (Rdr.p ((anyTable (newReader code) 3 3).2)) 3)))], [(12, .box 1 [.int .i64 0, .int .i64 0]), (16, .box 1 [.int .i64 0, .nilsl]), (24, .box 1 [.int .i64 (Tab.Width ((anyTable (newReader code) 3 3).1)), .data (.slice (.slice (.named 1))) ((Tab.Rows ((anyTable (newReader code) 3 3).1)) : List (List Val))]), (40, .box 1 [.data (.slice (.int .u8)) ((Rdr.b ((anyTable (newReader code) 3 3).2)) : List Int), .int .i64 ((Rdr.p ((anyTable (newReader code) 3 3).2)) + 1)]), (52, .arr 1 (.named 0) (([] : List Dep) : List Dep))]⟩ [(0 ≤ ((anyTable (newReader code) 3 3).2).p ∧ ((anyTable (newReader code) 3 3).2).p ≤ 1099511627776), (-9223372036854775808 ≤ (1 + (pick (Rdr.b ((anyTable (newReader code) 3 3).2)) (Rdr.p ((anyTable (newReader code) 3 3).2)) 3)) ∧ (1 + (pick (Rdr.b ((anyTable (newReader code) 3 3).2)) (Rdr.p ((anyTable (newReader code) 3 3).2)) 3)) ≤ 9223372036854775807)] ?_ ?_))
 ·
  refine ⟨?_, ?_, trivial⟩
  ·
   first | omega | (dsimp only; omega) | (simp only [lens] at *; omega)
  ·
   first | omega | (dsimp only; omega) | (simp only [lens] at *; omega)
 refine AW.cutQ (α := Int × (List Dep)) (fun x => ⟨[(3, .ref 12 1 0), (4, .ref 16 1 0), (5, .ref 40 1 0), (6, .ref 24 1 0), (7, .arr 52 1)], [(12, .box 1 [.int .i64 0, .int .i64 0]), (16, .box 1 [.int .i64 0, .nilsl]), (24, .box 1 [.int .i64 (Tab.Width ((anyTable (newReader code) 3 3).1)), .data (.slice (.slice (.named 1))) ((Tab.Rows ((anyTable (newReader code) 3 3).1)) : List (List Val))]), (40, .box 1 [.data (.slice (.int .u8)) ((Rdr.b ((anyTable (newReader code) 3 3).2)) : List Int), .int .i64 x.1]), (52, .arr 1 (.named 0) (x.2 : List Dep))]⟩) (fun x => ((List.length x.2 : Int) ≤ 3 ∧ (0 ≤ x.1 ∧ x.1 ≤ 100000)) ∧ (DrawArmstrong_l0 code (Int.toNat (1 + (pick (Rdr.b ((anyTable (newReader code) 3 3).2)) (Rdr.p ((anyTable (newReader code) 3 3).2)) 3)) + 1) (1 + (pick (Rdr.b ((anyTable (newReader code) 3 3).2)) (Rdr.p ((anyTable (newReader code) 3 3).2)) 3)) ((Rdr.p ((anyTable (newReader code) 3 3).2)) + 1) ([] : List Dep)) = x) ?_ ?_
 ·
  skip
  refine AW.block (AW.loop (α := Int × Int × (List Dep)) (fun x => ⟨[(3, .ref 12 1 0), (4, .ref 16 1 0), (5, .ref 40 1 0), (6, .ref 24 1 0), (7, .arr 52 1), (8, .int .i64 x.1)], [(12, .box 1 [.int .i64 0, .int .i64 0]), (16, .box 1 [.int .i64 0, .nilsl]), (24, .box 1 [.int .i64 (Tab.Width ((anyTable (newReader code) 3 3).1)), .data (.slice (.slice (.named 1))) ((Tab.Rows ((anyTable (newReader code) 3 3).1)) : List (List Val))]), (40, .box 1 [.data (.slice (.int .u8)) ((Rdr.b ((anyTable (newReader code) 3 3).2)) : List Int), .int .i64 x.2.1]), (52, .arr 1 (.named 0) (x.2.2 : List Dep))]⟩) (fun x => (((List.length x.2.2 : Int) + x.1 ≤ 3 ∧ 0 ≤ x.1) ∧ (0 ≤ x.2.1 ∧ x.2.1 + 2 * x.1 ≤ 100000)) ∧ ∃ k, Int.toNat x.1 < k ∧ (DrawArmstrong_l0 code (Int.toNat (1 + (pick (Rdr.b ((anyTable (newReader code) 3 3).2)) (Rdr.p ((anyTable (newReader code) 3 3).2)) 3)) + 1) (1 + (pick (Rdr.b ((anyTable (newReader code) 3 3).2)) (Rdr.p ((anyTable (newReader code) 3 3).2)) 3)) ((Rdr.p ((anyTable (newReader code) 3 3).2)) + 1) ([] : List Dep)) = DrawArmstrong_l0 code k x.1 x.2.1 x.2.2) (fun x => Int.toNat x.1) ((1 + (pick (Rdr.b ((anyTable (newReader code) 3 3).2)) (Rdr.p ((anyTable (newReader code) 3 3).2)) 3)), ((Rdr.p ((anyTable (newReader code) 3 3).2)) + 1), ([] : List Dep)) (by kernel_rfl) ⟨?_, _, Nat.lt_succ_self _, rfl⟩ ?_)
  ·
   show ((List.length ([] : List Dep) : Int) + (1 + (pick (Rdr.b ((anyTable (newReader code) 3 3).2)) (Rdr.p ((anyTable (newReader code) 3 3).2)) 3)) ≤ 3 ∧ 0 ≤ (1 + (pick (Rdr.b ((anyTable (newReader code) 3 3).2)) (Rdr.p ((anyTable (newReader code) 3 3).2)) 3))) ∧ (0 ≤ ((Rdr.p ((anyTable (newReader code) 3 3).2)) + 1) ∧ ((Rdr.p ((anyTable (newReader code) 3 3).2)) + 1) + 2 * (1 + (pick (Rdr.b ((anyTable (newReader code) 3 3).2)) (Rdr.p ((anyTable (newReader code) 3 3).2)) 3)) ≤ 100000)
   simp only [List.length_nil]
   omega
  ·
   intro x hR
   obtain ⟨n, r1, fds⟩ := x
   obtain ⟨hI0, k15, hk13, e14⟩ := hR
   replace hI0 : ((List.length fds : Int) + n ≤ 3 ∧ 0 ≤ n) ∧ (0 ≤ r1 ∧ r1 + 2 * n ≤ 100000) := hI0
   replace hk13 : Int.toNat n < k15 := hk13
   obtain ⟨k15q, rfl⟩ : ∃ k, k15 = k + 1 := ⟨k15 - 1, by omega⟩
   refine AW.seq (AW.seq (AW.r1 hC [3, 4, 5, 6, 7, 8, 18] [12, 16, 24, 40, 52] ⟨[(3, .ref 12 1 0), (4, .ref 16 1 0), (5, .ref 40 1 0), (6, .ref 24 1 0), (7, .arr 52 1), (8, .int .i64 n), (18, .bool (decide (0 < n)))], [(12, .box 1 [.int .i64 0, .int .i64 0]), (16, .box 1 [.int .i64 0, .nilsl]), (24, .box 1 [.int .i64 (Tab.Width ((anyTable (newReader code) 3 3).1)), .data (.slice (.slice (.named 1))) ((Tab.Rows ((anyTable (newReader code) 3 3).1)) : List (List Val))]), (40, .box 1 [.data (.slice (.int .u8)) ((Rdr.b ((anyTable (newReader code) 3 3).2)) : List Int), .int .i64 r1]), (52, .arr 1 (.named 0) (fds : List Dep))]⟩ ?_))
   refine AW.cd (decide (0 < n)) ?_ ?_
   ·
    intro h16
    have h16q : 0 < n := (of_decide_eq_true h16)
    have e17 := e14.trans (Go.Am.bif_t h16)
    refine AW.kp [3, 4, 5, 6, 7, 8] [12, 16, 24, 40, 52] ⟨[(3, .ref 12 1 0), (4, .ref 16 1 0), (5, .ref 40 1 0), (6, .ref 24 1 0), (7, .arr 52 1), (8, .int .i64 n)], [(12, .box 1 [.int .i64 0, .int .i64 0]), (16, .box 1 [.int .i64 0, .nilsl]), (24, .box 1 [.int .i64 (Tab.Width ((anyTable (newReader code) 3 3).1)), .data (.slice (.slice (.named 1))) ((Tab.Rows ((anyTable (newReader code) 3 3).1)) : List (List Val))]), (40, .box 1 [.data (.slice (.int .u8)) ((Rdr.b ((anyTable (newReader code) 3 3).2)) : List Int), .int .i64 r1]), (52, .arr 1 (.named 0) (fds : List Dep))]⟩ ?_
    refine AW.skip (AW.seq (AW.block (AW.r0 hC [3, 4, 5, 6, 7, 8] [12, 16, 24, 40, 52] ⟨[(3, .ref 12 1 0), (4, .ref 16 1 0), (5, .ref 40 1 0), (6, .ref 24 1 0), (7, .arr 52 1), (8, .int .i64 n)], [(12, .box 1 [.int .i64 0, .int .i64 0]), (16, .box 1 [.int .i64 0, .nilsl]), (24, .box 1 [.int .i64 (Tab.Width ((anyTable (newReader code) 3 3).1)), .data (.slice (.slice (.named 1))) ((Tab.Rows ((anyTable (newReader code) 3 3).1)) : List (List Val))]), (40, .box 1 [.data (.slice (.int .u8)) ((Rdr.b ((anyTable (newReader code) 3 3).2)) : List Int), .int .i64 ((r1 + 1) + 1)]), (52, .arr 1 (.named 0) ((fds ++ ([(Dep.mk (pick (Rdr.b ((anyTable (newReader code) 3 3).2)) r1 8) (pick (Rdr.b ((anyTable (newReader code) 3 3).2)) (r1 + 1) 8))] : List Dep)) : List Dep))]⟩ [(0 ≤ (Rdr.mk (Rdr.b ((anyTable (newReader code) 3 3).2)) r1).p ∧ (Rdr.mk (Rdr.b ((anyTable (newReader code) 3 3).2)) r1).p ≤ 1099511627776), (0 ≤ (Rdr.mk (Rdr.b ((anyTable (newReader code) 3 3).2)) (r1 + 1)).p ∧ (Rdr.mk (Rdr.b ((anyTable (newReader code) 3 3).2)) (r1 + 1)).p ≤ 1099511627776), (((List.length fds : Nat) : Int) + ((List.length ([(Dep.mk (pick (Rdr.b ((anyTable (newReader code) 3 3).2)) r1 8) (pick (Rdr.b ((anyTable (newReader code) 3 3).2)) (r1 + 1) 8))] : List Dep) : Nat) : Int) ≤ 4294967296)] ?_ ?_)))
    ·
     refine ⟨?_, ?_, ?_, trivial⟩
     ·
      first | omega | (dsimp only; omega) | (simp only [lens] at *; omega)
     ·
      first | omega | (dsimp only; omega) | (simp only [lens] at *; omega)
     ·
      first | omega | (dsimp only; omega) | (simp only [lens] at *; omega)
    refine AW.r0 hC [3, 4, 5, 6, 7, 8] [12, 16, 24, 40, 52] ⟨[(3, .ref 12 1 0), (4, .ref 16 1 0), (5, .ref 40 1 0), (6, .ref 24 1 0), (7, .arr 52 1), (8, .int .i64 (n - 1))], [(12, .box 1 [.int .i64 0, .int .i64 0]), (16, .box 1 [.int .i64 0, .nilsl]), (24, .box 1 [.int .i64 (Tab.Width ((anyTable (newReader code) 3 3).1)), .data (.slice (.slice (.named 1))) ((Tab.Rows ((anyTable (newReader code) 3 3).1)) : List (List Val))]), (40, .box 1 [.data (.slice (.int .u8)) ((Rdr.b ((anyTable (newReader code) 3 3).2)) : List Int), .int .i64 ((r1 + 1) + 1)]), (52, .arr 1 (.named 0) ((fds ++ ([(Dep.mk (pick (Rdr.b ((anyTable (newReader code) 3 3).2)) r1 8) (pick (Rdr.b ((anyTable (newReader code) 3 3).2)) (r1 + 1) 8))] : List Dep)) : List Dep))]⟩ [(-9223372036854775808 ≤ (n - 1) ∧ (n - 1) ≤ 9223372036854775807)] ?_ ?_
    ·
     refine ⟨?_, trivial⟩
     ·
      first | omega | (dsimp only; omega) | (simp only [lens] at *; omega)
    refine AW.back (x := (n, r1, fds)) ((n - 1), ((r1 + 1) + 1), (fds ++ ([(Dep.mk (pick (Rdr.b ((anyTable (newReader code) 3 3).2)) r1 8) (pick (Rdr.b ((anyTable (newReader code) 3 3).2)) (r1 + 1) 8))] : List Dep))) (by kernel_rfl) ⟨?_, k15q, ?_, e17⟩ ?_
    ·
     show ((List.length (fds ++ ([(Dep.mk (pick (Rdr.b ((anyTable (newReader code) 3 3).2)) r1 8) (pick (Rdr.b ((anyTable (newReader code) 3 3).2)) (r1 + 1) 8))] : List Dep)) : Int) + (n - 1) ≤ 3 ∧ 0 ≤ (n - 1)) ∧ (0 ≤ ((r1 + 1) + 1) ∧ ((r1 + 1) + 1) + 2 * (n - 1) ≤ 100000)
     simp only [List.length_append, List.length_cons, List.length_nil]
     omega
    ·
     show Int.toNat (n - 1) < k15q
     omega
    ·
     show Int.toNat (n - 1) < Int.toNat n
     omega
   ·
    intro h18
    have h18q : ¬ (0 < n) := (of_decide_eq_false h18)
    have e19 := e14.trans (Go.Am.bif_f h18)
    refine AW.kp [3, 4, 5, 6, 7] [12, 16, 24, 40, 52] ⟨[(3, .ref 12 1 0), (4, .ref 16 1 0), (5, .ref 40 1 0), (6, .ref 24 1 0), (7, .arr 52 1)], [(12, .box 1 [.int .i64 0, .int .i64 0]), (16, .box 1 [.int .i64 0, .nilsl]), (24, .box 1 [.int .i64 (Tab.Width ((anyTable (newReader code) 3 3).1)), .data (.slice (.slice (.named 1))) ((Tab.Rows ((anyTable (newReader code) 3 3).1)) : List (List Val))]), (40, .box 1 [.data (.slice (.int .u8)) ((Rdr.b ((anyTable (newReader code) 3 3).2)) : List Int), .int .i64 r1]), (52, .arr 1 (.named 0) (fds : List Dep))]⟩ ?_
    refine AW.exit ?_
    refine AW.meet (r1, fds) (by kernel_rfl) ⟨?_, e19⟩
    show (List.length fds : Int) ≤ 3 ∧ (0 ≤ r1 ∧ r1 ≤ 100000)
    omega
 ·
  intro x hR
  obtain ⟨r1, fds⟩ := x
  obtain ⟨hJ0, e20⟩ := hR
  replace hJ0 : (List.length fds : Int) ≤ 3 ∧ (0 ≤ r1 ∧ r1 ≤ 100000) := hJ0
  have e21 := e0.trans (Go.Am.then_eq e20)
  refine AW.seq (AW.d0 hC hM [2, 3, 4] [12, 16, 52] ⟨[(2, .arr 52 1), (3, .ref 12 1 0), (4, .ref 16 1 0)], [(12, .box 1 [.int .i64 (pick (Rdr.b ((anyTable (newReader code) 3 3).2)) r1 8), .int .i64 (pick (Rdr.b ((anyTable (newReader code) 3 3).2)) (r1 + 1) 8)]), (16, .box 1 [.int .i64 (Tab.Width ((anyTable (newReader code) 3 3).1)), .data (.slice (.slice (.named 1))) ((Tab.Rows ((anyTable (newReader code) 3 3).1)) : List (List Val))]), (52, .arr 1 (.named 0) (fds : List Dep))]⟩ [(0 ≤ (Rdr.mk (Rdr.b ((anyTable (newReader code) 3 3).2)) r1).p ∧ (Rdr.mk (Rdr.b ((anyTable (newReader code) 3 3).2)) r1).p ≤ 1099511627776), (0 ≤ (Rdr.mk (Rdr.b ((anyTable (newReader code) 3 3).2)) (r1 + 1)).p ∧ (Rdr.mk (Rdr.b ((anyTable (newReader code) 3 3).2)) (r1 + 1)).p ≤ 1099511627776)] ?_ ?_)
  ·
   refine ⟨?_, ?_, trivial⟩
   ·
    first | omega | (dsimp only; omega) | (simp only [lens] at *; omega)
   ·
    first | omega | (dsimp only; omega) | (simp only [lens] at *; omega)
  exact AW.ret (AW.retE (β := (List Dep) × Dep × Tab) (fun v => [⟨(.slice (.named 0)), v.1⟩, ⟨(.named 0), v.2.1⟩, ⟨(.named 2), v.2.2⟩]) (fun v => []) (v := (fds, (Dep.mk (pick (Rdr.b ((anyTable (newReader code) 3 3).2)) r1 8) (pick (Rdr.b ((anyTable (newReader code) 3 3).2)) (r1 + 1) 8)), ((anyTable (newReader code) 3 3).1))) e21 (by kernel_rfl) rfl rfl)

def FnArmstrong_l0 (code : List Int) : Nat → Nat → Unit ⊕ Bool
 | 0, i => .inl ()
 | k + 1, i => (bif (decide (((i : Nat) : Int) < ((List.length ((DrawArmstrong code).1) : Nat) : Int))) then (bif (!(HoldsIn (List.getD ((DrawArmstrong code).1) i Dep.zero) ((DrawArmstrong code).2.2))) then (.inr true) else (FnArmstrong_l0 code k (i + 1))) else (.inl ()))

def FnArmstrong (code : List Int) : Bool := (bif (decide (1048576 < ((List.length code : Nat) : Int))) then true else (bif (bif (bif (bif (bif ((iImplies ((DrawArmstrong code).1) 3 ((DrawArmstrong code).2.1)) != (Implies ((DrawArmstrong code).1) 3 ((DrawArmstrong code).2.1))) then true else ((HoldsIn ((DrawArmstrong code).2.1) ((DrawArmstrong code).2.2)) != (sHoldsIn ((DrawArmstrong code).2.1) ((DrawArmstrong code).2.2)))) then true else (!(iImplies ((DrawArmstrong code).1) 3 ((DrawArmstrong code).2.1)))) then true else (!(ValidTable ((DrawArmstrong code).2.2)))) then true else ((Tab.Width ((DrawArmstrong code).2.2)) != 3)) then (bif ((iImplies ((DrawArmstrong code).1) 3 ((DrawArmstrong code).2.1)) == (Implies ((DrawArmstrong code).1) 3 ((DrawArmstrong code).2.1))) then ((HoldsIn ((DrawArmstrong code).2.1) ((DrawArmstrong code).2.2)) == (sHoldsIn ((DrawArmstrong code).2.1) ((DrawArmstrong code).2.2))) else false) else (Sum.elim (fun _ => (HoldsIn ((DrawArmstrong code).2.1) ((DrawArmstrong code).2.2))) (fun r => r) (FnArmstrong_l0 code ((List.length ((DrawArmstrong code).1)) - 0 + 1) 0))))

def FnArmstrong_sp : FnSpec := mkSpec [.val (.slice (.int .u8))] [.val .bool] (fun (code : List Int) => True) (fun (code : List Int) => [⟨.bool, (FnArmstrong code)⟩])

theorem FnArmstrong_ok : FnOK Try.prog 4 FnArmstrong_sp := by
 have hC : CtxOK Try.prog (mkCtx tyL [(14, HoldsIn_sp), (15, sHoldsIn_sp), (16, ValidTable_sp), (17, DrawArmstrong_sp), (18, iImplies_sp), (19, Implies_sp)]) := CtxOK.cons HoldsIn_ok (CtxOK.cons sHoldsIn_ok (CtxOK.cons ValidTable_ok (CtxOK.cons DrawArmstrong_ok (CtxOK.cons iImplies_ok (CtxOK.cons Implies_ok (CtxOK.nil tyOK))))))
 have hM : Try.prog.follows .mixedOrders = true := Try.checked.mixed
 refine FnOK.of_body Try.func4 (by kernel_rfl) rfl (C := (mkCtx tyL [(14, HoldsIn_sp), (15, sHoldsIn_sp), (16, ValidTable_sp), (17, DrawArmstrong_sp), (18, iImplies_sp), (19, Implies_sp)])) hC.ty (by kernel_rfl) ?_
 intro (code : List Int) hwf hpre E
 have hpre : True := hpre
 have hw_code : Wf ⟨(.slice (.int .u8)), (code : List Int)⟩ := hwf _ (List.Mem.head _)
 have hl_code : ((List.length code : Nat) : Int) ≤ 9223372036854775807 := hw_code.len
 have e0 : FnArmstrong code = FnArmstrong code := rfl
 refine AW.seq (AW.r1 hC [0] [] ⟨[(0, .data (.slice (.int .u8)) (code : List Int))], []⟩ ?_)
 refine AW.seq (AW.seq (AW.r1 hC [0, 10] [] ⟨[(0, .data (.slice (.int .u8)) (code : List Int)), (10, .bool (decide (1048576 < ((List.length code : Nat) : Int))))], []⟩ ?_))
 refine AW.cd (decide (1048576 < ((List.length code : Nat) : Int))) ?_ ?_
 ·
  intro h1
  have h1q : 1048576 < ((List.length code : Nat) : Int) := (of_decide_eq_true h1)
  have e2 := e0.trans (Go.Am.bif_t h1)
  refine AW.seq (AW.r1 hC [2] [] ⟨[(2, .bool true)], []⟩ ?_)
  exact AW.ret (AW.retE (β := Bool) (fun v => [⟨.bool, v⟩]) (fun v => []) (v := true) e2 (by kernel_rfl) rfl rfl)
 ·
  intro h3
  have h3q : ¬ (1048576 < ((List.length code : Nat) : Int)) := (of_decide_eq_false h3)
  have e4 := e0.trans (Go.Am.bif_f h3)
  refine AW.kp [0] [] ⟨[(0, .data (.slice (.int .u8)) (code : List Int))], []⟩ ?_
  refine AW.skip (AW.seq (AW.r0 hC [3, 4, 5] [16, 20, 52] ⟨[(3, .arr 52 1), (4, .ref 16 1 0), (5, .ref 20 1 0)], [(16, .box 1 [.int .i64 (Dep.From ((DrawArmstrong code).2.1)), .int .i64 (Dep.To ((DrawArmstrong code).2.1))]), (20, .box 1 [.int .i64 (Tab.Width ((DrawArmstrong code).2.2)), .data (.slice (.slice (.named 1))) ((Tab.Rows ((DrawArmstrong code).2.2)) : List (List Val))]), (52, .arr 1 (.named 0) (((DrawArmstrong code).1) : List Dep))]⟩ [(True)] ?_ ?_))
  ·
   refine ⟨?_, trivial⟩
   ·
    trivial
  refine AW.seq (AW.wf_arr (id := 52) (ep := 1) (t := (.named 0)) (xs := (((DrawArmstrong code).1) : List Dep)) (by kernel_rfl) fun ha5 _ => ?_)
  replace ha5 : ((List.length ((DrawArmstrong code).1) : Nat) : Int) ≤ 4294967296 := ha5
  refine AW.r0 hC [3, 4, 5, 6] [16, 20, 52] ⟨[(3, .arr 52 1), (4, .ref 16 1 0), (5, .ref 20 1 0), (6, .bool (iImplies ((DrawArmstrong code).1) 3 ((DrawArmstrong code).2.1)))], [(16, .box 1 [.int .i64 (Dep.From ((DrawArmstrong code).2.1)), .int .i64 (Dep.To ((DrawArmstrong code).2.1))]), (20, .box 1 [.int .i64 (Tab.Width ((DrawArmstrong code).2.2)), .data (.slice (.slice (.named 1))) ((Tab.Rows ((DrawArmstrong code).2.2)) : List (List Val))]), (52, .arr 1 (.named 0) (((DrawArmstrong code).1) : List Dep))]⟩ [(True)] ?_ ?_
  ·
   refine ⟨?_, trivial⟩
   ·
    trivial
  refine AW.seq (AW.seq (AW.wf_arr (id := 52) (ep := 1) (t := (.named 0)) (xs := (((DrawArmstrong code).1) : List Dep)) (by kernel_rfl) fun ha6 _ => ?_))
  replace ha6 : ((List.length ((DrawArmstrong code).1) : Nat) : Int) ≤ 4294967296 := ha6
  refine AW.d0 hC hM [3, 4, 5, 6, 47] [16, 20, 52] ⟨[(3, .arr 52 1), (4, .ref 16 1 0), (5, .ref 20 1 0), (6, .bool (iImplies ((DrawArmstrong code).1) 3 ((DrawArmstrong code).2.1))), (47, .bool (bif (bif (bif (bif ((iImplies ((DrawArmstrong code).1) 3 ((DrawArmstrong code).2.1)) != (Implies ((DrawArmstrong code).1) 3 ((DrawArmstrong code).2.1))) then true else ((HoldsIn ((DrawArmstrong code).2.1) ((DrawArmstrong code).2.2)) != (sHoldsIn ((DrawArmstrong code).2.1) ((DrawArmstrong code).2.2)))) then true else (!(iImplies ((DrawArmstrong code).1) 3 ((DrawArmstrong code).2.1)))) then true else (!(ValidTable ((DrawArmstrong code).2.2)))) then true else ((Tab.Width ((DrawArmstrong code).2.2)) != 3)))], [(16, .box 1 [.int .i64 (Dep.From ((DrawArmstrong code).2.1)), .int .i64 (Dep.To ((DrawArmstrong code).2.1))]), (20, .box 1 [.int .i64 (Tab.Width ((DrawArmstrong code).2.2)), .data (.slice (.slice (.named 1))) ((Tab.Rows ((DrawArmstrong code).2.2)) : List (List Val))]), (52, .arr 1 (.named 0) (((DrawArmstrong code).1) : List Dep))]⟩ [(True), ((((iImplies ((DrawArmstrong code).1) 3 ((DrawArmstrong code).2.1)) != (Implies ((DrawArmstrong code).1) 3 ((DrawArmstrong code).2.1))) = false) → ((((iImplies ((DrawArmstrong code).1) 3 ((DrawArmstrong code).2.1)) != (Implies ((DrawArmstrong code).1) 3 ((DrawArmstrong code).2.1))) = false))), ((((iImplies ((DrawArmstrong code).1) 3 ((DrawArmstrong code).2.1)) != (Implies ((DrawArmstrong code).1) 3 ((DrawArmstrong code).2.1))) = false) → ((((iImplies ((DrawArmstrong code).1) 3 ((DrawArmstrong code).2.1)) != (Implies ((DrawArmstrong code).1) 3 ((DrawArmstrong code).2.1))) = false))), ((((iImplies ((DrawArmstrong code).1) 3 ((DrawArmstrong code).2.1)) != (Implies ((DrawArmstrong code).1) 3 ((DrawArmstrong code).2.1))) = false) → (True)), ((((iImplies ((DrawArmstrong code).1) 3 ((DrawArmstrong code).2.1)) != (Implies ((DrawArmstrong code).1) 3 ((DrawArmstrong code).2.1))) = false) → ((((iImplies ((DrawArmstrong code).1) 3 ((DrawArmstrong code).2.1)) != (Implies ((DrawArmstrong code).1) 3 ((DrawArmstrong code).2.1))) = false))), ((((iImplies ((DrawArmstrong code).1) 3 ((DrawArmstrong code).2.1)) != (Implies ((DrawArmstrong code).1) 3 ((DrawArmstrong code).2.1))) = false) → ((((iImplies ((DrawArmstrong code).1) 3 ((DrawArmstrong code).2.1)) != (Implies ((DrawArmstrong code).1) 3 ((DrawArmstrong code).2.1))) = false))), ((((iImplies ((DrawArmstrong code).1) 3 ((DrawArmstrong code).2.1)) != (Implies ((DrawArmstrong code).1) 3 ((DrawArmstrong code).2.1))) = false) → (True)), ((((iImplies ((DrawArmstrong code).1) 3 ((DrawArmstrong code).2.1)) != (Implies ((DrawArmstrong code).1) 3 ((DrawArmstrong code).2.1))) = false) → ((((iImplies ((DrawArmstrong code).1) 3 ((DrawArmstrong code).2.1)) != (Implies ((DrawArmstrong code).1) 3 ((DrawArmstrong code).2.1))) = false))), ((((iImplies ((DrawArmstrong code).1) 3 ((DrawArmstrong code).2.1)) != (Implies ((DrawArmstrong code).1) 3 ((DrawArmstrong code).2.1))) = false) → ((((iImplies ((DrawArmstrong code).1) 3 ((DrawArmstrong code).2.1)) != (Implies ((DrawArmstrong code).1) 3 ((DrawArmstrong code).2.1))) = false))), ((((iImplies ((DrawArmstrong code).1) 3 ((DrawArmstrong code).2.1)) != (Implies ((DrawArmstrong code).1) 3 ((DrawArmstrong code).2.1))) = false) → ((((iImplies ((DrawArmstrong code).1) 3 ((DrawArmstrong code).2.1)) != (Implies ((DrawArmstrong code).1) 3 ((DrawArmstrong code).2.1))) = false))), (((bif ((iImplies ((DrawArmstrong code).1) 3 ((DrawArmstrong code).2.1)) != (Implies ((DrawArmstrong code).1) 3 ((DrawArmstrong code).2.1))) then true else ((HoldsIn ((DrawArmstrong code).2.1) ((DrawArmstrong code).2.2)) != (sHoldsIn ((DrawArmstrong code).2.1) ((DrawArmstrong code).2.2)))) = false) → (((bif ((iImplies ((DrawArmstrong code).1) 3 ((DrawArmstrong code).2.1)) != (Implies ((DrawArmstrong code).1) 3 ((DrawArmstrong code).2.1))) then true else ((HoldsIn ((DrawArmstrong code).2.1) ((DrawArmstrong code).2.2)) != (sHoldsIn ((DrawArmstrong code).2.1) ((DrawArmstrong code).2.2)))) = false))), (((bif ((iImplies ((DrawArmstrong code).1) 3 ((DrawArmstrong code).2.1)) != (Implies ((DrawArmstrong code).1) 3 ((DrawArmstrong code).2.1))) then true else ((HoldsIn ((DrawArmstrong code).2.1) ((DrawArmstrong code).2.2)) != (sHoldsIn ((DrawArmstrong code).2.1) ((DrawArmstrong code).2.2)))) = false) → (((bif ((iImplies ((DrawArmstrong code).1) 3 ((DrawArmstrong code).2.1)) != (Implies ((DrawArmstrong code).1) 3 ((DrawArmstrong code).2.1))) then true else ((HoldsIn ((DrawArmstrong code).2.1) ((DrawArmstrong code).2.2)) != (sHoldsIn ((DrawArmstrong code).2.1) ((DrawArmstrong code).2.2)))) = false))), (((bif (bif ((iImplies ((DrawArmstrong code).1) 3 ((DrawArmstrong code).2.1)) != (Implies ((DrawArmstrong code).1) 3 ((DrawArmstrong code).2.1))) then true else ((HoldsIn ((DrawArmstrong code).2.1) ((DrawArmstrong code).2.2)) != (sHoldsIn ((DrawArmstrong code).2.1) ((DrawArmstrong code).2.2)))) then true else (!(iImplies ((DrawArmstrong code).1) 3 ((DrawArmstrong code).2.1)))) = false) → (((bif (bif ((iImplies ((DrawArmstrong code).1) 3 ((DrawArmstrong code).2.1)) != (Implies ((DrawArmstrong code).1) 3 ((DrawArmstrong code).2.1))) then true else ((HoldsIn ((DrawArmstrong code).2.1) ((DrawArmstrong code).2.2)) != (sHoldsIn ((DrawArmstrong code).2.1) ((DrawArmstrong code).2.2)))) then true else (!(iImplies ((DrawArmstrong code).1) 3 ((DrawArmstrong code).2.1)))) = false))), (((bif (bif ((iImplies ((DrawArmstrong code).1) 3 ((DrawArmstrong code).2.1)) != (Implies ((DrawArmstrong code).1) 3 ((DrawArmstrong code).2.1))) then true else ((HoldsIn ((DrawArmstrong code).2.1) ((DrawArmstrong code).2.2)) != (sHoldsIn ((DrawArmstrong code).2.1) ((DrawArmstrong code).2.2)))) then true else (!(iImplies ((DrawArmstrong code).1) 3 ((DrawArmstrong code).2.1)))) = false) → (True)), (((bif (bif ((iImplies ((DrawArmstrong code).1) 3 ((DrawArmstrong code).2.1)) != (Implies ((DrawArmstrong code).1) 3 ((DrawArmstrong code).2.1))) then true else ((HoldsIn ((DrawArmstrong code).2.1) ((DrawArmstrong code).2.2)) != (sHoldsIn ((DrawArmstrong code).2.1) ((DrawArmstrong code).2.2)))) then true else (!(iImplies ((DrawArmstrong code).1) 3 ((DrawArmstrong code).2.1)))) = false) → (((bif (bif ((iImplies ((DrawArmstrong code).1) 3 ((DrawArmstrong code).2.1)) != (Implies ((DrawArmstrong code).1) 3 ((DrawArmstrong code).2.1))) then true else ((HoldsIn ((DrawArmstrong code).2.1) ((DrawArmstrong code).2.2)) != (sHoldsIn ((DrawArmstrong code).2.1) ((DrawArmstrong code).2.2)))) then true else (!(iImplies ((DrawArmstrong code).1) 3 ((DrawArmstrong code).2.1)))) = false))), (((bif (bif ((iImplies ((DrawArmstrong code).1) 3 ((DrawArmstrong code).2.1)) != (Implies ((DrawArmstrong code).1) 3 ((DrawArmstrong code).2.1))) then true else ((HoldsIn ((DrawArmstrong code).2.1) ((DrawArmstrong code).2.2)) != (sHoldsIn ((DrawArmstrong code).2.1) ((DrawArmstrong code).2.2)))) then true else (!(iImplies ((DrawArmstrong code).1) 3 ((DrawArmstrong code).2.1)))) = false) → (((bif (bif ((iImplies ((DrawArmstrong code).1) 3 ((DrawArmstrong code).2.1)) != (Implies ((DrawArmstrong code).1) 3 ((DrawArmstrong code).2.1))) then true else ((HoldsIn ((DrawArmstrong code).2.1) ((DrawArmstrong code).2.2)) != (sHoldsIn ((DrawArmstrong code).2.1) ((DrawArmstrong code).2.2)))) then true else (!(iImplies ((DrawArmstrong code).1) 3 ((DrawArmstrong code).2.1)))) = false))), (((bif (bif (bif ((iImplies ((DrawArmstrong code).1) 3 ((DrawArmstrong code).2.1)) != (Implies ((DrawArmstrong code).1) 3 ((DrawArmstrong code).2.1))) then true else ((HoldsIn ((DrawArmstrong code).2.1) ((DrawArmstrong code).2.2)) != (sHoldsIn ((DrawArmstrong code).2.1) ((DrawArmstrong code).2.2)))) then true else (!(iImplies ((DrawArmstrong code).1) 3 ((DrawArmstrong code).2.1)))) then true else (!(ValidTable ((DrawArmstrong code).2.2)))) = false) → (((bif (bif (bif ((iImplies ((DrawArmstrong code).1) 3 ((DrawArmstrong code).2.1)) != (Implies ((DrawArmstrong code).1) 3 ((DrawArmstrong code).2.1))) then true else ((HoldsIn ((DrawArmstrong code).2.1) ((DrawArmstrong code).2.2)) != (sHoldsIn ((DrawArmstrong code).2.1) ((DrawArmstrong code).2.2)))) then true else (!(iImplies ((DrawArmstrong code).1) 3 ((DrawArmstrong code).2.1)))) then true else (!(ValidTable ((DrawArmstrong code).2.2)))) = false))), (((bif (bif (bif ((iImplies ((DrawArmstrong code).1) 3 ((DrawArmstrong code).2.1)) != (Implies ((DrawArmstrong code).1) 3 ((DrawArmstrong code).2.1))) then true else ((HoldsIn ((DrawArmstrong code).2.1) ((DrawArmstrong code).2.2)) != (sHoldsIn ((DrawArmstrong code).2.1) ((DrawArmstrong code).2.2)))) then true else (!(iImplies ((DrawArmstrong code).1) 3 ((DrawArmstrong code).2.1)))) then true else (!(ValidTable ((DrawArmstrong code).2.2)))) = false) → (((bif (bif (bif ((iImplies ((DrawArmstrong code).1) 3 ((DrawArmstrong code).2.1)) != (Implies ((DrawArmstrong code).1) 3 ((DrawArmstrong code).2.1))) then true else ((HoldsIn ((DrawArmstrong code).2.1) ((DrawArmstrong code).2.2)) != (sHoldsIn ((DrawArmstrong code).2.1) ((DrawArmstrong code).2.2)))) then true else (!(iImplies ((DrawArmstrong code).1) 3 ((DrawArmstrong code).2.1)))) then true else (!(ValidTable ((DrawArmstrong code).2.2)))) = false))), (((bif (bif (bif ((iImplies ((DrawArmstrong code).1) 3 ((DrawArmstrong code).2.1)) != (Implies ((DrawArmstrong code).1) 3 ((DrawArmstrong code).2.1))) then true else ((HoldsIn ((DrawArmstrong code).2.1) ((DrawArmstrong code).2.2)) != (sHoldsIn ((DrawArmstrong code).2.1) ((DrawArmstrong code).2.2)))) then true else (!(iImplies ((DrawArmstrong code).1) 3 ((DrawArmstrong code).2.1)))) then true else (!(ValidTable ((DrawArmstrong code).2.2)))) = false) → (((bif (bif (bif ((iImplies ((DrawArmstrong code).1) 3 ((DrawArmstrong code).2.1)) != (Implies ((DrawArmstrong code).1) 3 ((DrawArmstrong code).2.1))) then true else ((HoldsIn ((DrawArmstrong code).2.1) ((DrawArmstrong code).2.2)) != (sHoldsIn ((DrawArmstrong code).2.1) ((DrawArmstrong code).2.2)))) then true else (!(iImplies ((DrawArmstrong code).1) 3 ((DrawArmstrong code).2.1)))) then true else (!(ValidTable ((DrawArmstrong code).2.2)))) = false)))] ?_ ?_
  ·
   refine ⟨?_, ?_, ?_, ?_, ?_, ?_, ?_, ?_, ?_, ?_, ?_, ?_, ?_, ?_, ?_, ?_, ?_, ?_, ?_, trivial⟩
   ·
    trivial
   ·
    intro g7
    have g7p0 : ((iImplies ((DrawArmstrong code).1) 3 ((DrawArmstrong code).2.1)) != (Implies ((DrawArmstrong code).1) 3 ((DrawArmstrong code).2.1))) = false := g7
    first | assumption | exact ⟨by assumption, by assumption⟩
   ·
    intro g8
    have g8p0 : ((iImplies ((DrawArmstrong code).1) 3 ((DrawArmstrong code).2.1)) != (Implies ((DrawArmstrong code).1) 3 ((DrawArmstrong code).2.1))) = false := g8
    first | assumption | exact ⟨by assumption, by assumption⟩
   ·
    intro g9
    have g9p0 : ((iImplies ((DrawArmstrong code).1) 3 ((DrawArmstrong code).2.1)) != (Implies ((DrawArmstrong code).1) 3 ((DrawArmstrong code).2.1))) = false := g9
    trivial
   ·
    intro g10
    have g10p0 : ((iImplies ((DrawArmstrong code).1) 3 ((DrawArmstrong code).2.1)) != (Implies ((DrawArmstrong code).1) 3 ((DrawArmstrong code).2.1))) = false := g10
    first | assumption | exact ⟨by assumption, by assumption⟩
   ·
    intro g11
    have g11p0 : ((iImplies ((DrawArmstrong code).1) 3 ((DrawArmstrong code).2.1)) != (Implies ((DrawArmstrong code).1) 3 ((DrawArmstrong code).2.1))) = false := g11
    first | assumption | exact ⟨by assumption, by assumption⟩
   ·
    intro g12
    have g12p0 : ((iImplies ((DrawArmstrong code).1) 3 ((DrawArmstrong code).2.1)) != (Implies ((DrawArmstrong code).1) 3 ((DrawArmstrong code).2.1))) = false := g12
    trivial
   ·
    intro g13
    have g13p0 : ((iImplies ((DrawArmstrong code).1) 3 ((DrawArmstrong code).2.1)) != (Implies ((DrawArmstrong code).1) 3 ((DrawArmstrong code).2.1))) = false := g13
    first | assumption | exact ⟨by assumption, by assumption⟩
   ·
    intro g14
    have g14p0 : ((iImplies ((DrawArmstrong code).1) 3 ((DrawArmstrong code).2.1)) != (Implies ((DrawArmstrong code).1) 3 ((DrawArmstrong code).2.1))) = false := g14
    first | assumption | exact ⟨by assumption, by assumption⟩
   ·
    intro g15
    have g15p0 : ((iImplies ((DrawArmstrong code).1) 3 ((DrawArmstrong code).2.1)) != (Implies ((DrawArmstrong code).1) 3 ((DrawArmstrong code).2.1))) = false := g15
    first | assumption | exact ⟨by assumption, by assumption⟩
   ·
    intro g16
    have g16p0 : (((iImplies ((DrawArmstrong code).1) 3 ((DrawArmstrong code).2.1)) != (Implies ((DrawArmstrong code).1) 3 ((DrawArmstrong code).2.1))) = false) ∧ (((HoldsIn ((DrawArmstrong code).2.1) ((DrawArmstrong code).2.2)) != (sHoldsIn ((DrawArmstrong code).2.1) ((DrawArmstrong code).2.2))) = false) := (And.imp (fun h => h) (fun h => h) (Go.Am.or_neg g16))
    first | assumption | exact ⟨by assumption, by assumption⟩
   ·
    intro g17
    have g17p0 : (((iImplies ((DrawArmstrong code).1) 3 ((DrawArmstrong code).2.1)) != (Implies ((DrawArmstrong code).1) 3 ((DrawArmstrong code).2.1))) = false) ∧ (((HoldsIn ((DrawArmstrong code).2.1) ((DrawArmstrong code).2.2)) != (sHoldsIn ((DrawArmstrong code).2.1) ((DrawArmstrong code).2.2))) = false) := (And.imp (fun h => h) (fun h => h) (Go.Am.or_neg g17))
    first | assumption | exact ⟨by assumption, by assumption⟩
   ·
    intro g18
    have g18p0 : ((((iImplies ((DrawArmstrong code).1) 3 ((DrawArmstrong code).2.1)) != (Implies ((DrawArmstrong code).1) 3 ((DrawArmstrong code).2.1))) = false) ∧ (((HoldsIn ((DrawArmstrong code).2.1) ((DrawArmstrong code).2.2)) != (sHoldsIn ((DrawArmstrong code).2.1) ((DrawArmstrong code).2.2))) = false)) ∧ ((iImplies ((DrawArmstrong code).1) 3 ((DrawArmstrong code).2.1)) = true) := (And.imp (fun h => (And.imp (fun h => h) (fun h => h) (Go.Am.or_neg h))) (fun h => (Go.Am.not_neg h)) (Go.Am.or_neg g18))
    first | assumption | exact ⟨by assumption, by assumption⟩
   ·
    intro g19
    have g19p0 : ((((iImplies ((DrawArmstrong code).1) 3 ((DrawArmstrong code).2.1)) != (Implies ((DrawArmstrong code).1) 3 ((DrawArmstrong code).2.1))) = false) ∧ (((HoldsIn ((DrawArmstrong code).2.1) ((DrawArmstrong code).2.2)) != (sHoldsIn ((DrawArmstrong code).2.1) ((DrawArmstrong code).2.2))) = false)) ∧ ((iImplies ((DrawArmstrong code).1) 3 ((DrawArmstrong code).2.1)) = true) := (And.imp (fun h => (And.imp (fun h => h) (fun h => h) (Go.Am.or_neg h))) (fun h => (Go.Am.not_neg h)) (Go.Am.or_neg g19))
    trivial
   ·
    intro g20
    have g20p0 : ((((iImplies ((DrawArmstrong code).1) 3 ((DrawArmstrong code).2.1)) != (Implies ((DrawArmstrong code).1) 3 ((DrawArmstrong code).2.1))) = false) ∧ (((HoldsIn ((DrawArmstrong code).2.1) ((DrawArmstrong code).2.2)) != (sHoldsIn ((DrawArmstrong code).2.1) ((DrawArmstrong code).2.2))) = false)) ∧ ((iImplies ((DrawArmstrong code).1) 3 ((DrawArmstrong code).2.1)) = true) := (And.imp (fun h => (And.imp (fun h => h) (fun h => h) (Go.Am.or_neg h))) (fun h => (Go.Am.not_neg h)) (Go.Am.or_neg g20))
    first | assumption | exact ⟨by assumption, by assumption⟩
   ·
    intro g21
    have g21p0 : ((((iImplies ((DrawArmstrong code).1) 3 ((DrawArmstrong code).2.1)) != (Implies ((DrawArmstrong code).1) 3 ((DrawArmstrong code).2.1))) = false) ∧ (((HoldsIn ((DrawArmstrong code).2.1) ((DrawArmstrong code).2.2)) != (sHoldsIn ((DrawArmstrong code).2.1) ((DrawArmstrong code).2.2))) = false)) ∧ ((iImplies ((DrawArmstrong code).1) 3 ((DrawArmstrong code).2.1)) = true) := (And.imp (fun h => (And.imp (fun h => h) (fun h => h) (Go.Am.or_neg h))) (fun h => (Go.Am.not_neg h)) (Go.Am.or_neg g21))
    first | assumption | exact ⟨by assumption, by assumption⟩
   ·
    intro g22
    have g22p0 : (((((iImplies ((DrawArmstrong code).1) 3 ((DrawArmstrong code).2.1)) != (Implies ((DrawArmstrong code).1) 3 ((DrawArmstrong code).2.1))) = false) ∧ (((HoldsIn ((DrawArmstrong code).2.1) ((DrawArmstrong code).2.2)) != (sHoldsIn ((DrawArmstrong code).2.1) ((DrawArmstrong code).2.2))) = false)) ∧ ((iImplies ((DrawArmstrong code).1) 3 ((DrawArmstrong code).2.1)) = true)) ∧ ((ValidTable ((DrawArmstrong code).2.2)) = true) := (And.imp (fun h => (And.imp (fun h => (And.imp (fun h => h) (fun h => h) (Go.Am.or_neg h))) (fun h => (Go.Am.not_neg h)) (Go.Am.or_neg h))) (fun h => (Go.Am.not_neg h)) (Go.Am.or_neg g22))
    first | assumption | exact ⟨by assumption, by assumption⟩
   ·
    intro g23
    have g23p0 : (((((iImplies ((DrawArmstrong code).1) 3 ((DrawArmstrong code).2.1)) != (Implies ((DrawArmstrong code).1) 3 ((DrawArmstrong code).2.1))) = false) ∧ (((HoldsIn ((DrawArmstrong code).2.1) ((DrawArmstrong code).2.2)) != (sHoldsIn ((DrawArmstrong code).2.1) ((DrawArmstrong code).2.2))) = false)) ∧ ((iImplies ((DrawArmstrong code).1) 3 ((DrawArmstrong code).2.1)) = true)) ∧ ((ValidTable ((DrawArmstrong code).2.2)) = true) := (And.imp (fun h => (And.imp (fun h => (And.imp (fun h => h) (fun h => h) (Go.Am.or_neg h))) (fun h => (Go.Am.not_neg h)) (Go.Am.or_neg h))) (fun h => (Go.Am.not_neg h)) (Go.Am.or_neg g23))
    first | assumption | exact ⟨by assumption, by assumption⟩
   ·
    intro g24
    have g24p0 : (((((iImplies ((DrawArmstrong code).1) 3 ((DrawArmstrong code).2.1)) != (Implies ((DrawArmstrong code).1) 3 ((DrawArmstrong code).2.1))) = false) ∧ (((HoldsIn ((DrawArmstrong code).2.1) ((DrawArmstrong code).2.2)) != (sHoldsIn ((DrawArmstrong code).2.1) ((DrawArmstrong code).2.2))) = false)) ∧ ((iImplies ((DrawArmstrong code).1) 3 ((DrawArmstrong code).2.1)) = true)) ∧ ((ValidTable ((DrawArmstrong code).2.2)) = true) := (And.imp (fun h => (And.imp (fun h => (And.imp (fun h => h) (fun h => h) (Go.Am.or_neg h))) (fun h => (Go.Am.not_neg h)) (Go.Am.or_neg h))) (fun h => (Go.Am.not_neg h)) (Go.Am.or_neg g24))
    first | assumption | exact ⟨by assumption, by assumption⟩
  refine AW.cd (bif (bif (bif (bif ((iImplies ((DrawArmstrong code).1) 3 ((DrawArmstrong code).2.1)) != (Implies ((DrawArmstrong code).1) 3 ((DrawArmstrong code).2.1))) then true else ((HoldsIn ((DrawArmstrong code).2.1) ((DrawArmstrong code).2.2)) != (sHoldsIn ((DrawArmstrong code).2.1) ((DrawArmstrong code).2.2)))) then true else (!(iImplies ((DrawArmstrong code).1) 3 ((DrawArmstrong code).2.1)))) then true else (!(ValidTable ((DrawArmstrong code).2.2)))) then true else ((Tab.Width ((DrawArmstrong code).2.2)) != 3)) ?_ ?_
  ·
   intro h25
   have h25q : ((((((iImplies ((DrawArmstrong code).1) 3 ((DrawArmstrong code).2.1)) != (Implies ((DrawArmstrong code).1) 3 ((DrawArmstrong code).2.1))) = true) ∨ (((HoldsIn ((DrawArmstrong code).2.1) ((DrawArmstrong code).2.2)) != (sHoldsIn ((DrawArmstrong code).2.1) ((DrawArmstrong code).2.2))) = true)) ∨ ((iImplies ((DrawArmstrong code).1) 3 ((DrawArmstrong code).2.1)) = false)) ∨ ((ValidTable ((DrawArmstrong code).2.2)) = false)) ∨ ((Tab.Width ((DrawArmstrong code).2.2)) ≠ 3) := (Or.imp (fun h => (Or.imp (fun h => (Or.imp (fun h => (Or.imp (fun h => h) (fun h => h) (Go.Am.or_pos h))) (fun h => (Go.Am.not_pos h)) (Go.Am.or_pos h))) (fun h => (Go.Am.not_pos h)) (Go.Am.or_pos h))) (fun h => (Go.Am.bne_pos h)) (Go.Am.or_pos h25))
   have e26 := e4.trans (Go.Am.bif_t h25)
   refine AW.seq (AW.wf_arr (id := 52) (ep := 1) (t := (.named 0)) (xs := (((DrawArmstrong code).1) : List Dep)) (by kernel_rfl) fun ha27 _ => ?_)
   replace ha27 : ((List.length ((DrawArmstrong code).1) : Nat) : Int) ≤ 4294967296 := ha27
   refine AW.d0 hC hM [2] [] ⟨[(2, .bool (bif ((iImplies ((DrawArmstrong code).1) 3 ((DrawArmstrong code).2.1)) == (Implies ((DrawArmstrong code).1) 3 ((DrawArmstrong code).2.1))) then ((HoldsIn ((DrawArmstrong code).2.1) ((DrawArmstrong code).2.2)) == (sHoldsIn ((DrawArmstrong code).2.1) ((DrawArmstrong code).2.2))) else false))], []⟩ [(True), ((((iImplies ((DrawArmstrong code).1) 3 ((DrawArmstrong code).2.1)) == (Implies ((DrawArmstrong code).1) 3 ((DrawArmstrong code).2.1))) = true) → ((((iImplies ((DrawArmstrong code).1) 3 ((DrawArmstrong code).2.1)) == (Implies ((DrawArmstrong code).1) 3 ((DrawArmstrong code).2.1))) = true))), ((((iImplies ((DrawArmstrong code).1) 3 ((DrawArmstrong code).2.1)) == (Implies ((DrawArmstrong code).1) 3 ((DrawArmstrong code).2.1))) = true) → ((((iImplies ((DrawArmstrong code).1) 3 ((DrawArmstrong code).2.1)) == (Implies ((DrawArmstrong code).1) 3 ((DrawArmstrong code).2.1))) = true))), ((((iImplies ((DrawArmstrong code).1) 3 ((DrawArmstrong code).2.1)) == (Implies ((DrawArmstrong code).1) 3 ((DrawArmstrong code).2.1))) = true) → (True)), ((((iImplies ((DrawArmstrong code).1) 3 ((DrawArmstrong code).2.1)) == (Implies ((DrawArmstrong code).1) 3 ((DrawArmstrong code).2.1))) = true) → ((((iImplies ((DrawArmstrong code).1) 3 ((DrawArmstrong code).2.1)) == (Implies ((DrawArmstrong code).1) 3 ((DrawArmstrong code).2.1))) = true))), ((((iImplies ((DrawArmstrong code).1) 3 ((DrawArmstrong code).2.1)) == (Implies ((DrawArmstrong code).1) 3 ((DrawArmstrong code).2.1))) = true) → ((((iImplies ((DrawArmstrong code).1) 3 ((DrawArmstrong code).2.1)) == (Implies ((DrawArmstrong code).1) 3 ((DrawArmstrong code).2.1))) = true))), ((((iImplies ((DrawArmstrong code).1) 3 ((DrawArmstrong code).2.1)) == (Implies ((DrawArmstrong code).1) 3 ((DrawArmstrong code).2.1))) = true) → (True)), ((((iImplies ((DrawArmstrong code).1) 3 ((DrawArmstrong code).2.1)) == (Implies ((DrawArmstrong code).1) 3 ((DrawArmstrong code).2.1))) = true) → ((((iImplies ((DrawArmstrong code).1) 3 ((DrawArmstrong code).2.1)) == (Implies ((DrawArmstrong code).1) 3 ((DrawArmstrong code).2.1))) = true))), ((((iImplies ((DrawArmstrong code).1) 3 ((DrawArmstrong code).2.1)) == (Implies ((DrawArmstrong code).1) 3 ((DrawArmstrong code).2.1))) = true) → ((((iImplies ((DrawArmstrong code).1) 3 ((DrawArmstrong code).2.1)) == (Implies ((DrawArmstrong code).1) 3 ((DrawArmstrong code).2.1))) = true))), ((((iImplies ((DrawArmstrong code).1) 3 ((DrawArmstrong code).2.1)) == (Implies ((DrawArmstrong code).1) 3 ((DrawArmstrong code).2.1))) = true) → ((((iImplies ((DrawArmstrong code).1) 3 ((DrawArmstrong code).2.1)) == (Implies ((DrawArmstrong code).1) 3 ((DrawArmstrong code).2.1))) = true)))] ?_ ?_
   ·
    refine ⟨?_, ?_, ?_, ?_, ?_, ?_, ?_, ?_, ?_, ?_, trivial⟩
    ·
     trivial
    ·
     intro g28
     have g28p0 : ((iImplies ((DrawArmstrong code).1) 3 ((DrawArmstrong code).2.1)) == (Implies ((DrawArmstrong code).1) 3 ((DrawArmstrong code).2.1))) = true := g28
     first | assumption | exact ⟨by assumption, by assumption⟩
    ·
     intro g29
     have g29p0 : ((iImplies ((DrawArmstrong code).1) 3 ((DrawArmstrong code).2.1)) == (Implies ((DrawArmstrong code).1) 3 ((DrawArmstrong code).2.1))) = true := g29
     first | assumption | exact ⟨by assumption, by assumption⟩
    ·
     intro g30
     have g30p0 : ((iImplies ((DrawArmstrong code).1) 3 ((DrawArmstrong code).2.1)) == (Implies ((DrawArmstrong code).1) 3 ((DrawArmstrong code).2.1))) = true := g30
     trivial
    ·
     intro g31
     have g31p0 : ((iImplies ((DrawArmstrong code).1) 3 ((DrawArmstrong code).2.1)) == (Implies ((DrawArmstrong code).1) 3 ((DrawArmstrong code).2.1))) = true := g31
     first | assumption | exact ⟨by assumption, by assumption⟩
    ·
     intro g32
     have g32p0 : ((iImplies ((DrawArmstrong code).1) 3 ((DrawArmstrong code).2.1)) == (Implies ((DrawArmstrong code).1) 3 ((DrawArmstrong code).2.1))) = true := g32
     first | assumption | exact ⟨by assumption, by assumption⟩
    ·
     intro g33
     have g33p0 : ((iImplies ((DrawArmstrong code).1) 3 ((DrawArmstrong code).2.1)) == (Implies ((DrawArmstrong code).1) 3 ((DrawArmstrong code).2.1))) = true := g33
     trivial
    ·
     intro g34
     have g34p0 : ((iImplies ((DrawArmstrong code).1) 3 ((DrawArmstrong code).2.1)) == (Implies ((DrawArmstrong code).1) 3 ((DrawArmstrong code).2.1))) = true := g34
     first | assumption | exact ⟨by assumption, by assumption⟩
    ·
     intro g35
     have g35p0 : ((iImplies ((DrawArmstrong code).1) 3 ((DrawArmstrong code).2.1)) == (Implies ((DrawArmstrong code).1) 3 ((DrawArmstrong code).2.1))) = true := g35
     first | assumption | exact ⟨by assumption, by assumption⟩
    ·
     intro g36
     have g36p0 : ((iImplies ((DrawArmstrong code).1) 3 ((DrawArmstrong code).2.1)) == (Implies ((DrawArmstrong code).1) 3 ((DrawArmstrong code).2.1))) = true := g36
     first | assumption | exact ⟨by assumption, by assumption⟩
   exact AW.ret (AW.retE (β := Bool) (fun v => [⟨.bool, v⟩]) (fun v => []) (v := (bif ((iImplies ((DrawArmstrong code).1) 3 ((DrawArmstrong code).2.1)) == (Implies ((DrawArmstrong code).1) 3 ((DrawArmstrong code).2.1))) then ((HoldsIn ((DrawArmstrong code).2.1) ((DrawArmstrong code).2.2)) == (sHoldsIn ((DrawArmstrong code).2.1) ((DrawArmstrong code).2.2))) else false)) e26 (by kernel_rfl) rfl rfl)
  ·
   intro h37
   have h37q : ((((((iImplies ((DrawArmstrong code).1) 3 ((DrawArmstrong code).2.1)) != (Implies ((DrawArmstrong code).1) 3 ((DrawArmstrong code).2.1))) = false) ∧ (((HoldsIn ((DrawArmstrong code).2.1) ((DrawArmstrong code).2.2)) != (sHoldsIn ((DrawArmstrong code).2.1) ((DrawArmstrong code).2.2))) = false)) ∧ ((iImplies ((DrawArmstrong code).1) 3 ((DrawArmstrong code).2.1)) = true)) ∧ ((ValidTable ((DrawArmstrong code).2.2)) = true)) ∧ ((Tab.Width ((DrawArmstrong code).2.2)) = 3) := (And.imp (fun h => (And.imp (fun h => (And.imp (fun h => (And.imp (fun h => h) (fun h => h) (Go.Am.or_neg h))) (fun h => (Go.Am.not_neg h)) (Go.Am.or_neg h))) (fun h => (Go.Am.not_neg h)) (Go.Am.or_neg h))) (fun h => (Go.Am.bne_neg h)) (Go.Am.or_neg h37))
   have e38 := e4.trans (Go.Am.bif_f h37)
   refine AW.kp [3, 4, 5] [16, 20, 52] ⟨[(3, .arr 52 1), (4, .ref 16 1 0), (5, .ref 20 1 0)], [(16, .box 1 [.int .i64 (Dep.From ((DrawArmstrong code).2.1)), .int .i64 (Dep.To ((DrawArmstrong code).2.1))]), (20, .box 1 [.int .i64 (Tab.Width ((DrawArmstrong code).2.2)), .data (.slice (.slice (.named 1))) ((Tab.Rows ((DrawArmstrong code).2.2)) : List (List Val))]), (52, .arr 1 (.named 0) (((DrawArmstrong code).1) : List Dep))]⟩ ?_
   refine AW.skip (AW.seq (AW.seq (AW.wf_arr (id := 52) (ep := 1) (t := (.named 0)) (xs := (((DrawArmstrong code).1) : List Dep)) (by kernel_rfl) fun ha39 _ => ?_)))
   replace ha39 : ((List.length ((DrawArmstrong code).1) : Nat) : Int) ≤ 4294967296 := ha39
   refine AW.r1 hC [3, 4, 5, 7] [16, 20, 52] ⟨[(3, .arr 52 1), (4, .ref 16 1 0), (5, .ref 20 1 0), (7, .int .i64 0)], [(16, .box 1 [.int .i64 (Dep.From ((DrawArmstrong code).2.1)), .int .i64 (Dep.To ((DrawArmstrong code).2.1))]), (20, .box 1 [.int .i64 (Tab.Width ((DrawArmstrong code).2.2)), .data (.slice (.slice (.named 1))) ((Tab.Rows ((DrawArmstrong code).2.2)) : List (List Val))]), (52, .arr 1 (.named 0) (((DrawArmstrong code).1) : List Dep))]⟩ ?_
   refine AW.cutQ (α := Unit) (fun x => ⟨[(4, .ref 16 1 0), (5, .ref 20 1 0)], [(16, .box 1 [.int .i64 (Dep.From ((DrawArmstrong code).2.1)), .int .i64 (Dep.To ((DrawArmstrong code).2.1))]), (20, .box 1 [.int .i64 (Tab.Width ((DrawArmstrong code).2.2)), .data (.slice (.slice (.named 1))) ((Tab.Rows ((DrawArmstrong code).2.2)) : List (List Val))])]⟩) (fun x => (True) ∧ (FnArmstrong_l0 code ((List.length ((DrawArmstrong code).1)) - 0 + 1) 0) = (.inl ())) ?_ ?_
   ·
    skip
    refine AW.block (AW.loop (α := Nat) (fun x => ⟨[(3, .arr 52 1), (4, .ref 16 1 0), (5, .ref 20 1 0), (7, .int .i64 ((x : Nat) : Int))], [(16, .box 1 [.int .i64 (Dep.From ((DrawArmstrong code).2.1)), .int .i64 (Dep.To ((DrawArmstrong code).2.1))]), (20, .box 1 [.int .i64 (Tab.Width ((DrawArmstrong code).2.2)), .data (.slice (.slice (.named 1))) ((Tab.Rows ((DrawArmstrong code).2.2)) : List (List Val))]), (52, .arr 1 (.named 0) (((DrawArmstrong code).1) : List Dep))]⟩) (fun x => (True) ∧ ∃ k, (List.length ((DrawArmstrong code).1)) - x < k ∧ (FnArmstrong_l0 code ((List.length ((DrawArmstrong code).1)) - 0 + 1) 0) = FnArmstrong_l0 code k x) (fun x => (List.length ((DrawArmstrong code).1)) - x) 0 (by kernel_rfl) ⟨?_, _, Nat.lt_succ_self _, rfl⟩ ?_)
    ·
     show True
     first | exact trivial | (refine ⟨?_, ?_⟩ <;> first | omega | simp) | omega | simp
    ·
     intro i hR
     obtain ⟨hI0, k81, hk79, e80⟩ := hR
     replace hI0 : True := hI0
     replace hk79 : (List.length ((DrawArmstrong code).1)) - i < k81 := hk79
     obtain ⟨k81q, rfl⟩ : ∃ k, k81 = k + 1 := ⟨k81 - 1, by omega⟩
     refine AW.seq (AW.seq (AW.wf_arr (id := 52) (ep := 1) (t := (.named 0)) (xs := (((DrawArmstrong code).1) : List Dep)) (by kernel_rfl) fun ha82 _ => ?_))
     replace ha82 : ((List.length ((DrawArmstrong code).1) : Nat) : Int) ≤ 4294967296 := ha82
     refine AW.r1 hC [3, 4, 5, 7, 65] [16, 20, 52] ⟨[(3, .arr 52 1), (4, .ref 16 1 0), (5, .ref 20 1 0), (7, .int .i64 ((i : Nat) : Int)), (65, .bool (decide (((i : Nat) : Int) < ((List.length ((DrawArmstrong code).1) : Nat) : Int))))], [(16, .box 1 [.int .i64 (Dep.From ((DrawArmstrong code).2.1)), .int .i64 (Dep.To ((DrawArmstrong code).2.1))]), (20, .box 1 [.int .i64 (Tab.Width ((DrawArmstrong code).2.2)), .data (.slice (.slice (.named 1))) ((Tab.Rows ((DrawArmstrong code).2.2)) : List (List Val))]), (52, .arr 1 (.named 0) (((DrawArmstrong code).1) : List Dep))]⟩ ?_
     refine AW.cd (decide (((i : Nat) : Int) < ((List.length ((DrawArmstrong code).1) : Nat) : Int))) ?_ ?_
     ·
      intro h83
      have h83q : ((i : Nat) : Int) < ((List.length ((DrawArmstrong code).1) : Nat) : Int) := (of_decide_eq_true h83)
      have e84 := e80.trans (Go.Am.bif_t h83)
      refine AW.kp [3, 4, 5, 7] [16, 20, 52] ⟨[(3, .arr 52 1), (4, .ref 16 1 0), (5, .ref 20 1 0), (7, .int .i64 ((i : Nat) : Int))], [(16, .box 1 [.int .i64 (Dep.From ((DrawArmstrong code).2.1)), .int .i64 (Dep.To ((DrawArmstrong code).2.1))]), (20, .box 1 [.int .i64 (Tab.Width ((DrawArmstrong code).2.2)), .data (.slice (.slice (.named 1))) ((Tab.Rows ((DrawArmstrong code).2.2)) : List (List Val))]), (52, .arr 1 (.named 0) (((DrawArmstrong code).1) : List Dep))]⟩ ?_
      refine AW.skip (AW.seq (AW.block (AW.seq (AW.wf_arr (id := 52) (ep := 1) (t := (.named 0)) (xs := (((DrawArmstrong code).1) : List Dep)) (by kernel_rfl) fun ha85 _ => ?_))))
      replace ha85 : ((List.length ((DrawArmstrong code).1) : Nat) : Int) ≤ 4294967296 := ha85
      refine AW.d0 hC hM [3, 4, 5, 7, 74] [16, 20, 52] ⟨[(3, .arr 52 1), (4, .ref 16 1 0), (5, .ref 20 1 0), (7, .int .i64 ((i : Nat) : Int)), (74, .bool (!(HoldsIn (List.getD ((DrawArmstrong code).1) i Dep.zero) ((DrawArmstrong code).2.2))))], [(16, .box 1 [.int .i64 (Dep.From ((DrawArmstrong code).2.1)), .int .i64 (Dep.To ((DrawArmstrong code).2.1))]), (20, .box 1 [.int .i64 (Tab.Width ((DrawArmstrong code).2.2)), .data (.slice (.slice (.named 1))) ((Tab.Rows ((DrawArmstrong code).2.2)) : List (List Val))]), (52, .arr 1 (.named 0) (((DrawArmstrong code).1) : List Dep))]⟩ [(0 ≤ ((i : Nat) : Int) ∧ ((i : Nat) : Int) < ((List.length ((DrawArmstrong code).1) : Nat) : Int)), (True)] ?_ ?_
      ·
       refine ⟨?_, ?_, trivial⟩
       ·
        first | omega | (dsimp only; omega) | (simp only [lens] at *; omega)
       ·
        trivial
      refine AW.cd (!(HoldsIn (List.getD ((DrawArmstrong code).1) i Dep.zero) ((DrawArmstrong code).2.2))) ?_ ?_
      ·
       intro h86
       have h86q : (HoldsIn (List.getD ((DrawArmstrong code).1) i Dep.zero) ((DrawArmstrong code).2.2)) = false := (Go.Am.not_pos h86)
       have e87 := e84.trans (Go.Am.bif_t h86)
       refine AW.seq (AW.wf_arr (id := 52) (ep := 1) (t := (.named 0)) (xs := (((DrawArmstrong code).1) : List Dep)) (by kernel_rfl) fun ha88 _ => ?_)
       replace ha88 : ((List.length ((DrawArmstrong code).1) : Nat) : Int) ≤ 4294967296 := ha88
       refine AW.r1 hC [2] [] ⟨[(2, .bool true)], []⟩ ?_
       refine AW.ret ?_
       have e89 := e38.trans (Go.Am.elim_r e87)
       exact AW.retE (β := Bool) (fun v => [⟨.bool, v⟩]) (fun v => []) (v := true) e89 (by kernel_rfl) rfl rfl
      ·
       intro h90
       have h90q : (HoldsIn (List.getD ((DrawArmstrong code).1) i Dep.zero) ((DrawArmstrong code).2.2)) = true := (Go.Am.not_neg h90)
       have e91 := e84.trans (Go.Am.bif_f h90)
       refine AW.kp [3, 4, 5, 7] [16, 20, 52] ⟨[(3, .arr 52 1), (4, .ref 16 1 0), (5, .ref 20 1 0), (7, .int .i64 ((i : Nat) : Int))], [(16, .box 1 [.int .i64 (Dep.From ((DrawArmstrong code).2.1)), .int .i64 (Dep.To ((DrawArmstrong code).2.1))]), (20, .box 1 [.int .i64 (Tab.Width ((DrawArmstrong code).2.2)), .data (.slice (.slice (.named 1))) ((Tab.Rows ((DrawArmstrong code).2.2)) : List (List Val))]), (52, .arr 1 (.named 0) (((DrawArmstrong code).1) : List Dep))]⟩ ?_
       refine AW.skip (AW.wf_arr (id := 52) (ep := 1) (t := (.named 0)) (xs := (((DrawArmstrong code).1) : List Dep)) (by kernel_rfl) fun ha92 _ => ?_)
       replace ha92 : ((List.length ((DrawArmstrong code).1) : Nat) : Int) ≤ 4294967296 := ha92
       refine AW.r0 hC [3, 4, 5, 7] [16, 20, 52] ⟨[(3, .arr 52 1), (4, .ref 16 1 0), (5, .ref 20 1 0), (7, .int .i64 ((i + 1 : Nat) : Int))], [(16, .box 1 [.int .i64 (Dep.From ((DrawArmstrong code).2.1)), .int .i64 (Dep.To ((DrawArmstrong code).2.1))]), (20, .box 1 [.int .i64 (Tab.Width ((DrawArmstrong code).2.2)), .data (.slice (.slice (.named 1))) ((Tab.Rows ((DrawArmstrong code).2.2)) : List (List Val))]), (52, .arr 1 (.named 0) (((DrawArmstrong code).1) : List Dep))]⟩ [(-9223372036854775808 ≤ ((i + 1 : Nat) : Int) ∧ ((i + 1 : Nat) : Int) ≤ 9223372036854775807)] ?_ ?_
       ·
        refine ⟨?_, trivial⟩
        ·
         first | omega | (dsimp only; omega) | (simp only [lens] at *; omega)
       refine AW.back (x := i) (i + 1) (by kernel_rfl) ⟨?_, k81q, ?_, e91⟩ ?_
       ·
        show True
        first | assumption | exact trivial | (refine ⟨?_, ?_⟩ <;> first | omega | (simp only [lens] at *; omega)) | omega | (simp only [lens] at *; omega)
       ·
        show (List.length ((DrawArmstrong code).1)) - (i + 1) < k81q
        first | omega | (simp only [lens]; omega)
       ·
        show (List.length ((DrawArmstrong code).1)) - (i + 1) < (List.length ((DrawArmstrong code).1)) - i
        first | omega | (simp only [lens]; omega)
     ·
      intro h93
      have h93q : ¬ (((i : Nat) : Int) < ((List.length ((DrawArmstrong code).1) : Nat) : Int)) := (of_decide_eq_false h93)
      have e94 := e80.trans (Go.Am.bif_f h93)
      refine AW.kp [4, 5] [16, 20] ⟨[(4, .ref 16 1 0), (5, .ref 20 1 0)], [(16, .box 1 [.int .i64 (Dep.From ((DrawArmstrong code).2.1)), .int .i64 (Dep.To ((DrawArmstrong code).2.1))]), (20, .box 1 [.int .i64 (Tab.Width ((DrawArmstrong code).2.2)), .data (.slice (.slice (.named 1))) ((Tab.Rows ((DrawArmstrong code).2.2)) : List (List Val))])]⟩ ?_
      refine AW.exit ?_
      refine AW.meet () (by kernel_rfl) ⟨?_, e94⟩
      show True
      first | assumption | exact trivial | omega
   ·
    intro x hR
    obtain ⟨hJ0, e95⟩ := hR
    replace hJ0 : True := hJ0
    have e96 := e38.trans (Go.Am.elim_l e95)
    refine AW.seq (AW.r0 hC [2] [] ⟨[(2, .bool (HoldsIn ((DrawArmstrong code).2.1) ((DrawArmstrong code).2.2)))], []⟩ [(True)] ?_ ?_)
    ·
     refine ⟨?_, trivial⟩
     ·
      trivial
    exact AW.ret (AW.retE (β := Bool) (fun v => [⟨.bool, v⟩]) (fun v => []) (v := (HoldsIn ((DrawArmstrong code).2.1) ((DrawArmstrong code).2.2))) e96 (by kernel_rfl) rfl rfl)

end
end Go.Proofs.Ytbhgdogogpihhaa
