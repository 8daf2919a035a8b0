/-
  A part of the proof of this claim (AvK): what functions of the program compute, and plain facts of that. No conditions.
-/
import Derived.Test.YtbcgmoaipneoeaaAvJ
set_option linter.all false
namespace Go.Proofs.Ytbcgmoaipneoeaa
open Go Go.Am
noncomputable section

def planSize_l0 (self : Pln → Int) (p : Pln) : Nat → Int → Nat → Int
 | 0, n1, i => n1
 | k + 1, n1, i => (bif (decide (((i : Nat) : Int) < ((List.length (Pln.Kids p) : Nat) : Int))) then (planSize_l0 self p k (IntKind.wrap .i64 (n1 + (self (List.getD (Pln.Kids p) i Pln.zero)))) (i + 1)) else n1)

def planSize_r : Nat → Pln → Int
 | 0, p => 0
 | fuel + 1, p => (Go.Am.andThen (planSize_l0 (planSize_r fuel) p ((List.length (Pln.Kids p)) - 0 + 1) 1 0) (fun z => (fun (n1 : Int) => n1) z))

def planSize (p : Pln) : Int := planSize_r (SizeOf.sizeOf p + 1) p

def planSize_spn (fuel : Nat) : FnSpec := mkSpec [.val (.named 2)] [.val (.int .i64)] (fun (p : Pln) => (True) ∧ SizeOf.sizeOf p < fuel) (fun (p : Pln) => [⟨(.int .i64), (planSize_r fuel p)⟩])

def planSize_sp : FnSpec := mkSpec [.val (.named 2)] [.val (.int .i64)] (fun (p : Pln) => True) (fun (p : Pln) => [⟨(.int .i64), (planSize p)⟩])

theorem planSize_okn (fuel : Nat) : FnOK Try.prog 15 (planSize_spn fuel) := by
 induction fuel with
 | zero => exact FnOK.never Try.func15 (by kernel_rfl) rfl (fun _ h => absurd h.2 (Nat.not_lt_zero _))
 | succ fuel ih => ?_
 have hC : CtxOK Try.prog (mkCtx tyL [(15, (planSize_spn fuel))]) := CtxOK.cons ih (CtxOK.nil tyOK)
 refine FnOK.of_body Try.func15 (by kernel_rfl) rfl (C := (mkCtx tyL [(15, (planSize_spn fuel))])) hC.ty (by kernel_rfl) ?_
 intro (p : Pln) hwf hpre E
 have hpre : (True) ∧ SizeOf.sizeOf p < fuel + 1 := hpre
 have hw_p : Wf ⟨(.named 2), (p : Pln)⟩ := hwf _ (List.Mem.head _)
 obtain ⟨hr_p_Kind, hr_p_Table, hl_p_Exprs, hl_p_Cols, hl_p_Kids⟩ := Pln.wfl hw_p
 have e0 : planSize_r (fuel + 1) p = planSize_r (fuel + 1) p := rfl
 refine AW.seq (AW.r1 hC [1] [4] ⟨[(1, .ref 4 1 0)], [(4, .box 1 [sI (Pln.Kind p), sI (Pln.Table p), sD10 (Pln.Exprs p), sD9 (Pln.Cols p), sD11 (Pln.Kids p)])]⟩ ?_)
 refine AW.seq (AW.r1 hC [1, 3] [4] ⟨[(1, .ref 4 1 0), (3, sI 1)], [(4, .box 1 [sI (Pln.Kind p), sI (Pln.Table p), sD10 (Pln.Exprs p), sD9 (Pln.Cols p), sD11 (Pln.Kids p)])]⟩ ?_)
 refine AW.seq (AW.seq (AW.r1 hC [1, 3, 4] [4] ⟨[(1, .ref 4 1 0), (3, sI 1), (4, sI 0)], [(4, .box 1 [sI (Pln.Kind p), sI (Pln.Table p), sD10 (Pln.Exprs p), sD9 (Pln.Cols p), sD11 (Pln.Kids p)])]⟩ ?_))
 refine AW.cutQ (α := Int) (fun x => ⟨[(3, sI x)], []⟩) (fun x => (True) ∧ (planSize_l0 (planSize_r fuel) p ((List.length (Pln.Kids p)) - 0 + 1) 1 0) = x) ?_ ?_
 ·
  skip
  refine AW.block (AW.loop (α := Int × Nat) (fun x => ⟨[(1, .ref 4 1 0), (3, sI x.1), (4, sI ((x.2 : Nat) : Int))], [(4, .box 1 [sI (Pln.Kind p), sI (Pln.Table p), sD10 (Pln.Exprs p), sD9 (Pln.Cols p), sD11 (Pln.Kids p)])]⟩) (fun x => (True) ∧ ∃ k, (List.length (Pln.Kids p)) - x.2 < k ∧ (planSize_l0 (planSize_r fuel) p ((List.length (Pln.Kids p)) - 0 + 1) 1 0) = planSize_l0 (planSize_r fuel) p k x.1 x.2) (fun x => (List.length (Pln.Kids p)) - x.2) (1, 0) (by kernel_rfl) ⟨?_, _, Nat.lt_succ_self _, rfl⟩ ?_)
  ·
   show True
   first | exact trivial | (refine ⟨?_, ?_⟩ <;> first | omega | simp) | omega | simp
  ·
   intro x hR
   obtain ⟨n1, i⟩ := x
   obtain ⟨hI0, k19, hk17, e18⟩ := hR
   replace hI0 : True := hI0
   replace hk17 : (List.length (Pln.Kids p)) - i < k19 := hk17
   obtain ⟨k19q, rfl⟩ : ∃ k, k19 = k + 1 := ⟨k19 - 1, by omega⟩
   refine AW.seq (AW.seq (AW.r1 hC [1, 3, 4, 9] [4] ⟨[(1, .ref 4 1 0), (3, sI n1), (4, sI ((i : Nat) : Int)), (9, sB (decide (((i : Nat) : Int) < ((List.length (Pln.Kids p) : Nat) : Int))))], [(4, .box 1 [sI (Pln.Kind p), sI (Pln.Table p), sD10 (Pln.Exprs p), sD9 (Pln.Cols p), sD11 (Pln.Kids p)])]⟩ ?_))
   refine AW.cd (decide (((i : Nat) : Int) < ((List.length (Pln.Kids p) : Nat) : Int))) ?_ ?_
   ·
    intro h20
    have h20q := (of_decide_eq_true h20)
    have e21 := e18.trans (Go.Am.bif_t h20)
    refine AW.kp [1, 3, 4] [4] ⟨[(1, .ref 4 1 0), (3, sI n1), (4, sI ((i : Nat) : Int))], [(4, .box 1 [sI (Pln.Kind p), sI (Pln.Table p), sD10 (Pln.Exprs p), sD9 (Pln.Cols p), sD11 (Pln.Kids p)])]⟩ ?_
    refine AW.skip (AW.seq (AW.block ?_))
    refine AW.reg hC  true [] [1, 3, 4] [4]
     ⟨[(1, .ref 4 1 0), (3, sI (IntKind.wrap .i64 (n1 + ((planSize_r fuel) (List.getD (Pln.Kids p) i Pln.zero))))), (4, sI ((i : Nat) : Int))], [(4, .box 1 [sI (Pln.Kind p), sI (Pln.Table p), sD10 (Pln.Exprs p), sD9 (Pln.Cols p), sD11 (Pln.Kids p)])]⟩
     [IX ((i : Nat) : Int) ((List.length (Pln.Kids p) : Nat) : Int), ((True) ∧ SizeOf.sizeOf (List.getD (Pln.Kids p) i Pln.zero) < fuel)] (by kernel_rfl) ?_ ?_
    ·
     refine ⟨?_, ?_, trivial⟩
     ·
      refine IX.of ?_
      first | omega | (dsimp only; omega) | (simp only [lens] at *; omega)
     ·
      exact ⟨trivial, Nat.lt_of_lt_of_le (pkid_lt (by omega)) (Nat.le_of_lt_succ hpre.2)⟩
    refine AW.r0 hC [1, 3, 4] [4] ⟨[(1, .ref 4 1 0), (3, sI (IntKind.wrap .i64 (n1 + ((planSize_r fuel) (List.getD (Pln.Kids p) i Pln.zero))))), (4, sI ((i + 1 : Nat) : Int))], [(4, .box 1 [sI (Pln.Kind p), sI (Pln.Table p), sD10 (Pln.Exprs p), sD9 (Pln.Cols p), sD11 (Pln.Kids p)])]⟩ [R64 ((i + 1 : Nat) : Int)] ?_ ?_
    ·
     refine ⟨?_, trivial⟩
     ·
      refine R64.of ?_
      first | omega | (dsimp only; omega) | (simp only [lens] at *; omega)
    refine AW.back (x := (n1, i)) ((IntKind.wrap .i64 (n1 + ((planSize_r fuel) (List.getD (Pln.Kids p) i Pln.zero)))), i + 1) (by kernel_rfl) ⟨?_, k19q, ?_, e21⟩ ?_
    ·
     show True
     first | assumption | exact trivial | (refine ⟨?_, ?_⟩ <;> first | omega | (simp only [lens] at *; omega)) | omega | (simp only [lens] at *; omega)
    ·
     show (List.length (Pln.Kids p)) - (i + 1) < k19q
     first | omega | (simp only [lens]; omega)
    ·
     show (List.length (Pln.Kids p)) - (i + 1) < (List.length (Pln.Kids p)) - i
     first | omega | (simp only [lens]; omega)
   ·
    intro h22
    have h22q := (of_decide_eq_false h22)
    have e23 := e18.trans (Go.Am.bif_f h22)
    refine AW.kp [3] [] ⟨[(3, sI n1)], []⟩ ?_
    refine AW.exit ?_
    refine AW.meet n1 (by kernel_rfl) ⟨?_, e23⟩
    show True
    first | assumption | exact trivial | omega
 ·
  intro n1 hR
  obtain ⟨hJ0, e24⟩ := hR
  replace hJ0 : True := hJ0
  have e25 := e0.trans (Go.Am.then_eq e24)
  refine AW.seq (AW.r1 hC [2] [] ⟨[(2, sI n1)], []⟩ ?_)
  exact AW.ret (AW.rI n1 e25)

theorem planSize_fu : AllTV (planSize_sp.ps.map PK.ty) (fun tvs => planSize_sp.pre tvs → ∃ k, (planSize_spn k).pre tvs ∧ (planSize_spn k).fn tvs = planSize_sp.fn tvs ∧ (planSize_spn k).bx tvs = planSize_sp.bx tvs) :=
 (fun (p : Pln) h => ⟨SizeOf.sizeOf p + 1, (show (True) ∧ SizeOf.sizeOf p < SizeOf.sizeOf p + 1 from ⟨h, Nat.lt_succ_self _⟩), (show (planSize_spn (SizeOf.sizeOf p + 1)).fn [⟨(.named 2), (p : Pln)⟩] = ([⟨(.int .i64), (planSize_r (SizeOf.sizeOf p + 1) p)⟩] : List TV) from by kernel_rfl).trans (show ([⟨(.int .i64), (planSize_r (SizeOf.sizeOf p + 1) p)⟩] : List TV) = planSize_sp.fn [⟨(.named 2), (p : Pln)⟩] from by kernel_rfl), by kernel_rfl⟩)

theorem planSize_ok : FnOK Try.prog 15 planSize_sp := FnOK.of_fuel planSize_okn (fun _ => rfl) (fun _ => rfl) (AllTV.get planSize_fu)

def PlanSize (p : Pln) (ws : List Int) : Int := (bif ((widthOf (Pln.mk (Pln.Kind p) (Pln.Table p) (Pln.Exprs p) (Pln.Cols p) (Pln.Kids p)) ws) == 0) then 0 else (planSize (Pln.mk (Pln.Kind p) (Pln.Table p) (Pln.Exprs p) (Pln.Cols p) (Pln.Kids p))))

def PlanSize_sp : FnSpec := mkSpec [.val (.named 2), .val (.slice (.int .i64))] [.val (.int .i64)] (fun (p : Pln) (ws : List Int) => True) (fun (p : Pln) (ws : List Int) => [⟨(.int .i64), (PlanSize p ws)⟩])

theorem PlanSize_ok : FnOK Try.prog 5 PlanSize_sp := by
 have hC : CtxOK Try.prog (mkCtx tyL [(14, widthOf_sp), (15, planSize_sp)]) := CtxOK.cons widthOf_ok (CtxOK.cons planSize_ok (CtxOK.nil tyOK))
 refine FnOK.of_body Try.func5 (by kernel_rfl) rfl (C := (mkCtx tyL [(14, widthOf_sp), (15, planSize_sp)])) hC.ty (by kernel_rfl) ?_
 intro (p : Pln) (ws : List Int) hwf hpre E
 have hpre : True := hpre
 have hw_p : Wf ⟨(.named 2), (p : Pln)⟩ := hwf _ (List.Mem.head _)
 obtain ⟨hr_p_Kind, hr_p_Table, hl_p_Exprs, hl_p_Cols, hl_p_Kids⟩ := Pln.wfl hw_p
 have hw_ws : Wf ⟨(.slice (.int .i64)), (ws : List Int)⟩ := hwf _ (List.Mem.tail _ (List.Mem.head _))
 have hl_ws : ((List.length ws : Nat) : Int) ≤ 9223372036854775807 := hw_ws.len
 have e0 : PlanSize p ws = PlanSize p ws := rfl
 refine AW.seq (AW.r1 hC [1, 2] [8] ⟨[(1, sD9 ws), (2, .ref 8 1 0)], [(8, .box 1 [sI (Pln.Kind p), sI (Pln.Table p), sD10 (Pln.Exprs p), sD9 (Pln.Cols p), sD11 (Pln.Kids p)])]⟩ ?_)
 refine AW.seq (AW.seq (AW.r0 hC [2, 8] [8] ⟨[(2, .ref 8 1 0), (8, sB ((widthOf (Pln.mk (Pln.Kind p) (Pln.Table p) (Pln.Exprs p) (Pln.Cols p) (Pln.Kids p)) ws) == 0))], [(8, .box 1 [sI (Pln.Kind p), sI (Pln.Table p), sD10 (Pln.Exprs p), sD9 (Pln.Cols p), sD11 (Pln.Kids p)])]⟩ [(True)] ?_ ?_))
 ·
  refine ⟨?_, trivial⟩
  ·
   trivial
 refine AW.cd ((widthOf (Pln.mk (Pln.Kind p) (Pln.Table p) (Pln.Exprs p) (Pln.Cols p) (Pln.Kids p)) ws) == 0) ?_ ?_
 ·
  intro h1
  have h1q := (Go.Am.beq_pos h1)
  have e2 := e0.trans (Go.Am.bif_t h1)
  refine AW.seq (AW.r1 hC [4] [] ⟨[(4, sI 0)], []⟩ ?_)
  exact AW.ret (AW.rI 0 e2)
 ·
  intro h3
  have h3q := (Go.Am.beq_neg h3)
  have e4 := e0.trans (Go.Am.bif_f h3)
  refine AW.kp [2] [8] ⟨[(2, .ref 8 1 0)], [(8, .box 1 [sI (Pln.Kind p), sI (Pln.Table p), sD10 (Pln.Exprs p), sD9 (Pln.Cols p), sD11 (Pln.Kids p)])]⟩ ?_
  refine AW.skip (AW.seq (AW.r0 hC [4] [] ⟨[(4, sI (planSize (Pln.mk (Pln.Kind p) (Pln.Table p) (Pln.Exprs p) (Pln.Cols p) (Pln.Kids p))))], []⟩ [(True)] ?_ ?_))
  ·
   refine ⟨?_, trivial⟩
   ·
    trivial
  exact AW.ret (AW.rI (planSize (Pln.mk (Pln.Kind p) (Pln.Table p) (Pln.Exprs p) (Pln.Cols p) (Pln.Kids p))) e4)

def FnExactPlanSize (aP : Pln) (aWidths : List Int) : Bool := (bif (decide (1048576 < ((List.length aWidths : Nat) : Int))) then true else (bif (decide ((szPlan (Pln.mk (Pln.Kind aP) (Pln.Table aP) (Pln.Exprs aP) (Pln.Cols aP) (Pln.Kids aP)) 1048576) < 0)) then true else (bif ((iPlanSize (Pln.mk (Pln.Kind (toPlan (Pln.mk (Pln.Kind aP) (Pln.Table aP) (Pln.Exprs aP) (Pln.Cols aP) (Pln.Kids aP)))) (Pln.Table (toPlan (Pln.mk (Pln.Kind aP) (Pln.Table aP) (Pln.Exprs aP) (Pln.Cols aP) (Pln.Kids aP)))) (Pln.Exprs (toPlan (Pln.mk (Pln.Kind aP) (Pln.Table aP) (Pln.Exprs aP) (Pln.Cols aP) (Pln.Kids aP)))) (Pln.Cols (toPlan (Pln.mk (Pln.Kind aP) (Pln.Table aP) (Pln.Exprs aP) (Pln.Cols aP) (Pln.Kids aP)))) (Pln.Kids (toPlan (Pln.mk (Pln.Kind aP) (Pln.Table aP) (Pln.Exprs aP) (Pln.Cols aP) (Pln.Kids aP))))) (toIntS aWidths)) != (PlanSize (toPlan (Pln.mk (Pln.Kind aP) (Pln.Table aP) (Pln.Exprs aP) (Pln.Cols aP) (Pln.Kids aP))) (toIntS aWidths))) then false else (bif (!(eqPlan (Pln.mk (Pln.Kind (toPlan (Pln.mk (Pln.Kind aP) (Pln.Table aP) (Pln.Exprs aP) (Pln.Cols aP) (Pln.Kids aP)))) (Pln.Table (toPlan (Pln.mk (Pln.Kind aP) (Pln.Table aP) (Pln.Exprs aP) (Pln.Cols aP) (Pln.Kids aP)))) (Pln.Exprs (toPlan (Pln.mk (Pln.Kind aP) (Pln.Table aP) (Pln.Exprs aP) (Pln.Cols aP) (Pln.Kids aP)))) (Pln.Cols (toPlan (Pln.mk (Pln.Kind aP) (Pln.Table aP) (Pln.Exprs aP) (Pln.Cols aP) (Pln.Kids aP)))) (Pln.Kids (toPlan (Pln.mk (Pln.Kind aP) (Pln.Table aP) (Pln.Exprs aP) (Pln.Cols aP) (Pln.Kids aP))))) (toPlan (Pln.mk (Pln.Kind aP) (Pln.Table aP) (Pln.Exprs aP) (Pln.Cols aP) (Pln.Kids aP))))) then false else (bif (!(eqIntS (toIntS aWidths) (toIntS aWidths))) then false else true)))))

def FnExactPlanSize_sp : FnSpec := mkSpec [.val (.named 2), .val (.slice (.int .i64))] [.val .bool] (fun (aP : Pln) (aWidths : List Int) => True) (fun (aP : Pln) (aWidths : List Int) => [⟨.bool, (FnExactPlanSize aP aWidths)⟩])

theorem FnExactPlanSize_ok : FnOK Try.prog 3 FnExactPlanSize_sp := by
 have hC : CtxOK Try.prog (mkCtx tyL [(4, szPlan_sp), (5, PlanSize_sp), (6, toPlan_sp), (7, toIntS_sp), (8, iPlanSize_sp), (9, eqPlan_sp), (10, eqIntS_sp)]) := CtxOK.cons szPlan_ok (CtxOK.cons PlanSize_ok (CtxOK.cons toPlan_ok (CtxOK.cons toIntS_ok (CtxOK.cons iPlanSize_ok (CtxOK.cons eqPlan_ok (CtxOK.cons eqIntS_ok (CtxOK.nil tyOK)))))))
 have hM : Try.prog.follows .mixedOrders = true := Try.checked.mixed
 refine FnOK.of_body Try.func3 (by kernel_rfl) rfl (C := (mkCtx tyL [(4, szPlan_sp), (5, PlanSize_sp), (6, toPlan_sp), (7, toIntS_sp), (8, iPlanSize_sp), (9, eqPlan_sp), (10, eqIntS_sp)])) hC.ty (by kernel_rfl) ?_
 intro (aP : Pln) (aWidths : List Int) hwf hpre E
 have hpre : True := hpre
 have hw_aP : Wf ⟨(.named 2), (aP : Pln)⟩ := hwf _ (List.Mem.head _)
 obtain ⟨hr_aP_Kind, hr_aP_Table, hl_aP_Exprs, hl_aP_Cols, hl_aP_Kids⟩ := Pln.wfl hw_aP
 have hw_aWidths : Wf ⟨(.slice (.int .i64)), (aWidths : List Int)⟩ := hwf _ (List.Mem.tail _ (List.Mem.head _))
 have hl_aWidths : ((List.length aWidths : Nat) : Int) ≤ 9223372036854775807 := hw_aWidths.len
 have e0 : FnExactPlanSize aP aWidths = FnExactPlanSize aP aWidths := rfl
 refine AW.seq (AW.r1 hC [1, 2] [8] ⟨[(1, sD9 aWidths), (2, .ref 8 1 0)], [(8, .box 1 [sI (Pln.Kind aP), sI (Pln.Table aP), sD10 (Pln.Exprs aP), sD9 (Pln.Cols aP), sD11 (Pln.Kids aP)])]⟩ ?_)
 refine AW.seq (AW.seq (AW.r1 hC [1, 2, 12] [8] ⟨[(1, sD9 aWidths), (2, .ref 8 1 0), (12, sB (decide (1048576 < ((List.length aWidths : Nat) : Int))))], [(8, .box 1 [sI (Pln.Kind aP), sI (Pln.Table aP), sD10 (Pln.Exprs aP), sD9 (Pln.Cols aP), sD11 (Pln.Kids aP)])]⟩ ?_))
 refine AW.cd (decide (1048576 < ((List.length aWidths : Nat) : Int))) ?_ ?_
 ·
  intro h1
  have h1q := (of_decide_eq_true h1)
  have e2 := e0.trans (Go.Am.bif_t h1)
  refine AW.seq (AW.r1 hC [4] [] ⟨[(4, sB true)], []⟩ ?_)
  exact AW.ret (AW.rB true e2)
 ·
  intro h3
  have h3q := (of_decide_eq_false h3)
  have e4 := e0.trans (Go.Am.bif_f h3)
  refine AW.kp [1, 2] [8] ⟨[(1, sD9 aWidths), (2, .ref 8 1 0)], [(8, .box 1 [sI (Pln.Kind aP), sI (Pln.Table aP), sD10 (Pln.Exprs aP), sD9 (Pln.Cols aP), sD11 (Pln.Kids aP)])]⟩ ?_
  refine AW.skip (AW.seq (AW.r1 hC [1, 2, 5] [8] ⟨[(1, sD9 aWidths), (2, .ref 8 1 0), (5, sI 1048576)], [(8, .box 1 [sI (Pln.Kind aP), sI (Pln.Table aP), sD10 (Pln.Exprs aP), sD9 (Pln.Cols aP), sD11 (Pln.Kids aP)])]⟩ ?_))
  refine AW.seq (AW.r0 hC [1, 2, 5] [8] ⟨[(1, sD9 aWidths), (2, .ref 8 1 0), (5, sI (szPlan (Pln.mk (Pln.Kind aP) (Pln.Table aP) (Pln.Exprs aP) (Pln.Cols aP) (Pln.Kids aP)) 1048576))], [(8, .box 1 [sI (Pln.Kind aP), sI (Pln.Table aP), sD10 (Pln.Exprs aP), sD9 (Pln.Cols aP), sD11 (Pln.Kids aP)])]⟩ [(0 ≤ (1048576 : Int))] ?_ ?_)
  ·
   refine ⟨?_, trivial⟩
   ·
    first | omega | assumption
  refine AW.seq (AW.seq (AW.r1 hC [1, 2, 17] [8] ⟨[(1, sD9 aWidths), (2, .ref 8 1 0), (17, sB (decide ((szPlan (Pln.mk (Pln.Kind aP) (Pln.Table aP) (Pln.Exprs aP) (Pln.Cols aP) (Pln.Kids aP)) 1048576) < 0)))], [(8, .box 1 [sI (Pln.Kind aP), sI (Pln.Table aP), sD10 (Pln.Exprs aP), sD9 (Pln.Cols aP), sD11 (Pln.Kids aP)])]⟩ ?_))
  refine AW.cd (decide ((szPlan (Pln.mk (Pln.Kind aP) (Pln.Table aP) (Pln.Exprs aP) (Pln.Cols aP) (Pln.Kids aP)) 1048576) < 0)) ?_ ?_
  ·
   intro h5
   have h5q := (of_decide_eq_true h5)
   have e6 := e4.trans (Go.Am.bif_t h5)
   refine AW.seq (AW.r1 hC [4] [] ⟨[(4, sB true)], []⟩ ?_)
   exact AW.ret (AW.rB true e6)
  ·
   intro h7
   have h7q := (of_decide_eq_false h7)
   have e8 := e4.trans (Go.Am.bif_f h7)
   refine AW.kp [1, 2] [8] ⟨[(1, sD9 aWidths), (2, .ref 8 1 0)], [(8, .box 1 [sI (Pln.Kind aP), sI (Pln.Table aP), sD10 (Pln.Exprs aP), sD9 (Pln.Cols aP), sD11 (Pln.Kids aP)])]⟩ ?_
   refine AW.skip (AW.seq (AW.r0 hC [1, 2, 6] [8] ⟨[(1, sD9 aWidths), (2, .ref 8 1 0), (6, sI (PlanSize (toPlan (Pln.mk (Pln.Kind aP) (Pln.Table aP) (Pln.Exprs aP) (Pln.Cols aP) (Pln.Kids aP))) (toIntS aWidths)))], [(8, .box 1 [sI (Pln.Kind aP), sI (Pln.Table aP), sD10 (Pln.Exprs aP), sD9 (Pln.Cols aP), sD11 (Pln.Kids aP)])]⟩ [(FitsP (Pln.mk (Pln.Kind aP) (Pln.Table aP) (Pln.Exprs aP) (Pln.Cols aP) (Pln.Kids aP))), ((List.length aWidths : Int) ≤ 1048576), (True)] ?_ ?_))
   ·
    refine ⟨?_, ?_, ?_, trivial⟩
    ·
     exact FitsP.of (l := 1048576) ⟨by decide, by decide⟩ (by first | exact h7q | exact h3q | exact trivial | exact trivial)
    ·
     first | omega | assumption
    ·
     trivial
   refine AW.seq (AW.r0 hC [1, 2, 6, 7] [8, 28] ⟨[(1, sD9 aWidths), (2, .ref 8 1 0), (6, sI (PlanSize (toPlan (Pln.mk (Pln.Kind aP) (Pln.Table aP) (Pln.Exprs aP) (Pln.Cols aP) (Pln.Kids aP))) (toIntS aWidths))), (7, .ref 28 1 0)], [(8, .box 1 [sI (Pln.Kind aP), sI (Pln.Table aP), sD10 (Pln.Exprs aP), sD9 (Pln.Cols aP), sD11 (Pln.Kids aP)]), (28, .box 1 [sI (Pln.Kind (toPlan (Pln.mk (Pln.Kind aP) (Pln.Table aP) (Pln.Exprs aP) (Pln.Cols aP) (Pln.Kids aP)))), sI (Pln.Table (toPlan (Pln.mk (Pln.Kind aP) (Pln.Table aP) (Pln.Exprs aP) (Pln.Cols aP) (Pln.Kids aP)))), sD10 (Pln.Exprs (toPlan (Pln.mk (Pln.Kind aP) (Pln.Table aP) (Pln.Exprs aP) (Pln.Cols aP) (Pln.Kids aP)))), sD9 (Pln.Cols (toPlan (Pln.mk (Pln.Kind aP) (Pln.Table aP) (Pln.Exprs aP) (Pln.Cols aP) (Pln.Kids aP)))), sD11 (Pln.Kids (toPlan (Pln.mk (Pln.Kind aP) (Pln.Table aP) (Pln.Exprs aP) (Pln.Cols aP) (Pln.Kids aP))))])]⟩ [(FitsP (Pln.mk (Pln.Kind aP) (Pln.Table aP) (Pln.Exprs aP) (Pln.Cols aP) (Pln.Kids aP)))] ?_ ?_)
   ·
    refine ⟨?_, trivial⟩
    ·
     exact FitsP.of (l := 1048576) ⟨by decide, by decide⟩ (by first | exact h7q | exact h3q | exact trivial | exact trivial)
   refine AW.seq (AW.r0 hC [1, 2, 6, 7, 8] [8, 28, 104] ⟨[(1, sD9 aWidths), (2, .ref 8 1 0), (6, sI (PlanSize (toPlan (Pln.mk (Pln.Kind aP) (Pln.Table aP) (Pln.Exprs aP) (Pln.Cols aP) (Pln.Kids aP))) (toIntS aWidths))), (7, .ref 28 1 0), (8, .arr 104 1)], [(8, .box 1 [sI (Pln.Kind aP), sI (Pln.Table aP), sD10 (Pln.Exprs aP), sD9 (Pln.Cols aP), sD11 (Pln.Kids aP)]), (28, .box 1 [sI (Pln.Kind (toPlan (Pln.mk (Pln.Kind aP) (Pln.Table aP) (Pln.Exprs aP) (Pln.Cols aP) (Pln.Kids aP)))), sI (Pln.Table (toPlan (Pln.mk (Pln.Kind aP) (Pln.Table aP) (Pln.Exprs aP) (Pln.Cols aP) (Pln.Kids aP)))), sD10 (Pln.Exprs (toPlan (Pln.mk (Pln.Kind aP) (Pln.Table aP) (Pln.Exprs aP) (Pln.Cols aP) (Pln.Kids aP)))), sD9 (Pln.Cols (toPlan (Pln.mk (Pln.Kind aP) (Pln.Table aP) (Pln.Exprs aP) (Pln.Cols aP) (Pln.Kids aP)))), sD11 (Pln.Kids (toPlan (Pln.mk (Pln.Kind aP) (Pln.Table aP) (Pln.Exprs aP) (Pln.Cols aP) (Pln.Kids aP))))]), (104, .arr 1 (.int .i64) ((toIntS aWidths) : List Int))]⟩ [((List.length aWidths : Int) ≤ 1048576)] ?_ ?_)
   ·
    refine ⟨?_, trivial⟩
    ·
     first | omega | assumption
   refine AW.seq (AW.r0 hC [1, 2, 6, 7, 8, 9] [8, 28, 104] ⟨[(1, sD9 aWidths), (2, .ref 8 1 0), (6, sI (PlanSize (toPlan (Pln.mk (Pln.Kind aP) (Pln.Table aP) (Pln.Exprs aP) (Pln.Cols aP) (Pln.Kids aP))) (toIntS aWidths))), (7, .ref 28 1 0), (8, .arr 104 1), (9, sI (iPlanSize (Pln.mk (Pln.Kind (toPlan (Pln.mk (Pln.Kind aP) (Pln.Table aP) (Pln.Exprs aP) (Pln.Cols aP) (Pln.Kids aP)))) (Pln.Table (toPlan (Pln.mk (Pln.Kind aP) (Pln.Table aP) (Pln.Exprs aP) (Pln.Cols aP) (Pln.Kids aP)))) (Pln.Exprs (toPlan (Pln.mk (Pln.Kind aP) (Pln.Table aP) (Pln.Exprs aP) (Pln.Cols aP) (Pln.Kids aP)))) (Pln.Cols (toPlan (Pln.mk (Pln.Kind aP) (Pln.Table aP) (Pln.Exprs aP) (Pln.Cols aP) (Pln.Kids aP)))) (Pln.Kids (toPlan (Pln.mk (Pln.Kind aP) (Pln.Table aP) (Pln.Exprs aP) (Pln.Cols aP) (Pln.Kids aP))))) (toIntS aWidths)))], [(8, .box 1 [sI (Pln.Kind aP), sI (Pln.Table aP), sD10 (Pln.Exprs aP), sD9 (Pln.Cols aP), sD11 (Pln.Kids aP)]), (28, .box 1 [sI (Pln.Kind (toPlan (Pln.mk (Pln.Kind aP) (Pln.Table aP) (Pln.Exprs aP) (Pln.Cols aP) (Pln.Kids aP)))), sI (Pln.Table (toPlan (Pln.mk (Pln.Kind aP) (Pln.Table aP) (Pln.Exprs aP) (Pln.Cols aP) (Pln.Kids aP)))), sD10 (Pln.Exprs (toPlan (Pln.mk (Pln.Kind aP) (Pln.Table aP) (Pln.Exprs aP) (Pln.Cols aP) (Pln.Kids aP)))), sD9 (Pln.Cols (toPlan (Pln.mk (Pln.Kind aP) (Pln.Table aP) (Pln.Exprs aP) (Pln.Cols aP) (Pln.Kids aP)))), sD11 (Pln.Kids (toPlan (Pln.mk (Pln.Kind aP) (Pln.Table aP) (Pln.Exprs aP) (Pln.Cols aP) (Pln.Kids aP))))]), (104, .arr 1 (.int .i64) ((toIntS aWidths) : List Int))]⟩ [(True)] ?_ ?_)
   ·
    refine ⟨?_, trivial⟩
    ·
     trivial
   refine AW.seq (AW.seq (AW.r1 hC [1, 2, 7, 8, 32] [8, 28, 104] ⟨[(1, sD9 aWidths), (2, .ref 8 1 0), (7, .ref 28 1 0), (8, .arr 104 1), (32, sB ((iPlanSize (Pln.mk (Pln.Kind (toPlan (Pln.mk (Pln.Kind aP) (Pln.Table aP) (Pln.Exprs aP) (Pln.Cols aP) (Pln.Kids aP)))) (Pln.Table (toPlan (Pln.mk (Pln.Kind aP) (Pln.Table aP) (Pln.Exprs aP) (Pln.Cols aP) (Pln.Kids aP)))) (Pln.Exprs (toPlan (Pln.mk (Pln.Kind aP) (Pln.Table aP) (Pln.Exprs aP) (Pln.Cols aP) (Pln.Kids aP)))) (Pln.Cols (toPlan (Pln.mk (Pln.Kind aP) (Pln.Table aP) (Pln.Exprs aP) (Pln.Cols aP) (Pln.Kids aP)))) (Pln.Kids (toPlan (Pln.mk (Pln.Kind aP) (Pln.Table aP) (Pln.Exprs aP) (Pln.Cols aP) (Pln.Kids aP))))) (toIntS aWidths)) != (PlanSize (toPlan (Pln.mk (Pln.Kind aP) (Pln.Table aP) (Pln.Exprs aP) (Pln.Cols aP) (Pln.Kids aP))) (toIntS aWidths))))], [(8, .box 1 [sI (Pln.Kind aP), sI (Pln.Table aP), sD10 (Pln.Exprs aP), sD9 (Pln.Cols aP), sD11 (Pln.Kids aP)]), (28, .box 1 [sI (Pln.Kind (toPlan (Pln.mk (Pln.Kind aP) (Pln.Table aP) (Pln.Exprs aP) (Pln.Cols aP) (Pln.Kids aP)))), sI (Pln.Table (toPlan (Pln.mk (Pln.Kind aP) (Pln.Table aP) (Pln.Exprs aP) (Pln.Cols aP) (Pln.Kids aP)))), sD10 (Pln.Exprs (toPlan (Pln.mk (Pln.Kind aP) (Pln.Table aP) (Pln.Exprs aP) (Pln.Cols aP) (Pln.Kids aP)))), sD9 (Pln.Cols (toPlan (Pln.mk (Pln.Kind aP) (Pln.Table aP) (Pln.Exprs aP) (Pln.Cols aP) (Pln.Kids aP)))), sD11 (Pln.Kids (toPlan (Pln.mk (Pln.Kind aP) (Pln.Table aP) (Pln.Exprs aP) (Pln.Cols aP) (Pln.Kids aP))))]), (104, .arr 1 (.int .i64) ((toIntS aWidths) : List Int))]⟩ ?_))
   refine AW.cd ((iPlanSize (Pln.mk (Pln.Kind (toPlan (Pln.mk (Pln.Kind aP) (Pln.Table aP) (Pln.Exprs aP) (Pln.Cols aP) (Pln.Kids aP)))) (Pln.Table (toPlan (Pln.mk (Pln.Kind aP) (Pln.Table aP) (Pln.Exprs aP) (Pln.Cols aP) (Pln.Kids aP)))) (Pln.Exprs (toPlan (Pln.mk (Pln.Kind aP) (Pln.Table aP) (Pln.Exprs aP) (Pln.Cols aP) (Pln.Kids aP)))) (Pln.Cols (toPlan (Pln.mk (Pln.Kind aP) (Pln.Table aP) (Pln.Exprs aP) (Pln.Cols aP) (Pln.Kids aP)))) (Pln.Kids (toPlan (Pln.mk (Pln.Kind aP) (Pln.Table aP) (Pln.Exprs aP) (Pln.Cols aP) (Pln.Kids aP))))) (toIntS aWidths)) != (PlanSize (toPlan (Pln.mk (Pln.Kind aP) (Pln.Table aP) (Pln.Exprs aP) (Pln.Cols aP) (Pln.Kids aP))) (toIntS aWidths))) ?_ ?_
   ·
    intro h9
    have h9q := (Go.Am.bne_pos h9)
    have e10 := e8.trans (Go.Am.bif_t h9)
    refine AW.seq (AW.r1 hC [4] [] ⟨[(4, sB false)], []⟩ ?_)
    exact AW.ret (AW.rB false e10)
   ·
    intro h11
    have h11q := (Go.Am.bne_neg h11)
    have e12 := e8.trans (Go.Am.bif_f h11)
    refine AW.kp [1, 2, 7, 8] [8, 28, 104] ⟨[(1, sD9 aWidths), (2, .ref 8 1 0), (7, .ref 28 1 0), (8, .arr 104 1)], [(8, .box 1 [sI (Pln.Kind aP), sI (Pln.Table aP), sD10 (Pln.Exprs aP), sD9 (Pln.Cols aP), sD11 (Pln.Kids aP)]), (28, .box 1 [sI (Pln.Kind (toPlan (Pln.mk (Pln.Kind aP) (Pln.Table aP) (Pln.Exprs aP) (Pln.Cols aP) (Pln.Kids aP)))), sI (Pln.Table (toPlan (Pln.mk (Pln.Kind aP) (Pln.Table aP) (Pln.Exprs aP) (Pln.Cols aP) (Pln.Kids aP)))), sD10 (Pln.Exprs (toPlan (Pln.mk (Pln.Kind aP) (Pln.Table aP) (Pln.Exprs aP) (Pln.Cols aP) (Pln.Kids aP)))), sD9 (Pln.Cols (toPlan (Pln.mk (Pln.Kind aP) (Pln.Table aP) (Pln.Exprs aP) (Pln.Cols aP) (Pln.Kids aP)))), sD11 (Pln.Kids (toPlan (Pln.mk (Pln.Kind aP) (Pln.Table aP) (Pln.Exprs aP) (Pln.Cols aP) (Pln.Kids aP))))]), (104, .arr 1 (.int .i64) ((toIntS aWidths) : List Int))]⟩ ?_
    refine AW.skip (AW.seq (AW.seq (AW.d0 hC hM [1, 8, 37] [104] ⟨[(1, sD9 aWidths), (8, .arr 104 1), (37, sB (!(eqPlan (Pln.mk (Pln.Kind (toPlan (Pln.mk (Pln.Kind aP) (Pln.Table aP) (Pln.Exprs aP) (Pln.Cols aP) (Pln.Kids aP)))) (Pln.Table (toPlan (Pln.mk (Pln.Kind aP) (Pln.Table aP) (Pln.Exprs aP) (Pln.Cols aP) (Pln.Kids aP)))) (Pln.Exprs (toPlan (Pln.mk (Pln.Kind aP) (Pln.Table aP) (Pln.Exprs aP) (Pln.Cols aP) (Pln.Kids aP)))) (Pln.Cols (toPlan (Pln.mk (Pln.Kind aP) (Pln.Table aP) (Pln.Exprs aP) (Pln.Cols aP) (Pln.Kids aP)))) (Pln.Kids (toPlan (Pln.mk (Pln.Kind aP) (Pln.Table aP) (Pln.Exprs aP) (Pln.Cols aP) (Pln.Kids aP))))) (toPlan (Pln.mk (Pln.Kind aP) (Pln.Table aP) (Pln.Exprs aP) (Pln.Cols aP) (Pln.Kids aP))))))], [(104, .arr 1 (.int .i64) ((toIntS aWidths) : List Int))]⟩ [(FitsP (Pln.mk (Pln.Kind aP) (Pln.Table aP) (Pln.Exprs aP) (Pln.Cols aP) (Pln.Kids aP))), (True)] ?_ ?_)))
    ·
     refine ⟨?_, ?_, trivial⟩
     ·
      exact FitsP.of (l := 1048576) ⟨by decide, by decide⟩ (by first | exact h11q | exact h7q | exact h3q | exact trivial)
     ·
      trivial
    refine AW.cd (!(eqPlan (Pln.mk (Pln.Kind (toPlan (Pln.mk (Pln.Kind aP) (Pln.Table aP) (Pln.Exprs aP) (Pln.Cols aP) (Pln.Kids aP)))) (Pln.Table (toPlan (Pln.mk (Pln.Kind aP) (Pln.Table aP) (Pln.Exprs aP) (Pln.Cols aP) (Pln.Kids aP)))) (Pln.Exprs (toPlan (Pln.mk (Pln.Kind aP) (Pln.Table aP) (Pln.Exprs aP) (Pln.Cols aP) (Pln.Kids aP)))) (Pln.Cols (toPlan (Pln.mk (Pln.Kind aP) (Pln.Table aP) (Pln.Exprs aP) (Pln.Cols aP) (Pln.Kids aP)))) (Pln.Kids (toPlan (Pln.mk (Pln.Kind aP) (Pln.Table aP) (Pln.Exprs aP) (Pln.Cols aP) (Pln.Kids aP))))) (toPlan (Pln.mk (Pln.Kind aP) (Pln.Table aP) (Pln.Exprs aP) (Pln.Cols aP) (Pln.Kids aP))))) ?_ ?_
    ·
     intro h13
     have h13q := (Go.Am.not_pos h13)
     have e14 := e12.trans (Go.Am.bif_t h13)
     refine AW.seq (AW.r1 hC [4] [] ⟨[(4, sB false)], []⟩ ?_)
     exact AW.ret (AW.rB false e14)
    ·
     intro h15
     have h15q := (Go.Am.not_neg h15)
     have e16 := e12.trans (Go.Am.bif_f h15)
     refine AW.kp [1, 8] [104] ⟨[(1, sD9 aWidths), (8, .arr 104 1)], [(104, .arr 1 (.int .i64) ((toIntS aWidths) : List Int))]⟩ ?_
     refine AW.skip (AW.seq (AW.seq (AW.r0 hC [42] [] ⟨[(42, sB (!(eqIntS (toIntS aWidths) (toIntS aWidths))))], []⟩ [((List.length aWidths : Int) ≤ 1048576), (True)] ?_ ?_)))
     ·
      refine ⟨?_, ?_, trivial⟩
      ·
       first | omega | assumption
      ·
       trivial
     refine AW.cd (!(eqIntS (toIntS aWidths) (toIntS aWidths))) ?_ ?_
     ·
      intro h17
      have h17q := (Go.Am.not_pos h17)
      have e18 := e16.trans (Go.Am.bif_t h17)
      refine AW.seq (AW.r1 hC [4] [] ⟨[(4, sB false)], []⟩ ?_)
      exact AW.ret (AW.rB false e18)
     ·
      intro h19
      have h19q := (Go.Am.not_neg h19)
      have e20 := e16.trans (Go.Am.bif_f h19)
      refine AW.kp [] [] ⟨[], []⟩ ?_
      refine AW.skip (AW.seq (AW.r1 hC [4] [] ⟨[(4, sB true)], []⟩ ?_))
      exact AW.ret (AW.rB true e20)

end
end Go.Proofs.Ytbcgmoaipneoeaa
