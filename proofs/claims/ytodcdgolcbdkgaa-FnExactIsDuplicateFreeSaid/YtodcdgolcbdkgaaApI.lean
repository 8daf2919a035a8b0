/-
  A part of the proof of this claim (ApI): what functions of the program compute, and plain facts of that. No conditions.
-/
import Derived.Test.YtodcdgolcbdkgaaApH
set_option linter.all false
namespace Go.Proofs.Ytodcdgolcbdkgaa
open Go Go.Am
noncomputable section

theorem eqExprS_self (a : List Xpr) : eqExprS a a = true := by
 unfold eqExprS
 simp only [bne_self_eq_false, cond_false]
 rcases all_loop (eqExprS_l0 a a) a.length (fun i => !(eqExpr (List.getD a i Xpr.zero) (List.getD a i Xpr.zero))) (fun k i => rfl) (a.length - 0 + 1) 0 (by omega) with ⟨h1, _⟩ | ⟨_, j, _, hj, h2⟩
 ·
  rw [h1]; rfl
 ·
  rw [eqExpr_self] at h2
  cases h2

theorem eqPlan_refl : ∀ (f : Nat) (a : Pln), SizeOf.sizeOf a < f → eqPlan_r f a a = true := by
 intro f
 induction f with
 | zero => intro a h; omega
 | succ f ih =>
  intro a h
  have hc : eqPlan_c0 (eqPlan_r f) a a = true := by
   unfold eqPlan_c0
   simp only [bne_self_eq_false, cond_false]
   rcases all_loop (eqPlan_l0 (eqPlan_r f) a a) a.Kids.length (fun i => !(eqPlan_r f (List.getD a.Kids i Pln.zero) (List.getD a.Kids i Pln.zero))) (fun k i => rfl) (a.Kids.length - 0 + 1) 0 (by omega) with ⟨h1, _⟩ | ⟨_, j, _, hj, h2⟩
   ·
    rw [h1]; rfl
   ·
    have := pkid_lt (t := a) hj
    rw [ih _ (by omega)] at h2
    cases h2
  unfold eqPlan_r
  simp only [bne_self_eq_false, cond_false, Go.Am.andThen, hc, eqExprS_self, eqIntS_self, Bool.not_true]

theorem eqPlan_self (a : Pln) : eqPlan a a = true := eqPlan_refl _ a (Nat.lt_succ_self _)

/-- What a width other than 0 says. -/
structure WF (f : Nat) (p : Pln) (ws : List Int) (l : Int) : Prop where
 of : OF p
 scan : p.Kind = 1 → (0 ≤ p.Table ∧ p.Table < ((ws.length : Nat) : Int)) ∧ widthBelow_r (f + 1) p ws l = ws.getD p.Table.toNat 0
 deep : 0 < p.Kids.length → l ≠ 0
 proj : p.Kind = 3 → 1 ≤ ((p.Exprs.length : Nat) : Int) ∧ ((p.Exprs.length : Nat) : Int) ≤ 6
 kids : ∀ i, i < p.Kids.length → widthBelow_r f (p.Kids.getD i Pln.zero) ws (l - 1) ≠ 0
 one : p.Kids.length = 1 → widthBelow_r (f + 1) p ws l = widthOver p (widthBelow_r f (p.Kids.getD 0 Pln.zero) ws (l - 1)) 0
 two : p.Kids.length = 2 → widthBelow_r (f + 1) p ws l = widthOver p (widthBelow_r f (p.Kids.getD 0 Pln.zero) ws (l - 1)) (widthBelow_r f (p.Kids.getD 1 Pln.zero) ws (l - 1))

theorem wb_facts {f : Nat} {p : Pln} {ws : List Int} {l : Int} (h : widthBelow_r (f + 1) p ws l ≠ 0) : WF f p ws l := by
 have hpc := parts2 (Pln.Kind p)
 have e : widthBelow_r (f + 1) p ws l = widthBelow_r (f + 1) p ws l := rfl
 conv at e => rhs; unfold widthBelow_r
 simp only [Go.Am.andThen] at e
 cases hA : (bif (bif (((List.length (Pln.Kids p) : Nat) : Int) != ((partsOfKind (Pln.Kind p)).2)) then true else (((List.length (Pln.Exprs p) : Nat) : Int) != widthBelow_j0 p)) then true else (bif (decide (0 < ((partsOfKind (Pln.Kind p)).2))) then (l == 0) else false)) with
 | true => rw [hA, cond_true] at e; exact absurd e h
 | false =>
  rw [hA, cond_false] at e
  cases hB : (bif (bif ((Pln.Kind p) != 1) then ((Pln.Table p) != 0) else false) then true else (bif ((Pln.Kind p) != 8) then (((List.length (Pln.Cols p) : Nat) : Int) != 0) else false)) with
  | true => rw [hB, cond_true] at e; exact absurd e h
  | false =>
   rw [hB, cond_false] at e
   have hA' := or_neg (or_neg hA).1
   have k1 := bne_neg hA'.1
   have k2 := bne_neg hA'.2
   have hl : 0 < p.Kids.length → l ≠ 0 := fun h0 => by
    have := (or_neg hA).2
    rw [decide_eq_true (show 0 < (partsOfKind p.Kind).2 by omega), cond_true] at this
    exact beq_neg this
   have hB := or_neg hB
   have j0 : p.Kind ≠ 3 → widthBelow_j0 p = (partsOfKind p.Kind).1 := fun h => by
    unfold widthBelow_j0
    rw [show (p.Kind == 3) = false by simp [h]]
    rfl
   have hO : OF p := by
    refine ⟨by omega, k1, fun h => by rw [← j0 h]; exact k2, fun h => ?_, fun h => ?_⟩
    ·
     have := hB.1
     rw [show (p.Kind != 1) = true by simp [h], cond_true] at this
     exact bne_neg this
    ·
     have := hB.2
     rw [show (p.Kind != 8) = true by simp [h], cond_true] at this
     have := bne_neg this
     omega
   have h3 : p.Kind = 3 → 1 ≤ ((p.Exprs.length : Nat) : Int) ∧ ((p.Exprs.length : Nat) : Int) ≤ 6 := fun h3 => by
    unfold widthBelow_j0 at k2
    rw [h3] at k2
    simp only [Int.reduceBEq, cond_true] at k2
    cases hv : validWidth ((List.length p.Exprs : Nat) : Int) with
    | true => exact validWidth_iff.1 hv
    | false =>
     rw [hv, cond_false] at k2
     have : (partsOfKind 3).1 = 1 := by decide
     omega
   by_cases h1 : p.Kind = 1
   ·
    rw [show (p.Kind == 1) = true by simp [h1], cond_true] at e
    have ht : 0 ≤ p.Table ∧ p.Table < ((ws.length : Nat) : Int) := by
     refine Decidable.byContradiction fun hn => h ?_
     have d : (bif decide (p.Table < 0) then true else decide (((ws.length : Nat) : Int) ≤ p.Table)) = true := by
      by_cases h : p.Table < 0
      ·
       rw [decide_eq_true h]; rfl
      ·
       rw [decide_eq_false h, decide_eq_true (show ((ws.length : Nat) : Int) ≤ p.Table by omega)]; rfl
     rw [d, cond_true] at e
     exact e
    rw [decide_eq_false (show ¬ p.Table < 0 by omega), decide_eq_false (show ¬ ((ws.length : Nat) : Int) ≤ p.Table by omega)] at e
    exact ⟨hO, fun _ => ⟨ht, e⟩, hl, h3, fun i hi => by omega, fun _ => by omega, fun _ => by omega⟩
   ·
    rw [show (p.Kind == 1) = false by simp [h1], cond_false] at e
    by_cases h2 : p.Kids.length = 2
    ·
     rw [wb2 _ _ _ _ h2] at e
     by_cases ha : widthBelow_r f (p.Kids.getD 0 Pln.zero) ws (l - 1) = 0
     ·
      rw [ha] at e
      exact absurd e h
     ·
      rw [show (widthBelow_r f (p.Kids.getD 0 Pln.zero) ws (l - 1) == 0) = false from beq_false_of_ne ha, cond_false] at e
      by_cases hb : widthBelow_r f (p.Kids.getD 1 Pln.zero) ws (l - 1) = 0
      ·
       rw [hb] at e
       exact absurd e h
      ·
       rw [show (widthBelow_r f (p.Kids.getD 1 Pln.zero) ws (l - 1) == 0) = false from beq_false_of_ne hb, cond_false] at e
       refine ⟨hO, fun h => absurd h h1, hl, h3, fun i hi => ?_, fun _ => by omega, fun _ => e⟩
       rcases Nat.lt_or_ge i 1 with hi1 | hi1
       ·
        rw [show i = 0 by omega]; exact ha
       ·
        rw [show i = 1 by omega]; exact hb
    ·
     have hn : p.Kids.length = 1 := by omega
     rw [wb1 _ _ _ _ hn] at e
     by_cases ha : widthBelow_r f (p.Kids.getD 0 Pln.zero) ws (l - 1) = 0
     ·
      rw [ha] at e
      exact absurd e h
     ·
      rw [show (widthBelow_r f (p.Kids.getD 0 Pln.zero) ws (l - 1) == 0) = false from beq_false_of_ne ha, cond_false] at e
      refine ⟨hO, fun h => absurd h h1, hl, h3, fun i hi => ?_, fun _ => e, fun h => absurd h h2⟩
      rw [show i = 0 by omega]; exact ha

/-- A plan that is valid for n tables. -/
def PVn (n : Nat) (p : Pln) : Prop := ∃ ws f l, List.length ws = n ∧ SizeOf.sizeOf p < f ∧ widthBelow_r f p ws l ≠ 0

theorem PVn.of {n : Nat} {p : Pln} (h : PVn n p) : OF p ∧ (p.Kind = 1 → 0 ≤ p.Table ∧ p.Table < ((n : Nat) : Int)) ∧ (p.Kind = 3 → 1 ≤ ((p.Exprs.length : Nat) : Int)) := by
 obtain ⟨ws, f, l, h1, h2, h3⟩ := h
 cases f with
 | zero => omega
 | succ f =>
  have hw := wb_facts h3
  exact ⟨hw.of, fun h => by rw [← h1]; exact (hw.scan h).1, fun h => (hw.proj h).1⟩

theorem PVn.kid {n : Nat} {p : Pln} (h : PVn n p) {i : Nat} (hi : i < p.Kids.length) : PVn n (p.Kids.getD i Pln.zero) := by
 obtain ⟨ws, f, l, h1, h2, h3⟩ := h
 cases f with
 | zero => omega
 | succ f =>
  have hw := wb_facts h3
  have := pkid_lt hi
  exact ⟨ws, f, l - 1, h1, by omega, hw.kids i hi⟩

theorem PVn.mk' {p : Pln} {ws : List Int} (h : PlanWidth p ws ≠ 0) : PVn ws.length p := by
 rw [← PlanWidth_same] at h
 unfold iPlanWidth at h
 rw [Pln.eta] at h
 cases hv : ivalidWidths ws with
 | false => rw [hv] at h; exact absurd rfl h
 | true =>
  rw [hv] at h
  exact ⟨ws, _, 8, rfl, Nat.lt_succ_self _, h⟩

def FnExactPlanWidth (aP : Pln) (aWidths : List Int) : Bool := (bif (decide (1048576 < ((List.length aWidths : Nat) : Int))) then true else (bif (decide ((szPlan (Pln.mk (Pln.Kind aP) (Pln.Table aP) (Pln.Exprs aP) (Pln.Cols aP) (Pln.Kids aP)) 1048576) < 0)) then true else (bif ((iPlanWidth (Pln.mk (Pln.Kind (toPlan (Pln.mk (Pln.Kind aP) (Pln.Table aP) (Pln.Exprs aP) (Pln.Cols aP) (Pln.Kids aP)))) (Pln.Table (toPlan (Pln.mk (Pln.Kind aP) (Pln.Table aP) (Pln.Exprs aP) (Pln.Cols aP) (Pln.Kids aP)))) (Pln.Exprs (toPlan (Pln.mk (Pln.Kind aP) (Pln.Table aP) (Pln.Exprs aP) (Pln.Cols aP) (Pln.Kids aP)))) (Pln.Cols (toPlan (Pln.mk (Pln.Kind aP) (Pln.Table aP) (Pln.Exprs aP) (Pln.Cols aP) (Pln.Kids aP)))) (Pln.Kids (toPlan (Pln.mk (Pln.Kind aP) (Pln.Table aP) (Pln.Exprs aP) (Pln.Cols aP) (Pln.Kids aP))))) (toIntS aWidths)) != (PlanWidth (toPlan (Pln.mk (Pln.Kind aP) (Pln.Table aP) (Pln.Exprs aP) (Pln.Cols aP) (Pln.Kids aP))) (toIntS aWidths))) then false else (bif (!(eqPlan (Pln.mk (Pln.Kind (toPlan (Pln.mk (Pln.Kind aP) (Pln.Table aP) (Pln.Exprs aP) (Pln.Cols aP) (Pln.Kids aP)))) (Pln.Table (toPlan (Pln.mk (Pln.Kind aP) (Pln.Table aP) (Pln.Exprs aP) (Pln.Cols aP) (Pln.Kids aP)))) (Pln.Exprs (toPlan (Pln.mk (Pln.Kind aP) (Pln.Table aP) (Pln.Exprs aP) (Pln.Cols aP) (Pln.Kids aP)))) (Pln.Cols (toPlan (Pln.mk (Pln.Kind aP) (Pln.Table aP) (Pln.Exprs aP) (Pln.Cols aP) (Pln.Kids aP)))) (Pln.Kids (toPlan (Pln.mk (Pln.Kind aP) (Pln.Table aP) (Pln.Exprs aP) (Pln.Cols aP) (Pln.Kids aP))))) (toPlan (Pln.mk (Pln.Kind aP) (Pln.Table aP) (Pln.Exprs aP) (Pln.Cols aP) (Pln.Kids aP))))) then false else (bif (!(eqIntS (toIntS aWidths) (toIntS aWidths))) then false else true)))))

def FnExactPlanWidth_sp : FnSpec := mkSpec [.val (.named 2), .val (.slice (.int .i64))] [.val .bool] (fun (aP : Pln) (aWidths : List Int) => True) (fun (aP : Pln) (aWidths : List Int) => [⟨.bool, (FnExactPlanWidth aP aWidths)⟩])

theorem FnExactPlanWidth_ok : FnOK Try.prog 11 FnExactPlanWidth_sp := by
 have hC : CtxOK Try.prog (mkCtx tyL [(15, szPlan_sp), (18, toPlan_sp), (21, eqPlan_sp), (30, toIntS_sp), (34, eqIntS_sp), (53, PlanWidth_sp), (54, iPlanWidth_sp)]) := CtxOK.cons szPlan_ok (CtxOK.cons toPlan_ok (CtxOK.cons eqPlan_ok (CtxOK.cons toIntS_ok (CtxOK.cons eqIntS_ok (CtxOK.cons PlanWidth_ok (CtxOK.cons iPlanWidth_ok (CtxOK.nil tyOK)))))))
 have hM : Try.prog.follows .mixedOrders = true := Try.checked.mixed
 refine FnOK.of_body Try.func11 (by kernel_rfl) rfl (C := (mkCtx tyL [(15, szPlan_sp), (18, toPlan_sp), (21, eqPlan_sp), (30, toIntS_sp), (34, eqIntS_sp), (53, PlanWidth_sp), (54, iPlanWidth_sp)])) hC.ty (by kernel_rfl) ?_
 intro (aP : Pln) (aWidths : List Int) hwf hpre E
 have hpre : True := hpre
 have hw_aP : Wf ⟨(.named 2), (aP : Pln)⟩ := hwf _ (List.Mem.head _)
 have hr_aP_Kind : -9223372036854775808 ≤ Pln.Kind aP ∧ Pln.Kind aP ≤ 9223372036854775807 := (hw_aP.field (tv := ⟨(.int .i64), Pln.Kind aP⟩) (List.Mem.head _)).int_inv
 have hr_aP_Table : -9223372036854775808 ≤ Pln.Table aP ∧ Pln.Table aP ≤ 9223372036854775807 := (hw_aP.field (tv := ⟨(.int .i64), Pln.Table aP⟩) (List.Mem.tail _ (List.Mem.head _))).int_inv
 have hl_aP_Exprs : ((List.length (Pln.Exprs aP) : Nat) : Int) ≤ 9223372036854775807 := (hw_aP.field (tv := ⟨(.slice (.named 1)), Pln.Exprs aP⟩) (List.Mem.tail _ (List.Mem.tail _ (List.Mem.head _)))).len
 have hl_aP_Cols : ((List.length (Pln.Cols aP) : Nat) : Int) ≤ 9223372036854775807 := (hw_aP.field (tv := ⟨(.slice (.int .i64)), Pln.Cols aP⟩) (List.Mem.tail _ (List.Mem.tail _ (List.Mem.tail _ (List.Mem.head _))))).len
 have hl_aP_Kids : ((List.length (Pln.Kids aP) : Nat) : Int) ≤ 9223372036854775807 := (hw_aP.field (tv := ⟨(.slice (.named 2)), Pln.Kids aP⟩) (List.Mem.tail _ (List.Mem.tail _ (List.Mem.tail _ (List.Mem.tail _ (List.Mem.head _)))))).len
 have hw_aWidths : Wf ⟨(.slice (.int .i64)), (aWidths : List Int)⟩ := hwf _ (List.Mem.tail _ (List.Mem.head _))
 have hl_aWidths : ((List.length aWidths : Nat) : Int) ≤ 9223372036854775807 := hw_aWidths.len
 have e0 : FnExactPlanWidth aP aWidths = FnExactPlanWidth aP aWidths := rfl
 refine AW.seq ?_
 refine AW.reg hC  false [] [1, 2] [8]
  ⟨[(1, .data (.slice (.int .i64)) (aWidths : List Int)), (2, .ref 8 1 0)], [(8, .box 1 [.int .i64 (Pln.Kind aP), .int .i64 (Pln.Table aP), .data (.slice (.named 1)) ((Pln.Exprs aP) : List Xpr), .data (.slice (.int .i64)) ((Pln.Cols aP) : List Int), .data (.slice (.named 2)) ((Pln.Kids aP) : List Pln)])]⟩
  [] (by kernel_rfl) ?_ ?_
 ·
  exact trivial
 refine AW.seq ?_
 refine AW.seq ?_
 refine AW.reg hC  false [] [1, 2, 12] [8]
  ⟨[(1, .data (.slice (.int .i64)) (aWidths : List Int)), (2, .ref 8 1 0), (12, .bool (decide (1048576 < ((List.length aWidths : Nat) : Int))))], [(8, .box 1 [.int .i64 (Pln.Kind aP), .int .i64 (Pln.Table aP), .data (.slice (.named 1)) ((Pln.Exprs aP) : List Xpr), .data (.slice (.int .i64)) ((Pln.Cols aP) : List Int), .data (.slice (.named 2)) ((Pln.Kids aP) : List Pln)])]⟩
  [] (by kernel_rfl) ?_ ?_
 ·
  exact trivial
 refine AW.cond (b := (decide (1048576 < ((List.length aWidths : Nat) : Int)))) (by kernel_rfl) ?_ ?_
 ·
  intro h1
  have h1q : 1048576 < ((List.length aWidths : Nat) : Int) := (of_decide_eq_true h1)
  have e2 := e0.trans (Go.Am.bif_t h1)
  refine AW.seq ?_
  refine AW.reg hC  false [] [4] []
   ⟨[(4, .bool true)], []⟩
   [] (by kernel_rfl) ?_ ?_
  ·
   exact trivial
  refine AW.ret ?_
  exact AW.retE (β := Bool) (fun v => [⟨.bool, v⟩]) (fun v => []) (v := true) e2 (by kernel_rfl) rfl rfl
 ·
  intro h3
  have h3q : ¬ (1048576 < ((List.length aWidths : Nat) : Int)) := (of_decide_eq_false h3)
  have e4 := e0.trans (Go.Am.bif_f h3)
  refine AW.keep [1, 2] [8] ⟨[(1, .data (.slice (.int .i64)) (aWidths : List Int)), (2, .ref 8 1 0)], [(8, .box 1 [.int .i64 (Pln.Kind aP), .int .i64 (Pln.Table aP), .data (.slice (.named 1)) ((Pln.Exprs aP) : List Xpr), .data (.slice (.int .i64)) ((Pln.Cols aP) : List Int), .data (.slice (.named 2)) ((Pln.Kids aP) : List Pln)])]⟩ (by kernel_rfl) ?_
  refine AW.skip ?_
  refine AW.seq ?_
  refine AW.reg hC  false [] [1, 2, 5] [8]
   ⟨[(1, .data (.slice (.int .i64)) (aWidths : List Int)), (2, .ref 8 1 0), (5, .int .i64 1048576)], [(8, .box 1 [.int .i64 (Pln.Kind aP), .int .i64 (Pln.Table aP), .data (.slice (.named 1)) ((Pln.Exprs aP) : List Xpr), .data (.slice (.int .i64)) ((Pln.Cols aP) : List Int), .data (.slice (.named 2)) ((Pln.Kids aP) : List Pln)])]⟩
   [] (by kernel_rfl) ?_ ?_
  ·
   exact trivial
  refine AW.seq ?_
  refine AW.reg hC  false [] [1, 2, 5] [8]
   ⟨[(1, .data (.slice (.int .i64)) (aWidths : List Int)), (2, .ref 8 1 0), (5, .int .i64 (szPlan (Pln.mk (Pln.Kind aP) (Pln.Table aP) (Pln.Exprs aP) (Pln.Cols aP) (Pln.Kids aP)) 1048576))], [(8, .box 1 [.int .i64 (Pln.Kind aP), .int .i64 (Pln.Table aP), .data (.slice (.named 1)) ((Pln.Exprs aP) : List Xpr), .data (.slice (.int .i64)) ((Pln.Cols aP) : List Int), .data (.slice (.named 2)) ((Pln.Kids aP) : List Pln)])]⟩
   [(0 ≤ (1048576 : Int))] (by kernel_rfl) ?_ ?_
  ·
   refine ⟨?_, trivial⟩
   ·
    first | omega | assumption
  refine AW.seq ?_
  refine AW.seq ?_
  refine AW.reg hC  false [] [1, 2, 17] [8]
   ⟨[(1, .data (.slice (.int .i64)) (aWidths : List Int)), (2, .ref 8 1 0), (17, .bool (decide ((szPlan (Pln.mk (Pln.Kind aP) (Pln.Table aP) (Pln.Exprs aP) (Pln.Cols aP) (Pln.Kids aP)) 1048576) < 0)))], [(8, .box 1 [.int .i64 (Pln.Kind aP), .int .i64 (Pln.Table aP), .data (.slice (.named 1)) ((Pln.Exprs aP) : List Xpr), .data (.slice (.int .i64)) ((Pln.Cols aP) : List Int), .data (.slice (.named 2)) ((Pln.Kids aP) : List Pln)])]⟩
   [] (by kernel_rfl) ?_ ?_
  ·
   exact trivial
  refine AW.cond (b := (decide ((szPlan (Pln.mk (Pln.Kind aP) (Pln.Table aP) (Pln.Exprs aP) (Pln.Cols aP) (Pln.Kids aP)) 1048576) < 0))) (by kernel_rfl) ?_ ?_
  ·
   intro h5
   have h5q : (szPlan (Pln.mk (Pln.Kind aP) (Pln.Table aP) (Pln.Exprs aP) (Pln.Cols aP) (Pln.Kids aP)) 1048576) < 0 := (of_decide_eq_true h5)
   have e6 := e4.trans (Go.Am.bif_t h5)
   refine AW.seq ?_
   refine AW.reg hC  false [] [4] []
    ⟨[(4, .bool true)], []⟩
    [] (by kernel_rfl) ?_ ?_
   ·
    exact trivial
   refine AW.ret ?_
   exact AW.retE (β := Bool) (fun v => [⟨.bool, v⟩]) (fun v => []) (v := true) e6 (by kernel_rfl) rfl rfl
  ·
   intro h7
   have h7q : ¬ ((szPlan (Pln.mk (Pln.Kind aP) (Pln.Table aP) (Pln.Exprs aP) (Pln.Cols aP) (Pln.Kids aP)) 1048576) < 0) := (of_decide_eq_false h7)
   have e8 := e4.trans (Go.Am.bif_f h7)
   refine AW.keep [1, 2] [8] ⟨[(1, .data (.slice (.int .i64)) (aWidths : List Int)), (2, .ref 8 1 0)], [(8, .box 1 [.int .i64 (Pln.Kind aP), .int .i64 (Pln.Table aP), .data (.slice (.named 1)) ((Pln.Exprs aP) : List Xpr), .data (.slice (.int .i64)) ((Pln.Cols aP) : List Int), .data (.slice (.named 2)) ((Pln.Kids aP) : List Pln)])]⟩ (by kernel_rfl) ?_
   refine AW.skip ?_
   refine AW.seq ?_
   refine AW.reg hC  false [] [1, 2, 6] [8]
    ⟨[(1, .data (.slice (.int .i64)) (aWidths : List Int)), (2, .ref 8 1 0), (6, .int .i64 (PlanWidth (toPlan (Pln.mk (Pln.Kind aP) (Pln.Table aP) (Pln.Exprs aP) (Pln.Cols aP) (Pln.Kids aP))) (toIntS aWidths)))], [(8, .box 1 [.int .i64 (Pln.Kind aP), .int .i64 (Pln.Table aP), .data (.slice (.named 1)) ((Pln.Exprs aP) : List Xpr), .data (.slice (.int .i64)) ((Pln.Cols aP) : List Int), .data (.slice (.named 2)) ((Pln.Kids aP) : List Pln)])]⟩
    [(FitsP (Pln.mk (Pln.Kind aP) (Pln.Table aP) (Pln.Exprs aP) (Pln.Cols aP) (Pln.Kids aP))), ((List.length aWidths : Int) ≤ 1048576), (True)] (by kernel_rfl) ?_ ?_
   ·
    refine ⟨?_, ?_, ?_, trivial⟩
    ·
     exact FitsP.of (l := 1048576) ⟨by decide, by decide⟩ (by first | exact h7q | exact h3q | exact trivial | exact trivial)
    ·
     first | omega | assumption
    ·
     trivial
   refine AW.seq ?_
   refine AW.reg hC  false [] [1, 2, 6, 7] [8, 28]
    ⟨[(1, .data (.slice (.int .i64)) (aWidths : List Int)), (2, .ref 8 1 0), (6, .int .i64 (PlanWidth (toPlan (Pln.mk (Pln.Kind aP) (Pln.Table aP) (Pln.Exprs aP) (Pln.Cols aP) (Pln.Kids aP))) (toIntS aWidths))), (7, .ref 28 1 0)], [(8, .box 1 [.int .i64 (Pln.Kind aP), .int .i64 (Pln.Table aP), .data (.slice (.named 1)) ((Pln.Exprs aP) : List Xpr), .data (.slice (.int .i64)) ((Pln.Cols aP) : List Int), .data (.slice (.named 2)) ((Pln.Kids aP) : List Pln)]), (28, .box 1 [.int .i64 (Pln.Kind (toPlan (Pln.mk (Pln.Kind aP) (Pln.Table aP) (Pln.Exprs aP) (Pln.Cols aP) (Pln.Kids aP)))), .int .i64 (Pln.Table (toPlan (Pln.mk (Pln.Kind aP) (Pln.Table aP) (Pln.Exprs aP) (Pln.Cols aP) (Pln.Kids aP)))), .data (.slice (.named 1)) ((Pln.Exprs (toPlan (Pln.mk (Pln.Kind aP) (Pln.Table aP) (Pln.Exprs aP) (Pln.Cols aP) (Pln.Kids aP)))) : List Xpr), .data (.slice (.int .i64)) ((Pln.Cols (toPlan (Pln.mk (Pln.Kind aP) (Pln.Table aP) (Pln.Exprs aP) (Pln.Cols aP) (Pln.Kids aP)))) : List Int), .data (.slice (.named 2)) ((Pln.Kids (toPlan (Pln.mk (Pln.Kind aP) (Pln.Table aP) (Pln.Exprs aP) (Pln.Cols aP) (Pln.Kids aP)))) : List Pln)])]⟩
    [(FitsP (Pln.mk (Pln.Kind aP) (Pln.Table aP) (Pln.Exprs aP) (Pln.Cols aP) (Pln.Kids aP)))] (by kernel_rfl) ?_ ?_
   ·
    refine ⟨?_, trivial⟩
    ·
     exact FitsP.of (l := 1048576) ⟨by decide, by decide⟩ (by first | exact h7q | exact h3q | exact trivial | exact trivial)
   refine AW.seq ?_
   refine AW.reg hC  false [] [1, 2, 6, 7, 8] [8, 28, 104]
    ⟨[(1, .data (.slice (.int .i64)) (aWidths : List Int)), (2, .ref 8 1 0), (6, .int .i64 (PlanWidth (toPlan (Pln.mk (Pln.Kind aP) (Pln.Table aP) (Pln.Exprs aP) (Pln.Cols aP) (Pln.Kids aP))) (toIntS aWidths))), (7, .ref 28 1 0), (8, .arr 104 1)], [(8, .box 1 [.int .i64 (Pln.Kind aP), .int .i64 (Pln.Table aP), .data (.slice (.named 1)) ((Pln.Exprs aP) : List Xpr), .data (.slice (.int .i64)) ((Pln.Cols aP) : List Int), .data (.slice (.named 2)) ((Pln.Kids aP) : List Pln)]), (28, .box 1 [.int .i64 (Pln.Kind (toPlan (Pln.mk (Pln.Kind aP) (Pln.Table aP) (Pln.Exprs aP) (Pln.Cols aP) (Pln.Kids aP)))), .int .i64 (Pln.Table (toPlan (Pln.mk (Pln.Kind aP) (Pln.Table aP) (Pln.Exprs aP) (Pln.Cols aP) (Pln.Kids aP)))), .data (.slice (.named 1)) ((Pln.Exprs (toPlan (Pln.mk (Pln.Kind aP) (Pln.Table aP) (Pln.Exprs aP) (Pln.Cols aP) (Pln.Kids aP)))) : List Xpr), .data (.slice (.int .i64)) ((Pln.Cols (toPlan (Pln.mk (Pln.Kind aP) (Pln.Table aP) (Pln.Exprs aP) (Pln.Cols aP) (Pln.Kids aP)))) : List Int), .data (.slice (.named 2)) ((Pln.Kids (toPlan (Pln.mk (Pln.Kind aP) (Pln.Table aP) (Pln.Exprs aP) (Pln.Cols aP) (Pln.Kids aP)))) : List Pln)]), (104, .arr 1 (.int .i64) ((toIntS aWidths) : List Int))]⟩
    [((List.length aWidths : Int) ≤ 1048576)] (by kernel_rfl) ?_ ?_
   ·
    refine ⟨?_, trivial⟩
    ·
     first | omega | assumption
   refine AW.seq ?_
   refine AW.reg hC  false [] [1, 2, 6, 7, 8, 9] [8, 28, 104]
    ⟨[(1, .data (.slice (.int .i64)) (aWidths : List Int)), (2, .ref 8 1 0), (6, .int .i64 (PlanWidth (toPlan (Pln.mk (Pln.Kind aP) (Pln.Table aP) (Pln.Exprs aP) (Pln.Cols aP) (Pln.Kids aP))) (toIntS aWidths))), (7, .ref 28 1 0), (8, .arr 104 1), (9, .int .i64 (iPlanWidth (Pln.mk (Pln.Kind (toPlan (Pln.mk (Pln.Kind aP) (Pln.Table aP) (Pln.Exprs aP) (Pln.Cols aP) (Pln.Kids aP)))) (Pln.Table (toPlan (Pln.mk (Pln.Kind aP) (Pln.Table aP) (Pln.Exprs aP) (Pln.Cols aP) (Pln.Kids aP)))) (Pln.Exprs (toPlan (Pln.mk (Pln.Kind aP) (Pln.Table aP) (Pln.Exprs aP) (Pln.Cols aP) (Pln.Kids aP)))) (Pln.Cols (toPlan (Pln.mk (Pln.Kind aP) (Pln.Table aP) (Pln.Exprs aP) (Pln.Cols aP) (Pln.Kids aP)))) (Pln.Kids (toPlan (Pln.mk (Pln.Kind aP) (Pln.Table aP) (Pln.Exprs aP) (Pln.Cols aP) (Pln.Kids aP))))) (toIntS aWidths)))], [(8, .box 1 [.int .i64 (Pln.Kind aP), .int .i64 (Pln.Table aP), .data (.slice (.named 1)) ((Pln.Exprs aP) : List Xpr), .data (.slice (.int .i64)) ((Pln.Cols aP) : List Int), .data (.slice (.named 2)) ((Pln.Kids aP) : List Pln)]), (28, .box 1 [.int .i64 (Pln.Kind (toPlan (Pln.mk (Pln.Kind aP) (Pln.Table aP) (Pln.Exprs aP) (Pln.Cols aP) (Pln.Kids aP)))), .int .i64 (Pln.Table (toPlan (Pln.mk (Pln.Kind aP) (Pln.Table aP) (Pln.Exprs aP) (Pln.Cols aP) (Pln.Kids aP)))), .data (.slice (.named 1)) ((Pln.Exprs (toPlan (Pln.mk (Pln.Kind aP) (Pln.Table aP) (Pln.Exprs aP) (Pln.Cols aP) (Pln.Kids aP)))) : List Xpr), .data (.slice (.int .i64)) ((Pln.Cols (toPlan (Pln.mk (Pln.Kind aP) (Pln.Table aP) (Pln.Exprs aP) (Pln.Cols aP) (Pln.Kids aP)))) : List Int), .data (.slice (.named 2)) ((Pln.Kids (toPlan (Pln.mk (Pln.Kind aP) (Pln.Table aP) (Pln.Exprs aP) (Pln.Cols aP) (Pln.Kids aP)))) : List Pln)]), (104, .arr 1 (.int .i64) ((toIntS aWidths) : List Int))]⟩
    [(True)] (by kernel_rfl) ?_ ?_
   ·
    refine ⟨?_, trivial⟩
    ·
     trivial
   refine AW.seq ?_
   refine AW.seq ?_
   refine AW.reg hC  false [] [1, 2, 7, 8, 32] [8, 28, 104]
    ⟨[(1, .data (.slice (.int .i64)) (aWidths : List Int)), (2, .ref 8 1 0), (7, .ref 28 1 0), (8, .arr 104 1), (32, .bool ((iPlanWidth (Pln.mk (Pln.Kind (toPlan (Pln.mk (Pln.Kind aP) (Pln.Table aP) (Pln.Exprs aP) (Pln.Cols aP) (Pln.Kids aP)))) (Pln.Table (toPlan (Pln.mk (Pln.Kind aP) (Pln.Table aP) (Pln.Exprs aP) (Pln.Cols aP) (Pln.Kids aP)))) (Pln.Exprs (toPlan (Pln.mk (Pln.Kind aP) (Pln.Table aP) (Pln.Exprs aP) (Pln.Cols aP) (Pln.Kids aP)))) (Pln.Cols (toPlan (Pln.mk (Pln.Kind aP) (Pln.Table aP) (Pln.Exprs aP) (Pln.Cols aP) (Pln.Kids aP)))) (Pln.Kids (toPlan (Pln.mk (Pln.Kind aP) (Pln.Table aP) (Pln.Exprs aP) (Pln.Cols aP) (Pln.Kids aP))))) (toIntS aWidths)) != (PlanWidth (toPlan (Pln.mk (Pln.Kind aP) (Pln.Table aP) (Pln.Exprs aP) (Pln.Cols aP) (Pln.Kids aP))) (toIntS aWidths))))], [(8, .box 1 [.int .i64 (Pln.Kind aP), .int .i64 (Pln.Table aP), .data (.slice (.named 1)) ((Pln.Exprs aP) : List Xpr), .data (.slice (.int .i64)) ((Pln.Cols aP) : List Int), .data (.slice (.named 2)) ((Pln.Kids aP) : List Pln)]), (28, .box 1 [.int .i64 (Pln.Kind (toPlan (Pln.mk (Pln.Kind aP) (Pln.Table aP) (Pln.Exprs aP) (Pln.Cols aP) (Pln.Kids aP)))), .int .i64 (Pln.Table (toPlan (Pln.mk (Pln.Kind aP) (Pln.Table aP) (Pln.Exprs aP) (Pln.Cols aP) (Pln.Kids aP)))), .data (.slice (.named 1)) ((Pln.Exprs (toPlan (Pln.mk (Pln.Kind aP) (Pln.Table aP) (Pln.Exprs aP) (Pln.Cols aP) (Pln.Kids aP)))) : List Xpr), .data (.slice (.int .i64)) ((Pln.Cols (toPlan (Pln.mk (Pln.Kind aP) (Pln.Table aP) (Pln.Exprs aP) (Pln.Cols aP) (Pln.Kids aP)))) : List Int), .data (.slice (.named 2)) ((Pln.Kids (toPlan (Pln.mk (Pln.Kind aP) (Pln.Table aP) (Pln.Exprs aP) (Pln.Cols aP) (Pln.Kids aP)))) : List Pln)]), (104, .arr 1 (.int .i64) ((toIntS aWidths) : List Int))]⟩
    [] (by kernel_rfl) ?_ ?_
   ·
    exact trivial
   refine AW.cond (b := ((iPlanWidth (Pln.mk (Pln.Kind (toPlan (Pln.mk (Pln.Kind aP) (Pln.Table aP) (Pln.Exprs aP) (Pln.Cols aP) (Pln.Kids aP)))) (Pln.Table (toPlan (Pln.mk (Pln.Kind aP) (Pln.Table aP) (Pln.Exprs aP) (Pln.Cols aP) (Pln.Kids aP)))) (Pln.Exprs (toPlan (Pln.mk (Pln.Kind aP) (Pln.Table aP) (Pln.Exprs aP) (Pln.Cols aP) (Pln.Kids aP)))) (Pln.Cols (toPlan (Pln.mk (Pln.Kind aP) (Pln.Table aP) (Pln.Exprs aP) (Pln.Cols aP) (Pln.Kids aP)))) (Pln.Kids (toPlan (Pln.mk (Pln.Kind aP) (Pln.Table aP) (Pln.Exprs aP) (Pln.Cols aP) (Pln.Kids aP))))) (toIntS aWidths)) != (PlanWidth (toPlan (Pln.mk (Pln.Kind aP) (Pln.Table aP) (Pln.Exprs aP) (Pln.Cols aP) (Pln.Kids aP))) (toIntS aWidths)))) (by kernel_rfl) ?_ ?_
   ·
    intro h9
    have h9q : (iPlanWidth (Pln.mk (Pln.Kind (toPlan (Pln.mk (Pln.Kind aP) (Pln.Table aP) (Pln.Exprs aP) (Pln.Cols aP) (Pln.Kids aP)))) (Pln.Table (toPlan (Pln.mk (Pln.Kind aP) (Pln.Table aP) (Pln.Exprs aP) (Pln.Cols aP) (Pln.Kids aP)))) (Pln.Exprs (toPlan (Pln.mk (Pln.Kind aP) (Pln.Table aP) (Pln.Exprs aP) (Pln.Cols aP) (Pln.Kids aP)))) (Pln.Cols (toPlan (Pln.mk (Pln.Kind aP) (Pln.Table aP) (Pln.Exprs aP) (Pln.Cols aP) (Pln.Kids aP)))) (Pln.Kids (toPlan (Pln.mk (Pln.Kind aP) (Pln.Table aP) (Pln.Exprs aP) (Pln.Cols aP) (Pln.Kids aP))))) (toIntS aWidths)) ≠ (PlanWidth (toPlan (Pln.mk (Pln.Kind aP) (Pln.Table aP) (Pln.Exprs aP) (Pln.Cols aP) (Pln.Kids aP))) (toIntS aWidths)) := (Go.Am.bne_pos h9)
    have e10 := e8.trans (Go.Am.bif_t h9)
    refine AW.seq ?_
    refine AW.reg hC  false [] [4] []
     ⟨[(4, .bool false)], []⟩
     [] (by kernel_rfl) ?_ ?_
    ·
     exact trivial
    refine AW.ret ?_
    exact AW.retE (β := Bool) (fun v => [⟨.bool, v⟩]) (fun v => []) (v := false) e10 (by kernel_rfl) rfl rfl
   ·
    intro h11
    have h11q : (iPlanWidth (Pln.mk (Pln.Kind (toPlan (Pln.mk (Pln.Kind aP) (Pln.Table aP) (Pln.Exprs aP) (Pln.Cols aP) (Pln.Kids aP)))) (Pln.Table (toPlan (Pln.mk (Pln.Kind aP) (Pln.Table aP) (Pln.Exprs aP) (Pln.Cols aP) (Pln.Kids aP)))) (Pln.Exprs (toPlan (Pln.mk (Pln.Kind aP) (Pln.Table aP) (Pln.Exprs aP) (Pln.Cols aP) (Pln.Kids aP)))) (Pln.Cols (toPlan (Pln.mk (Pln.Kind aP) (Pln.Table aP) (Pln.Exprs aP) (Pln.Cols aP) (Pln.Kids aP)))) (Pln.Kids (toPlan (Pln.mk (Pln.Kind aP) (Pln.Table aP) (Pln.Exprs aP) (Pln.Cols aP) (Pln.Kids aP))))) (toIntS aWidths)) = (PlanWidth (toPlan (Pln.mk (Pln.Kind aP) (Pln.Table aP) (Pln.Exprs aP) (Pln.Cols aP) (Pln.Kids aP))) (toIntS aWidths)) := (Go.Am.bne_neg h11)
    have e12 := e8.trans (Go.Am.bif_f h11)
    refine AW.keep [1, 2, 7, 8] [8, 28, 104] ⟨[(1, .data (.slice (.int .i64)) (aWidths : List Int)), (2, .ref 8 1 0), (7, .ref 28 1 0), (8, .arr 104 1)], [(8, .box 1 [.int .i64 (Pln.Kind aP), .int .i64 (Pln.Table aP), .data (.slice (.named 1)) ((Pln.Exprs aP) : List Xpr), .data (.slice (.int .i64)) ((Pln.Cols aP) : List Int), .data (.slice (.named 2)) ((Pln.Kids aP) : List Pln)]), (28, .box 1 [.int .i64 (Pln.Kind (toPlan (Pln.mk (Pln.Kind aP) (Pln.Table aP) (Pln.Exprs aP) (Pln.Cols aP) (Pln.Kids aP)))), .int .i64 (Pln.Table (toPlan (Pln.mk (Pln.Kind aP) (Pln.Table aP) (Pln.Exprs aP) (Pln.Cols aP) (Pln.Kids aP)))), .data (.slice (.named 1)) ((Pln.Exprs (toPlan (Pln.mk (Pln.Kind aP) (Pln.Table aP) (Pln.Exprs aP) (Pln.Cols aP) (Pln.Kids aP)))) : List Xpr), .data (.slice (.int .i64)) ((Pln.Cols (toPlan (Pln.mk (Pln.Kind aP) (Pln.Table aP) (Pln.Exprs aP) (Pln.Cols aP) (Pln.Kids aP)))) : List Int), .data (.slice (.named 2)) ((Pln.Kids (toPlan (Pln.mk (Pln.Kind aP) (Pln.Table aP) (Pln.Exprs aP) (Pln.Cols aP) (Pln.Kids aP)))) : List Pln)]), (104, .arr 1 (.int .i64) ((toIntS aWidths) : List Int))]⟩ (by kernel_rfl) ?_
    refine AW.skip ?_
    refine AW.seq ?_
    refine AW.seq ?_
    refine AW.regD hC hM  false [] [1, 8, 37] [104]
     ⟨[(1, .data (.slice (.int .i64)) (aWidths : List Int)), (8, .arr 104 1), (37, .bool (!(eqPlan (Pln.mk (Pln.Kind (toPlan (Pln.mk (Pln.Kind aP) (Pln.Table aP) (Pln.Exprs aP) (Pln.Cols aP) (Pln.Kids aP)))) (Pln.Table (toPlan (Pln.mk (Pln.Kind aP) (Pln.Table aP) (Pln.Exprs aP) (Pln.Cols aP) (Pln.Kids aP)))) (Pln.Exprs (toPlan (Pln.mk (Pln.Kind aP) (Pln.Table aP) (Pln.Exprs aP) (Pln.Cols aP) (Pln.Kids aP)))) (Pln.Cols (toPlan (Pln.mk (Pln.Kind aP) (Pln.Table aP) (Pln.Exprs aP) (Pln.Cols aP) (Pln.Kids aP)))) (Pln.Kids (toPlan (Pln.mk (Pln.Kind aP) (Pln.Table aP) (Pln.Exprs aP) (Pln.Cols aP) (Pln.Kids aP))))) (toPlan (Pln.mk (Pln.Kind aP) (Pln.Table aP) (Pln.Exprs aP) (Pln.Cols aP) (Pln.Kids aP))))))], [(104, .arr 1 (.int .i64) ((toIntS aWidths) : List Int))]⟩
     [(FitsP (Pln.mk (Pln.Kind aP) (Pln.Table aP) (Pln.Exprs aP) (Pln.Cols aP) (Pln.Kids aP))), (True)] (by kernel_rfl) ?_ ?_
    ·
     refine ⟨?_, ?_, trivial⟩
     ·
      exact FitsP.of (l := 1048576) ⟨by decide, by decide⟩ (by first | exact h11q | exact h7q | exact h3q | exact trivial)
     ·
      trivial
    refine AW.cond (b := (!(eqPlan (Pln.mk (Pln.Kind (toPlan (Pln.mk (Pln.Kind aP) (Pln.Table aP) (Pln.Exprs aP) (Pln.Cols aP) (Pln.Kids aP)))) (Pln.Table (toPlan (Pln.mk (Pln.Kind aP) (Pln.Table aP) (Pln.Exprs aP) (Pln.Cols aP) (Pln.Kids aP)))) (Pln.Exprs (toPlan (Pln.mk (Pln.Kind aP) (Pln.Table aP) (Pln.Exprs aP) (Pln.Cols aP) (Pln.Kids aP)))) (Pln.Cols (toPlan (Pln.mk (Pln.Kind aP) (Pln.Table aP) (Pln.Exprs aP) (Pln.Cols aP) (Pln.Kids aP)))) (Pln.Kids (toPlan (Pln.mk (Pln.Kind aP) (Pln.Table aP) (Pln.Exprs aP) (Pln.Cols aP) (Pln.Kids aP))))) (toPlan (Pln.mk (Pln.Kind aP) (Pln.Table aP) (Pln.Exprs aP) (Pln.Cols aP) (Pln.Kids aP)))))) (by kernel_rfl) ?_ ?_
    ·
     intro h13
     have h13q : (eqPlan (Pln.mk (Pln.Kind (toPlan (Pln.mk (Pln.Kind aP) (Pln.Table aP) (Pln.Exprs aP) (Pln.Cols aP) (Pln.Kids aP)))) (Pln.Table (toPlan (Pln.mk (Pln.Kind aP) (Pln.Table aP) (Pln.Exprs aP) (Pln.Cols aP) (Pln.Kids aP)))) (Pln.Exprs (toPlan (Pln.mk (Pln.Kind aP) (Pln.Table aP) (Pln.Exprs aP) (Pln.Cols aP) (Pln.Kids aP)))) (Pln.Cols (toPlan (Pln.mk (Pln.Kind aP) (Pln.Table aP) (Pln.Exprs aP) (Pln.Cols aP) (Pln.Kids aP)))) (Pln.Kids (toPlan (Pln.mk (Pln.Kind aP) (Pln.Table aP) (Pln.Exprs aP) (Pln.Cols aP) (Pln.Kids aP))))) (toPlan (Pln.mk (Pln.Kind aP) (Pln.Table aP) (Pln.Exprs aP) (Pln.Cols aP) (Pln.Kids aP)))) = false := (Go.Am.not_pos h13)
     have e14 := e12.trans (Go.Am.bif_t h13)
     refine AW.seq ?_
     refine AW.reg hC  false [] [4] []
      ⟨[(4, .bool false)], []⟩
      [] (by kernel_rfl) ?_ ?_
     ·
      exact trivial
     refine AW.ret ?_
     exact AW.retE (β := Bool) (fun v => [⟨.bool, v⟩]) (fun v => []) (v := false) e14 (by kernel_rfl) rfl rfl
    ·
     intro h15
     have h15q : (eqPlan (Pln.mk (Pln.Kind (toPlan (Pln.mk (Pln.Kind aP) (Pln.Table aP) (Pln.Exprs aP) (Pln.Cols aP) (Pln.Kids aP)))) (Pln.Table (toPlan (Pln.mk (Pln.Kind aP) (Pln.Table aP) (Pln.Exprs aP) (Pln.Cols aP) (Pln.Kids aP)))) (Pln.Exprs (toPlan (Pln.mk (Pln.Kind aP) (Pln.Table aP) (Pln.Exprs aP) (Pln.Cols aP) (Pln.Kids aP)))) (Pln.Cols (toPlan (Pln.mk (Pln.Kind aP) (Pln.Table aP) (Pln.Exprs aP) (Pln.Cols aP) (Pln.Kids aP)))) (Pln.Kids (toPlan (Pln.mk (Pln.Kind aP) (Pln.Table aP) (Pln.Exprs aP) (Pln.Cols aP) (Pln.Kids aP))))) (toPlan (Pln.mk (Pln.Kind aP) (Pln.Table aP) (Pln.Exprs aP) (Pln.Cols aP) (Pln.Kids aP)))) = true := (Go.Am.not_neg h15)
     have e16 := e12.trans (Go.Am.bif_f h15)
     refine AW.keep [1, 8] [104] ⟨[(1, .data (.slice (.int .i64)) (aWidths : List Int)), (8, .arr 104 1)], [(104, .arr 1 (.int .i64) ((toIntS aWidths) : List Int))]⟩ (by kernel_rfl) ?_
     refine AW.skip ?_
     refine AW.seq ?_
     refine AW.seq ?_
     refine AW.reg hC  false [] [42] []
      ⟨[(42, .bool (!(eqIntS (toIntS aWidths) (toIntS aWidths))))], []⟩
      [((List.length aWidths : Int) ≤ 1048576), (True)] (by kernel_rfl) ?_ ?_
     ·
      refine ⟨?_, ?_, trivial⟩
      ·
       first | omega | assumption
      ·
       trivial
     refine AW.cond (b := (!(eqIntS (toIntS aWidths) (toIntS aWidths)))) (by kernel_rfl) ?_ ?_
     ·
      intro h17
      have h17q : (eqIntS (toIntS aWidths) (toIntS aWidths)) = false := (Go.Am.not_pos h17)
      have e18 := e16.trans (Go.Am.bif_t h17)
      refine AW.seq ?_
      refine AW.reg hC  false [] [4] []
       ⟨[(4, .bool false)], []⟩
       [] (by kernel_rfl) ?_ ?_
      ·
       exact trivial
      refine AW.ret ?_
      exact AW.retE (β := Bool) (fun v => [⟨.bool, v⟩]) (fun v => []) (v := false) e18 (by kernel_rfl) rfl rfl
     ·
      intro h19
      have h19q : (eqIntS (toIntS aWidths) (toIntS aWidths)) = true := (Go.Am.not_neg h19)
      have e20 := e16.trans (Go.Am.bif_f h19)
      refine AW.keep [] [] ⟨[], []⟩ (by kernel_rfl) ?_
      refine AW.skip ?_
      refine AW.seq ?_
      refine AW.reg hC  false [] [4] []
       ⟨[(4, .bool true)], []⟩
       [] (by kernel_rfl) ?_ ?_
      ·
       exact trivial
      refine AW.ret ?_
      exact AW.retE (β := Bool) (fun v => [⟨.bool, v⟩]) (fun v => []) (v := true) e20 (by kernel_rfl) rfl rfl

theorem FnExactPlanWidth_law (p : Pln) (ws : List Int) : FnExactPlanWidth p ws = true := by
 unfold FnExactPlanWidth
 rw [Pln.eta, Pln.eta, PlanWidth_same, eqPlan_self, eqIntS_self]
 simp

end
end Go.Proofs.Ytodcdgolcbdkgaa
