/-
  A part of the proof of this claim (ApI): what functions of the program compute, and plain facts of that. No conditions.
-/
import Derived.Test.YtodcdgolcbdkgaaApH
set_option linter.all false
namespace Go.Proofs.Ytodcdgolcbdkgaa
open Go Go.Am
noncomputable section

theorem eqExprS_self (a : List Xpr) : eqExprS a a = true := by
 unfold eqExprS
 simp only [bne_self_eq_false, cond_false]
 rcases all_loop (eqExprS_l0 a a) a.length (fun i => !(eqExpr (List.getD a i Xpr.zero) (List.getD a i Xpr.zero))) (fun k i => rfl) (a.length - 0 + 1) 0 (by omega) with ⟨h1, _⟩ | ⟨_, j, _, hj, h2⟩
 ·
  rw [h1]; rfl
 ·
  rw [eqExpr_self] at h2
  cases h2

theorem eqPlan_refl : ∀ (f : Nat) (a : Pln), SizeOf.sizeOf a < f → eqPlan_r f a a = true := by
 intro f
 induction f with
 | zero => intro a h; omega
 | succ f ih =>
  intro a h
  have hc : eqPlan_c0 (eqPlan_r f) a a = true := by
   unfold eqPlan_c0
   simp only [bne_self_eq_false, cond_false]
   rcases all_loop (eqPlan_l0 (eqPlan_r f) a a) a.Kids.length (fun i => !(eqPlan_r f (List.getD a.Kids i Pln.zero) (List.getD a.Kids i Pln.zero))) (fun k i => rfl) (a.Kids.length - 0 + 1) 0 (by omega) with ⟨h1, _⟩ | ⟨_, j, _, hj, h2⟩
   ·
    rw [h1]; rfl
   ·
    have := pkid_lt (t := a) hj
    rw [ih _ (by omega)] at h2
    cases h2
  unfold eqPlan_r
  simp only [bne_self_eq_false, cond_false, Go.Am.andThen, hc, eqExprS_self, eqIntS_self, Bool.not_true]

theorem eqPlan_self (a : Pln) : eqPlan a a = true := eqPlan_refl _ a (Nat.lt_succ_self _)

/-- What a width other than 0 says. -/
structure WF (f : Nat) (p : Pln) (ws : List Int) (l : Int) : Prop where
 of : OF p
 scan : p.Kind = 1 → (0 ≤ p.Table ∧ p.Table < ((ws.length : Nat) : Int)) ∧ widthBelow_r (f + 1) p ws l = ws.getD p.Table.toNat 0
 deep : 0 < p.Kids.length → l ≠ 0
 proj : p.Kind = 3 → 1 ≤ ((p.Exprs.length : Nat) : Int) ∧ ((p.Exprs.length : Nat) : Int) ≤ 6
 kids : ∀ i, i < p.Kids.length → widthBelow_r f (p.Kids.getD i Pln.zero) ws (l - 1) ≠ 0
 one : p.Kids.length = 1 → widthBelow_r (f + 1) p ws l = widthOver p (widthBelow_r f (p.Kids.getD 0 Pln.zero) ws (l - 1)) 0
 two : p.Kids.length = 2 → widthBelow_r (f + 1) p ws l = widthOver p (widthBelow_r f (p.Kids.getD 0 Pln.zero) ws (l - 1)) (widthBelow_r f (p.Kids.getD 1 Pln.zero) ws (l - 1))

theorem wb_facts {f : Nat} {p : Pln} {ws : List Int} {l : Int} (h : widthBelow_r (f + 1) p ws l ≠ 0) : WF f p ws l := by
 have hpc := parts2 (Pln.Kind p)
 have e : widthBelow_r (f + 1) p ws l = widthBelow_r (f + 1) p ws l := rfl
 conv at e => rhs; unfold widthBelow_r
 simp only [Go.Am.andThen] at e
 cases hA : (bif (bif (((List.length (Pln.Kids p) : Nat) : Int) != ((partsOfKind (Pln.Kind p)).2)) then true else (((List.length (Pln.Exprs p) : Nat) : Int) != widthBelow_j0 p)) then true else (bif (decide (0 < ((partsOfKind (Pln.Kind p)).2))) then (l == 0) else false)) with
 | true => rw [hA, cond_true] at e; exact absurd e h
 | false =>
  rw [hA, cond_false] at e
  cases hB : (bif (bif ((Pln.Kind p) != 1) then ((Pln.Table p) != 0) else false) then true else (bif ((Pln.Kind p) != 8) then (((List.length (Pln.Cols p) : Nat) : Int) != 0) else false)) with
  | true => rw [hB, cond_true] at e; exact absurd e h
  | false =>
   rw [hB, cond_false] at e
   have hA' := or_neg (or_neg hA).1
   have k1 := bne_neg hA'.1
   have k2 := bne_neg hA'.2
   have hl : 0 < p.Kids.length → l ≠ 0 := fun h0 => by
    have := (or_neg hA).2
    rw [decide_eq_true (show 0 < (partsOfKind p.Kind).2 by omega), cond_true] at this
    exact beq_neg this
   have hB := or_neg hB
   have j0 : p.Kind ≠ 3 → widthBelow_j0 p = (partsOfKind p.Kind).1 := fun h => by
    unfold widthBelow_j0
    rw [show (p.Kind == 3) = false by simp [h]]
    rfl
   have hO : OF p := by
    refine ⟨by omega, k1, fun h => by rw [← j0 h]; exact k2, fun h => ?_, fun h => ?_⟩
    ·
     have := hB.1
     rw [show (p.Kind != 1) = true by simp [h], cond_true] at this
     exact bne_neg this
    ·
     have := hB.2
     rw [show (p.Kind != 8) = true by simp [h], cond_true] at this
     have := bne_neg this
     omega
   have h3 : p.Kind = 3 → 1 ≤ ((p.Exprs.length : Nat) : Int) ∧ ((p.Exprs.length : Nat) : Int) ≤ 6 := fun h3 => by
    unfold widthBelow_j0 at k2
    rw [h3] at k2
    simp only [Int.reduceBEq, cond_true] at k2
    cases hv : validWidth ((List.length p.Exprs : Nat) : Int) with
    | true => exact validWidth_iff.1 hv
    | false =>
     rw [hv, cond_false] at k2
     have : (partsOfKind 3).1 = 1 := by decide
     omega
   by_cases h1 : p.Kind = 1
   ·
    rw [show (p.Kind == 1) = true by simp [h1], cond_true] at e
    have ht : 0 ≤ p.Table ∧ p.Table < ((ws.length : Nat) : Int) := by
     refine Decidable.byContradiction fun hn => h ?_
     have d : (bif decide (p.Table < 0) then true else decide (((ws.length : Nat) : Int) ≤ p.Table)) = true := by
      by_cases h : p.Table < 0
      ·
       rw [decide_eq_true h]; rfl
      ·
       rw [decide_eq_false h, decide_eq_true (show ((ws.length : Nat) : Int) ≤ p.Table by omega)]; rfl
     rw [d, cond_true] at e
     exact e
    rw [decide_eq_false (show ¬ p.Table < 0 by omega), decide_eq_false (show ¬ ((ws.length : Nat) : Int) ≤ p.Table by omega)] at e
    exact ⟨hO, fun _ => ⟨ht, e⟩, hl, h3, fun i hi => by omega, fun _ => by omega, fun _ => by omega⟩
   ·
    rw [show (p.Kind == 1) = false by simp [h1], cond_false] at e
    by_cases h2 : p.Kids.length = 2
    ·
     rw [wb2 _ _ _ _ h2] at e
     by_cases ha : widthBelow_r f (p.Kids.getD 0 Pln.zero) ws (l - 1) = 0
     ·
      rw [ha] at e
      exact absurd e h
     ·
      rw [show (widthBelow_r f (p.Kids.getD 0 Pln.zero) ws (l - 1) == 0) = false from beq_false_of_ne ha, cond_false] at e
      by_cases hb : widthBelow_r f (p.Kids.getD 1 Pln.zero) ws (l - 1) = 0
      ·
       rw [hb] at e
       exact absurd e h
      ·
       rw [show (widthBelow_r f (p.Kids.getD 1 Pln.zero) ws (l - 1) == 0) = false from beq_false_of_ne hb, cond_false] at e
       refine ⟨hO, fun h => absurd h h1, hl, h3, fun i hi => ?_, fun _ => by omega, fun _ => e⟩
       rcases Nat.lt_or_ge i 1 with hi1 | hi1
       ·
        rw [show i = 0 by omega]; exact ha
       ·
        rw [show i = 1 by omega]; exact hb
    ·
     have hn : p.Kids.length = 1 := by omega
     rw [wb1 _ _ _ _ hn] at e
     by_cases ha : widthBelow_r f (p.Kids.getD 0 Pln.zero) ws (l - 1) = 0
     ·
      rw [ha] at e
      exact absurd e h
     ·
      rw [show (widthBelow_r f (p.Kids.getD 0 Pln.zero) ws (l - 1) == 0) = false from beq_false_of_ne ha, cond_false] at e
      refine ⟨hO, fun h => absurd h h1, hl, h3, fun i hi => ?_, fun _ => e, fun h => absurd h h2⟩
      rw [show i = 0 by omega]; exact ha

theorem le_mul {a b : Int} (h1 : 0 ≤ a ∧ a ≤ 1000000000) (h2 : 0 ≤ b ∧ b ≤ 1000000000) : 0 ≤ a * b ∧ a * b ≤ 1000000000000000000 :=
 ⟨Int.mul_nonneg h1.1 h2.1, by
  have := Int.mul_le_mul h1.2 h2.2 h2.1 (show (0 : Int) ≤ 1000000000 by decide)
  omega⟩

/-- A plan that is valid for n tables. -/
def PVn (n : Nat) (p : Pln) : Prop := ∃ ws f l, List.length ws = n ∧ SizeOf.sizeOf p < f ∧ widthBelow_r f p ws l ≠ 0

theorem PVn.of {n : Nat} {p : Pln} (h : PVn n p) : OF p ∧ (p.Kind = 1 → 0 ≤ p.Table ∧ p.Table < ((n : Nat) : Int)) ∧ (p.Kind = 3 → 1 ≤ ((p.Exprs.length : Nat) : Int)) := by
 obtain ⟨ws, f, l, h1, h2, h3⟩ := h
 cases f with
 | zero => omega
 | succ f =>
  have hw := wb_facts h3
  exact ⟨hw.of, fun h => by rw [← h1]; exact (hw.scan h).1, fun h => (hw.proj h).1⟩

theorem PVn.kid {n : Nat} {p : Pln} (h : PVn n p) {i : Nat} (hi : i < p.Kids.length) : PVn n (p.Kids.getD i Pln.zero) := by
 obtain ⟨ws, f, l, h1, h2, h3⟩ := h
 cases f with
 | zero => omega
 | succ f =>
  have hw := wb_facts h3
  have := pkid_lt hi
  exact ⟨ws, f, l - 1, h1, by omega, hw.kids i hi⟩

theorem PVn.mk' {p : Pln} {ws : List Int} (h : PlanWidth p ws ≠ 0) : PVn ws.length p := by
 rw [← PlanWidth_same] at h
 unfold iPlanWidth at h
 rw [Pln.eta] at h
 cases hv : ivalidWidths ws with
 | false => rw [hv] at h; exact absurd rfl h
 | true =>
  rw [hv] at h
  exact ⟨ws, _, 8, rfl, Nat.lt_succ_self _, h⟩

def FnExactPlanWidth (aP : Pln) (aWidths : List Int) : Bool := (bif (decide (1048576 < ((List.length aWidths : Nat) : Int))) then true else (bif (decide ((szPlan (Pln.mk (Pln.Kind aP) (Pln.Table aP) (Pln.Exprs aP) (Pln.Cols aP) (Pln.Kids aP)) 1048576) < 0)) then true else (bif ((iPlanWidth (Pln.mk (Pln.Kind (toPlan (Pln.mk (Pln.Kind aP) (Pln.Table aP) (Pln.Exprs aP) (Pln.Cols aP) (Pln.Kids aP)))) (Pln.Table (toPlan (Pln.mk (Pln.Kind aP) (Pln.Table aP) (Pln.Exprs aP) (Pln.Cols aP) (Pln.Kids aP)))) (Pln.Exprs (toPlan (Pln.mk (Pln.Kind aP) (Pln.Table aP) (Pln.Exprs aP) (Pln.Cols aP) (Pln.Kids aP)))) (Pln.Cols (toPlan (Pln.mk (Pln.Kind aP) (Pln.Table aP) (Pln.Exprs aP) (Pln.Cols aP) (Pln.Kids aP)))) (Pln.Kids (toPlan (Pln.mk (Pln.Kind aP) (Pln.Table aP) (Pln.Exprs aP) (Pln.Cols aP) (Pln.Kids aP))))) (toIntS aWidths)) != (PlanWidth (toPlan (Pln.mk (Pln.Kind aP) (Pln.Table aP) (Pln.Exprs aP) (Pln.Cols aP) (Pln.Kids aP))) (toIntS aWidths))) then false else (bif (!(eqPlan (Pln.mk (Pln.Kind (toPlan (Pln.mk (Pln.Kind aP) (Pln.Table aP) (Pln.Exprs aP) (Pln.Cols aP) (Pln.Kids aP)))) (Pln.Table (toPlan (Pln.mk (Pln.Kind aP) (Pln.Table aP) (Pln.Exprs aP) (Pln.Cols aP) (Pln.Kids aP)))) (Pln.Exprs (toPlan (Pln.mk (Pln.Kind aP) (Pln.Table aP) (Pln.Exprs aP) (Pln.Cols aP) (Pln.Kids aP)))) (Pln.Cols (toPlan (Pln.mk (Pln.Kind aP) (Pln.Table aP) (Pln.Exprs aP) (Pln.Cols aP) (Pln.Kids aP)))) (Pln.Kids (toPlan (Pln.mk (Pln.Kind aP) (Pln.Table aP) (Pln.Exprs aP) (Pln.Cols aP) (Pln.Kids aP))))) (toPlan (Pln.mk (Pln.Kind aP) (Pln.Table aP) (Pln.Exprs aP) (Pln.Cols aP) (Pln.Kids aP))))) then false else (bif (!(eqIntS (toIntS aWidths) (toIntS aWidths))) then false else true)))))

def FnExactPlanWidth_sp : FnSpec := mkSpec [.val (.named 2), .val (.slice (.int .i64))] [.val .bool] (fun (aP : Pln) (aWidths : List Int) => True) (fun (aP : Pln) (aWidths : List Int) => [⟨.bool, (FnExactPlanWidth aP aWidths)⟩])

theorem FnExactPlanWidth_ok : FnOK Try.prog 11 FnExactPlanWidth_sp := by
 have hC : CtxOK Try.prog (mkCtx tyL [(15, szPlan_sp), (18, toPlan_sp), (21, eqPlan_sp), (30, toIntS_sp), (34, eqIntS_sp), (53, PlanWidth_sp), (54, iPlanWidth_sp)]) := CtxOK.cons szPlan_ok (CtxOK.cons toPlan_ok (CtxOK.cons eqPlan_ok (CtxOK.cons toIntS_ok (CtxOK.cons eqIntS_ok (CtxOK.cons PlanWidth_ok (CtxOK.cons iPlanWidth_ok (CtxOK.nil tyOK)))))))
 have hM : Try.prog.follows .mixedOrders = true := Try.checked.mixed
 refine FnOK.of_body Try.func11 (by kernel_rfl) rfl (C := (mkCtx tyL [(15, szPlan_sp), (18, toPlan_sp), (21, eqPlan_sp), (30, toIntS_sp), (34, eqIntS_sp), (53, PlanWidth_sp), (54, iPlanWidth_sp)])) hC.ty (by kernel_rfl) ?_
 intro (aP : Pln) (aWidths : List Int) hwf hpre E
 have hpre : True := hpre
 have hw_aP : Wf ⟨(.named 2), (aP : Pln)⟩ := hwf _ (List.Mem.head _)
 obtain ⟨hr_aP_Kind, hr_aP_Table, hl_aP_Exprs, hl_aP_Cols, hl_aP_Kids⟩ := Pln.wfl hw_aP
 have hw_aWidths : Wf ⟨(.slice (.int .i64)), (aWidths : List Int)⟩ := hwf _ (List.Mem.tail _ (List.Mem.head _))
 have hl_aWidths : ((List.length aWidths : Nat) : Int) ≤ 9223372036854775807 := hw_aWidths.len
 have e0 : FnExactPlanWidth aP aWidths = FnExactPlanWidth aP aWidths := rfl
 refine AW.seq (AW.r1 hC [1, 2] [8] ⟨[(1, sD7 aWidths), (2, .ref 8 1 0)], [(8, .box 1 [sI (Pln.Kind aP), sI (Pln.Table aP), sD9 (Pln.Exprs aP), sD7 (Pln.Cols aP), sD10 (Pln.Kids aP)])]⟩ ?_)
 refine AW.seq (AW.seq (AW.r1 hC [1, 2, 12] [8] ⟨[(1, sD7 aWidths), (2, .ref 8 1 0), (12, sB (decide (1048576 < ((List.length aWidths : Nat) : Int))))], [(8, .box 1 [sI (Pln.Kind aP), sI (Pln.Table aP), sD9 (Pln.Exprs aP), sD7 (Pln.Cols aP), sD10 (Pln.Kids aP)])]⟩ ?_))
 refine AW.cd (decide (1048576 < ((List.length aWidths : Nat) : Int))) ?_ ?_
 ·
  intro h1
  have h1q := (of_decide_eq_true h1)
  have e2 := e0.trans (Go.Am.bif_t h1)
  refine AW.seq (AW.r1 hC [4] [] ⟨[(4, sB true)], []⟩ ?_)
  exact AW.ret (AW.rB true e2)
 ·
  intro h3
  have h3q := (of_decide_eq_false h3)
  have e4 := e0.trans (Go.Am.bif_f h3)
  refine AW.kp [1, 2] [8] ⟨[(1, sD7 aWidths), (2, .ref 8 1 0)], [(8, .box 1 [sI (Pln.Kind aP), sI (Pln.Table aP), sD9 (Pln.Exprs aP), sD7 (Pln.Cols aP), sD10 (Pln.Kids aP)])]⟩ ?_
  refine AW.skip (AW.seq (AW.r1 hC [1, 2, 5] [8] ⟨[(1, sD7 aWidths), (2, .ref 8 1 0), (5, sI 1048576)], [(8, .box 1 [sI (Pln.Kind aP), sI (Pln.Table aP), sD9 (Pln.Exprs aP), sD7 (Pln.Cols aP), sD10 (Pln.Kids aP)])]⟩ ?_))
  refine AW.seq (AW.r0 hC [1, 2, 5] [8] ⟨[(1, sD7 aWidths), (2, .ref 8 1 0), (5, sI (szPlan (Pln.mk (Pln.Kind aP) (Pln.Table aP) (Pln.Exprs aP) (Pln.Cols aP) (Pln.Kids aP)) 1048576))], [(8, .box 1 [sI (Pln.Kind aP), sI (Pln.Table aP), sD9 (Pln.Exprs aP), sD7 (Pln.Cols aP), sD10 (Pln.Kids aP)])]⟩ [(0 ≤ (1048576 : Int))] ?_ ?_)
  ·
   refine ⟨?_, trivial⟩
   ·
    omega
  refine AW.seq (AW.seq (AW.r1 hC [1, 2, 17] [8] ⟨[(1, sD7 aWidths), (2, .ref 8 1 0), (17, sB (decide ((szPlan (Pln.mk (Pln.Kind aP) (Pln.Table aP) (Pln.Exprs aP) (Pln.Cols aP) (Pln.Kids aP)) 1048576) < 0)))], [(8, .box 1 [sI (Pln.Kind aP), sI (Pln.Table aP), sD9 (Pln.Exprs aP), sD7 (Pln.Cols aP), sD10 (Pln.Kids aP)])]⟩ ?_))
  refine AW.cd (decide ((szPlan (Pln.mk (Pln.Kind aP) (Pln.Table aP) (Pln.Exprs aP) (Pln.Cols aP) (Pln.Kids aP)) 1048576) < 0)) ?_ ?_
  ·
   intro h5
   have h5q := (of_decide_eq_true h5)
   have e6 := e4.trans (Go.Am.bif_t h5)
   refine AW.seq (AW.r1 hC [4] [] ⟨[(4, sB true)], []⟩ ?_)
   exact AW.ret (AW.rB true e6)
  ·
   intro h7
   have h7q := (of_decide_eq_false h7)
   have e8 := e4.trans (Go.Am.bif_f h7)
   refine AW.kp [1, 2] [8] ⟨[(1, sD7 aWidths), (2, .ref 8 1 0)], [(8, .box 1 [sI (Pln.Kind aP), sI (Pln.Table aP), sD9 (Pln.Exprs aP), sD7 (Pln.Cols aP), sD10 (Pln.Kids aP)])]⟩ ?_
   refine AW.skip (AW.seq (AW.r0 hC [1, 2, 6] [8] ⟨[(1, sD7 aWidths), (2, .ref 8 1 0), (6, sI (PlanWidth (toPlan (Pln.mk (Pln.Kind aP) (Pln.Table aP) (Pln.Exprs aP) (Pln.Cols aP) (Pln.Kids aP))) (toIntS aWidths)))], [(8, .box 1 [sI (Pln.Kind aP), sI (Pln.Table aP), sD9 (Pln.Exprs aP), sD7 (Pln.Cols aP), sD10 (Pln.Kids aP)])]⟩ [(FitsP (Pln.mk (Pln.Kind aP) (Pln.Table aP) (Pln.Exprs aP) (Pln.Cols aP) (Pln.Kids aP))), ((List.length aWidths : Int) ≤ 1048576), (True)] ?_ ?_))
   ·
    refine ⟨?_, ?_, ?_, trivial⟩
    ·
     exact FitsP.of (l := 1048576) ⟨by decide, by decide⟩ (by first | exact h7q | exact h3q | exact trivial | exact trivial)
    ·
     omega
    ·
     trivial
   refine AW.seq (AW.r0 hC [1, 2, 6, 7] [8, 28] ⟨[(1, sD7 aWidths), (2, .ref 8 1 0), (6, sI (PlanWidth (toPlan (Pln.mk (Pln.Kind aP) (Pln.Table aP) (Pln.Exprs aP) (Pln.Cols aP) (Pln.Kids aP))) (toIntS aWidths))), (7, .ref 28 1 0)], [(8, .box 1 [sI (Pln.Kind aP), sI (Pln.Table aP), sD9 (Pln.Exprs aP), sD7 (Pln.Cols aP), sD10 (Pln.Kids aP)]), (28, .box 1 [sI (Pln.Kind (toPlan (Pln.mk (Pln.Kind aP) (Pln.Table aP) (Pln.Exprs aP) (Pln.Cols aP) (Pln.Kids aP)))), sI (Pln.Table (toPlan (Pln.mk (Pln.Kind aP) (Pln.Table aP) (Pln.Exprs aP) (Pln.Cols aP) (Pln.Kids aP)))), sD9 (Pln.Exprs (toPlan (Pln.mk (Pln.Kind aP) (Pln.Table aP) (Pln.Exprs aP) (Pln.Cols aP) (Pln.Kids aP)))), sD7 (Pln.Cols (toPlan (Pln.mk (Pln.Kind aP) (Pln.Table aP) (Pln.Exprs aP) (Pln.Cols aP) (Pln.Kids aP)))), sD10 (Pln.Kids (toPlan (Pln.mk (Pln.Kind aP) (Pln.Table aP) (Pln.Exprs aP) (Pln.Cols aP) (Pln.Kids aP))))])]⟩ [(FitsP (Pln.mk (Pln.Kind aP) (Pln.Table aP) (Pln.Exprs aP) (Pln.Cols aP) (Pln.Kids aP)))] ?_ ?_)
   ·
    refine ⟨?_, trivial⟩
    ·
     exact FitsP.of (l := 1048576) ⟨by decide, by decide⟩ (by first | exact h7q | exact h3q | exact trivial | exact trivial)
   refine AW.seq (AW.r0 hC [1, 2, 6, 7, 8] [8, 28, 104] ⟨[(1, sD7 aWidths), (2, .ref 8 1 0), (6, sI (PlanWidth (toPlan (Pln.mk (Pln.Kind aP) (Pln.Table aP) (Pln.Exprs aP) (Pln.Cols aP) (Pln.Kids aP))) (toIntS aWidths))), (7, .ref 28 1 0), (8, .arr 104 1)], [(8, .box 1 [sI (Pln.Kind aP), sI (Pln.Table aP), sD9 (Pln.Exprs aP), sD7 (Pln.Cols aP), sD10 (Pln.Kids aP)]), (28, .box 1 [sI (Pln.Kind (toPlan (Pln.mk (Pln.Kind aP) (Pln.Table aP) (Pln.Exprs aP) (Pln.Cols aP) (Pln.Kids aP)))), sI (Pln.Table (toPlan (Pln.mk (Pln.Kind aP) (Pln.Table aP) (Pln.Exprs aP) (Pln.Cols aP) (Pln.Kids aP)))), sD9 (Pln.Exprs (toPlan (Pln.mk (Pln.Kind aP) (Pln.Table aP) (Pln.Exprs aP) (Pln.Cols aP) (Pln.Kids aP)))), sD7 (Pln.Cols (toPlan (Pln.mk (Pln.Kind aP) (Pln.Table aP) (Pln.Exprs aP) (Pln.Cols aP) (Pln.Kids aP)))), sD10 (Pln.Kids (toPlan (Pln.mk (Pln.Kind aP) (Pln.Table aP) (Pln.Exprs aP) (Pln.Cols aP) (Pln.Kids aP))))]), (104, .arr 1 (.int .i64) ((toIntS aWidths) : List Int))]⟩ [((List.length aWidths : Int) ≤ 1048576)] ?_ ?_)
   ·
    refine ⟨?_, trivial⟩
    ·
     omega
   refine AW.seq (AW.r0 hC [1, 2, 6, 7, 8, 9] [8, 28, 104] ⟨[(1, sD7 aWidths), (2, .ref 8 1 0), (6, sI (PlanWidth (toPlan (Pln.mk (Pln.Kind aP) (Pln.Table aP) (Pln.Exprs aP) (Pln.Cols aP) (Pln.Kids aP))) (toIntS aWidths))), (7, .ref 28 1 0), (8, .arr 104 1), (9, sI (iPlanWidth (Pln.mk (Pln.Kind (toPlan (Pln.mk (Pln.Kind aP) (Pln.Table aP) (Pln.Exprs aP) (Pln.Cols aP) (Pln.Kids aP)))) (Pln.Table (toPlan (Pln.mk (Pln.Kind aP) (Pln.Table aP) (Pln.Exprs aP) (Pln.Cols aP) (Pln.Kids aP)))) (Pln.Exprs (toPlan (Pln.mk (Pln.Kind aP) (Pln.Table aP) (Pln.Exprs aP) (Pln.Cols aP) (Pln.Kids aP)))) (Pln.Cols (toPlan (Pln.mk (Pln.Kind aP) (Pln.Table aP) (Pln.Exprs aP) (Pln.Cols aP) (Pln.Kids aP)))) (Pln.Kids (toPlan (Pln.mk (Pln.Kind aP) (Pln.Table aP) (Pln.Exprs aP) (Pln.Cols aP) (Pln.Kids aP))))) (toIntS aWidths)))], [(8, .box 1 [sI (Pln.Kind aP), sI (Pln.Table aP), sD9 (Pln.Exprs aP), sD7 (Pln.Cols aP), sD10 (Pln.Kids aP)]), (28, .box 1 [sI (Pln.Kind (toPlan (Pln.mk (Pln.Kind aP) (Pln.Table aP) (Pln.Exprs aP) (Pln.Cols aP) (Pln.Kids aP)))), sI (Pln.Table (toPlan (Pln.mk (Pln.Kind aP) (Pln.Table aP) (Pln.Exprs aP) (Pln.Cols aP) (Pln.Kids aP)))), sD9 (Pln.Exprs (toPlan (Pln.mk (Pln.Kind aP) (Pln.Table aP) (Pln.Exprs aP) (Pln.Cols aP) (Pln.Kids aP)))), sD7 (Pln.Cols (toPlan (Pln.mk (Pln.Kind aP) (Pln.Table aP) (Pln.Exprs aP) (Pln.Cols aP) (Pln.Kids aP)))), sD10 (Pln.Kids (toPlan (Pln.mk (Pln.Kind aP) (Pln.Table aP) (Pln.Exprs aP) (Pln.Cols aP) (Pln.Kids aP))))]), (104, .arr 1 (.int .i64) ((toIntS aWidths) : List Int))]⟩ [(True)] ?_ ?_)
   ·
    refine ⟨?_, trivial⟩
    ·
     trivial
   refine AW.seq (AW.seq (AW.r1 hC [1, 2, 7, 8, 32] [8, 28, 104] ⟨[(1, sD7 aWidths), (2, .ref 8 1 0), (7, .ref 28 1 0), (8, .arr 104 1), (32, sB ((iPlanWidth (Pln.mk (Pln.Kind (toPlan (Pln.mk (Pln.Kind aP) (Pln.Table aP) (Pln.Exprs aP) (Pln.Cols aP) (Pln.Kids aP)))) (Pln.Table (toPlan (Pln.mk (Pln.Kind aP) (Pln.Table aP) (Pln.Exprs aP) (Pln.Cols aP) (Pln.Kids aP)))) (Pln.Exprs (toPlan (Pln.mk (Pln.Kind aP) (Pln.Table aP) (Pln.Exprs aP) (Pln.Cols aP) (Pln.Kids aP)))) (Pln.Cols (toPlan (Pln.mk (Pln.Kind aP) (Pln.Table aP) (Pln.Exprs aP) (Pln.Cols aP) (Pln.Kids aP)))) (Pln.Kids (toPlan (Pln.mk (Pln.Kind aP) (Pln.Table aP) (Pln.Exprs aP) (Pln.Cols aP) (Pln.Kids aP))))) (toIntS aWidths)) != (PlanWidth (toPlan (Pln.mk (Pln.Kind aP) (Pln.Table aP) (Pln.Exprs aP) (Pln.Cols aP) (Pln.Kids aP))) (toIntS aWidths))))], [(8, .box 1 [sI (Pln.Kind aP), sI (Pln.Table aP), sD9 (Pln.Exprs aP), sD7 (Pln.Cols aP), sD10 (Pln.Kids aP)]), (28, .box 1 [sI (Pln.Kind (toPlan (Pln.mk (Pln.Kind aP) (Pln.Table aP) (Pln.Exprs aP) (Pln.Cols aP) (Pln.Kids aP)))), sI (Pln.Table (toPlan (Pln.mk (Pln.Kind aP) (Pln.Table aP) (Pln.Exprs aP) (Pln.Cols aP) (Pln.Kids aP)))), sD9 (Pln.Exprs (toPlan (Pln.mk (Pln.Kind aP) (Pln.Table aP) (Pln.Exprs aP) (Pln.Cols aP) (Pln.Kids aP)))), sD7 (Pln.Cols (toPlan (Pln.mk (Pln.Kind aP) (Pln.Table aP) (Pln.Exprs aP) (Pln.Cols aP) (Pln.Kids aP)))), sD10 (Pln.Kids (toPlan (Pln.mk (Pln.Kind aP) (Pln.Table aP) (Pln.Exprs aP) (Pln.Cols aP) (Pln.Kids aP))))]), (104, .arr 1 (.int .i64) ((toIntS aWidths) : List Int))]⟩ ?_))
   refine AW.cd ((iPlanWidth (Pln.mk (Pln.Kind (toPlan (Pln.mk (Pln.Kind aP) (Pln.Table aP) (Pln.Exprs aP) (Pln.Cols aP) (Pln.Kids aP)))) (Pln.Table (toPlan (Pln.mk (Pln.Kind aP) (Pln.Table aP) (Pln.Exprs aP) (Pln.Cols aP) (Pln.Kids aP)))) (Pln.Exprs (toPlan (Pln.mk (Pln.Kind aP) (Pln.Table aP) (Pln.Exprs aP) (Pln.Cols aP) (Pln.Kids aP)))) (Pln.Cols (toPlan (Pln.mk (Pln.Kind aP) (Pln.Table aP) (Pln.Exprs aP) (Pln.Cols aP) (Pln.Kids aP)))) (Pln.Kids (toPlan (Pln.mk (Pln.Kind aP) (Pln.Table aP) (Pln.Exprs aP) (Pln.Cols aP) (Pln.Kids aP))))) (toIntS aWidths)) != (PlanWidth (toPlan (Pln.mk (Pln.Kind aP) (Pln.Table aP) (Pln.Exprs aP) (Pln.Cols aP) (Pln.Kids aP))) (toIntS aWidths))) ?_ ?_
   ·
    intro h9
    have h9q := (Go.Am.bne_pos h9)
    have e10 := e8.trans (Go.Am.bif_t h9)
    refine AW.seq (AW.r1 hC [4] [] ⟨[(4, sB false)], []⟩ ?_)
    exact AW.ret (AW.rB false e10)
   ·
    intro h11
    have h11q := (Go.Am.bne_neg h11)
    have e12 := e8.trans (Go.Am.bif_f h11)
    refine AW.kp [1, 2, 7, 8] [8, 28, 104] ⟨[(1, sD7 aWidths), (2, .ref 8 1 0), (7, .ref 28 1 0), (8, .arr 104 1)], [(8, .box 1 [sI (Pln.Kind aP), sI (Pln.Table aP), sD9 (Pln.Exprs aP), sD7 (Pln.Cols aP), sD10 (Pln.Kids aP)]), (28, .box 1 [sI (Pln.Kind (toPlan (Pln.mk (Pln.Kind aP) (Pln.Table aP) (Pln.Exprs aP) (Pln.Cols aP) (Pln.Kids aP)))), sI (Pln.Table (toPlan (Pln.mk (Pln.Kind aP) (Pln.Table aP) (Pln.Exprs aP) (Pln.Cols aP) (Pln.Kids aP)))), sD9 (Pln.Exprs (toPlan (Pln.mk (Pln.Kind aP) (Pln.Table aP) (Pln.Exprs aP) (Pln.Cols aP) (Pln.Kids aP)))), sD7 (Pln.Cols (toPlan (Pln.mk (Pln.Kind aP) (Pln.Table aP) (Pln.Exprs aP) (Pln.Cols aP) (Pln.Kids aP)))), sD10 (Pln.Kids (toPlan (Pln.mk (Pln.Kind aP) (Pln.Table aP) (Pln.Exprs aP) (Pln.Cols aP) (Pln.Kids aP))))]), (104, .arr 1 (.int .i64) ((toIntS aWidths) : List Int))]⟩ ?_
    refine AW.skip (AW.seq (AW.seq (AW.d0 hC hM [1, 8, 37] [104] ⟨[(1, sD7 aWidths), (8, .arr 104 1), (37, sB (!(eqPlan (Pln.mk (Pln.Kind (toPlan (Pln.mk (Pln.Kind aP) (Pln.Table aP) (Pln.Exprs aP) (Pln.Cols aP) (Pln.Kids aP)))) (Pln.Table (toPlan (Pln.mk (Pln.Kind aP) (Pln.Table aP) (Pln.Exprs aP) (Pln.Cols aP) (Pln.Kids aP)))) (Pln.Exprs (toPlan (Pln.mk (Pln.Kind aP) (Pln.Table aP) (Pln.Exprs aP) (Pln.Cols aP) (Pln.Kids aP)))) (Pln.Cols (toPlan (Pln.mk (Pln.Kind aP) (Pln.Table aP) (Pln.Exprs aP) (Pln.Cols aP) (Pln.Kids aP)))) (Pln.Kids (toPlan (Pln.mk (Pln.Kind aP) (Pln.Table aP) (Pln.Exprs aP) (Pln.Cols aP) (Pln.Kids aP))))) (toPlan (Pln.mk (Pln.Kind aP) (Pln.Table aP) (Pln.Exprs aP) (Pln.Cols aP) (Pln.Kids aP))))))], [(104, .arr 1 (.int .i64) ((toIntS aWidths) : List Int))]⟩ [(FitsP (Pln.mk (Pln.Kind aP) (Pln.Table aP) (Pln.Exprs aP) (Pln.Cols aP) (Pln.Kids aP))), (True)] ?_ ?_)))
    ·
     refine ⟨?_, ?_, trivial⟩
     ·
      exact FitsP.of (l := 1048576) ⟨by decide, by decide⟩ (by first | exact h11q | exact h7q | exact h3q | exact trivial)
     ·
      trivial
    refine AW.cd (!(eqPlan (Pln.mk (Pln.Kind (toPlan (Pln.mk (Pln.Kind aP) (Pln.Table aP) (Pln.Exprs aP) (Pln.Cols aP) (Pln.Kids aP)))) (Pln.Table (toPlan (Pln.mk (Pln.Kind aP) (Pln.Table aP) (Pln.Exprs aP) (Pln.Cols aP) (Pln.Kids aP)))) (Pln.Exprs (toPlan (Pln.mk (Pln.Kind aP) (Pln.Table aP) (Pln.Exprs aP) (Pln.Cols aP) (Pln.Kids aP)))) (Pln.Cols (toPlan (Pln.mk (Pln.Kind aP) (Pln.Table aP) (Pln.Exprs aP) (Pln.Cols aP) (Pln.Kids aP)))) (Pln.Kids (toPlan (Pln.mk (Pln.Kind aP) (Pln.Table aP) (Pln.Exprs aP) (Pln.Cols aP) (Pln.Kids aP))))) (toPlan (Pln.mk (Pln.Kind aP) (Pln.Table aP) (Pln.Exprs aP) (Pln.Cols aP) (Pln.Kids aP))))) ?_ ?_
    ·
     intro h13
     have h13q := (Go.Am.not_pos h13)
     have e14 := e12.trans (Go.Am.bif_t h13)
     refine AW.seq (AW.r1 hC [4] [] ⟨[(4, sB false)], []⟩ ?_)
     exact AW.ret (AW.rB false e14)
    ·
     intro h15
     have h15q := (Go.Am.not_neg h15)
     have e16 := e12.trans (Go.Am.bif_f h15)
     refine AW.kp [1, 8] [104] ⟨[(1, sD7 aWidths), (8, .arr 104 1)], [(104, .arr 1 (.int .i64) ((toIntS aWidths) : List Int))]⟩ ?_
     refine AW.skip (AW.seq (AW.seq (AW.r0 hC [42] [] ⟨[(42, sB (!(eqIntS (toIntS aWidths) (toIntS aWidths))))], []⟩ [((List.length aWidths : Int) ≤ 1048576), (True)] ?_ ?_)))
     ·
      refine ⟨?_, ?_, trivial⟩
      ·
       omega
      ·
       trivial
     refine AW.cd (!(eqIntS (toIntS aWidths) (toIntS aWidths))) ?_ ?_
     ·
      intro h17
      have h17q := (Go.Am.not_pos h17)
      have e18 := e16.trans (Go.Am.bif_t h17)
      refine AW.seq (AW.r1 hC [4] [] ⟨[(4, sB false)], []⟩ ?_)
      exact AW.ret (AW.rB false e18)
     ·
      intro h19
      have h19q := (Go.Am.not_neg h19)
      have e20 := e16.trans (Go.Am.bif_f h19)
      refine AW.kp [] [] ⟨[], []⟩ ?_
      refine AW.skip (AW.seq (AW.r1 hC [4] [] ⟨[(4, sB true)], []⟩ ?_))
      exact AW.ret (AW.rB true e20)

theorem FnExactPlanWidth_law (p : Pln) (ws : List Int) : FnExactPlanWidth p ws = true := by
 unfold FnExactPlanWidth
 rw [Pln.eta, Pln.eta, PlanWidth_same, eqPlan_self, eqIntS_self]
 simp

end
end Go.Proofs.Ytodcdgolcbdkgaa
