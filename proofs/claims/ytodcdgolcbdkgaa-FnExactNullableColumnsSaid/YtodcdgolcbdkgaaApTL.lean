/-
  A part of the proof of this claim (ApTL): what functions of the program compute, and plain facts of that. No conditions.
-/
import Derived.Test.YtodcdgolcbdkgaaApTK
import Derived.Test.YtodcdgolcbdkgaaAnV
set_option linter.all false
namespace Go.Proofs.Ytodcdgolcbdkgaa
open Go Go.Am
open Go.Am.AW (seq r1U ret kpU cdE r0U r1 rB r0 kp d0U)
open List (length getD)
noncomputable section

theorem szB_le {a : List (List Bool)} : ∀ (k : Nat) (l : Int) (i : Nat), 0 ≤ l → a.length - i < k → ¬ Sum.elim (fun z => z) (fun r => r) (szBoolSS_l0 a k l i) < 0 → ∀ j, i ≤ j → j < a.length → (length (getD a j []) : Int) ≤ l := by
 intro k
 induction k with
 | zero => intro l i _ h; omega
 | succ k ih =>
  intro l i hl hk h j hj hn; unfold szBoolSS_l0 at h; by_cases hi : i < a.length
  ·
   rw [lt_dec hi, cond_true] at h; by_cases h1 : szBoolS (a.getD i []) l < 0
   · rw [decide_eq_true h1, cond_true] at h; exact absurd (by decide) h
   ·
    rw [decide_eq_false h1, cond_false] at h; have h2 := szBoolS_ge (a := a.getD i []) hl; rcases Nat.eq_or_lt_of_le hj with rfl | hj
    ·
     unfold szBoolS at h1; by_cases e : l - (length (a.getD i []) : Int) < 0
     · rw [decide_eq_true e, cond_true] at h1; exact absurd (by decide) h1
     · omega
    · have := ih _ (i + 1) (by omega) (by omega) h j hj hn; omega
  · omega

theorem szB_fit {p : Pln} {a : List (List Bool)} (hp : ¬ szPlan p 1048576 < 0) (h : ¬ szBoolSS a (szPlan p 1048576) < 0) : (length a : Int) ≤ 1048576 ∧ ∀ i : Nat, i < length a → (length (getD a i []) : Int) ≤ 1048576 := by
 have hl : szPlan p 1048576 ≤ 1048576 := szP_le _ p 1048576 (by decide); generalize szPlan p 1048576 = l at *; unfold szBoolSS at h; by_cases e : l - (length a : Int) < 0
 · rw [decide_eq_true e, cond_true] at h; exact absurd (by decide) h
 · rw [decide_eq_false e, cond_false] at h; refine ⟨by omega, fun i hi => ?_⟩; have := szB_le _ _ 0 (by omega) (by omega) h i (by omega) hi; omega

abbrev eP (aP : Pln) : Pln := (Pln.mk (Pln.Kind aP) (Pln.Table aP) (Pln.Exprs aP) (Pln.Cols aP) (Pln.Kids aP))
abbrev dP (aP : Pln) : Pln := (toPlanD (eP aP))
abbrev fP (aP : Pln) : Pln := (Pln.mk (Pln.Kind (dP aP)) (Pln.Table (dP aP)) (Pln.Exprs (dP aP)) (Pln.Cols (dP aP)) (Pln.Kids (dP aP)))
abbrev gN (aP : Pln) (aWidths : List Int) (aFlags : List (List Bool)) : List Bool := (iNullableColumns (fP aP) (toIntS aWidths) (toBoolSS aFlags))
abbrev wN (aP : Pln) (aWidths : List Int) (aFlags : List (List Bool)) : List Bool := (NullableColumns (fP aP) (toIntS aWidths) (toBoolSS aFlags))

def FnExactNullableColumns (aP : Pln) (aWidths : List Int) (aFlags : List (List Bool)) : Bool := (bif (decide (1048576 < (length aWidths : Int))) then true else (bif (decide ((szPlan (eP aP) 1048576) < 0)) then true else (bif (decide ((szBoolSS aFlags (szPlan (eP aP) 1048576)) < 0)) then true else (bif (!(eqBoolS (gN aP aWidths aFlags) (wN aP aWidths aFlags))) then false else (bif (!(eqPlan (fP aP) (fP aP))) then false else (bif (!(eqIntS (toIntS aWidths) (toIntS aWidths))) then false else (bif (!(eqBoolSS (toBoolSS aFlags) (toBoolSS aFlags))) then false else (bif (bif (decide ((markBoolSS (toBoolSS aFlags) ((markIntS (toIntS aWidths) ((markPlanS (Pln.Kids (dP aP)) ((markIntS (Pln.Cols (dP aP)) ((markExprS (Pln.Exprs (dP aP)) 1).2)).2)).2)).2)).2 < 0)) then true else (!(eqBoolS (gN aP aWidths aFlags) (wN aP aWidths aFlags)))) then false else (bif (decide ((heldBoolS ((markBoolS (gN aP aWidths aFlags) 1).1) 1) < 0)) then false else (bif ((heldBoolS ((markBoolS (gN aP aWidths aFlags) 1).1) 1) != (markBoolS (gN aP aWidths aFlags) 1).2) then false else (bif (!(eqBoolS (gN aP aWidths aFlags) (wN aP aWidths aFlags))) then false else (bif (decide ((heldBoolS ((markBoolS (gN aP aWidths aFlags) 1).1) 1) < 0)) then false else (bif ((heldBoolS ((markBoolS (gN aP aWidths aFlags) 1).1) 1) != (markBoolS (gN aP aWidths aFlags) 1).2) then false else true)))))))))))))

def FnExactNullableColumns_sp : FnSpec := mkSpec [.val (.named 2), .val (.slice (.int .i64)), .val (.slice (.slice .bool))] [.val .bool] (fun (aP : Pln) (aWidths : List Int) (aFlags : List (List Bool)) => True) (fun (aP : Pln) (aWidths : List Int) (aFlags : List (List Bool)) => [⟨.bool, (FnExactNullableColumns aP aWidths aFlags)⟩])

theorem FnExactNullableColumns_ok : FnOK Try.prog 5 FnExactNullableColumns_sp := by
 have hC : CtxOK Try.prog { (mkCtx tyL [(15, szPlan_sp), (18, toPlanD_sp), (21, eqPlan_sp), (28, szBoolSS_sp), (29, NullableColumns_sp), (30, toIntS_sp), (31, toBoolSS_sp), (32, iNullableColumns_sp), (33, eqBoolS_sp), (34, eqIntS_sp), (35, eqBoolSS_sp), (40, heldBoolS_sp)]) with deep := true } := CtxOK.deepen (CtxOK.cons szPlan_ok (CtxOK.cons toPlanD_ok (CtxOK.cons eqPlan_ok (CtxOK.cons szBoolSS_ok (CtxOK.cons NullableColumns_ok (CtxOK.cons toIntS_ok (CtxOK.cons toBoolSS_ok (CtxOK.cons iNullableColumns_ok (CtxOK.cons eqBoolS_ok (CtxOK.cons eqIntS_ok (CtxOK.cons eqBoolSS_ok (CtxOK.cons heldBoolS_ok (CtxOK.nil tyOK))))))))))))); have hM : Try.prog.follows .mixedOrders = true := Try.checked.mixed; have hC1 := hC.rebase 1000; refine FnOK.of_body Try.func5 (by kernel_rfl) rfl (C := { (mkCtx tyL [(15, szPlan_sp), (18, toPlanD_sp), (21, eqPlan_sp), (28, szBoolSS_sp), (29, NullableColumns_sp), (30, toIntS_sp), (31, toBoolSS_sp), (32, iNullableColumns_sp), (33, eqBoolS_sp), (34, eqIntS_sp), (35, eqBoolSS_sp), (40, heldBoolS_sp)]) with deep := true }) hC.ty (by kernel_rfl) ?_; intro (aP : Pln) (aWidths : List Int) (aFlags : List (List Bool)) hwf hpre E; have hpre : True := hpre; have e0 : FnExactNullableColumns aP aWidths aFlags = FnExactNullableColumns aP aWidths aFlags := rfl; refine seq (r1U hC [1, 2, 3] [12] [(3, .ref 12 1 0)] [(12, .box 1 [sI (Pln.Kind aP), sI (Pln.Table aP), sD9 (Pln.Exprs aP), sD7 (Pln.Cols aP), sD10 (Pln.Kids aP)])] ?_); refine seq (seq (r1U hC [1, 2, 3, 19] [12] [(19, sB (decide (1048576 < (length aWidths : Int))))] [] ?_)); refine cdE e0 ?_ ?_
 · intro h1q e2; refine seq (r1 hC [6] [] ⟨[(6, sB true)], []⟩ ?_); exact ret (rB _ e2)
 ·
  intro h3q e4; refine kpU [1, 2, 3] [12] [] [] ?_; refine AW.skip (seq (r1U hC [1, 2, 3, 7] [12] [(7, sI 1048576)] [] ?_)); refine seq (r0U hC [1, 2, 3, 7] [12] [(7, sI (szPlan (eP aP) 1048576))] [] [(0 ≤ (1048576 : Int))] ?_ ?_)
  ·
   exact ⟨(by omega), trivial⟩
  refine seq (seq (r1U hC [1, 2, 3, 7, 24] [12] [(24, sB (decide ((szPlan (eP aP) 1048576) < 0)))] [] ?_)); refine cdE e4 ?_ ?_
  · intro h5q e6; refine seq (r1 hC [6] [] ⟨[(6, sB true)], []⟩ ?_); exact ret (rB _ e6)
  ·
   intro h7q e8; refine kpU [1, 2, 3, 7] [12] [] [] ?_; refine AW.skip (seq (r0U hC [1, 2, 3, 7] [12] [(7, sI (szBoolSS aFlags (szPlan (eP aP) 1048576)))] [] [(0 ≤ (szPlan (eP aP) 1048576))] ?_ ?_))
   ·
    exact ⟨(by omega), trivial⟩
   refine seq (seq (r1U hC [1, 2, 3, 29] [12] [(29, sB (decide ((szBoolSS aFlags (szPlan (eP aP) 1048576)) < 0)))] [] ?_)); refine cdE e8 ?_ ?_
   · intro h9q e10; refine seq (r1 hC [6] [] ⟨[(6, sB true)], []⟩ ?_); exact ret (rB _ e10)
   ·
    intro h11q e12; refine kpU [1, 2, 3] [12] [] [] ?_; refine AW.skip (seq (r0 hC [1, 2, 3, 8] [12, 144] ⟨[(1, sD7 aWidths), (2, sD12 aFlags), (3, .ref 12 1 0), (8, .arr 144 1)], [(12, .box 1 [sI (Pln.Kind aP), sI (Pln.Table aP), sD9 (Pln.Exprs aP), sD7 (Pln.Cols aP), sD10 (Pln.Kids aP)]), (144, .arr 1 .bool ((wN aP aWidths aFlags) : List Bool))]⟩ [(FitsP (eP aP)), ((length aWidths : Int) ≤ 1048576), ((length aFlags : Int) ≤ 1048576 ∧ ∀ i : Nat, i < length aFlags → (length (getD aFlags i []) : Int) ≤ 1048576), (True)] ?_ ?_))
    ·
     exact ⟨(FitsP.of (l := 1048576) ⟨by decide, by decide⟩ (by with_reducible assumption)), (by omega), (szB_fit (p := eP aP) (by with_reducible assumption) (by with_reducible assumption)), trivial, trivial⟩
    refine seq (r0U hC [1, 2, 3, 8, 9] [12, 36, 144, 152, 153, 154] [(9, .ref 36 1 0)] [(36, .box 1 [sI (Pln.Kind (dP aP)), sI (Pln.Table (dP aP)), .tr 152 1, .arr 153 1, .tr 154 1]), (152, .tree 1 (.named 1) ((Pln.Exprs (dP aP)) : List Xpr)), (153, .arr 1 (.int .i64) ((Pln.Cols (dP aP)) : List Int)), (154, .tree 1 (.named 2) ((Pln.Kids (dP aP)) : List Pln))] [(FitsP (eP aP))] ?_ ?_)
    ·
     exact ⟨(FitsP.of (l := 1048576) ⟨by decide, by decide⟩ (by with_reducible assumption)), trivial⟩
    refine seq (r0U hC [1, 2, 3, 8, 9, 10] [12, 36, 144, 152, 153, 154, 160] [(10, .arr 160 1)] [(160, .arr 1 (.int .i64) ((toIntS aWidths) : List Int))] [((length aWidths : Int) ≤ 1048576)] ?_ ?_)
    ·
     exact ⟨(by omega), trivial⟩
    refine seq (r0U hC [1, 2, 3, 8, 9, 10, 11] [12, 36, 144, 152, 153, 154, 160, 168] [(11, .tr 168 1)] [(168, .tree 1 (.slice .bool) ((toBoolSS aFlags) : List (List Bool)))] [((length aFlags : Int) ≤ 1048576 ∧ ∀ i : Nat, i < length aFlags → (length (getD aFlags i []) : Int) ≤ 1048576)] ?_ ?_)
    ·
     exact ⟨(szB_fit (p := eP aP) (by with_reducible assumption) (by with_reducible assumption)), trivial⟩
    refine seq (r0U hC [1, 2, 3, 8, 9, 10, 11, 12] [12, 36, 144, 152, 153, 154, 160, 168, 184] [(12, .arr 184 1)] [(184, .arr 1 .bool ((gN aP aWidths aFlags) : List Bool))] [(True)] ?_ ?_)
    ·
     exact ⟨trivial, trivial⟩
    refine seq (seq (r0U hC [1, 2, 3, 8, 9, 10, 11, 12, 50] [12, 36, 144, 152, 153, 154, 160, 168, 184] [(50, sB (!(eqBoolS (gN aP aWidths aFlags) (wN aP aWidths aFlags))))] [] [(True)] ?_ ?_))
    ·
     exact ⟨trivial, trivial⟩
    refine cdE e12 ?_ ?_
    · intro h13q e14; refine seq (r1 hC [6] [] ⟨[(6, sB false)], []⟩ ?_); exact ret (rB _ e14)
    ·
     intro h15q e16; refine kpU [1, 2, 3, 8, 9, 10, 11, 12] [12, 36, 144, 152, 153, 154, 160, 168, 184] [] [] ?_; refine AW.skip (seq (seq (d0U hC hM [1, 2, 3, 8, 9, 10, 11, 12, 55] [12, 36, 144, 152, 153, 154, 160, 168, 184] [(55, sB (!(eqPlan (fP aP) (fP aP))))] [] [(FitsP (eP aP)), (True)] ?_ ?_)))
     ·
      exact ⟨(FitsP.of (l := 1048576) ⟨by decide, by decide⟩ (by with_reducible assumption)), trivial, trivial⟩
     refine cdE e16 ?_ ?_
     · intro h17q e18; refine seq (r1 hC [6] [] ⟨[(6, sB false)], []⟩ ?_); exact ret (rB _ e18)
     ·
      intro h19q e20; refine kpU [1, 2, 3, 8, 9, 10, 11, 12] [12, 36, 144, 152, 153, 154, 160, 168, 184] [] [] ?_; refine AW.skip (seq (seq (r0U hC [1, 2, 3, 8, 9, 10, 11, 12, 60] [12, 36, 144, 152, 153, 154, 160, 168, 184] [(60, sB (!(eqIntS (toIntS aWidths) (toIntS aWidths))))] [] [((length aWidths : Int) ≤ 1048576), (True)] ?_ ?_)))
      ·
       exact ⟨(by omega), trivial, trivial⟩
      refine cdE e20 ?_ ?_
      · intro h21q e22; refine seq (r1 hC [6] [] ⟨[(6, sB false)], []⟩ ?_); exact ret (rB _ e22)
      ·
       intro h23q e24; refine kpU [1, 2, 3, 8, 9, 10, 11, 12] [12, 36, 144, 152, 153, 154, 160, 168, 184] [] [] ?_; refine AW.skip (seq (seq (r0 hC [1, 2, 3, 8, 9, 10, 11, 12, 65] [12, 36, 144, 152, 153, 154, 160, 168, 184] ⟨[(1, sD7 aWidths), (2, sD12 aFlags), (3, .ref 12 1 0), (8, .arr 144 1), (9, .ref 36 1 0), (10, .arr 160 1), (11, .tr 168 1), (12, .arr 184 1), (65, sB (!(eqBoolSS (toBoolSS aFlags) (toBoolSS aFlags))))], [(12, .box 1 [sI (Pln.Kind aP), sI (Pln.Table aP), sD9 (Pln.Exprs aP), sD7 (Pln.Cols aP), sD10 (Pln.Kids aP)]), (36, .box 1 [sI (Pln.Kind (dP aP)), sI (Pln.Table (dP aP)), .tr 152 1, .arr 153 1, .tr 154 1]), (144, .arr 1 .bool ((wN aP aWidths aFlags) : List Bool)), (152, .tree 1 (.named 1) ((Pln.Exprs (dP aP)) : List Xpr)), (153, .arr 1 (.int .i64) ((Pln.Cols (dP aP)) : List Int)), (154, .tree 1 (.named 2) ((Pln.Kids (dP aP)) : List Pln)), (160, .arr 1 (.int .i64) ((toIntS aWidths) : List Int)), (168, .tree 1 (.slice .bool) ((toBoolSS aFlags) : List (List Bool))), (184, .arr 1 .bool ((gN aP aWidths aFlags) : List Bool))]⟩ [((length aFlags : Int) ≤ 1048576 ∧ ∀ i : Nat, i < length aFlags → (length (getD aFlags i []) : Int) ≤ 1048576), (True)] ?_ ?_)))
       ·
        exact ⟨(szB_fit (p := eP aP) (by with_reducible assumption) (by with_reducible assumption)), trivial, trivial⟩
       refine cdE e24 ?_ ?_
       · intro h25q e26; refine seq (r1 hC [6] [] ⟨[(6, sB false)], []⟩ ?_); exact ret (rB _ e26)
       ·
        intro h27q e28; refine kpU [1, 2, 3, 8, 9, 10, 11, 12] [12, 36, 144, 152, 153, 154, 160, 168, 184] [] [] ?_; refine AW.skip (seq (r1U hC [1, 2, 3, 8, 9, 10, 11, 12, 13] [12, 36, 144, 152, 153, 154, 160, 168, 184] [(13, sI 1)] [] ?_)); refine seq (AW.treedB 36 1 3 [sI (Pln.Kind (dP aP)), sI (Pln.Table (dP aP)), .tr 152 1, .arr 153 1, .tr 154 1] 153 1 (.int .i64) ((Pln.Cols (dP aP)) : List Int) (by kernel_rfl) (by kernel_rfl) (by kernel_rfl) (by kernel_rfl) ?_); refine kp [1, 2, 3, 8, 9, 10, 11, 12, 13] [12, 36, 144, 152, 153, 154, 160, 168, 184] ⟨[(1, sD7 aWidths), (2, sD12 aFlags), (3, .ref 12 1 0), (8, .arr 144 1), (9, .ref 36 1 0), (10, .arr 160 1), (11, .tr 168 1), (12, .arr 184 1), (13, sI 1)], [(12, .box 1 [sI (Pln.Kind aP), sI (Pln.Table aP), sD9 (Pln.Exprs aP), sD7 (Pln.Cols aP), sD10 (Pln.Kids aP)]), (36, .box 1 [sI (Pln.Kind (dP aP)), sI (Pln.Table (dP aP)), .tr 152 1, .tr 153 1, .tr 154 1]), (144, .arr 1 .bool ((wN aP aWidths aFlags) : List Bool)), (152, .tree 1 (.named 1) ((Pln.Exprs (dP aP)) : List Xpr)), (153, .tree 1 (.int .i64) ((Pln.Cols (dP aP)) : List Int)), (154, .tree 1 (.named 2) ((Pln.Kids (dP aP)) : List Pln)), (160, .arr 1 (.int .i64) ((toIntS aWidths) : List Int)), (168, .tree 1 (.slice .bool) ((toBoolSS aFlags) : List (List Bool))), (184, .arr 1 .bool ((gN aP aWidths aFlags) : List Bool))]⟩ ?_; refine AW.regionO [0, 1, 2, 3] (by rfl) ?_
        refine AWO.runU hC false [] [0, 1] [2, 3] [1, 2, 3, 8, 10, 11, 12, 66, 67] [12, 144, 152, 153, 154, 160, 168, 184]
         [(66, .agg [sI (Pln.Kind (dP aP)), sI (Pln.Table (dP aP)), .tr 152 1, .tr 153 1, .tr 154 1]), (67, sI 1)] []
         [] (by rfl) (by kernel_rfl) ?_ ?_
        · exact trivial
        refine AWO.call hC.ty (vs := [.agg [sI (Pln.Kind (dP aP)), sI (Pln.Table (dP aP)), .tr 152 1, .tr 153 1, .tr 154 1], sI 1]) (caps := []) (by rfl) rfl (.inl rfl) (by decide) (by kernel_rfl) (by kernel_rfl) Try.func36 (by kernel_rfl) rfl (by kernel_rfl) ?_; intro o1 ho1; refine kpU [0, 1, 1001, 1002, 1003, 1008, 1010, 1011, 1012] [12, 144, 152, 153, 154, 160, 168, 184] [] [] ?_; refine seq (r1U hC1 [1, 2, 1001, 1002, 1003, 1008, 1010, 1011, 1012] [12, 144, 152, 153, 154, 160, 168, 184, 4008] [(2, .ref 4008 1 0)] [(4008, .box 1 [sI (Pln.Kind (dP aP)), sI (Pln.Table (dP aP)), .tr 152 1, .tr 153 1, .tr 154 1])] ?_); refine seq (AW.regionO [0, 1, 2, 3, 4] (by rfl) ?_)
        refine AWO.runU hC1 false [] [0, 1, 2] [3, 4] [2, 6, 7, 1001, 1002, 1003, 1008, 1010, 1011, 1012] [12, 144, 152, 153, 154, 160, 168, 184, 4008]
         [(6, .tr 152 1), (7, sI 1)] []
         [] (by rfl) (by kernel_rfl) ?_ ?_
        · exact trivial
        refine AWO.mark (u := (.named 1)) (id := 152) (ep := 1) (xs := ((Pln.Exprs (dP aP)) : List Xpr)) (k := 1) markExprS_ok (by rfl) (by rfl) (by kernel_rfl) (by kernel_rfl) (by kernel_rfl) (by kernel_rfl) ?_ ?_
        · assumption
        refine AWO.keepU [2, 8, 1001, 1002, 1003, 1008, 1010, 1011, 1012] [12, 144, 152, 153, 154, 160, 168, 184, 4008] [(8, sI ((markExprS (Pln.Exprs (dP aP)) 1).2))] [(152, .tree 1 (.named 1) ((markExprS (Pln.Exprs (dP aP)) 1).1 : List Xpr))] (by kernel_rfl) ?_
        refine AWO.runU hC1 false [] [4] [] [1, 2, 1001, 1002, 1003, 1008, 1010, 1011, 1012] [12, 144, 152, 153, 154, 160, 168, 184, 4008]
         [(1, sI ((markExprS (Pln.Exprs (dP aP)) 1).2))] []
         [] (by rfl) (by kernel_rfl) ?_ ?_
        · exact trivial
        refine AWO.nil ?_; refine seq (AW.regionO [0, 1, 2, 3, 4] (by rfl) ?_)
        refine AWO.runU hC1 false [] [0, 1, 2] [3, 4] [2, 10, 11, 1001, 1002, 1003, 1008, 1010, 1011, 1012] [12, 144, 152, 153, 154, 160, 168, 184, 4008]
         [(10, .tr 153 1), (11, sI ((markExprS (Pln.Exprs (dP aP)) 1).2))] []
         [] (by rfl) (by kernel_rfl) ?_ ?_
        · exact trivial
        refine AWO.mark (u := (.int .i64)) (id := 153) (ep := 1) (xs := ((Pln.Cols (dP aP)) : List Int)) (k := (markExprS (Pln.Exprs (dP aP)) 1).2) markIntS_ok (by rfl) (by rfl) (by kernel_rfl) (by kernel_rfl) (by kernel_rfl) (by kernel_rfl) ?_ ?_
        · assumption
        refine AWO.keepU [2, 12, 1001, 1002, 1003, 1008, 1010, 1011, 1012] [12, 144, 152, 153, 154, 160, 168, 184, 4008] [(12, sI ((markIntS (Pln.Cols (dP aP)) ((markExprS (Pln.Exprs (dP aP)) 1).2)).2))] [(153, .tree 1 (.int .i64) ((markIntS (Pln.Cols (dP aP)) ((markExprS (Pln.Exprs (dP aP)) 1).2)).1 : List Int))] (by kernel_rfl) ?_
        refine AWO.runU hC1 false [] [4] [] [1, 2, 1001, 1002, 1003, 1008, 1010, 1011, 1012] [12, 144, 152, 153, 154, 160, 168, 184, 4008]
         [(1, sI ((markIntS (Pln.Cols (dP aP)) ((markExprS (Pln.Exprs (dP aP)) 1).2)).2))] []
         [] (by rfl) (by kernel_rfl) ?_ ?_
        · exact trivial
        refine AWO.nil ?_; refine seq (AW.regionO [0, 1, 2, 3, 4] (by rfl) ?_)
        refine AWO.runU hC1 false [] [0, 1, 2] [3, 4] [14, 15, 1001, 1002, 1003, 1008, 1010, 1011, 1012] [12, 144, 154, 160, 168, 184]
         [(14, .tr 154 1), (15, sI ((markIntS (Pln.Cols (dP aP)) ((markExprS (Pln.Exprs (dP aP)) 1).2)).2))] []
         [] (by rfl) (by kernel_rfl) ?_ ?_
        · exact trivial
        refine AWO.mark (u := (.named 2)) (id := 154) (ep := 1) (xs := ((Pln.Kids (dP aP)) : List Pln)) (k := (markIntS (Pln.Cols (dP aP)) ((markExprS (Pln.Exprs (dP aP)) 1).2)).2) markPlanS_ok (by rfl) (by rfl) (by kernel_rfl) (by kernel_rfl) (by kernel_rfl) (by kernel_rfl) ?_ ?_
        · assumption
        refine AWO.keepU [16, 1001, 1002, 1003, 1008, 1010, 1011, 1012] [12, 144, 160, 168, 184] [(16, sI ((markPlanS (Pln.Kids (dP aP)) ((markIntS (Pln.Cols (dP aP)) ((markExprS (Pln.Exprs (dP aP)) 1).2)).2)).2))] [] (by kernel_rfl) ?_
        refine AWO.run hC1 false [] [4] [] [1, 1001, 1002, 1003, 1008, 1010, 1011, 1012] [12, 144, 160, 168, 184]
         ⟨[(1, sI ((markPlanS (Pln.Kids (dP aP)) ((markIntS (Pln.Cols (dP aP)) ((markExprS (Pln.Exprs (dP aP)) 1).2)).2)).2)), (1001, sD7 aWidths), (1002, sD12 aFlags), (1003, .ref 12 1 0), (1008, .arr 144 1), (1010, .arr 160 1), (1011, .tr 168 1), (1012, .arr 184 1)], [(12, .box 1 [sI (Pln.Kind aP), sI (Pln.Table aP), sD9 (Pln.Exprs aP), sD7 (Pln.Cols aP), sD10 (Pln.Kids aP)]), (144, .arr 1 .bool ((wN aP aWidths aFlags) : List Bool)), (160, .arr 1 (.int .i64) ((toIntS aWidths) : List Int)), (168, .tree 1 (.slice .bool) ((toBoolSS aFlags) : List (List Bool))), (184, .arr 1 .bool ((gN aP aWidths aFlags) : List Bool))]⟩
         [] (by rfl) (by kernel_rfl) ?_ ?_
        · exact trivial
        refine AWO.nil ?_; refine seq (r1U hC1 [4, 1001, 1002, 1003, 1008, 1010, 1011, 1012] [12, 144, 160, 168, 184] [(4, sI ((markPlanS (Pln.Kids (dP aP)) ((markIntS (Pln.Cols (dP aP)) ((markExprS (Pln.Exprs (dP aP)) 1).2)).2)).2))] [] ?_); refine ret ?_; refine ⟨[sI ((markPlanS (Pln.Kids (dP aP)) ((markIntS (Pln.Cols (dP aP)) ((markExprS (Pln.Exprs (dP aP)) 1).2)).2)).2)], by kernel_rfl, ?_⟩; refine AWO.keep [1, 2, 3, 8, 10, 11, 12, 68] [12, 144, 160, 168, 184] ⟨[(1, sD7 aWidths), (2, sD12 aFlags), (3, .ref 12 1 0), (8, .arr 144 1), (10, .arr 160 1), (11, .tr 168 1), (12, .arr 184 1), (68, sI ((markPlanS (Pln.Kids (dP aP)) ((markIntS (Pln.Cols (dP aP)) ((markExprS (Pln.Exprs (dP aP)) 1).2)).2)).2))], [(12, .box 1 [sI (Pln.Kind aP), sI (Pln.Table aP), sD9 (Pln.Exprs aP), sD7 (Pln.Cols aP), sD10 (Pln.Kids aP)]), (144, .arr 1 .bool ((wN aP aWidths aFlags) : List Bool)), (160, .arr 1 (.int .i64) ((toIntS aWidths) : List Int)), (168, .tree 1 (.slice .bool) ((toBoolSS aFlags) : List (List Bool))), (184, .arr 1 .bool ((gN aP aWidths aFlags) : List Bool))]⟩ (by kernel_rfl) ?_
        refine AWO.runU hC false [] [3] [] [1, 2, 3, 8, 10, 11, 12, 13] [12, 144, 160, 168, 184]
         [(13, sI ((markPlanS (Pln.Kids (dP aP)) ((markIntS (Pln.Cols (dP aP)) ((markExprS (Pln.Exprs (dP aP)) 1).2)).2)).2))] []
         [] (by rfl) (by kernel_rfl) ?_ ?_
        · exact trivial
        refine AWO.nil ?_; refine seq (AW.treed [10] 160 1 (.int .i64) ((toIntS aWidths) : List Int) (by rintro s (_ | ⟨_, ⟨⟩⟩) <;> kernel_rfl) (by kernel_rfl) (by kernel_rfl) ?_); refine kp [1, 2, 3, 8, 10, 11, 12, 13] [12, 144, 160, 168, 184] ⟨[(1, sD7 aWidths), (2, sD12 aFlags), (3, .ref 12 1 0), (8, .arr 144 1), (10, .tr 160 1), (11, .tr 168 1), (12, .arr 184 1), (13, sI ((markPlanS (Pln.Kids (dP aP)) ((markIntS (Pln.Cols (dP aP)) ((markExprS (Pln.Exprs (dP aP)) 1).2)).2)).2))], [(12, .box 1 [sI (Pln.Kind aP), sI (Pln.Table aP), sD9 (Pln.Exprs aP), sD7 (Pln.Cols aP), sD10 (Pln.Kids aP)]), (144, .arr 1 .bool ((wN aP aWidths aFlags) : List Bool)), (160, .tree 1 (.int .i64) ((toIntS aWidths) : List Int)), (168, .tree 1 (.slice .bool) ((toBoolSS aFlags) : List (List Bool))), (184, .arr 1 .bool ((gN aP aWidths aFlags) : List Bool))]⟩ ?_; refine AW.regionO [0, 1, 2, 3] (by rfl) ?_
        refine AWO.runU hC false [] [0, 1] [2, 3] [1, 2, 3, 8, 11, 12, 69, 70] [12, 144, 160, 168, 184]
         [(69, .tr 160 1), (70, sI ((markPlanS (Pln.Kids (dP aP)) ((markIntS (Pln.Cols (dP aP)) ((markExprS (Pln.Exprs (dP aP)) 1).2)).2)).2))] []
         [] (by rfl) (by kernel_rfl) ?_ ?_
        · exact trivial
        refine AWO.mark (u := (.int .i64)) (id := 160) (ep := 1) (xs := ((toIntS aWidths) : List Int)) (k := (markPlanS (Pln.Kids (dP aP)) ((markIntS (Pln.Cols (dP aP)) ((markExprS (Pln.Exprs (dP aP)) 1).2)).2)).2) markIntS_ok (by rfl) (by rfl) (by kernel_rfl) (by kernel_rfl) (by kernel_rfl) (by kernel_rfl) ?_ ?_
        · assumption
        refine AWO.keepU [1, 2, 3, 8, 11, 12, 71] [12, 144, 168, 184] [(71, sI ((markIntS (toIntS aWidths) ((markPlanS (Pln.Kids (dP aP)) ((markIntS (Pln.Cols (dP aP)) ((markExprS (Pln.Exprs (dP aP)) 1).2)).2)).2)).2))] [] (by kernel_rfl) ?_
        refine AWO.runU hC false [] [3] [] [1, 2, 3, 8, 11, 12, 13] [12, 144, 168, 184]
         [(13, sI ((markIntS (toIntS aWidths) ((markPlanS (Pln.Kids (dP aP)) ((markIntS (Pln.Cols (dP aP)) ((markExprS (Pln.Exprs (dP aP)) 1).2)).2)).2)).2))] []
         [] (by rfl) (by kernel_rfl) ?_ ?_
        · exact trivial
        refine AWO.nil ?_; refine seq (AW.regionO [0, 1, 2, 3] (by rfl) ?_)
        refine AWO.runU hC false [] [0, 1] [2, 3] [1, 2, 3, 8, 12, 72, 73] [12, 144, 168, 184]
         [(72, .tr 168 1), (73, sI ((markIntS (toIntS aWidths) ((markPlanS (Pln.Kids (dP aP)) ((markIntS (Pln.Cols (dP aP)) ((markExprS (Pln.Exprs (dP aP)) 1).2)).2)).2)).2))] []
         [] (by rfl) (by kernel_rfl) ?_ ?_
        · exact trivial
        refine AWO.mark (u := (.slice .bool)) (id := 168) (ep := 1) (xs := ((toBoolSS aFlags) : List (List Bool))) (k := (markIntS (toIntS aWidths) ((markPlanS (Pln.Kids (dP aP)) ((markIntS (Pln.Cols (dP aP)) ((markExprS (Pln.Exprs (dP aP)) 1).2)).2)).2)).2) markBoolSS_ok (by rfl) (by rfl) (by kernel_rfl) (by kernel_rfl) (by kernel_rfl) (by kernel_rfl) ?_ ?_
        · assumption
        refine AWO.keepU [1, 2, 3, 8, 12, 74] [12, 144, 184] [(74, sI ((markBoolSS (toBoolSS aFlags) ((markIntS (toIntS aWidths) ((markPlanS (Pln.Kids (dP aP)) ((markIntS (Pln.Cols (dP aP)) ((markExprS (Pln.Exprs (dP aP)) 1).2)).2)).2)).2)).2))] [] (by kernel_rfl) ?_
        refine AWO.runU hC false [] [3] [] [1, 2, 3, 8, 12, 13] [12, 144, 184]
         [(13, sI ((markBoolSS (toBoolSS aFlags) ((markIntS (toIntS aWidths) ((markPlanS (Pln.Kids (dP aP)) ((markIntS (Pln.Cols (dP aP)) ((markExprS (Pln.Exprs (dP aP)) 1).2)).2)).2)).2)).2))] []
         [] (by rfl) (by kernel_rfl) ?_ ?_
        · exact trivial
        refine AWO.nil ?_; refine seq (seq (r0U hC [1, 2, 3, 8, 12, 82] [12, 144, 184] [(82, sB (bif (decide ((markBoolSS (toBoolSS aFlags) ((markIntS (toIntS aWidths) ((markPlanS (Pln.Kids (dP aP)) ((markIntS (Pln.Cols (dP aP)) ((markExprS (Pln.Exprs (dP aP)) 1).2)).2)).2)).2)).2 < 0)) then true else (!(eqBoolS (gN aP aWidths aFlags) (wN aP aWidths aFlags)))))] [] [(((decide ((markBoolSS (toBoolSS aFlags) ((markIntS (toIntS aWidths) ((markPlanS (Pln.Kids (dP aP)) ((markIntS (Pln.Cols (dP aP)) ((markExprS (Pln.Exprs (dP aP)) 1).2)).2)).2)).2)).2 < 0)) = false) → (((decide ((markBoolSS (toBoolSS aFlags) ((markIntS (toIntS aWidths) ((markPlanS (Pln.Kids (dP aP)) ((markIntS (Pln.Cols (dP aP)) ((markExprS (Pln.Exprs (dP aP)) 1).2)).2)).2)).2)).2 < 0)) = false))), (((decide ((markBoolSS (toBoolSS aFlags) ((markIntS (toIntS aWidths) ((markPlanS (Pln.Kids (dP aP)) ((markIntS (Pln.Cols (dP aP)) ((markExprS (Pln.Exprs (dP aP)) 1).2)).2)).2)).2)).2 < 0)) = false) → (((decide ((markBoolSS (toBoolSS aFlags) ((markIntS (toIntS aWidths) ((markPlanS (Pln.Kids (dP aP)) ((markIntS (Pln.Cols (dP aP)) ((markExprS (Pln.Exprs (dP aP)) 1).2)).2)).2)).2)).2 < 0)) = false))), (((decide ((markBoolSS (toBoolSS aFlags) ((markIntS (toIntS aWidths) ((markPlanS (Pln.Kids (dP aP)) ((markIntS (Pln.Cols (dP aP)) ((markExprS (Pln.Exprs (dP aP)) 1).2)).2)).2)).2)).2 < 0)) = false) → (True)), (((decide ((markBoolSS (toBoolSS aFlags) ((markIntS (toIntS aWidths) ((markPlanS (Pln.Kids (dP aP)) ((markIntS (Pln.Cols (dP aP)) ((markExprS (Pln.Exprs (dP aP)) 1).2)).2)).2)).2)).2 < 0)) = false) → (((decide ((markBoolSS (toBoolSS aFlags) ((markIntS (toIntS aWidths) ((markPlanS (Pln.Kids (dP aP)) ((markIntS (Pln.Cols (dP aP)) ((markExprS (Pln.Exprs (dP aP)) 1).2)).2)).2)).2)).2 < 0)) = false))), (((decide ((markBoolSS (toBoolSS aFlags) ((markIntS (toIntS aWidths) ((markPlanS (Pln.Kids (dP aP)) ((markIntS (Pln.Cols (dP aP)) ((markExprS (Pln.Exprs (dP aP)) 1).2)).2)).2)).2)).2 < 0)) = false) → (((decide ((markBoolSS (toBoolSS aFlags) ((markIntS (toIntS aWidths) ((markPlanS (Pln.Kids (dP aP)) ((markIntS (Pln.Cols (dP aP)) ((markExprS (Pln.Exprs (dP aP)) 1).2)).2)).2)).2)).2 < 0)) = false)))] ?_ ?_))
        ·
         exact ⟨(by intro g29; assumption), (by intro g30; assumption), (by intro g31; trivial), (by intro g32; assumption), (by intro g33; assumption), trivial⟩
        refine cdE e28 ?_ ?_
        · intro h34q e35; refine seq (r1 hC [6] [] ⟨[(6, sB false)], []⟩ ?_); exact ret (rB _ e35)
        ·
         intro h36q e37; refine kpU [1, 2, 3, 8, 12] [12, 144, 184] [] [] ?_; refine AW.skip (seq (r1U hC [1, 2, 3, 8, 12, 14] [12, 144, 184] [(14, sI 1)] [] ?_)); refine seq (AW.treed [12] 184 1 .bool ((gN aP aWidths aFlags) : List Bool) (by rintro s (_ | ⟨_, ⟨⟩⟩) <;> kernel_rfl) (by kernel_rfl) (by kernel_rfl) ?_); refine kp [1, 2, 3, 8, 12, 14] [12, 144, 184] ⟨[(1, sD7 aWidths), (2, sD12 aFlags), (3, .ref 12 1 0), (8, .arr 144 1), (12, .tr 184 1), (14, sI 1)], [(12, .box 1 [sI (Pln.Kind aP), sI (Pln.Table aP), sD9 (Pln.Exprs aP), sD7 (Pln.Cols aP), sD10 (Pln.Kids aP)]), (144, .arr 1 .bool ((wN aP aWidths aFlags) : List Bool)), (184, .tree 1 .bool ((gN aP aWidths aFlags) : List Bool))]⟩ ?_; refine AW.regionO [0, 1, 2, 3] (by rfl) ?_
         refine AWO.runU hC false [] [0, 1] [2, 3] [1, 2, 3, 8, 12, 83, 84] [12, 144, 184]
          [(83, .tr 184 1), (84, sI 1)] []
          [] (by rfl) (by kernel_rfl) ?_ ?_
         · exact trivial
         refine AWO.mark (u := .bool) (id := 184) (ep := 1) (xs := ((gN aP aWidths aFlags) : List Bool)) (k := 1) markBoolS_ok (by rfl) (by rfl) (by kernel_rfl) (by kernel_rfl) (by kernel_rfl) (by kernel_rfl) ?_ ?_
         · assumption
         refine AWO.keepU [1, 2, 3, 8, 12, 85] [12, 144, 184] [(85, sI ((markBoolS (gN aP aWidths aFlags) 1).2))] [(184, .tree 1 .bool ((markBoolS (gN aP aWidths aFlags) 1).1 : List Bool))] (by kernel_rfl) ?_
         refine AWO.runU hC false [] [3] [] [1, 2, 3, 8, 12, 14] [12, 144, 184]
          [(14, sI ((markBoolS (gN aP aWidths aFlags) 1).2))] []
          [] (by rfl) (by kernel_rfl) ?_ ?_
         · exact trivial
         refine AWO.nil ?_; refine seq (r1U hC [1, 2, 3, 8, 12, 14, 15] [12, 144, 184] [(15, sI 1)] [] ?_); refine seq (r0U hC [1, 2, 3, 8, 12, 14, 15] [12, 144, 184] [(15, sI (heldBoolS ((markBoolS (gN aP aWidths aFlags) 1).1) 1))] [] [(True)] ?_ ?_)
         ·
          exact ⟨trivial, trivial⟩
         refine seq (seq (r1U hC [1, 2, 3, 8, 12, 14, 15, 90] [12, 144, 184] [(90, sB (decide ((heldBoolS ((markBoolS (gN aP aWidths aFlags) 1).1) 1) < 0)))] [] ?_)); refine cdE e37 ?_ ?_
         · intro h38q e39; refine seq (r1 hC [6] [] ⟨[(6, sB false)], []⟩ ?_); exact ret (rB _ e39)
         ·
          intro h40q e41; refine kpU [1, 2, 3, 8, 12, 14, 15] [12, 144, 184] [] [] ?_; refine AW.skip (seq (seq (r1U hC [1, 2, 3, 8, 12, 14, 93] [12, 144, 184] [(93, sB ((heldBoolS ((markBoolS (gN aP aWidths aFlags) 1).1) 1) != (markBoolS (gN aP aWidths aFlags) 1).2))] [] ?_))); refine cdE e41 ?_ ?_
          · intro h42q e43; refine seq (r1 hC [6] [] ⟨[(6, sB false)], []⟩ ?_); exact ret (rB _ e43)
          ·
           intro h44q e45; refine kpU [1, 2, 3, 8, 12, 14] [12, 144, 184] [] [] ?_; refine AW.skip (seq (r0U hC [8, 12, 14, 16] [144, 184, 400] [(16, .arr 400 1)] [(400, .arr 1 .bool ((gN aP aWidths aFlags) : List Bool))] [(FitsP (eP aP)), ((length aWidths : Int) ≤ 1048576), ((length aFlags : Int) ≤ 1048576 ∧ ∀ i : Nat, i < length aFlags → (length (getD aFlags i []) : Int) ≤ 1048576), (True)] ?_ ?_))
           ·
            exact ⟨(FitsP.of (l := 1048576) ⟨by decide, by decide⟩ (by with_reducible assumption)), (by omega), (szB_fit (p := eP aP) (by with_reducible assumption) (by with_reducible assumption)), trivial, trivial⟩
           refine seq (seq (r0 hC [12, 14, 104] [184] ⟨[(12, .tr 184 1), (14, sI ((markBoolS (gN aP aWidths aFlags) 1).2)), (104, sB (!(eqBoolS (gN aP aWidths aFlags) (wN aP aWidths aFlags))))], [(184, .tree 1 .bool ((markBoolS (gN aP aWidths aFlags) 1).1 : List Bool))]⟩ [(True)] ?_ ?_))
           ·
            exact ⟨trivial, trivial⟩
           refine cdE e45 ?_ ?_
           · intro h46q e47; refine seq (r1 hC [6] [] ⟨[(6, sB false)], []⟩ ?_); exact ret (rB _ e47)
           ·
            intro h48q e49; refine kpU [12, 14] [184] [] [] ?_; refine AW.skip (seq (r1U hC [12, 14, 15] [184] [(15, sI 1)] [] ?_)); refine seq (r0U hC [14, 15] [] [(15, sI (heldBoolS ((markBoolS (gN aP aWidths aFlags) 1).1) 1))] [] [(True)] ?_ ?_)
            ·
             exact ⟨trivial, trivial⟩
            refine seq (seq (r1U hC [14, 15, 109] [] [(109, sB (decide ((heldBoolS ((markBoolS (gN aP aWidths aFlags) 1).1) 1) < 0)))] [] ?_)); refine cdE e49 ?_ ?_
            · intro h50q e51; refine seq (r1 hC [6] [] ⟨[(6, sB false)], []⟩ ?_); exact ret (rB _ e51)
            ·
             intro h52q e53; refine kpU [14, 15] [] [] [] ?_; refine AW.skip (seq (seq (r1 hC [112] [] ⟨[(112, sB ((heldBoolS ((markBoolS (gN aP aWidths aFlags) 1).1) 1) != (markBoolS (gN aP aWidths aFlags) 1).2))], []⟩ ?_))); refine cdE e53 ?_ ?_
             · intro h54q e55; refine seq (r1 hC [6] [] ⟨[(6, sB false)], []⟩ ?_); exact ret (rB _ e55)
             · intro h56q e57; refine kp [] [] ⟨[], []⟩ ?_; refine AW.skip (seq (r1 hC [6] [] ⟨[(6, sB true)], []⟩ ?_)); exact ret (rB _ e57)

end
end Go.Proofs.Ytodcdgolcbdkgaa
