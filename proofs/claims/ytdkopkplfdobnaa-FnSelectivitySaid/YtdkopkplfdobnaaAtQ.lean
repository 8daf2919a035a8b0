/-
  A part of the proof of this claim (AtQ): what functions of the program compute, and plain facts of that. No conditions.
-/
import Derived.Test.YtdkopkplfdobnaaAtV
set_option linter.all false
namespace Go.Proofs.Ytdkopkplfdobnaa
open Go Go.Am
noncomputable section

def iValidStats_l0 (s : Sta) (width : Int) : Nat → Nat → Unit ⊕ Bool
 | 0, v32 => .inl ()
 | k + 1, v32 => (bif (decide (((v32 : Nat) : Int) < width)) then (bif (bif (decide ((List.getD (Sta.Nulls s) v32 0) < 0)) then true else (decide ((Sta.Rows s) < (List.getD (Sta.Nulls s) v32 0)))) then (.inr false) else (bif (bif (decide ((List.getD (Sta.Distinct s) v32 0) < 0)) then true else (decide (((Sta.Rows s) - (List.getD (Sta.Nulls s) v32 0)) < (List.getD (Sta.Distinct s) v32 0)))) then (.inr false) else (iValidStats_l0 s width k (v32 + 1)))) else (.inl ()))

def iValidStats (s : Sta) (width : Int) : Bool := (bif (bif (bif (!(validWidth width)) then true else (decide ((Sta.Rows s) < 0))) then true else (decide (400 < (Sta.Rows s)))) then false else (bif (bif (((List.length (Sta.Distinct s) : Nat) : Int) != width) then true else (((List.length (Sta.Nulls s) : Nat) : Int) != width)) then false else (Sum.elim (fun _ => true) (fun r => r) (iValidStats_l0 s width (Int.toNat (width - ((0 : Nat) : Int)) + 1) 0))))

def iValidStats_sp : FnSpec := mkSpec [.val (.named 3), .val (.int .i64)] [.val .bool] (fun (s : Sta) (width : Int) => True) (fun (s : Sta) (width : Int) => [⟨.bool, (iValidStats s width)⟩])

theorem iValidStats_ok : FnOK Try.prog 14 iValidStats_sp := by
 have hC : CtxOK Try.prog (mkCtx tyL [(26, validWidth_sp)]) := CtxOK.cons validWidth_ok (CtxOK.nil tyOK)
 have hM : Try.prog.follows .mixedOrders = true := Try.checked.mixed
 refine FnOK.of_body Try.func14 (by kernel_rfl) rfl (C := (mkCtx tyL [(26, validWidth_sp)])) hC.ty (by kernel_rfl) ?_
 intro (s : Sta) (width : Int) hwf hpre E
 have hpre : True := hpre
 have hw_s : Wf ⟨(.named 3), (s : Sta)⟩ := hwf _ (List.Mem.head _)
 obtain ⟨hr_s_Rows, hl_s_Distinct, hl_s_Nulls⟩ := Sta.wfl hw_s
 have hw_width : Wf ⟨(.int .i64), (width : Int)⟩ := hwf _ (List.Mem.tail _ (List.Mem.head _))
 have hr_width : -9223372036854775808 ≤ width ∧ width ≤ 9223372036854775807 := hw_width.int_inv
 have e0 : iValidStats s width = iValidStats s width := rfl
 refine AW.seq (AW.r1 hC [1, 2] [8] ⟨[(1, sI width), (2, .ref 8 1 0)], [(8, .box 1 [sI (Sta.Rows s), sD8 (Sta.Distinct s), sD8 (Sta.Nulls s)])]⟩ ?_)
 refine AW.seq (AW.seq (AW.r0 hC [1, 2, 18] [8] ⟨[(1, sI width), (2, .ref 8 1 0), (18, sB (bif (bif (!(validWidth width)) then true else (decide ((Sta.Rows s) < 0))) then true else (decide (400 < (Sta.Rows s)))))], [(8, .box 1 [sI (Sta.Rows s), sD8 (Sta.Distinct s), sD8 (Sta.Nulls s)])]⟩ [(True), (((!(validWidth width)) = false) → (((!(validWidth width)) = false))), (((!(validWidth width)) = false) → (((!(validWidth width)) = false))), (((!(validWidth width)) = false) → (((!(validWidth width)) = false))), (((bif (!(validWidth width)) then true else (decide ((Sta.Rows s) < 0))) = false) → (((bif (!(validWidth width)) then true else (decide ((Sta.Rows s) < 0))) = false))), (((bif (!(validWidth width)) then true else (decide ((Sta.Rows s) < 0))) = false) → (((bif (!(validWidth width)) then true else (decide ((Sta.Rows s) < 0))) = false))), (((bif (!(validWidth width)) then true else (decide ((Sta.Rows s) < 0))) = false) → (((bif (!(validWidth width)) then true else (decide ((Sta.Rows s) < 0))) = false)))] ?_ ?_))
 ·
  refine ⟨?_, ?_, ?_, ?_, ?_, ?_, ?_, trivial⟩
  ·
   trivial
  ·
   intro g1
   have g1p0 : (validWidth width) = true := (Go.Am.not_neg g1)
   assumption
  ·
   intro g2
   have g2p0 : (validWidth width) = true := (Go.Am.not_neg g2)
   assumption
  ·
   intro g3
   have g3p0 : (validWidth width) = true := (Go.Am.not_neg g3)
   assumption
  ·
   intro g4
   have g4p0 : ((validWidth width) = true) ∧ (¬ ((Sta.Rows s) < 0)) := (And.imp (fun h => (Go.Am.not_neg h)) (fun h => (of_decide_eq_false h)) (Go.Am.or_neg g4))
   assumption
  ·
   intro g5
   have g5p0 : ((validWidth width) = true) ∧ (¬ ((Sta.Rows s) < 0)) := (And.imp (fun h => (Go.Am.not_neg h)) (fun h => (of_decide_eq_false h)) (Go.Am.or_neg g5))
   assumption
  ·
   intro g6
   have g6p0 : ((validWidth width) = true) ∧ (¬ ((Sta.Rows s) < 0)) := (And.imp (fun h => (Go.Am.not_neg h)) (fun h => (of_decide_eq_false h)) (Go.Am.or_neg g6))
   assumption
 refine AW.cd (bif (bif (!(validWidth width)) then true else (decide ((Sta.Rows s) < 0))) then true else (decide (400 < (Sta.Rows s)))) ?_ ?_
 ·
  intro h7
  have h7q : (((validWidth width) = false) ∨ ((Sta.Rows s) < 0)) ∨ (400 < (Sta.Rows s)) := (Or.imp (fun h => (Or.imp (fun h => (Go.Am.not_pos h)) (fun h => (of_decide_eq_true h)) (Go.Am.or_pos h))) (fun h => (of_decide_eq_true h)) (Go.Am.or_pos h7))
  have e8 := e0.trans (Go.Am.bif_t h7)
  refine AW.seq (AW.r1 hC [4] [] ⟨[(4, sB false)], []⟩ ?_)
  exact AW.ret (AW.rB false e8)
 ·
  intro h9
  have h9q : (((validWidth width) = true) ∧ (¬ ((Sta.Rows s) < 0))) ∧ (¬ (400 < (Sta.Rows s))) := (And.imp (fun h => (And.imp (fun h => (Go.Am.not_neg h)) (fun h => (of_decide_eq_false h)) (Go.Am.or_neg h))) (fun h => (of_decide_eq_false h)) (Go.Am.or_neg h9))
  have e10 := e0.trans (Go.Am.bif_f h9)
  refine AW.kp [1, 2] [8] ⟨[(1, sI width), (2, .ref 8 1 0)], [(8, .box 1 [sI (Sta.Rows s), sD8 (Sta.Distinct s), sD8 (Sta.Nulls s)])]⟩ ?_
  refine AW.skip (AW.seq (AW.seq (AW.r0 hC [1, 2, 30] [8] ⟨[(1, sI width), (2, .ref 8 1 0), (30, sB (bif (((List.length (Sta.Distinct s) : Nat) : Int) != width) then true else (((List.length (Sta.Nulls s) : Nat) : Int) != width)))], [(8, .box 1 [sI (Sta.Rows s), sD8 (Sta.Distinct s), sD8 (Sta.Nulls s)])]⟩ [(((((List.length (Sta.Distinct s) : Nat) : Int) != width) = false) → (((((List.length (Sta.Distinct s) : Nat) : Int) != width) = false))), (((((List.length (Sta.Distinct s) : Nat) : Int) != width) = false) → (((((List.length (Sta.Distinct s) : Nat) : Int) != width) = false))), (((((List.length (Sta.Distinct s) : Nat) : Int) != width) = false) → (((((List.length (Sta.Distinct s) : Nat) : Int) != width) = false))), (((((List.length (Sta.Distinct s) : Nat) : Int) != width) = false) → (((((List.length (Sta.Distinct s) : Nat) : Int) != width) = false))), (((((List.length (Sta.Distinct s) : Nat) : Int) != width) = false) → (((((List.length (Sta.Distinct s) : Nat) : Int) != width) = false)))] ?_ ?_)))
  ·
   refine ⟨?_, ?_, ?_, ?_, ?_, trivial⟩
   ·
    intro g11
    have g11p0 : ((List.length (Sta.Distinct s) : Nat) : Int) = width := (Go.Am.bne_neg g11)
    assumption
   ·
    intro g12
    have g12p0 : ((List.length (Sta.Distinct s) : Nat) : Int) = width := (Go.Am.bne_neg g12)
    assumption
   ·
    intro g13
    have g13p0 : ((List.length (Sta.Distinct s) : Nat) : Int) = width := (Go.Am.bne_neg g13)
    assumption
   ·
    intro g14
    have g14p0 : ((List.length (Sta.Distinct s) : Nat) : Int) = width := (Go.Am.bne_neg g14)
    assumption
   ·
    intro g15
    have g15p0 : ((List.length (Sta.Distinct s) : Nat) : Int) = width := (Go.Am.bne_neg g15)
    assumption
  refine AW.cd (bif (((List.length (Sta.Distinct s) : Nat) : Int) != width) then true else (((List.length (Sta.Nulls s) : Nat) : Int) != width)) ?_ ?_
  ·
   intro h16
   have h16q : (((List.length (Sta.Distinct s) : Nat) : Int) ≠ width) ∨ (((List.length (Sta.Nulls s) : Nat) : Int) ≠ width) := (Or.imp (fun h => (Go.Am.bne_pos h)) (fun h => (Go.Am.bne_pos h)) (Go.Am.or_pos h16))
   have e17 := e10.trans (Go.Am.bif_t h16)
   refine AW.seq (AW.r1 hC [4] [] ⟨[(4, sB false)], []⟩ ?_)
   exact AW.ret (AW.rB false e17)
  ·
   intro h18
   have h18q : (((List.length (Sta.Distinct s) : Nat) : Int) = width) ∧ (((List.length (Sta.Nulls s) : Nat) : Int) = width) := (And.imp (fun h => (Go.Am.bne_neg h)) (fun h => (Go.Am.bne_neg h)) (Go.Am.or_neg h18))
   have e19 := e10.trans (Go.Am.bif_f h18)
   refine AW.kp [1, 2] [8] ⟨[(1, sI width), (2, .ref 8 1 0)], [(8, .box 1 [sI (Sta.Rows s), sD8 (Sta.Distinct s), sD8 (Sta.Nulls s)])]⟩ ?_
   refine AW.skip (AW.seq (AW.seq (AW.r1 hC [2, 31, 32] [8] ⟨[(2, .ref 8 1 0), (31, sI width), (32, sI 0)], [(8, .box 1 [sI (Sta.Rows s), sD8 (Sta.Distinct s), sD8 (Sta.Nulls s)])]⟩ ?_)))
   refine AW.cutQ (α := Unit) (fun x => ⟨[], []⟩) (fun x => (True) ∧ (iValidStats_l0 s width (Int.toNat (width - ((0 : Nat) : Int)) + 1) 0) = (.inl ())) ?_ ?_
   ·
    skip
    refine AW.block (AW.loop (α := Nat) (fun x => ⟨[(2, .ref 8 1 0), (31, sI width), (32, sI ((x : Nat) : Int))], [(8, .box 1 [sI (Sta.Rows s), sD8 (Sta.Distinct s), sD8 (Sta.Nulls s)])]⟩) (fun x => (True) ∧ ∃ k, Int.toNat (width - ((x : Nat) : Int)) < k ∧ (iValidStats_l0 s width (Int.toNat (width - ((0 : Nat) : Int)) + 1) 0) = iValidStats_l0 s width k x) (fun x => Int.toNat (width - ((x : Nat) : Int))) 0 (by kernel_rfl) ⟨?_, _, Nat.lt_succ_self _, rfl⟩ ?_)
    ·
     show True
     exact trivial
    ·
     intro v32 hR
     obtain ⟨hI0, k64, hk62, e63⟩ := hR
     replace hI0 : True := hI0
     replace hk62 : Int.toNat (width - ((v32 : Nat) : Int)) < k64 := hk62
     obtain ⟨k64q, rfl⟩ : ∃ k, k64 = k + 1 := ⟨k64 - 1, by omega⟩
     refine AW.seq (AW.r1 hC [2, 31, 32, 33] [8] ⟨[(2, .ref 8 1 0), (31, sI width), (32, sI ((v32 : Nat) : Int)), (33, sB (decide (((v32 : Nat) : Int) < width)))], [(8, .box 1 [sI (Sta.Rows s), sD8 (Sta.Distinct s), sD8 (Sta.Nulls s)])]⟩ ?_)
     refine AW.seq (AW.cd (decide (((v32 : Nat) : Int) < width)) ?_ ?_)
     ·
      intro h65
      have h65q := (of_decide_eq_true h65)
      have e66 := e63.trans (Go.Am.bif_t h65)
      refine AW.kp [2, 31, 32] [8] ⟨[(2, .ref 8 1 0), (31, sI width), (32, sI ((v32 : Nat) : Int))], [(8, .box 1 [sI (Sta.Rows s), sD8 (Sta.Distinct s), sD8 (Sta.Nulls s)])]⟩ ?_
      refine AW.skip (AW.seq (AW.block (AW.seq (AW.r1 hC [2, 5, 31, 32] [8] ⟨[(2, .ref 8 1 0), (5, sI ((v32 : Nat) : Int)), (31, sI width), (32, sI ((v32 : Nat) : Int))], [(8, .box 1 [sI (Sta.Rows s), sD8 (Sta.Distinct s), sD8 (Sta.Nulls s)])]⟩ ?_))))
      refine AW.seq (AW.seq (AW.d0 hC hM [2, 5, 31, 32, 50] [8] ⟨[(2, .ref 8 1 0), (5, sI ((v32 : Nat) : Int)), (31, sI width), (32, sI ((v32 : Nat) : Int)), (50, sB (bif (decide ((List.getD (Sta.Nulls s) v32 0) < 0)) then true else (decide ((Sta.Rows s) < (List.getD (Sta.Nulls s) v32 0)))))], [(8, .box 1 [sI (Sta.Rows s), sD8 (Sta.Distinct s), sD8 (Sta.Nulls s)])]⟩ [IX ((v32 : Nat) : Int) ((List.length (Sta.Nulls s) : Nat) : Int), (((decide ((List.getD (Sta.Nulls s) v32 0) < 0)) = false) → (((decide ((List.getD (Sta.Nulls s) v32 0) < 0)) = false))), (((decide ((List.getD (Sta.Nulls s) v32 0) < 0)) = false) → (((decide ((List.getD (Sta.Nulls s) v32 0) < 0)) = false))), (((decide ((List.getD (Sta.Nulls s) v32 0) < 0)) = false) → (((decide ((List.getD (Sta.Nulls s) v32 0) < 0)) = false))), (((decide ((List.getD (Sta.Nulls s) v32 0) < 0)) = false) → IX ((v32 : Nat) : Int) ((List.length (Sta.Nulls s) : Nat) : Int)), (((decide ((List.getD (Sta.Nulls s) v32 0) < 0)) = false) → (((decide ((List.getD (Sta.Nulls s) v32 0) < 0)) = false))), (((decide ((List.getD (Sta.Nulls s) v32 0) < 0)) = false) → (((decide ((List.getD (Sta.Nulls s) v32 0) < 0)) = false))), (((decide ((List.getD (Sta.Nulls s) v32 0) < 0)) = false) → (((decide ((List.getD (Sta.Nulls s) v32 0) < 0)) = false))), (((decide ((List.getD (Sta.Nulls s) v32 0) < 0)) = false) → (((decide ((List.getD (Sta.Nulls s) v32 0) < 0)) = false))), (((decide ((List.getD (Sta.Nulls s) v32 0) < 0)) = false) → (((decide ((List.getD (Sta.Nulls s) v32 0) < 0)) = false)))] ?_ ?_))
      ·
       refine ⟨?_, ?_, ?_, ?_, ?_, ?_, ?_, ?_, ?_, ?_, trivial⟩
       ·
        refine IX.of ?_
        omega
       ·
        intro g67
        have g67p0 : ¬ ((List.getD (Sta.Nulls s) v32 0) < 0) := (of_decide_eq_false g67)
        assumption
       ·
        intro g68
        have g68p0 : ¬ ((List.getD (Sta.Nulls s) v32 0) < 0) := (of_decide_eq_false g68)
        assumption
       ·
        intro g69
        have g69p0 : ¬ ((List.getD (Sta.Nulls s) v32 0) < 0) := (of_decide_eq_false g69)
        assumption
       ·
        intro g70
        have g70p0 : ¬ ((List.getD (Sta.Nulls s) v32 0) < 0) := (of_decide_eq_false g70)
        refine IX.of ?_
        omega
       ·
        intro g71
        have g71p0 : ¬ ((List.getD (Sta.Nulls s) v32 0) < 0) := (of_decide_eq_false g71)
        assumption
       ·
        intro g72
        have g72p0 : ¬ ((List.getD (Sta.Nulls s) v32 0) < 0) := (of_decide_eq_false g72)
        assumption
       ·
        intro g73
        have g73p0 : ¬ ((List.getD (Sta.Nulls s) v32 0) < 0) := (of_decide_eq_false g73)
        assumption
       ·
        intro g74
        have g74p0 : ¬ ((List.getD (Sta.Nulls s) v32 0) < 0) := (of_decide_eq_false g74)
        assumption
       ·
        intro g75
        have g75p0 : ¬ ((List.getD (Sta.Nulls s) v32 0) < 0) := (of_decide_eq_false g75)
        assumption
      refine AW.cd (bif (decide ((List.getD (Sta.Nulls s) v32 0) < 0)) then true else (decide ((Sta.Rows s) < (List.getD (Sta.Nulls s) v32 0)))) ?_ ?_
      ·
       intro h76
       have h76q : ((List.getD (Sta.Nulls s) v32 0) < 0) ∨ ((Sta.Rows s) < (List.getD (Sta.Nulls s) v32 0)) := (Or.imp (fun h => (of_decide_eq_true h)) (fun h => (of_decide_eq_true h)) (Go.Am.or_pos h76))
       have e77 := e66.trans (Go.Am.bif_t h76)
       refine AW.seq (AW.r1 hC [4] [] ⟨[(4, sB false)], []⟩ ?_)
       refine AW.ret ?_
       have e78 := e19.trans (Go.Am.elim_r e77)
       exact AW.rB false e78
      ·
       intro h79
       have h79q : (¬ ((List.getD (Sta.Nulls s) v32 0) < 0)) ∧ (¬ ((Sta.Rows s) < (List.getD (Sta.Nulls s) v32 0))) := (And.imp (fun h => (of_decide_eq_false h)) (fun h => (of_decide_eq_false h)) (Go.Am.or_neg h79))
       have e80 := e66.trans (Go.Am.bif_f h79)
       refine AW.kp [2, 5, 31, 32] [8] ⟨[(2, .ref 8 1 0), (5, sI ((v32 : Nat) : Int)), (31, sI width), (32, sI ((v32 : Nat) : Int))], [(8, .box 1 [sI (Sta.Rows s), sD8 (Sta.Distinct s), sD8 (Sta.Nulls s)])]⟩ ?_
       refine AW.skip (AW.seq (AW.d0 hC hM [2, 31, 32, 72] [8] ⟨[(2, .ref 8 1 0), (31, sI width), (32, sI ((v32 : Nat) : Int)), (72, sB (bif (decide ((List.getD (Sta.Distinct s) v32 0) < 0)) then true else (decide (((Sta.Rows s) - (List.getD (Sta.Nulls s) v32 0)) < (List.getD (Sta.Distinct s) v32 0)))))], [(8, .box 1 [sI (Sta.Rows s), sD8 (Sta.Distinct s), sD8 (Sta.Nulls s)])]⟩ [IX ((v32 : Nat) : Int) ((List.length (Sta.Distinct s) : Nat) : Int), (((decide ((List.getD (Sta.Distinct s) v32 0) < 0)) = false) → (((decide ((List.getD (Sta.Distinct s) v32 0) < 0)) = false))), (((decide ((List.getD (Sta.Distinct s) v32 0) < 0)) = false) → (((decide ((List.getD (Sta.Distinct s) v32 0) < 0)) = false))), (((decide ((List.getD (Sta.Distinct s) v32 0) < 0)) = false) → (((decide ((List.getD (Sta.Distinct s) v32 0) < 0)) = false))), (((decide ((List.getD (Sta.Distinct s) v32 0) < 0)) = false) → IX ((v32 : Nat) : Int) ((List.length (Sta.Distinct s) : Nat) : Int)), (((decide ((List.getD (Sta.Distinct s) v32 0) < 0)) = false) → (((decide ((List.getD (Sta.Distinct s) v32 0) < 0)) = false))), (((decide ((List.getD (Sta.Distinct s) v32 0) < 0)) = false) → (((decide ((List.getD (Sta.Distinct s) v32 0) < 0)) = false))), (((decide ((List.getD (Sta.Distinct s) v32 0) < 0)) = false) → (((decide ((List.getD (Sta.Distinct s) v32 0) < 0)) = false))), (((decide ((List.getD (Sta.Distinct s) v32 0) < 0)) = false) → (((decide ((List.getD (Sta.Distinct s) v32 0) < 0)) = false))), (((decide ((List.getD (Sta.Distinct s) v32 0) < 0)) = false) → (((decide ((List.getD (Sta.Distinct s) v32 0) < 0)) = false))), (((decide ((List.getD (Sta.Distinct s) v32 0) < 0)) = false) → IX ((v32 : Nat) : Int) ((List.length (Sta.Nulls s) : Nat) : Int)), (((decide ((List.getD (Sta.Distinct s) v32 0) < 0)) = false) → (((decide ((List.getD (Sta.Distinct s) v32 0) < 0)) = false))), (((decide ((List.getD (Sta.Distinct s) v32 0) < 0)) = false) → (((decide ((List.getD (Sta.Distinct s) v32 0) < 0)) = false))), (((decide ((List.getD (Sta.Distinct s) v32 0) < 0)) = false) → (((decide ((List.getD (Sta.Distinct s) v32 0) < 0)) = false))), (((decide ((List.getD (Sta.Distinct s) v32 0) < 0)) = false) → R64 ((Sta.Rows s) - (List.getD (Sta.Nulls s) v32 0))), (((decide ((List.getD (Sta.Distinct s) v32 0) < 0)) = false) → (((decide ((List.getD (Sta.Distinct s) v32 0) < 0)) = false))), (((decide ((List.getD (Sta.Distinct s) v32 0) < 0)) = false) → (((decide ((List.getD (Sta.Distinct s) v32 0) < 0)) = false))), (((decide ((List.getD (Sta.Distinct s) v32 0) < 0)) = false) → (((decide ((List.getD (Sta.Distinct s) v32 0) < 0)) = false)))] ?_ ?_))
       ·
        refine ⟨?_, ?_, ?_, ?_, ?_, ?_, ?_, ?_, ?_, ?_, ?_, ?_, ?_, ?_, ?_, ?_, ?_, ?_, trivial⟩
        ·
         refine IX.of ?_
         omega
        ·
         intro g81
         have g81p0 : ¬ ((List.getD (Sta.Distinct s) v32 0) < 0) := (of_decide_eq_false g81)
         assumption
        ·
         intro g82
         have g82p0 : ¬ ((List.getD (Sta.Distinct s) v32 0) < 0) := (of_decide_eq_false g82)
         assumption
        ·
         intro g83
         have g83p0 : ¬ ((List.getD (Sta.Distinct s) v32 0) < 0) := (of_decide_eq_false g83)
         assumption
        ·
         intro g84
         have g84p0 : ¬ ((List.getD (Sta.Distinct s) v32 0) < 0) := (of_decide_eq_false g84)
         refine IX.of ?_
         omega
        ·
         intro g85
         have g85p0 : ¬ ((List.getD (Sta.Distinct s) v32 0) < 0) := (of_decide_eq_false g85)
         assumption
        ·
         intro g86
         have g86p0 : ¬ ((List.getD (Sta.Distinct s) v32 0) < 0) := (of_decide_eq_false g86)
         assumption
        ·
         intro g87
         have g87p0 : ¬ ((List.getD (Sta.Distinct s) v32 0) < 0) := (of_decide_eq_false g87)
         assumption
        ·
         intro g88
         have g88p0 : ¬ ((List.getD (Sta.Distinct s) v32 0) < 0) := (of_decide_eq_false g88)
         assumption
        ·
         intro g89
         have g89p0 : ¬ ((List.getD (Sta.Distinct s) v32 0) < 0) := (of_decide_eq_false g89)
         assumption
        ·
         intro g90
         have g90p0 : ¬ ((List.getD (Sta.Distinct s) v32 0) < 0) := (of_decide_eq_false g90)
         refine IX.of ?_
         omega
        ·
         intro g91
         have g91p0 : ¬ ((List.getD (Sta.Distinct s) v32 0) < 0) := (of_decide_eq_false g91)
         assumption
        ·
         intro g92
         have g92p0 : ¬ ((List.getD (Sta.Distinct s) v32 0) < 0) := (of_decide_eq_false g92)
         assumption
        ·
         intro g93
         have g93p0 : ¬ ((List.getD (Sta.Distinct s) v32 0) < 0) := (of_decide_eq_false g93)
         assumption
        ·
         intro g94
         have g94p0 : ¬ ((List.getD (Sta.Distinct s) v32 0) < 0) := (of_decide_eq_false g94)
         refine R64.of ?_
         omega
        ·
         intro g95
         have g95p0 : ¬ ((List.getD (Sta.Distinct s) v32 0) < 0) := (of_decide_eq_false g95)
         assumption
        ·
         intro g96
         have g96p0 : ¬ ((List.getD (Sta.Distinct s) v32 0) < 0) := (of_decide_eq_false g96)
         assumption
        ·
         intro g97
         have g97p0 : ¬ ((List.getD (Sta.Distinct s) v32 0) < 0) := (of_decide_eq_false g97)
         assumption
       refine AW.cd (bif (decide ((List.getD (Sta.Distinct s) v32 0) < 0)) then true else (decide (((Sta.Rows s) - (List.getD (Sta.Nulls s) v32 0)) < (List.getD (Sta.Distinct s) v32 0)))) ?_ ?_
       ·
        intro h98
        have h98q : ((List.getD (Sta.Distinct s) v32 0) < 0) ∨ (((Sta.Rows s) - (List.getD (Sta.Nulls s) v32 0)) < (List.getD (Sta.Distinct s) v32 0)) := (Or.imp (fun h => (of_decide_eq_true h)) (fun h => (of_decide_eq_true h)) (Go.Am.or_pos h98))
        have e99 := e80.trans (Go.Am.bif_t h98)
        refine AW.seq (AW.r1 hC [4] [] ⟨[(4, sB false)], []⟩ ?_)
        refine AW.ret ?_
        have e100 := e19.trans (Go.Am.elim_r e99)
        exact AW.rB false e100
       ·
        intro h101
        have h101q : (¬ ((List.getD (Sta.Distinct s) v32 0) < 0)) ∧ (¬ (((Sta.Rows s) - (List.getD (Sta.Nulls s) v32 0)) < (List.getD (Sta.Distinct s) v32 0))) := (And.imp (fun h => (of_decide_eq_false h)) (fun h => (of_decide_eq_false h)) (Go.Am.or_neg h101))
        have e102 := e80.trans (Go.Am.bif_f h101)
        refine AW.kp [2, 31, 32] [8] ⟨[(2, .ref 8 1 0), (31, sI width), (32, sI ((v32 : Nat) : Int))], [(8, .box 1 [sI (Sta.Rows s), sD8 (Sta.Distinct s), sD8 (Sta.Nulls s)])]⟩ ?_
        refine AW.skip (AW.r0 hC [2, 31, 32] [8] ⟨[(2, .ref 8 1 0), (31, sI width), (32, sI ((v32 + 1 : Nat) : Int))], [(8, .box 1 [sI (Sta.Rows s), sD8 (Sta.Distinct s), sD8 (Sta.Nulls s)])]⟩ [R64 ((v32 + 1 : Nat) : Int)] ?_ ?_)
        ·
         refine ⟨?_, trivial⟩
         ·
          refine R64.of ?_
          omega
        refine AW.back (x := v32) (v32 + 1) (by kernel_rfl) ⟨?_, k64q, ?_, e102⟩ ?_
        ·
         show True
         assumption
        ·
         show Int.toNat (width - (((v32 + 1) : Nat) : Int)) < k64q
         omega
        ·
         show Int.toNat (width - (((v32 + 1) : Nat) : Int)) < Int.toNat (width - ((v32 : Nat) : Int))
         omega
     ·
      intro h103
      have h103q := (of_decide_eq_false h103)
      have e104 := e63.trans (Go.Am.bif_f h103)
      refine AW.kp [] [] ⟨[], []⟩ ?_
      refine AW.exit ?_
      refine AW.meet () (by kernel_rfl) ⟨?_, e104⟩
      show True
      assumption
   ·
    intro x hR
    obtain ⟨hJ0, e105⟩ := hR
    replace hJ0 : True := hJ0
    have e106 := e19.trans (Go.Am.elim_l e105)
    refine AW.seq (AW.r1 hC [4] [] ⟨[(4, sB true)], []⟩ ?_)
    exact AW.ret (AW.rB true e106)

def validStats_l0 (s : Sta) (width : Int) : Nat → Nat → Unit ⊕ Bool
 | 0, i => .inl ()
 | k + 1, i => (bif (decide (((i : Nat) : Int) < width)) then (bif (bif (!(inRange (List.getD (Sta.Nulls s) i 0) 0 (Sta.Rows s))) then true else (!(inRange (List.getD (Sta.Distinct s) i 0) 0 ((Sta.Rows s) - (List.getD (Sta.Nulls s) i 0))))) then (.inr false) else (validStats_l0 s width k (i + 1))) else (.inl ()))

def validStats (s : Sta) (width : Int) : Bool := (bif (bif (bif (!(inRange (Sta.Rows s) 0 400)) then true else (((List.length (Sta.Distinct s) : Nat) : Int) != width)) then true else (((List.length (Sta.Nulls s) : Nat) : Int) != width)) then false else (Sum.elim (fun _ => true) (fun r => r) (validStats_l0 s width (Int.toNat (width - ((0 : Nat) : Int)) + 1) 0)))

def validStats_sp : FnSpec := mkSpec [.val (.named 3), .val (.int .i64)] [.val .bool] (fun (s : Sta) (width : Int) => 1 ≤ width ∧ width ≤ 6) (fun (s : Sta) (width : Int) => [⟨.bool, (validStats s width)⟩])

theorem validStats_ok : FnOK Try.prog 31 validStats_sp := by
 have hC : CtxOK Try.prog (mkCtx tyL [(30, inRange_sp)]) := CtxOK.cons inRange_ok (CtxOK.nil tyOK)
 have hM : Try.prog.follows .mixedOrders = true := Try.checked.mixed
 refine FnOK.of_body Try.func31 (by kernel_rfl) rfl (C := (mkCtx tyL [(30, inRange_sp)])) hC.ty (by kernel_rfl) ?_
 intro (s : Sta) (width : Int) hwf hpre E
 have hpre : 1 ≤ width ∧ width ≤ 6 := hpre
 have hw_s : Wf ⟨(.named 3), (s : Sta)⟩ := hwf _ (List.Mem.head _)
 obtain ⟨hr_s_Rows, hl_s_Distinct, hl_s_Nulls⟩ := Sta.wfl hw_s
 have hw_width : Wf ⟨(.int .i64), (width : Int)⟩ := hwf _ (List.Mem.tail _ (List.Mem.head _))
 have hr_width : -9223372036854775808 ≤ width ∧ width ≤ 9223372036854775807 := hw_width.int_inv
 have e0 : validStats s width = validStats s width := rfl
 refine AW.seq (AW.r1 hC [1, 2] [8] ⟨[(1, sI width), (2, .ref 8 1 0)], [(8, .box 1 [sI (Sta.Rows s), sD8 (Sta.Distinct s), sD8 (Sta.Nulls s)])]⟩ ?_)
 refine AW.seq (AW.seq (AW.r0 hC [1, 2, 23] [8] ⟨[(1, sI width), (2, .ref 8 1 0), (23, sB (bif (bif (!(inRange (Sta.Rows s) 0 400)) then true else (((List.length (Sta.Distinct s) : Nat) : Int) != width)) then true else (((List.length (Sta.Nulls s) : Nat) : Int) != width)))], [(8, .box 1 [sI (Sta.Rows s), sD8 (Sta.Distinct s), sD8 (Sta.Nulls s)])]⟩ [(True), (((!(inRange (Sta.Rows s) 0 400)) = false) → (((!(inRange (Sta.Rows s) 0 400)) = false))), (((!(inRange (Sta.Rows s) 0 400)) = false) → (((!(inRange (Sta.Rows s) 0 400)) = false))), (((!(inRange (Sta.Rows s) 0 400)) = false) → (((!(inRange (Sta.Rows s) 0 400)) = false))), (((!(inRange (Sta.Rows s) 0 400)) = false) → (((!(inRange (Sta.Rows s) 0 400)) = false))), (((!(inRange (Sta.Rows s) 0 400)) = false) → (((!(inRange (Sta.Rows s) 0 400)) = false))), (((bif (!(inRange (Sta.Rows s) 0 400)) then true else (((List.length (Sta.Distinct s) : Nat) : Int) != width)) = false) → (((bif (!(inRange (Sta.Rows s) 0 400)) then true else (((List.length (Sta.Distinct s) : Nat) : Int) != width)) = false))), (((bif (!(inRange (Sta.Rows s) 0 400)) then true else (((List.length (Sta.Distinct s) : Nat) : Int) != width)) = false) → (((bif (!(inRange (Sta.Rows s) 0 400)) then true else (((List.length (Sta.Distinct s) : Nat) : Int) != width)) = false))), (((bif (!(inRange (Sta.Rows s) 0 400)) then true else (((List.length (Sta.Distinct s) : Nat) : Int) != width)) = false) → (((bif (!(inRange (Sta.Rows s) 0 400)) then true else (((List.length (Sta.Distinct s) : Nat) : Int) != width)) = false))), (((bif (!(inRange (Sta.Rows s) 0 400)) then true else (((List.length (Sta.Distinct s) : Nat) : Int) != width)) = false) → (((bif (!(inRange (Sta.Rows s) 0 400)) then true else (((List.length (Sta.Distinct s) : Nat) : Int) != width)) = false))), (((bif (!(inRange (Sta.Rows s) 0 400)) then true else (((List.length (Sta.Distinct s) : Nat) : Int) != width)) = false) → (((bif (!(inRange (Sta.Rows s) 0 400)) then true else (((List.length (Sta.Distinct s) : Nat) : Int) != width)) = false)))] ?_ ?_))
 ·
  refine ⟨?_, ?_, ?_, ?_, ?_, ?_, ?_, ?_, ?_, ?_, ?_, trivial⟩
  ·
   trivial
  ·
   intro g1
   have g1p0 : (inRange (Sta.Rows s) 0 400) = true := (Go.Am.not_neg g1)
   assumption
  ·
   intro g2
   have g2p0 : (inRange (Sta.Rows s) 0 400) = true := (Go.Am.not_neg g2)
   assumption
  ·
   intro g3
   have g3p0 : (inRange (Sta.Rows s) 0 400) = true := (Go.Am.not_neg g3)
   assumption
  ·
   intro g4
   have g4p0 : (inRange (Sta.Rows s) 0 400) = true := (Go.Am.not_neg g4)
   assumption
  ·
   intro g5
   have g5p0 : (inRange (Sta.Rows s) 0 400) = true := (Go.Am.not_neg g5)
   assumption
  ·
   intro g6
   have g6p0 : ((inRange (Sta.Rows s) 0 400) = true) ∧ (((List.length (Sta.Distinct s) : Nat) : Int) = width) := (And.imp (fun h => (Go.Am.not_neg h)) (fun h => (Go.Am.bne_neg h)) (Go.Am.or_neg g6))
   assumption
  ·
   intro g7
   have g7p0 : ((inRange (Sta.Rows s) 0 400) = true) ∧ (((List.length (Sta.Distinct s) : Nat) : Int) = width) := (And.imp (fun h => (Go.Am.not_neg h)) (fun h => (Go.Am.bne_neg h)) (Go.Am.or_neg g7))
   assumption
  ·
   intro g8
   have g8p0 : ((inRange (Sta.Rows s) 0 400) = true) ∧ (((List.length (Sta.Distinct s) : Nat) : Int) = width) := (And.imp (fun h => (Go.Am.not_neg h)) (fun h => (Go.Am.bne_neg h)) (Go.Am.or_neg g8))
   assumption
  ·
   intro g9
   have g9p0 : ((inRange (Sta.Rows s) 0 400) = true) ∧ (((List.length (Sta.Distinct s) : Nat) : Int) = width) := (And.imp (fun h => (Go.Am.not_neg h)) (fun h => (Go.Am.bne_neg h)) (Go.Am.or_neg g9))
   assumption
  ·
   intro g10
   have g10p0 : ((inRange (Sta.Rows s) 0 400) = true) ∧ (((List.length (Sta.Distinct s) : Nat) : Int) = width) := (And.imp (fun h => (Go.Am.not_neg h)) (fun h => (Go.Am.bne_neg h)) (Go.Am.or_neg g10))
   assumption
 refine AW.cd (bif (bif (!(inRange (Sta.Rows s) 0 400)) then true else (((List.length (Sta.Distinct s) : Nat) : Int) != width)) then true else (((List.length (Sta.Nulls s) : Nat) : Int) != width)) ?_ ?_
 ·
  intro h11
  have h11q : (((inRange (Sta.Rows s) 0 400) = false) ∨ (((List.length (Sta.Distinct s) : Nat) : Int) ≠ width)) ∨ (((List.length (Sta.Nulls s) : Nat) : Int) ≠ width) := (Or.imp (fun h => (Or.imp (fun h => (Go.Am.not_pos h)) (fun h => (Go.Am.bne_pos h)) (Go.Am.or_pos h))) (fun h => (Go.Am.bne_pos h)) (Go.Am.or_pos h11))
  have e12 := e0.trans (Go.Am.bif_t h11)
  refine AW.seq (AW.r1 hC [4] [] ⟨[(4, sB false)], []⟩ ?_)
  exact AW.ret (AW.rB false e12)
 ·
  intro h13
  have h13q : (((inRange (Sta.Rows s) 0 400) = true) ∧ (((List.length (Sta.Distinct s) : Nat) : Int) = width)) ∧ (((List.length (Sta.Nulls s) : Nat) : Int) = width) := (And.imp (fun h => (And.imp (fun h => (Go.Am.not_neg h)) (fun h => (Go.Am.bne_neg h)) (Go.Am.or_neg h))) (fun h => (Go.Am.bne_neg h)) (Go.Am.or_neg h13))
  have e14 := e0.trans (Go.Am.bif_f h13)
  refine AW.kp [1, 2] [8] ⟨[(1, sI width), (2, .ref 8 1 0)], [(8, .box 1 [sI (Sta.Rows s), sD8 (Sta.Distinct s), sD8 (Sta.Nulls s)])]⟩ ?_
  refine AW.skip (AW.seq (AW.seq (AW.r1 hC [1, 2, 5] [8] ⟨[(1, sI width), (2, .ref 8 1 0), (5, sI 0)], [(8, .box 1 [sI (Sta.Rows s), sD8 (Sta.Distinct s), sD8 (Sta.Nulls s)])]⟩ ?_)))
  refine AW.cutQ (α := Unit) (fun x => ⟨[], []⟩) (fun x => (True) ∧ (validStats_l0 s width (Int.toNat (width - ((0 : Nat) : Int)) + 1) 0) = (.inl ())) ?_ ?_
  ·
   skip
   refine AW.block (AW.loop (α := Nat) (fun x => ⟨[(1, sI width), (2, .ref 8 1 0), (5, sI ((x : Nat) : Int))], [(8, .box 1 [sI (Sta.Rows s), sD8 (Sta.Distinct s), sD8 (Sta.Nulls s)])]⟩) (fun x => (True) ∧ ∃ k, Int.toNat (width - ((x : Nat) : Int)) < k ∧ (validStats_l0 s width (Int.toNat (width - ((0 : Nat) : Int)) + 1) 0) = validStats_l0 s width k x) (fun x => Int.toNat (width - ((x : Nat) : Int))) 0 (by kernel_rfl) ⟨?_, _, Nat.lt_succ_self _, rfl⟩ ?_)
   ·
    show True
    exact trivial
   ·
    intro i hR
    obtain ⟨hI0, k44, hk42, e43⟩ := hR
    replace hI0 : True := hI0
    replace hk42 : Int.toNat (width - ((i : Nat) : Int)) < k44 := hk42
    obtain ⟨k44q, rfl⟩ : ∃ k, k44 = k + 1 := ⟨k44 - 1, by omega⟩
    refine AW.seq (AW.seq (AW.r1 hC [1, 2, 5, 26] [8] ⟨[(1, sI width), (2, .ref 8 1 0), (5, sI ((i : Nat) : Int)), (26, sB (decide (((i : Nat) : Int) < width)))], [(8, .box 1 [sI (Sta.Rows s), sD8 (Sta.Distinct s), sD8 (Sta.Nulls s)])]⟩ ?_))
    refine AW.cd (decide (((i : Nat) : Int) < width)) ?_ ?_
    ·
     intro h45
     have h45q := (of_decide_eq_true h45)
     have e46 := e43.trans (Go.Am.bif_t h45)
     refine AW.kp [1, 2, 5] [8] ⟨[(1, sI width), (2, .ref 8 1 0), (5, sI ((i : Nat) : Int))], [(8, .box 1 [sI (Sta.Rows s), sD8 (Sta.Distinct s), sD8 (Sta.Nulls s)])]⟩ ?_
     refine AW.skip (AW.seq (AW.block (AW.seq (AW.d0 hC hM [1, 2, 5, 54] [8] ⟨[(1, sI width), (2, .ref 8 1 0), (5, sI ((i : Nat) : Int)), (54, sB (bif (!(inRange (List.getD (Sta.Nulls s) i 0) 0 (Sta.Rows s))) then true else (!(inRange (List.getD (Sta.Distinct s) i 0) 0 ((Sta.Rows s) - (List.getD (Sta.Nulls s) i 0))))))], [(8, .box 1 [sI (Sta.Rows s), sD8 (Sta.Distinct s), sD8 (Sta.Nulls s)])]⟩ [IX ((i : Nat) : Int) ((List.length (Sta.Nulls s) : Nat) : Int), (True), (((!(inRange (List.getD (Sta.Nulls s) i 0) 0 (Sta.Rows s))) = false) → (((!(inRange (List.getD (Sta.Nulls s) i 0) 0 (Sta.Rows s))) = false))), (((!(inRange (List.getD (Sta.Nulls s) i 0) 0 (Sta.Rows s))) = false) → (((!(inRange (List.getD (Sta.Nulls s) i 0) 0 (Sta.Rows s))) = false))), (((!(inRange (List.getD (Sta.Nulls s) i 0) 0 (Sta.Rows s))) = false) → (((!(inRange (List.getD (Sta.Nulls s) i 0) 0 (Sta.Rows s))) = false))), (((!(inRange (List.getD (Sta.Nulls s) i 0) 0 (Sta.Rows s))) = false) → IX ((i : Nat) : Int) ((List.length (Sta.Distinct s) : Nat) : Int)), (((!(inRange (List.getD (Sta.Nulls s) i 0) 0 (Sta.Rows s))) = false) → (((!(inRange (List.getD (Sta.Nulls s) i 0) 0 (Sta.Rows s))) = false))), (((!(inRange (List.getD (Sta.Nulls s) i 0) 0 (Sta.Rows s))) = false) → (((!(inRange (List.getD (Sta.Nulls s) i 0) 0 (Sta.Rows s))) = false))), (((!(inRange (List.getD (Sta.Nulls s) i 0) 0 (Sta.Rows s))) = false) → (((!(inRange (List.getD (Sta.Nulls s) i 0) 0 (Sta.Rows s))) = false))), (((!(inRange (List.getD (Sta.Nulls s) i 0) 0 (Sta.Rows s))) = false) → (((!(inRange (List.getD (Sta.Nulls s) i 0) 0 (Sta.Rows s))) = false))), (((!(inRange (List.getD (Sta.Nulls s) i 0) 0 (Sta.Rows s))) = false) → (((!(inRange (List.getD (Sta.Nulls s) i 0) 0 (Sta.Rows s))) = false))), (((!(inRange (List.getD (Sta.Nulls s) i 0) 0 (Sta.Rows s))) = false) → IX ((i : Nat) : Int) ((List.length (Sta.Nulls s) : Nat) : Int)), (((!(inRange (List.getD (Sta.Nulls s) i 0) 0 (Sta.Rows s))) = false) → (((!(inRange (List.getD (Sta.Nulls s) i 0) 0 (Sta.Rows s))) = false))), (((!(inRange (List.getD (Sta.Nulls s) i 0) 0 (Sta.Rows s))) = false) → (((!(inRange (List.getD (Sta.Nulls s) i 0) 0 (Sta.Rows s))) = false))), (((!(inRange (List.getD (Sta.Nulls s) i 0) 0 (Sta.Rows s))) = false) → (((!(inRange (List.getD (Sta.Nulls s) i 0) 0 (Sta.Rows s))) = false))), (((!(inRange (List.getD (Sta.Nulls s) i 0) 0 (Sta.Rows s))) = false) → R64 ((Sta.Rows s) - (List.getD (Sta.Nulls s) i 0))), (((!(inRange (List.getD (Sta.Nulls s) i 0) 0 (Sta.Rows s))) = false) → (((!(inRange (List.getD (Sta.Nulls s) i 0) 0 (Sta.Rows s))) = false))), (((!(inRange (List.getD (Sta.Nulls s) i 0) 0 (Sta.Rows s))) = false) → (((!(inRange (List.getD (Sta.Nulls s) i 0) 0 (Sta.Rows s))) = false))), (((!(inRange (List.getD (Sta.Nulls s) i 0) 0 (Sta.Rows s))) = false) → (True)), (((!(inRange (List.getD (Sta.Nulls s) i 0) 0 (Sta.Rows s))) = false) → (((!(inRange (List.getD (Sta.Nulls s) i 0) 0 (Sta.Rows s))) = false))), (((!(inRange (List.getD (Sta.Nulls s) i 0) 0 (Sta.Rows s))) = false) → (((!(inRange (List.getD (Sta.Nulls s) i 0) 0 (Sta.Rows s))) = false)))] ?_ ?_))))
     ·
      refine ⟨?_, ?_, ?_, ?_, ?_, ?_, ?_, ?_, ?_, ?_, ?_, ?_, ?_, ?_, ?_, ?_, ?_, ?_, ?_, ?_, ?_, trivial⟩
      ·
       refine IX.of ?_
       omega
      ·
       trivial
      ·
       intro g47
       have g47p0 : (inRange (List.getD (Sta.Nulls s) i 0) 0 (Sta.Rows s)) = true := (Go.Am.not_neg g47)
       assumption
      ·
       intro g48
       have g48p0 : (inRange (List.getD (Sta.Nulls s) i 0) 0 (Sta.Rows s)) = true := (Go.Am.not_neg g48)
       assumption
      ·
       intro g49
       have g49p0 : (inRange (List.getD (Sta.Nulls s) i 0) 0 (Sta.Rows s)) = true := (Go.Am.not_neg g49)
       assumption
      ·
       intro g50
       have g50p0 : (inRange (List.getD (Sta.Nulls s) i 0) 0 (Sta.Rows s)) = true := (Go.Am.not_neg g50)
       refine IX.of ?_
       omega
      ·
       intro g51
       have g51p0 : (inRange (List.getD (Sta.Nulls s) i 0) 0 (Sta.Rows s)) = true := (Go.Am.not_neg g51)
       assumption
      ·
       intro g52
       have g52p0 : (inRange (List.getD (Sta.Nulls s) i 0) 0 (Sta.Rows s)) = true := (Go.Am.not_neg g52)
       assumption
      ·
       intro g53
       have g53p0 : (inRange (List.getD (Sta.Nulls s) i 0) 0 (Sta.Rows s)) = true := (Go.Am.not_neg g53)
       assumption
      ·
       intro g54
       have g54p0 : (inRange (List.getD (Sta.Nulls s) i 0) 0 (Sta.Rows s)) = true := (Go.Am.not_neg g54)
       assumption
      ·
       intro g55
       have g55p0 : (inRange (List.getD (Sta.Nulls s) i 0) 0 (Sta.Rows s)) = true := (Go.Am.not_neg g55)
       assumption
      ·
       intro g56
       have g56p0 : (inRange (List.getD (Sta.Nulls s) i 0) 0 (Sta.Rows s)) = true := (Go.Am.not_neg g56)
       refine IX.of ?_
       omega
      ·
       intro g57
       have g57p0 : (inRange (List.getD (Sta.Nulls s) i 0) 0 (Sta.Rows s)) = true := (Go.Am.not_neg g57)
       assumption
      ·
       intro g58
       have g58p0 : (inRange (List.getD (Sta.Nulls s) i 0) 0 (Sta.Rows s)) = true := (Go.Am.not_neg g58)
       assumption
      ·
       intro g59
       have g59p0 : (inRange (List.getD (Sta.Nulls s) i 0) 0 (Sta.Rows s)) = true := (Go.Am.not_neg g59)
       assumption
      ·
       intro g60
       have g60p0 : (inRange (List.getD (Sta.Nulls s) i 0) 0 (Sta.Rows s)) = true := (Go.Am.not_neg g60)
       refine R64.of ?_
       have hr := inRange_iff.1 g60p0; omega
      ·
       intro g61
       have g61p0 : (inRange (List.getD (Sta.Nulls s) i 0) 0 (Sta.Rows s)) = true := (Go.Am.not_neg g61)
       assumption
      ·
       intro g62
       have g62p0 : (inRange (List.getD (Sta.Nulls s) i 0) 0 (Sta.Rows s)) = true := (Go.Am.not_neg g62)
       assumption
      ·
       intro g63
       have g63p0 : (inRange (List.getD (Sta.Nulls s) i 0) 0 (Sta.Rows s)) = true := (Go.Am.not_neg g63)
       trivial
      ·
       intro g64
       have g64p0 : (inRange (List.getD (Sta.Nulls s) i 0) 0 (Sta.Rows s)) = true := (Go.Am.not_neg g64)
       assumption
      ·
       intro g65
       have g65p0 : (inRange (List.getD (Sta.Nulls s) i 0) 0 (Sta.Rows s)) = true := (Go.Am.not_neg g65)
       assumption
     refine AW.cd (bif (!(inRange (List.getD (Sta.Nulls s) i 0) 0 (Sta.Rows s))) then true else (!(inRange (List.getD (Sta.Distinct s) i 0) 0 ((Sta.Rows s) - (List.getD (Sta.Nulls s) i 0))))) ?_ ?_
     ·
      intro h66
      have h66q : ((inRange (List.getD (Sta.Nulls s) i 0) 0 (Sta.Rows s)) = false) ∨ ((inRange (List.getD (Sta.Distinct s) i 0) 0 ((Sta.Rows s) - (List.getD (Sta.Nulls s) i 0))) = false) := (Or.imp (fun h => (Go.Am.not_pos h)) (fun h => (Go.Am.not_pos h)) (Go.Am.or_pos h66))
      have e67 := e46.trans (Go.Am.bif_t h66)
      refine AW.seq (AW.r1 hC [4] [] ⟨[(4, sB false)], []⟩ ?_)
      refine AW.ret ?_
      have e68 := e14.trans (Go.Am.elim_r e67)
      exact AW.rB false e68
     ·
      intro h69
      have h69q : ((inRange (List.getD (Sta.Nulls s) i 0) 0 (Sta.Rows s)) = true) ∧ ((inRange (List.getD (Sta.Distinct s) i 0) 0 ((Sta.Rows s) - (List.getD (Sta.Nulls s) i 0))) = true) := (And.imp (fun h => (Go.Am.not_neg h)) (fun h => (Go.Am.not_neg h)) (Go.Am.or_neg h69))
      have e70 := e46.trans (Go.Am.bif_f h69)
      refine AW.kp [1, 2, 5] [8] ⟨[(1, sI width), (2, .ref 8 1 0), (5, sI ((i : Nat) : Int))], [(8, .box 1 [sI (Sta.Rows s), sD8 (Sta.Distinct s), sD8 (Sta.Nulls s)])]⟩ ?_
      refine AW.skip (AW.r0 hC [1, 2, 5] [8] ⟨[(1, sI width), (2, .ref 8 1 0), (5, sI ((i + 1 : Nat) : Int))], [(8, .box 1 [sI (Sta.Rows s), sD8 (Sta.Distinct s), sD8 (Sta.Nulls s)])]⟩ [R64 ((i + 1 : Nat) : Int)] ?_ ?_)
      ·
       refine ⟨?_, trivial⟩
       ·
        refine R64.of ?_
        omega
      refine AW.back (x := i) (i + 1) (by kernel_rfl) ⟨?_, k44q, ?_, e70⟩ ?_
      ·
       show True
       assumption
      ·
       show Int.toNat (width - (((i + 1) : Nat) : Int)) < k44q
       omega
      ·
       show Int.toNat (width - (((i + 1) : Nat) : Int)) < Int.toNat (width - ((i : Nat) : Int))
       omega
    ·
     intro h71
     have h71q := (of_decide_eq_false h71)
     have e72 := e43.trans (Go.Am.bif_f h71)
     refine AW.kp [] [] ⟨[], []⟩ ?_
     refine AW.exit ?_
     refine AW.meet () (by kernel_rfl) ⟨?_, e72⟩
     show True
     assumption
  ·
   intro x hR
   obtain ⟨hJ0, e73⟩ := hR
   replace hJ0 : True := hJ0
   have e74 := e14.trans (Go.Am.elim_l e73)
   refine AW.seq (AW.r1 hC [4] [] ⟨[(4, sB true)], []⟩ ?_)
   exact AW.ret (AW.rB true e74)

def ValidStats (s : Sta) (width : Int) : Bool := (bif (inRange width 1 6) then (validStats s width) else false)

def ValidStats_sp : FnSpec := mkSpec [.val (.named 3), .val (.int .i64)] [.val .bool] (fun (s : Sta) (width : Int) => True) (fun (s : Sta) (width : Int) => [⟨.bool, (ValidStats s width)⟩])

theorem ValidStats_ok : FnOK Try.prog 17 ValidStats_sp := by
 have hC : CtxOK Try.prog (mkCtx tyL [(30, inRange_sp), (31, validStats_sp)]) := CtxOK.cons inRange_ok (CtxOK.cons validStats_ok (CtxOK.nil tyOK))
 refine FnOK.of_body Try.func17 (by kernel_rfl) rfl (C := (mkCtx tyL [(30, inRange_sp), (31, validStats_sp)])) hC.ty (by kernel_rfl) ?_
 intro (s : Sta) (width : Int) hwf hpre E
 have hpre : True := hpre
 have hw_s : Wf ⟨(.named 3), (s : Sta)⟩ := hwf _ (List.Mem.head _)
 obtain ⟨hr_s_Rows, hl_s_Distinct, hl_s_Nulls⟩ := Sta.wfl hw_s
 have hw_width : Wf ⟨(.int .i64), (width : Int)⟩ := hwf _ (List.Mem.tail _ (List.Mem.head _))
 have hr_width : -9223372036854775808 ≤ width ∧ width ≤ 9223372036854775807 := hw_width.int_inv
 have e0 : ValidStats s width = ValidStats s width := rfl
 refine AW.seq (AW.r1 hC [1, 2] [8] ⟨[(1, sI width), (2, .ref 8 1 0)], [(8, .box 1 [sI (Sta.Rows s), sD8 (Sta.Distinct s), sD8 (Sta.Nulls s)])]⟩ ?_)
 refine AW.seq (AW.r0 hC [4] [] ⟨[(4, sB (bif (inRange width 1 6) then (validStats s width) else false))], []⟩ [(True), (((inRange width 1 6) = true) → (((inRange width 1 6) = true))), (((inRange width 1 6) = true) → (((inRange width 1 6) = true))), (((inRange width 1 6) = true) → (1 ≤ width ∧ width ≤ 6)), (((inRange width 1 6) = true) → (((inRange width 1 6) = true)))] ?_ ?_)
 ·
  refine ⟨?_, ?_, ?_, ?_, ?_, trivial⟩
  ·
   trivial
  ·
   intro g1
   have g1p0 : (inRange width 1 6) = true := g1
   assumption
  ·
   intro g2
   have g2p0 : (inRange width 1 6) = true := g2
   assumption
  ·
   intro g3
   have g3p0 : (inRange width 1 6) = true := g3
   exact inRange_iff.1 g3p0
  ·
   intro g4
   have g4p0 : (inRange width 1 6) = true := g4
   assumption
 exact AW.ret (AW.rB (bif (inRange width 1 6) then (validStats s width) else false) e0)

def constantPermille (e : Xpr) : Int := (bif ((truthOf (Xpr.V e)) == 2) then 1000 else 0)

def constantPermille_sp : FnSpec := mkSpec [.rd (.named 1)] [.val (.int .i64)] (fun (e : Xpr) => True) (fun (e : Xpr) => [⟨(.int .i64), (constantPermille e)⟩])

theorem constantPermille_ok : FnOK Try.prog 28 constantPermille_sp := by
 have hC : CtxOK Try.prog (mkCtx tyL [(44, truthOf_sp)]) := CtxOK.cons truthOf_ok (CtxOK.nil tyOK)
 refine FnOK.of_body Try.func28 (by kernel_rfl) rfl (C := (mkCtx tyL [(44, truthOf_sp)])) hC.ty (by kernel_rfl) ?_
 intro (e : Xpr) hwf hpre E
 have hpre : True := hpre
 have hw_e : Wf ⟨(.named 1), (e : Xpr)⟩ := hwf _ (List.Mem.head _)
 obtain ⟨hr_e_Kind, hr_e_Col, hl_e_Kids⟩ := Xpr.wfl hw_e
 have e0 : constantPermille e = constantPermille e := rfl
 refine AW.seq (AW.r1 hC [0] [] ⟨[(0, sR4 e)], []⟩ ?_)
 refine AW.seq (AW.seq (AW.r0 hC [8] [] ⟨[(8, sB ((truthOf (Xpr.V e)) == 2))], []⟩ [(True)] ?_ ?_))
 ·
  refine ⟨?_, trivial⟩
  ·
   trivial
 refine AW.cd ((truthOf (Xpr.V e)) == 2) ?_ ?_
 ·
  intro h1
  have h1q := (Go.Am.beq_pos h1)
  have e2 := e0.trans (Go.Am.bif_t h1)
  refine AW.seq (AW.r1 hC [2] [] ⟨[(2, sI 1000)], []⟩ ?_)
  exact AW.ret (AW.rI 1000 e2)
 ·
  intro h3
  have h3q := (Go.Am.beq_neg h3)
  have e4 := e0.trans (Go.Am.bif_f h3)
  refine AW.kp [] [] ⟨[], []⟩ ?_
  refine AW.skip (AW.seq (AW.r1 hC [2] [] ⟨[(2, sI 0)], []⟩ ?_))
  exact AW.ret (AW.rI 0 e4)

structure VSt (s : Sta) : Prop where
 w : 1 ≤ ((s.Distinct.length : Nat) : Int) ∧ ((s.Distinct.length : Nat) : Int) ≤ 6
 rows : 0 ≤ s.Rows ∧ s.Rows ≤ 400
 len : s.Nulls.length = s.Distinct.length
 nulls : ∀ j, j < s.Distinct.length → 0 ≤ s.Nulls.getD j 0 ∧ s.Nulls.getD j 0 ≤ s.Rows
 dist : ∀ j, j < s.Distinct.length → 0 ≤ s.Distinct.getD j 0 ∧ s.Distinct.getD j 0 ≤ s.Rows - s.Nulls.getD j 0

theorem iValidStats_iff {s : Sta} : iValidStats s ((s.Distinct.length : Nat) : Int) = true ↔ VSt s := by
 unfold iValidStats
 rw [show Int.toNat (((s.Distinct.length : Nat) : Int) - ((0 : Nat) : Int)) + 1 = s.Distinct.length - 0 + 1 by omega, bif_false_iff, bif_false_iff]
 have hl : Sum.elim (fun _ => true) (fun r => r) (iValidStats_l0 s ((s.Distinct.length : Nat) : Int) (s.Distinct.length - 0 + 1) 0) = true ↔ ∀ j, j < s.Distinct.length → (0 ≤ s.Nulls.getD j 0 ∧ s.Nulls.getD j 0 ≤ s.Rows) ∧ (0 ≤ s.Distinct.getD j 0 ∧ s.Distinct.getD j 0 ≤ s.Rows - s.Nulls.getD j 0) := by
  have hS : ∀ k i, iValidStats_l0 s ((s.Distinct.length : Nat) : Int) (k + 1) i = bif decide (((i : Nat) : Int) < ((s.Distinct.length : Nat) : Int)) then (bif !(!(bif (bif (decide ((List.getD (Sta.Nulls s) i 0) < 0)) then true else (decide ((Sta.Rows s) < (List.getD (Sta.Nulls s) i 0)))) then true else (bif (decide ((List.getD (Sta.Distinct s) i 0) < 0)) then true else (decide (((Sta.Rows s) - (List.getD (Sta.Nulls s) i 0)) < (List.getD (Sta.Distinct s) i 0)))))) then .inr false else iValidStats_l0 s ((s.Distinct.length : Nat) : Int) k (i + 1)) else .inl () := fun k i => by
   rw [iValidStats_l0]
   cases (bif (decide ((List.getD (Sta.Nulls s) i 0) < 0)) then true else (decide ((Sta.Rows s) < (List.getD (Sta.Nulls s) i 0)))) <;> simp only [cond_true, cond_false, Bool.not_not]
  rw [loop_iff (iValidStats_l0 s ((s.Distinct.length : Nat) : Int)) s.Distinct.length (fun i => !(bif (bif (decide ((List.getD (Sta.Nulls s) i 0) < 0)) then true else (decide ((Sta.Rows s) < (List.getD (Sta.Nulls s) i 0)))) then true else (bif (decide ((List.getD (Sta.Distinct s) i 0) < 0)) then true else (decide (((Sta.Rows s) - (List.getD (Sta.Nulls s) i 0)) < (List.getD (Sta.Distinct s) i 0)))))) true hS]
  constructor
  ·
   rintro ⟨-, h⟩ j hj
   have h := or_neg (not_pos (h j hj))
   have h1 := or_neg h.1
   have h2 := or_neg h.2
   have a1 := of_decide_eq_false h1.1
   have a2 := of_decide_eq_false h1.2
   have a3 := of_decide_eq_false h2.1
   have a4 := of_decide_eq_false h2.2
   omega
  ·
   intro h
   refine ⟨rfl, fun j hj => ?_⟩
   obtain ⟨⟨a1, a2⟩, a3, a4⟩ := h j hj
   rw [decide_eq_false (show ¬ List.getD (Sta.Nulls s) j 0 < 0 by omega), decide_eq_false (show ¬ (Sta.Rows s) < List.getD (Sta.Nulls s) j 0 by omega), decide_eq_false (show ¬ List.getD (Sta.Distinct s) j 0 < 0 by omega), decide_eq_false (show ¬ ((Sta.Rows s) - (List.getD (Sta.Nulls s) j 0)) < (List.getD (Sta.Distinct s) j 0) by omega)]
   rfl
 rw [hl]
 constructor
 ·
  rintro ⟨h1, h2, h3⟩
  rw [Bool.not_eq_true] at h1 h2
  have h1 := or_neg h1
  have h1' := or_neg h1.1
  have h2 := or_neg h2
  have b1 := of_decide_eq_false h1.2
  have b2 := of_decide_eq_false h1'.2
  have b3 := bne_neg h2.2
  exact ⟨validWidth_iff.1 (not_neg h1'.1), by omega, by omega, fun j hj => (h3 j hj).1, fun j hj => (h3 j hj).2⟩
 ·
  rintro ⟨h1, h2, h3, h4, h5⟩
  refine ⟨?_, ?_, fun j hj => ⟨h4 j hj, h5 j hj⟩⟩
  ·
   rw [validWidth_iff.2 h1, decide_eq_false (show ¬ s.Rows < 0 by omega), decide_eq_false (show ¬ 400 < s.Rows by omega)]
   simp
  ·
   rw [h3]
   simp

theorem ValidStats_iff {s : Sta} : ValidStats s ((s.Distinct.length : Nat) : Int) = true ↔ VSt s := by
 unfold ValidStats validStats
 rw [show Int.toNat (((s.Distinct.length : Nat) : Int) - ((0 : Nat) : Int)) + 1 = s.Distinct.length - 0 + 1 by omega]
 have hl : Sum.elim (fun _ => true) (fun r => r) (validStats_l0 s ((s.Distinct.length : Nat) : Int) (s.Distinct.length - 0 + 1) 0) = true ↔ ∀ j, j < s.Distinct.length → (0 ≤ s.Nulls.getD j 0 ∧ s.Nulls.getD j 0 ≤ s.Rows) ∧ (0 ≤ s.Distinct.getD j 0 ∧ s.Distinct.getD j 0 ≤ s.Rows - s.Nulls.getD j 0) := by
  have hS : ∀ k i, validStats_l0 s ((s.Distinct.length : Nat) : Int) (k + 1) i = bif decide (((i : Nat) : Int) < ((s.Distinct.length : Nat) : Int)) then (bif !(bif inRange (List.getD (Sta.Nulls s) i 0) 0 (Sta.Rows s) then inRange (List.getD (Sta.Distinct s) i 0) 0 ((Sta.Rows s) - (List.getD (Sta.Nulls s) i 0)) else false) then .inr false else validStats_l0 s ((s.Distinct.length : Nat) : Int) k (i + 1)) else .inl () := fun k i => by
   rw [validStats_l0]
   cases inRange (List.getD (Sta.Nulls s) i 0) 0 (Sta.Rows s) <;> rfl
  rw [loop_iff (validStats_l0 s ((s.Distinct.length : Nat) : Int)) s.Distinct.length (fun i => (bif inRange (List.getD (Sta.Nulls s) i 0) 0 (Sta.Rows s) then inRange (List.getD (Sta.Distinct s) i 0) 0 ((Sta.Rows s) - (List.getD (Sta.Nulls s) i 0)) else false)) true hS]
  constructor
  ·
   rintro ⟨-, h⟩ j hj
   have h := and_pos (h j hj)
   exact ⟨inRange_iff.1 h.1, inRange_iff.1 h.2⟩
  ·
   intro h
   refine ⟨rfl, fun j hj => ?_⟩
   obtain ⟨a1, a2⟩ := h j hj
   rw [inRange_iff.2 a1, inRange_iff.2 a2]
   rfl
 have h0 := inRange_iff (n := ((s.Distinct.length : Nat) : Int)) (l := 1) (h := 6)
 have h1 := inRange_iff (n := s.Rows) (l := 0) (h := 400)
 constructor
 ·
  intro h
  have h := and_pos h
  have h' := bif_false_iff.1 h.2
  obtain ⟨c1, c2⟩ := h'
  rw [Bool.not_eq_true] at c1
  have c1 := or_neg c1
  have c1' := or_neg c1.1
  have b3 := bne_neg c1.2
  have h3 := hl.1 c2
  exact ⟨h0.1 h.1, h1.1 (not_neg c1'.1), by omega, fun j hj => (h3 j hj).1, fun j hj => (h3 j hj).2⟩
 ·
  rintro ⟨g1, g2, g3, g4, g5⟩
  rw [h0.2 g1, cond_true, bif_false_iff]
  refine ⟨?_, hl.2 fun j hj => ⟨g4 j hj, g5 j hj⟩⟩
  rw [h1.2 g2, g3]
  simp

theorem toInt_b (b : Bool) : 0 ≤ toInt b ∧ toInt b ≤ 1 := by
 unfold toInt
 cases b <;> simp

theorem mulPos {a b : Int} (ha : 1 ≤ a ∧ a ≤ 400) (hb : 1 ≤ b ∧ b ≤ 400) : a ≤ a * b ∧ a * b ≤ 160000 := by
 have h1 := Int.mul_le_mul (Int.le_refl a) hb.1 (by decide) (by omega)
 have h2 := Int.mul_le_mul ha.2 hb.2 (by omega) (by omega)
 omega

def VXn (w : Int) (e : Xpr) : Prop := ∃ l, VE w l e

theorem VXn.kid {w : Int} {e : Xpr} (h : VXn w e) {i : Nat} (hi : i < e.Kids.length) : VXn w (e.Kids.getD i Xpr.zero) := by
 obtain ⟨l, h⟩ := h
 exact h.kid hi

theorem VXn.node {w : Int} {e : Xpr} (h : VXn w e) : Node w e := by
 obtain ⟨l, h⟩ := h
 exact h.node

theorem selAnd {a b : Int} (ha : 0 ≤ a ∧ a ≤ 1000) (hb : 0 ≤ b ∧ b ≤ 1000) : (0 ≤ a * b ∧ a * b ≤ 1000000) ∧ (0 ≤ a * b / 1000 ∧ a * b / 1000 ≤ 1000) ∧ (0 ≤ a + b - a * b / 1000 ∧ a + b - a * b / 1000 ≤ 1000) := by
 have h1 := Int.mul_nonneg ha.1 hb.1
 have h2 := Int.mul_le_mul ha.2 hb.2 hb.1 (show (0 : Int) ≤ 1000 by decide)
 have h3 := Int.mul_nonneg (show 0 ≤ 1000 - a by omega) (show 0 ≤ 1000 - b by omega)
 have h4 := Int.mul_le_mul ha.2 (Int.le_refl b) hb.1 (show (0 : Int) ≤ 1000 by decide)
 rw [Int.sub_mul, Int.mul_sub, Int.mul_sub] at h3
 omega

def equality (s : Sta) (col : Int) : Int := (bif (bif ((Sta.Rows s) == 0) then true else ((List.getD (Sta.Distinct s) (Int.toNat col) 0) == 0)) then 0 else ((1000 * ((Sta.Rows s) - (List.getD (Sta.Nulls s) (Int.toNat col) 0))) / ((Sta.Rows s) * (List.getD (Sta.Distinct s) (Int.toNat col) 0))))

def equality_sp : FnSpec := mkSpec [.val (.named 3), .val (.int .i64)] [.val (.int .i64)] (fun (s : Sta) (col : Int) => VSt s ∧ (0 ≤ col ∧ col < ((List.length (Sta.Distinct s) : Nat) : Int))) (fun (s : Sta) (col : Int) => [⟨(.int .i64), (equality s col)⟩])

theorem equality_ok : FnOK Try.prog 35 equality_sp := by
 have hC : CtxOK Try.prog (mkCtx tyL []) := CtxOK.nil tyOK
 have hM : Try.prog.follows .mixedOrders = true := Try.checked.mixed
 refine FnOK.of_body Try.func35 (by kernel_rfl) rfl (C := (mkCtx tyL [])) hC.ty (by kernel_rfl) ?_
 intro (s : Sta) (col : Int) hwf hpre E
 have hpre : VSt s ∧ (0 ≤ col ∧ col < ((List.length (Sta.Distinct s) : Nat) : Int)) := hpre
 have hw_s : Wf ⟨(.named 3), (s : Sta)⟩ := hwf _ (List.Mem.head _)
 obtain ⟨hr_s_Rows, hl_s_Distinct, hl_s_Nulls⟩ := Sta.wfl hw_s
 have hw_col : Wf ⟨(.int .i64), (col : Int)⟩ := hwf _ (List.Mem.tail _ (List.Mem.head _))
 have hr_col : -9223372036854775808 ≤ col ∧ col ≤ 9223372036854775807 := hw_col.int_inv
 have hn := hpre.1.nulls (Int.toNat col) (by omega)
 have hd := hpre.1.dist (Int.toNat col) (by omega)
 have hr := hpre.1.rows
 have hl := hpre.1.len
 have e0 : equality s col = equality s col := rfl
 refine AW.seq (AW.r1 hC [1, 2] [8] ⟨[(1, sI col), (2, .ref 8 1 0)], [(8, .box 1 [sI (Sta.Rows s), sD8 (Sta.Distinct s), sD8 (Sta.Nulls s)])]⟩ ?_)
 refine AW.seq (AW.seq (AW.r0 hC [1, 2, 15] [8] ⟨[(1, sI col), (2, .ref 8 1 0), (15, sB (bif ((Sta.Rows s) == 0) then true else ((List.getD (Sta.Distinct s) (Int.toNat col) 0) == 0)))], [(8, .box 1 [sI (Sta.Rows s), sD8 (Sta.Distinct s), sD8 (Sta.Nulls s)])]⟩ [((((Sta.Rows s) == 0) = false) → ((((Sta.Rows s) == 0) = false))), ((((Sta.Rows s) == 0) = false) → ((((Sta.Rows s) == 0) = false))), ((((Sta.Rows s) == 0) = false) → ((((Sta.Rows s) == 0) = false))), ((((Sta.Rows s) == 0) = false) → IX col ((List.length (Sta.Distinct s) : Nat) : Int)), ((((Sta.Rows s) == 0) = false) → ((((Sta.Rows s) == 0) = false))), ((((Sta.Rows s) == 0) = false) → ((((Sta.Rows s) == 0) = false))), ((((Sta.Rows s) == 0) = false) → ((((Sta.Rows s) == 0) = false)))] ?_ ?_))
 ·
  refine ⟨?_, ?_, ?_, ?_, ?_, ?_, ?_, trivial⟩
  ·
   intro g1
   have g1p0 : (Sta.Rows s) ≠ 0 := (Go.Am.beq_neg g1)
   assumption
  ·
   intro g2
   have g2p0 : (Sta.Rows s) ≠ 0 := (Go.Am.beq_neg g2)
   assumption
  ·
   intro g3
   have g3p0 : (Sta.Rows s) ≠ 0 := (Go.Am.beq_neg g3)
   assumption
  ·
   intro g4
   have g4p0 : (Sta.Rows s) ≠ 0 := (Go.Am.beq_neg g4)
   refine IX.of ?_
   omega
  ·
   intro g5
   have g5p0 : (Sta.Rows s) ≠ 0 := (Go.Am.beq_neg g5)
   assumption
  ·
   intro g6
   have g6p0 : (Sta.Rows s) ≠ 0 := (Go.Am.beq_neg g6)
   assumption
  ·
   intro g7
   have g7p0 : (Sta.Rows s) ≠ 0 := (Go.Am.beq_neg g7)
   assumption
 refine AW.cd (bif ((Sta.Rows s) == 0) then true else ((List.getD (Sta.Distinct s) (Int.toNat col) 0) == 0)) ?_ ?_
 ·
  intro h8
  have h8q : ((Sta.Rows s) = 0) ∨ ((List.getD (Sta.Distinct s) (Int.toNat col) 0) = 0) := (Or.imp (fun h => (Go.Am.beq_pos h)) (fun h => (Go.Am.beq_pos h)) (Go.Am.or_pos h8))
  have e9 := e0.trans (Go.Am.bif_t h8)
  refine AW.seq (AW.r1 hC [4] [] ⟨[(4, sI 0)], []⟩ ?_)
  exact AW.ret (AW.rI 0 e9)
 ·
  intro h10
  have h10q : ((Sta.Rows s) ≠ 0) ∧ ((List.getD (Sta.Distinct s) (Int.toNat col) 0) ≠ 0) := (And.imp (fun h => (Go.Am.beq_neg h)) (fun h => (Go.Am.beq_neg h)) (Go.Am.or_neg h10))
  have e11 := e0.trans (Go.Am.bif_f h10)
  refine AW.kp [1, 2] [8] ⟨[(1, sI col), (2, .ref 8 1 0)], [(8, .box 1 [sI (Sta.Rows s), sD8 (Sta.Distinct s), sD8 (Sta.Nulls s)])]⟩ ?_
  refine AW.skip (AW.seq (AW.d0 hC hM [4] [] ⟨[(4, sI ((1000 * ((Sta.Rows s) - (List.getD (Sta.Nulls s) (Int.toNat col) 0))) / ((Sta.Rows s) * (List.getD (Sta.Distinct s) (Int.toNat col) 0))))], []⟩ [IX col ((List.length (Sta.Nulls s) : Nat) : Int), R64 ((Sta.Rows s) - (List.getD (Sta.Nulls s) (Int.toNat col) 0)), R64 (1000 * ((Sta.Rows s) - (List.getD (Sta.Nulls s) (Int.toNat col) 0))), IX col ((List.length (Sta.Distinct s) : Nat) : Int), R64 ((Sta.Rows s) * (List.getD (Sta.Distinct s) (Int.toNat col) 0)), (0 ≤ (1000 * ((Sta.Rows s) - (List.getD (Sta.Nulls s) (Int.toNat col) 0))) ∧ 0 < ((Sta.Rows s) * (List.getD (Sta.Distinct s) (Int.toNat col) 0)))] ?_ ?_))
  ·
   refine ⟨?_, ?_, ?_, ?_, ?_, ?_, trivial⟩
   ·
    refine IX.of ?_
    omega
   ·
    refine R64.of ?_
    omega
   ·
    refine R64.of ?_
    omega
   ·
    refine IX.of ?_
    omega
   ·
    refine R64.of ?_
    have hm := mulPos (a := Sta.Rows s) (b := List.getD (Sta.Distinct s) (Int.toNat col) 0) (by omega) (by omega); omega
   ·
    have hm := mulPos (a := Sta.Rows s) (b := List.getD (Sta.Distinct s) (Int.toNat col) 0) (by omega) (by omega); omega
  exact AW.ret (AW.rI ((1000 * ((Sta.Rows s) - (List.getD (Sta.Nulls s) (Int.toNat col) 0))) / ((Sta.Rows s) * (List.getD (Sta.Distinct s) (Int.toNat col) 0))) e11)

theorem equality_b {s : Sta} (h : VSt s) {col : Int} (hc : 0 ≤ col ∧ col < ((s.Distinct.length : Nat) : Int)) : 0 ≤ equality s col ∧ equality s col ≤ 1000 := by
 have hn := h.nulls (Int.toNat col) (by omega)
 have hd := h.dist (Int.toNat col) (by omega)
 have hr := h.rows
 unfold equality
 cases hb : (bif ((Sta.Rows s) == 0) then true else ((List.getD (Sta.Distinct s) (Int.toNat col) 0) == 0)) with
 | true => simp
 | false =>
  have hb := or_neg hb
  have b1 := beq_neg hb.1
  have b2 := beq_neg hb.2
  rw [cond_false]
  have hm := mulPos (a := Sta.Rows s) (b := List.getD (Sta.Distinct s) (Int.toNat col) 0) (by omega) (by omega)
  exact ⟨Int.ediv_nonneg (by omega) (by omega), Int.ediv_le_of_le_mul (by omega) (by omega)⟩

def equalPermille (e : Xpr) (s : Sta) : Int := (bif (bif (bif ((Xpr.Kind (List.getD (Xpr.Kids e) 0 Xpr.zero)) != 1) then true else ((Xpr.Kind (List.getD (Xpr.Kids e) 1 Xpr.zero)) != 2)) then true else (Val.Null (Xpr.V (List.getD (Xpr.Kids e) 1 Xpr.zero)))) then 100 else (bif (bif ((Sta.Rows s) == 0) then true else ((List.getD (Sta.Distinct s) (Int.toNat (Xpr.Col (List.getD (Xpr.Kids e) 0 Xpr.zero))) 0) == 0)) then 0 else ((1000 * ((Sta.Rows s) - (List.getD (Sta.Nulls s) (Int.toNat (Xpr.Col (List.getD (Xpr.Kids e) 0 Xpr.zero))) 0))) / ((Sta.Rows s) * (List.getD (Sta.Distinct s) (Int.toNat (Xpr.Col (List.getD (Xpr.Kids e) 0 Xpr.zero))) 0)))))

def equalPermille_sp : FnSpec := mkSpec [.rd (.named 1), .rd (.named 3)] [.val (.int .i64)] (fun (e : Xpr) (s : Sta) => VSt s ∧ VXn ((List.length (Sta.Distinct s) : Nat) : Int) e ∧ Xpr.Kind e = 6) (fun (e : Xpr) (s : Sta) => [⟨(.int .i64), (equalPermille e s)⟩])

theorem equalPermille_ok : FnOK Try.prog 29 equalPermille_sp := by
 have hC : CtxOK Try.prog (mkCtx tyL []) := CtxOK.nil tyOK
 have hM : Try.prog.follows .mixedOrders = true := Try.checked.mixed
 refine FnOK.of_body Try.func29 (by kernel_rfl) rfl (C := (mkCtx tyL [])) hC.ty (by kernel_rfl) ?_
 intro (e : Xpr) (s : Sta) hwf hpre E
 have hpre : VSt s ∧ VXn ((List.length (Sta.Distinct s) : Nat) : Int) e ∧ Xpr.Kind e = 6 := hpre
 have hw_e : Wf ⟨(.named 1), (e : Xpr)⟩ := hwf _ (List.Mem.head _)
 obtain ⟨hr_e_Kind, hr_e_Col, hl_e_Kids⟩ := Xpr.wfl hw_e
 have hw_s : Wf ⟨(.named 3), (s : Sta)⟩ := hwf _ (List.Mem.tail _ (List.Mem.head _))
 obtain ⟨hr_s_Rows, hl_s_Distinct, hl_s_Nulls⟩ := Sta.wfl hw_s
 have hn := hpre.2.1.node
 have hnk := hn.kids
 have hkc := kids_cases (Xpr.Kind e)
 have hcol := hn.col
 have hlen := hpre.1.len
 have hr := hpre.1.rows
 have e0 : equalPermille e s = equalPermille e s := rfl
 refine AW.seq (AW.r1 hC [0, 1] [] ⟨[(0, sR4 e), (1, sR6 s)], []⟩ ?_)
 refine AW.seq (AW.d0 hC hM [1, 5, 6] [] ⟨[(1, sR6 s), (5, sR4 (List.getD (Xpr.Kids e) 0 Xpr.zero)), (6, sR4 (List.getD (Xpr.Kids e) 1 Xpr.zero))], []⟩ [IX (0 : Int) ((List.length (Xpr.Kids e) : Nat) : Int), IX (1 : Int) ((List.length (Xpr.Kids e) : Nat) : Int)] ?_ ?_)
 ·
  refine ⟨?_, ?_, trivial⟩
  ·
   refine IX.of ?_
   omega
  ·
   refine IX.of ?_
   omega
 refine AW.seq (AW.seq (AW.r0 hC [1, 5, 35] [] ⟨[(1, sR6 s), (5, sR4 (List.getD (Xpr.Kids e) 0 Xpr.zero)), (35, sB (bif (bif ((Xpr.Kind (List.getD (Xpr.Kids e) 0 Xpr.zero)) != 1) then true else ((Xpr.Kind (List.getD (Xpr.Kids e) 1 Xpr.zero)) != 2)) then true else (Val.Null (Xpr.V (List.getD (Xpr.Kids e) 1 Xpr.zero)))))], []⟩ [((((Xpr.Kind (List.getD (Xpr.Kids e) 0 Xpr.zero)) != 1) = false) → ((((Xpr.Kind (List.getD (Xpr.Kids e) 0 Xpr.zero)) != 1) = false))), ((((Xpr.Kind (List.getD (Xpr.Kids e) 0 Xpr.zero)) != 1) = false) → ((((Xpr.Kind (List.getD (Xpr.Kids e) 0 Xpr.zero)) != 1) = false))), ((((Xpr.Kind (List.getD (Xpr.Kids e) 0 Xpr.zero)) != 1) = false) → ((((Xpr.Kind (List.getD (Xpr.Kids e) 0 Xpr.zero)) != 1) = false))), ((((Xpr.Kind (List.getD (Xpr.Kids e) 0 Xpr.zero)) != 1) = false) → ((((Xpr.Kind (List.getD (Xpr.Kids e) 0 Xpr.zero)) != 1) = false))), ((((Xpr.Kind (List.getD (Xpr.Kids e) 0 Xpr.zero)) != 1) = false) → ((((Xpr.Kind (List.getD (Xpr.Kids e) 0 Xpr.zero)) != 1) = false))), (((bif ((Xpr.Kind (List.getD (Xpr.Kids e) 0 Xpr.zero)) != 1) then true else ((Xpr.Kind (List.getD (Xpr.Kids e) 1 Xpr.zero)) != 2)) = false) → (((bif ((Xpr.Kind (List.getD (Xpr.Kids e) 0 Xpr.zero)) != 1) then true else ((Xpr.Kind (List.getD (Xpr.Kids e) 1 Xpr.zero)) != 2)) = false))), (((bif ((Xpr.Kind (List.getD (Xpr.Kids e) 0 Xpr.zero)) != 1) then true else ((Xpr.Kind (List.getD (Xpr.Kids e) 1 Xpr.zero)) != 2)) = false) → (((bif ((Xpr.Kind (List.getD (Xpr.Kids e) 0 Xpr.zero)) != 1) then true else ((Xpr.Kind (List.getD (Xpr.Kids e) 1 Xpr.zero)) != 2)) = false))), (((bif ((Xpr.Kind (List.getD (Xpr.Kids e) 0 Xpr.zero)) != 1) then true else ((Xpr.Kind (List.getD (Xpr.Kids e) 1 Xpr.zero)) != 2)) = false) → (((bif ((Xpr.Kind (List.getD (Xpr.Kids e) 0 Xpr.zero)) != 1) then true else ((Xpr.Kind (List.getD (Xpr.Kids e) 1 Xpr.zero)) != 2)) = false))), (((bif ((Xpr.Kind (List.getD (Xpr.Kids e) 0 Xpr.zero)) != 1) then true else ((Xpr.Kind (List.getD (Xpr.Kids e) 1 Xpr.zero)) != 2)) = false) → (((bif ((Xpr.Kind (List.getD (Xpr.Kids e) 0 Xpr.zero)) != 1) then true else ((Xpr.Kind (List.getD (Xpr.Kids e) 1 Xpr.zero)) != 2)) = false))), (((bif ((Xpr.Kind (List.getD (Xpr.Kids e) 0 Xpr.zero)) != 1) then true else ((Xpr.Kind (List.getD (Xpr.Kids e) 1 Xpr.zero)) != 2)) = false) → (((bif ((Xpr.Kind (List.getD (Xpr.Kids e) 0 Xpr.zero)) != 1) then true else ((Xpr.Kind (List.getD (Xpr.Kids e) 1 Xpr.zero)) != 2)) = false)))] ?_ ?_))
 ·
  refine ⟨?_, ?_, ?_, ?_, ?_, ?_, ?_, ?_, ?_, ?_, trivial⟩
  ·
   intro g1
   have g1p0 : (Xpr.Kind (List.getD (Xpr.Kids e) 0 Xpr.zero)) = 1 := (Go.Am.bne_neg g1)
   assumption
  ·
   intro g2
   have g2p0 : (Xpr.Kind (List.getD (Xpr.Kids e) 0 Xpr.zero)) = 1 := (Go.Am.bne_neg g2)
   assumption
  ·
   intro g3
   have g3p0 : (Xpr.Kind (List.getD (Xpr.Kids e) 0 Xpr.zero)) = 1 := (Go.Am.bne_neg g3)
   assumption
  ·
   intro g4
   have g4p0 : (Xpr.Kind (List.getD (Xpr.Kids e) 0 Xpr.zero)) = 1 := (Go.Am.bne_neg g4)
   assumption
  ·
   intro g5
   have g5p0 : (Xpr.Kind (List.getD (Xpr.Kids e) 0 Xpr.zero)) = 1 := (Go.Am.bne_neg g5)
   assumption
  ·
   intro g6
   have g6p0 : ((Xpr.Kind (List.getD (Xpr.Kids e) 0 Xpr.zero)) = 1) ∧ ((Xpr.Kind (List.getD (Xpr.Kids e) 1 Xpr.zero)) = 2) := (And.imp (fun h => (Go.Am.bne_neg h)) (fun h => (Go.Am.bne_neg h)) (Go.Am.or_neg g6))
   assumption
  ·
   intro g7
   have g7p0 : ((Xpr.Kind (List.getD (Xpr.Kids e) 0 Xpr.zero)) = 1) ∧ ((Xpr.Kind (List.getD (Xpr.Kids e) 1 Xpr.zero)) = 2) := (And.imp (fun h => (Go.Am.bne_neg h)) (fun h => (Go.Am.bne_neg h)) (Go.Am.or_neg g7))
   assumption
  ·
   intro g8
   have g8p0 : ((Xpr.Kind (List.getD (Xpr.Kids e) 0 Xpr.zero)) = 1) ∧ ((Xpr.Kind (List.getD (Xpr.Kids e) 1 Xpr.zero)) = 2) := (And.imp (fun h => (Go.Am.bne_neg h)) (fun h => (Go.Am.bne_neg h)) (Go.Am.or_neg g8))
   assumption
  ·
   intro g9
   have g9p0 : ((Xpr.Kind (List.getD (Xpr.Kids e) 0 Xpr.zero)) = 1) ∧ ((Xpr.Kind (List.getD (Xpr.Kids e) 1 Xpr.zero)) = 2) := (And.imp (fun h => (Go.Am.bne_neg h)) (fun h => (Go.Am.bne_neg h)) (Go.Am.or_neg g9))
   assumption
  ·
   intro g10
   have g10p0 : ((Xpr.Kind (List.getD (Xpr.Kids e) 0 Xpr.zero)) = 1) ∧ ((Xpr.Kind (List.getD (Xpr.Kids e) 1 Xpr.zero)) = 2) := (And.imp (fun h => (Go.Am.bne_neg h)) (fun h => (Go.Am.bne_neg h)) (Go.Am.or_neg g10))
   assumption
 refine AW.cd (bif (bif ((Xpr.Kind (List.getD (Xpr.Kids e) 0 Xpr.zero)) != 1) then true else ((Xpr.Kind (List.getD (Xpr.Kids e) 1 Xpr.zero)) != 2)) then true else (Val.Null (Xpr.V (List.getD (Xpr.Kids e) 1 Xpr.zero)))) ?_ ?_
 ·
  intro h11
  have h11q : (((Xpr.Kind (List.getD (Xpr.Kids e) 0 Xpr.zero)) ≠ 1) ∨ ((Xpr.Kind (List.getD (Xpr.Kids e) 1 Xpr.zero)) ≠ 2)) ∨ ((Val.Null (Xpr.V (List.getD (Xpr.Kids e) 1 Xpr.zero))) = true) := (Or.imp (fun h => (Or.imp (fun h => (Go.Am.bne_pos h)) (fun h => (Go.Am.bne_pos h)) (Go.Am.or_pos h))) (fun h => h) (Go.Am.or_pos h11))
  have e12 := e0.trans (Go.Am.bif_t h11)
  refine AW.seq (AW.r1 hC [4] [] ⟨[(4, sI 100)], []⟩ ?_)
  exact AW.ret (AW.rI 100 e12)
 ·
  intro h13
  have h13q : (((Xpr.Kind (List.getD (Xpr.Kids e) 0 Xpr.zero)) = 1) ∧ ((Xpr.Kind (List.getD (Xpr.Kids e) 1 Xpr.zero)) = 2)) ∧ ((Val.Null (Xpr.V (List.getD (Xpr.Kids e) 1 Xpr.zero))) = false) := (And.imp (fun h => (And.imp (fun h => (Go.Am.bne_neg h)) (fun h => (Go.Am.bne_neg h)) (Go.Am.or_neg h))) (fun h => h) (Go.Am.or_neg h13))
  have e14 := e0.trans (Go.Am.bif_f h13)
  refine AW.kp [1, 5] [] ⟨[(1, sR6 s), (5, sR4 (List.getD (Xpr.Kids e) 0 Xpr.zero))], []⟩ ?_
  refine AW.skip (AW.seq (AW.seq (AW.d0 hC hM [1, 5, 53] [] ⟨[(1, sR6 s), (5, sR4 (List.getD (Xpr.Kids e) 0 Xpr.zero)), (53, sB (bif ((Sta.Rows s) == 0) then true else ((List.getD (Sta.Distinct s) (Int.toNat (Xpr.Col (List.getD (Xpr.Kids e) 0 Xpr.zero))) 0) == 0)))], []⟩ [((((Sta.Rows s) == 0) = false) → ((((Sta.Rows s) == 0) = false))), ((((Sta.Rows s) == 0) = false) → ((((Sta.Rows s) == 0) = false))), ((((Sta.Rows s) == 0) = false) → ((((Sta.Rows s) == 0) = false))), ((((Sta.Rows s) == 0) = false) → ((((Sta.Rows s) == 0) = false))), ((((Sta.Rows s) == 0) = false) → ((((Sta.Rows s) == 0) = false))), ((((Sta.Rows s) == 0) = false) → ((((Sta.Rows s) == 0) = false))), ((((Sta.Rows s) == 0) = false) → ((((Sta.Rows s) == 0) = false))), ((((Sta.Rows s) == 0) = false) → ((((Sta.Rows s) == 0) = false))), ((((Sta.Rows s) == 0) = false) → IX (Xpr.Col (List.getD (Xpr.Kids e) 0 Xpr.zero)) ((List.length (Sta.Distinct s) : Nat) : Int)), ((((Sta.Rows s) == 0) = false) → ((((Sta.Rows s) == 0) = false))), ((((Sta.Rows s) == 0) = false) → ((((Sta.Rows s) == 0) = false))), ((((Sta.Rows s) == 0) = false) → ((((Sta.Rows s) == 0) = false)))] ?_ ?_)))
  ·
   refine ⟨?_, ?_, ?_, ?_, ?_, ?_, ?_, ?_, ?_, ?_, ?_, ?_, trivial⟩
   ·
    intro g15
    have g15p0 : (Sta.Rows s) ≠ 0 := (Go.Am.beq_neg g15)
    assumption
   ·
    intro g16
    have g16p0 : (Sta.Rows s) ≠ 0 := (Go.Am.beq_neg g16)
    assumption
   ·
    intro g17
    have g17p0 : (Sta.Rows s) ≠ 0 := (Go.Am.beq_neg g17)
    assumption
   ·
    intro g18
    have g18p0 : (Sta.Rows s) ≠ 0 := (Go.Am.beq_neg g18)
    assumption
   ·
    intro g19
    have g19p0 : (Sta.Rows s) ≠ 0 := (Go.Am.beq_neg g19)
    assumption
   ·
    intro g20
    have g20p0 : (Sta.Rows s) ≠ 0 := (Go.Am.beq_neg g20)
    assumption
   ·
    intro g21
    have g21p0 : (Sta.Rows s) ≠ 0 := (Go.Am.beq_neg g21)
    assumption
   ·
    intro g22
    have g22p0 : (Sta.Rows s) ≠ 0 := (Go.Am.beq_neg g22)
    assumption
   ·
    intro g23
    have g23p0 : (Sta.Rows s) ≠ 0 := (Go.Am.beq_neg g23)
    refine IX.of ?_
    have hc := (hpre.2.1.kid (i := 0) (by omega)).node.col (by omega); have hn2 := hpre.1.nulls (Int.toNat (Xpr.Col (List.getD (Xpr.Kids e) 0 Xpr.zero))) (by omega); have hd2 := hpre.1.dist (Int.toNat (Xpr.Col (List.getD (Xpr.Kids e) 0 Xpr.zero))) (by omega); first | omega | (have hm := mulPos (a := Sta.Rows s) (b := List.getD (Sta.Distinct s) (Int.toNat (Xpr.Col (List.getD (Xpr.Kids e) 0 Xpr.zero))) 0) (by omega) (by omega); omega)
   ·
    intro g24
    have g24p0 : (Sta.Rows s) ≠ 0 := (Go.Am.beq_neg g24)
    assumption
   ·
    intro g25
    have g25p0 : (Sta.Rows s) ≠ 0 := (Go.Am.beq_neg g25)
    assumption
   ·
    intro g26
    have g26p0 : (Sta.Rows s) ≠ 0 := (Go.Am.beq_neg g26)
    assumption
  refine AW.cd (bif ((Sta.Rows s) == 0) then true else ((List.getD (Sta.Distinct s) (Int.toNat (Xpr.Col (List.getD (Xpr.Kids e) 0 Xpr.zero))) 0) == 0)) ?_ ?_
  ·
   intro h27
   have h27q : ((Sta.Rows s) = 0) ∨ ((List.getD (Sta.Distinct s) (Int.toNat (Xpr.Col (List.getD (Xpr.Kids e) 0 Xpr.zero))) 0) = 0) := (Or.imp (fun h => (Go.Am.beq_pos h)) (fun h => (Go.Am.beq_pos h)) (Go.Am.or_pos h27))
   have e28 := e14.trans (Go.Am.bif_t h27)
   refine AW.seq (AW.r1 hC [4] [] ⟨[(4, sI 0)], []⟩ ?_)
   exact AW.ret (AW.rI 0 e28)
  ·
   intro h29
   have h29q : ((Sta.Rows s) ≠ 0) ∧ ((List.getD (Sta.Distinct s) (Int.toNat (Xpr.Col (List.getD (Xpr.Kids e) 0 Xpr.zero))) 0) ≠ 0) := (And.imp (fun h => (Go.Am.beq_neg h)) (fun h => (Go.Am.beq_neg h)) (Go.Am.or_neg h29))
   have e30 := e14.trans (Go.Am.bif_f h29)
   refine AW.kp [1, 5] [] ⟨[(1, sR6 s), (5, sR4 (List.getD (Xpr.Kids e) 0 Xpr.zero))], []⟩ ?_
   refine AW.skip (AW.seq (AW.d0 hC hM [4] [] ⟨[(4, sI ((1000 * ((Sta.Rows s) - (List.getD (Sta.Nulls s) (Int.toNat (Xpr.Col (List.getD (Xpr.Kids e) 0 Xpr.zero))) 0))) / ((Sta.Rows s) * (List.getD (Sta.Distinct s) (Int.toNat (Xpr.Col (List.getD (Xpr.Kids e) 0 Xpr.zero))) 0))))], []⟩ [IX (Xpr.Col (List.getD (Xpr.Kids e) 0 Xpr.zero)) ((List.length (Sta.Nulls s) : Nat) : Int), R64 ((Sta.Rows s) - (List.getD (Sta.Nulls s) (Int.toNat (Xpr.Col (List.getD (Xpr.Kids e) 0 Xpr.zero))) 0)), R64 (1000 * ((Sta.Rows s) - (List.getD (Sta.Nulls s) (Int.toNat (Xpr.Col (List.getD (Xpr.Kids e) 0 Xpr.zero))) 0))), IX (Xpr.Col (List.getD (Xpr.Kids e) 0 Xpr.zero)) ((List.length (Sta.Distinct s) : Nat) : Int), R64 ((Sta.Rows s) * (List.getD (Sta.Distinct s) (Int.toNat (Xpr.Col (List.getD (Xpr.Kids e) 0 Xpr.zero))) 0)), (0 ≤ (1000 * ((Sta.Rows s) - (List.getD (Sta.Nulls s) (Int.toNat (Xpr.Col (List.getD (Xpr.Kids e) 0 Xpr.zero))) 0))) ∧ 0 < ((Sta.Rows s) * (List.getD (Sta.Distinct s) (Int.toNat (Xpr.Col (List.getD (Xpr.Kids e) 0 Xpr.zero))) 0)))] ?_ ?_))
   ·
    refine ⟨?_, ?_, ?_, ?_, ?_, ?_, trivial⟩
    ·
     refine IX.of ?_
     have hc := (hpre.2.1.kid (i := 0) (by omega)).node.col (by omega); have hn2 := hpre.1.nulls (Int.toNat (Xpr.Col (List.getD (Xpr.Kids e) 0 Xpr.zero))) (by omega); have hd2 := hpre.1.dist (Int.toNat (Xpr.Col (List.getD (Xpr.Kids e) 0 Xpr.zero))) (by omega); first | omega | (have hm := mulPos (a := Sta.Rows s) (b := List.getD (Sta.Distinct s) (Int.toNat (Xpr.Col (List.getD (Xpr.Kids e) 0 Xpr.zero))) 0) (by omega) (by omega); omega)
    ·
     refine R64.of ?_
     have hc := (hpre.2.1.kid (i := 0) (by omega)).node.col (by omega); have hn2 := hpre.1.nulls (Int.toNat (Xpr.Col (List.getD (Xpr.Kids e) 0 Xpr.zero))) (by omega); have hd2 := hpre.1.dist (Int.toNat (Xpr.Col (List.getD (Xpr.Kids e) 0 Xpr.zero))) (by omega); first | omega | (have hm := mulPos (a := Sta.Rows s) (b := List.getD (Sta.Distinct s) (Int.toNat (Xpr.Col (List.getD (Xpr.Kids e) 0 Xpr.zero))) 0) (by omega) (by omega); omega)
    ·
     refine R64.of ?_
     have hc := (hpre.2.1.kid (i := 0) (by omega)).node.col (by omega); have hn2 := hpre.1.nulls (Int.toNat (Xpr.Col (List.getD (Xpr.Kids e) 0 Xpr.zero))) (by omega); have hd2 := hpre.1.dist (Int.toNat (Xpr.Col (List.getD (Xpr.Kids e) 0 Xpr.zero))) (by omega); first | omega | (have hm := mulPos (a := Sta.Rows s) (b := List.getD (Sta.Distinct s) (Int.toNat (Xpr.Col (List.getD (Xpr.Kids e) 0 Xpr.zero))) 0) (by omega) (by omega); omega)
    ·
     refine IX.of ?_
     have hc := (hpre.2.1.kid (i := 0) (by omega)).node.col (by omega); have hn2 := hpre.1.nulls (Int.toNat (Xpr.Col (List.getD (Xpr.Kids e) 0 Xpr.zero))) (by omega); have hd2 := hpre.1.dist (Int.toNat (Xpr.Col (List.getD (Xpr.Kids e) 0 Xpr.zero))) (by omega); first | omega | (have hm := mulPos (a := Sta.Rows s) (b := List.getD (Sta.Distinct s) (Int.toNat (Xpr.Col (List.getD (Xpr.Kids e) 0 Xpr.zero))) 0) (by omega) (by omega); omega)
    ·
     refine R64.of ?_
     have hc := (hpre.2.1.kid (i := 0) (by omega)).node.col (by omega); have hn2 := hpre.1.nulls (Int.toNat (Xpr.Col (List.getD (Xpr.Kids e) 0 Xpr.zero))) (by omega); have hd2 := hpre.1.dist (Int.toNat (Xpr.Col (List.getD (Xpr.Kids e) 0 Xpr.zero))) (by omega); first | omega | (have hm := mulPos (a := Sta.Rows s) (b := List.getD (Sta.Distinct s) (Int.toNat (Xpr.Col (List.getD (Xpr.Kids e) 0 Xpr.zero))) 0) (by omega) (by omega); omega)
    ·
     have hc := (hpre.2.1.kid (i := 0) (by omega)).node.col (by omega); have hn2 := hpre.1.nulls (Int.toNat (Xpr.Col (List.getD (Xpr.Kids e) 0 Xpr.zero))) (by omega); have hd2 := hpre.1.dist (Int.toNat (Xpr.Col (List.getD (Xpr.Kids e) 0 Xpr.zero))) (by omega); first | omega | (have hm := mulPos (a := Sta.Rows s) (b := List.getD (Sta.Distinct s) (Int.toNat (Xpr.Col (List.getD (Xpr.Kids e) 0 Xpr.zero))) 0) (by omega) (by omega); omega)
   exact AW.ret (AW.rI ((1000 * ((Sta.Rows s) - (List.getD (Sta.Nulls s) (Int.toNat (Xpr.Col (List.getD (Xpr.Kids e) 0 Xpr.zero))) 0))) / ((Sta.Rows s) * (List.getD (Sta.Distinct s) (Int.toNat (Xpr.Col (List.getD (Xpr.Kids e) 0 Xpr.zero))) 0))) e30)

end
end Go.Proofs.Ytdkopkplfdobnaa
