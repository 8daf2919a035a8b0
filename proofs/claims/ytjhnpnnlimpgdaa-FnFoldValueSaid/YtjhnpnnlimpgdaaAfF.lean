/-
  A part of the proof of this claim (AfF): what functions of the program compute, and plain facts of that. No conditions.
-/
import Derived.Test.YtjhnpnnlimpgdaaAfE
set_option linter.all false
namespace Go.Proofs.Ytjhnpnnlimpgdaa
open Go Go.Am
noncomputable section

def equalExprs_l0 (self : Xpr → Xpr → Bool) (a : Xpr) (b : Xpr) : Nat → Nat → Unit ⊕ Bool
 | 0, i => .inl ()
 | k + 1, i => (bif (decide (((i : Nat) : Int) < ((List.length (Xpr.Kids a) : Nat) : Int))) then (bif (!(self (List.getD (Xpr.Kids a) i Xpr.zero) (List.getD (Xpr.Kids b) i Xpr.zero))) then (.inr false) else (equalExprs_l0 self a b k (i + 1))) else (.inl ()))

def equalExprs_c0 (self : Xpr → Xpr → Bool) (a : Xpr) (b : Xpr) : Bool :=
 (bif (((List.length (Xpr.Kids a) : Nat) : Int) != ((List.length (Xpr.Kids b) : Nat) : Int)) then false else (Sum.elim (fun _ => true) (fun r => r) (equalExprs_l0 self a b ((List.length (Xpr.Kids a)) - 0 + 1) 0)))

def equalExprs_r : Nat → Xpr → Xpr → Bool
 | 0, a, b => false
 | fuel + 1, a, b => (bif (bif (bif ((Xpr.Kind a) == (Xpr.Kind b)) then ((Xpr.Col a) == (Xpr.Col b)) else false) then (bif ((Val.Null (Xpr.V a)) == (Val.Null (Xpr.V b))) then (bif ((Val.N (Xpr.V a)) == (Val.N (Xpr.V b))) then true else false) else false) else false) then (Go.Am.andThen (equalExprs_c0 (equalExprs_r fuel) a b) (fun z => (fun (v29 : Bool) => (bif (bif (bif ((Xpr.Kind a) == (Xpr.Kind b)) then ((Xpr.Col a) == (Xpr.Col b)) else false) then (bif ((Val.Null (Xpr.V a)) == (Val.Null (Xpr.V b))) then (bif ((Val.N (Xpr.V a)) == (Val.N (Xpr.V b))) then true else false) else false) else false) then v29 else false)) z)) else false)

def equalExprs (a : Xpr) (b : Xpr) : Bool := equalExprs_r (SizeOf.sizeOf a + 1) a b

def equalExprs_spn (fuel : Nat) : FnSpec := mkSpec [.val (.named 1), .val (.named 1)] [.val .bool] (fun (a : Xpr) (b : Xpr) => (True) ∧ SizeOf.sizeOf a < fuel) (fun (a : Xpr) (b : Xpr) => [⟨.bool, (equalExprs_r fuel a b)⟩])

def equalExprs_sp : FnSpec := mkSpec [.val (.named 1), .val (.named 1)] [.val .bool] (fun (a : Xpr) (b : Xpr) => True) (fun (a : Xpr) (b : Xpr) => [⟨.bool, (equalExprs a b)⟩])

theorem equalExprs_okn (fuel : Nat) : FnOK Try.prog 7 (equalExprs_spn fuel) := by
 induction fuel with
 | zero => exact FnOK.never Try.func7 (by kernel_rfl) rfl (fun _ _ h => absurd h.2 (Nat.not_lt_zero _))
 | succ fuel ih => ?_
 have hC : CtxOK Try.prog (mkCtx tyL [(7, (equalExprs_spn fuel))]) := CtxOK.cons ih (CtxOK.nil tyOK)
 have hM : Try.prog.follows .mixedOrders = true := Try.checked.mixed
 have hC1 := hC.rebase 1000
 refine FnOK.of_body Try.func7 (by kernel_rfl) rfl (C := (mkCtx tyL [(7, (equalExprs_spn fuel))])) hC.ty (by kernel_rfl) ?_
 intro (a : Xpr) (b : Xpr) hwf hpre E
 have hpre : (True) ∧ SizeOf.sizeOf a < fuel + 1 := hpre
 have hw_a : Wf ⟨(.named 1), (a : Xpr)⟩ := hwf _ (List.Mem.head _)
 obtain ⟨hr_a_Kind, hr_a_Col, hl_a_Kids⟩ := Xpr.wfl hw_a
 have hw_b : Wf ⟨(.named 1), (b : Xpr)⟩ := hwf _ (List.Mem.tail _ (List.Mem.head _))
 obtain ⟨hr_b_Kind, hr_b_Col, hl_b_Kids⟩ := Xpr.wfl hw_b
 have e0 : equalExprs_r (fuel + 1) a b = equalExprs_r (fuel + 1) a b := rfl
 refine AW.seq (AW.r1 hC [2, 3] [8, 12] ⟨[(2, .ref 8 1 0), (3, .ref 12 1 0)], [(8, .box 1 [sI (Xpr.Kind a), sI (Xpr.Col a), sB (Val.Null (Xpr.V a)), sI (Val.N (Xpr.V a)), sD9 (Xpr.Kids a)]), (12, .box 1 [sI (Xpr.Kind b), sI (Xpr.Col b), sB (Val.Null (Xpr.V b)), sI (Val.N (Xpr.V b)), sD9 (Xpr.Kids b)])]⟩ ?_)
 refine AW.seq ?_
 refine Go.Am.bsplit (b := (bif (bif ((Xpr.Kind a) == (Xpr.Kind b)) then ((Xpr.Col a) == (Xpr.Col b)) else false) then (bif ((Val.Null (Xpr.V a)) == (Val.Null (Xpr.V b))) then (bif ((Val.N (Xpr.V a)) == (Val.N (Xpr.V b))) then true else false) else false) else false)) ?_ ?_
 ·
  intro h1
  have h1q : (((Xpr.Kind a) = (Xpr.Kind b)) ∧ ((Xpr.Col a) = (Xpr.Col b))) ∧ ((((Val.Null (Xpr.V a)) == (Val.Null (Xpr.V b))) = true) ∧ (((Val.N (Xpr.V a)) = (Val.N (Xpr.V b))) ∧ (true = true))) := (And.imp (fun h => (And.imp (fun h => (Go.Am.beq_pos h)) (fun h => (Go.Am.beq_pos h)) (Go.Am.and_pos h))) (fun h => (And.imp (fun h => h) (fun h => (And.imp (fun h => (Go.Am.beq_pos h)) (fun h => h) (Go.Am.and_pos h))) (Go.Am.and_pos h))) (Go.Am.and_pos h1))
  have e2 := e0.trans (Go.Am.bif_t h1)
  refine AW.regionO [0, 1, 2, 3, 4, 5, 6, 7, 8, 9, 10, 11, 12, 13, 14, 15, 16, 17, 18, 19, 20, 21, 22, 23, 24, 25, 26] (by rfl) ?_
  refine AWO.run hC false [(24, true)] [0, 1, 2, 3, 4, 5, 6, 7, 8, 9, 10, 11, 12, 13, 14, 15, 16, 17, 18, 19, 20, 21, 22, 23] [24, 25, 26] [24, 26, 28] []
   ⟨[(24, sB (bif (bif ((Xpr.Kind a) == (Xpr.Kind b)) then ((Xpr.Col a) == (Xpr.Col b)) else false) then (bif ((Val.Null (Xpr.V a)) == (Val.Null (Xpr.V b))) then (bif ((Val.N (Xpr.V a)) == (Val.N (Xpr.V b))) then true else false) else false) else false)), (26, sD9 (Xpr.Kids a)), (28, sD9 (Xpr.Kids b))], []⟩
   [((((Xpr.Kind a) == (Xpr.Kind b)) = true) → ((((Xpr.Kind a) == (Xpr.Kind b)) = true))), ((((Xpr.Kind a) == (Xpr.Kind b)) = true) → ((((Xpr.Kind a) == (Xpr.Kind b)) = true))), ((((Xpr.Kind a) == (Xpr.Kind b)) = true) → ((((Xpr.Kind a) == (Xpr.Kind b)) = true))), ((((Xpr.Kind a) == (Xpr.Kind b)) = true) → ((((Xpr.Kind a) == (Xpr.Kind b)) = true))), ((((Xpr.Kind a) == (Xpr.Kind b)) = true) → ((((Xpr.Kind a) == (Xpr.Kind b)) = true))), (((bif ((Xpr.Kind a) == (Xpr.Kind b)) then ((Xpr.Col a) == (Xpr.Col b)) else false) = true) → (((bif ((Xpr.Kind a) == (Xpr.Kind b)) then ((Xpr.Col a) == (Xpr.Col b)) else false) = true))), (((bif ((Xpr.Kind a) == (Xpr.Kind b)) then ((Xpr.Col a) == (Xpr.Col b)) else false) = true) → (((bif ((Xpr.Kind a) == (Xpr.Kind b)) then ((Xpr.Col a) == (Xpr.Col b)) else false) = true))), (((bif ((Xpr.Kind a) == (Xpr.Kind b)) then ((Xpr.Col a) == (Xpr.Col b)) else false) = true) → (((bif ((Xpr.Kind a) == (Xpr.Kind b)) then ((Xpr.Col a) == (Xpr.Col b)) else false) = true))), (((bif ((Xpr.Kind a) == (Xpr.Kind b)) then ((Xpr.Col a) == (Xpr.Col b)) else false) = true) → (((bif ((Xpr.Kind a) == (Xpr.Kind b)) then ((Xpr.Col a) == (Xpr.Col b)) else false) = true))), (((bif ((Xpr.Kind a) == (Xpr.Kind b)) then ((Xpr.Col a) == (Xpr.Col b)) else false) = true) → (((bif ((Xpr.Kind a) == (Xpr.Kind b)) then ((Xpr.Col a) == (Xpr.Col b)) else false) = true))), ((bif (bif ((Xpr.Kind a) == (Xpr.Kind b)) then ((Xpr.Col a) == (Xpr.Col b)) else false) then (bif ((Val.Null (Xpr.V a)) == (Val.Null (Xpr.V b))) then (bif ((Val.N (Xpr.V a)) == (Val.N (Xpr.V b))) then true else false) else false) else false) = true), ((bif (bif ((Xpr.Kind a) == (Xpr.Kind b)) then ((Xpr.Col a) == (Xpr.Col b)) else false) then (bif ((Val.Null (Xpr.V a)) == (Val.Null (Xpr.V b))) then (bif ((Val.N (Xpr.V a)) == (Val.N (Xpr.V b))) then true else false) else false) else false) = true), ((bif (bif ((Xpr.Kind a) == (Xpr.Kind b)) then ((Xpr.Col a) == (Xpr.Col b)) else false) then (bif ((Val.Null (Xpr.V a)) == (Val.Null (Xpr.V b))) then (bif ((Val.N (Xpr.V a)) == (Val.N (Xpr.V b))) then true else false) else false) else false) = true), ((bif (bif ((Xpr.Kind a) == (Xpr.Kind b)) then ((Xpr.Col a) == (Xpr.Col b)) else false) then (bif ((Val.Null (Xpr.V a)) == (Val.Null (Xpr.V b))) then (bif ((Val.N (Xpr.V a)) == (Val.N (Xpr.V b))) then true else false) else false) else false) = true)] (by rfl) (by kernel_rfl) ?_ ?_
  ·
   refine ⟨?_, ?_, ?_, ?_, ?_, ?_, ?_, ?_, ?_, ?_, ?_, ?_, ?_, ?_, trivial⟩
   ·
    intro g3
    have g3p0 : (Xpr.Kind a) = (Xpr.Kind b) := (Go.Am.beq_pos g3)
    assumption
   ·
    intro g4
    have g4p0 : (Xpr.Kind a) = (Xpr.Kind b) := (Go.Am.beq_pos g4)
    assumption
   ·
    intro g5
    have g5p0 : (Xpr.Kind a) = (Xpr.Kind b) := (Go.Am.beq_pos g5)
    assumption
   ·
    intro g6
    have g6p0 : (Xpr.Kind a) = (Xpr.Kind b) := (Go.Am.beq_pos g6)
    assumption
   ·
    intro g7
    have g7p0 : (Xpr.Kind a) = (Xpr.Kind b) := (Go.Am.beq_pos g7)
    assumption
   ·
    intro g8
    have g8p0 : ((Xpr.Kind a) = (Xpr.Kind b)) ∧ ((Xpr.Col a) = (Xpr.Col b)) := (And.imp (fun h => (Go.Am.beq_pos h)) (fun h => (Go.Am.beq_pos h)) (Go.Am.and_pos g8))
    assumption
   ·
    intro g9
    have g9p0 : ((Xpr.Kind a) = (Xpr.Kind b)) ∧ ((Xpr.Col a) = (Xpr.Col b)) := (And.imp (fun h => (Go.Am.beq_pos h)) (fun h => (Go.Am.beq_pos h)) (Go.Am.and_pos g9))
    assumption
   ·
    intro g10
    have g10p0 : ((Xpr.Kind a) = (Xpr.Kind b)) ∧ ((Xpr.Col a) = (Xpr.Col b)) := (And.imp (fun h => (Go.Am.beq_pos h)) (fun h => (Go.Am.beq_pos h)) (Go.Am.and_pos g10))
    assumption
   ·
    intro g11
    have g11p0 : ((Xpr.Kind a) = (Xpr.Kind b)) ∧ ((Xpr.Col a) = (Xpr.Col b)) := (And.imp (fun h => (Go.Am.beq_pos h)) (fun h => (Go.Am.beq_pos h)) (Go.Am.and_pos g11))
    assumption
   ·
    intro g12
    have g12p0 : ((Xpr.Kind a) = (Xpr.Kind b)) ∧ ((Xpr.Col a) = (Xpr.Col b)) := (And.imp (fun h => (Go.Am.beq_pos h)) (fun h => (Go.Am.beq_pos h)) (Go.Am.and_pos g12))
    assumption
   ·
    assumption
   ·
    assumption
   ·
    assumption
   ·
    assumption
  refine AWO.callJ hC.ty [24, 29] [] (α := Bool) (fun x => ⟨[(24, sB (bif (bif ((Xpr.Kind a) == (Xpr.Kind b)) then ((Xpr.Col a) == (Xpr.Col b)) else false) then (bif ((Val.Null (Xpr.V a)) == (Val.Null (Xpr.V b))) then (bif ((Val.N (Xpr.V a)) == (Val.N (Xpr.V b))) then true else false) else false) else false)), (29, sB x)], []⟩) (fun x => (True) ∧ (equalExprs_c0 (equalExprs_r fuel) a b) = x) (vs := [sD9 (Xpr.Kids a), sD9 (Xpr.Kids b)]) (caps := []) (by rfl) rfl (.inr ⟨19, true, 24, (bif (bif ((Xpr.Kind a) == (Xpr.Kind b)) then ((Xpr.Col a) == (Xpr.Col b)) else false) then (bif ((Val.Null (Xpr.V a)) == (Val.Null (Xpr.V b))) then (bif ((Val.N (Xpr.V a)) == (Val.N (Xpr.V b))) then true else false) else false) else false), rfl, rfl, by kernel_rfl, by assumption⟩) (by decide) (by kernel_rfl) (by kernel_rfl) Try.func20 (by kernel_rfl) rfl (by kernel_rfl) ?_ ?_
  ·
   intro o1 ho1
   have e99 : (equalExprs_c0 (equalExprs_r fuel) a b) = (equalExprs_c0 (equalExprs_r fuel) a b) := rfl
   refine AW.kp [0, 1, 1024] [] ⟨[(0, sD9 (Xpr.Kids a)), (1, sD9 (Xpr.Kids b)), (1024, sB (bif (bif ((Xpr.Kind a) == (Xpr.Kind b)) then ((Xpr.Col a) == (Xpr.Col b)) else false) then (bif ((Val.Null (Xpr.V a)) == (Val.Null (Xpr.V b))) then (bif ((Val.N (Xpr.V a)) == (Val.N (Xpr.V b))) then true else false) else false) else false))], []⟩ ?_
   refine AW.seq (AW.r1 hC1 [0, 1, 1024] [] ⟨[(0, sD9 (Xpr.Kids a)), (1, sD9 (Xpr.Kids b)), (1024, sB (bif (bif ((Xpr.Kind a) == (Xpr.Kind b)) then ((Xpr.Col a) == (Xpr.Col b)) else false) then (bif ((Val.Null (Xpr.V a)) == (Val.Null (Xpr.V b))) then (bif ((Val.N (Xpr.V a)) == (Val.N (Xpr.V b))) then true else false) else false) else false))], []⟩ ?_)
   refine AW.seq (AW.seq (AW.r1 hC1 [0, 1, 10, 1024] [] ⟨[(0, sD9 (Xpr.Kids a)), (1, sD9 (Xpr.Kids b)), (10, sB (((List.length (Xpr.Kids a) : Nat) : Int) != ((List.length (Xpr.Kids b) : Nat) : Int))), (1024, sB (bif (bif ((Xpr.Kind a) == (Xpr.Kind b)) then ((Xpr.Col a) == (Xpr.Col b)) else false) then (bif ((Val.Null (Xpr.V a)) == (Val.Null (Xpr.V b))) then (bif ((Val.N (Xpr.V a)) == (Val.N (Xpr.V b))) then true else false) else false) else false))], []⟩ ?_))
   refine AW.cd (((List.length (Xpr.Kids a) : Nat) : Int) != ((List.length (Xpr.Kids b) : Nat) : Int)) ?_ ?_
   ·
    intro h100
    have h100q := (Go.Am.bne_pos h100)
    have e101 := e99.trans (Go.Am.bif_t h100)
    refine AW.seq (AW.r1 hC1 [4, 1024] [] ⟨[(4, sB false), (1024, sB (bif (bif ((Xpr.Kind a) == (Xpr.Kind b)) then ((Xpr.Col a) == (Xpr.Col b)) else false) then (bif ((Val.Null (Xpr.V a)) == (Val.Null (Xpr.V b))) then (bif ((Val.N (Xpr.V a)) == (Val.N (Xpr.V b))) then true else false) else false) else false))], []⟩ ?_)
    refine AW.ret ?_
    refine ⟨false, [sB false], by kernel_rfl, by kernel_rfl, ?_, e101⟩
    show True
    exact trivial
   ·
    intro h102
    have h102q := (Go.Am.bne_neg h102)
    have e103 := e99.trans (Go.Am.bif_f h102)
    refine AW.kp [0, 1, 1024] [] ⟨[(0, sD9 (Xpr.Kids a)), (1, sD9 (Xpr.Kids b)), (1024, sB (bif (bif ((Xpr.Kind a) == (Xpr.Kind b)) then ((Xpr.Col a) == (Xpr.Col b)) else false) then (bif ((Val.Null (Xpr.V a)) == (Val.Null (Xpr.V b))) then (bif ((Val.N (Xpr.V a)) == (Val.N (Xpr.V b))) then true else false) else false) else false))], []⟩ ?_
    refine AW.skip (AW.seq (AW.seq (AW.r1 hC1 [0, 1, 5, 1024] [] ⟨[(0, sD9 (Xpr.Kids a)), (1, sD9 (Xpr.Kids b)), (5, sI 0), (1024, sB (bif (bif ((Xpr.Kind a) == (Xpr.Kind b)) then ((Xpr.Col a) == (Xpr.Col b)) else false) then (bif ((Val.Null (Xpr.V a)) == (Val.Null (Xpr.V b))) then (bif ((Val.N (Xpr.V a)) == (Val.N (Xpr.V b))) then true else false) else false) else false))], []⟩ ?_)))
    refine AW.cutQ (α := Unit) (fun x => ⟨[(1024, sB (bif (bif ((Xpr.Kind a) == (Xpr.Kind b)) then ((Xpr.Col a) == (Xpr.Col b)) else false) then (bif ((Val.Null (Xpr.V a)) == (Val.Null (Xpr.V b))) then (bif ((Val.N (Xpr.V a)) == (Val.N (Xpr.V b))) then true else false) else false) else false))], []⟩) (fun x => (True) ∧ (equalExprs_l0 (equalExprs_r fuel) a b ((List.length (Xpr.Kids a)) - 0 + 1) 0) = (.inl ())) ?_ ?_
    ·
     skip
     refine AW.block (AW.loop (α := Nat) (fun x => ⟨[(0, sD9 (Xpr.Kids a)), (1, sD9 (Xpr.Kids b)), (5, sI ((x : Nat) : Int)), (1024, sB (bif (bif ((Xpr.Kind a) == (Xpr.Kind b)) then ((Xpr.Col a) == (Xpr.Col b)) else false) then (bif ((Val.Null (Xpr.V a)) == (Val.Null (Xpr.V b))) then (bif ((Val.N (Xpr.V a)) == (Val.N (Xpr.V b))) then true else false) else false) else false))], []⟩) (fun x => (True) ∧ ∃ k, (List.length (Xpr.Kids a)) - x < k ∧ (equalExprs_l0 (equalExprs_r fuel) a b ((List.length (Xpr.Kids a)) - 0 + 1) 0) = equalExprs_l0 (equalExprs_r fuel) a b k x) (fun x => (List.length (Xpr.Kids a)) - x) 0 (by kernel_rfl) ⟨?_, _, Nat.lt_succ_self _, rfl⟩ ?_)
     ·
      show True
      exact trivial
     ·
      intro i hR
      obtain ⟨hI0, k133, hk131, e132⟩ := hR
      replace hI0 : True := hI0
      replace hk131 : (List.length (Xpr.Kids a)) - i < k133 := hk131
      obtain ⟨k133q, rfl⟩ : ∃ k, k133 = k + 1 := ⟨k133 - 1, by omega⟩
      refine AW.seq (AW.seq (AW.r1 hC1 [0, 1, 5, 14, 1024] [] ⟨[(0, sD9 (Xpr.Kids a)), (1, sD9 (Xpr.Kids b)), (5, sI ((i : Nat) : Int)), (14, sB (decide (((i : Nat) : Int) < ((List.length (Xpr.Kids a) : Nat) : Int)))), (1024, sB (bif (bif ((Xpr.Kind a) == (Xpr.Kind b)) then ((Xpr.Col a) == (Xpr.Col b)) else false) then (bif ((Val.Null (Xpr.V a)) == (Val.Null (Xpr.V b))) then (bif ((Val.N (Xpr.V a)) == (Val.N (Xpr.V b))) then true else false) else false) else false))], []⟩ ?_))
      refine AW.cd (decide (((i : Nat) : Int) < ((List.length (Xpr.Kids a) : Nat) : Int))) ?_ ?_
      ·
       intro h134
       have h134q := (of_decide_eq_true h134)
       have e135 := e132.trans (Go.Am.bif_t h134)
       refine AW.kp [0, 1, 5, 1024] [] ⟨[(0, sD9 (Xpr.Kids a)), (1, sD9 (Xpr.Kids b)), (5, sI ((i : Nat) : Int)), (1024, sB (bif (bif ((Xpr.Kind a) == (Xpr.Kind b)) then ((Xpr.Col a) == (Xpr.Col b)) else false) then (bif ((Val.Null (Xpr.V a)) == (Val.Null (Xpr.V b))) then (bif ((Val.N (Xpr.V a)) == (Val.N (Xpr.V b))) then true else false) else false) else false))], []⟩ ?_
       refine AW.skip (AW.seq (AW.block (AW.seq (AW.d0 hC1 hM [0, 1, 5, 26, 1024] [] ⟨[(0, sD9 (Xpr.Kids a)), (1, sD9 (Xpr.Kids b)), (5, sI ((i : Nat) : Int)), (26, sB (!((equalExprs_r fuel) (List.getD (Xpr.Kids a) i Xpr.zero) (List.getD (Xpr.Kids b) i Xpr.zero)))), (1024, sB (bif (bif ((Xpr.Kind a) == (Xpr.Kind b)) then ((Xpr.Col a) == (Xpr.Col b)) else false) then (bif ((Val.Null (Xpr.V a)) == (Val.Null (Xpr.V b))) then (bif ((Val.N (Xpr.V a)) == (Val.N (Xpr.V b))) then true else false) else false) else false))], []⟩ [IX ((i : Nat) : Int) ((List.length (Xpr.Kids a) : Nat) : Int), IX ((i : Nat) : Int) ((List.length (Xpr.Kids b) : Nat) : Int), ((True) ∧ SizeOf.sizeOf (List.getD (Xpr.Kids a) i Xpr.zero) < fuel)] ?_ ?_))))
       ·
        refine ⟨?_, ?_, ?_, trivial⟩
        ·
         refine IX.of ?_
         omega
        ·
         refine IX.of ?_
         omega
        ·
         exact ⟨trivial, Nat.lt_of_lt_of_le (kid_lt (by omega)) (Nat.le_of_lt_succ hpre.2)⟩
       refine AW.cd (!((equalExprs_r fuel) (List.getD (Xpr.Kids a) i Xpr.zero) (List.getD (Xpr.Kids b) i Xpr.zero))) ?_ ?_
       ·
        intro h136
        have h136q := (Go.Am.not_pos h136)
        have e137 := e135.trans (Go.Am.bif_t h136)
        refine AW.seq (AW.r1 hC1 [4, 1024] [] ⟨[(4, sB false), (1024, sB (bif (bif ((Xpr.Kind a) == (Xpr.Kind b)) then ((Xpr.Col a) == (Xpr.Col b)) else false) then (bif ((Val.Null (Xpr.V a)) == (Val.Null (Xpr.V b))) then (bif ((Val.N (Xpr.V a)) == (Val.N (Xpr.V b))) then true else false) else false) else false))], []⟩ ?_)
        refine AW.ret ?_
        have e138 := e103.trans (Go.Am.elim_r e137)
        refine ⟨false, [sB false], by kernel_rfl, by kernel_rfl, ?_, e138⟩
        show True
        exact trivial
       ·
        intro h139
        have h139q := (Go.Am.not_neg h139)
        have e140 := e135.trans (Go.Am.bif_f h139)
        refine AW.kp [0, 1, 5, 1024] [] ⟨[(0, sD9 (Xpr.Kids a)), (1, sD9 (Xpr.Kids b)), (5, sI ((i : Nat) : Int)), (1024, sB (bif (bif ((Xpr.Kind a) == (Xpr.Kind b)) then ((Xpr.Col a) == (Xpr.Col b)) else false) then (bif ((Val.Null (Xpr.V a)) == (Val.Null (Xpr.V b))) then (bif ((Val.N (Xpr.V a)) == (Val.N (Xpr.V b))) then true else false) else false) else false))], []⟩ ?_
        refine AW.skip (AW.r0 hC1 [0, 1, 5, 1024] [] ⟨[(0, sD9 (Xpr.Kids a)), (1, sD9 (Xpr.Kids b)), (5, sI ((i + 1 : Nat) : Int)), (1024, sB (bif (bif ((Xpr.Kind a) == (Xpr.Kind b)) then ((Xpr.Col a) == (Xpr.Col b)) else false) then (bif ((Val.Null (Xpr.V a)) == (Val.Null (Xpr.V b))) then (bif ((Val.N (Xpr.V a)) == (Val.N (Xpr.V b))) then true else false) else false) else false))], []⟩ [R64 ((i + 1 : Nat) : Int)] ?_ ?_)
        ·
         refine ⟨?_, trivial⟩
         ·
          refine R64.of ?_
          omega
        refine AW.back (x := i) (i + 1) (by kernel_rfl) ⟨?_, k133q, ?_, e140⟩ ?_
        ·
         show True
         assumption
        ·
         show (List.length (Xpr.Kids a)) - (i + 1) < k133q
         omega
        ·
         show (List.length (Xpr.Kids a)) - (i + 1) < (List.length (Xpr.Kids a)) - i
         omega
      ·
       intro h141
       have h141q := (of_decide_eq_false h141)
       have e142 := e132.trans (Go.Am.bif_f h141)
       refine AW.kp [1024] [] ⟨[(1024, sB (bif (bif ((Xpr.Kind a) == (Xpr.Kind b)) then ((Xpr.Col a) == (Xpr.Col b)) else false) then (bif ((Val.Null (Xpr.V a)) == (Val.Null (Xpr.V b))) then (bif ((Val.N (Xpr.V a)) == (Val.N (Xpr.V b))) then true else false) else false) else false))], []⟩ ?_
       refine AW.exit ?_
       refine AW.meet () (by kernel_rfl) ⟨?_, e142⟩
       show True
       assumption
    ·
     intro x hR
     obtain ⟨hJ0, e143⟩ := hR
     replace hJ0 : True := hJ0
     have e144 := e103.trans (Go.Am.elim_l e143)
     refine AW.seq (AW.r1 hC1 [4, 1024] [] ⟨[(4, sB true), (1024, sB (bif (bif ((Xpr.Kind a) == (Xpr.Kind b)) then ((Xpr.Col a) == (Xpr.Col b)) else false) then (bif ((Val.Null (Xpr.V a)) == (Val.Null (Xpr.V b))) then (bif ((Val.N (Xpr.V a)) == (Val.N (Xpr.V b))) then true else false) else false) else false))], []⟩ ?_)
     refine AW.ret ?_
     refine ⟨true, [sB true], by kernel_rfl, by kernel_rfl, ?_, e144⟩
     show True
     exact trivial
  ·
   intro v29 hR
   obtain ⟨hK0, e145⟩ := hR
   replace hK0 : True := hK0
   have e146 := e2.trans (Go.Am.then_eq e145)
   refine AWO.run hC false [(24, true)] [25, 26] [] [4] []
    ⟨[(4, sB (bif (bif (bif ((Xpr.Kind a) == (Xpr.Kind b)) then ((Xpr.Col a) == (Xpr.Col b)) else false) then (bif ((Val.Null (Xpr.V a)) == (Val.Null (Xpr.V b))) then (bif ((Val.N (Xpr.V a)) == (Val.N (Xpr.V b))) then true else false) else false) else false) then v29 else false))], []⟩
    [] (by rfl) (by kernel_rfl) ?_ ?_
   ·
    exact trivial
   refine AWO.nil ?_
   exact AW.ret (AW.rB (bif (bif (bif ((Xpr.Kind a) == (Xpr.Kind b)) then ((Xpr.Col a) == (Xpr.Col b)) else false) then (bif ((Val.Null (Xpr.V a)) == (Val.Null (Xpr.V b))) then (bif ((Val.N (Xpr.V a)) == (Val.N (Xpr.V b))) then true else false) else false) else false) then v29 else false) e146)
 ·
  intro h147
  have h147q : (((Xpr.Kind a) ≠ (Xpr.Kind b)) ∨ ((Xpr.Col a) ≠ (Xpr.Col b))) ∨ ((((Val.Null (Xpr.V a)) == (Val.Null (Xpr.V b))) = false) ∨ (((Val.N (Xpr.V a)) ≠ (Val.N (Xpr.V b))) ∨ (true = false))) := (Or.imp (fun h => (Or.imp (fun h => (Go.Am.beq_neg h)) (fun h => (Go.Am.beq_neg h)) (Go.Am.and_neg h))) (fun h => (Or.imp (fun h => h) (fun h => (Or.imp (fun h => (Go.Am.beq_neg h)) (fun h => h) (Go.Am.and_neg h))) (Go.Am.and_neg h))) (Go.Am.and_neg h147))
  have e148 := e0.trans (Go.Am.bif_f h147)
  refine AW.reg hC  false [(24, false)] [4] []
   ⟨[(4, sB false)], []⟩
   [((((Xpr.Kind a) == (Xpr.Kind b)) = true) → ((((Xpr.Kind a) == (Xpr.Kind b)) = true))), ((((Xpr.Kind a) == (Xpr.Kind b)) = true) → ((((Xpr.Kind a) == (Xpr.Kind b)) = true))), ((((Xpr.Kind a) == (Xpr.Kind b)) = true) → ((((Xpr.Kind a) == (Xpr.Kind b)) = true))), ((((Xpr.Kind a) == (Xpr.Kind b)) = true) → ((((Xpr.Kind a) == (Xpr.Kind b)) = true))), ((((Xpr.Kind a) == (Xpr.Kind b)) = true) → ((((Xpr.Kind a) == (Xpr.Kind b)) = true))), (((bif ((Xpr.Kind a) == (Xpr.Kind b)) then ((Xpr.Col a) == (Xpr.Col b)) else false) = true) → (((bif ((Xpr.Kind a) == (Xpr.Kind b)) then ((Xpr.Col a) == (Xpr.Col b)) else false) = true))), (((bif ((Xpr.Kind a) == (Xpr.Kind b)) then ((Xpr.Col a) == (Xpr.Col b)) else false) = true) → (((bif ((Xpr.Kind a) == (Xpr.Kind b)) then ((Xpr.Col a) == (Xpr.Col b)) else false) = true))), (((bif ((Xpr.Kind a) == (Xpr.Kind b)) then ((Xpr.Col a) == (Xpr.Col b)) else false) = true) → (((bif ((Xpr.Kind a) == (Xpr.Kind b)) then ((Xpr.Col a) == (Xpr.Col b)) else false) = true))), (((bif ((Xpr.Kind a) == (Xpr.Kind b)) then ((Xpr.Col a) == (Xpr.Col b)) else false) = true) → (((bif ((Xpr.Kind a) == (Xpr.Kind b)) then ((Xpr.Col a) == (Xpr.Col b)) else false) = true))), (((bif ((Xpr.Kind a) == (Xpr.Kind b)) then ((Xpr.Col a) == (Xpr.Col b)) else false) = true) → (((bif ((Xpr.Kind a) == (Xpr.Kind b)) then ((Xpr.Col a) == (Xpr.Col b)) else false) = true))), ((bif (bif ((Xpr.Kind a) == (Xpr.Kind b)) then ((Xpr.Col a) == (Xpr.Col b)) else false) then (bif ((Val.Null (Xpr.V a)) == (Val.Null (Xpr.V b))) then (bif ((Val.N (Xpr.V a)) == (Val.N (Xpr.V b))) then true else false) else false) else false) = false), ((bif (bif ((Xpr.Kind a) == (Xpr.Kind b)) then ((Xpr.Col a) == (Xpr.Col b)) else false) then (bif ((Val.Null (Xpr.V a)) == (Val.Null (Xpr.V b))) then (bif ((Val.N (Xpr.V a)) == (Val.N (Xpr.V b))) then true else false) else false) else false) = false), ((bif (bif ((Xpr.Kind a) == (Xpr.Kind b)) then ((Xpr.Col a) == (Xpr.Col b)) else false) then (bif ((Val.Null (Xpr.V a)) == (Val.Null (Xpr.V b))) then (bif ((Val.N (Xpr.V a)) == (Val.N (Xpr.V b))) then true else false) else false) else false) = false), ((bif (bif ((Xpr.Kind a) == (Xpr.Kind b)) then ((Xpr.Col a) == (Xpr.Col b)) else false) then (bif ((Val.Null (Xpr.V a)) == (Val.Null (Xpr.V b))) then (bif ((Val.N (Xpr.V a)) == (Val.N (Xpr.V b))) then true else false) else false) else false) = false), ((bif (bif ((Xpr.Kind a) == (Xpr.Kind b)) then ((Xpr.Col a) == (Xpr.Col b)) else false) then (bif ((Val.Null (Xpr.V a)) == (Val.Null (Xpr.V b))) then (bif ((Val.N (Xpr.V a)) == (Val.N (Xpr.V b))) then true else false) else false) else false) = false), ((bif (bif ((Xpr.Kind a) == (Xpr.Kind b)) then ((Xpr.Col a) == (Xpr.Col b)) else false) then (bif ((Val.Null (Xpr.V a)) == (Val.Null (Xpr.V b))) then (bif ((Val.N (Xpr.V a)) == (Val.N (Xpr.V b))) then true else false) else false) else false) = false)] (by kernel_rfl) ?_ ?_
  ·
   refine ⟨?_, ?_, ?_, ?_, ?_, ?_, ?_, ?_, ?_, ?_, ?_, ?_, ?_, ?_, ?_, ?_, trivial⟩
   ·
    intro g149
    have g149p0 : (Xpr.Kind a) = (Xpr.Kind b) := (Go.Am.beq_pos g149)
    assumption
   ·
    intro g150
    have g150p0 : (Xpr.Kind a) = (Xpr.Kind b) := (Go.Am.beq_pos g150)
    assumption
   ·
    intro g151
    have g151p0 : (Xpr.Kind a) = (Xpr.Kind b) := (Go.Am.beq_pos g151)
    assumption
   ·
    intro g152
    have g152p0 : (Xpr.Kind a) = (Xpr.Kind b) := (Go.Am.beq_pos g152)
    assumption
   ·
    intro g153
    have g153p0 : (Xpr.Kind a) = (Xpr.Kind b) := (Go.Am.beq_pos g153)
    assumption
   ·
    intro g154
    have g154p0 : ((Xpr.Kind a) = (Xpr.Kind b)) ∧ ((Xpr.Col a) = (Xpr.Col b)) := (And.imp (fun h => (Go.Am.beq_pos h)) (fun h => (Go.Am.beq_pos h)) (Go.Am.and_pos g154))
    assumption
   ·
    intro g155
    have g155p0 : ((Xpr.Kind a) = (Xpr.Kind b)) ∧ ((Xpr.Col a) = (Xpr.Col b)) := (And.imp (fun h => (Go.Am.beq_pos h)) (fun h => (Go.Am.beq_pos h)) (Go.Am.and_pos g155))
    assumption
   ·
    intro g156
    have g156p0 : ((Xpr.Kind a) = (Xpr.Kind b)) ∧ ((Xpr.Col a) = (Xpr.Col b)) := (And.imp (fun h => (Go.Am.beq_pos h)) (fun h => (Go.Am.beq_pos h)) (Go.Am.and_pos g156))
    assumption
   ·
    intro g157
    have g157p0 : ((Xpr.Kind a) = (Xpr.Kind b)) ∧ ((Xpr.Col a) = (Xpr.Col b)) := (And.imp (fun h => (Go.Am.beq_pos h)) (fun h => (Go.Am.beq_pos h)) (Go.Am.and_pos g157))
    assumption
   ·
    intro g158
    have g158p0 : ((Xpr.Kind a) = (Xpr.Kind b)) ∧ ((Xpr.Col a) = (Xpr.Col b)) := (And.imp (fun h => (Go.Am.beq_pos h)) (fun h => (Go.Am.beq_pos h)) (Go.Am.and_pos g158))
    assumption
   ·
    assumption
   ·
    assumption
   ·
    assumption
   ·
    assumption
   ·
    assumption
   ·
    assumption
  exact AW.ret (AW.rB false e148)

theorem equalExprs_fu : AllTV (equalExprs_sp.ps.map PK.ty) (fun tvs => equalExprs_sp.pre tvs → ∃ k, (equalExprs_spn k).pre tvs ∧ (equalExprs_spn k).fn tvs = equalExprs_sp.fn tvs ∧ (equalExprs_spn k).bx tvs = equalExprs_sp.bx tvs) :=
 (fun (a : Xpr) (b : Xpr) h => ⟨SizeOf.sizeOf a + 1, (show (True) ∧ SizeOf.sizeOf a < SizeOf.sizeOf a + 1 from ⟨h, Nat.lt_succ_self _⟩), (show (equalExprs_spn (SizeOf.sizeOf a + 1)).fn [⟨(.named 1), (a : Xpr)⟩, ⟨(.named 1), (b : Xpr)⟩] = ([⟨.bool, (equalExprs_r (SizeOf.sizeOf a + 1) a b)⟩] : List TV) from by kernel_rfl).trans (show ([⟨.bool, (equalExprs_r (SizeOf.sizeOf a + 1) a b)⟩] : List TV) = equalExprs_sp.fn [⟨(.named 1), (a : Xpr)⟩, ⟨(.named 1), (b : Xpr)⟩] from by kernel_rfl), by kernel_rfl⟩)

theorem equalExprs_ok : FnOK Try.prog 7 equalExprs_sp := FnOK.of_fuel equalExprs_okn (fun _ => rfl) (fun _ => rfl) (AllTV.get equalExprs_fu)

end
end Go.Proofs.Ytjhnpnnlimpgdaa
