/-
  A part of the proof of this claim (Ad2): what functions of the program compute, and plain facts of that. No conditions.
-/
import Derived.Test.YtmijmkbnmcmgcaaAdB
set_option linter.all false
namespace Go.Proofs.Ytmijmkbnmcmgcaa
open Go Go.Am
noncomputable section

def validWidth (width : Int) : Bool := (bif (decide (1 ≤ width)) then (decide (width ≤ 6)) else false)

def validWidth_sp : FnSpec := mkSpec [.val (.int .i64)] [.val .bool] (fun (width : Int) => True) (fun (width : Int) => [⟨.bool, (validWidth width)⟩])

theorem validWidth_ok : FnOK Try.prog 44 validWidth_sp := by
 have hC : CtxOK Try.prog (mkCtx tyL []) := CtxOK.nil tyOK
 refine FnOK.of_body Try.func44 (by kernel_rfl) rfl (C := (mkCtx tyL [])) hC.ty (by kernel_rfl) ?_
 intro (width : Int) hwf hpre E
 have hpre : True := hpre
 have hw_width : Wf ⟨(.int .i64), (width : Int)⟩ := hwf _ (List.Mem.head _)
 have hr_width : -9223372036854775808 ≤ width ∧ width ≤ 9223372036854775807 := hw_width.int_inv
 have e0 : validWidth width = validWidth width := rfl
 refine AW.seq (AW.r1U hC [0] [] [] [] ?_)
 refine AW.seq (AW.r0 hC [2] [] ⟨[(2, .bool (bif (decide (1 ≤ width)) then (decide (width ≤ 6)) else false))], []⟩ [(((decide (1 ≤ width)) = true) → (((decide (1 ≤ width)) = true))), (((decide (1 ≤ width)) = true) → (((decide (1 ≤ width)) = true)))] ?_ ?_)
 ·
  refine ⟨?_, ?_, trivial⟩
  ·
   intro g1
   have g1p0 : 1 ≤ width := (of_decide_eq_true g1)
   assumption
  ·
   intro g2
   have g2p0 : 1 ≤ width := (of_decide_eq_true g2)
   assumption
 exact AW.ret (AW.retE (β := Bool) (fun v => [⟨.bool, v⟩]) (fun v => []) (v := (bif (decide (1 ≤ width)) then (decide (width ≤ 6)) else false)) e0 (by kernel_rfl) rfl rfl)

def contains (s : Int) (part : Int) : Bool := ((bits .andNot .i64 part s) == 0)

def contains_sp : FnSpec := mkSpec [.val (.int .i64), .val (.int .i64)] [.val .bool] (fun (s : Int) (part : Int) => True) (fun (s : Int) (part : Int) => [⟨.bool, (contains s part)⟩])

theorem contains_ok : FnOK Try.prog 46 contains_sp := by
 have hC : CtxOK Try.prog (mkCtx tyL []) := CtxOK.nil tyOK
 refine FnOK.of_body Try.func46 (by kernel_rfl) rfl (C := (mkCtx tyL [])) hC.ty (by kernel_rfl) ?_
 intro (s : Int) (part : Int) hwf hpre E
 have hpre : True := hpre
 have hw_s : Wf ⟨(.int .i64), (s : Int)⟩ := hwf _ (List.Mem.head _)
 have hr_s : -9223372036854775808 ≤ s ∧ s ≤ 9223372036854775807 := hw_s.int_inv
 have hw_part : Wf ⟨(.int .i64), (part : Int)⟩ := hwf _ (List.Mem.tail _ (List.Mem.head _))
 have hr_part : -9223372036854775808 ≤ part ∧ part ≤ 9223372036854775807 := hw_part.int_inv
 have e0 : contains s part = contains s part := rfl
 refine AW.seq (AW.r1U hC [0, 1] [] [] [] ?_)
 refine AW.seq (AW.r1 hC [4] [] ⟨[(4, .bool ((bits .andNot .i64 part s) == 0))], []⟩ ?_)
 exact AW.ret (AW.retE (β := Bool) (fun v => [⟨.bool, v⟩]) (fun v => []) (v := ((bits .andNot .i64 part s) == 0)) e0 (by kernel_rfl) rfl rfl)

def inRange (n : Int) (low : Int) (high : Int) : Bool := (bif (decide (low ≤ n)) then (decide (n ≤ high)) else false)

def inRange_sp : FnSpec := mkSpec [.val (.int .i64), .val (.int .i64), .val (.int .i64)] [.val .bool] (fun (n : Int) (low : Int) (high : Int) => True) (fun (n : Int) (low : Int) (high : Int) => [⟨.bool, (inRange n low high)⟩])

theorem inRange_ok : FnOK Try.prog 56 inRange_sp := by
 have hC : CtxOK Try.prog (mkCtx tyL []) := CtxOK.nil tyOK
 refine FnOK.of_body Try.func56 (by kernel_rfl) rfl (C := (mkCtx tyL [])) hC.ty (by kernel_rfl) ?_
 intro (n : Int) (low : Int) (high : Int) hwf hpre E
 have hpre : True := hpre
 have hw_n : Wf ⟨(.int .i64), (n : Int)⟩ := hwf _ (List.Mem.head _)
 have hr_n : -9223372036854775808 ≤ n ∧ n ≤ 9223372036854775807 := hw_n.int_inv
 have hw_low : Wf ⟨(.int .i64), (low : Int)⟩ := hwf _ (List.Mem.tail _ (List.Mem.head _))
 have hr_low : -9223372036854775808 ≤ low ∧ low ≤ 9223372036854775807 := hw_low.int_inv
 have hw_high : Wf ⟨(.int .i64), (high : Int)⟩ := hwf _ (List.Mem.tail _ (List.Mem.tail _ (List.Mem.head _)))
 have hr_high : -9223372036854775808 ≤ high ∧ high ≤ 9223372036854775807 := hw_high.int_inv
 have e0 : inRange n low high = inRange n low high := rfl
 refine AW.seq (AW.r1U hC [0, 1, 2] [] [] [] ?_)
 refine AW.seq (AW.r0 hC [6] [] ⟨[(6, .bool (bif (decide (low ≤ n)) then (decide (n ≤ high)) else false))], []⟩ [(((decide (low ≤ n)) = true) → (((decide (low ≤ n)) = true))), (((decide (low ≤ n)) = true) → (((decide (low ≤ n)) = true))), (((decide (low ≤ n)) = true) → (((decide (low ≤ n)) = true)))] ?_ ?_)
 ·
  refine ⟨?_, ?_, ?_, trivial⟩
  ·
   intro g1
   have g1p0 : low ≤ n := (of_decide_eq_true g1)
   assumption
  ·
   intro g2
   have g2p0 : low ≤ n := (of_decide_eq_true g2)
   assumption
  ·
   intro g3
   have g3p0 : low ≤ n := (of_decide_eq_true g3)
   assumption
 exact AW.ret (AW.retE (β := Bool) (fun v => [⟨.bool, v⟩]) (fun v => []) (v := (bif (decide (low ≤ n)) then (decide (n ≤ high)) else false)) e0 (by kernel_rfl) rfl rfl)

def toDependency (a : Dep) : Dep := a

def toDependency_sp : FnSpec := mkSpec [.val (.named 0)] [.val (.named 0)] (fun (a : Dep) => True) (fun (a : Dep) => [⟨(.named 0), (toDependency a)⟩])

theorem toDependency_ok : FnOK Try.prog 39 toDependency_sp := by
 have hC : CtxOK Try.prog (mkCtx tyL []) := CtxOK.nil tyOK
 refine FnOK.of_body Try.func39 (by kernel_rfl) rfl (C := (mkCtx tyL [])) hC.ty (by kernel_rfl) ?_
 intro (a : Dep) hwf hpre E
 have hpre : True := hpre
 have hw_a : Wf ⟨(.named 0), (a : Dep)⟩ := hwf _ (List.Mem.head _)
 have hr_a_From : -9223372036854775808 ≤ Dep.From a ∧ Dep.From a ≤ 9223372036854775807 := (hw_a.field (tv := ⟨(.int .i64), Dep.From a⟩) (List.Mem.head _)).int_inv
 have hr_a_To : -9223372036854775808 ≤ Dep.To a ∧ Dep.To a ≤ 9223372036854775807 := (hw_a.field (tv := ⟨(.int .i64), Dep.To a⟩) (List.Mem.tail _ (List.Mem.head _))).int_inv
 have e0 : toDependency a = toDependency a := rfl
 refine AW.seq (AW.r1 hC [1, 2] [4, 8] ⟨[(1, .ref 4 1 0), (2, .ref 8 1 0)], [(4, .box 1 [.int .i64 (Dep.From a), .int .i64 (Dep.To a)]), (8, .box 1 [.int .i64 0, .int .i64 0])]⟩ ?_)
 refine AW.seq (AW.r1U hC [1, 2, 3] [4, 8, 12] [(3, .ref 12 1 0)] [(12, .box 1 [.int .i64 0, .int .i64 0])] ?_)
 refine AW.seq (AW.r1U hC [1, 2, 3] [4, 8, 12] [] [(12, .box 1 [.int .i64 (Dep.From a), .int .i64 0])] ?_)
 refine AW.seq (AW.r1U hC [2, 3] [8, 12] [] [(12, .box 1 [.int .i64 (Dep.From a), .int .i64 (Dep.To a)])] ?_)
 refine AW.seq (AW.r1U hC [2] [8] [] [(8, .box 1 [.int .i64 (Dep.From a), .int .i64 (Dep.To a)])] ?_)
 exact AW.ret (AW.retE (β := Dep) (fun v => [⟨(.named 0), v⟩]) (fun v => []) (v := a) e0 (by kernel_rfl) rfl rfl)

def eqDependency (a : Dep) (b : Dep) : Bool := (bif ((Dep.From a) != (Dep.From b)) then false else (bif ((Dep.To a) != (Dep.To b)) then false else true))

def eqDependency_sp : FnSpec := mkSpec [.val (.named 0), .val (.named 0)] [.val .bool] (fun (a : Dep) (b : Dep) => True) (fun (a : Dep) (b : Dep) => [⟨.bool, (eqDependency a b)⟩])

theorem eqDependency_ok : FnOK Try.prog 42 eqDependency_sp := by
 have hC : CtxOK Try.prog (mkCtx tyL []) := CtxOK.nil tyOK
 refine FnOK.of_body Try.func42 (by kernel_rfl) rfl (C := (mkCtx tyL [])) hC.ty (by kernel_rfl) ?_
 intro (a : Dep) (b : Dep) hwf hpre E
 have hpre : True := hpre
 have hw_a : Wf ⟨(.named 0), (a : Dep)⟩ := hwf _ (List.Mem.head _)
 have hr_a_From : -9223372036854775808 ≤ Dep.From a ∧ Dep.From a ≤ 9223372036854775807 := (hw_a.field (tv := ⟨(.int .i64), Dep.From a⟩) (List.Mem.head _)).int_inv
 have hr_a_To : -9223372036854775808 ≤ Dep.To a ∧ Dep.To a ≤ 9223372036854775807 := (hw_a.field (tv := ⟨(.int .i64), Dep.To a⟩) (List.Mem.tail _ (List.Mem.head _))).int_inv
 have hw_b : Wf ⟨(.named 0), (b : Dep)⟩ := hwf _ (List.Mem.tail _ (List.Mem.head _))
 have hr_b_From : -9223372036854775808 ≤ Dep.From b ∧ Dep.From b ≤ 9223372036854775807 := (hw_b.field (tv := ⟨(.int .i64), Dep.From b⟩) (List.Mem.head _)).int_inv
 have hr_b_To : -9223372036854775808 ≤ Dep.To b ∧ Dep.To b ≤ 9223372036854775807 := (hw_b.field (tv := ⟨(.int .i64), Dep.To b⟩) (List.Mem.tail _ (List.Mem.head _))).int_inv
 have e0 : eqDependency a b = eqDependency a b := rfl
 refine AW.seq (AW.r1 hC [2, 3] [8, 12] ⟨[(2, .ref 8 1 0), (3, .ref 12 1 0)], [(8, .box 1 [.int .i64 (Dep.From a), .int .i64 (Dep.To a)]), (12, .box 1 [.int .i64 (Dep.From b), .int .i64 (Dep.To b)])]⟩ ?_)
 refine AW.seq (AW.seq (AW.r1U hC [2, 3, 9] [8, 12] [(9, .bool ((Dep.From a) != (Dep.From b)))] [] ?_))
 refine AW.cd ((Dep.From a) != (Dep.From b)) ?_ ?_
 ·
  intro h1
  have h1q : (Dep.From a) ≠ (Dep.From b) := (Go.Am.bne_pos h1)
  have e2 := e0.trans (Go.Am.bif_t h1)
  refine AW.seq (AW.r1 hC [4] [] ⟨[(4, .bool false)], []⟩ ?_)
  exact AW.ret (AW.retE (β := Bool) (fun v => [⟨.bool, v⟩]) (fun v => []) (v := false) e2 (by kernel_rfl) rfl rfl)
 ·
  intro h3
  have h3q : (Dep.From a) = (Dep.From b) := (Go.Am.bne_neg h3)
  have e4 := e0.trans (Go.Am.bif_f h3)
  refine AW.kpU [2, 3] [8, 12] [] [] ?_
  refine AW.skip (AW.seq (AW.seq (AW.r1 hC [14] [] ⟨[(14, .bool ((Dep.To a) != (Dep.To b)))], []⟩ ?_)))
  refine AW.cd ((Dep.To a) != (Dep.To b)) ?_ ?_
  ·
   intro h5
   have h5q : (Dep.To a) ≠ (Dep.To b) := (Go.Am.bne_pos h5)
   have e6 := e4.trans (Go.Am.bif_t h5)
   refine AW.seq (AW.r1 hC [4] [] ⟨[(4, .bool false)], []⟩ ?_)
   exact AW.ret (AW.retE (β := Bool) (fun v => [⟨.bool, v⟩]) (fun v => []) (v := false) e6 (by kernel_rfl) rfl rfl)
  ·
   intro h7
   have h7q : (Dep.To a) = (Dep.To b) := (Go.Am.bne_neg h7)
   have e8 := e4.trans (Go.Am.bif_f h7)
   refine AW.kp [] [] ⟨[], []⟩ ?_
   refine AW.skip (AW.seq (AW.r1 hC [4] [] ⟨[(4, .bool true)], []⟩ ?_))
   exact AW.ret (AW.retE (β := Bool) (fun v => [⟨.bool, v⟩]) (fun v => []) (v := true) e8 (by kernel_rfl) rfl rfl)

def eqDependencyS_l0 (a : List Dep) (b : List Dep) : Nat → Nat → Unit ⊕ Bool
 | 0, i => .inl ()
 | k + 1, i => (bif (decide (((i : Nat) : Int) < ((List.length a : Nat) : Int))) then (bif (!(eqDependency (List.getD a i Dep.zero) (List.getD b i Dep.zero))) then (.inr false) else (eqDependencyS_l0 a b k (i + 1))) else (.inl ()))

def eqDependencyS (a : List Dep) (b : List Dep) : Bool := (bif (((List.length a : Nat) : Int) != ((List.length b : Nat) : Int)) then false else (Sum.elim (fun _ => true) (fun r => r) (eqDependencyS_l0 a b ((List.length a) - 0 + 1) 0)))

def eqDependencyS_sp : FnSpec := mkSpec [.val (.slice (.named 0)), .val (.slice (.named 0))] [.val .bool] (fun (a : List Dep) (b : List Dep) => True) (fun (a : List Dep) (b : List Dep) => [⟨.bool, (eqDependencyS a b)⟩])

theorem eqDependencyS_ok : FnOK Try.prog 16 eqDependencyS_sp := by
 have hC : CtxOK Try.prog (mkCtx tyL [(42, eqDependency_sp)]) := CtxOK.cons eqDependency_ok (CtxOK.nil tyOK)
 have hM : Try.prog.follows .mixedOrders = true := Try.checked.mixed
 refine FnOK.of_body Try.func16 (by kernel_rfl) rfl (C := (mkCtx tyL [(42, eqDependency_sp)])) hC.ty (by kernel_rfl) ?_
 intro (a : List Dep) (b : List Dep) hwf hpre E
 have hpre : True := hpre
 have hw_a : Wf ⟨(.slice (.named 0)), (a : List Dep)⟩ := hwf _ (List.Mem.head _)
 have hl_a : ((List.length a : Nat) : Int) ≤ 9223372036854775807 := hw_a.len
 have hw_b : Wf ⟨(.slice (.named 0)), (b : List Dep)⟩ := hwf _ (List.Mem.tail _ (List.Mem.head _))
 have hl_b : ((List.length b : Nat) : Int) ≤ 9223372036854775807 := hw_b.len
 have e0 : eqDependencyS a b = eqDependencyS a b := rfl
 refine AW.seq (AW.r1U hC [0, 1] [] [] [] ?_)
 refine AW.seq (AW.seq (AW.r1U hC [0, 1, 10] [] [(10, .bool (((List.length a : Nat) : Int) != ((List.length b : Nat) : Int)))] [] ?_))
 refine AW.cd (((List.length a : Nat) : Int) != ((List.length b : Nat) : Int)) ?_ ?_
 ·
  intro h1
  have h1q : ((List.length a : Nat) : Int) ≠ ((List.length b : Nat) : Int) := (Go.Am.bne_pos h1)
  have e2 := e0.trans (Go.Am.bif_t h1)
  refine AW.seq (AW.r1 hC [4] [] ⟨[(4, .bool false)], []⟩ ?_)
  exact AW.ret (AW.retE (β := Bool) (fun v => [⟨.bool, v⟩]) (fun v => []) (v := false) e2 (by kernel_rfl) rfl rfl)
 ·
  intro h3
  have h3q : ((List.length a : Nat) : Int) = ((List.length b : Nat) : Int) := (Go.Am.bne_neg h3)
  have e4 := e0.trans (Go.Am.bif_f h3)
  refine AW.kpU [0, 1] [] [] [] ?_
  refine AW.skip (AW.seq (AW.seq (AW.r1U hC [0, 1, 5] [] [(5, .int .i64 0)] [] ?_)))
  refine AW.cutQ (α := Unit) (fun x => ⟨[], []⟩) (fun x => (True) ∧ (eqDependencyS_l0 a b ((List.length a) - 0 + 1) 0) = (.inl ())) ?_ ?_
  ·
   skip
   refine AW.block (AW.loop (α := Nat) (fun x => ⟨[(0, .data (.slice (.named 0)) (a : List Dep)), (1, .data (.slice (.named 0)) (b : List Dep)), (5, .int .i64 ((x : Nat) : Int))], []⟩) (fun x => (True) ∧ ∃ k, (List.length a) - x < k ∧ (eqDependencyS_l0 a b ((List.length a) - 0 + 1) 0) = eqDependencyS_l0 a b k x) (fun x => (List.length a) - x) 0 (by kernel_rfl) ⟨?_, _, Nat.lt_succ_self _, rfl⟩ ?_)
   ·
    show True
    exact trivial
   ·
    intro i hR
    obtain ⟨hI0, k34, hk32, e33⟩ := hR
    replace hI0 : True := hI0
    replace hk32 : (List.length a) - i < k34 := hk32
    obtain ⟨k34q, rfl⟩ : ∃ k, k34 = k + 1 := ⟨k34 - 1, by omega⟩
    refine AW.seq (AW.seq (AW.r1U hC [0, 1, 5, 14] [] [(14, .bool (decide (((i : Nat) : Int) < ((List.length a : Nat) : Int))))] [] ?_))
    refine AW.cd (decide (((i : Nat) : Int) < ((List.length a : Nat) : Int))) ?_ ?_
    ·
     intro h35
     have h35q : ((i : Nat) : Int) < ((List.length a : Nat) : Int) := (of_decide_eq_true h35)
     have e36 := e33.trans (Go.Am.bif_t h35)
     refine AW.kpU [0, 1, 5] [] [] [] ?_
     refine AW.skip (AW.seq (AW.block (AW.seq (AW.d0U hC hM [0, 1, 5, 26] [] [(26, .bool (!(eqDependency (List.getD a i Dep.zero) (List.getD b i Dep.zero))))] [] [(0 ≤ ((i : Nat) : Int) ∧ ((i : Nat) : Int) < ((List.length a : Nat) : Int)), (0 ≤ ((i : Nat) : Int) ∧ ((i : Nat) : Int) < ((List.length b : Nat) : Int)), (True)] ?_ ?_))))
     ·
      refine ⟨?_, ?_, ?_, trivial⟩
      ·
       omega
      ·
       omega
      ·
       trivial
     refine AW.cd (!(eqDependency (List.getD a i Dep.zero) (List.getD b i Dep.zero))) ?_ ?_
     ·
      intro h37
      have h37q : (eqDependency (List.getD a i Dep.zero) (List.getD b i Dep.zero)) = false := (Go.Am.not_pos h37)
      have e38 := e36.trans (Go.Am.bif_t h37)
      refine AW.seq (AW.r1 hC [4] [] ⟨[(4, .bool false)], []⟩ ?_)
      refine AW.ret ?_
      have e39 := e4.trans (Go.Am.elim_r e38)
      exact AW.retE (β := Bool) (fun v => [⟨.bool, v⟩]) (fun v => []) (v := false) e39 (by kernel_rfl) rfl rfl
     ·
      intro h40
      have h40q : (eqDependency (List.getD a i Dep.zero) (List.getD b i Dep.zero)) = true := (Go.Am.not_neg h40)
      have e41 := e36.trans (Go.Am.bif_f h40)
      refine AW.kpU [0, 1, 5] [] [] [] ?_
      refine AW.skip (AW.r0U hC [0, 1, 5] [] [(5, .int .i64 ((i + 1 : Nat) : Int))] [] [(-9223372036854775808 ≤ ((i + 1 : Nat) : Int) ∧ ((i + 1 : Nat) : Int) ≤ 9223372036854775807)] ?_ ?_)
      ·
       refine ⟨?_, trivial⟩
       ·
        omega
      refine AW.back (x := i) (i + 1) (by kernel_rfl) ⟨?_, k34q, ?_, e41⟩ ?_
      ·
       show True
       assumption
      ·
       show (List.length a) - (i + 1) < k34q
       omega
      ·
       show (List.length a) - (i + 1) < (List.length a) - i
       omega
    ·
     intro h42
     have h42q : ¬ (((i : Nat) : Int) < ((List.length a : Nat) : Int)) := (of_decide_eq_false h42)
     have e43 := e33.trans (Go.Am.bif_f h42)
     refine AW.kp [] [] ⟨[], []⟩ ?_
     refine AW.exit ?_
     refine AW.meet () (by kernel_rfl) ⟨?_, e43⟩
     show True
     assumption
  ·
   intro x hR
   obtain ⟨hJ0, e44⟩ := hR
   replace hJ0 : True := hJ0
   have e45 := e4.trans (Go.Am.elim_l e44)
   refine AW.seq (AW.r1 hC [4] [] ⟨[(4, .bool true)], []⟩ ?_)
   exact AW.ret (AW.retE (β := Bool) (fun v => [⟨.bool, v⟩]) (fun v => []) (v := true) e45 (by kernel_rfl) rfl rfl)

def szDependencyS (a : List Dep) (left : Int) : Int := (bif (decide ((left - ((List.length a : Nat) : Int)) < 0)) then (-1) else (left - ((List.length a : Nat) : Int)))

def szDependencyS_sp : FnSpec := mkSpec [.val (.slice (.named 0)), .val (.int .i64)] [.val (.int .i64)] (fun (a : List Dep) (left : Int) => 0 ≤ left) (fun (a : List Dep) (left : Int) => [⟨(.int .i64), (szDependencyS a left)⟩])

theorem szDependencyS_ok : FnOK Try.prog 12 szDependencyS_sp := by
 have hC : CtxOK Try.prog (mkCtx tyL []) := CtxOK.nil tyOK
 refine FnOK.of_body Try.func12 (by kernel_rfl) rfl (C := (mkCtx tyL [])) hC.ty (by kernel_rfl) ?_
 intro (a : List Dep) (left : Int) hwf hpre E
 have hpre : 0 ≤ left := hpre
 have hw_a : Wf ⟨(.slice (.named 0)), (a : List Dep)⟩ := hwf _ (List.Mem.head _)
 have hl_a : ((List.length a : Nat) : Int) ≤ 9223372036854775807 := hw_a.len
 have hw_left : Wf ⟨(.int .i64), (left : Int)⟩ := hwf _ (List.Mem.tail _ (List.Mem.head _))
 have hr_left : -9223372036854775808 ≤ left ∧ left ≤ 9223372036854775807 := hw_left.int_inv
 have e0 : szDependencyS a left = szDependencyS a left := rfl
 refine AW.seq (AW.r1U hC [0, 1] [] [] [] ?_)
 refine AW.seq (AW.r0 hC [1] [] ⟨[(1, .int .i64 (left - ((List.length a : Nat) : Int)))], []⟩ [(-9223372036854775808 ≤ (left - ((List.length a : Nat) : Int)) ∧ (left - ((List.length a : Nat) : Int)) ≤ 9223372036854775807)] ?_ ?_)
 ·
  refine ⟨?_, trivial⟩
  ·
   omega
 refine AW.seq (AW.seq (AW.r1U hC [1, 10] [] [(10, .bool (decide ((left - ((List.length a : Nat) : Int)) < 0)))] [] ?_))
 refine AW.cd (decide ((left - ((List.length a : Nat) : Int)) < 0)) ?_ ?_
 ·
  intro h1
  have h1q : (left - ((List.length a : Nat) : Int)) < 0 := (of_decide_eq_true h1)
  have e2 := e0.trans (Go.Am.bif_t h1)
  refine AW.seq (AW.r1 hC [4] [] ⟨[(4, .int .i64 (-1))], []⟩ ?_)
  exact AW.ret (AW.retE (β := Int) (fun v => [⟨(.int .i64), v⟩]) (fun v => []) (v := (-1)) e2 (by kernel_rfl) rfl rfl)
 ·
  intro h3
  have h3q : ¬ ((left - ((List.length a : Nat) : Int)) < 0) := (of_decide_eq_false h3)
  have e4 := e0.trans (Go.Am.bif_f h3)
  refine AW.kpU [1] [] [] [] ?_
  refine AW.skip (AW.seq (AW.r1 hC [4] [] ⟨[(4, .int .i64 (left - ((List.length a : Nat) : Int)))], []⟩ ?_))
  exact AW.ret (AW.retE (β := Int) (fun v => [⟨(.int .i64), v⟩]) (fun v => []) (v := (left - ((List.length a : Nat) : Int))) e4 (by kernel_rfl) rfl rfl)

def toDependencyS_l0 (a : List Dep) : Nat → Nat → (List Dep) → (List Dep)
 | 0, i, out => out
 | k + 1, i, out => (bif (decide (((i : Nat) : Int) < ((List.length a : Nat) : Int))) then (toDependencyS_l0 a k (i + 1) (List.set out i (toDependency (List.getD a i Dep.zero)))) else out)

def toDependencyS (a : List Dep) : (List Dep) := (Go.Am.andThen (toDependencyS_l0 a ((List.length a) - 0 + 1) 0 (List.replicate (List.length a) Dep.zero : List Dep)) (fun z => (fun (out : List Dep) => out) z))

def toDependencyS_sp : FnSpec := mkSpec [.val (.slice (.named 0))] [.own (.named 0)] (fun (a : List Dep) => (List.length a : Int) ≤ 1048576) (fun (a : List Dep) => [⟨(.slice (.named 0)), (toDependencyS a)⟩])

theorem toDependencyS_ok : FnOK Try.prog 14 toDependencyS_sp := by
 have hC : CtxOK Try.prog (mkCtx tyL [(39, toDependency_sp)]) := CtxOK.cons toDependency_ok (CtxOK.nil tyOK)
 refine FnOK.of_body Try.func14 (by kernel_rfl) rfl (C := (mkCtx tyL [(39, toDependency_sp)])) hC.ty (by kernel_rfl) ?_
 intro (a : List Dep) hwf hpre E
 have hpre : (List.length a : Int) ≤ 1048576 := hpre
 have hw_a : Wf ⟨(.slice (.named 0)), (a : List Dep)⟩ := hwf _ (List.Mem.head _)
 have hl_a : ((List.length a : Nat) : Int) ≤ 9223372036854775807 := hw_a.len
 have e0 : toDependencyS a = toDependencyS a := rfl
 refine AW.seq (AW.r1U hC [0] [] [] [] ?_)
 refine AW.seq (AW.r0U hC [0, 3] [28] [(3, .arr 28 1)] [(28, .arr 1 (.named 0) ((List.replicate (List.length a) Dep.zero : List Dep) : List Dep))] [(0 ≤ ((List.length a : Nat) : Int) ∧ ((List.length a : Nat) : Int) ≤ ((List.length a : Nat) : Int) ∧ ((List.length a : Nat) : Int) ≤ 4294967296)] ?_ ?_)
 ·
  refine ⟨?_, trivial⟩
  ·
   omega
 refine AW.seq (AW.seq (AW.r1U hC [0, 3, 4] [28] [(4, .int .i64 0)] [] ?_))
 refine AW.cutQ (α := (List Dep)) (fun x => ⟨[(3, .arr 28 1)], [(28, .arr 1 (.named 0) (x : List Dep))]⟩) (fun x => (x.length = (List.length a)) ∧ (toDependencyS_l0 a ((List.length a) - 0 + 1) 0 (List.replicate (List.length a) Dep.zero : List Dep)) = x) ?_ ?_
 ·
  skip
  refine AW.block (AW.loop (α := Nat × (List Dep)) (fun x => ⟨[(0, .data (.slice (.named 0)) (a : List Dep)), (3, .arr 28 1), (4, .int .i64 ((x.1 : Nat) : Int))], [(28, .arr 1 (.named 0) (x.2 : List Dep))]⟩) (fun x => (x.2.length = (List.length a)) ∧ ∃ k, (List.length a) - x.1 < k ∧ (toDependencyS_l0 a ((List.length a) - 0 + 1) 0 (List.replicate (List.length a) Dep.zero : List Dep)) = toDependencyS_l0 a k x.1 x.2) (fun x => (List.length a) - x.1) (0, (List.replicate (List.length a) Dep.zero : List Dep)) (by kernel_rfl) ⟨?_, _, Nat.lt_succ_self _, rfl⟩ ?_)
  ·
   show (List.replicate (List.length a) Dep.zero : List Dep).length = (List.length a)
   simp
  ·
   intro x hR
   obtain ⟨i, out⟩ := x
   obtain ⟨hI0, k15, hk13, e14⟩ := hR
   replace hI0 : out.length = (List.length a) := hI0
   replace hk13 : (List.length a) - i < k15 := hk13
   obtain ⟨k15q, rfl⟩ : ∃ k, k15 = k + 1 := ⟨k15 - 1, by omega⟩
   refine AW.seq (AW.seq (AW.r1U hC [0, 3, 4, 11] [28] [(11, .bool (decide (((i : Nat) : Int) < ((List.length a : Nat) : Int))))] [] ?_))
   refine AW.cd (decide (((i : Nat) : Int) < ((List.length a : Nat) : Int))) ?_ ?_
   ·
    intro h16
    have h16q : ((i : Nat) : Int) < ((List.length a : Nat) : Int) := (of_decide_eq_true h16)
    have e17 := e14.trans (Go.Am.bif_t h16)
    refine AW.kpU [0, 3, 4] [28] [] [] ?_
    refine AW.skip (AW.seq (AW.block (AW.r0U hC [0, 3, 4] [28] [] [(28, .arr 1 (.named 0) ((List.set out i (toDependency (List.getD a i Dep.zero))) : List Dep))] [(0 ≤ ((i : Nat) : Int) ∧ ((i : Nat) : Int) < ((List.length a : Nat) : Int)), (True), (0 ≤ ((i : Nat) : Int) ∧ ((i : Nat) : Int) < ((List.length out : Nat) : Int))] ?_ ?_)))
    ·
     refine ⟨?_, ?_, ?_, trivial⟩
     ·
      omega
     ·
      trivial
     ·
      omega
    refine AW.r0U hC [0, 3, 4] [28] [(4, .int .i64 ((i + 1 : Nat) : Int))] [] [(-9223372036854775808 ≤ ((i + 1 : Nat) : Int) ∧ ((i + 1 : Nat) : Int) ≤ 9223372036854775807)] ?_ ?_
    ·
     refine ⟨?_, trivial⟩
     ·
      omega
    refine AW.back (x := (i, out)) (i + 1, (List.set out i (toDependency (List.getD a i Dep.zero)))) (by kernel_rfl) ⟨?_, k15q, ?_, e17⟩ ?_
    ·
     show (List.set out i (toDependency (List.getD a i Dep.zero))).length = (List.length a)
     simp only [lens] at *; omega
    ·
     show (List.length a) - (i + 1) < k15q
     omega
    ·
     show (List.length a) - (i + 1) < (List.length a) - i
     omega
   ·
    intro h18
    have h18q : ¬ (((i : Nat) : Int) < ((List.length a : Nat) : Int)) := (of_decide_eq_false h18)
    have e19 := e14.trans (Go.Am.bif_f h18)
    refine AW.kpU [3] [28] [] [] ?_
    refine AW.exit ?_
    refine AW.meet out (by kernel_rfl) ⟨?_, e19⟩
    show out.length = (List.length a)
    assumption
 ·
  intro out hR
  obtain ⟨hJ0, e20⟩ := hR
  replace hJ0 : out.length = (List.length a) := hJ0
  have e21 := e0.trans (Go.Am.then_eq e20)
  refine AW.seq (AW.r1U hC [2] [28] [(2, .arr 28 1)] [] ?_)
  exact AW.ret (AW.retE (β := (List Dep)) (fun v => [⟨(.slice (.named 0)), v⟩]) (fun v => []) (v := out) e21 (by kernel_rfl) rfl rfl)

theorem contains_iff {s p : Int} (h1 : -9223372036854775808 ≤ p) (h2 : p ≤ 9223372036854775807) : contains s p = true ↔ bits .and .i64 p s = p := by
 rw [← andNot_zero h1 h2]
 simp [contains]

def derived_l1 (fds : List Dep) : Nat → Int → Bool → Nat → (List Int) → Int × Bool × (List Int)
 | 0, set_1, changed1, v12, steps1 => (set_1, changed1, steps1)
 | k + 1, set_1, changed1, v12, steps1 => (bif (decide (((v12 : Nat) : Int) < ((List.length fds : Nat) : Int))) then (bif (bif (contains set_1 (Dep.From (List.getD fds v12 Dep.zero))) then (!(contains set_1 (Dep.To (List.getD fds v12 Dep.zero)))) else false) then (derived_l1 fds k (bits .or .i64 set_1 (Dep.To (List.getD fds v12 Dep.zero))) true (v12 + 1) (steps1 ++ ([((v12 : Nat) : Int)] : List Int))) else (derived_l1 fds k set_1 changed1 (v12 + 1) steps1)) else (set_1, changed1, steps1))

def derived_l0 (fds : List Dep) : Nat → Int → Bool → (List Int) → Int × (List Int)
 | 0, set_, changed, steps => (set_, steps)
 | k + 1, set_, changed, steps => (bif changed then (Go.Am.andThen (derived_l1 fds ((List.length fds) - 0 + 1) set_ false 0 steps) (fun z => (fun (set_1 : Int) (changed1 : Bool) (steps1 : List Int) => (derived_l0 fds k set_1 changed1 steps1)) z.1 z.2.1 z.2.2)) else (set_, steps))

def derived (fds : List Dep) (s : Int) : (List Int) × Int := (Go.Am.andThen (derived_l0 fds (2 * Int.toNat (64 - s) + (bif true then 1 else 0) + 1) s true ([] : List Int)) (fun z => (fun (set_ : Int) (steps : List Int) => (steps, set_)) z.1 z.2))

def derived_sp : FnSpec := mkSpec [.val (.slice (.named 0)), .val (.int .i64)] [.val (.slice (.int .i64)), .val (.int .i64)] (fun (fds : List Dep) (s : Int) => (0 ≤ s ∧ s < 64) ∧ ∀ f ∈ fds, (0 ≤ f.From ∧ f.From < 64) ∧ (0 ≤ f.To ∧ f.To < 64)) (fun (fds : List Dep) (s : Int) => [⟨(.slice (.int .i64)), ((derived fds s).1)⟩, ⟨(.int .i64), ((derived fds s).2)⟩])

theorem derived_ok : FnOK Try.prog 57 derived_sp := by
 have hC : CtxOK Try.prog (mkCtx tyL [(46, contains_sp)]) := CtxOK.cons contains_ok (CtxOK.nil tyOK)
 refine FnOK.of_body Try.func57 (by kernel_rfl) rfl (C := (mkCtx tyL [(46, contains_sp)])) hC.ty (by kernel_rfl) ?_
 intro (fds : List Dep) (s : Int) hwf hpre E
 have hpre : (0 ≤ s ∧ s < 64) ∧ ∀ f ∈ fds, (0 ≤ f.From ∧ f.From < 64) ∧ (0 ≤ f.To ∧ f.To < 64) := hpre
 have hw_fds : Wf ⟨(.slice (.named 0)), (fds : List Dep)⟩ := hwf _ (List.Mem.head _)
 have hl_fds : ((List.length fds : Nat) : Int) ≤ 9223372036854775807 := hw_fds.len
 have hw_s : Wf ⟨(.int .i64), (s : Int)⟩ := hwf _ (List.Mem.tail _ (List.Mem.head _))
 have hr_s : -9223372036854775808 ≤ s ∧ s ≤ 9223372036854775807 := hw_s.int_inv
 have e0 : derived fds s = derived fds s := rfl
 refine AW.seq (AW.r1U hC [0, 1, 4] [] [(4, .nilsl)] [] ?_)
 refine AW.seq (AW.seq (AW.r1U hC [0, 1, 4, 6] [] [(6, .bool true)] [] ?_))
 refine AW.adopt 4 140 (.int .i64) (by kernel_rfl) (by kernel_rfl) ?_
 refine AW.kp [0, 1, 4, 6] [140] ⟨[(0, .data (.slice (.named 0)) (fds : List Dep)), (1, .int .i64 s), (4, .arr 140 1), (6, .bool true)], [(140, .arr 1 (.int .i64) (([] : List Int) : List Int))]⟩ ?_
 refine AW.cutQ (α := Int × (List Int)) (fun x => ⟨[(1, .int .i64 x.1), (4, .arr 140 1)], [(140, .arr 1 (.int .i64) (x.2 : List Int))]⟩) (fun x => ((0 ≤ x.1 ∧ x.1 < 64) ∧ (List.length x.2 : Int) ≤ x.1) ∧ (derived_l0 fds (2 * Int.toNat (64 - s) + (bif true then 1 else 0) + 1) s true ([] : List Int)) = x) ?_ ?_
 ·
  skip
  refine AW.block (AW.loop (α := Int × Bool × (List Int)) (fun x => ⟨[(0, .data (.slice (.named 0)) (fds : List Dep)), (1, .int .i64 x.1), (4, .arr 140 1), (6, .bool x.2.1)], [(140, .arr 1 (.int .i64) (x.2.2 : List Int))]⟩) (fun x => ((0 ≤ x.1 ∧ x.1 < 64) ∧ (List.length x.2.2 : Int) ≤ x.1) ∧ ∃ k, 2 * Int.toNat (64 - x.1) + (bif x.2.1 then 1 else 0) < k ∧ (derived_l0 fds (2 * Int.toNat (64 - s) + (bif true then 1 else 0) + 1) s true ([] : List Int)) = derived_l0 fds k x.1 x.2.1 x.2.2) (fun x => 2 * Int.toNat (64 - x.1) + (bif x.2.1 then 1 else 0)) (s, true, ([] : List Int)) (by kernel_rfl) ⟨?_, _, Nat.lt_succ_self _, rfl⟩ ?_)
  ·
   show (0 ≤ s ∧ s < 64) ∧ (List.length ([] : List Int) : Int) ≤ s
   exact ⟨hpre.1, by simp; omega⟩
  ·
   intro x hR
   obtain ⟨set_, changed, steps⟩ := x
   obtain ⟨hI0, k115, hk113, e114⟩ := hR
   replace hI0 : (0 ≤ set_ ∧ set_ < 64) ∧ (List.length steps : Int) ≤ set_ := hI0
   replace hk113 : 2 * Int.toNat (64 - set_) + (bif changed then 1 else 0) < k115 := hk113
   obtain ⟨k115q, rfl⟩ : ∃ k, k115 = k + 1 := ⟨k115 - 1, by omega⟩
   refine AW.seq (AW.seq (AW.r1U hC [0, 1, 4, 9] [140] [(9, .bool changed)] [] ?_))
   refine AW.cd changed ?_ ?_
   ·
    intro h116
    have h116q : changed = true := h116
    have e117 := e114.trans (Go.Am.bif_t h116)
    refine AW.kpU [0, 1, 4] [140] [] [] ?_
    refine AW.skip (AW.block (AW.seq (AW.r1U hC [0, 1, 4, 6] [140] [(6, .bool false)] [] ?_)))
    refine AW.seq (AW.r1U hC [0, 1, 4, 6, 10, 11, 12] [140] [(10, .data (.slice (.named 0)) (fds : List Dep)), (11, .int .i64 ((List.length fds : Nat) : Int)), (12, .int .i64 0)] [] ?_)
    refine AW.cutQ (α := Int × Bool × (List Int)) (fun x => ⟨[(0, .data (.slice (.named 0)) (fds : List Dep)), (1, .int .i64 x.1), (4, .arr 140 1), (6, .bool x.2.1)], [(140, .arr 1 (.int .i64) (x.2.2 : List Int))]⟩) (fun x => ((0 ≤ x.1 ∧ x.1 < 64) ∧ (List.length x.2.2 : Int) ≤ x.1 ∧ set_ ≤ x.1 ∧ (x.2.1 = true → set_ < x.1)) ∧ (derived_l1 fds ((List.length fds) - 0 + 1) set_ false 0 steps) = x) ?_ ?_
    ·
     skip
     refine AW.block (AW.loop (α := Int × Bool × Nat × (List Int)) (fun x => ⟨[(0, .data (.slice (.named 0)) (fds : List Dep)), (1, .int .i64 x.1), (4, .arr 140 1), (6, .bool x.2.1), (10, .data (.slice (.named 0)) (fds : List Dep)), (11, .int .i64 ((List.length fds : Nat) : Int)), (12, .int .i64 ((x.2.2.1 : Nat) : Int))], [(140, .arr 1 (.int .i64) (x.2.2.2 : List Int))]⟩) (fun x => ((0 ≤ x.1 ∧ x.1 < 64) ∧ (List.length x.2.2.2 : Int) ≤ x.1 ∧ set_ ≤ x.1 ∧ (x.2.1 = true → set_ < x.1)) ∧ ∃ k, (List.length fds) - x.2.2.1 < k ∧ (derived_l1 fds ((List.length fds) - 0 + 1) set_ false 0 steps) = derived_l1 fds k x.1 x.2.1 x.2.2.1 x.2.2.2) (fun x => (List.length fds) - x.2.2.1) (set_, false, 0, steps) (by kernel_rfl) ⟨?_, _, Nat.lt_succ_self _, rfl⟩ ?_)
     ·
      show (0 ≤ set_ ∧ set_ < 64) ∧ (List.length steps : Int) ≤ set_ ∧ set_ ≤ set_ ∧ (false = true → set_ < set_)
      exact ⟨hI0.1, hI0.2, by omega, by simp⟩
     ·
      intro x hR
      obtain ⟨set_1, changed1, v12, steps1⟩ := x
      obtain ⟨hI1, k120, hk118, e119⟩ := hR
      replace hI1 : (0 ≤ set_1 ∧ set_1 < 64) ∧ (List.length steps1 : Int) ≤ set_1 ∧ set_ ≤ set_1 ∧ (changed1 = true → set_ < set_1) := hI1
      replace hk118 : (List.length fds) - v12 < k120 := hk118
      obtain ⟨k120q, rfl⟩ : ∃ k, k120 = k + 1 := ⟨k120 - 1, by omega⟩
      have hf := fun (h : v12 < fds.length) => hpre.2 _ (getD_mem fds v12 Dep.zero h)
      refine AW.seq (AW.r1U hC [0, 1, 4, 6, 10, 11, 12, 13] [140] [(13, .bool (decide (((v12 : Nat) : Int) < ((List.length fds : Nat) : Int))))] [] ?_)
      refine AW.seq (AW.cd (decide (((v12 : Nat) : Int) < ((List.length fds : Nat) : Int))) ?_ ?_)
      ·
       intro h121
       have h121q : ((v12 : Nat) : Int) < ((List.length fds : Nat) : Int) := (of_decide_eq_true h121)
       have e122 := e119.trans (Go.Am.bif_t h121)
       refine AW.kpU [0, 1, 4, 6, 10, 11, 12] [140] [] [] ?_
       refine AW.skip (AW.seq (AW.block (AW.seq (AW.r0U hC [0, 1, 4, 6, 7, 8, 10, 11, 12] [32, 140] [(7, .int .i64 ((v12 : Nat) : Int)), (8, .ref 32 1 0)] [(32, .box 1 [.int .i64 (Dep.From (List.getD fds v12 Dep.zero)), .int .i64 (Dep.To (List.getD fds v12 Dep.zero))])] [(0 ≤ ((v12 : Nat) : Int) ∧ ((v12 : Nat) : Int) < ((List.length fds : Nat) : Int))] ?_ ?_))))
       ·
        refine ⟨?_, trivial⟩
        ·
         omega
       refine AW.seq (AW.r0U hC [0, 1, 4, 6, 7, 8, 10, 11, 12, 27] [32, 140] [(27, .bool (bif (contains set_1 (Dep.From (List.getD fds v12 Dep.zero))) then (!(contains set_1 (Dep.To (List.getD fds v12 Dep.zero)))) else false))] [] [(True), (((contains set_1 (Dep.From (List.getD fds v12 Dep.zero))) = true) → (((contains set_1 (Dep.From (List.getD fds v12 Dep.zero))) = true))), (((contains set_1 (Dep.From (List.getD fds v12 Dep.zero))) = true) → (((contains set_1 (Dep.From (List.getD fds v12 Dep.zero))) = true))), (((contains set_1 (Dep.From (List.getD fds v12 Dep.zero))) = true) → (((contains set_1 (Dep.From (List.getD fds v12 Dep.zero))) = true))), (((contains set_1 (Dep.From (List.getD fds v12 Dep.zero))) = true) → (True)), (((contains set_1 (Dep.From (List.getD fds v12 Dep.zero))) = true) → (((contains set_1 (Dep.From (List.getD fds v12 Dep.zero))) = true))), (((contains set_1 (Dep.From (List.getD fds v12 Dep.zero))) = true) → (((contains set_1 (Dep.From (List.getD fds v12 Dep.zero))) = true)))] ?_ ?_)
       ·
        refine ⟨?_, ?_, ?_, ?_, ?_, ?_, ?_, trivial⟩
        ·
         trivial
        ·
         intro g123
         have g123p0 : (contains set_1 (Dep.From (List.getD fds v12 Dep.zero))) = true := g123
         assumption
        ·
         intro g124
         have g124p0 : (contains set_1 (Dep.From (List.getD fds v12 Dep.zero))) = true := g124
         assumption
        ·
         intro g125
         have g125p0 : (contains set_1 (Dep.From (List.getD fds v12 Dep.zero))) = true := g125
         assumption
        ·
         intro g126
         have g126p0 : (contains set_1 (Dep.From (List.getD fds v12 Dep.zero))) = true := g126
         trivial
        ·
         intro g127
         have g127p0 : (contains set_1 (Dep.From (List.getD fds v12 Dep.zero))) = true := g127
         assumption
        ·
         intro g128
         have g128p0 : (contains set_1 (Dep.From (List.getD fds v12 Dep.zero))) = true := g128
         assumption
       refine AW.cd (bif (contains set_1 (Dep.From (List.getD fds v12 Dep.zero))) then (!(contains set_1 (Dep.To (List.getD fds v12 Dep.zero)))) else false) ?_ ?_
       ·
        intro h129
        have h129q : ((contains set_1 (Dep.From (List.getD fds v12 Dep.zero))) = true) ∧ ((contains set_1 (Dep.To (List.getD fds v12 Dep.zero))) = false) := (And.imp (fun h => h) (fun h => (Go.Am.not_pos h)) (Go.Am.and_pos h129))
        have e130 := e122.trans (Go.Am.bif_t h129)
        refine AW.seq (AW.r1U hC [0, 1, 4, 7, 10, 11, 12] [140] [(1, .int .i64 (bits .or .i64 set_1 (Dep.To (List.getD fds v12 Dep.zero))))] [] ?_)
        refine AW.seq (AW.r0U hC [0, 1, 4, 10, 11, 12] [140] [] [(140, .arr 1 (.int .i64) ((steps1 ++ ([((v12 : Nat) : Int)] : List Int)) : List Int))] [(((List.length steps1 : Nat) : Int) + ((List.length ([((v12 : Nat) : Int)] : List Int) : Nat) : Int) ≤ 4294967296)] ?_ ?_)
        ·
         refine ⟨?_, trivial⟩
         ·
          simp only [lens] at *; omega
        refine AW.r1U hC [0, 1, 4, 6, 10, 11, 12] [140] [(6, .bool true)] [] ?_
        refine AW.r0U hC [0, 1, 4, 6, 10, 11, 12] [140] [(12, .int .i64 ((v12 + 1 : Nat) : Int))] [] [(-9223372036854775808 ≤ ((v12 + 1 : Nat) : Int) ∧ ((v12 + 1 : Nat) : Int) ≤ 9223372036854775807)] ?_ ?_
        ·
         refine ⟨?_, trivial⟩
         ·
          omega
        refine AW.back (x := (set_1, changed1, v12, steps1)) ((bits .or .i64 set_1 (Dep.To (List.getD fds v12 Dep.zero))), true, v12 + 1, (steps1 ++ ([((v12 : Nat) : Int)] : List Int))) (by kernel_rfl) ⟨?_, k120q, ?_, e130⟩ ?_
        ·
         show (0 ≤ (bits .or .i64 set_1 (Dep.To (List.getD fds v12 Dep.zero))) ∧ (bits .or .i64 set_1 (Dep.To (List.getD fds v12 Dep.zero))) < 64) ∧ (List.length (steps1 ++ ([((v12 : Nat) : Int)] : List Int)) : Int) ≤ (bits .or .i64 set_1 (Dep.To (List.getD fds v12 Dep.zero))) ∧ set_ ≤ (bits .or .i64 set_1 (Dep.To (List.getD fds v12 Dep.zero))) ∧ (true = true → set_ < (bits .or .i64 set_1 (Dep.To (List.getD fds v12 Dep.zero))))
         have f := hf (by omega)
         have h1 := or64 hI1.1.1 hI1.1.2 f.2.1 f.2.2
         have h2 := or64More hI1.1.1 hI1.1.2 f.2.1 f.2.2 (fun e => by
          have := (contains_iff (by omega) (by omega)).2 e
          rw [h129q.2] at this
          cases this)
         exact ⟨⟨by omega, by omega⟩, by simp only [List.length_append, List.length_cons, List.length_nil]; omega, by omega, fun _ => by omega⟩
        ·
         show (List.length fds) - (v12 + 1) < k120q
         omega
        ·
         show (List.length fds) - (v12 + 1) < (List.length fds) - v12
         omega
       ·
        intro h131
        have h131q : ((contains set_1 (Dep.From (List.getD fds v12 Dep.zero))) = false) ∨ ((contains set_1 (Dep.To (List.getD fds v12 Dep.zero))) = true) := (Or.imp (fun h => h) (fun h => (Go.Am.not_neg h)) (Go.Am.and_neg h131))
        have e132 := e122.trans (Go.Am.bif_f h131)
        refine AW.kpU [0, 1, 4, 6, 10, 11, 12] [140] [] [] ?_
        refine AW.skip (AW.r0U hC [0, 1, 4, 6, 10, 11, 12] [140] [(12, .int .i64 ((v12 + 1 : Nat) : Int))] [] [(-9223372036854775808 ≤ ((v12 + 1 : Nat) : Int) ∧ ((v12 + 1 : Nat) : Int) ≤ 9223372036854775807)] ?_ ?_)
        ·
         refine ⟨?_, trivial⟩
         ·
          omega
        refine AW.back (x := (set_1, changed1, v12, steps1)) (set_1, changed1, v12 + 1, steps1) (by kernel_rfl) ⟨?_, k120q, ?_, e132⟩ ?_
        ·
         show (0 ≤ set_1 ∧ set_1 < 64) ∧ (List.length steps1 : Int) ≤ set_1 ∧ set_ ≤ set_1 ∧ (changed1 = true → set_ < set_1)
         assumption
        ·
         show (List.length fds) - (v12 + 1) < k120q
         omega
        ·
         show (List.length fds) - (v12 + 1) < (List.length fds) - v12
         omega
      ·
       intro h133
       have h133q : ¬ (((v12 : Nat) : Int) < ((List.length fds : Nat) : Int)) := (of_decide_eq_false h133)
       have e134 := e119.trans (Go.Am.bif_f h133)
       refine AW.kpU [0, 1, 4, 6] [140] [] [] ?_
       refine AW.exit ?_
       refine AW.meet (set_1, changed1, steps1) (by kernel_rfl) ⟨?_, e134⟩
       show (0 ≤ set_1 ∧ set_1 < 64) ∧ (List.length steps1 : Int) ≤ set_1 ∧ set_ ≤ set_1 ∧ (changed1 = true → set_ < set_1)
       assumption
    ·
     intro x hR
     obtain ⟨set_1, changed1, steps1⟩ := x
     obtain ⟨hJ1, e135⟩ := hR
     replace hJ1 : (0 ≤ set_1 ∧ set_1 < 64) ∧ (List.length steps1 : Int) ≤ set_1 ∧ set_ ≤ set_1 ∧ (changed1 = true → set_ < set_1) := hJ1
     have e136 := e117.trans (Go.Am.then_eq e135)
     refine AW.back (x := (set_, changed, steps)) (set_1, changed1, steps1) (by kernel_rfl) ⟨?_, k115q, ?_, e136⟩ ?_
     ·
      show (0 ≤ set_1 ∧ set_1 < 64) ∧ (List.length steps1 : Int) ≤ set_1
      exact ⟨hJ1.1, hJ1.2.1⟩
     ·
      show 2 * Int.toNat (64 - set_1) + (bif changed1 then 1 else 0) < k115q
      have := hJ1.2.2
      subst h116q
      cases changed1 <;> simp only [cond_true, cond_false] at * <;> simp at this <;> omega
     ·
      show 2 * Int.toNat (64 - set_1) + (bif changed1 then 1 else 0) < 2 * Int.toNat (64 - set_) + (bif changed then 1 else 0)
      have := hJ1.2.2
      subst h116q
      cases changed1 <;> simp only [cond_true, cond_false] at * <;> simp at this <;> omega
   ·
    intro h137
    have h137q : changed = false := h137
    have e138 := e114.trans (Go.Am.bif_f h137)
    refine AW.kpU [1, 4] [140] [] [] ?_
    refine AW.exit ?_
    refine AW.meet (set_, steps) (by kernel_rfl) ⟨?_, e138⟩
    show (0 ≤ set_ ∧ set_ < 64) ∧ (List.length steps : Int) ≤ set_
    assumption
 ·
  intro x hR
  obtain ⟨set_, steps⟩ := x
  obtain ⟨hJ0, e139⟩ := hR
  replace hJ0 : (0 ≤ set_ ∧ set_ < 64) ∧ (List.length steps : Int) ≤ set_ := hJ0
  have e140 := e0.trans (Go.Am.then_eq e139)
  refine AW.seq (AW.r1U hC [4, 5] [140] [(5, .int .i64 set_)] [] ?_)
  exact AW.ret (AW.retE (β := (List Int) × Int) (fun v => [⟨(.slice (.int .i64)), v.1⟩, ⟨(.int .i64), v.2⟩]) (fun v => []) (v := (steps, set_)) e140 (by kernel_rfl) rfl rfl)

def closure (fds : List Dep) (s : Int) : Int := ((derived fds s).2)

def closure_sp : FnSpec := mkSpec [.val (.slice (.named 0)), .val (.int .i64)] [.val (.int .i64)] (fun (fds : List Dep) (s : Int) => (0 ≤ s ∧ s < 64) ∧ ∀ f ∈ fds, (0 ≤ f.From ∧ f.From < 64) ∧ (0 ≤ f.To ∧ f.To < 64)) (fun (fds : List Dep) (s : Int) => [⟨(.int .i64), (closure fds s)⟩])

theorem closure_ok : FnOK Try.prog 41 closure_sp := by
 have hC : CtxOK Try.prog (mkCtx tyL [(57, derived_sp)]) := CtxOK.cons derived_ok (CtxOK.nil tyOK)
 refine FnOK.of_body Try.func41 (by kernel_rfl) rfl (C := (mkCtx tyL [(57, derived_sp)])) hC.ty (by kernel_rfl) ?_
 intro (fds : List Dep) (s : Int) hwf hpre E
 have hpre : (0 ≤ s ∧ s < 64) ∧ ∀ f ∈ fds, (0 ≤ f.From ∧ f.From < 64) ∧ (0 ≤ f.To ∧ f.To < 64) := hpre
 have hw_fds : Wf ⟨(.slice (.named 0)), (fds : List Dep)⟩ := hwf _ (List.Mem.head _)
 have hl_fds : ((List.length fds : Nat) : Int) ≤ 9223372036854775807 := hw_fds.len
 have hw_s : Wf ⟨(.int .i64), (s : Int)⟩ := hwf _ (List.Mem.tail _ (List.Mem.head _))
 have hr_s : -9223372036854775808 ≤ s ∧ s ≤ 9223372036854775807 := hw_s.int_inv
 have e0 : closure fds s = closure fds s := rfl
 refine AW.seq (AW.r1U hC [0, 1] [] [] [] ?_)
 refine AW.seq (AW.r0 hC [6] [] ⟨[(6, .int .i64 ((derived fds s).2))], []⟩ [((0 ≤ s ∧ s < 64) ∧ ∀ f ∈ fds, (0 ≤ f.From ∧ f.From < 64) ∧ (0 ≤ f.To ∧ f.To < 64))] ?_ ?_)
 ·
  refine ⟨?_, trivial⟩
  ·
   exact hpre
 refine AW.seq (AW.r1 hC [4] [] ⟨[(4, .int .i64 ((derived fds s).2))], []⟩ ?_)
 exact AW.ret (AW.retE (β := Int) (fun v => [⟨(.int .i64), v⟩]) (fun v => []) (v := ((derived fds s).2)) e0 (by kernel_rfl) rfl rfl)

theorem pow64 {w : Int} (h : w ≤ 6) (h0 : 0 ≤ w) : (1 : Int) ≤ 2 ^ w.toNat ∧ (2 : Int) ^ w.toNat ≤ 64 := by
 obtain ⟨n, rfl⟩ := Int.eq_ofNat_of_zero_le h0
 simp only [Int.toNat_natCast]
 have : n ≤ 6 := by omega
 match n, this with
 | 0, _ | 1, _ | 2, _ | 3, _ | 4, _ | 5, _ | 6, _ => decide

def ivalidSet (s : Int) (width : Int) : Bool := (bif (decide (0 ≤ s)) then (decide (s < ((1 : Int) * 2 ^ (Int.toNat width)))) else false)

def ivalidSet_sp : FnSpec := mkSpec [.val (.int .i64), .val (.int .i64)] [.val .bool] (fun (s : Int) (width : Int) => 1 ≤ width ∧ width ≤ 6) (fun (s : Int) (width : Int) => [⟨.bool, (ivalidSet s width)⟩])

theorem ivalidSet_ok : FnOK Try.prog 40 ivalidSet_sp := by
 have hC : CtxOK Try.prog (mkCtx tyL []) := CtxOK.nil tyOK
 refine FnOK.of_body Try.func40 (by kernel_rfl) rfl (C := (mkCtx tyL [])) hC.ty (by kernel_rfl) ?_
 intro (s : Int) (width : Int) hwf hpre E
 have hpre : 1 ≤ width ∧ width ≤ 6 := hpre
 have hw_s : Wf ⟨(.int .i64), (s : Int)⟩ := hwf _ (List.Mem.head _)
 have hr_s : -9223372036854775808 ≤ s ∧ s ≤ 9223372036854775807 := hw_s.int_inv
 have hw_width : Wf ⟨(.int .i64), (width : Int)⟩ := hwf _ (List.Mem.tail _ (List.Mem.head _))
 have hr_width : -9223372036854775808 ≤ width ∧ width ≤ 9223372036854775807 := hw_width.int_inv
 have e0 : ivalidSet s width = ivalidSet s width := rfl
 refine AW.seq (AW.r1U hC [0, 1] [] [] [] ?_)
 refine AW.seq (AW.r0 hC [4] [] ⟨[(4, .bool (bif (decide (0 ≤ s)) then (decide (s < ((1 : Int) * 2 ^ (Int.toNat width)))) else false))], []⟩ [(((decide (0 ≤ s)) = true) → (((decide (0 ≤ s)) = true))), (((decide (0 ≤ s)) = true) → (0 ≤ width ∧ width ≤ 64)), (((decide (0 ≤ s)) = true) → (-9223372036854775808 ≤ ((1 : Int) * 2 ^ (Int.toNat width)) ∧ ((1 : Int) * 2 ^ (Int.toNat width)) ≤ 9223372036854775807)), (((decide (0 ≤ s)) = true) → (((decide (0 ≤ s)) = true))), (((decide (0 ≤ s)) = true) → (((decide (0 ≤ s)) = true))), (((decide (0 ≤ s)) = true) → (((decide (0 ≤ s)) = true)))] ?_ ?_)
 ·
  refine ⟨?_, ?_, ?_, ?_, ?_, ?_, trivial⟩
  ·
   intro g1
   have g1p0 : 0 ≤ s := (of_decide_eq_true g1)
   assumption
  ·
   intro g2
   have g2p0 : 0 ≤ s := (of_decide_eq_true g2)
   omega
  ·
   intro g3
   have g3p0 : 0 ≤ s := (of_decide_eq_true g3)
   have := pow64 (w := width) (by omega) (by omega); omega
  ·
   intro g4
   have g4p0 : 0 ≤ s := (of_decide_eq_true g4)
   assumption
  ·
   intro g5
   have g5p0 : 0 ≤ s := (of_decide_eq_true g5)
   assumption
  ·
   intro g6
   have g6p0 : 0 ≤ s := (of_decide_eq_true g6)
   assumption
 exact AW.ret (AW.retE (β := Bool) (fun v => [⟨.bool, v⟩]) (fun v => []) (v := (bif (decide (0 ≤ s)) then (decide (s < ((1 : Int) * 2 ^ (Int.toNat width)))) else false)) e0 (by kernel_rfl) rfl rfl)

def depValid (f : Dep) (width : Int) : Bool := (bif (ivalidSet (Dep.From f) width) then (ivalidSet (Dep.To f) width) else false)

def depValid_sp : FnSpec := mkSpec [.val (.named 0), .val (.int .i64)] [.val .bool] (fun (f : Dep) (width : Int) => 1 ≤ width ∧ width ≤ 6) (fun (f : Dep) (width : Int) => [⟨.bool, (depValid f width)⟩])

theorem depValid_ok : FnOK Try.prog 45 depValid_sp := by
 have hC : CtxOK Try.prog (mkCtx tyL [(40, ivalidSet_sp)]) := CtxOK.cons ivalidSet_ok (CtxOK.nil tyOK)
 refine FnOK.of_body Try.func45 (by kernel_rfl) rfl (C := (mkCtx tyL [(40, ivalidSet_sp)])) hC.ty (by kernel_rfl) ?_
 intro (f : Dep) (width : Int) hwf hpre E
 have hpre : 1 ≤ width ∧ width ≤ 6 := hpre
 have hw_f : Wf ⟨(.named 0), (f : Dep)⟩ := hwf _ (List.Mem.head _)
 have hr_f_From : -9223372036854775808 ≤ Dep.From f ∧ Dep.From f ≤ 9223372036854775807 := (hw_f.field (tv := ⟨(.int .i64), Dep.From f⟩) (List.Mem.head _)).int_inv
 have hr_f_To : -9223372036854775808 ≤ Dep.To f ∧ Dep.To f ≤ 9223372036854775807 := (hw_f.field (tv := ⟨(.int .i64), Dep.To f⟩) (List.Mem.tail _ (List.Mem.head _))).int_inv
 have hw_width : Wf ⟨(.int .i64), (width : Int)⟩ := hwf _ (List.Mem.tail _ (List.Mem.head _))
 have hr_width : -9223372036854775808 ≤ width ∧ width ≤ 9223372036854775807 := hw_width.int_inv
 have e0 : depValid f width = depValid f width := rfl
 refine AW.seq (AW.r1U hC [1, 2] [8] [(2, .ref 8 1 0)] [(8, .box 1 [.int .i64 (Dep.From f), .int .i64 (Dep.To f)])] ?_)
 refine AW.seq (AW.r0 hC [4] [] ⟨[(4, .bool (bif (ivalidSet (Dep.From f) width) then (ivalidSet (Dep.To f) width) else false))], []⟩ [(1 ≤ width ∧ width ≤ 6), (((ivalidSet (Dep.From f) width) = true) → (((ivalidSet (Dep.From f) width) = true))), (((ivalidSet (Dep.From f) width) = true) → (((ivalidSet (Dep.From f) width) = true))), (((ivalidSet (Dep.From f) width) = true) → (((ivalidSet (Dep.From f) width) = true))), (((ivalidSet (Dep.From f) width) = true) → (1 ≤ width ∧ width ≤ 6)), (((ivalidSet (Dep.From f) width) = true) → (((ivalidSet (Dep.From f) width) = true)))] ?_ ?_)
 ·
  refine ⟨?_, ?_, ?_, ?_, ?_, ?_, trivial⟩
  ·
   omega
  ·
   intro g1
   have g1p0 : (ivalidSet (Dep.From f) width) = true := g1
   assumption
  ·
   intro g2
   have g2p0 : (ivalidSet (Dep.From f) width) = true := g2
   assumption
  ·
   intro g3
   have g3p0 : (ivalidSet (Dep.From f) width) = true := g3
   assumption
  ·
   intro g4
   have g4p0 : (ivalidSet (Dep.From f) width) = true := g4
   omega
  ·
   intro g5
   have g5p0 : (ivalidSet (Dep.From f) width) = true := g5
   assumption
 exact AW.ret (AW.retE (β := Bool) (fun v => [⟨.bool, v⟩]) (fun v => []) (v := (bif (ivalidSet (Dep.From f) width) then (ivalidSet (Dep.To f) width) else false)) e0 (by kernel_rfl) rfl rfl)

theorem validWidth_iff {w : Int} : validWidth w = true ↔ 1 ≤ w ∧ w ≤ 6 := by
 unfold validWidth
 by_cases h : 1 ≤ w <;> simp [h]

theorem ivalidSet_iff {s w : Int} : ivalidSet s w = true ↔ 0 ≤ s ∧ s < 2 ^ w.toNat := by
 unfold ivalidSet
 by_cases h : 0 ≤ s <;> simp [h]

theorem depValid_iff {f : Dep} {w : Int} : depValid f w = true ↔ (0 ≤ f.From ∧ f.From < 2 ^ w.toNat) ∧ (0 ≤ f.To ∧ f.To < 2 ^ w.toNat) := by
 unfold depValid
 rw [← ivalidSet_iff, ← ivalidSet_iff]
 cases ivalidSet f.From w <;> simp

def ValidDependencies_l0 (fds : List Dep) (width : Int) : Nat → Nat → Unit ⊕ Bool
 | 0, v17 => .inl ()
 | k + 1, v17 => (bif (decide (((v17 : Nat) : Int) < ((List.length fds : Nat) : Int))) then (bif (!(depValid (List.getD fds v17 Dep.zero) width)) then (.inr false) else (ValidDependencies_l0 fds width k (v17 + 1))) else (.inl ()))

def ValidDependencies (fds : List Dep) (width : Int) : Bool := (bif (bif (!(validWidth width)) then true else (decide (8 < ((List.length fds : Nat) : Int)))) then false else (Sum.elim (fun _ => true) (fun r => r) (ValidDependencies_l0 fds width ((List.length fds) - 0 + 1) 0)))

def ValidDependencies_sp : FnSpec := mkSpec [.val (.slice (.named 0)), .val (.int .i64)] [.val .bool] (fun (fds : List Dep) (width : Int) => True) (fun (fds : List Dep) (width : Int) => [⟨.bool, (ValidDependencies fds width)⟩])

theorem ValidDependencies_ok : FnOK Try.prog 18 ValidDependencies_sp := by
 have hC : CtxOK Try.prog (mkCtx tyL [(44, validWidth_sp), (45, depValid_sp)]) := CtxOK.cons validWidth_ok (CtxOK.cons depValid_ok (CtxOK.nil tyOK))
 refine FnOK.of_body Try.func18 (by kernel_rfl) rfl (C := (mkCtx tyL [(44, validWidth_sp), (45, depValid_sp)])) hC.ty (by kernel_rfl) ?_
 intro (fds : List Dep) (width : Int) hwf hpre E
 have hpre : True := hpre
 have hw_fds : Wf ⟨(.slice (.named 0)), (fds : List Dep)⟩ := hwf _ (List.Mem.head _)
 have hl_fds : ((List.length fds : Nat) : Int) ≤ 9223372036854775807 := hw_fds.len
 have hw_width : Wf ⟨(.int .i64), (width : Int)⟩ := hwf _ (List.Mem.tail _ (List.Mem.head _))
 have hr_width : -9223372036854775808 ≤ width ∧ width ≤ 9223372036854775807 := hw_width.int_inv
 have e0 : ValidDependencies fds width = ValidDependencies fds width := rfl
 refine AW.seq (AW.r1U hC [0, 1] [] [] [] ?_)
 refine AW.seq (AW.seq (AW.r0U hC [0, 1, 14] [] [(14, .bool (bif (!(validWidth width)) then true else (decide (8 < ((List.length fds : Nat) : Int)))))] [] [(True), (((!(validWidth width)) = false) → (((!(validWidth width)) = false))), (((!(validWidth width)) = false) → (((!(validWidth width)) = false))), (((!(validWidth width)) = false) → (((!(validWidth width)) = false)))] ?_ ?_))
 ·
  refine ⟨?_, ?_, ?_, ?_, trivial⟩
  ·
   trivial
  ·
   intro g1
   have g1p0 : (validWidth width) = true := (Go.Am.not_neg g1)
   assumption
  ·
   intro g2
   have g2p0 : (validWidth width) = true := (Go.Am.not_neg g2)
   assumption
  ·
   intro g3
   have g3p0 : (validWidth width) = true := (Go.Am.not_neg g3)
   assumption
 refine AW.cd (bif (!(validWidth width)) then true else (decide (8 < ((List.length fds : Nat) : Int)))) ?_ ?_
 ·
  intro h4
  have h4q : ((validWidth width) = false) ∨ (8 < ((List.length fds : Nat) : Int)) := (Or.imp (fun h => (Go.Am.not_pos h)) (fun h => (of_decide_eq_true h)) (Go.Am.or_pos h4))
  have e5 := e0.trans (Go.Am.bif_t h4)
  refine AW.seq (AW.r1 hC [4] [] ⟨[(4, .bool false)], []⟩ ?_)
  exact AW.ret (AW.retE (β := Bool) (fun v => [⟨.bool, v⟩]) (fun v => []) (v := false) e5 (by kernel_rfl) rfl rfl)
 ·
  intro h6
  have h6q : ((validWidth width) = true) ∧ (¬ (8 < ((List.length fds : Nat) : Int))) := (And.imp (fun h => (Go.Am.not_neg h)) (fun h => (of_decide_eq_false h)) (Go.Am.or_neg h6))
  have e7 := e0.trans (Go.Am.bif_f h6)
  refine AW.kpU [0, 1] [] [] [] ?_
  refine AW.skip (AW.seq (AW.seq (AW.r1U hC [1, 15, 16, 17] [] [(15, .data (.slice (.named 0)) (fds : List Dep)), (16, .int .i64 ((List.length fds : Nat) : Int)), (17, .int .i64 0)] [] ?_)))
  refine AW.cutQ (α := Unit) (fun x => ⟨[], []⟩) (fun x => (True) ∧ (ValidDependencies_l0 fds width ((List.length fds) - 0 + 1) 0) = (.inl ())) ?_ ?_
  ·
   skip
   refine AW.block (AW.loop (α := Nat) (fun x => ⟨[(1, .int .i64 width), (15, .data (.slice (.named 0)) (fds : List Dep)), (16, .int .i64 ((List.length fds : Nat) : Int)), (17, .int .i64 ((x : Nat) : Int))], []⟩) (fun x => (True) ∧ ∃ k, (List.length fds) - x < k ∧ (ValidDependencies_l0 fds width ((List.length fds) - 0 + 1) 0) = ValidDependencies_l0 fds width k x) (fun x => (List.length fds) - x) 0 (by kernel_rfl) ⟨?_, _, Nat.lt_succ_self _, rfl⟩ ?_)
   ·
    show True
    exact trivial
   ·
    intro v17 hR
    obtain ⟨hI0, k37, hk35, e36⟩ := hR
    replace hI0 : True := hI0
    replace hk35 : (List.length fds) - v17 < k37 := hk35
    obtain ⟨k37q, rfl⟩ : ∃ k, k37 = k + 1 := ⟨k37 - 1, by omega⟩
    refine AW.seq (AW.r1U hC [1, 15, 16, 17, 18] [] [(18, .bool (decide (((v17 : Nat) : Int) < ((List.length fds : Nat) : Int))))] [] ?_)
    refine AW.seq (AW.cd (decide (((v17 : Nat) : Int) < ((List.length fds : Nat) : Int))) ?_ ?_)
    ·
     intro h38
     have h38q : ((v17 : Nat) : Int) < ((List.length fds : Nat) : Int) := (of_decide_eq_true h38)
     have e39 := e36.trans (Go.Am.bif_t h38)
     refine AW.kpU [1, 15, 16, 17] [] [] [] ?_
     refine AW.skip (AW.seq (AW.block (AW.seq (AW.r0U hC [1, 6, 15, 16, 17] [24] [(6, .ref 24 1 0)] [(24, .box 1 [.int .i64 (Dep.From (List.getD fds v17 Dep.zero)), .int .i64 (Dep.To (List.getD fds v17 Dep.zero))])] [(0 ≤ ((v17 : Nat) : Int) ∧ ((v17 : Nat) : Int) < ((List.length fds : Nat) : Int))] ?_ ?_))))
     ·
      refine ⟨?_, trivial⟩
      ·
       omega
     refine AW.seq (AW.r0U hC [1, 15, 16, 17, 24] [] [(24, .bool (!(depValid (List.getD fds v17 Dep.zero) width)))] [] [(1 ≤ width ∧ width ≤ 6)] ?_ ?_)
     ·
      refine ⟨?_, trivial⟩
      ·
       exact validWidth_iff.1 h6q.1
     refine AW.cd (!(depValid (List.getD fds v17 Dep.zero) width)) ?_ ?_
     ·
      intro h40
      have h40q : (depValid (List.getD fds v17 Dep.zero) width) = false := (Go.Am.not_pos h40)
      have e41 := e39.trans (Go.Am.bif_t h40)
      refine AW.seq (AW.r1 hC [4] [] ⟨[(4, .bool false)], []⟩ ?_)
      refine AW.ret ?_
      have e42 := e7.trans (Go.Am.elim_r e41)
      exact AW.retE (β := Bool) (fun v => [⟨.bool, v⟩]) (fun v => []) (v := false) e42 (by kernel_rfl) rfl rfl
     ·
      intro h43
      have h43q : (depValid (List.getD fds v17 Dep.zero) width) = true := (Go.Am.not_neg h43)
      have e44 := e39.trans (Go.Am.bif_f h43)
      refine AW.kpU [1, 15, 16, 17] [] [] [] ?_
      refine AW.skip (AW.r0U hC [1, 15, 16, 17] [] [(17, .int .i64 ((v17 + 1 : Nat) : Int))] [] [(-9223372036854775808 ≤ ((v17 + 1 : Nat) : Int) ∧ ((v17 + 1 : Nat) : Int) ≤ 9223372036854775807)] ?_ ?_)
      ·
       refine ⟨?_, trivial⟩
       ·
        omega
      refine AW.back (x := v17) (v17 + 1) (by kernel_rfl) ⟨?_, k37q, ?_, e44⟩ ?_
      ·
       show True
       assumption
      ·
       show (List.length fds) - (v17 + 1) < k37q
       omega
      ·
       show (List.length fds) - (v17 + 1) < (List.length fds) - v17
       omega
    ·
     intro h45
     have h45q : ¬ (((v17 : Nat) : Int) < ((List.length fds : Nat) : Int)) := (of_decide_eq_false h45)
     have e46 := e36.trans (Go.Am.bif_f h45)
     refine AW.kp [] [] ⟨[], []⟩ ?_
     refine AW.exit ?_
     refine AW.meet () (by kernel_rfl) ⟨?_, e46⟩
     show True
     assumption
  ·
   intro x hR
   obtain ⟨hJ0, e47⟩ := hR
   replace hJ0 : True := hJ0
   have e48 := e7.trans (Go.Am.elim_l e47)
   refine AW.seq (AW.r1 hC [4] [] ⟨[(4, .bool true)], []⟩ ?_)
   exact AW.ret (AW.retE (β := Bool) (fun v => [⟨.bool, v⟩]) (fun v => []) (v := true) e48 (by kernel_rfl) rfl rfl)

theorem ValidDependencies_iff {fds : List Dep} {w : Int} : ValidDependencies fds w = true ↔ (1 ≤ w ∧ w ≤ 6) ∧ fds.length ≤ 8 ∧ ∀ f ∈ fds, depValid f w = true := by
 unfold ValidDependencies
 rw [← validWidth_iff]
 cases validWidth w with
 | false => simp
 | true =>
  simp only [Bool.not_true, cond_false]
  by_cases h8 : fds.length ≤ 8
  ·
   rw [show decide (8 < ((List.length fds : Nat) : Int)) = false by simp; omega, cond_false]
   rcases all_loop (ValidDependencies_l0 fds w) fds.length (fun i => !(depValid (List.getD fds i Dep.zero) w)) (fun k i => rfl) (fds.length - 0 + 1) 0 (by omega) with ⟨h1, h2⟩ | ⟨h1, j, h2, h3, h4⟩
   ·
    rw [h1]
    simp only [Sum.elim_inl, true_and, true_iff]
    exact ⟨h8, forall_getD.1 fun j hj => by simpa using h2 j (by omega) hj⟩
   ·
    rw [h1]
    simp only [Sum.elim_inr, Bool.false_eq_true, true_and, false_iff]
    rintro ⟨_, hh⟩
    have := hh _ (getD_mem fds j Dep.zero h3)
    rw [this] at h4
    cases h4
  ·
   rw [show decide (8 < ((List.length fds : Nat) : Int)) = true by simp; omega, cond_true]
   simp [h8]

theorem pow_le64 {w x : Int} (hw : 1 ≤ w ∧ w ≤ 6) (h : x < 2 ^ w.toNat) : x < 64 := by
 have := pow64 hw.2 (by omega)
 omega

theorem inRange_iff {n l h : Int} : inRange n l h = true ↔ l ≤ n ∧ n ≤ h := by
 unfold inRange
 by_cases e : l ≤ n <;> simp [e]

def validSet (s : Int) (width : Int) : Bool := (bif (inRange width 1 6) then (inRange s 0 (((1 : Int) * 2 ^ (Int.toNat width)) - 1)) else false)

def validSet_sp : FnSpec := mkSpec [.val (.int .i64), .val (.int .i64)] [.val .bool] (fun (s : Int) (width : Int) => True) (fun (s : Int) (width : Int) => [⟨.bool, (validSet s width)⟩])

theorem validSet_ok : FnOK Try.prog 37 validSet_sp := by
 have hC : CtxOK Try.prog (mkCtx tyL [(56, inRange_sp)]) := CtxOK.cons inRange_ok (CtxOK.nil tyOK)
 refine FnOK.of_body Try.func37 (by kernel_rfl) rfl (C := (mkCtx tyL [(56, inRange_sp)])) hC.ty (by kernel_rfl) ?_
 intro (s : Int) (width : Int) hwf hpre E
 have hpre : True := hpre
 have hw_s : Wf ⟨(.int .i64), (s : Int)⟩ := hwf _ (List.Mem.head _)
 have hr_s : -9223372036854775808 ≤ s ∧ s ≤ 9223372036854775807 := hw_s.int_inv
 have hw_width : Wf ⟨(.int .i64), (width : Int)⟩ := hwf _ (List.Mem.tail _ (List.Mem.head _))
 have hr_width : -9223372036854775808 ≤ width ∧ width ≤ 9223372036854775807 := hw_width.int_inv
 have e0 : validSet s width = validSet s width := rfl
 refine AW.seq (AW.r1U hC [0, 1] [] [] [] ?_)
 refine AW.seq (AW.r0 hC [4] [] ⟨[(4, .bool (bif (inRange width 1 6) then (inRange s 0 (((1 : Int) * 2 ^ (Int.toNat width)) - 1)) else false))], []⟩ [(True), (((inRange width 1 6) = true) → (((inRange width 1 6) = true))), (((inRange width 1 6) = true) → (0 ≤ width ∧ width ≤ 64)), (((inRange width 1 6) = true) → (-9223372036854775808 ≤ ((1 : Int) * 2 ^ (Int.toNat width)) ∧ ((1 : Int) * 2 ^ (Int.toNat width)) ≤ 9223372036854775807)), (((inRange width 1 6) = true) → (((inRange width 1 6) = true))), (((inRange width 1 6) = true) → (-9223372036854775808 ≤ (((1 : Int) * 2 ^ (Int.toNat width)) - 1) ∧ (((1 : Int) * 2 ^ (Int.toNat width)) - 1) ≤ 9223372036854775807)), (((inRange width 1 6) = true) → (((inRange width 1 6) = true))), (((inRange width 1 6) = true) → (((inRange width 1 6) = true))), (((inRange width 1 6) = true) → (True)), (((inRange width 1 6) = true) → (((inRange width 1 6) = true)))] ?_ ?_)
 ·
  refine ⟨?_, ?_, ?_, ?_, ?_, ?_, ?_, ?_, ?_, ?_, trivial⟩
  ·
   trivial
  ·
   intro g1
   have g1p0 : (inRange width 1 6) = true := g1
   assumption
  ·
   intro g2
   have g2p0 : (inRange width 1 6) = true := g2
   have hv := inRange_iff.1 g2p0
   omega
  ·
   intro g3
   have g3p0 : (inRange width 1 6) = true := g3
   have hv := inRange_iff.1 g3p0
   have := pow64 (w := width) hv.2 (by omega)
   omega
  ·
   intro g4
   have g4p0 : (inRange width 1 6) = true := g4
   assumption
  ·
   intro g5
   have g5p0 : (inRange width 1 6) = true := g5
   have hv := inRange_iff.1 g5p0
   have := pow64 (w := width) hv.2 (by omega)
   omega
  ·
   intro g6
   have g6p0 : (inRange width 1 6) = true := g6
   assumption
  ·
   intro g7
   have g7p0 : (inRange width 1 6) = true := g7
   assumption
  ·
   intro g8
   have g8p0 : (inRange width 1 6) = true := g8
   trivial
  ·
   intro g9
   have g9p0 : (inRange width 1 6) = true := g9
   assumption
 exact AW.ret (AW.retE (β := Bool) (fun v => [⟨.bool, v⟩]) (fun v => []) (v := (bif (inRange width 1 6) then (inRange s 0 (((1 : Int) * 2 ^ (Int.toNat width)) - 1)) else false)) e0 (by kernel_rfl) rfl rfl)

def validDependencies_l0 (fds : List Dep) (width : Int) : Nat → Nat → Unit ⊕ Bool
 | 0, i => .inl ()
 | k + 1, i => (bif (decide (((i : Nat) : Int) < ((List.length fds : Nat) : Int))) then (bif (bif (!(validSet (Dep.From (List.getD fds i Dep.zero)) width)) then true else (!(validSet (Dep.To (List.getD fds i Dep.zero)) width))) then (.inr false) else (validDependencies_l0 fds width k (i + 1))) else (.inl ()))

def validDependencies (fds : List Dep) (width : Int) : Bool := (Sum.elim (fun _ => (bif (inRange width 1 6) then (decide (((List.length fds : Nat) : Int) ≤ 8)) else false)) (fun r => r) (validDependencies_l0 fds width ((List.length fds) - 0 + 1) 0))

def validDependencies_sp : FnSpec := mkSpec [.val (.slice (.named 0)), .val (.int .i64)] [.val .bool] (fun (fds : List Dep) (width : Int) => True) (fun (fds : List Dep) (width : Int) => [⟨.bool, (validDependencies fds width)⟩])

theorem validDependencies_ok : FnOK Try.prog 36 validDependencies_sp := by
 have hC : CtxOK Try.prog (mkCtx tyL [(37, validSet_sp), (56, inRange_sp)]) := CtxOK.cons validSet_ok (CtxOK.cons inRange_ok (CtxOK.nil tyOK))
 refine FnOK.of_body Try.func36 (by kernel_rfl) rfl (C := (mkCtx tyL [(37, validSet_sp), (56, inRange_sp)])) hC.ty (by kernel_rfl) ?_
 intro (fds : List Dep) (width : Int) hwf hpre E
 have hpre : True := hpre
 have hw_fds : Wf ⟨(.slice (.named 0)), (fds : List Dep)⟩ := hwf _ (List.Mem.head _)
 have hl_fds : ((List.length fds : Nat) : Int) ≤ 9223372036854775807 := hw_fds.len
 have hw_width : Wf ⟨(.int .i64), (width : Int)⟩ := hwf _ (List.Mem.tail _ (List.Mem.head _))
 have hr_width : -9223372036854775808 ≤ width ∧ width ≤ 9223372036854775807 := hw_width.int_inv
 have e0 : validDependencies fds width = validDependencies fds width := rfl
 refine AW.seq (AW.r1U hC [0, 1] [] [] [] ?_)
 refine AW.seq (AW.seq (AW.r1U hC [0, 1, 5] [] [(5, .int .i64 0)] [] ?_))
 refine AW.cutQ (α := Unit) (fun x => ⟨[(0, .data (.slice (.named 0)) (fds : List Dep)), (1, .int .i64 width)], []⟩) (fun x => (True) ∧ (validDependencies_l0 fds width ((List.length fds) - 0 + 1) 0) = (.inl ())) ?_ ?_
 ·
  skip
  refine AW.block (AW.loop (α := Nat) (fun x => ⟨[(0, .data (.slice (.named 0)) (fds : List Dep)), (1, .int .i64 width), (5, .int .i64 ((x : Nat) : Int))], []⟩) (fun x => (True) ∧ ∃ k, (List.length fds) - x < k ∧ (validDependencies_l0 fds width ((List.length fds) - 0 + 1) 0) = validDependencies_l0 fds width k x) (fun x => (List.length fds) - x) 0 (by kernel_rfl) ⟨?_, _, Nat.lt_succ_self _, rfl⟩ ?_)
  ·
   show True
   exact trivial
  ·
   intro i hR
   obtain ⟨hI0, k30, hk28, e29⟩ := hR
   replace hI0 : True := hI0
   replace hk28 : (List.length fds) - i < k30 := hk28
   obtain ⟨k30q, rfl⟩ : ∃ k, k30 = k + 1 := ⟨k30 - 1, by omega⟩
   refine AW.seq (AW.seq (AW.r1U hC [0, 1, 5, 9] [] [(9, .bool (decide (((i : Nat) : Int) < ((List.length fds : Nat) : Int))))] [] ?_))
   refine AW.cd (decide (((i : Nat) : Int) < ((List.length fds : Nat) : Int))) ?_ ?_
   ·
    intro h31
    have h31q : ((i : Nat) : Int) < ((List.length fds : Nat) : Int) := (of_decide_eq_true h31)
    have e32 := e29.trans (Go.Am.bif_t h31)
    refine AW.kpU [0, 1, 5] [] [] [] ?_
    refine AW.skip (AW.seq (AW.block (AW.seq (AW.r0U hC [0, 1, 5, 29] [] [(29, .bool (bif (!(validSet (Dep.From (List.getD fds i Dep.zero)) width)) then true else (!(validSet (Dep.To (List.getD fds i Dep.zero)) width))))] [] [(0 ≤ ((i : Nat) : Int) ∧ ((i : Nat) : Int) < ((List.length fds : Nat) : Int)), (True), (((!(validSet (Dep.From (List.getD fds i Dep.zero)) width)) = false) → (((!(validSet (Dep.From (List.getD fds i Dep.zero)) width)) = false))), (((!(validSet (Dep.From (List.getD fds i Dep.zero)) width)) = false) → (((!(validSet (Dep.From (List.getD fds i Dep.zero)) width)) = false))), (((!(validSet (Dep.From (List.getD fds i Dep.zero)) width)) = false) → (0 ≤ ((i : Nat) : Int) ∧ ((i : Nat) : Int) < ((List.length fds : Nat) : Int))), (((!(validSet (Dep.From (List.getD fds i Dep.zero)) width)) = false) → (((!(validSet (Dep.From (List.getD fds i Dep.zero)) width)) = false))), (((!(validSet (Dep.From (List.getD fds i Dep.zero)) width)) = false) → (((!(validSet (Dep.From (List.getD fds i Dep.zero)) width)) = false))), (((!(validSet (Dep.From (List.getD fds i Dep.zero)) width)) = false) → (((!(validSet (Dep.From (List.getD fds i Dep.zero)) width)) = false))), (((!(validSet (Dep.From (List.getD fds i Dep.zero)) width)) = false) → (((!(validSet (Dep.From (List.getD fds i Dep.zero)) width)) = false))), (((!(validSet (Dep.From (List.getD fds i Dep.zero)) width)) = false) → (True)), (((!(validSet (Dep.From (List.getD fds i Dep.zero)) width)) = false) → (((!(validSet (Dep.From (List.getD fds i Dep.zero)) width)) = false))), (((!(validSet (Dep.From (List.getD fds i Dep.zero)) width)) = false) → (((!(validSet (Dep.From (List.getD fds i Dep.zero)) width)) = false)))] ?_ ?_))))
    ·
     refine ⟨?_, ?_, ?_, ?_, ?_, ?_, ?_, ?_, ?_, ?_, ?_, ?_, trivial⟩
     ·
      omega
     ·
      trivial
     ·
      intro g33
      have g33p0 : (validSet (Dep.From (List.getD fds i Dep.zero)) width) = true := (Go.Am.not_neg g33)
      assumption
     ·
      intro g34
      have g34p0 : (validSet (Dep.From (List.getD fds i Dep.zero)) width) = true := (Go.Am.not_neg g34)
      assumption
     ·
      intro g35
      have g35p0 : (validSet (Dep.From (List.getD fds i Dep.zero)) width) = true := (Go.Am.not_neg g35)
      omega
     ·
      intro g36
      have g36p0 : (validSet (Dep.From (List.getD fds i Dep.zero)) width) = true := (Go.Am.not_neg g36)
      assumption
     ·
      intro g37
      have g37p0 : (validSet (Dep.From (List.getD fds i Dep.zero)) width) = true := (Go.Am.not_neg g37)
      assumption
     ·
      intro g38
      have g38p0 : (validSet (Dep.From (List.getD fds i Dep.zero)) width) = true := (Go.Am.not_neg g38)
      assumption
     ·
      intro g39
      have g39p0 : (validSet (Dep.From (List.getD fds i Dep.zero)) width) = true := (Go.Am.not_neg g39)
      assumption
     ·
      intro g40
      have g40p0 : (validSet (Dep.From (List.getD fds i Dep.zero)) width) = true := (Go.Am.not_neg g40)
      trivial
     ·
      intro g41
      have g41p0 : (validSet (Dep.From (List.getD fds i Dep.zero)) width) = true := (Go.Am.not_neg g41)
      assumption
     ·
      intro g42
      have g42p0 : (validSet (Dep.From (List.getD fds i Dep.zero)) width) = true := (Go.Am.not_neg g42)
      assumption
    refine AW.cd (bif (!(validSet (Dep.From (List.getD fds i Dep.zero)) width)) then true else (!(validSet (Dep.To (List.getD fds i Dep.zero)) width))) ?_ ?_
    ·
     intro h43
     have h43q : ((validSet (Dep.From (List.getD fds i Dep.zero)) width) = false) ∨ ((validSet (Dep.To (List.getD fds i Dep.zero)) width) = false) := (Or.imp (fun h => (Go.Am.not_pos h)) (fun h => (Go.Am.not_pos h)) (Go.Am.or_pos h43))
     have e44 := e32.trans (Go.Am.bif_t h43)
     refine AW.seq (AW.r1 hC [4] [] ⟨[(4, .bool false)], []⟩ ?_)
     refine AW.ret ?_
     have e45 := e0.trans (Go.Am.elim_r e44)
     exact AW.retE (β := Bool) (fun v => [⟨.bool, v⟩]) (fun v => []) (v := false) e45 (by kernel_rfl) rfl rfl
    ·
     intro h46
     have h46q : ((validSet (Dep.From (List.getD fds i Dep.zero)) width) = true) ∧ ((validSet (Dep.To (List.getD fds i Dep.zero)) width) = true) := (And.imp (fun h => (Go.Am.not_neg h)) (fun h => (Go.Am.not_neg h)) (Go.Am.or_neg h46))
     have e47 := e32.trans (Go.Am.bif_f h46)
     refine AW.kpU [0, 1, 5] [] [] [] ?_
     refine AW.skip (AW.r0U hC [0, 1, 5] [] [(5, .int .i64 ((i + 1 : Nat) : Int))] [] [(-9223372036854775808 ≤ ((i + 1 : Nat) : Int) ∧ ((i + 1 : Nat) : Int) ≤ 9223372036854775807)] ?_ ?_)
     ·
      refine ⟨?_, trivial⟩
      ·
       omega
     refine AW.back (x := i) (i + 1) (by kernel_rfl) ⟨?_, k30q, ?_, e47⟩ ?_
     ·
      show True
      assumption
     ·
      show (List.length fds) - (i + 1) < k30q
      omega
     ·
      show (List.length fds) - (i + 1) < (List.length fds) - i
      omega
   ·
    intro h48
    have h48q : ¬ (((i : Nat) : Int) < ((List.length fds : Nat) : Int)) := (of_decide_eq_false h48)
    have e49 := e29.trans (Go.Am.bif_f h48)
    refine AW.kpU [0, 1] [] [] [] ?_
    refine AW.exit ?_
    refine AW.meet () (by kernel_rfl) ⟨?_, e49⟩
    show True
    assumption
 ·
  intro x hR
  obtain ⟨hJ0, e50⟩ := hR
  replace hJ0 : True := hJ0
  have e51 := e0.trans (Go.Am.elim_l e50)
  refine AW.seq (AW.r0 hC [4] [] ⟨[(4, .bool (bif (inRange width 1 6) then (decide (((List.length fds : Nat) : Int) ≤ 8)) else false))], []⟩ [(True), (((inRange width 1 6) = true) → (((inRange width 1 6) = true))), (((inRange width 1 6) = true) → (((inRange width 1 6) = true))), (((inRange width 1 6) = true) → (((inRange width 1 6) = true)))] ?_ ?_)
  ·
   refine ⟨?_, ?_, ?_, ?_, trivial⟩
   ·
    trivial
   ·
    intro g52
    have g52p0 : (inRange width 1 6) = true := g52
    assumption
   ·
    intro g53
    have g53p0 : (inRange width 1 6) = true := g53
    assumption
   ·
    intro g54
    have g54p0 : (inRange width 1 6) = true := g54
    assumption
  exact AW.ret (AW.retE (β := Bool) (fun v => [⟨.bool, v⟩]) (fun v => []) (v := (bif (inRange width 1 6) then (decide (((List.length fds : Nat) : Int) ≤ 8)) else false)) e51 (by kernel_rfl) rfl rfl)

theorem validSet_iff {s w : Int} : validSet s w = true ↔ (1 ≤ w ∧ w ≤ 6) ∧ ivalidSet s w = true := by
 unfold validSet
 rw [← inRange_iff, ivalidSet_iff]
 cases h : inRange w 1 6 with
 | false => simp
 | true =>
  simp only [cond_true, true_and, inRange_iff]
  omega

theorem valid_eq (fds : List Dep) (w : Int) : validDependencies fds w = ValidDependencies fds w := by
 rw [Bool.eq_iff_iff, ValidDependencies_iff]
 unfold validDependencies
 rcases all_loop (validDependencies_l0 fds w) fds.length (fun i => bif (!(validSet (Dep.From (List.getD fds i Dep.zero)) w)) then true else (!(validSet (Dep.To (List.getD fds i Dep.zero)) w))) (fun k i => rfl) (fds.length - 0 + 1) 0 (by omega) with ⟨h1, h2⟩ | ⟨h1, j, h2, h3, h4⟩
 ·
  rw [h1]
  simp only [Sum.elim_inl]
  have h5 : ∀ f ∈ fds, validSet f.From w = true ∧ validSet f.To w = true := forall_getD.1 fun j hj => or_neg (h2 j (by omega) hj) |>.imp not_neg not_neg
  rw [← inRange_iff]
  cases hw : inRange w 1 6 with
  | false => simp
  | true =>
   simp only [cond_true, true_and, decide_eq_true_eq]
   constructor
   ·
    intro h8
    refine ⟨by omega, fun f hf => ?_⟩
    have := h5 f hf
    rw [depValid_iff, ← ivalidSet_iff, ← ivalidSet_iff]
    exact ⟨(validSet_iff.1 this.1).2, (validSet_iff.1 this.2).2⟩
   ·
    rintro ⟨h8, _⟩
    omega
 ·
  rw [h1]
  simp only [Sum.elim_inr, Bool.false_eq_true, false_iff]
  rintro ⟨hw, _, hf⟩
  have := depValid_iff.1 (hf _ (getD_mem fds j Dep.zero h3))
  rcases or_pos h4 with h | h
  ·
   have h := not_pos h
   have : validSet (fds.getD j Dep.zero).From w = true := validSet_iff.2 ⟨hw, ivalidSet_iff.2 this.1⟩
   rw [h] at this
   cases this
  ·
   have h := not_pos h
   have : validSet (fds.getD j Dep.zero).To w = true := validSet_iff.2 ⟨hw, ivalidSet_iff.2 this.2⟩
   rw [h] at this
   cases this

def closureOf_l1 (fds : List Dep) : Nat → Int → Bool → Nat → Int × Bool
 | 0, set_1, changed1, i => (set_1, changed1)
 | k + 1, set_1, changed1, i => (bif (decide (((i : Nat) : Int) < ((List.length fds : Nat) : Int))) then (bif (bif ((bits .and .i64 (Dep.From (List.getD fds i Dep.zero)) set_1) == (Dep.From (List.getD fds i Dep.zero))) then ((bits .and .i64 (Dep.To (List.getD fds i Dep.zero)) set_1) != (Dep.To (List.getD fds i Dep.zero))) else false) then (closureOf_l1 fds k (bits .or .i64 set_1 (Dep.To (List.getD fds i Dep.zero))) true (i + 1)) else (closureOf_l1 fds k set_1 changed1 (i + 1))) else (set_1, changed1))

def closureOf_l0 (fds : List Dep) : Nat → Int → Bool → Int
 | 0, set_, changed => set_
 | k + 1, set_, changed => (bif changed then (Go.Am.andThen (closureOf_l1 fds ((List.length fds) - 0 + 1) set_ false 0) (fun z => (fun (set_1 : Int) (changed1 : Bool) => (closureOf_l0 fds k set_1 changed1)) z.1 z.2)) else set_)

def closureOf (fds : List Dep) (s : Int) : Int := (Go.Am.andThen (closureOf_l0 fds (2 * Int.toNat (64 - s) + (bif true then 1 else 0) + 1) s true) (fun z => (fun (set_ : Int) => set_) z))

def closureOf_sp : FnSpec := mkSpec [.val (.slice (.named 0)), .val (.int .i64)] [.val (.int .i64)] (fun (fds : List Dep) (s : Int) => (0 ≤ s ∧ s < 64) ∧ ∀ f ∈ fds, (0 ≤ f.From ∧ f.From < 64) ∧ (0 ≤ f.To ∧ f.To < 64)) (fun (fds : List Dep) (s : Int) => [⟨(.int .i64), (closureOf fds s)⟩])

theorem closureOf_ok : FnOK Try.prog 38 closureOf_sp := by
 have hC : CtxOK Try.prog (mkCtx tyL []) := CtxOK.nil tyOK
 have hM : Try.prog.follows .mixedOrders = true := Try.checked.mixed
 refine FnOK.of_body Try.func38 (by kernel_rfl) rfl (C := (mkCtx tyL [])) hC.ty (by kernel_rfl) ?_
 intro (fds : List Dep) (s : Int) hwf hpre E
 have hpre : (0 ≤ s ∧ s < 64) ∧ ∀ f ∈ fds, (0 ≤ f.From ∧ f.From < 64) ∧ (0 ≤ f.To ∧ f.To < 64) := hpre
 have hw_fds : Wf ⟨(.slice (.named 0)), (fds : List Dep)⟩ := hwf _ (List.Mem.head _)
 have hl_fds : ((List.length fds : Nat) : Int) ≤ 9223372036854775807 := hw_fds.len
 have hw_s : Wf ⟨(.int .i64), (s : Int)⟩ := hwf _ (List.Mem.tail _ (List.Mem.head _))
 have hr_s : -9223372036854775808 ≤ s ∧ s ≤ 9223372036854775807 := hw_s.int_inv
 have e0 : closureOf fds s = closureOf fds s := rfl
 refine AW.seq (AW.r1U hC [0, 1] [] [] [] ?_)
 refine AW.seq (AW.seq (AW.r1U hC [0, 1, 5] [] [(5, .bool true)] [] ?_))
 refine AW.cutQ (α := Int) (fun x => ⟨[(1, .int .i64 x)], []⟩) (fun x => (0 ≤ x ∧ x < 64) ∧ (closureOf_l0 fds (2 * Int.toNat (64 - s) + (bif true then 1 else 0) + 1) s true) = x) ?_ ?_
 ·
  skip
  refine AW.block (AW.loop (α := Int × Bool) (fun x => ⟨[(0, .data (.slice (.named 0)) (fds : List Dep)), (1, .int .i64 x.1), (5, .bool x.2)], []⟩) (fun x => (0 ≤ x.1 ∧ x.1 < 64) ∧ ∃ k, 2 * Int.toNat (64 - x.1) + (bif x.2 then 1 else 0) < k ∧ (closureOf_l0 fds (2 * Int.toNat (64 - s) + (bif true then 1 else 0) + 1) s true) = closureOf_l0 fds k x.1 x.2) (fun x => 2 * Int.toNat (64 - x.1) + (bif x.2 then 1 else 0)) (s, true) (by kernel_rfl) ⟨?_, _, Nat.lt_succ_self _, rfl⟩ ?_)
  ·
   show 0 ≤ s ∧ s < 64
   exact hpre.1
  ·
   intro x hR
   obtain ⟨set_, changed⟩ := x
   obtain ⟨hI0, k74, hk72, e73⟩ := hR
   replace hI0 : 0 ≤ set_ ∧ set_ < 64 := hI0
   replace hk72 : 2 * Int.toNat (64 - set_) + (bif changed then 1 else 0) < k74 := hk72
   obtain ⟨k74q, rfl⟩ : ∃ k, k74 = k + 1 := ⟨k74 - 1, by omega⟩
   refine AW.seq (AW.seq (AW.r1U hC [0, 1, 7] [] [(7, .bool changed)] [] ?_))
   refine AW.cd changed ?_ ?_
   ·
    intro h75
    have h75q : changed = true := h75
    have e76 := e73.trans (Go.Am.bif_t h75)
    refine AW.kpU [0, 1] [] [] [] ?_
    refine AW.skip (AW.block (AW.seq (AW.r1U hC [0, 1, 5] [] [(5, .bool false)] [] ?_)))
    refine AW.seq (AW.r1U hC [0, 1, 5, 6] [] [(6, .int .i64 0)] [] ?_)
    refine AW.cutQ (α := Int × Bool) (fun x => ⟨[(0, .data (.slice (.named 0)) (fds : List Dep)), (1, .int .i64 x.1), (5, .bool x.2)], []⟩) (fun x => ((0 ≤ x.1 ∧ x.1 < 64) ∧ set_ ≤ x.1 ∧ (x.2 = true → set_ < x.1)) ∧ (closureOf_l1 fds ((List.length fds) - 0 + 1) set_ false 0) = x) ?_ ?_
    ·
     skip
     refine AW.block (AW.loop (α := Int × Bool × Nat) (fun x => ⟨[(0, .data (.slice (.named 0)) (fds : List Dep)), (1, .int .i64 x.1), (5, .bool x.2.1), (6, .int .i64 ((x.2.2 : Nat) : Int))], []⟩) (fun x => ((0 ≤ x.1 ∧ x.1 < 64) ∧ set_ ≤ x.1 ∧ (x.2.1 = true → set_ < x.1)) ∧ ∃ k, (List.length fds) - x.2.2 < k ∧ (closureOf_l1 fds ((List.length fds) - 0 + 1) set_ false 0) = closureOf_l1 fds k x.1 x.2.1 x.2.2) (fun x => (List.length fds) - x.2.2) (set_, false, 0) (by kernel_rfl) ⟨?_, _, Nat.lt_succ_self _, rfl⟩ ?_)
     ·
      show (0 ≤ set_ ∧ set_ < 64) ∧ set_ ≤ set_ ∧ (false = true → set_ < set_)
      exact ⟨hI0, by omega, by simp⟩
     ·
      intro x hR
      obtain ⟨set_1, changed1, i⟩ := x
      obtain ⟨hI1, k79, hk77, e78⟩ := hR
      replace hI1 : (0 ≤ set_1 ∧ set_1 < 64) ∧ set_ ≤ set_1 ∧ (changed1 = true → set_ < set_1) := hI1
      replace hk77 : (List.length fds) - i < k79 := hk77
      obtain ⟨k79q, rfl⟩ : ∃ k, k79 = k + 1 := ⟨k79 - 1, by omega⟩
      have hf := fun (h : i < fds.length) => hpre.2 _ (getD_mem fds i Dep.zero h)
      refine AW.seq (AW.seq (AW.r1U hC [0, 1, 5, 6, 11] [] [(11, .bool (decide (((i : Nat) : Int) < ((List.length fds : Nat) : Int))))] [] ?_))
      refine AW.cd (decide (((i : Nat) : Int) < ((List.length fds : Nat) : Int))) ?_ ?_
      ·
       intro h80
       have h80q : ((i : Nat) : Int) < ((List.length fds : Nat) : Int) := (of_decide_eq_true h80)
       have e81 := e78.trans (Go.Am.bif_t h80)
       refine AW.kpU [0, 1, 5, 6] [] [] [] ?_
       refine AW.skip (AW.seq (AW.block (AW.seq (AW.d0U hC hM [0, 1, 5, 6, 41] [] [(41, .bool (bif ((bits .and .i64 (Dep.From (List.getD fds i Dep.zero)) set_1) == (Dep.From (List.getD fds i Dep.zero))) then ((bits .and .i64 (Dep.To (List.getD fds i Dep.zero)) set_1) != (Dep.To (List.getD fds i Dep.zero))) else false))] [] [(0 ≤ ((i : Nat) : Int) ∧ ((i : Nat) : Int) < ((List.length fds : Nat) : Int)), (0 ≤ ((i : Nat) : Int) ∧ ((i : Nat) : Int) < ((List.length fds : Nat) : Int)), ((((bits .and .i64 (Dep.From (List.getD fds i Dep.zero)) set_1) == (Dep.From (List.getD fds i Dep.zero))) = true) → ((((bits .and .i64 (Dep.From (List.getD fds i Dep.zero)) set_1) == (Dep.From (List.getD fds i Dep.zero))) = true))), ((((bits .and .i64 (Dep.From (List.getD fds i Dep.zero)) set_1) == (Dep.From (List.getD fds i Dep.zero))) = true) → ((((bits .and .i64 (Dep.From (List.getD fds i Dep.zero)) set_1) == (Dep.From (List.getD fds i Dep.zero))) = true))), ((((bits .and .i64 (Dep.From (List.getD fds i Dep.zero)) set_1) == (Dep.From (List.getD fds i Dep.zero))) = true) → (0 ≤ ((i : Nat) : Int) ∧ ((i : Nat) : Int) < ((List.length fds : Nat) : Int))), ((((bits .and .i64 (Dep.From (List.getD fds i Dep.zero)) set_1) == (Dep.From (List.getD fds i Dep.zero))) = true) → ((((bits .and .i64 (Dep.From (List.getD fds i Dep.zero)) set_1) == (Dep.From (List.getD fds i Dep.zero))) = true))), ((((bits .and .i64 (Dep.From (List.getD fds i Dep.zero)) set_1) == (Dep.From (List.getD fds i Dep.zero))) = true) → ((((bits .and .i64 (Dep.From (List.getD fds i Dep.zero)) set_1) == (Dep.From (List.getD fds i Dep.zero))) = true))), ((((bits .and .i64 (Dep.From (List.getD fds i Dep.zero)) set_1) == (Dep.From (List.getD fds i Dep.zero))) = true) → ((((bits .and .i64 (Dep.From (List.getD fds i Dep.zero)) set_1) == (Dep.From (List.getD fds i Dep.zero))) = true))), ((((bits .and .i64 (Dep.From (List.getD fds i Dep.zero)) set_1) == (Dep.From (List.getD fds i Dep.zero))) = true) → ((((bits .and .i64 (Dep.From (List.getD fds i Dep.zero)) set_1) == (Dep.From (List.getD fds i Dep.zero))) = true))), ((((bits .and .i64 (Dep.From (List.getD fds i Dep.zero)) set_1) == (Dep.From (List.getD fds i Dep.zero))) = true) → ((((bits .and .i64 (Dep.From (List.getD fds i Dep.zero)) set_1) == (Dep.From (List.getD fds i Dep.zero))) = true))), ((((bits .and .i64 (Dep.From (List.getD fds i Dep.zero)) set_1) == (Dep.From (List.getD fds i Dep.zero))) = true) → ((((bits .and .i64 (Dep.From (List.getD fds i Dep.zero)) set_1) == (Dep.From (List.getD fds i Dep.zero))) = true))), ((((bits .and .i64 (Dep.From (List.getD fds i Dep.zero)) set_1) == (Dep.From (List.getD fds i Dep.zero))) = true) → (0 ≤ ((i : Nat) : Int) ∧ ((i : Nat) : Int) < ((List.length fds : Nat) : Int))), ((((bits .and .i64 (Dep.From (List.getD fds i Dep.zero)) set_1) == (Dep.From (List.getD fds i Dep.zero))) = true) → ((((bits .and .i64 (Dep.From (List.getD fds i Dep.zero)) set_1) == (Dep.From (List.getD fds i Dep.zero))) = true))), ((((bits .and .i64 (Dep.From (List.getD fds i Dep.zero)) set_1) == (Dep.From (List.getD fds i Dep.zero))) = true) → ((((bits .and .i64 (Dep.From (List.getD fds i Dep.zero)) set_1) == (Dep.From (List.getD fds i Dep.zero))) = true))), ((((bits .and .i64 (Dep.From (List.getD fds i Dep.zero)) set_1) == (Dep.From (List.getD fds i Dep.zero))) = true) → ((((bits .and .i64 (Dep.From (List.getD fds i Dep.zero)) set_1) == (Dep.From (List.getD fds i Dep.zero))) = true))), ((((bits .and .i64 (Dep.From (List.getD fds i Dep.zero)) set_1) == (Dep.From (List.getD fds i Dep.zero))) = true) → ((((bits .and .i64 (Dep.From (List.getD fds i Dep.zero)) set_1) == (Dep.From (List.getD fds i Dep.zero))) = true))), ((((bits .and .i64 (Dep.From (List.getD fds i Dep.zero)) set_1) == (Dep.From (List.getD fds i Dep.zero))) = true) → ((((bits .and .i64 (Dep.From (List.getD fds i Dep.zero)) set_1) == (Dep.From (List.getD fds i Dep.zero))) = true)))] ?_ ?_))))
       ·
        refine ⟨?_, ?_, ?_, ?_, ?_, ?_, ?_, ?_, ?_, ?_, ?_, ?_, ?_, ?_, ?_, ?_, ?_, trivial⟩
        ·
         omega
        ·
         omega
        ·
         intro g82
         have g82p0 : (bits .and .i64 (Dep.From (List.getD fds i Dep.zero)) set_1) = (Dep.From (List.getD fds i Dep.zero)) := (Go.Am.beq_pos g82)
         assumption
        ·
         intro g83
         have g83p0 : (bits .and .i64 (Dep.From (List.getD fds i Dep.zero)) set_1) = (Dep.From (List.getD fds i Dep.zero)) := (Go.Am.beq_pos g83)
         assumption
        ·
         intro g84
         have g84p0 : (bits .and .i64 (Dep.From (List.getD fds i Dep.zero)) set_1) = (Dep.From (List.getD fds i Dep.zero)) := (Go.Am.beq_pos g84)
         omega
        ·
         intro g85
         have g85p0 : (bits .and .i64 (Dep.From (List.getD fds i Dep.zero)) set_1) = (Dep.From (List.getD fds i Dep.zero)) := (Go.Am.beq_pos g85)
         assumption
        ·
         intro g86
         have g86p0 : (bits .and .i64 (Dep.From (List.getD fds i Dep.zero)) set_1) = (Dep.From (List.getD fds i Dep.zero)) := (Go.Am.beq_pos g86)
         assumption
        ·
         intro g87
         have g87p0 : (bits .and .i64 (Dep.From (List.getD fds i Dep.zero)) set_1) = (Dep.From (List.getD fds i Dep.zero)) := (Go.Am.beq_pos g87)
         assumption
        ·
         intro g88
         have g88p0 : (bits .and .i64 (Dep.From (List.getD fds i Dep.zero)) set_1) = (Dep.From (List.getD fds i Dep.zero)) := (Go.Am.beq_pos g88)
         assumption
        ·
         intro g89
         have g89p0 : (bits .and .i64 (Dep.From (List.getD fds i Dep.zero)) set_1) = (Dep.From (List.getD fds i Dep.zero)) := (Go.Am.beq_pos g89)
         assumption
        ·
         intro g90
         have g90p0 : (bits .and .i64 (Dep.From (List.getD fds i Dep.zero)) set_1) = (Dep.From (List.getD fds i Dep.zero)) := (Go.Am.beq_pos g90)
         assumption
        ·
         intro g91
         have g91p0 : (bits .and .i64 (Dep.From (List.getD fds i Dep.zero)) set_1) = (Dep.From (List.getD fds i Dep.zero)) := (Go.Am.beq_pos g91)
         omega
        ·
         intro g92
         have g92p0 : (bits .and .i64 (Dep.From (List.getD fds i Dep.zero)) set_1) = (Dep.From (List.getD fds i Dep.zero)) := (Go.Am.beq_pos g92)
         assumption
        ·
         intro g93
         have g93p0 : (bits .and .i64 (Dep.From (List.getD fds i Dep.zero)) set_1) = (Dep.From (List.getD fds i Dep.zero)) := (Go.Am.beq_pos g93)
         assumption
        ·
         intro g94
         have g94p0 : (bits .and .i64 (Dep.From (List.getD fds i Dep.zero)) set_1) = (Dep.From (List.getD fds i Dep.zero)) := (Go.Am.beq_pos g94)
         assumption
        ·
         intro g95
         have g95p0 : (bits .and .i64 (Dep.From (List.getD fds i Dep.zero)) set_1) = (Dep.From (List.getD fds i Dep.zero)) := (Go.Am.beq_pos g95)
         assumption
        ·
         intro g96
         have g96p0 : (bits .and .i64 (Dep.From (List.getD fds i Dep.zero)) set_1) = (Dep.From (List.getD fds i Dep.zero)) := (Go.Am.beq_pos g96)
         assumption
       refine AW.cd (bif ((bits .and .i64 (Dep.From (List.getD fds i Dep.zero)) set_1) == (Dep.From (List.getD fds i Dep.zero))) then ((bits .and .i64 (Dep.To (List.getD fds i Dep.zero)) set_1) != (Dep.To (List.getD fds i Dep.zero))) else false) ?_ ?_
       ·
        intro h97
        have h97q : ((bits .and .i64 (Dep.From (List.getD fds i Dep.zero)) set_1) = (Dep.From (List.getD fds i Dep.zero))) ∧ ((bits .and .i64 (Dep.To (List.getD fds i Dep.zero)) set_1) ≠ (Dep.To (List.getD fds i Dep.zero))) := (And.imp (fun h => (Go.Am.beq_pos h)) (fun h => (Go.Am.bne_pos h)) (Go.Am.and_pos h97))
        have e98 := e81.trans (Go.Am.bif_t h97)
        refine AW.seq (AW.r0U hC [0, 1, 6] [] [(1, .int .i64 (bits .or .i64 set_1 (Dep.To (List.getD fds i Dep.zero))))] [] [(0 ≤ ((i : Nat) : Int) ∧ ((i : Nat) : Int) < ((List.length fds : Nat) : Int))] ?_ ?_)
        ·
         refine ⟨?_, trivial⟩
         ·
          omega
        refine AW.r1U hC [0, 1, 5, 6] [] [(5, .bool true)] [] ?_
        refine AW.r0U hC [0, 1, 5, 6] [] [(6, .int .i64 ((i + 1 : Nat) : Int))] [] [(-9223372036854775808 ≤ ((i + 1 : Nat) : Int) ∧ ((i + 1 : Nat) : Int) ≤ 9223372036854775807)] ?_ ?_
        ·
         refine ⟨?_, trivial⟩
         ·
          omega
        refine AW.back (x := (set_1, changed1, i)) ((bits .or .i64 set_1 (Dep.To (List.getD fds i Dep.zero))), true, i + 1) (by kernel_rfl) ⟨?_, k79q, ?_, e98⟩ ?_
        ·
         show (0 ≤ (bits .or .i64 set_1 (Dep.To (List.getD fds i Dep.zero))) ∧ (bits .or .i64 set_1 (Dep.To (List.getD fds i Dep.zero))) < 64) ∧ set_ ≤ (bits .or .i64 set_1 (Dep.To (List.getD fds i Dep.zero))) ∧ (true = true → set_ < (bits .or .i64 set_1 (Dep.To (List.getD fds i Dep.zero))))
         have f := hf (by omega)
         have h1 := or64 hI1.1.1 hI1.1.2 f.2.1 f.2.2
         have h2 := or64More hI1.1.1 hI1.1.2 f.2.1 f.2.2 h97q.2
         exact ⟨⟨by omega, by omega⟩, by omega, fun _ => by omega⟩
        ·
         show (List.length fds) - (i + 1) < k79q
         omega
        ·
         show (List.length fds) - (i + 1) < (List.length fds) - i
         omega
       ·
        intro h99
        have h99q : ((bits .and .i64 (Dep.From (List.getD fds i Dep.zero)) set_1) ≠ (Dep.From (List.getD fds i Dep.zero))) ∨ ((bits .and .i64 (Dep.To (List.getD fds i Dep.zero)) set_1) = (Dep.To (List.getD fds i Dep.zero))) := (Or.imp (fun h => (Go.Am.beq_neg h)) (fun h => (Go.Am.bne_neg h)) (Go.Am.and_neg h99))
        have e100 := e81.trans (Go.Am.bif_f h99)
        refine AW.kpU [0, 1, 5, 6] [] [] [] ?_
        refine AW.skip (AW.r0U hC [0, 1, 5, 6] [] [(6, .int .i64 ((i + 1 : Nat) : Int))] [] [(-9223372036854775808 ≤ ((i + 1 : Nat) : Int) ∧ ((i + 1 : Nat) : Int) ≤ 9223372036854775807)] ?_ ?_)
        ·
         refine ⟨?_, trivial⟩
         ·
          omega
        refine AW.back (x := (set_1, changed1, i)) (set_1, changed1, i + 1) (by kernel_rfl) ⟨?_, k79q, ?_, e100⟩ ?_
        ·
         show (0 ≤ set_1 ∧ set_1 < 64) ∧ set_ ≤ set_1 ∧ (changed1 = true → set_ < set_1)
         assumption
        ·
         show (List.length fds) - (i + 1) < k79q
         omega
        ·
         show (List.length fds) - (i + 1) < (List.length fds) - i
         omega
      ·
       intro h101
       have h101q : ¬ (((i : Nat) : Int) < ((List.length fds : Nat) : Int)) := (of_decide_eq_false h101)
       have e102 := e78.trans (Go.Am.bif_f h101)
       refine AW.kpU [0, 1, 5] [] [] [] ?_
       refine AW.exit ?_
       refine AW.meet (set_1, changed1) (by kernel_rfl) ⟨?_, e102⟩
       show (0 ≤ set_1 ∧ set_1 < 64) ∧ set_ ≤ set_1 ∧ (changed1 = true → set_ < set_1)
       assumption
    ·
     intro x hR
     obtain ⟨set_1, changed1⟩ := x
     obtain ⟨hJ1, e103⟩ := hR
     replace hJ1 : (0 ≤ set_1 ∧ set_1 < 64) ∧ set_ ≤ set_1 ∧ (changed1 = true → set_ < set_1) := hJ1
     have e104 := e76.trans (Go.Am.then_eq e103)
     refine AW.back (x := (set_, changed)) (set_1, changed1) (by kernel_rfl) ⟨?_, k74q, ?_, e104⟩ ?_
     ·
      show 0 ≤ set_1 ∧ set_1 < 64
      exact hJ1.1
     ·
      show 2 * Int.toNat (64 - set_1) + (bif changed1 then 1 else 0) < k74q
      have := hJ1.2
      subst h75q
      cases changed1 <;> simp only [cond_true, cond_false] at * <;> simp at this <;> omega
     ·
      show 2 * Int.toNat (64 - set_1) + (bif changed1 then 1 else 0) < 2 * Int.toNat (64 - set_) + (bif changed then 1 else 0)
      have := hJ1.2
      subst h75q
      cases changed1 <;> simp only [cond_true, cond_false] at * <;> simp at this <;> omega
   ·
    intro h105
    have h105q : changed = false := h105
    have e106 := e73.trans (Go.Am.bif_f h105)
    refine AW.kpU [1] [] [] [] ?_
    refine AW.exit ?_
    refine AW.meet set_ (by kernel_rfl) ⟨?_, e106⟩
    show 0 ≤ set_ ∧ set_ < 64
    assumption
 ·
  intro set_ hR
  obtain ⟨hJ0, e107⟩ := hR
  replace hJ0 : 0 ≤ set_ ∧ set_ < 64 := hJ0
  have e108 := e0.trans (Go.Am.then_eq e107)
  refine AW.seq (AW.r1 hC [4] [] ⟨[(4, .int .i64 set_)], []⟩ ?_)
  exact AW.ret (AW.retE (β := Int) (fun v => [⟨(.int .i64), v⟩]) (fun v => []) (v := set_) e108 (by kernel_rfl) rfl rfl)

theorem szDep_le {a : List Dep} {l : Int} (h : ¬ szDependencyS a l < 0) : (List.length a : Int) ≤ l := by
 unfold szDependencyS at h
 by_cases e : l - ((List.length a : Nat) : Int) < 0
 ·
  rw [show decide (l - ((List.length a : Nat) : Int) < 0) = true by simp [e], cond_true] at h
  omega
 ·
  omega

end
end Go.Proofs.Ytmijmkbnmcmgcaa
