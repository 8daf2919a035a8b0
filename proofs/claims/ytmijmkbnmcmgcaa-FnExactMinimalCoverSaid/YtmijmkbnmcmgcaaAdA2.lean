/-
  A part of the proof of this claim (AdA2): what functions of the program compute, and plain facts of that. No conditions.
-/
import Derived.Test.YtmijmkbnmcmgcaaAdA1
import Derived.Test.YtmijmkbnmcmgcaaAnV
import Derived.Test.YtmijmkbnmcmgcaaAdW
set_option linter.all false
namespace Go.Proofs.Ytmijmkbnmcmgcaa
open Go Go.Am
noncomputable section

def markDependencyS_l0 : Nat → Int → Nat → (List Dep) → Int × (List Dep)
 | 0, k1, i, a1 => (k1, a1)
 | k + 1, k1, i, a1 => (bif (decide (((i : Nat) : Int) < ((List.length a1 : Nat) : Int))) then (markDependencyS_l0 k (IntKind.wrap .i64 ((IntKind.wrap .i64 (k1 + 1)) + 1)) (i + 1) (List.set (List.set a1 i (Dep.mk k1 (Dep.To (List.getD a1 i Dep.zero)))) i (Dep.mk (Dep.From (List.getD (List.set a1 i (Dep.mk k1 (Dep.To (List.getD a1 i Dep.zero)))) i Dep.zero)) (IntKind.wrap .i64 (k1 + 1))))) else (k1, a1))

def markDependencyS (a : List Dep) (k0 : Int) : List Dep × Int := (Go.Am.andThen (markDependencyS_l0 ((List.length a) - 0 + 1) k0 0 a) (fun z => (fun (k1 : Int) (a1 : List Dep) => (a1, k1)) z.1 z.2))

theorem markDependencyS_l0_len : ∀ (n : Nat) (k : Int) (i : Nat) (a : List Dep), (markDependencyS_l0 n k i a).2.length = a.length := by
 intro n
 induction n with
 | zero => intro k i a; rfl
 | succ n ih =>
  intro k i a
  unfold markDependencyS_l0
  cases decide (((i : Nat) : Int) < ((List.length a : Nat) : Int)) with
  | true => rw [cond_true, ih]; simp only [List.length_set]
  | false => rfl

theorem markDependencyS_ok : MarkC Try.prog 27 (.named 0) (fun _ _ => True) markDependencyS := by
 have hC : CtxOK Try.prog { mkCtx tyL [] with deep := true } := CtxOK.deepen (CtxOK.nil tyOK)
 refine MarkC.of_body noGlob Try.func27 (by kernel_rfl) rfl (C := { mkCtx tyL [] with deep := true }) hC.ty (by kernel_rfl) (fun a k0 => by unfold markDependencyS Go.Am.andThen; exact markDependencyS_l0_len _ _ _ _) ?_
 intro (a : List Dep) (k0 : Int) hl hk hpre E
 have hl : ((List.length a : Nat) : Int) ≤ 4294967296 := hl
 have hk : -9223372036854775808 ≤ k0 ∧ k0 ≤ 9223372036854775807 := hk
 have e0 : markDependencyS a k0 = markDependencyS a k0 := rfl
 refine AW.seq ?_
 refine AW.regU hC  true [] [0, 1, 1000] [0]
  [] []
  [] (by kernel_rfl) ?_ ?_
 ·
  exact trivial
 refine AW.seq (AW.seq (AW.r1U hC [0, 1, 5, 1000] [0] [(5, .int .i64 0)] [] ?_))
 refine AW.cutQ (α := Int × (List Dep)) (fun x => ⟨[(1, .int .i64 x.1), (1000, .tr 0 1)], [(0, .tree 1 (.named 0) (x.2 : List Dep))]⟩) (fun x => (x.2.length = (List.length a)) ∧ (markDependencyS_l0 ((List.length a) - 0 + 1) k0 0 a) = x) ?_ ?_
 ·
  skip
  refine AW.block (AW.loop (α := Int × Nat × (List Dep)) (fun x => ⟨[(0, .tr 0 1), (1, .int .i64 x.1), (5, .int .i64 ((x.2.1 : Nat) : Int)), (1000, .tr 0 1)], [(0, .tree 1 (.named 0) (x.2.2 : List Dep))]⟩) (fun x => (x.2.2.length = (List.length a)) ∧ ∃ k, (List.length x.2.2) - x.2.1 < k ∧ (markDependencyS_l0 ((List.length a) - 0 + 1) k0 0 a) = markDependencyS_l0 k x.1 x.2.1 x.2.2) (fun x => (List.length x.2.2) - x.2.1) (k0, 0, a) (by kernel_rfl) ⟨?_, _, Nat.lt_succ_self _, rfl⟩ ?_)
  ·
   show a.length = (List.length a)
   omega
  ·
   intro x hR
   obtain ⟨k1, i, a1⟩ := x
   obtain ⟨hI0, k15, hk13, e14⟩ := hR
   replace hI0 : a1.length = (List.length a) := hI0
   replace hk13 : (List.length a1) - i < k15 := hk13
   obtain ⟨k15q, rfl⟩ : ∃ k, k15 = k + 1 := ⟨k15 - 1, by omega⟩
   refine AW.seq (AW.seq ?_)
   refine AW.regU hC  true [] [0, 1, 5, 9, 1000] [0]
    [(9, .bool (decide (((i : Nat) : Int) < ((List.length a1 : Nat) : Int))))] []
    [] (by kernel_rfl) ?_ ?_
   ·
    exact trivial
   refine AW.cd (decide (((i : Nat) : Int) < ((List.length a1 : Nat) : Int))) ?_ ?_
   ·
    intro h16
    have h16q : ((i : Nat) : Int) < ((List.length a1 : Nat) : Int) := (of_decide_eq_true h16)
    have e17 := e14.trans (Go.Am.bif_t h16)
    refine AW.kpU [0, 1, 5, 1000] [0] [] [] ?_
    refine AW.skip (AW.seq (AW.block (AW.seq ?_)))
    refine AW.regU hC  true [] [0, 1, 5, 1000] [0]
     [] [(0, .tree 1 (.named 0) ((List.set a1 i (Dep.mk k1 (Dep.To (List.getD a1 i Dep.zero)))) : List Dep))]
     [(0 ≤ ((i : Nat) : Int) ∧ ((i : Nat) : Int) < ((List.length a1 : Nat) : Int))] (by kernel_rfl) ?_ ?_
    ·
     refine ⟨?_, trivial⟩
     ·
      omega
    refine AW.seq ?_
    refine AW.regU hC  true [] [0, 1, 5, 1000] [0]
     [(1, .int .i64 (IntKind.wrap .i64 (k1 + 1)))] []
     [] (by kernel_rfl) ?_ ?_
    ·
     exact trivial
    refine AW.seq ?_
    refine AW.regU hC  true [] [0, 1, 5, 1000] [0]
     [] [(0, .tree 1 (.named 0) ((List.set (List.set a1 i (Dep.mk k1 (Dep.To (List.getD a1 i Dep.zero)))) i (Dep.mk (Dep.From (List.getD (List.set a1 i (Dep.mk k1 (Dep.To (List.getD a1 i Dep.zero)))) i Dep.zero)) (IntKind.wrap .i64 (k1 + 1)))) : List Dep))]
     [(0 ≤ ((i : Nat) : Int) ∧ ((i : Nat) : Int) < ((List.length (List.set a1 i (Dep.mk k1 (Dep.To (List.getD a1 i Dep.zero)))) : Nat) : Int))] (by kernel_rfl) ?_ ?_
    ·
     refine ⟨?_, trivial⟩
     ·
      simp only [lens] at *; omega
    refine AW.regU hC  true [] [0, 1, 5, 1000] [0]
     [(1, .int .i64 (IntKind.wrap .i64 ((IntKind.wrap .i64 (k1 + 1)) + 1)))] []
     [] (by kernel_rfl) ?_ ?_
    ·
     exact trivial
    refine AW.r0U hC [0, 1, 5, 1000] [0] [(5, .int .i64 ((i + 1 : Nat) : Int))] [] [(-9223372036854775808 ≤ ((i + 1 : Nat) : Int) ∧ ((i + 1 : Nat) : Int) ≤ 9223372036854775807)] ?_ ?_
    ·
     refine ⟨?_, trivial⟩
     ·
      omega
    refine AW.back (x := (k1, i, a1)) ((IntKind.wrap .i64 ((IntKind.wrap .i64 (k1 + 1)) + 1)), i + 1, (List.set (List.set a1 i (Dep.mk k1 (Dep.To (List.getD a1 i Dep.zero)))) i (Dep.mk (Dep.From (List.getD (List.set a1 i (Dep.mk k1 (Dep.To (List.getD a1 i Dep.zero)))) i Dep.zero)) (IntKind.wrap .i64 (k1 + 1))))) (by kernel_rfl) ⟨?_, k15q, ?_, e17⟩ ?_
    ·
     show (List.set (List.set a1 i (Dep.mk k1 (Dep.To (List.getD a1 i Dep.zero)))) i (Dep.mk (Dep.From (List.getD (List.set a1 i (Dep.mk k1 (Dep.To (List.getD a1 i Dep.zero)))) i Dep.zero)) (IntKind.wrap .i64 (k1 + 1)))).length = (List.length a)
     simp only [lens] at *; omega
    ·
     show (List.length (List.set (List.set a1 i (Dep.mk k1 (Dep.To (List.getD a1 i Dep.zero)))) i (Dep.mk (Dep.From (List.getD (List.set a1 i (Dep.mk k1 (Dep.To (List.getD a1 i Dep.zero)))) i Dep.zero)) (IntKind.wrap .i64 (k1 + 1))))) - (i + 1) < k15q
     simp only [lens]; omega
    ·
     show (List.length (List.set (List.set a1 i (Dep.mk k1 (Dep.To (List.getD a1 i Dep.zero)))) i (Dep.mk (Dep.From (List.getD (List.set a1 i (Dep.mk k1 (Dep.To (List.getD a1 i Dep.zero)))) i Dep.zero)) (IntKind.wrap .i64 (k1 + 1))))) - (i + 1) < (List.length a1) - i
     simp only [lens]; omega
   ·
    intro h18
    have h18q : ¬ (((i : Nat) : Int) < ((List.length a1 : Nat) : Int)) := (of_decide_eq_false h18)
    have e19 := e14.trans (Go.Am.bif_f h18)
    refine AW.kpU [1, 1000] [0] [] [] ?_
    refine AW.exit ?_
    refine AW.meet (k1, a1) (by kernel_rfl) ⟨?_, e19⟩
    show a1.length = (List.length a)
    assumption
 ·
  intro x hR
  obtain ⟨k1, a1⟩ := x
  obtain ⟨hJ0, e20⟩ := hR
  replace hJ0 : a1.length = (List.length a) := hJ0
  have e21 := e0.trans (Go.Am.then_eq e20)
  refine AW.seq ?_
  refine AW.regU hC  true [] [4, 1000] [0]
   [(4, .int .i64 k1)] []
   [] (by kernel_rfl) ?_ ?_
  ·
   exact trivial
  exact AW.ret (AW.retM (ys := a1) (k := k1) e21 (by kernel_rfl) (by kernel_rfl) (by kernel_rfl))

def heldDependencyS_l0 (a : List Dep) : Nat → Int → Nat → Int ⊕ Int
 | 0, k1, i => .inl k1
 | k + 1, k1, i => (bif (decide (((i : Nat) : Int) < ((List.length a : Nat) : Int))) then (bif ((Dep.From (List.getD a i Dep.zero)) != k1) then (.inr (-1)) else (bif ((Dep.To (List.getD a i Dep.zero)) != (IntKind.wrap .i64 (k1 + 1))) then (.inr (-1)) else (heldDependencyS_l0 a k (IntKind.wrap .i64 ((IntKind.wrap .i64 (k1 + 1)) + 1)) (i + 1)))) else (.inl k1))

def heldDependencyS (a : List Dep) (k0 : Int) : Int := (Sum.elim (fun z => (fun (k1 : Int) => k1) z) (fun r => r) (heldDependencyS_l0 a ((List.length a) - 0 + 1) k0 0))

def heldDependencyS_sp : FnSpec := mkSpec [.val (.slice (.named 0)), .val (.int .i64)] [.val (.int .i64)] (fun (a : List Dep) (k0 : Int) => True) (fun (a : List Dep) (k0 : Int) => [⟨(.int .i64), (heldDependencyS a k0)⟩])

theorem heldDependencyS_ok : FnOK Try.prog 35 heldDependencyS_sp := by
 have hC : CtxOK Try.prog (mkCtx tyL []) := CtxOK.nil tyOK
 refine FnOK.of_body Try.func35 (by kernel_rfl) rfl (C := (mkCtx tyL [])) hC.ty (by kernel_rfl) ?_
 intro (a : List Dep) (k0 : Int) hwf hpre E
 have hpre : True := hpre
 have hw_a : Wf ⟨(.slice (.named 0)), (a : List Dep)⟩ := hwf _ (List.Mem.head _)
 have hl_a : ((List.length a : Nat) : Int) ≤ 9223372036854775807 := hw_a.len
 have hw_k0 : Wf ⟨(.int .i64), (k0 : Int)⟩ := hwf _ (List.Mem.tail _ (List.Mem.head _))
 have hr_k0 : -9223372036854775808 ≤ k0 ∧ k0 ≤ 9223372036854775807 := hw_k0.int_inv
 have e0 : heldDependencyS a k0 = heldDependencyS a k0 := rfl
 refine AW.seq ?_
 refine AW.regU hC  true [] [0, 1] []
  [] []
  [] (by kernel_rfl) ?_ ?_
 ·
  exact trivial
 refine AW.seq (AW.seq (AW.r1U hC [0, 1, 5] [] [(5, .int .i64 0)] [] ?_))
 refine AW.cutQ (α := Int) (fun x => ⟨[(1, .int .i64 x)], []⟩) (fun x => (True) ∧ (heldDependencyS_l0 a ((List.length a) - 0 + 1) k0 0) = (.inl x)) ?_ ?_
 ·
  skip
  refine AW.block (AW.loop (α := Int × Nat) (fun x => ⟨[(0, .data (.slice (.named 0)) (a : List Dep)), (1, .int .i64 x.1), (5, .int .i64 ((x.2 : Nat) : Int))], []⟩) (fun x => (True) ∧ ∃ k, (List.length a) - x.2 < k ∧ (heldDependencyS_l0 a ((List.length a) - 0 + 1) k0 0) = heldDependencyS_l0 a k x.1 x.2) (fun x => (List.length a) - x.2) (k0, 0) (by kernel_rfl) ⟨?_, _, Nat.lt_succ_self _, rfl⟩ ?_)
  ·
   show True
   exact trivial
  ·
   intro x hR
   obtain ⟨k1, i⟩ := x
   obtain ⟨hI0, k45, hk43, e44⟩ := hR
   replace hI0 : True := hI0
   replace hk43 : (List.length a) - i < k45 := hk43
   obtain ⟨k45q, rfl⟩ : ∃ k, k45 = k + 1 := ⟨k45 - 1, by omega⟩
   refine AW.seq (AW.seq ?_)
   refine AW.regU hC  true [] [0, 1, 5, 9] []
    [(9, .bool (decide (((i : Nat) : Int) < ((List.length a : Nat) : Int))))] []
    [] (by kernel_rfl) ?_ ?_
   ·
    exact trivial
   refine AW.cd (decide (((i : Nat) : Int) < ((List.length a : Nat) : Int))) ?_ ?_
   ·
    intro h46
    have h46q : ((i : Nat) : Int) < ((List.length a : Nat) : Int) := (of_decide_eq_true h46)
    have e47 := e44.trans (Go.Am.bif_t h46)
    refine AW.kpU [0, 1, 5] [] [] [] ?_
    refine AW.skip (AW.seq (AW.block (AW.seq (AW.seq ?_))))
    refine AW.regU hC  true [] [0, 1, 5, 18] []
     [(18, .bool ((Dep.From (List.getD a i Dep.zero)) != k1))] []
     [(0 ≤ ((i : Nat) : Int) ∧ ((i : Nat) : Int) < ((List.length a : Nat) : Int))] (by kernel_rfl) ?_ ?_
    ·
     refine ⟨?_, trivial⟩
     ·
      omega
    refine AW.cd ((Dep.From (List.getD a i Dep.zero)) != k1) ?_ ?_
    ·
     intro h48
     have h48q : (Dep.From (List.getD a i Dep.zero)) ≠ k1 := (Go.Am.bne_pos h48)
     have e49 := e47.trans (Go.Am.bif_t h48)
     refine AW.seq ?_
     refine AW.reg hC  true [] [4] []
      ⟨[(4, .int .i64 (-1))], []⟩
      [] (by kernel_rfl) ?_ ?_
     ·
      exact trivial
     refine AW.ret ?_
     have e50 := e0.trans (Go.Am.elim_r e49)
     exact AW.retE (β := Int) (fun v => [⟨(.int .i64), v⟩]) (fun v => []) (v := (-1)) e50 (by kernel_rfl) rfl rfl
    ·
     intro h51
     have h51q : (Dep.From (List.getD a i Dep.zero)) = k1 := (Go.Am.bne_neg h51)
     have e52 := e47.trans (Go.Am.bif_f h51)
     refine AW.kpU [0, 1, 5] [] [] [] ?_
     refine AW.skip (AW.seq ?_)
     refine AW.regU hC  true [] [0, 1, 5] []
      [(1, .int .i64 (IntKind.wrap .i64 (k1 + 1)))] []
      [] (by kernel_rfl) ?_ ?_
     ·
      exact trivial
     refine AW.seq (AW.seq ?_)
     refine AW.regU hC  true [] [0, 1, 5, 27] []
      [(27, .bool ((Dep.To (List.getD a i Dep.zero)) != (IntKind.wrap .i64 (k1 + 1))))] []
      [(0 ≤ ((i : Nat) : Int) ∧ ((i : Nat) : Int) < ((List.length a : Nat) : Int))] (by kernel_rfl) ?_ ?_
     ·
      refine ⟨?_, trivial⟩
      ·
       omega
     refine AW.cd ((Dep.To (List.getD a i Dep.zero)) != (IntKind.wrap .i64 (k1 + 1))) ?_ ?_
     ·
      intro h53
      have h53q : (Dep.To (List.getD a i Dep.zero)) ≠ (IntKind.wrap .i64 (k1 + 1)) := (Go.Am.bne_pos h53)
      have e54 := e52.trans (Go.Am.bif_t h53)
      refine AW.seq ?_
      refine AW.reg hC  true [] [4] []
       ⟨[(4, .int .i64 (-1))], []⟩
       [] (by kernel_rfl) ?_ ?_
      ·
       exact trivial
      refine AW.ret ?_
      have e55 := e0.trans (Go.Am.elim_r e54)
      exact AW.retE (β := Int) (fun v => [⟨(.int .i64), v⟩]) (fun v => []) (v := (-1)) e55 (by kernel_rfl) rfl rfl
     ·
      intro h56
      have h56q : (Dep.To (List.getD a i Dep.zero)) = (IntKind.wrap .i64 (k1 + 1)) := (Go.Am.bne_neg h56)
      have e57 := e52.trans (Go.Am.bif_f h56)
      refine AW.kpU [0, 1, 5] [] [] [] ?_
      refine AW.skip ?_
      refine AW.regU hC  true [] [0, 1, 5] []
       [(1, .int .i64 (IntKind.wrap .i64 ((IntKind.wrap .i64 (k1 + 1)) + 1)))] []
       [] (by kernel_rfl) ?_ ?_
      ·
       exact trivial
      refine AW.r0U hC [0, 1, 5] [] [(5, .int .i64 ((i + 1 : Nat) : Int))] [] [(-9223372036854775808 ≤ ((i + 1 : Nat) : Int) ∧ ((i + 1 : Nat) : Int) ≤ 9223372036854775807)] ?_ ?_
      ·
       refine ⟨?_, trivial⟩
       ·
        omega
      refine AW.back (x := (k1, i)) ((IntKind.wrap .i64 ((IntKind.wrap .i64 (k1 + 1)) + 1)), i + 1) (by kernel_rfl) ⟨?_, k45q, ?_, e57⟩ ?_
      ·
       show True
       assumption
      ·
       show (List.length a) - (i + 1) < k45q
       omega
      ·
       show (List.length a) - (i + 1) < (List.length a) - i
       omega
   ·
    intro h58
    have h58q : ¬ (((i : Nat) : Int) < ((List.length a : Nat) : Int)) := (of_decide_eq_false h58)
    have e59 := e44.trans (Go.Am.bif_f h58)
    refine AW.kpU [1] [] [] [] ?_
    refine AW.exit ?_
    refine AW.meet k1 (by kernel_rfl) ⟨?_, e59⟩
    show True
    assumption
 ·
  intro k1 hR
  obtain ⟨hJ0, e60⟩ := hR
  replace hJ0 : True := hJ0
  have e61 := e0.trans (Go.Am.elim_l e60)
  refine AW.seq ?_
  refine AW.reg hC  true [] [4] []
   ⟨[(4, .int .i64 k1)], []⟩
   [] (by kernel_rfl) ?_ ?_
  ·
   exact trivial
  exact AW.ret (AW.retE (β := Int) (fun v => [⟨(.int .i64), v⟩]) (fun v => []) (v := k1) e61 (by kernel_rfl) rfl rfl)

def FnExactMinimalCover (aFds : List Dep) (aWidth : Int) : Bool := (bif (decide ((szDependencyS aFds 1048576) < 0)) then true else (bif (!(eqDependencyS (iMinCover (toDependencyS aFds) aWidth) (MinimalCover (toDependencyS aFds) aWidth))) then false else (bif (!(eqDependencyS (toDependencyS aFds) (toDependencyS aFds))) then false else (bif (bif (decide ((markDependencyS (toDependencyS aFds) 1).2 < 0)) then true else (!(eqDependencyS (iMinCover (toDependencyS aFds) aWidth) (MinimalCover (toDependencyS aFds) aWidth)))) then false else (bif (decide ((heldDependencyS ((markDependencyS (iMinCover (toDependencyS aFds) aWidth) 1).1) 1) < 0)) then false else (bif ((heldDependencyS ((markDependencyS (iMinCover (toDependencyS aFds) aWidth) 1).1) 1) != (markDependencyS (iMinCover (toDependencyS aFds) aWidth) 1).2) then false else (bif (!(eqDependencyS (iMinCover (toDependencyS aFds) aWidth) (MinimalCover (toDependencyS aFds) aWidth))) then false else (bif (decide ((heldDependencyS ((markDependencyS (iMinCover (toDependencyS aFds) aWidth) 1).1) 1) < 0)) then false else (bif ((heldDependencyS ((markDependencyS (iMinCover (toDependencyS aFds) aWidth) 1).1) 1) != (markDependencyS (iMinCover (toDependencyS aFds) aWidth) 1).2) then false else true)))))))))

def FnExactMinimalCover_sp : FnSpec := mkSpec [.val (.slice (.named 0)), .val (.int .i64)] [.val .bool] (fun (aFds : List Dep) (aWidth : Int) => True) (fun (aFds : List Dep) (aWidth : Int) => [⟨.bool, (FnExactMinimalCover aFds aWidth)⟩])

theorem FnExactMinimalCover_ok : FnOK Try.prog 11 FnExactMinimalCover_sp := by
 have hC : CtxOK Try.prog { (mkCtx tyL [(12, szDependencyS_sp), (14, toDependencyS_sp), (16, eqDependencyS_sp), (31, iMinCover_sp), (33, MinimalCover_sp), (35, heldDependencyS_sp)]) with deep := true } := CtxOK.deepen (CtxOK.cons szDependencyS_ok (CtxOK.cons toDependencyS_ok (CtxOK.cons eqDependencyS_ok (CtxOK.cons iMinCover_ok (CtxOK.cons MinimalCover_ok (CtxOK.cons heldDependencyS_ok (CtxOK.nil tyOK)))))))
 refine FnOK.of_body Try.func11 (by kernel_rfl) rfl (C := { (mkCtx tyL [(12, szDependencyS_sp), (14, toDependencyS_sp), (16, eqDependencyS_sp), (31, iMinCover_sp), (33, MinimalCover_sp), (35, heldDependencyS_sp)]) with deep := true }) hC.ty (by kernel_rfl) ?_
 intro (aFds : List Dep) (aWidth : Int) hwf hpre E
 have hpre : True := hpre
 have hw_aFds : Wf ⟨(.slice (.named 0)), (aFds : List Dep)⟩ := hwf _ (List.Mem.head _)
 have hl_aFds : ((List.length aFds : Nat) : Int) ≤ 9223372036854775807 := hw_aFds.len
 have hw_aWidth : Wf ⟨(.int .i64), (aWidth : Int)⟩ := hwf _ (List.Mem.tail _ (List.Mem.head _))
 have hr_aWidth : -9223372036854775808 ≤ aWidth ∧ aWidth ≤ 9223372036854775807 := hw_aWidth.int_inv
 have e0 : FnExactMinimalCover aFds aWidth = FnExactMinimalCover aFds aWidth := rfl
 refine AW.seq (AW.r1U hC [0, 1] [] [] [] ?_)
 refine AW.seq (AW.r1U hC [0, 1, 5] [] [(5, .int .i64 1048576)] [] ?_)
 refine AW.seq (AW.r0U hC [0, 1, 5] [] [(5, .int .i64 (szDependencyS aFds 1048576))] [] [(0 ≤ (1048576 : Int))] ?_ ?_)
 ·
  refine ⟨?_, trivial⟩
  ·
   omega
 refine AW.seq (AW.seq (AW.r1U hC [0, 1, 17] [] [(17, .bool (decide ((szDependencyS aFds 1048576) < 0)))] [] ?_))
 refine AW.cd (decide ((szDependencyS aFds 1048576) < 0)) ?_ ?_
 ·
  intro h1
  have h1q : (szDependencyS aFds 1048576) < 0 := (of_decide_eq_true h1)
  have e2 := e0.trans (Go.Am.bif_t h1)
  refine AW.seq (AW.r1 hC [4] [] ⟨[(4, .bool true)], []⟩ ?_)
  exact AW.ret (AW.retE (β := Bool) (fun v => [⟨.bool, v⟩]) (fun v => []) (v := true) e2 (by kernel_rfl) rfl rfl)
 ·
  intro h3
  have h3q : ¬ ((szDependencyS aFds 1048576) < 0) := (of_decide_eq_false h3)
  have e4 := e0.trans (Go.Am.bif_f h3)
  refine AW.kpU [0, 1] [] [] [] ?_
  refine AW.skip (AW.seq (AW.r0U hC [0, 1, 6] [] [(6, .data (.slice (.named 0)) ((MinimalCover (toDependencyS aFds) aWidth) : List Dep))] [] [((List.length aFds : Int) ≤ 1048576), (True)] ?_ ?_))
  ·
   refine ⟨?_, ?_, trivial⟩
   ·
    exact szDep_le (by assumption)
   ·
    trivial
  refine AW.seq (AW.r0U hC [0, 1, 6, 7] [92] [(7, .arr 92 1)] [(92, .arr 1 (.named 0) ((toDependencyS aFds) : List Dep))] [((List.length aFds : Int) ≤ 1048576)] ?_ ?_)
  ·
   refine ⟨?_, trivial⟩
   ·
    exact szDep_le (by assumption)
  refine AW.seq (AW.r0U hC [0, 1, 6, 7, 8] [92, 104] [(8, .arr 104 1)] [(104, .arr 1 (.named 0) ((iMinCover (toDependencyS aFds) aWidth) : List Dep))] [(True)] ?_ ?_)
  ·
   refine ⟨?_, trivial⟩
   ·
    trivial
  refine AW.seq (AW.seq (AW.r0U hC [0, 1, 6, 7, 8, 30] [92, 104] [(30, .bool (!(eqDependencyS (iMinCover (toDependencyS aFds) aWidth) (MinimalCover (toDependencyS aFds) aWidth))))] [] [(True)] ?_ ?_))
  ·
   refine ⟨?_, trivial⟩
   ·
    trivial
  refine AW.cd (!(eqDependencyS (iMinCover (toDependencyS aFds) aWidth) (MinimalCover (toDependencyS aFds) aWidth))) ?_ ?_
  ·
   intro h5
   have h5q : (eqDependencyS (iMinCover (toDependencyS aFds) aWidth) (MinimalCover (toDependencyS aFds) aWidth)) = false := (Go.Am.not_pos h5)
   have e6 := e4.trans (Go.Am.bif_t h5)
   refine AW.seq (AW.r1 hC [4] [] ⟨[(4, .bool false)], []⟩ ?_)
   exact AW.ret (AW.retE (β := Bool) (fun v => [⟨.bool, v⟩]) (fun v => []) (v := false) e6 (by kernel_rfl) rfl rfl)
  ·
   intro h7
   have h7q : (eqDependencyS (iMinCover (toDependencyS aFds) aWidth) (MinimalCover (toDependencyS aFds) aWidth)) = true := (Go.Am.not_neg h7)
   have e8 := e4.trans (Go.Am.bif_f h7)
   refine AW.kpU [0, 1, 6, 7, 8] [92, 104] [] [] ?_
   refine AW.skip (AW.seq (AW.seq (AW.r0 hC [0, 1, 6, 7, 8, 35] [92, 104] ⟨[(0, .data (.slice (.named 0)) (aFds : List Dep)), (1, .int .i64 aWidth), (6, .data (.slice (.named 0)) ((MinimalCover (toDependencyS aFds) aWidth) : List Dep)), (7, .arr 92 1), (8, .arr 104 1), (35, .bool (!(eqDependencyS (toDependencyS aFds) (toDependencyS aFds))))], [(92, .arr 1 (.named 0) ((toDependencyS aFds) : List Dep)), (104, .arr 1 (.named 0) ((iMinCover (toDependencyS aFds) aWidth) : List Dep))]⟩ [((List.length aFds : Int) ≤ 1048576), (True)] ?_ ?_)))
   ·
    refine ⟨?_, ?_, trivial⟩
    ·
     exact szDep_le (by assumption)
    ·
     trivial
   refine AW.cd (!(eqDependencyS (toDependencyS aFds) (toDependencyS aFds))) ?_ ?_
   ·
    intro h9
    have h9q : (eqDependencyS (toDependencyS aFds) (toDependencyS aFds)) = false := (Go.Am.not_pos h9)
    have e10 := e8.trans (Go.Am.bif_t h9)
    refine AW.seq (AW.r1 hC [4] [] ⟨[(4, .bool false)], []⟩ ?_)
    exact AW.ret (AW.retE (β := Bool) (fun v => [⟨.bool, v⟩]) (fun v => []) (v := false) e10 (by kernel_rfl) rfl rfl)
   ·
    intro h11
    have h11q : (eqDependencyS (toDependencyS aFds) (toDependencyS aFds)) = true := (Go.Am.not_neg h11)
    have e12 := e8.trans (Go.Am.bif_f h11)
    refine AW.kpU [0, 1, 6, 7, 8] [92, 104] [] [] ?_
    refine AW.skip (AW.seq (AW.r1U hC [0, 1, 6, 7, 8, 9] [92, 104] [(9, .int .i64 1)] [] ?_))
    refine AW.seq (AW.treed [7] 92 1 (.named 0) ((toDependencyS aFds) : List Dep) (by rintro s (_ | ⟨_, ⟨⟩⟩) <;> kernel_rfl) (by kernel_rfl) (by kernel_rfl) ?_)
    refine AW.kp [0, 1, 6, 7, 8, 9] [92, 104] ⟨[(0, .data (.slice (.named 0)) (aFds : List Dep)), (1, .int .i64 aWidth), (6, .data (.slice (.named 0)) ((MinimalCover (toDependencyS aFds) aWidth) : List Dep)), (7, .tr 92 1), (8, .arr 104 1), (9, .int .i64 1)], [(92, .tree 1 (.named 0) ((toDependencyS aFds) : List Dep)), (104, .arr 1 (.named 0) ((iMinCover (toDependencyS aFds) aWidth) : List Dep))]⟩ ?_
    refine AW.regionO [0, 1, 2, 3] (by rfl) ?_
    refine AWO.runU hC false [] [0, 1] [2, 3] [0, 1, 6, 8, 36, 37] [92, 104]
     [(36, .tr 92 1), (37, .int .i64 1)] []
     [] (by rfl) (by kernel_rfl) ?_ ?_
    ·
     exact trivial
    refine AWO.mark (u := (.named 0)) (id := 92) (ep := 1) (xs := ((toDependencyS aFds) : List Dep)) (k := 1) markDependencyS_ok (by rfl) (by rfl) (by kernel_rfl) (by kernel_rfl) (by kernel_rfl) (by kernel_rfl) ?_ ?_
    ·
     show True
     assumption
    refine AWO.keepU [0, 1, 6, 8, 38] [104] [(38, .int .i64 (markDependencyS (toDependencyS aFds) 1).2)] [] (by kernel_rfl) ?_
    refine AWO.runU hC false [] [3] [] [0, 1, 6, 8, 9] [104]
     [(9, .int .i64 (markDependencyS (toDependencyS aFds) 1).2)] []
     [] (by rfl) (by kernel_rfl) ?_ ?_
    ·
     exact trivial
    refine AWO.nil ?_
    refine AW.seq (AW.seq (AW.r0U hC [0, 1, 6, 8, 46] [104] [(46, .bool (bif (decide ((markDependencyS (toDependencyS aFds) 1).2 < 0)) then true else (!(eqDependencyS (iMinCover (toDependencyS aFds) aWidth) (MinimalCover (toDependencyS aFds) aWidth)))))] [] [(((decide ((markDependencyS (toDependencyS aFds) 1).2 < 0)) = false) → (((decide ((markDependencyS (toDependencyS aFds) 1).2 < 0)) = false))), (((decide ((markDependencyS (toDependencyS aFds) 1).2 < 0)) = false) → (((decide ((markDependencyS (toDependencyS aFds) 1).2 < 0)) = false))), (((decide ((markDependencyS (toDependencyS aFds) 1).2 < 0)) = false) → (True)), (((decide ((markDependencyS (toDependencyS aFds) 1).2 < 0)) = false) → (((decide ((markDependencyS (toDependencyS aFds) 1).2 < 0)) = false))), (((decide ((markDependencyS (toDependencyS aFds) 1).2 < 0)) = false) → (((decide ((markDependencyS (toDependencyS aFds) 1).2 < 0)) = false)))] ?_ ?_))
    ·
     refine ⟨?_, ?_, ?_, ?_, ?_, trivial⟩
     ·
      intro g13
      have g13p0 : ¬ ((markDependencyS (toDependencyS aFds) 1).2 < 0) := (of_decide_eq_false g13)
      assumption
     ·
      intro g14
      have g14p0 : ¬ ((markDependencyS (toDependencyS aFds) 1).2 < 0) := (of_decide_eq_false g14)
      assumption
     ·
      intro g15
      have g15p0 : ¬ ((markDependencyS (toDependencyS aFds) 1).2 < 0) := (of_decide_eq_false g15)
      trivial
     ·
      intro g16
      have g16p0 : ¬ ((markDependencyS (toDependencyS aFds) 1).2 < 0) := (of_decide_eq_false g16)
      assumption
     ·
      intro g17
      have g17p0 : ¬ ((markDependencyS (toDependencyS aFds) 1).2 < 0) := (of_decide_eq_false g17)
      assumption
    refine AW.cd (bif (decide ((markDependencyS (toDependencyS aFds) 1).2 < 0)) then true else (!(eqDependencyS (iMinCover (toDependencyS aFds) aWidth) (MinimalCover (toDependencyS aFds) aWidth)))) ?_ ?_
    ·
     intro h18
     have h18q : ((markDependencyS (toDependencyS aFds) 1).2 < 0) ∨ ((eqDependencyS (iMinCover (toDependencyS aFds) aWidth) (MinimalCover (toDependencyS aFds) aWidth)) = false) := (Or.imp (fun h => (of_decide_eq_true h)) (fun h => (Go.Am.not_pos h)) (Go.Am.or_pos h18))
     have e19 := e12.trans (Go.Am.bif_t h18)
     refine AW.seq (AW.r1 hC [4] [] ⟨[(4, .bool false)], []⟩ ?_)
     exact AW.ret (AW.retE (β := Bool) (fun v => [⟨.bool, v⟩]) (fun v => []) (v := false) e19 (by kernel_rfl) rfl rfl)
    ·
     intro h20
     have h20q : (¬ ((markDependencyS (toDependencyS aFds) 1).2 < 0)) ∧ ((eqDependencyS (iMinCover (toDependencyS aFds) aWidth) (MinimalCover (toDependencyS aFds) aWidth)) = true) := (And.imp (fun h => (of_decide_eq_false h)) (fun h => (Go.Am.not_neg h)) (Go.Am.or_neg h20))
     have e21 := e12.trans (Go.Am.bif_f h20)
     refine AW.kpU [0, 1, 6, 8] [104] [] [] ?_
     refine AW.skip (AW.seq (AW.r1U hC [0, 1, 6, 8, 10] [104] [(10, .int .i64 1)] [] ?_))
     refine AW.seq (AW.treed [8] 104 1 (.named 0) ((iMinCover (toDependencyS aFds) aWidth) : List Dep) (by rintro s (_ | ⟨_, ⟨⟩⟩) <;> kernel_rfl) (by kernel_rfl) (by kernel_rfl) ?_)
     refine AW.kp [0, 1, 6, 8, 10] [104] ⟨[(0, .data (.slice (.named 0)) (aFds : List Dep)), (1, .int .i64 aWidth), (6, .data (.slice (.named 0)) ((MinimalCover (toDependencyS aFds) aWidth) : List Dep)), (8, .tr 104 1), (10, .int .i64 1)], [(104, .tree 1 (.named 0) ((iMinCover (toDependencyS aFds) aWidth) : List Dep))]⟩ ?_
     refine AW.regionO [0, 1, 2, 3] (by rfl) ?_
     refine AWO.runU hC false [] [0, 1] [2, 3] [0, 1, 6, 8, 47, 48] [104]
      [(47, .tr 104 1), (48, .int .i64 1)] []
      [] (by rfl) (by kernel_rfl) ?_ ?_
     ·
      exact trivial
     refine AWO.mark (u := (.named 0)) (id := 104) (ep := 1) (xs := ((iMinCover (toDependencyS aFds) aWidth) : List Dep)) (k := 1) markDependencyS_ok (by rfl) (by rfl) (by kernel_rfl) (by kernel_rfl) (by kernel_rfl) (by kernel_rfl) ?_ ?_
     ·
      show True
      assumption
     refine AWO.keepU [0, 1, 6, 8, 49] [104] [(49, .int .i64 (markDependencyS (iMinCover (toDependencyS aFds) aWidth) 1).2)] [(104, .tree 1 (.named 0) ((markDependencyS (iMinCover (toDependencyS aFds) aWidth) 1).1 : List Dep))] (by kernel_rfl) ?_
     refine AWO.runU hC false [] [3] [] [0, 1, 6, 8, 10] [104]
      [(10, .int .i64 (markDependencyS (iMinCover (toDependencyS aFds) aWidth) 1).2)] []
      [] (by rfl) (by kernel_rfl) ?_ ?_
     ·
      exact trivial
     refine AWO.nil ?_
     refine AW.seq (AW.r1U hC [0, 1, 6, 8, 10, 11] [104] [(11, .int .i64 1)] [] ?_)
     refine AW.seq (AW.r0U hC [0, 1, 6, 8, 10, 11] [104] [(11, .int .i64 (heldDependencyS ((markDependencyS (iMinCover (toDependencyS aFds) aWidth) 1).1) 1))] [] [(True)] ?_ ?_)
     ·
      refine ⟨?_, trivial⟩
      ·
       trivial
     refine AW.seq (AW.seq (AW.r1U hC [0, 1, 6, 8, 10, 11, 54] [104] [(54, .bool (decide ((heldDependencyS ((markDependencyS (iMinCover (toDependencyS aFds) aWidth) 1).1) 1) < 0)))] [] ?_))
     refine AW.cd (decide ((heldDependencyS ((markDependencyS (iMinCover (toDependencyS aFds) aWidth) 1).1) 1) < 0)) ?_ ?_
     ·
      intro h22
      have h22q : (heldDependencyS ((markDependencyS (iMinCover (toDependencyS aFds) aWidth) 1).1) 1) < 0 := (of_decide_eq_true h22)
      have e23 := e21.trans (Go.Am.bif_t h22)
      refine AW.seq (AW.r1 hC [4] [] ⟨[(4, .bool false)], []⟩ ?_)
      exact AW.ret (AW.retE (β := Bool) (fun v => [⟨.bool, v⟩]) (fun v => []) (v := false) e23 (by kernel_rfl) rfl rfl)
     ·
      intro h24
      have h24q : ¬ ((heldDependencyS ((markDependencyS (iMinCover (toDependencyS aFds) aWidth) 1).1) 1) < 0) := (of_decide_eq_false h24)
      have e25 := e21.trans (Go.Am.bif_f h24)
      refine AW.kpU [0, 1, 6, 8, 10, 11] [104] [] [] ?_
      refine AW.skip (AW.seq (AW.seq (AW.r1U hC [0, 1, 6, 8, 10, 57] [104] [(57, .bool ((heldDependencyS ((markDependencyS (iMinCover (toDependencyS aFds) aWidth) 1).1) 1) != (markDependencyS (iMinCover (toDependencyS aFds) aWidth) 1).2))] [] ?_)))
      refine AW.cd ((heldDependencyS ((markDependencyS (iMinCover (toDependencyS aFds) aWidth) 1).1) 1) != (markDependencyS (iMinCover (toDependencyS aFds) aWidth) 1).2) ?_ ?_
      ·
       intro h26
       have h26q : (heldDependencyS ((markDependencyS (iMinCover (toDependencyS aFds) aWidth) 1).1) 1) ≠ (markDependencyS (iMinCover (toDependencyS aFds) aWidth) 1).2 := (Go.Am.bne_pos h26)
       have e27 := e25.trans (Go.Am.bif_t h26)
       refine AW.seq (AW.r1 hC [4] [] ⟨[(4, .bool false)], []⟩ ?_)
       exact AW.ret (AW.retE (β := Bool) (fun v => [⟨.bool, v⟩]) (fun v => []) (v := false) e27 (by kernel_rfl) rfl rfl)
      ·
       intro h28
       have h28q : (heldDependencyS ((markDependencyS (iMinCover (toDependencyS aFds) aWidth) 1).1) 1) = (markDependencyS (iMinCover (toDependencyS aFds) aWidth) 1).2 := (Go.Am.bne_neg h28)
       have e29 := e25.trans (Go.Am.bif_f h28)
       refine AW.kpU [0, 1, 6, 8, 10] [104] [] [] ?_
       refine AW.skip (AW.seq (AW.r0U hC [6, 8, 10, 12] [104, 244] [(12, .arr 244 1)] [(244, .arr 1 (.named 0) ((iMinCover (toDependencyS aFds) aWidth) : List Dep))] [((List.length aFds : Int) ≤ 1048576), (True)] ?_ ?_))
       ·
        refine ⟨?_, ?_, trivial⟩
        ·
         exact szDep_le (by assumption)
        ·
         trivial
       refine AW.seq (AW.seq (AW.r0 hC [8, 10, 65] [104] ⟨[(8, .tr 104 1), (10, .int .i64 (markDependencyS (iMinCover (toDependencyS aFds) aWidth) 1).2), (65, .bool (!(eqDependencyS (iMinCover (toDependencyS aFds) aWidth) (MinimalCover (toDependencyS aFds) aWidth))))], [(104, .tree 1 (.named 0) ((markDependencyS (iMinCover (toDependencyS aFds) aWidth) 1).1 : List Dep))]⟩ [(True)] ?_ ?_))
       ·
        refine ⟨?_, trivial⟩
        ·
         trivial
       refine AW.cd (!(eqDependencyS (iMinCover (toDependencyS aFds) aWidth) (MinimalCover (toDependencyS aFds) aWidth))) ?_ ?_
       ·
        intro h30
        have h30q : (eqDependencyS (iMinCover (toDependencyS aFds) aWidth) (MinimalCover (toDependencyS aFds) aWidth)) = false := (Go.Am.not_pos h30)
        have e31 := e29.trans (Go.Am.bif_t h30)
        refine AW.seq (AW.r1 hC [4] [] ⟨[(4, .bool false)], []⟩ ?_)
        exact AW.ret (AW.retE (β := Bool) (fun v => [⟨.bool, v⟩]) (fun v => []) (v := false) e31 (by kernel_rfl) rfl rfl)
       ·
        intro h32
        have h32q : (eqDependencyS (iMinCover (toDependencyS aFds) aWidth) (MinimalCover (toDependencyS aFds) aWidth)) = true := (Go.Am.not_neg h32)
        have e33 := e29.trans (Go.Am.bif_f h32)
        refine AW.kpU [8, 10] [104] [] [] ?_
        refine AW.skip (AW.seq (AW.r1U hC [8, 10, 11] [104] [(11, .int .i64 1)] [] ?_))
        refine AW.seq (AW.r0U hC [10, 11] [] [(11, .int .i64 (heldDependencyS ((markDependencyS (iMinCover (toDependencyS aFds) aWidth) 1).1) 1))] [] [(True)] ?_ ?_)
        ·
         refine ⟨?_, trivial⟩
         ·
          trivial
        refine AW.seq (AW.seq (AW.r1U hC [10, 11, 70] [] [(70, .bool (decide ((heldDependencyS ((markDependencyS (iMinCover (toDependencyS aFds) aWidth) 1).1) 1) < 0)))] [] ?_))
        refine AW.cd (decide ((heldDependencyS ((markDependencyS (iMinCover (toDependencyS aFds) aWidth) 1).1) 1) < 0)) ?_ ?_
        ·
         intro h34
         have h34q : (heldDependencyS ((markDependencyS (iMinCover (toDependencyS aFds) aWidth) 1).1) 1) < 0 := (of_decide_eq_true h34)
         have e35 := e33.trans (Go.Am.bif_t h34)
         refine AW.seq (AW.r1 hC [4] [] ⟨[(4, .bool false)], []⟩ ?_)
         exact AW.ret (AW.retE (β := Bool) (fun v => [⟨.bool, v⟩]) (fun v => []) (v := false) e35 (by kernel_rfl) rfl rfl)
        ·
         intro h36
         have h36q : ¬ ((heldDependencyS ((markDependencyS (iMinCover (toDependencyS aFds) aWidth) 1).1) 1) < 0) := (of_decide_eq_false h36)
         have e37 := e33.trans (Go.Am.bif_f h36)
         refine AW.kpU [10, 11] [] [] [] ?_
         refine AW.skip (AW.seq (AW.seq (AW.r1 hC [73] [] ⟨[(73, .bool ((heldDependencyS ((markDependencyS (iMinCover (toDependencyS aFds) aWidth) 1).1) 1) != (markDependencyS (iMinCover (toDependencyS aFds) aWidth) 1).2))], []⟩ ?_)))
         refine AW.cd ((heldDependencyS ((markDependencyS (iMinCover (toDependencyS aFds) aWidth) 1).1) 1) != (markDependencyS (iMinCover (toDependencyS aFds) aWidth) 1).2) ?_ ?_
         ·
          intro h38
          have h38q : (heldDependencyS ((markDependencyS (iMinCover (toDependencyS aFds) aWidth) 1).1) 1) ≠ (markDependencyS (iMinCover (toDependencyS aFds) aWidth) 1).2 := (Go.Am.bne_pos h38)
          have e39 := e37.trans (Go.Am.bif_t h38)
          refine AW.seq (AW.r1 hC [4] [] ⟨[(4, .bool false)], []⟩ ?_)
          exact AW.ret (AW.retE (β := Bool) (fun v => [⟨.bool, v⟩]) (fun v => []) (v := false) e39 (by kernel_rfl) rfl rfl)
         ·
          intro h40
          have h40q : (heldDependencyS ((markDependencyS (iMinCover (toDependencyS aFds) aWidth) 1).1) 1) = (markDependencyS (iMinCover (toDependencyS aFds) aWidth) 1).2 := (Go.Am.bne_neg h40)
          have e41 := e37.trans (Go.Am.bif_f h40)
          refine AW.kp [] [] ⟨[], []⟩ ?_
          refine AW.skip (AW.seq (AW.r1 hC [4] [] ⟨[(4, .bool true)], []⟩ ?_))
          exact AW.ret (AW.retE (β := Bool) (fun v => [⟨.bool, v⟩]) (fun v => []) (v := true) e41 (by kernel_rfl) rfl rfl)

end
end Go.Proofs.Ytmijmkbnmcmgcaa
