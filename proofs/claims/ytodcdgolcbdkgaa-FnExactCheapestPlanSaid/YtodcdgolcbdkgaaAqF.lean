/-
  A part of the proof of this claim (AqF): what functions of the program compute, and plain facts of that. No conditions.
-/
import Derived.Test.YtodcdgolcbdkgaaAqC
set_option linter.all false
namespace Go.Proofs.Ytodcdgolcbdkgaa
open Go Go.Am
noncomputable section

def szPlanS_l0 (a : List Pln) : Nat → Int → Nat → Int ⊕ Int
 | 0, left1, i => .inl left1
 | k + 1, left1, i => (bif (decide (((i : Nat) : Int) < ((List.length a : Nat) : Int))) then (bif (decide ((szPlan (List.getD a i Pln.zero) left1) < 0)) then (.inr (-1)) else (szPlanS_l0 a k (szPlan (List.getD a i Pln.zero) left1) (i + 1))) else (.inl left1))

def szPlanS (a : List Pln) (left : Int) : Int := (bif (decide ((left - ((List.length a : Nat) : Int)) < 0)) then (-1) else (Sum.elim (fun z => (fun (left1 : Int) => left1) z) (fun r => r) (szPlanS_l0 a ((List.length a) - 0 + 1) (left - ((List.length a : Nat) : Int)) 0)))

def szPlanS_sp : FnSpec := mkSpec [.val (.slice (.named 2)), .val (.int .i64)] [.val (.int .i64)] (fun (a : List Pln) (left : Int) => 0 ≤ left) (fun (a : List Pln) (left : Int) => [⟨(.int .i64), (szPlanS a left)⟩])

theorem szPlanS_ok : FnOK Try.prog 23 szPlanS_sp := by
 have hC : CtxOK Try.prog (mkCtx tyL [(15, szPlan_sp)]) := CtxOK.cons szPlan_ok (CtxOK.nil tyOK)
 refine FnOK.of_body Try.func23 (by kernel_rfl) rfl (C := (mkCtx tyL [(15, szPlan_sp)])) hC.ty (by kernel_rfl) ?_
 intro (a : List Pln) (left : Int) hwf hpre E
 have hpre : 0 ≤ left := hpre
 have hw_a : Wf ⟨(.slice (.named 2)), (a : List Pln)⟩ := hwf _ (List.Mem.head _)
 have hl_a : ((List.length a : Nat) : Int) ≤ 9223372036854775807 := hw_a.len
 have hw_left : Wf ⟨(.int .i64), (left : Int)⟩ := hwf _ (List.Mem.tail _ (List.Mem.head _))
 have hr_left : -9223372036854775808 ≤ left ∧ left ≤ 9223372036854775807 := hw_left.int_inv
 have e0 : szPlanS a left = szPlanS a left := rfl
 refine AW.seq (AW.r1 hC [0, 1] [] ⟨[(0, sD10 a), (1, sI left)], []⟩ ?_)
 refine AW.seq (AW.r0 hC [0, 1] [] ⟨[(0, sD10 a), (1, sI (left - ((List.length a : Nat) : Int)))], []⟩ [R64 (left - ((List.length a : Nat) : Int))] ?_ ?_)
 ·
  refine ⟨?_, trivial⟩
  ·
   refine R64.of ?_
   omega
 refine AW.seq (AW.seq (AW.r1 hC [0, 1, 11] [] ⟨[(0, sD10 a), (1, sI (left - ((List.length a : Nat) : Int))), (11, sB (decide ((left - ((List.length a : Nat) : Int)) < 0)))], []⟩ ?_))
 refine AW.cd (decide ((left - ((List.length a : Nat) : Int)) < 0)) ?_ ?_
 ·
  intro h1
  have h1q := (of_decide_eq_true h1)
  have e2 := e0.trans (Go.Am.bif_t h1)
  refine AW.seq (AW.r1 hC [4] [] ⟨[(4, sI (-1))], []⟩ ?_)
  exact AW.ret (AW.rI (-1) e2)
 ·
  intro h3
  have h3q := (of_decide_eq_false h3)
  have e4 := e0.trans (Go.Am.bif_f h3)
  refine AW.kp [0, 1] [] ⟨[(0, sD10 a), (1, sI (left - ((List.length a : Nat) : Int)))], []⟩ ?_
  refine AW.skip (AW.seq (AW.seq (AW.r1 hC [0, 1, 5] [] ⟨[(0, sD10 a), (1, sI (left - ((List.length a : Nat) : Int))), (5, sI 0)], []⟩ ?_)))
  refine AW.cutQ (α := Int) (fun x => ⟨[(1, sI x)], []⟩) (fun x => (0 ≤ x) ∧ (szPlanS_l0 a ((List.length a) - 0 + 1) (left - ((List.length a : Nat) : Int)) 0) = (.inl x)) ?_ ?_
  ·
   skip
   refine AW.block (AW.loop (α := Int × Nat) (fun x => ⟨[(0, sD10 a), (1, sI x.1), (5, sI ((x.2 : Nat) : Int))], []⟩) (fun x => (0 ≤ x.1) ∧ ∃ k, (List.length a) - x.2 < k ∧ (szPlanS_l0 a ((List.length a) - 0 + 1) (left - ((List.length a : Nat) : Int)) 0) = szPlanS_l0 a k x.1 x.2) (fun x => (List.length a) - x.2) ((left - ((List.length a : Nat) : Int)), 0) (by kernel_rfl) ⟨?_, _, Nat.lt_succ_self _, rfl⟩ ?_)
   ·
    show 0 ≤ (left - ((List.length a : Nat) : Int))
    omega
   ·
    intro x hR
    obtain ⟨left1, i⟩ := x
    obtain ⟨hI0, k37, hk35, e36⟩ := hR
    replace hI0 : 0 ≤ left1 := hI0
    replace hk35 : (List.length a) - i < k37 := hk35
    obtain ⟨k37q, rfl⟩ : ∃ k, k37 = k + 1 := ⟨k37 - 1, by omega⟩
    refine AW.seq (AW.seq (AW.r1 hC [0, 1, 5, 15] [] ⟨[(0, sD10 a), (1, sI left1), (5, sI ((i : Nat) : Int)), (15, sB (decide (((i : Nat) : Int) < ((List.length a : Nat) : Int))))], []⟩ ?_))
    refine AW.cd (decide (((i : Nat) : Int) < ((List.length a : Nat) : Int))) ?_ ?_
    ·
     intro h38
     have h38q := (of_decide_eq_true h38)
     have e39 := e36.trans (Go.Am.bif_t h38)
     refine AW.kp [0, 1, 5] [] ⟨[(0, sD10 a), (1, sI left1), (5, sI ((i : Nat) : Int))], []⟩ ?_
     refine AW.skip (AW.seq (AW.block (AW.seq (AW.r0 hC [0, 1, 5] [] ⟨[(0, sD10 a), (1, sI (szPlan (List.getD a i Pln.zero) left1)), (5, sI ((i : Nat) : Int))], []⟩ [IX ((i : Nat) : Int) ((List.length a : Nat) : Int), (0 ≤ left1)] ?_ ?_))))
     ·
      refine ⟨?_, ?_, trivial⟩
      ·
       refine IX.of ?_
       omega
      ·
       omega
     refine AW.seq (AW.wf_int (s := 1) (k := .i64) (n := (szPlan (List.getD a i Pln.zero) left1)) (by kernel_rfl) fun hw40 => ?_)
     replace hw40 : -9223372036854775808 ≤ (szPlan (List.getD a i Pln.zero) left1) ∧ (szPlan (List.getD a i Pln.zero) left1) ≤ 9223372036854775807 := hw40
     refine AW.r1 hC [0, 1, 5, 25] [] ⟨[(0, sD10 a), (1, sI (szPlan (List.getD a i Pln.zero) left1)), (5, sI ((i : Nat) : Int)), (25, sB (decide ((szPlan (List.getD a i Pln.zero) left1) < 0)))], []⟩ ?_
     refine AW.cd (decide ((szPlan (List.getD a i Pln.zero) left1) < 0)) ?_ ?_
     ·
      intro h41
      have h41q := (of_decide_eq_true h41)
      have e42 := e39.trans (Go.Am.bif_t h41)
      refine AW.seq (AW.r1 hC [4] [] ⟨[(4, sI (-1))], []⟩ ?_)
      refine AW.ret ?_
      have e43 := e4.trans (Go.Am.elim_r e42)
      exact AW.rI (-1) e43
     ·
      intro h44
      have h44q := (of_decide_eq_false h44)
      have e45 := e39.trans (Go.Am.bif_f h44)
      refine AW.kp [0, 1, 5] [] ⟨[(0, sD10 a), (1, sI (szPlan (List.getD a i Pln.zero) left1)), (5, sI ((i : Nat) : Int))], []⟩ ?_
      refine AW.skip (AW.r0 hC [0, 1, 5] [] ⟨[(0, sD10 a), (1, sI (szPlan (List.getD a i Pln.zero) left1)), (5, sI ((i + 1 : Nat) : Int))], []⟩ [R64 ((i + 1 : Nat) : Int)] ?_ ?_)
      ·
       refine ⟨?_, trivial⟩
       ·
        refine R64.of ?_
        omega
      refine AW.back (x := (left1, i)) ((szPlan (List.getD a i Pln.zero) left1), i + 1) (by kernel_rfl) ⟨?_, k37q, ?_, e45⟩ ?_
      ·
       show 0 ≤ (szPlan (List.getD a i Pln.zero) left1)
       omega
      ·
       show (List.length a) - (i + 1) < k37q
       omega
      ·
       show (List.length a) - (i + 1) < (List.length a) - i
       omega
    ·
     intro h46
     have h46q := (of_decide_eq_false h46)
     have e47 := e36.trans (Go.Am.bif_f h46)
     refine AW.kp [1] [] ⟨[(1, sI left1)], []⟩ ?_
     refine AW.exit ?_
     refine AW.meet left1 (by kernel_rfl) ⟨?_, e47⟩
     show 0 ≤ left1
     assumption
  ·
   intro left1 hR
   obtain ⟨hJ0, e48⟩ := hR
   replace hJ0 : 0 ≤ left1 := hJ0
   have e49 := e4.trans (Go.Am.elim_l e48)
   refine AW.seq (AW.r1 hC [4] [] ⟨[(4, sI left1)], []⟩ ?_)
   exact AW.ret (AW.rI left1 e49)

structure FitPS (a : List Pln) : Prop where
 len : ((a.length : Nat) : Int) ≤ 1048576
 el : ∀ j, j < a.length → FitsP (a.getD j Pln.zero)

theorem szPlanS_loop (a : List Pln) : ∀ (k : Nat) (left : Int) (i : Nat), a.length - i < k → 0 ≤ left → left ≤ 1048576 → 0 ≤ Sum.elim (fun z => (fun (left1 : Int) => left1) z) (fun r => r) (szPlanS_l0 a k left i) →
  Sum.elim (fun z => (fun (left1 : Int) => left1) z) (fun r => r) (szPlanS_l0 a k left i) ≤ left ∧ ∀ j, i ≤ j → j < a.length → FitsP (a.getD j Pln.zero) := by
 intro k
 induction k with
 | zero => intro left i h; omega
 | succ k ih =>
  intro left i h h1 h2 h3
  unfold szPlanS_l0 at h3 ⊢
  by_cases hi : i < a.length
  ·
   rw [lt_dec hi, cond_true] at h3 ⊢
   by_cases hn : szPlan (a.getD i Pln.zero) left < 0
   ·
    rw [decide_eq_true hn] at h3
    exact absurd h3 (by simp only [cond_true, Sum.elim_inr]; decide)
   ·
    rw [decide_eq_false hn, cond_false] at h3 ⊢
    have hle := szPlan_le (a.getD i Pln.zero) h1
    obtain ⟨b1, b2⟩ := ih _ (i + 1) (by omega) (by omega) (by omega) h3
    refine ⟨by omega, fun j hj hjl => ?_⟩
    rcases Nat.eq_or_lt_of_le hj with rfl | hj
    ·
     exact FitsP.of ⟨h1, h2⟩ hn
    ·
     exact b2 j (by omega) hjl
  ·
   rw [ge_dec hi, cond_false]
   exact ⟨Int.le_refl _, fun j hj hjl => by omega⟩

theorem szPlanS_le {a : List Pln} {l : Int} (hl : 0 ≤ l ∧ l ≤ 1048576) (h : ¬ szPlanS a l < 0) : szPlanS a l ≤ l ∧ FitPS a := by
 unfold szPlanS at *
 by_cases e : l - ((List.length a : Nat) : Int) < 0
 ·
  rw [decide_eq_true e, cond_true] at h
  omega
 ·
  rw [decide_eq_false e, cond_false] at *
  obtain ⟨a1, a2⟩ := szPlanS_loop a _ _ 0 (by omega) (by omega) (by omega) (Int.not_lt.1 h)
  exact ⟨by omega, by omega, fun j hj => a2 j (by omega) hj⟩

theorem FitPS.of2 {a : List Pln} (h : ¬ szPlanS a 1048576 < 0) : FitPS a := (szPlanS_le ⟨by decide, by decide⟩ h).2

theorem FitSt.of3 {a : List Sta} {p : List Pln} (h1 : ¬ szPlanS p 1048576 < 0) (h2 : ¬ szStatsS a (szPlanS p 1048576) < 0) : FitSt a :=
 szStatsS_le ⟨by omega, (szPlanS_le ⟨by decide, by decide⟩ h1).1⟩ h2

def toPlanS_l0 (a : List Pln) : Nat → Nat → (List Pln) → (List Pln)
 | 0, i, out => out
 | k + 1, i, out => (bif (decide (((i : Nat) : Int) < ((List.length a : Nat) : Int))) then (toPlanS_l0 a k (i + 1) (List.set out i (toPlan (List.getD a i Pln.zero)))) else out)

def toPlanS (a : List Pln) : (List Pln) := (Go.Am.andThen (toPlanS_l0 a ((List.length a) - 0 + 1) 0 (List.replicate (List.length a) Pln.zero : List Pln)) (fun z => (fun (out : List Pln) => out) z))

def toPlanS_sp : FnSpec := mkSpec [.val (.slice (.named 2))] [.own (.named 2)] (fun (a : List Pln) => FitPS a) (fun (a : List Pln) => [⟨(.slice (.named 2)), (toPlanS a)⟩])

theorem toPlanS_ok : FnOK Try.prog 25 toPlanS_sp := by
 have hC : CtxOK Try.prog (mkCtx tyL [(18, toPlan_sp)]) := CtxOK.cons toPlan_ok (CtxOK.nil tyOK)
 refine FnOK.of_body Try.func25 (by kernel_rfl) rfl (C := (mkCtx tyL [(18, toPlan_sp)])) hC.ty (by kernel_rfl) ?_
 intro (a : List Pln) hwf hpre E
 have hpre : FitPS a := hpre
 have hw_a : Wf ⟨(.slice (.named 2)), (a : List Pln)⟩ := hwf _ (List.Mem.head _)
 have hl_a : ((List.length a : Nat) : Int) ≤ 9223372036854775807 := hw_a.len
 have e0 : toPlanS a = toPlanS a := rfl
 refine AW.seq (AW.r1 hC [0] [] ⟨[(0, sD10 a)], []⟩ ?_)
 refine AW.seq (AW.r0 hC [0, 3] [28] ⟨[(0, sD10 a), (3, .arr 28 1)], [(28, .arr 1 (.named 2) ((List.replicate (List.length a) Pln.zero : List Pln) : List Pln))]⟩ [(0 ≤ ((List.length a : Nat) : Int) ∧ ((List.length a : Nat) : Int) ≤ ((List.length a : Nat) : Int) ∧ ((List.length a : Nat) : Int) ≤ 4294967296)] ?_ ?_)
 ·
  refine ⟨?_, trivial⟩
  ·
   have := hpre.len
   omega
 refine AW.seq (AW.seq (AW.r1 hC [0, 3, 4] [28] ⟨[(0, sD10 a), (3, .arr 28 1), (4, sI 0)], [(28, .arr 1 (.named 2) ((List.replicate (List.length a) Pln.zero : List Pln) : List Pln))]⟩ ?_))
 refine AW.cutQ (α := (List Pln)) (fun x => ⟨[(3, .arr 28 1)], [(28, .arr 1 (.named 2) (x : List Pln))]⟩) (fun x => (List.length x = List.length a) ∧ (toPlanS_l0 a ((List.length a) - 0 + 1) 0 (List.replicate (List.length a) Pln.zero : List Pln)) = x) ?_ ?_
 ·
  skip
  refine AW.block (AW.loop (α := Nat × (List Pln)) (fun x => ⟨[(0, sD10 a), (3, .arr 28 1), (4, sI ((x.1 : Nat) : Int))], [(28, .arr 1 (.named 2) (x.2 : List Pln))]⟩) (fun x => (List.length x.2 = List.length a) ∧ ∃ k, (List.length a) - x.1 < k ∧ (toPlanS_l0 a ((List.length a) - 0 + 1) 0 (List.replicate (List.length a) Pln.zero : List Pln)) = toPlanS_l0 a k x.1 x.2) (fun x => (List.length a) - x.1) (0, (List.replicate (List.length a) Pln.zero : List Pln)) (by kernel_rfl) ⟨?_, _, Nat.lt_succ_self _, rfl⟩ ?_)
  ·
   show List.length (List.replicate (List.length a) Pln.zero : List Pln) = List.length a
   simp
  ·
   intro x hR
   obtain ⟨i, out⟩ := x
   obtain ⟨hI0, k15, hk13, e14⟩ := hR
   replace hI0 : List.length out = List.length a := hI0
   replace hk13 : (List.length a) - i < k15 := hk13
   obtain ⟨k15q, rfl⟩ : ∃ k, k15 = k + 1 := ⟨k15 - 1, by omega⟩
   refine AW.seq (AW.seq (AW.r1 hC [0, 3, 4, 11] [28] ⟨[(0, sD10 a), (3, .arr 28 1), (4, sI ((i : Nat) : Int)), (11, sB (decide (((i : Nat) : Int) < ((List.length a : Nat) : Int))))], [(28, .arr 1 (.named 2) (out : List Pln))]⟩ ?_))
   refine AW.cd (decide (((i : Nat) : Int) < ((List.length a : Nat) : Int))) ?_ ?_
   ·
    intro h16
    have h16q := (of_decide_eq_true h16)
    have e17 := e14.trans (Go.Am.bif_t h16)
    refine AW.kp [0, 3, 4] [28] ⟨[(0, sD10 a), (3, .arr 28 1), (4, sI ((i : Nat) : Int))], [(28, .arr 1 (.named 2) (out : List Pln))]⟩ ?_
    refine AW.skip (AW.seq (AW.block (AW.r0 hC [0, 3, 4] [28] ⟨[(0, sD10 a), (3, .arr 28 1), (4, sI ((i : Nat) : Int))], [(28, .arr 1 (.named 2) ((List.set out i (toPlan (List.getD a i Pln.zero))) : List Pln))]⟩ [IX ((i : Nat) : Int) ((List.length a : Nat) : Int), (FitsP (List.getD a i Pln.zero)), IX ((i : Nat) : Int) ((List.length out : Nat) : Int)] ?_ ?_)))
    ·
     refine ⟨?_, ?_, ?_, trivial⟩
     ·
      refine IX.of ?_
      have := hpre.len
      omega
     ·
      exact hpre.el _ (by omega)
     ·
      refine IX.of ?_
      have := hpre.len
      omega
    refine AW.r0 hC [0, 3, 4] [28] ⟨[(0, sD10 a), (3, .arr 28 1), (4, sI ((i + 1 : Nat) : Int))], [(28, .arr 1 (.named 2) ((List.set out i (toPlan (List.getD a i Pln.zero))) : List Pln))]⟩ [R64 ((i + 1 : Nat) : Int)] ?_ ?_
    ·
     refine ⟨?_, trivial⟩
     ·
      refine R64.of ?_
      have := hpre.len
      omega
    refine AW.back (x := (i, out)) (i + 1, (List.set out i (toPlan (List.getD a i Pln.zero)))) (by kernel_rfl) ⟨?_, k15q, ?_, e17⟩ ?_
    ·
     show List.length (List.set out i (toPlan (List.getD a i Pln.zero))) = List.length a
     simp only [lens] at *; omega
    ·
     show (List.length a) - (i + 1) < k15q
     omega
    ·
     show (List.length a) - (i + 1) < (List.length a) - i
     omega
   ·
    intro h18
    have h18q := (of_decide_eq_false h18)
    have e19 := e14.trans (Go.Am.bif_f h18)
    refine AW.kp [3] [28] ⟨[(3, .arr 28 1)], [(28, .arr 1 (.named 2) (out : List Pln))]⟩ ?_
    refine AW.exit ?_
    refine AW.meet out (by kernel_rfl) ⟨?_, e19⟩
    show List.length out = List.length a
    assumption
 ·
  intro out hR
  obtain ⟨hJ0, e20⟩ := hR
  replace hJ0 : List.length out = List.length a := hJ0
  have e21 := e0.trans (Go.Am.then_eq e20)
  refine AW.seq (AW.r1 hC [2] [28] ⟨[(2, .arr 28 1)], [(28, .arr 1 (.named 2) (out : List Pln))]⟩ ?_)
  exact AW.ret (AW.retE (β := (List Pln)) (fun v => [⟨(.slice (.named 2)), v⟩]) (fun v => []) (v := out) e21 (by kernel_rfl) rfl rfl)

def eqPlanS_l0 (a : List Pln) (b : List Pln) : Nat → Nat → Unit ⊕ Bool
 | 0, i => .inl ()
 | k + 1, i => (bif (decide (((i : Nat) : Int) < ((List.length a : Nat) : Int))) then (bif (!(eqPlan (List.getD a i Pln.zero) (List.getD b i Pln.zero))) then (.inr false) else (eqPlanS_l0 a b k (i + 1))) else (.inl ()))

def eqPlanS (a : List Pln) (b : List Pln) : Bool := (bif (((List.length a : Nat) : Int) != ((List.length b : Nat) : Int)) then false else (Sum.elim (fun _ => true) (fun r => r) (eqPlanS_l0 a b ((List.length a) - 0 + 1) 0)))

def eqPlanS_sp : FnSpec := mkSpec [.val (.slice (.named 2)), .val (.slice (.named 2))] [.val .bool] (fun (a : List Pln) (b : List Pln) => True) (fun (a : List Pln) (b : List Pln) => [⟨.bool, (eqPlanS a b)⟩])

theorem eqPlanS_ok : FnOK Try.prog 27 eqPlanS_sp := by
 have hC : CtxOK Try.prog (mkCtx tyL [(21, eqPlan_sp)]) := CtxOK.cons eqPlan_ok (CtxOK.nil tyOK)
 have hM : Try.prog.follows .mixedOrders = true := Try.checked.mixed
 refine FnOK.of_body Try.func27 (by kernel_rfl) rfl (C := (mkCtx tyL [(21, eqPlan_sp)])) hC.ty (by kernel_rfl) ?_
 intro (a : List Pln) (b : List Pln) hwf hpre E
 have hpre : True := hpre
 have hw_a : Wf ⟨(.slice (.named 2)), (a : List Pln)⟩ := hwf _ (List.Mem.head _)
 have hl_a : ((List.length a : Nat) : Int) ≤ 9223372036854775807 := hw_a.len
 have hw_b : Wf ⟨(.slice (.named 2)), (b : List Pln)⟩ := hwf _ (List.Mem.tail _ (List.Mem.head _))
 have hl_b : ((List.length b : Nat) : Int) ≤ 9223372036854775807 := hw_b.len
 have e0 : eqPlanS a b = eqPlanS a b := rfl
 refine AW.seq (AW.r1 hC [0, 1] [] ⟨[(0, sD10 a), (1, sD10 b)], []⟩ ?_)
 refine AW.seq (AW.seq (AW.r1 hC [0, 1, 10] [] ⟨[(0, sD10 a), (1, sD10 b), (10, sB (((List.length a : Nat) : Int) != ((List.length b : Nat) : Int)))], []⟩ ?_))
 refine AW.cd (((List.length a : Nat) : Int) != ((List.length b : Nat) : Int)) ?_ ?_
 ·
  intro h1
  have h1q := (Go.Am.bne_pos h1)
  have e2 := e0.trans (Go.Am.bif_t h1)
  refine AW.seq (AW.r1 hC [4] [] ⟨[(4, sB false)], []⟩ ?_)
  exact AW.ret (AW.rB false e2)
 ·
  intro h3
  have h3q := (Go.Am.bne_neg h3)
  have e4 := e0.trans (Go.Am.bif_f h3)
  refine AW.kp [0, 1] [] ⟨[(0, sD10 a), (1, sD10 b)], []⟩ ?_
  refine AW.skip (AW.seq (AW.seq (AW.r1 hC [0, 1, 5] [] ⟨[(0, sD10 a), (1, sD10 b), (5, sI 0)], []⟩ ?_)))
  refine AW.cutQ (α := Unit) (fun x => ⟨[], []⟩) (fun x => (True) ∧ (eqPlanS_l0 a b ((List.length a) - 0 + 1) 0) = (.inl ())) ?_ ?_
  ·
   skip
   refine AW.block (AW.loop (α := Nat) (fun x => ⟨[(0, sD10 a), (1, sD10 b), (5, sI ((x : Nat) : Int))], []⟩) (fun x => (True) ∧ ∃ k, (List.length a) - x < k ∧ (eqPlanS_l0 a b ((List.length a) - 0 + 1) 0) = eqPlanS_l0 a b k x) (fun x => (List.length a) - x) 0 (by kernel_rfl) ⟨?_, _, Nat.lt_succ_self _, rfl⟩ ?_)
   ·
    show True
    exact trivial
   ·
    intro i hR
    obtain ⟨hI0, k34, hk32, e33⟩ := hR
    replace hI0 : True := hI0
    replace hk32 : (List.length a) - i < k34 := hk32
    obtain ⟨k34q, rfl⟩ : ∃ k, k34 = k + 1 := ⟨k34 - 1, by omega⟩
    refine AW.seq (AW.seq (AW.r1 hC [0, 1, 5, 14] [] ⟨[(0, sD10 a), (1, sD10 b), (5, sI ((i : Nat) : Int)), (14, sB (decide (((i : Nat) : Int) < ((List.length a : Nat) : Int))))], []⟩ ?_))
    refine AW.cd (decide (((i : Nat) : Int) < ((List.length a : Nat) : Int))) ?_ ?_
    ·
     intro h35
     have h35q := (of_decide_eq_true h35)
     have e36 := e33.trans (Go.Am.bif_t h35)
     refine AW.kp [0, 1, 5] [] ⟨[(0, sD10 a), (1, sD10 b), (5, sI ((i : Nat) : Int))], []⟩ ?_
     refine AW.skip (AW.seq (AW.block (AW.seq (AW.d0 hC hM [0, 1, 5, 26] [] ⟨[(0, sD10 a), (1, sD10 b), (5, sI ((i : Nat) : Int)), (26, sB (!(eqPlan (List.getD a i Pln.zero) (List.getD b i Pln.zero))))], []⟩ [IX ((i : Nat) : Int) ((List.length a : Nat) : Int), IX ((i : Nat) : Int) ((List.length b : Nat) : Int), (True)] ?_ ?_))))
     ·
      refine ⟨?_, ?_, ?_, trivial⟩
      ·
       refine IX.of ?_
       omega
      ·
       refine IX.of ?_
       omega
      ·
       trivial
     refine AW.cd (!(eqPlan (List.getD a i Pln.zero) (List.getD b i Pln.zero))) ?_ ?_
     ·
      intro h37
      have h37q := (Go.Am.not_pos h37)
      have e38 := e36.trans (Go.Am.bif_t h37)
      refine AW.seq (AW.r1 hC [4] [] ⟨[(4, sB false)], []⟩ ?_)
      refine AW.ret ?_
      have e39 := e4.trans (Go.Am.elim_r e38)
      exact AW.rB false e39
     ·
      intro h40
      have h40q := (Go.Am.not_neg h40)
      have e41 := e36.trans (Go.Am.bif_f h40)
      refine AW.kp [0, 1, 5] [] ⟨[(0, sD10 a), (1, sD10 b), (5, sI ((i : Nat) : Int))], []⟩ ?_
      refine AW.skip (AW.r0 hC [0, 1, 5] [] ⟨[(0, sD10 a), (1, sD10 b), (5, sI ((i + 1 : Nat) : Int))], []⟩ [R64 ((i + 1 : Nat) : Int)] ?_ ?_)
      ·
       refine ⟨?_, trivial⟩
       ·
        refine R64.of ?_
        omega
      refine AW.back (x := i) (i + 1) (by kernel_rfl) ⟨?_, k34q, ?_, e41⟩ ?_
      ·
       show True
       assumption
      ·
       show (List.length a) - (i + 1) < k34q
       omega
      ·
       show (List.length a) - (i + 1) < (List.length a) - i
       omega
    ·
     intro h42
     have h42q := (of_decide_eq_false h42)
     have e43 := e33.trans (Go.Am.bif_f h42)
     refine AW.kp [] [] ⟨[], []⟩ ?_
     refine AW.exit ?_
     refine AW.meet () (by kernel_rfl) ⟨?_, e43⟩
     show True
     assumption
  ·
   intro x hR
   obtain ⟨hJ0, e44⟩ := hR
   replace hJ0 : True := hJ0
   have e45 := e4.trans (Go.Am.elim_l e44)
   refine AW.seq (AW.r1 hC [4] [] ⟨[(4, sB true)], []⟩ ?_)
   exact AW.ret (AW.rB true e45)

def CheapestPlan_j0 (plans : List Pln) (stats : List Sta) (k1 : Int) (best1 : Int) (i : Nat) : Int × Int :=
 (bif (bif (decide (0 ≤ (EstimateCost (List.getD plans i Pln.zero) stats))) then (bif (decide (k1 < 0)) then true else (decide ((EstimateCost (List.getD plans i Pln.zero) stats) < best1))) else false) then (((i : Nat) : Int), (EstimateCost (List.getD plans i Pln.zero) stats)) else (k1, best1))

def CheapestPlan_l0 (plans : List Pln) (stats : List Sta) : Nat → Int → Int → Nat → Int
 | 0, k1, best1, i => k1
 | k + 1, k1, best1, i => (bif (decide (((i : Nat) : Int) < ((List.length plans : Nat) : Int))) then (Go.Am.andThen (CheapestPlan_j0 plans stats k1 best1 i) (fun z => (fun (k2 : Int) (best : Int) => (CheapestPlan_l0 plans stats k k2 best (i + 1))) z.1 z.2)) else k1)

def CheapestPlan (plans : List Pln) (stats : List Sta) : Int := (bif (decide (20 < ((List.length plans : Nat) : Int))) then (-1) else (Go.Am.andThen (CheapestPlan_l0 plans stats ((List.length plans) - 0 + 1) (-1) 0 0) (fun z => (fun (k1 : Int) => k1) z)))

def CheapestPlan_sp : FnSpec := mkSpec [.val (.slice (.named 2)), .val (.slice (.named 3))] [.val (.int .i64)] (fun (plans : List Pln) (stats : List Sta) => (List.length stats : Int) ≤ 1048576) (fun (plans : List Pln) (stats : List Sta) => [⟨(.int .i64), (CheapestPlan plans stats)⟩])

theorem CheapestPlan_ok : FnOK Try.prog 24 CheapestPlan_sp := by
 have hC : CtxOK Try.prog (mkCtx tyL [(17, EstimateCost_sp)]) := CtxOK.cons EstimateCost_ok (CtxOK.nil tyOK)
 have hM : Try.prog.follows .mixedOrders = true := Try.checked.mixed
 refine FnOK.of_body Try.func24 (by kernel_rfl) rfl (C := (mkCtx tyL [(17, EstimateCost_sp)])) hC.ty (by kernel_rfl) ?_
 intro (plans : List Pln) (stats : List Sta) hwf hpre E
 have hpre : (List.length stats : Int) ≤ 1048576 := hpre
 have hw_plans : Wf ⟨(.slice (.named 2)), (plans : List Pln)⟩ := hwf _ (List.Mem.head _)
 have hl_plans : ((List.length plans : Nat) : Int) ≤ 9223372036854775807 := hw_plans.len
 have hw_stats : Wf ⟨(.slice (.named 3)), (stats : List Sta)⟩ := hwf _ (List.Mem.tail _ (List.Mem.head _))
 have hl_stats : ((List.length stats : Nat) : Int) ≤ 9223372036854775807 := hw_stats.len
 have e0 : CheapestPlan plans stats = CheapestPlan plans stats := rfl
 refine AW.seq (AW.r1 hC [0, 1] [] ⟨[(0, sD10 plans), (1, sD11 stats)], []⟩ ?_)
 refine AW.seq (AW.r1 hC [0, 1, 5] [] ⟨[(0, sD10 plans), (1, sD11 stats), (5, sI (-1))], []⟩ ?_)
 refine AW.seq (AW.r1 hC [0, 1, 5, 6] [] ⟨[(0, sD10 plans), (1, sD11 stats), (5, sI (-1)), (6, sI 0)], []⟩ ?_)
 refine AW.seq (AW.seq (AW.r1 hC [0, 1, 5, 6, 11] [] ⟨[(0, sD10 plans), (1, sD11 stats), (5, sI (-1)), (6, sI 0), (11, sB (decide (20 < ((List.length plans : Nat) : Int))))], []⟩ ?_))
 refine AW.cd (decide (20 < ((List.length plans : Nat) : Int))) ?_ ?_
 ·
  intro h6
  have h6q := (of_decide_eq_true h6)
  have e7 := e0.trans (Go.Am.bif_t h6)
  refine AW.seq (AW.r1 hC [4] [] ⟨[(4, sI (-1))], []⟩ ?_)
  exact AW.ret (AW.rI (-1) e7)
 ·
  intro h8
  have h8q := (of_decide_eq_false h8)
  have e9 := e0.trans (Go.Am.bif_f h8)
  refine AW.kp [0, 1, 5, 6] [] ⟨[(0, sD10 plans), (1, sD11 stats), (5, sI (-1)), (6, sI 0)], []⟩ ?_
  refine AW.skip (AW.seq (AW.seq (AW.r1 hC [0, 1, 5, 6, 7] [] ⟨[(0, sD10 plans), (1, sD11 stats), (5, sI (-1)), (6, sI 0), (7, sI 0)], []⟩ ?_)))
  refine AW.cutQ (α := Int) (fun x => ⟨[(5, sI x)], []⟩) (fun x => (True) ∧ (CheapestPlan_l0 plans stats ((List.length plans) - 0 + 1) (-1) 0 0) = x) ?_ ?_
  ·
   skip
   refine AW.block (AW.loop (α := Int × Int × Nat) (fun x => ⟨[(0, sD10 plans), (1, sD11 stats), (5, sI x.1), (6, sI x.2.1), (7, sI ((x.2.2 : Nat) : Int))], []⟩) (fun x => (True) ∧ ∃ k, (List.length plans) - x.2.2 < k ∧ (CheapestPlan_l0 plans stats ((List.length plans) - 0 + 1) (-1) 0 0) = CheapestPlan_l0 plans stats k x.1 x.2.1 x.2.2) (fun x => (List.length plans) - x.2.2) ((-1), 0, 0) (by kernel_rfl) ⟨?_, _, Nat.lt_succ_self _, rfl⟩ ?_)
   ·
    show True
    exact trivial
   ·
    intro x hR
    obtain ⟨k1, best1, i⟩ := x
    obtain ⟨hI0, k164, hk162, e163⟩ := hR
    replace hI0 : True := hI0
    replace hk162 : (List.length plans) - i < k164 := hk162
    obtain ⟨k164q, rfl⟩ : ∃ k, k164 = k + 1 := ⟨k164 - 1, by omega⟩
    refine AW.seq (AW.seq (AW.r1 hC [0, 1, 5, 6, 7, 15] [] ⟨[(0, sD10 plans), (1, sD11 stats), (5, sI k1), (6, sI best1), (7, sI ((i : Nat) : Int)), (15, sB (decide (((i : Nat) : Int) < ((List.length plans : Nat) : Int))))], []⟩ ?_))
    refine AW.cd (decide (((i : Nat) : Int) < ((List.length plans : Nat) : Int))) ?_ ?_
    ·
     intro h169
     have h169q := (of_decide_eq_true h169)
     have e170 := e163.trans (Go.Am.bif_t h169)
     refine AW.kp [0, 1, 5, 6, 7] [] ⟨[(0, sD10 plans), (1, sD11 stats), (5, sI k1), (6, sI best1), (7, sI ((i : Nat) : Int))], []⟩ ?_
     refine AW.skip (AW.seq (AW.block (AW.seq (AW.r0 hC [0, 1, 5, 6, 7, 8] [] ⟨[(0, sD10 plans), (1, sD11 stats), (5, sI k1), (6, sI best1), (7, sI ((i : Nat) : Int)), (8, sI (EstimateCost (List.getD plans i Pln.zero) stats))], []⟩ [IX ((i : Nat) : Int) ((List.length plans : Nat) : Int), ((List.length stats : Int) ≤ 1048576)] ?_ ?_))))
     ·
      refine ⟨?_, ?_, trivial⟩
      ·
       refine IX.of ?_
       omega
      ·
       exact hpre
     refine AW.seq (AW.r0 hC [0, 1, 5, 6, 7, 8, 34] [] ⟨[(0, sD10 plans), (1, sD11 stats), (5, sI k1), (6, sI best1), (7, sI ((i : Nat) : Int)), (8, sI (EstimateCost (List.getD plans i Pln.zero) stats)), (34, sB (bif (decide (0 ≤ (EstimateCost (List.getD plans i Pln.zero) stats))) then (bif (decide (k1 < 0)) then true else (decide ((EstimateCost (List.getD plans i Pln.zero) stats) < best1))) else false))], []⟩ [(((decide (0 ≤ (EstimateCost (List.getD plans i Pln.zero) stats))) = true) → (((decide (0 ≤ (EstimateCost (List.getD plans i Pln.zero) stats))) = true))), (((decide (0 ≤ (EstimateCost (List.getD plans i Pln.zero) stats))) = true) → (((decide (0 ≤ (EstimateCost (List.getD plans i Pln.zero) stats))) = true))), ((((decide (0 ≤ (EstimateCost (List.getD plans i Pln.zero) stats))) = true) ∧ ((decide (k1 < 0)) = false)) → ((((decide (0 ≤ (EstimateCost (List.getD plans i Pln.zero) stats))) = true) ∧ ((decide (k1 < 0)) = false)))), ((((decide (0 ≤ (EstimateCost (List.getD plans i Pln.zero) stats))) = true) ∧ ((decide (k1 < 0)) = false)) → ((((decide (0 ≤ (EstimateCost (List.getD plans i Pln.zero) stats))) = true) ∧ ((decide (k1 < 0)) = false)))), (((decide (0 ≤ (EstimateCost (List.getD plans i Pln.zero) stats))) = true) → (((decide (0 ≤ (EstimateCost (List.getD plans i Pln.zero) stats))) = true))), (((decide (0 ≤ (EstimateCost (List.getD plans i Pln.zero) stats))) = true) → (((decide (k1 < 0)) = false) → ((((decide (0 ≤ (EstimateCost (List.getD plans i Pln.zero) stats))) = true) ∧ ((decide (k1 < 0)) = false))))), (((decide (0 ≤ (EstimateCost (List.getD plans i Pln.zero) stats))) = true) → (((decide (0 ≤ (EstimateCost (List.getD plans i Pln.zero) stats))) = true)))] ?_ ?_)
     ·
      refine ⟨?_, ?_, ?_, ?_, ?_, ?_, ?_, trivial⟩
      ·
       intro g186
       have g186p0 : 0 ≤ (EstimateCost (List.getD plans i Pln.zero) stats) := (of_decide_eq_true g186)
       assumption
      ·
       intro g187
       have g187p0 : 0 ≤ (EstimateCost (List.getD plans i Pln.zero) stats) := (of_decide_eq_true g187)
       assumption
      ·
       intro g188
       have g188p0 : 0 ≤ (EstimateCost (List.getD plans i Pln.zero) stats) := (of_decide_eq_true (g188).1)
       have g188p1 : ¬ (k1 < 0) := (of_decide_eq_false (g188).2)
       assumption
      ·
       intro g189
       have g189p0 : 0 ≤ (EstimateCost (List.getD plans i Pln.zero) stats) := (of_decide_eq_true (g189).1)
       have g189p1 : ¬ (k1 < 0) := (of_decide_eq_false (g189).2)
       assumption
      ·
       intro g190
       have g190p0 : 0 ≤ (EstimateCost (List.getD plans i Pln.zero) stats) := (of_decide_eq_true g190)
       assumption
      ·
       intro g191
       have g191p0 : 0 ≤ (EstimateCost (List.getD plans i Pln.zero) stats) := (of_decide_eq_true g191)
       intro g192
       have g192p0 : ¬ (k1 < 0) := (of_decide_eq_false g192)
       exact ⟨by assumption, by assumption⟩
      ·
       intro g193
       have g193p0 : 0 ≤ (EstimateCost (List.getD plans i Pln.zero) stats) := (of_decide_eq_true g193)
       assumption
     refine AW.cutQ (α := Int × Int) (fun x => ⟨[(0, sD10 plans), (1, sD11 stats), (5, sI x.1), (6, sI x.2), (7, sI ((i : Nat) : Int))], []⟩) (fun x => (True) ∧ (CheapestPlan_j0 plans stats k1 best1 i) = x) ?_ ?_
     ·
      skip
      have e202 : (CheapestPlan_j0 plans stats k1 best1 i) = (CheapestPlan_j0 plans stats k1 best1 i) := rfl
      refine AW.cd (bif (decide (0 ≤ (EstimateCost (List.getD plans i Pln.zero) stats))) then (bif (decide (k1 < 0)) then true else (decide ((EstimateCost (List.getD plans i Pln.zero) stats) < best1))) else false) ?_ ?_
      ·
       intro h203
       have h203q : (0 ≤ (EstimateCost (List.getD plans i Pln.zero) stats)) ∧ ((k1 < 0) ∨ ((EstimateCost (List.getD plans i Pln.zero) stats) < best1)) := (And.imp (fun h => (of_decide_eq_true h)) (fun h => (Or.imp (fun h => (of_decide_eq_true h)) (fun h => (of_decide_eq_true h)) (Go.Am.or_pos h))) (Go.Am.and_pos h203))
       have e204 := e202.trans (Go.Am.bif_t h203)
       refine AW.seq (AW.r1 hC [0, 1, 5, 7, 8] [] ⟨[(0, sD10 plans), (1, sD11 stats), (5, sI ((i : Nat) : Int)), (7, sI ((i : Nat) : Int)), (8, sI (EstimateCost (List.getD plans i Pln.zero) stats))], []⟩ ?_)
       refine AW.r1 hC [0, 1, 5, 6, 7] [] ⟨[(0, sD10 plans), (1, sD11 stats), (5, sI ((i : Nat) : Int)), (6, sI (EstimateCost (List.getD plans i Pln.zero) stats)), (7, sI ((i : Nat) : Int))], []⟩ ?_
       refine AW.meet (((i : Nat) : Int), (EstimateCost (List.getD plans i Pln.zero) stats)) (by kernel_rfl) ⟨?_, e204⟩
       show True
       exact trivial
      ·
       intro h205
       have h205q : (¬ (0 ≤ (EstimateCost (List.getD plans i Pln.zero) stats))) ∨ ((¬ (k1 < 0)) ∧ (¬ ((EstimateCost (List.getD plans i Pln.zero) stats) < best1))) := (Or.imp (fun h => (of_decide_eq_false h)) (fun h => (And.imp (fun h => (of_decide_eq_false h)) (fun h => (of_decide_eq_false h)) (Go.Am.or_neg h))) (Go.Am.and_neg h205))
       have e206 := e202.trans (Go.Am.bif_f h205)
       refine AW.kp [0, 1, 5, 6, 7] [] ⟨[(0, sD10 plans), (1, sD11 stats), (5, sI k1), (6, sI best1), (7, sI ((i : Nat) : Int))], []⟩ ?_
       refine AW.skip (AW.meet (k1, best1) (by kernel_rfl) ⟨?_, e206⟩)
       show True
       exact trivial
     ·
      intro x hR
      obtain ⟨k2, best⟩ := x
      obtain ⟨hM0, e207⟩ := hR
      replace hM0 : True := hM0
      have e208 := e170.trans (Go.Am.then_eq e207)
      refine AW.r0 hC [0, 1, 5, 6, 7] [] ⟨[(0, sD10 plans), (1, sD11 stats), (5, sI k2), (6, sI best), (7, sI ((i + 1 : Nat) : Int))], []⟩ [R64 ((i + 1 : Nat) : Int)] ?_ ?_
      ·
       refine ⟨?_, trivial⟩
       ·
        refine R64.of ?_
        omega
      refine AW.back (x := (k1, best1, i)) (k2, best, i + 1) (by kernel_rfl) ⟨?_, k164q, ?_, e208⟩ ?_
      ·
       show True
       assumption
      ·
       show (List.length plans) - (i + 1) < k164q
       omega
      ·
       show (List.length plans) - (i + 1) < (List.length plans) - i
       omega
    ·
     intro h209
     have h209q := (of_decide_eq_false h209)
     have e210 := e163.trans (Go.Am.bif_f h209)
     refine AW.kp [5] [] ⟨[(5, sI k1)], []⟩ ?_
     refine AW.exit ?_
     refine AW.meet k1 (by kernel_rfl) ⟨?_, e210⟩
     show True
     assumption
  ·
   intro k1 hR
   obtain ⟨hJ0, e211⟩ := hR
   replace hJ0 : True := hJ0
   have e212 := e9.trans (Go.Am.then_eq e211)
   refine AW.seq (AW.r1 hC [4] [] ⟨[(4, sI k1)], []⟩ ?_)
   exact AW.ret (AW.rI k1 e212)

def iCheapestPlan_j0 (plans : List Pln) (stats : List Sta) (best : Int) (bestCost : Int) (v14 : Nat) : Int × Int :=
 (bif (bif ((iEstimateCost (List.getD plans v14 Pln.zero) stats) != (-1)) then (bif (best == (-1)) then true else (decide ((iEstimateCost (List.getD plans v14 Pln.zero) stats) < bestCost))) else false) then (((v14 : Nat) : Int), (iEstimateCost (List.getD plans v14 Pln.zero) stats)) else (best, bestCost))

def iCheapestPlan_l0 (plans : List Pln) (stats : List Sta) : Nat → Int → Int → Nat → Int
 | 0, best, bestCost, v14 => best
 | k + 1, best, bestCost, v14 => (bif (decide (((v14 : Nat) : Int) < ((List.length plans : Nat) : Int))) then (Go.Am.andThen (iCheapestPlan_j0 plans stats best bestCost v14) (fun z => (fun (best1 : Int) (bestCost1 : Int) => (iCheapestPlan_l0 plans stats k best1 bestCost1 (v14 + 1))) z.1 z.2)) else best)

def iCheapestPlan (plans : List Pln) (stats : List Sta) : Int := (bif (decide (20 < ((List.length plans : Nat) : Int))) then (-1) else (Go.Am.andThen (iCheapestPlan_l0 plans stats ((List.length plans) - 0 + 1) (-1) (-1) 0) (fun z => (fun (best : Int) => best) z)))

def iCheapestPlan_sp : FnSpec := mkSpec [.val (.slice (.named 2)), .val (.slice (.named 3))] [.val (.int .i64)] (fun (plans : List Pln) (stats : List Sta) => True) (fun (plans : List Pln) (stats : List Sta) => [⟨(.int .i64), (iCheapestPlan plans stats)⟩])

theorem iCheapestPlan_ok : FnOK Try.prog 26 iCheapestPlan_sp := by
 have hC : CtxOK Try.prog (mkCtx tyL [(20, iEstimateCost_sp)]) := CtxOK.cons iEstimateCost_ok (CtxOK.nil tyOK)
 have hM : Try.prog.follows .mixedOrders = true := Try.checked.mixed
 refine FnOK.of_body Try.func26 (by kernel_rfl) rfl (C := (mkCtx tyL [(20, iEstimateCost_sp)])) hC.ty (by kernel_rfl) ?_
 intro (plans : List Pln) (stats : List Sta) hwf hpre E
 have hpre : True := hpre
 have hw_plans : Wf ⟨(.slice (.named 2)), (plans : List Pln)⟩ := hwf _ (List.Mem.head _)
 have hl_plans : ((List.length plans : Nat) : Int) ≤ 9223372036854775807 := hw_plans.len
 have hw_stats : Wf ⟨(.slice (.named 3)), (stats : List Sta)⟩ := hwf _ (List.Mem.tail _ (List.Mem.head _))
 have hl_stats : ((List.length stats : Nat) : Int) ≤ 9223372036854775807 := hw_stats.len
 have e0 : iCheapestPlan plans stats = iCheapestPlan plans stats := rfl
 refine AW.seq (AW.r1 hC [0, 1] [] ⟨[(0, sD10 plans), (1, sD11 stats)], []⟩ ?_)
 refine AW.seq (AW.seq (AW.r1 hC [0, 1, 11] [] ⟨[(0, sD10 plans), (1, sD11 stats), (11, sB (decide (20 < ((List.length plans : Nat) : Int))))], []⟩ ?_))
 refine AW.cd (decide (20 < ((List.length plans : Nat) : Int))) ?_ ?_
 ·
  intro h6
  have h6q := (of_decide_eq_true h6)
  have e7 := e0.trans (Go.Am.bif_t h6)
  refine AW.seq (AW.r1 hC [4] [] ⟨[(4, sI (-1))], []⟩ ?_)
  exact AW.ret (AW.rI (-1) e7)
 ·
  intro h8
  have h8q := (of_decide_eq_false h8)
  have e9 := e0.trans (Go.Am.bif_f h8)
  refine AW.kp [0, 1] [] ⟨[(0, sD10 plans), (1, sD11 stats)], []⟩ ?_
  refine AW.skip (AW.seq (AW.r1 hC [0, 1, 5, 6] [] ⟨[(0, sD10 plans), (1, sD11 stats), (5, sI (-1)), (6, sI (-1))], []⟩ ?_))
  refine AW.seq (AW.seq (AW.r1 hC [0, 1, 5, 6, 13, 14] [] ⟨[(0, sD10 plans), (1, sD11 stats), (5, sI (-1)), (6, sI (-1)), (13, sI ((List.length plans : Nat) : Int)), (14, sI 0)], []⟩ ?_))
  refine AW.cutQ (α := Int) (fun x => ⟨[(5, sI x)], []⟩) (fun x => (True) ∧ (iCheapestPlan_l0 plans stats ((List.length plans) - 0 + 1) (-1) (-1) 0) = x) ?_ ?_
  ·
   skip
   refine AW.block (AW.loop (α := Int × Int × Nat) (fun x => ⟨[(0, sD10 plans), (1, sD11 stats), (5, sI x.1), (6, sI x.2.1), (13, sI ((List.length plans : Nat) : Int)), (14, sI ((x.2.2 : Nat) : Int))], []⟩) (fun x => (True) ∧ ∃ k, (List.length plans) - x.2.2 < k ∧ (iCheapestPlan_l0 plans stats ((List.length plans) - 0 + 1) (-1) (-1) 0) = iCheapestPlan_l0 plans stats k x.1 x.2.1 x.2.2) (fun x => (List.length plans) - x.2.2) ((-1), (-1), 0) (by kernel_rfl) ⟨?_, _, Nat.lt_succ_self _, rfl⟩ ?_)
   ·
    show True
    exact trivial
   ·
    intro x hR
    obtain ⟨best, bestCost, v14⟩ := x
    obtain ⟨hI0, k126, hk124, e125⟩ := hR
    replace hI0 : True := hI0
    replace hk124 : (List.length plans) - v14 < k126 := hk124
    obtain ⟨k126q, rfl⟩ : ∃ k, k126 = k + 1 := ⟨k126 - 1, by omega⟩
    refine AW.seq (AW.r1 hC [0, 1, 5, 6, 13, 14, 15] [] ⟨[(0, sD10 plans), (1, sD11 stats), (5, sI best), (6, sI bestCost), (13, sI ((List.length plans : Nat) : Int)), (14, sI ((v14 : Nat) : Int)), (15, sB (decide (((v14 : Nat) : Int) < ((List.length plans : Nat) : Int))))], []⟩ ?_)
    refine AW.seq (AW.cd (decide (((v14 : Nat) : Int) < ((List.length plans : Nat) : Int))) ?_ ?_)
    ·
     intro h131
     have h131q := (of_decide_eq_true h131)
     have e132 := e125.trans (Go.Am.bif_t h131)
     refine AW.kp [0, 1, 5, 6, 13, 14] [] ⟨[(0, sD10 plans), (1, sD11 stats), (5, sI best), (6, sI bestCost), (13, sI ((List.length plans : Nat) : Int)), (14, sI ((v14 : Nat) : Int))], []⟩ ?_
     refine AW.skip (AW.seq (AW.block (AW.seq (AW.r1 hC [0, 1, 5, 6, 7, 13, 14] [] ⟨[(0, sD10 plans), (1, sD11 stats), (5, sI best), (6, sI bestCost), (7, sI ((v14 : Nat) : Int)), (13, sI ((List.length plans : Nat) : Int)), (14, sI ((v14 : Nat) : Int))], []⟩ ?_))))
     refine AW.seq (AW.r0 hC [0, 1, 5, 6, 7, 8, 13, 14] [] ⟨[(0, sD10 plans), (1, sD11 stats), (5, sI best), (6, sI bestCost), (7, sI ((v14 : Nat) : Int)), (8, sI (iEstimateCost (List.getD plans v14 Pln.zero) stats)), (13, sI ((List.length plans : Nat) : Int)), (14, sI ((v14 : Nat) : Int))], []⟩ [IX ((v14 : Nat) : Int) ((List.length plans : Nat) : Int), (True)] ?_ ?_)
     ·
      refine ⟨?_, ?_, trivial⟩
      ·
       refine IX.of ?_
       omega
      ·
       trivial
     refine AW.seq (AW.r0 hC [0, 1, 5, 6, 7, 8, 13, 14, 33] [] ⟨[(0, sD10 plans), (1, sD11 stats), (5, sI best), (6, sI bestCost), (7, sI ((v14 : Nat) : Int)), (8, sI (iEstimateCost (List.getD plans v14 Pln.zero) stats)), (13, sI ((List.length plans : Nat) : Int)), (14, sI ((v14 : Nat) : Int)), (33, sB (bif ((iEstimateCost (List.getD plans v14 Pln.zero) stats) != (-1)) then (bif (best == (-1)) then true else (decide ((iEstimateCost (List.getD plans v14 Pln.zero) stats) < bestCost))) else false))], []⟩ [((((iEstimateCost (List.getD plans v14 Pln.zero) stats) != (-1)) = true) → ((((iEstimateCost (List.getD plans v14 Pln.zero) stats) != (-1)) = true))), ((((iEstimateCost (List.getD plans v14 Pln.zero) stats) != (-1)) = true) → ((((iEstimateCost (List.getD plans v14 Pln.zero) stats) != (-1)) = true))), (((((iEstimateCost (List.getD plans v14 Pln.zero) stats) != (-1)) = true) ∧ ((best == (-1)) = false)) → (((((iEstimateCost (List.getD plans v14 Pln.zero) stats) != (-1)) = true) ∧ ((best == (-1)) = false)))), (((((iEstimateCost (List.getD plans v14 Pln.zero) stats) != (-1)) = true) ∧ ((best == (-1)) = false)) → (((((iEstimateCost (List.getD plans v14 Pln.zero) stats) != (-1)) = true) ∧ ((best == (-1)) = false)))), ((((iEstimateCost (List.getD plans v14 Pln.zero) stats) != (-1)) = true) → ((((iEstimateCost (List.getD plans v14 Pln.zero) stats) != (-1)) = true))), ((((iEstimateCost (List.getD plans v14 Pln.zero) stats) != (-1)) = true) → (((best == (-1)) = false) → (((((iEstimateCost (List.getD plans v14 Pln.zero) stats) != (-1)) = true) ∧ ((best == (-1)) = false))))), ((((iEstimateCost (List.getD plans v14 Pln.zero) stats) != (-1)) = true) → ((((iEstimateCost (List.getD plans v14 Pln.zero) stats) != (-1)) = true)))] ?_ ?_)
     ·
      refine ⟨?_, ?_, ?_, ?_, ?_, ?_, ?_, trivial⟩
      ·
       intro g148
       have g148p0 : (iEstimateCost (List.getD plans v14 Pln.zero) stats) ≠ (-1) := (Go.Am.bne_pos g148)
       assumption
      ·
       intro g149
       have g149p0 : (iEstimateCost (List.getD plans v14 Pln.zero) stats) ≠ (-1) := (Go.Am.bne_pos g149)
       assumption
      ·
       intro g150
       have g150p0 : (iEstimateCost (List.getD plans v14 Pln.zero) stats) ≠ (-1) := (Go.Am.bne_pos (g150).1)
       have g150p1 : best ≠ (-1) := (Go.Am.beq_neg (g150).2)
       assumption
      ·
       intro g151
       have g151p0 : (iEstimateCost (List.getD plans v14 Pln.zero) stats) ≠ (-1) := (Go.Am.bne_pos (g151).1)
       have g151p1 : best ≠ (-1) := (Go.Am.beq_neg (g151).2)
       assumption
      ·
       intro g152
       have g152p0 : (iEstimateCost (List.getD plans v14 Pln.zero) stats) ≠ (-1) := (Go.Am.bne_pos g152)
       assumption
      ·
       intro g153
       have g153p0 : (iEstimateCost (List.getD plans v14 Pln.zero) stats) ≠ (-1) := (Go.Am.bne_pos g153)
       intro g154
       have g154p0 : best ≠ (-1) := (Go.Am.beq_neg g154)
       exact ⟨by assumption, by assumption⟩
      ·
       intro g155
       have g155p0 : (iEstimateCost (List.getD plans v14 Pln.zero) stats) ≠ (-1) := (Go.Am.bne_pos g155)
       assumption
     refine AW.cutQ (α := Int × Int) (fun x => ⟨[(0, sD10 plans), (1, sD11 stats), (5, sI x.1), (6, sI x.2), (13, sI ((List.length plans : Nat) : Int)), (14, sI ((v14 : Nat) : Int))], []⟩) (fun x => (True) ∧ (iCheapestPlan_j0 plans stats best bestCost v14) = x) ?_ ?_
     ·
      skip
      have e164 : (iCheapestPlan_j0 plans stats best bestCost v14) = (iCheapestPlan_j0 plans stats best bestCost v14) := rfl
      refine AW.cd (bif ((iEstimateCost (List.getD plans v14 Pln.zero) stats) != (-1)) then (bif (best == (-1)) then true else (decide ((iEstimateCost (List.getD plans v14 Pln.zero) stats) < bestCost))) else false) ?_ ?_
      ·
       intro h165
       have h165q : ((iEstimateCost (List.getD plans v14 Pln.zero) stats) ≠ (-1)) ∧ ((best = (-1)) ∨ ((iEstimateCost (List.getD plans v14 Pln.zero) stats) < bestCost)) := (And.imp (fun h => (Go.Am.bne_pos h)) (fun h => (Or.imp (fun h => (Go.Am.beq_pos h)) (fun h => (of_decide_eq_true h)) (Go.Am.or_pos h))) (Go.Am.and_pos h165))
       have e166 := e164.trans (Go.Am.bif_t h165)
       refine AW.r1 hC [0, 1, 5, 6, 13, 14] [] ⟨[(0, sD10 plans), (1, sD11 stats), (5, sI ((v14 : Nat) : Int)), (6, sI (iEstimateCost (List.getD plans v14 Pln.zero) stats)), (13, sI ((List.length plans : Nat) : Int)), (14, sI ((v14 : Nat) : Int))], []⟩ ?_
       refine AW.meet (((v14 : Nat) : Int), (iEstimateCost (List.getD plans v14 Pln.zero) stats)) (by kernel_rfl) ⟨?_, e166⟩
       show True
       exact trivial
      ·
       intro h167
       have h167q : ((iEstimateCost (List.getD plans v14 Pln.zero) stats) = (-1)) ∨ ((best ≠ (-1)) ∧ (¬ ((iEstimateCost (List.getD plans v14 Pln.zero) stats) < bestCost))) := (Or.imp (fun h => (Go.Am.bne_neg h)) (fun h => (And.imp (fun h => (Go.Am.beq_neg h)) (fun h => (of_decide_eq_false h)) (Go.Am.or_neg h))) (Go.Am.and_neg h167))
       have e168 := e164.trans (Go.Am.bif_f h167)
       refine AW.kp [0, 1, 5, 6, 13, 14] [] ⟨[(0, sD10 plans), (1, sD11 stats), (5, sI best), (6, sI bestCost), (13, sI ((List.length plans : Nat) : Int)), (14, sI ((v14 : Nat) : Int))], []⟩ ?_
       refine AW.skip (AW.meet (best, bestCost) (by kernel_rfl) ⟨?_, e168⟩)
       show True
       exact trivial
     ·
      intro x hR
      obtain ⟨best1, bestCost1⟩ := x
      obtain ⟨hM0, e169⟩ := hR
      replace hM0 : True := hM0
      have e170 := e132.trans (Go.Am.then_eq e169)
      refine AW.r0 hC [0, 1, 5, 6, 13, 14] [] ⟨[(0, sD10 plans), (1, sD11 stats), (5, sI best1), (6, sI bestCost1), (13, sI ((List.length plans : Nat) : Int)), (14, sI ((v14 + 1 : Nat) : Int))], []⟩ [R64 ((v14 + 1 : Nat) : Int)] ?_ ?_
      ·
       refine ⟨?_, trivial⟩
       ·
        refine R64.of ?_
        omega
      refine AW.back (x := (best, bestCost, v14)) (best1, bestCost1, v14 + 1) (by kernel_rfl) ⟨?_, k126q, ?_, e170⟩ ?_
      ·
       show True
       assumption
      ·
       show (List.length plans) - (v14 + 1) < k126q
       omega
      ·
       show (List.length plans) - (v14 + 1) < (List.length plans) - v14
       omega
    ·
     intro h171
     have h171q := (of_decide_eq_false h171)
     have e172 := e125.trans (Go.Am.bif_f h171)
     refine AW.kp [5] [] ⟨[(5, sI best)], []⟩ ?_
     refine AW.exit ?_
     refine AW.meet best (by kernel_rfl) ⟨?_, e172⟩
     show True
     assumption
  ·
   intro best hR
   obtain ⟨hJ0, e173⟩ := hR
   replace hJ0 : True := hJ0
   have e174 := e9.trans (Go.Am.then_eq e173)
   refine AW.seq (AW.r1 hC [4] [] ⟨[(4, sI best)], []⟩ ?_)
   exact AW.ret (AW.rI best e174)

theorem ec_ge (p : Pln) (stats : List Sta) : EstimateCost p stats = -1 ∨ 0 ≤ EstimateCost p stats := by
 unfold EstimateCost
 simp only [Pln.eta]
 cases hv : validDb p stats with
 | false => exact .inl rfl
 | true =>
  refine .inr ?_
  have h := validDb_iff.1 hv
  exact (ecost_b (f := SizeOf.sizeOf p + 1) (PSt.mk' h.1 h.2) (Nat.lt_succ_self _)).1

theorem cheap_loop (plans : List Pln) (stats : List Sta) : ∀ (k i : Nat) (b bc c : Int), (b = -1 ∨ (0 ≤ b ∧ bc = c)) → iCheapestPlan_l0 plans stats k b bc i = CheapestPlan_l0 plans stats k b c i := by
 intro k
 induction k with
 | zero => intro i b bc c _; rfl
 | succ k ih =>
  intro i b bc c h
  unfold iCheapestPlan_l0 CheapestPlan_l0
  cases decide (((i : Nat) : Int) < ((List.length plans : Nat) : Int)) with
  | false => rfl
  | true =>
   simp only [cond_true, Go.Am.andThen]
   unfold iCheapestPlan_j0 CheapestPlan_j0
   rw [EstimateCost_same]
   have hg := ec_ge (List.getD plans i Pln.zero) stats
   generalize EstimateCost (List.getD plans i Pln.zero) stats = n at *
   have hc : (bif (n != (-1)) then (bif (b == (-1)) then true else (decide (n < bc))) else false) = (bif (decide (0 ≤ n)) then (bif (decide (b < 0)) then true else (decide (n < c))) else false) := by
    rcases hg with hg | hg
    ·
     rw [hg]; rfl
    ·
     rw [decide_eq_true hg, show (n != (-1)) = true by simp; omega]
     rcases h with h | ⟨h1, h2⟩
     ·
      rw [h]; rfl
     ·
      rw [show (b == (-1)) = false by simp; omega, decide_eq_false (show ¬ b < 0 by omega), h2]
   rw [hc]
   cases (bif (decide (0 ≤ n)) then (bif (decide (b < 0)) then true else (decide (n < c))) else false) with
   | true => exact ih _ _ _ _ (.inr ⟨by show (0 : Int) ≤ ((i : Nat) : Int); omega, rfl⟩)
   | false => exact ih _ _ _ _ h

theorem CheapestPlan_same (plans : List Pln) (stats : List Sta) : iCheapestPlan plans stats = CheapestPlan plans stats := by
 unfold iCheapestPlan CheapestPlan
 cases decide (20 < ((List.length plans : Nat) : Int)) with
 | true => rfl
 | false => exact cheap_loop plans stats _ _ _ _ _ (.inl rfl)

theorem eqPlanS_self (a : List Pln) : eqPlanS a a = true := by
 unfold eqPlanS
 simp only [bne_self_eq_false, cond_false]
 rcases all_loop (eqPlanS_l0 a a) a.length (fun i => !(eqPlan (List.getD a i Pln.zero) (List.getD a i Pln.zero))) (fun k i => rfl) (a.length - 0 + 1) 0 (by omega) with ⟨h1, _⟩ | ⟨_, j, _, hj, h2⟩
 ·
  rw [h1]; rfl
 ·
  rw [eqPlan_self] at h2
  cases h2

def FnExactCheapestPlan (aPlans : List Pln) (aStats : List Sta) : Bool := (bif (decide ((szPlanS aPlans 1048576) < 0)) then true else (bif (decide ((szStatsS aStats (szPlanS aPlans 1048576)) < 0)) then true else (bif ((iCheapestPlan (toPlanS aPlans) (toStatsS aStats)) != (CheapestPlan (toPlanS aPlans) (toStatsS aStats))) then false else (bif (!(eqPlanS (toPlanS aPlans) (toPlanS aPlans))) then false else (bif (!(eqStatsS (toStatsS aStats) (toStatsS aStats))) then false else true)))))

def FnExactCheapestPlan_sp : FnSpec := mkSpec [.val (.slice (.named 2)), .val (.slice (.named 3))] [.val .bool] (fun (aPlans : List Pln) (aStats : List Sta) => True) (fun (aPlans : List Pln) (aStats : List Sta) => [⟨.bool, (FnExactCheapestPlan aPlans aStats)⟩])

theorem FnExactCheapestPlan_ok : FnOK Try.prog 4 FnExactCheapestPlan_sp := by
 have hC : CtxOK Try.prog (mkCtx tyL [(16, szStatsS_sp), (19, toStatsS_sp), (22, eqStatsS_sp), (23, szPlanS_sp), (24, CheapestPlan_sp), (25, toPlanS_sp), (26, iCheapestPlan_sp), (27, eqPlanS_sp)]) := CtxOK.cons szStatsS_ok (CtxOK.cons toStatsS_ok (CtxOK.cons eqStatsS_ok (CtxOK.cons szPlanS_ok (CtxOK.cons CheapestPlan_ok (CtxOK.cons toPlanS_ok (CtxOK.cons iCheapestPlan_ok (CtxOK.cons eqPlanS_ok (CtxOK.nil tyOK))))))))
 refine FnOK.of_body Try.func4 (by kernel_rfl) rfl (C := (mkCtx tyL [(16, szStatsS_sp), (19, toStatsS_sp), (22, eqStatsS_sp), (23, szPlanS_sp), (24, CheapestPlan_sp), (25, toPlanS_sp), (26, iCheapestPlan_sp), (27, eqPlanS_sp)])) hC.ty (by kernel_rfl) ?_
 intro (aPlans : List Pln) (aStats : List Sta) hwf hpre E
 have hpre : True := hpre
 have hw_aPlans : Wf ⟨(.slice (.named 2)), (aPlans : List Pln)⟩ := hwf _ (List.Mem.head _)
 have hl_aPlans : ((List.length aPlans : Nat) : Int) ≤ 9223372036854775807 := hw_aPlans.len
 have hw_aStats : Wf ⟨(.slice (.named 3)), (aStats : List Sta)⟩ := hwf _ (List.Mem.tail _ (List.Mem.head _))
 have hl_aStats : ((List.length aStats : Nat) : Int) ≤ 9223372036854775807 := hw_aStats.len
 have e0 : FnExactCheapestPlan aPlans aStats = FnExactCheapestPlan aPlans aStats := rfl
 refine AW.seq (AW.r1 hC [0, 1] [] ⟨[(0, sD10 aPlans), (1, sD11 aStats)], []⟩ ?_)
 refine AW.seq (AW.r1 hC [0, 1, 5] [] ⟨[(0, sD10 aPlans), (1, sD11 aStats), (5, sI 1048576)], []⟩ ?_)
 refine AW.seq (AW.r0 hC [0, 1, 5] [] ⟨[(0, sD10 aPlans), (1, sD11 aStats), (5, sI (szPlanS aPlans 1048576))], []⟩ [(0 ≤ (1048576 : Int))] ?_ ?_)
 ·
  refine ⟨?_, trivial⟩
  ·
   omega
 refine AW.seq (AW.seq (AW.r1 hC [0, 1, 5, 14] [] ⟨[(0, sD10 aPlans), (1, sD11 aStats), (5, sI (szPlanS aPlans 1048576)), (14, sB (decide ((szPlanS aPlans 1048576) < 0)))], []⟩ ?_))
 refine AW.cd (decide ((szPlanS aPlans 1048576) < 0)) ?_ ?_
 ·
  intro h1
  have h1q := (of_decide_eq_true h1)
  have e2 := e0.trans (Go.Am.bif_t h1)
  refine AW.seq (AW.r1 hC [4] [] ⟨[(4, sB true)], []⟩ ?_)
  exact AW.ret (AW.rB true e2)
 ·
  intro h3
  have h3q := (of_decide_eq_false h3)
  have e4 := e0.trans (Go.Am.bif_f h3)
  refine AW.kp [0, 1, 5] [] ⟨[(0, sD10 aPlans), (1, sD11 aStats), (5, sI (szPlanS aPlans 1048576))], []⟩ ?_
  refine AW.skip (AW.seq (AW.r0 hC [0, 1, 5] [] ⟨[(0, sD10 aPlans), (1, sD11 aStats), (5, sI (szStatsS aStats (szPlanS aPlans 1048576)))], []⟩ [(0 ≤ (szPlanS aPlans 1048576))] ?_ ?_))
  ·
   refine ⟨?_, trivial⟩
   ·
    omega
  refine AW.seq (AW.seq (AW.r1 hC [0, 1, 19] [] ⟨[(0, sD10 aPlans), (1, sD11 aStats), (19, sB (decide ((szStatsS aStats (szPlanS aPlans 1048576)) < 0)))], []⟩ ?_))
  refine AW.cd (decide ((szStatsS aStats (szPlanS aPlans 1048576)) < 0)) ?_ ?_
  ·
   intro h5
   have h5q := (of_decide_eq_true h5)
   have e6 := e4.trans (Go.Am.bif_t h5)
   refine AW.seq (AW.r1 hC [4] [] ⟨[(4, sB true)], []⟩ ?_)
   exact AW.ret (AW.rB true e6)
  ·
   intro h7
   have h7q := (of_decide_eq_false h7)
   have e8 := e4.trans (Go.Am.bif_f h7)
   refine AW.kp [0, 1] [] ⟨[(0, sD10 aPlans), (1, sD11 aStats)], []⟩ ?_
   refine AW.skip (AW.seq (AW.r0 hC [0, 1, 6] [] ⟨[(0, sD10 aPlans), (1, sD11 aStats), (6, sI (CheapestPlan (toPlanS aPlans) (toStatsS aStats)))], []⟩ [(FitPS aPlans), (FitSt aStats), ((List.length (toStatsS aStats) : Int) ≤ 1048576)] ?_ ?_))
   ·
    refine ⟨?_, ?_, ?_, trivial⟩
    ·
     exact FitPS.of2 h3q
    ·
     exact FitSt.of3 h3q h7q
    ·
     rw [toStatsS_len]
     exact (FitSt.of3 h3q h7q).len
   refine AW.seq (AW.r0 hC [0, 1, 6, 7] [104] ⟨[(0, sD10 aPlans), (1, sD11 aStats), (6, sI (CheapestPlan (toPlanS aPlans) (toStatsS aStats))), (7, .arr 104 1)], [(104, .arr 1 (.named 2) ((toPlanS aPlans) : List Pln))]⟩ [(FitPS aPlans)] ?_ ?_)
   ·
    refine ⟨?_, trivial⟩
    ·
     exact FitPS.of2 h3q
   refine AW.seq (AW.r0 hC [0, 1, 6, 7, 8] [104, 112] ⟨[(0, sD10 aPlans), (1, sD11 aStats), (6, sI (CheapestPlan (toPlanS aPlans) (toStatsS aStats))), (7, .arr 104 1), (8, .arr 112 1)], [(104, .arr 1 (.named 2) ((toPlanS aPlans) : List Pln)), (112, .arr 1 (.named 3) ((toStatsS aStats) : List Sta))]⟩ [(FitSt aStats)] ?_ ?_)
   ·
    refine ⟨?_, trivial⟩
    ·
     exact FitSt.of3 h3q h7q
   refine AW.seq (AW.r0 hC [0, 1, 6, 7, 8, 9] [104, 112] ⟨[(0, sD10 aPlans), (1, sD11 aStats), (6, sI (CheapestPlan (toPlanS aPlans) (toStatsS aStats))), (7, .arr 104 1), (8, .arr 112 1), (9, sI (iCheapestPlan (toPlanS aPlans) (toStatsS aStats)))], [(104, .arr 1 (.named 2) ((toPlanS aPlans) : List Pln)), (112, .arr 1 (.named 3) ((toStatsS aStats) : List Sta))]⟩ [(True)] ?_ ?_)
   ·
    refine ⟨?_, trivial⟩
    ·
     trivial
   refine AW.seq (AW.seq (AW.r1 hC [0, 1, 7, 8, 34] [104, 112] ⟨[(0, sD10 aPlans), (1, sD11 aStats), (7, .arr 104 1), (8, .arr 112 1), (34, sB ((iCheapestPlan (toPlanS aPlans) (toStatsS aStats)) != (CheapestPlan (toPlanS aPlans) (toStatsS aStats))))], [(104, .arr 1 (.named 2) ((toPlanS aPlans) : List Pln)), (112, .arr 1 (.named 3) ((toStatsS aStats) : List Sta))]⟩ ?_))
   refine AW.cd ((iCheapestPlan (toPlanS aPlans) (toStatsS aStats)) != (CheapestPlan (toPlanS aPlans) (toStatsS aStats))) ?_ ?_
   ·
    intro h9
    have h9q := (Go.Am.bne_pos h9)
    have e10 := e8.trans (Go.Am.bif_t h9)
    refine AW.seq (AW.r1 hC [4] [] ⟨[(4, sB false)], []⟩ ?_)
    exact AW.ret (AW.rB false e10)
   ·
    intro h11
    have h11q := (Go.Am.bne_neg h11)
    have e12 := e8.trans (Go.Am.bif_f h11)
    refine AW.kp [0, 1, 7, 8] [104, 112] ⟨[(0, sD10 aPlans), (1, sD11 aStats), (7, .arr 104 1), (8, .arr 112 1)], [(104, .arr 1 (.named 2) ((toPlanS aPlans) : List Pln)), (112, .arr 1 (.named 3) ((toStatsS aStats) : List Sta))]⟩ ?_
    refine AW.skip (AW.seq (AW.seq (AW.r0 hC [1, 8, 39] [112] ⟨[(1, sD11 aStats), (8, .arr 112 1), (39, sB (!(eqPlanS (toPlanS aPlans) (toPlanS aPlans))))], [(112, .arr 1 (.named 3) ((toStatsS aStats) : List Sta))]⟩ [(FitPS aPlans), (True)] ?_ ?_)))
    ·
     refine ⟨?_, ?_, trivial⟩
     ·
      exact FitPS.of2 h3q
     ·
      trivial
    refine AW.cd (!(eqPlanS (toPlanS aPlans) (toPlanS aPlans))) ?_ ?_
    ·
     intro h13
     have h13q := (Go.Am.not_pos h13)
     have e14 := e12.trans (Go.Am.bif_t h13)
     refine AW.seq (AW.r1 hC [4] [] ⟨[(4, sB false)], []⟩ ?_)
     exact AW.ret (AW.rB false e14)
    ·
     intro h15
     have h15q := (Go.Am.not_neg h15)
     have e16 := e12.trans (Go.Am.bif_f h15)
     refine AW.kp [1, 8] [112] ⟨[(1, sD11 aStats), (8, .arr 112 1)], [(112, .arr 1 (.named 3) ((toStatsS aStats) : List Sta))]⟩ ?_
     refine AW.skip (AW.seq (AW.seq (AW.r0 hC [44] [] ⟨[(44, sB (!(eqStatsS (toStatsS aStats) (toStatsS aStats))))], []⟩ [(FitSt aStats), (True)] ?_ ?_)))
     ·
      refine ⟨?_, ?_, trivial⟩
      ·
       exact FitSt.of3 h3q h7q
      ·
       trivial
     refine AW.cd (!(eqStatsS (toStatsS aStats) (toStatsS aStats))) ?_ ?_
     ·
      intro h17
      have h17q := (Go.Am.not_pos h17)
      have e18 := e16.trans (Go.Am.bif_t h17)
      refine AW.seq (AW.r1 hC [4] [] ⟨[(4, sB false)], []⟩ ?_)
      exact AW.ret (AW.rB false e18)
     ·
      intro h19
      have h19q := (Go.Am.not_neg h19)
      have e20 := e16.trans (Go.Am.bif_f h19)
      refine AW.kp [] [] ⟨[], []⟩ ?_
      refine AW.skip (AW.seq (AW.r1 hC [4] [] ⟨[(4, sB true)], []⟩ ?_))
      exact AW.ret (AW.rB true e20)

theorem FnExactCheapestPlan_law (plans : List Pln) (stats : List Sta) : FnExactCheapestPlan plans stats = true := by
 unfold FnExactCheapestPlan
 rw [CheapestPlan_same, eqPlanS_self, eqStatsS_self]
 simp

end
end Go.Proofs.Ytodcdgolcbdkgaa
