/-
  A part of the proof of this claim (AqC): what functions of the program compute, and plain facts of that. No conditions.
-/
import Derived.Test.YtodcdgolcbdkgaaAqB
set_option linter.all false
namespace Go.Proofs.Ytodcdgolcbdkgaa
open Go Go.Am
noncomputable section

theorem iestd_eq (p : Pln) (stats : List Sta) : iestd p stats = bif validDb p stats then (est p stats, ecost p stats) else (-1, -1) := by
 unfold iestd
 by_cases hv : AllSt stats ∧ widthOf p (statsWidths stats) ≠ 0
 ·
  rw [validDb_iff.2 hv, cond_true]
  have hP := PSt.mk' hv.1 hv.2
  have h4 := hP.pvw.1.n4
  rw [statsWidths_len] at h4
  rw [decide_eq_false (show ¬ (4 : Int) < ((stats.length : Nat) : Int) by omega), cond_false]
  rcases all_loopG ((-1, -1) : Int × Int) (iestd_l0 stats) stats.length (fun i => !(iValidStats (List.getD stats i Sta.zero) ((List.length (Sta.Distinct (List.getD stats i Sta.zero)) : Nat) : Int))) (fun k i => rfl) (stats.length - 0 + 1) 0 (by omega) with ⟨h1, _⟩ | ⟨_, j, _, hj, h2⟩
  ·
   rw [h1]
   simp only [Sum.elim_inl]
   rw [iPlanWidth_eq, show (widthOf p (statsWidths stats) == 0) = false from beq_false_of_ne hv.2, cond_false]
   have e1 : est p stats = (iest p stats (Cel.mk 0)).1 := est_eq stats _ p 8 _ hP
   have e2 : (iest p stats (Cel.mk 0)).2.v = 0 + ecost p stats := ec_eq stats _ p 8 _ hP (Nat.lt_succ_self _)
   rw [e1, e2, Int.zero_add]
  ·
   rw [iValidStats_iff.2 (hv.1 j hj)] at h2
   cases h2
 ·
  have : validDb p stats = false := by
   rw [Bool.eq_false_iff]
   exact fun h => hv (validDb_iff.1 h)
  rw [this, cond_false]
  cases decide ((4 : Int) < ((stats.length : Nat) : Int)) with
  | true => rfl
  | false =>
   rw [cond_false]
   rcases all_loopG ((-1, -1) : Int × Int) (iestd_l0 stats) stats.length (fun i => !(iValidStats (List.getD stats i Sta.zero) ((List.length (Sta.Distinct (List.getD stats i Sta.zero)) : Nat) : Int))) (fun k i => rfl) (stats.length - 0 + 1) 0 (by omega) with ⟨h1, h2⟩ | ⟨h1, _⟩
   ·
    rw [h1]
    simp only [Sum.elim_inl]
    have hA : AllSt stats := fun j hj => iValidStats_iff.1 (not_neg (h2 j (Nat.zero_le _) hj))
    have h0 : widthOf p (statsWidths stats) = 0 := Decidable.byContradiction fun h => hv ⟨hA, h⟩
    rw [iPlanWidth_eq, h0]
    rfl
   ·
    rw [h1]
    rfl

theorem EstimateRows_same (p : Pln) (stats : List Sta) : iEstimateRows p stats = EstimateRows p stats := by
 unfold iEstimateRows EstimateRows
 simp only [Pln.eta]
 rw [iestd_eq]
 cases validDb p stats <;> rfl

theorem EstimateCost_same (p : Pln) (stats : List Sta) : iEstimateCost p stats = EstimateCost p stats := by
 unfold iEstimateCost EstimateCost
 simp only [Pln.eta]
 rw [iestd_eq]
 cases validDb p stats <;> rfl

def szStats (a : Sta) (left : Int) : Int := (bif (decide ((szIntS (Sta.Distinct a) left) < 0)) then (-1) else (bif (decide ((szIntS (Sta.Nulls a) (szIntS (Sta.Distinct a) left)) < 0)) then (-1) else (szIntS (Sta.Nulls a) (szIntS (Sta.Distinct a) left))))

def szStats_sp : FnSpec := mkSpec [.val (.named 3), .val (.int .i64)] [.val (.int .i64)] (fun (a : Sta) (left : Int) => 0 ≤ left) (fun (a : Sta) (left : Int) => [⟨(.int .i64), (szStats a left)⟩])

theorem szStats_ok : FnOK Try.prog 68 szStats_sp := by
 have hC : CtxOK Try.prog (mkCtx tyL [(67, szIntS_sp)]) := CtxOK.cons szIntS_ok (CtxOK.nil tyOK)
 refine FnOK.of_body Try.func68 (by kernel_rfl) rfl (C := (mkCtx tyL [(67, szIntS_sp)])) hC.ty (by kernel_rfl) ?_
 intro (a : Sta) (left : Int) hwf hpre E
 have hpre : 0 ≤ left := hpre
 have hw_a : Wf ⟨(.named 3), (a : Sta)⟩ := hwf _ (List.Mem.head _)
 obtain ⟨hr_a_Rows, hl_a_Distinct, hl_a_Nulls⟩ := Sta.wfl hw_a
 have hw_left : Wf ⟨(.int .i64), (left : Int)⟩ := hwf _ (List.Mem.tail _ (List.Mem.head _))
 have hr_left : -9223372036854775808 ≤ left ∧ left ≤ 9223372036854775807 := hw_left.int_inv
 have e0 : szStats a left = szStats a left := rfl
 refine AW.seq (AW.r1 hC [1, 2] [8] ⟨[(1, sI left), (2, .ref 8 1 0)], [(8, .box 1 [sI (Sta.Rows a), sD7 (Sta.Distinct a), sD7 (Sta.Nulls a)])]⟩ ?_)
 refine AW.seq (AW.r0 hC [1, 2] [8] ⟨[(1, sI (szIntS (Sta.Distinct a) left)), (2, .ref 8 1 0)], [(8, .box 1 [sI (Sta.Rows a), sD7 (Sta.Distinct a), sD7 (Sta.Nulls a)])]⟩ [(0 ≤ left)] ?_ ?_)
 ·
  refine ⟨?_, trivial⟩
  ·
   omega
 refine AW.seq (AW.seq (AW.r1 hC [1, 2, 10] [8] ⟨[(1, sI (szIntS (Sta.Distinct a) left)), (2, .ref 8 1 0), (10, sB (decide ((szIntS (Sta.Distinct a) left) < 0)))], [(8, .box 1 [sI (Sta.Rows a), sD7 (Sta.Distinct a), sD7 (Sta.Nulls a)])]⟩ ?_))
 refine AW.cd (decide ((szIntS (Sta.Distinct a) left) < 0)) ?_ ?_
 ·
  intro h1
  have h1q := (of_decide_eq_true h1)
  have e2 := e0.trans (Go.Am.bif_t h1)
  refine AW.seq (AW.r1 hC [4] [] ⟨[(4, sI (-1))], []⟩ ?_)
  exact AW.ret (AW.rI (-1) e2)
 ·
  intro h3
  have h3q := (of_decide_eq_false h3)
  have e4 := e0.trans (Go.Am.bif_f h3)
  refine AW.kp [1, 2] [8] ⟨[(1, sI (szIntS (Sta.Distinct a) left)), (2, .ref 8 1 0)], [(8, .box 1 [sI (Sta.Rows a), sD7 (Sta.Distinct a), sD7 (Sta.Nulls a)])]⟩ ?_
  refine AW.skip (AW.seq (AW.r0 hC [1] [] ⟨[(1, sI (szIntS (Sta.Nulls a) (szIntS (Sta.Distinct a) left)))], []⟩ [(0 ≤ (szIntS (Sta.Distinct a) left))] ?_ ?_))
  ·
   refine ⟨?_, trivial⟩
   ·
    omega
  refine AW.seq (AW.seq (AW.r1 hC [1, 16] [] ⟨[(1, sI (szIntS (Sta.Nulls a) (szIntS (Sta.Distinct a) left))), (16, sB (decide ((szIntS (Sta.Nulls a) (szIntS (Sta.Distinct a) left)) < 0)))], []⟩ ?_))
  refine AW.cd (decide ((szIntS (Sta.Nulls a) (szIntS (Sta.Distinct a) left)) < 0)) ?_ ?_
  ·
   intro h5
   have h5q := (of_decide_eq_true h5)
   have e6 := e4.trans (Go.Am.bif_t h5)
   refine AW.seq (AW.r1 hC [4] [] ⟨[(4, sI (-1))], []⟩ ?_)
   exact AW.ret (AW.rI (-1) e6)
  ·
   intro h7
   have h7q := (of_decide_eq_false h7)
   have e8 := e4.trans (Go.Am.bif_f h7)
   refine AW.kp [1] [] ⟨[(1, sI (szIntS (Sta.Nulls a) (szIntS (Sta.Distinct a) left)))], []⟩ ?_
   refine AW.skip (AW.seq (AW.r1 hC [4] [] ⟨[(4, sI (szIntS (Sta.Nulls a) (szIntS (Sta.Distinct a) left)))], []⟩ ?_))
   exact AW.ret (AW.rI (szIntS (Sta.Nulls a) (szIntS (Sta.Distinct a) left)) e8)

def szStatsS_l0 (a : List Sta) : Nat → Int → Nat → Int ⊕ Int
 | 0, left1, i => .inl left1
 | k + 1, left1, i => (bif (decide (((i : Nat) : Int) < ((List.length a : Nat) : Int))) then (bif (decide ((szStats (List.getD a i Sta.zero) left1) < 0)) then (.inr (-1)) else (szStatsS_l0 a k (szStats (List.getD a i Sta.zero) left1) (i + 1))) else (.inl left1))

def szStatsS (a : List Sta) (left : Int) : Int := (bif (decide ((left - ((List.length a : Nat) : Int)) < 0)) then (-1) else (Sum.elim (fun z => (fun (left1 : Int) => left1) z) (fun r => r) (szStatsS_l0 a ((List.length a) - 0 + 1) (left - ((List.length a : Nat) : Int)) 0)))

def szStatsS_sp : FnSpec := mkSpec [.val (.slice (.named 3)), .val (.int .i64)] [.val (.int .i64)] (fun (a : List Sta) (left : Int) => 0 ≤ left) (fun (a : List Sta) (left : Int) => [⟨(.int .i64), (szStatsS a left)⟩])

theorem szStatsS_ok : FnOK Try.prog 16 szStatsS_sp := by
 have hC : CtxOK Try.prog (mkCtx tyL [(68, szStats_sp)]) := CtxOK.cons szStats_ok (CtxOK.nil tyOK)
 refine FnOK.of_body Try.func16 (by kernel_rfl) rfl (C := (mkCtx tyL [(68, szStats_sp)])) hC.ty (by kernel_rfl) ?_
 intro (a : List Sta) (left : Int) hwf hpre E
 have hpre : 0 ≤ left := hpre
 have hw_a : Wf ⟨(.slice (.named 3)), (a : List Sta)⟩ := hwf _ (List.Mem.head _)
 have hl_a : ((List.length a : Nat) : Int) ≤ 9223372036854775807 := hw_a.len
 have hw_left : Wf ⟨(.int .i64), (left : Int)⟩ := hwf _ (List.Mem.tail _ (List.Mem.head _))
 have hr_left : -9223372036854775808 ≤ left ∧ left ≤ 9223372036854775807 := hw_left.int_inv
 have e0 : szStatsS a left = szStatsS a left := rfl
 refine AW.seq (AW.r1 hC [0, 1] [] ⟨[(0, sD11 a), (1, sI left)], []⟩ ?_)
 refine AW.seq (AW.r0 hC [0, 1] [] ⟨[(0, sD11 a), (1, sI (left - ((List.length a : Nat) : Int)))], []⟩ [R64 (left - ((List.length a : Nat) : Int))] ?_ ?_)
 ·
  refine ⟨?_, trivial⟩
  ·
   refine R64.of ?_
   omega
 refine AW.seq (AW.seq (AW.r1 hC [0, 1, 11] [] ⟨[(0, sD11 a), (1, sI (left - ((List.length a : Nat) : Int))), (11, sB (decide ((left - ((List.length a : Nat) : Int)) < 0)))], []⟩ ?_))
 refine AW.cd (decide ((left - ((List.length a : Nat) : Int)) < 0)) ?_ ?_
 ·
  intro h1
  have h1q := (of_decide_eq_true h1)
  have e2 := e0.trans (Go.Am.bif_t h1)
  refine AW.seq (AW.r1 hC [4] [] ⟨[(4, sI (-1))], []⟩ ?_)
  exact AW.ret (AW.rI (-1) e2)
 ·
  intro h3
  have h3q := (of_decide_eq_false h3)
  have e4 := e0.trans (Go.Am.bif_f h3)
  refine AW.kp [0, 1] [] ⟨[(0, sD11 a), (1, sI (left - ((List.length a : Nat) : Int)))], []⟩ ?_
  refine AW.skip (AW.seq (AW.seq (AW.r1 hC [0, 1, 5] [] ⟨[(0, sD11 a), (1, sI (left - ((List.length a : Nat) : Int))), (5, sI 0)], []⟩ ?_)))
  refine AW.cutQ (α := Int) (fun x => ⟨[(1, sI x)], []⟩) (fun x => (0 ≤ x) ∧ (szStatsS_l0 a ((List.length a) - 0 + 1) (left - ((List.length a : Nat) : Int)) 0) = (.inl x)) ?_ ?_
  ·
   skip
   refine AW.block (AW.loop (α := Int × Nat) (fun x => ⟨[(0, sD11 a), (1, sI x.1), (5, sI ((x.2 : Nat) : Int))], []⟩) (fun x => (0 ≤ x.1) ∧ ∃ k, (List.length a) - x.2 < k ∧ (szStatsS_l0 a ((List.length a) - 0 + 1) (left - ((List.length a : Nat) : Int)) 0) = szStatsS_l0 a k x.1 x.2) (fun x => (List.length a) - x.2) ((left - ((List.length a : Nat) : Int)), 0) (by kernel_rfl) ⟨?_, _, Nat.lt_succ_self _, rfl⟩ ?_)
   ·
    show 0 ≤ (left - ((List.length a : Nat) : Int))
    omega
   ·
    intro x hR
    obtain ⟨left1, i⟩ := x
    obtain ⟨hI0, k37, hk35, e36⟩ := hR
    replace hI0 : 0 ≤ left1 := hI0
    replace hk35 : (List.length a) - i < k37 := hk35
    obtain ⟨k37q, rfl⟩ : ∃ k, k37 = k + 1 := ⟨k37 - 1, by omega⟩
    refine AW.seq (AW.seq (AW.r1 hC [0, 1, 5, 15] [] ⟨[(0, sD11 a), (1, sI left1), (5, sI ((i : Nat) : Int)), (15, sB (decide (((i : Nat) : Int) < ((List.length a : Nat) : Int))))], []⟩ ?_))
    refine AW.cd (decide (((i : Nat) : Int) < ((List.length a : Nat) : Int))) ?_ ?_
    ·
     intro h38
     have h38q := (of_decide_eq_true h38)
     have e39 := e36.trans (Go.Am.bif_t h38)
     refine AW.kp [0, 1, 5] [] ⟨[(0, sD11 a), (1, sI left1), (5, sI ((i : Nat) : Int))], []⟩ ?_
     refine AW.skip (AW.seq (AW.block (AW.seq (AW.r0 hC [0, 1, 5] [] ⟨[(0, sD11 a), (1, sI (szStats (List.getD a i Sta.zero) left1)), (5, sI ((i : Nat) : Int))], []⟩ [IX ((i : Nat) : Int) ((List.length a : Nat) : Int), (0 ≤ left1)] ?_ ?_))))
     ·
      refine ⟨?_, ?_, trivial⟩
      ·
       refine IX.of ?_
       omega
      ·
       omega
     refine AW.seq (AW.wf_int (s := 1) (k := .i64) (n := (szStats (List.getD a i Sta.zero) left1)) (by kernel_rfl) fun hw40 => ?_)
     replace hw40 : -9223372036854775808 ≤ (szStats (List.getD a i Sta.zero) left1) ∧ (szStats (List.getD a i Sta.zero) left1) ≤ 9223372036854775807 := hw40
     refine AW.r1 hC [0, 1, 5, 25] [] ⟨[(0, sD11 a), (1, sI (szStats (List.getD a i Sta.zero) left1)), (5, sI ((i : Nat) : Int)), (25, sB (decide ((szStats (List.getD a i Sta.zero) left1) < 0)))], []⟩ ?_
     refine AW.cd (decide ((szStats (List.getD a i Sta.zero) left1) < 0)) ?_ ?_
     ·
      intro h41
      have h41q := (of_decide_eq_true h41)
      have e42 := e39.trans (Go.Am.bif_t h41)
      refine AW.seq (AW.r1 hC [4] [] ⟨[(4, sI (-1))], []⟩ ?_)
      refine AW.ret ?_
      have e43 := e4.trans (Go.Am.elim_r e42)
      exact AW.rI (-1) e43
     ·
      intro h44
      have h44q := (of_decide_eq_false h44)
      have e45 := e39.trans (Go.Am.bif_f h44)
      refine AW.kp [0, 1, 5] [] ⟨[(0, sD11 a), (1, sI (szStats (List.getD a i Sta.zero) left1)), (5, sI ((i : Nat) : Int))], []⟩ ?_
      refine AW.skip (AW.r0 hC [0, 1, 5] [] ⟨[(0, sD11 a), (1, sI (szStats (List.getD a i Sta.zero) left1)), (5, sI ((i + 1 : Nat) : Int))], []⟩ [R64 ((i + 1 : Nat) : Int)] ?_ ?_)
      ·
       refine ⟨?_, trivial⟩
       ·
        refine R64.of ?_
        omega
      refine AW.back (x := (left1, i)) ((szStats (List.getD a i Sta.zero) left1), i + 1) (by kernel_rfl) ⟨?_, k37q, ?_, e45⟩ ?_
      ·
       show 0 ≤ (szStats (List.getD a i Sta.zero) left1)
       omega
      ·
       show (List.length a) - (i + 1) < k37q
       omega
      ·
       show (List.length a) - (i + 1) < (List.length a) - i
       omega
    ·
     intro h46
     have h46q := (of_decide_eq_false h46)
     have e47 := e36.trans (Go.Am.bif_f h46)
     refine AW.kp [1] [] ⟨[(1, sI left1)], []⟩ ?_
     refine AW.exit ?_
     refine AW.meet left1 (by kernel_rfl) ⟨?_, e47⟩
     show 0 ≤ left1
     assumption
  ·
   intro left1 hR
   obtain ⟨hJ0, e48⟩ := hR
   replace hJ0 : 0 ≤ left1 := hJ0
   have e49 := e4.trans (Go.Am.elim_l e48)
   refine AW.seq (AW.r1 hC [4] [] ⟨[(4, sI left1)], []⟩ ?_)
   exact AW.ret (AW.rI left1 e49)

theorem szStats_le {a : Sta} {l : Int} (h : ¬ szStats a l < 0) : szStats a l ≤ l ∧ ((a.Distinct.length : Nat) : Int) ≤ l ∧ ((a.Nulls.length : Nat) : Int) ≤ l := by
 unfold szStats at *
 by_cases h1 : szIntS a.Distinct l < 0
 ·
  rw [decide_eq_true h1, cond_true] at h
  exact absurd (by decide) h
 ·
  rw [decide_eq_false h1, cond_false] at *
  have e1 := szIntS_le h1
  by_cases h2 : szIntS a.Nulls (szIntS a.Distinct l) < 0
  ·
   rw [decide_eq_true h2, cond_true] at h
   exact absurd (by decide) h
  ·
   rw [decide_eq_false h2, cond_false] at *
   have e2 := szIntS_le h2
   omega

structure FitSt (a : List Sta) : Prop where
 len : ((a.length : Nat) : Int) ≤ 1048576
 el : ∀ j, j < a.length → (((List.getD a j Sta.zero).Distinct.length : Nat) : Int) ≤ 1048576 ∧ (((List.getD a j Sta.zero).Nulls.length : Nat) : Int) ≤ 1048576

theorem szStatsS_loop (a : List Sta) : ∀ (k : Nat) (left : Int) (i : Nat), a.length - i < k → 0 ≤ left → left ≤ 1048576 → 0 ≤ Sum.elim (fun z => (fun (left1 : Int) => left1) z) (fun r => r) (szStatsS_l0 a k left i) →
  ∀ j, i ≤ j → j < a.length → (((List.getD a j Sta.zero).Distinct.length : Nat) : Int) ≤ 1048576 ∧ (((List.getD a j Sta.zero).Nulls.length : Nat) : Int) ≤ 1048576 := by
 intro k
 induction k with
 | zero => intro left i h; omega
 | succ k ih =>
  intro left i h h1 h2 h3 j hj hjl
  unfold szStatsS_l0 at h3
  rw [lt_dec (show i < a.length by omega), cond_true] at h3
  by_cases hn : szStats (a.getD i Sta.zero) left < 0
  ·
   rw [decide_eq_true hn] at h3
   exact absurd h3 (by simp only [cond_true, Sum.elim_inr]; decide)
  ·
   rw [decide_eq_false hn, cond_false] at h3
   have hle := szStats_le hn
   rcases Nat.eq_or_lt_of_le hj with rfl | hj
   ·
    exact ⟨by omega, by omega⟩
   ·
    exact ih _ (i + 1) (by omega) (by omega) (by omega) h3 j (by omega) hjl

theorem szStatsS_le {a : List Sta} {l : Int} (hl : 0 ≤ l ∧ l ≤ 1048576) (h : ¬ szStatsS a l < 0) : FitSt a := by
 unfold szStatsS at h
 by_cases e : l - ((List.length a : Nat) : Int) < 0
 ·
  rw [decide_eq_true e, cond_true] at h
  omega
 ·
  rw [decide_eq_false e, cond_false] at h
  exact ⟨by omega, fun j hj => szStatsS_loop a _ _ 0 (by omega) (by omega) (by omega) (Int.not_lt.1 h) j (Nat.zero_le _) hj⟩

theorem szPlan_le (p : Pln) {l : Int} (h : 0 ≤ l) : szPlan p l ≤ l := szP_le _ p l h

theorem FitSt.of2 {a : List Sta} {p : Pln} (h1 : ¬ szPlan p 1048576 < 0) (h2 : ¬ szStatsS a (szPlan p 1048576) < 0) : FitSt a :=
 szStatsS_le ⟨by omega, szPlan_le p (by decide)⟩ h2

def toStats (a : Sta) : Sta := (Sta.mk (Sta.Rows a) (toIntS (Sta.Distinct a)) (toIntS (Sta.Nulls a)))

def toStats_sp : FnSpec := mkSpec [.val (.named 3)] [.val (.named 3)] (fun (a : Sta) => ((List.length (Sta.Distinct a) : Nat) : Int) ≤ 1048576 ∧ ((List.length (Sta.Nulls a) : Nat) : Int) ≤ 1048576) (fun (a : Sta) => [⟨(.named 3), (toStats a)⟩])

theorem toStats_ok : FnOK Try.prog 72 toStats_sp := by
 have hC : CtxOK Try.prog (mkCtx tyL [(30, toIntS_sp)]) := CtxOK.cons toIntS_ok (CtxOK.nil tyOK)
 refine FnOK.of_body Try.func72 (by kernel_rfl) rfl (C := (mkCtx tyL [(30, toIntS_sp)])) hC.ty (by kernel_rfl) ?_
 intro (a : Sta) hwf hpre E
 have hpre : ((List.length (Sta.Distinct a) : Nat) : Int) ≤ 1048576 ∧ ((List.length (Sta.Nulls a) : Nat) : Int) ≤ 1048576 := hpre
 have hw_a : Wf ⟨(.named 3), (a : Sta)⟩ := hwf _ (List.Mem.head _)
 obtain ⟨hr_a_Rows, hl_a_Distinct, hl_a_Nulls⟩ := Sta.wfl hw_a
 have e0 : toStats a = toStats a := rfl
 refine AW.seq (AW.r1 hC [1, 2] [4, 8] ⟨[(1, .ref 4 1 0), (2, .ref 8 1 0)], [(4, .box 1 [sI (Sta.Rows a), sD7 (Sta.Distinct a), sD7 (Sta.Nulls a)]), (8, .box 1 [sI 0, .nilsl, .nilsl])]⟩ ?_)
 refine AW.seq (AW.r1 hC [1, 2, 3] [4, 8, 12] ⟨[(1, .ref 4 1 0), (2, .ref 8 1 0), (3, .ref 12 1 0)], [(4, .box 1 [sI (Sta.Rows a), sD7 (Sta.Distinct a), sD7 (Sta.Nulls a)]), (8, .box 1 [sI 0, .nilsl, .nilsl]), (12, .box 1 [sI 0, .nilsl, .nilsl])]⟩ ?_)
 refine AW.seq (AW.r1 hC [1, 2, 3] [4, 8, 12] ⟨[(1, .ref 4 1 0), (2, .ref 8 1 0), (3, .ref 12 1 0)], [(4, .box 1 [sI (Sta.Rows a), sD7 (Sta.Distinct a), sD7 (Sta.Nulls a)]), (8, .box 1 [sI 0, .nilsl, .nilsl]), (12, .box 1 [sI (Sta.Rows a), .nilsl, .nilsl])]⟩ ?_)
 refine AW.seq (AW.r0 hC [1, 2, 3] [4, 8, 12, 36] ⟨[(1, .ref 4 1 0), (2, .ref 8 1 0), (3, .ref 12 1 0)], [(4, .box 1 [sI (Sta.Rows a), sD7 (Sta.Distinct a), sD7 (Sta.Nulls a)]), (8, .box 1 [sI 0, .nilsl, .nilsl]), (12, .box 1 [sI (Sta.Rows a), .arr 36 1, .nilsl]), (36, .arr 1 (.int .i64) ((toIntS (Sta.Distinct a)) : List Int))]⟩ [((List.length (Sta.Distinct a) : Int) ≤ 1048576)] ?_ ?_)
 ·
  refine ⟨?_, trivial⟩
  ·
   omega
 refine AW.seq (AW.r0 hC [2, 3] [8, 12, 36, 52] ⟨[(2, .ref 8 1 0), (3, .ref 12 1 0)], [(8, .box 1 [sI 0, .nilsl, .nilsl]), (12, .box 1 [sI (Sta.Rows a), .arr 36 1, .arr 52 1]), (36, .arr 1 (.int .i64) ((toIntS (Sta.Distinct a)) : List Int)), (52, .arr 1 (.int .i64) ((toIntS (Sta.Nulls a)) : List Int))]⟩ [((List.length (Sta.Nulls a) : Int) ≤ 1048576)] ?_ ?_)
 ·
  refine ⟨?_, trivial⟩
  ·
   omega
 refine AW.seq (AW.r1 hC [2] [8, 36, 52] ⟨[(2, .ref 8 1 0)], [(8, .box 1 [sI (Sta.Rows a), .arr 36 1, .arr 52 1]), (36, .arr 1 (.int .i64) ((toIntS (Sta.Distinct a)) : List Int)), (52, .arr 1 (.int .i64) ((toIntS (Sta.Nulls a)) : List Int))]⟩ ?_)
 exact AW.ret (AW.retE (β := Sta) (fun v => [⟨(.named 3), v⟩]) (fun v => []) (v := (Sta.mk (Sta.Rows a) (toIntS (Sta.Distinct a)) (toIntS (Sta.Nulls a)))) e0 (by kernel_rfl) rfl rfl)

def toStatsS_l0 (a : List Sta) : Nat → Nat → (List Sta) → (List Sta)
 | 0, i, out => out
 | k + 1, i, out => (bif (decide (((i : Nat) : Int) < ((List.length a : Nat) : Int))) then (toStatsS_l0 a k (i + 1) (List.set out i (toStats (List.getD a i Sta.zero)))) else out)

def toStatsS (a : List Sta) : (List Sta) := (Go.Am.andThen (toStatsS_l0 a ((List.length a) - 0 + 1) 0 (List.replicate (List.length a) Sta.zero : List Sta)) (fun z => (fun (out : List Sta) => out) z))

def toStatsS_sp : FnSpec := mkSpec [.val (.slice (.named 3))] [.own (.named 3)] (fun (a : List Sta) => FitSt a) (fun (a : List Sta) => [⟨(.slice (.named 3)), (toStatsS a)⟩])

theorem toStatsS_ok : FnOK Try.prog 19 toStatsS_sp := by
 have hC : CtxOK Try.prog (mkCtx tyL [(72, toStats_sp)]) := CtxOK.cons toStats_ok (CtxOK.nil tyOK)
 refine FnOK.of_body Try.func19 (by kernel_rfl) rfl (C := (mkCtx tyL [(72, toStats_sp)])) hC.ty (by kernel_rfl) ?_
 intro (a : List Sta) hwf hpre E
 have hpre : FitSt a := hpre
 have hw_a : Wf ⟨(.slice (.named 3)), (a : List Sta)⟩ := hwf _ (List.Mem.head _)
 have hl_a : ((List.length a : Nat) : Int) ≤ 9223372036854775807 := hw_a.len
 have e0 : toStatsS a = toStatsS a := rfl
 refine AW.seq (AW.r1 hC [0] [] ⟨[(0, sD11 a)], []⟩ ?_)
 refine AW.seq (AW.r0 hC [0, 3] [28] ⟨[(0, sD11 a), (3, .arr 28 1)], [(28, .arr 1 (.named 3) ((List.replicate (List.length a) Sta.zero : List Sta) : List Sta))]⟩ [(0 ≤ ((List.length a : Nat) : Int) ∧ ((List.length a : Nat) : Int) ≤ ((List.length a : Nat) : Int) ∧ ((List.length a : Nat) : Int) ≤ 4294967296)] ?_ ?_)
 ·
  refine ⟨?_, trivial⟩
  ·
   have := hpre.len
   omega
 refine AW.seq (AW.seq (AW.r1 hC [0, 3, 4] [28] ⟨[(0, sD11 a), (3, .arr 28 1), (4, sI 0)], [(28, .arr 1 (.named 3) ((List.replicate (List.length a) Sta.zero : List Sta) : List Sta))]⟩ ?_))
 refine AW.cutQ (α := (List Sta)) (fun x => ⟨[(3, .arr 28 1)], [(28, .arr 1 (.named 3) (x : List Sta))]⟩) (fun x => (List.length x = List.length a) ∧ (toStatsS_l0 a ((List.length a) - 0 + 1) 0 (List.replicate (List.length a) Sta.zero : List Sta)) = x) ?_ ?_
 ·
  skip
  refine AW.block (AW.loop (α := Nat × (List Sta)) (fun x => ⟨[(0, sD11 a), (3, .arr 28 1), (4, sI ((x.1 : Nat) : Int))], [(28, .arr 1 (.named 3) (x.2 : List Sta))]⟩) (fun x => (List.length x.2 = List.length a) ∧ ∃ k, (List.length a) - x.1 < k ∧ (toStatsS_l0 a ((List.length a) - 0 + 1) 0 (List.replicate (List.length a) Sta.zero : List Sta)) = toStatsS_l0 a k x.1 x.2) (fun x => (List.length a) - x.1) (0, (List.replicate (List.length a) Sta.zero : List Sta)) (by kernel_rfl) ⟨?_, _, Nat.lt_succ_self _, rfl⟩ ?_)
  ·
   show List.length (List.replicate (List.length a) Sta.zero : List Sta) = List.length a
   simp
  ·
   intro x hR
   obtain ⟨i, out⟩ := x
   obtain ⟨hI0, k15, hk13, e14⟩ := hR
   replace hI0 : List.length out = List.length a := hI0
   replace hk13 : (List.length a) - i < k15 := hk13
   obtain ⟨k15q, rfl⟩ : ∃ k, k15 = k + 1 := ⟨k15 - 1, by omega⟩
   refine AW.seq (AW.seq (AW.r1 hC [0, 3, 4, 11] [28] ⟨[(0, sD11 a), (3, .arr 28 1), (4, sI ((i : Nat) : Int)), (11, sB (decide (((i : Nat) : Int) < ((List.length a : Nat) : Int))))], [(28, .arr 1 (.named 3) (out : List Sta))]⟩ ?_))
   refine AW.cd (decide (((i : Nat) : Int) < ((List.length a : Nat) : Int))) ?_ ?_
   ·
    intro h16
    have h16q := (of_decide_eq_true h16)
    have e17 := e14.trans (Go.Am.bif_t h16)
    refine AW.kp [0, 3, 4] [28] ⟨[(0, sD11 a), (3, .arr 28 1), (4, sI ((i : Nat) : Int))], [(28, .arr 1 (.named 3) (out : List Sta))]⟩ ?_
    refine AW.skip (AW.seq (AW.block (AW.r0 hC [0, 3, 4] [28] ⟨[(0, sD11 a), (3, .arr 28 1), (4, sI ((i : Nat) : Int))], [(28, .arr 1 (.named 3) ((List.set out i (toStats (List.getD a i Sta.zero))) : List Sta))]⟩ [IX ((i : Nat) : Int) ((List.length a : Nat) : Int), (((List.length (Sta.Distinct (List.getD a i Sta.zero)) : Nat) : Int) ≤ 1048576 ∧ ((List.length (Sta.Nulls (List.getD a i Sta.zero)) : Nat) : Int) ≤ 1048576), IX ((i : Nat) : Int) ((List.length out : Nat) : Int)] ?_ ?_)))
    ·
     refine ⟨?_, ?_, ?_, trivial⟩
     ·
      refine IX.of ?_
      have := hpre.len
      omega
     ·
      exact hpre.el _ (by omega)
     ·
      refine IX.of ?_
      have := hpre.len
      omega
    refine AW.r0 hC [0, 3, 4] [28] ⟨[(0, sD11 a), (3, .arr 28 1), (4, sI ((i + 1 : Nat) : Int))], [(28, .arr 1 (.named 3) ((List.set out i (toStats (List.getD a i Sta.zero))) : List Sta))]⟩ [R64 ((i + 1 : Nat) : Int)] ?_ ?_
    ·
     refine ⟨?_, trivial⟩
     ·
      refine R64.of ?_
      have := hpre.len
      omega
    refine AW.back (x := (i, out)) (i + 1, (List.set out i (toStats (List.getD a i Sta.zero)))) (by kernel_rfl) ⟨?_, k15q, ?_, e17⟩ ?_
    ·
     show List.length (List.set out i (toStats (List.getD a i Sta.zero))) = List.length a
     simp only [lens] at *; omega
    ·
     show (List.length a) - (i + 1) < k15q
     omega
    ·
     show (List.length a) - (i + 1) < (List.length a) - i
     omega
   ·
    intro h18
    have h18q := (of_decide_eq_false h18)
    have e19 := e14.trans (Go.Am.bif_f h18)
    refine AW.kp [3] [28] ⟨[(3, .arr 28 1)], [(28, .arr 1 (.named 3) (out : List Sta))]⟩ ?_
    refine AW.exit ?_
    refine AW.meet out (by kernel_rfl) ⟨?_, e19⟩
    show List.length out = List.length a
    assumption
 ·
  intro out hR
  obtain ⟨hJ0, e20⟩ := hR
  replace hJ0 : List.length out = List.length a := hJ0
  have e21 := e0.trans (Go.Am.then_eq e20)
  refine AW.seq (AW.r1 hC [2] [28] ⟨[(2, .arr 28 1)], [(28, .arr 1 (.named 3) (out : List Sta))]⟩ ?_)
  exact AW.ret (AW.retE (β := (List Sta)) (fun v => [⟨(.slice (.named 3)), v⟩]) (fun v => []) (v := out) e21 (by kernel_rfl) rfl rfl)

def eqStats (a : Sta) (b : Sta) : Bool := (bif ((Sta.Rows a) != (Sta.Rows b)) then false else (bif (!(eqIntS (Sta.Distinct a) (Sta.Distinct b))) then false else (bif (!(eqIntS (Sta.Nulls a) (Sta.Nulls b))) then false else true)))

def eqStats_sp : FnSpec := mkSpec [.val (.named 3), .val (.named 3)] [.val .bool] (fun (a : Sta) (b : Sta) => True) (fun (a : Sta) (b : Sta) => [⟨.bool, (eqStats a b)⟩])

theorem eqStats_ok : FnOK Try.prog 75 eqStats_sp := by
 have hC : CtxOK Try.prog (mkCtx tyL [(34, eqIntS_sp)]) := CtxOK.cons eqIntS_ok (CtxOK.nil tyOK)
 refine FnOK.of_body Try.func75 (by kernel_rfl) rfl (C := (mkCtx tyL [(34, eqIntS_sp)])) hC.ty (by kernel_rfl) ?_
 intro (a : Sta) (b : Sta) hwf hpre E
 have hpre : True := hpre
 have hw_a : Wf ⟨(.named 3), (a : Sta)⟩ := hwf _ (List.Mem.head _)
 obtain ⟨hr_a_Rows, hl_a_Distinct, hl_a_Nulls⟩ := Sta.wfl hw_a
 have hw_b : Wf ⟨(.named 3), (b : Sta)⟩ := hwf _ (List.Mem.tail _ (List.Mem.head _))
 obtain ⟨hr_b_Rows, hl_b_Distinct, hl_b_Nulls⟩ := Sta.wfl hw_b
 have e0 : eqStats a b = eqStats a b := rfl
 refine AW.seq (AW.r1 hC [2, 3] [8, 12] ⟨[(2, .ref 8 1 0), (3, .ref 12 1 0)], [(8, .box 1 [sI (Sta.Rows a), sD7 (Sta.Distinct a), sD7 (Sta.Nulls a)]), (12, .box 1 [sI (Sta.Rows b), sD7 (Sta.Distinct b), sD7 (Sta.Nulls b)])]⟩ ?_)
 refine AW.seq (AW.seq (AW.r1 hC [2, 3, 9] [8, 12] ⟨[(2, .ref 8 1 0), (3, .ref 12 1 0), (9, sB ((Sta.Rows a) != (Sta.Rows b)))], [(8, .box 1 [sI (Sta.Rows a), sD7 (Sta.Distinct a), sD7 (Sta.Nulls a)]), (12, .box 1 [sI (Sta.Rows b), sD7 (Sta.Distinct b), sD7 (Sta.Nulls b)])]⟩ ?_))
 refine AW.cd ((Sta.Rows a) != (Sta.Rows b)) ?_ ?_
 ·
  intro h1
  have h1q := (Go.Am.bne_pos h1)
  have e2 := e0.trans (Go.Am.bif_t h1)
  refine AW.seq (AW.r1 hC [4] [] ⟨[(4, sB false)], []⟩ ?_)
  exact AW.ret (AW.rB false e2)
 ·
  intro h3
  have h3q := (Go.Am.bne_neg h3)
  have e4 := e0.trans (Go.Am.bif_f h3)
  refine AW.kp [2, 3] [8, 12] ⟨[(2, .ref 8 1 0), (3, .ref 12 1 0)], [(8, .box 1 [sI (Sta.Rows a), sD7 (Sta.Distinct a), sD7 (Sta.Nulls a)]), (12, .box 1 [sI (Sta.Rows b), sD7 (Sta.Distinct b), sD7 (Sta.Nulls b)])]⟩ ?_
  refine AW.skip (AW.seq (AW.seq (AW.r0 hC [2, 3, 15] [8, 12] ⟨[(2, .ref 8 1 0), (3, .ref 12 1 0), (15, sB (!(eqIntS (Sta.Distinct a) (Sta.Distinct b))))], [(8, .box 1 [sI (Sta.Rows a), sD7 (Sta.Distinct a), sD7 (Sta.Nulls a)]), (12, .box 1 [sI (Sta.Rows b), sD7 (Sta.Distinct b), sD7 (Sta.Nulls b)])]⟩ [(True)] ?_ ?_)))
  ·
   refine ⟨?_, trivial⟩
   ·
    trivial
  refine AW.cd (!(eqIntS (Sta.Distinct a) (Sta.Distinct b))) ?_ ?_
  ·
   intro h5
   have h5q := (Go.Am.not_pos h5)
   have e6 := e4.trans (Go.Am.bif_t h5)
   refine AW.seq (AW.r1 hC [4] [] ⟨[(4, sB false)], []⟩ ?_)
   exact AW.ret (AW.rB false e6)
  ·
   intro h7
   have h7q := (Go.Am.not_neg h7)
   have e8 := e4.trans (Go.Am.bif_f h7)
   refine AW.kp [2, 3] [8, 12] ⟨[(2, .ref 8 1 0), (3, .ref 12 1 0)], [(8, .box 1 [sI (Sta.Rows a), sD7 (Sta.Distinct a), sD7 (Sta.Nulls a)]), (12, .box 1 [sI (Sta.Rows b), sD7 (Sta.Distinct b), sD7 (Sta.Nulls b)])]⟩ ?_
   refine AW.skip (AW.seq (AW.seq (AW.r0 hC [21] [] ⟨[(21, sB (!(eqIntS (Sta.Nulls a) (Sta.Nulls b))))], []⟩ [(True)] ?_ ?_)))
   ·
    refine ⟨?_, trivial⟩
    ·
     trivial
   refine AW.cd (!(eqIntS (Sta.Nulls a) (Sta.Nulls b))) ?_ ?_
   ·
    intro h9
    have h9q := (Go.Am.not_pos h9)
    have e10 := e8.trans (Go.Am.bif_t h9)
    refine AW.seq (AW.r1 hC [4] [] ⟨[(4, sB false)], []⟩ ?_)
    exact AW.ret (AW.rB false e10)
   ·
    intro h11
    have h11q := (Go.Am.not_neg h11)
    have e12 := e8.trans (Go.Am.bif_f h11)
    refine AW.kp [] [] ⟨[], []⟩ ?_
    refine AW.skip (AW.seq (AW.r1 hC [4] [] ⟨[(4, sB true)], []⟩ ?_))
    exact AW.ret (AW.rB true e12)

def eqStatsS_l0 (a : List Sta) (b : List Sta) : Nat → Nat → Unit ⊕ Bool
 | 0, i => .inl ()
 | k + 1, i => (bif (decide (((i : Nat) : Int) < ((List.length a : Nat) : Int))) then (bif (!(eqStats (List.getD a i Sta.zero) (List.getD b i Sta.zero))) then (.inr false) else (eqStatsS_l0 a b k (i + 1))) else (.inl ()))

def eqStatsS (a : List Sta) (b : List Sta) : Bool := (bif (((List.length a : Nat) : Int) != ((List.length b : Nat) : Int)) then false else (Sum.elim (fun _ => true) (fun r => r) (eqStatsS_l0 a b ((List.length a) - 0 + 1) 0)))

def eqStatsS_sp : FnSpec := mkSpec [.val (.slice (.named 3)), .val (.slice (.named 3))] [.val .bool] (fun (a : List Sta) (b : List Sta) => True) (fun (a : List Sta) (b : List Sta) => [⟨.bool, (eqStatsS a b)⟩])

theorem eqStatsS_ok : FnOK Try.prog 22 eqStatsS_sp := by
 have hC : CtxOK Try.prog (mkCtx tyL [(75, eqStats_sp)]) := CtxOK.cons eqStats_ok (CtxOK.nil tyOK)
 have hM : Try.prog.follows .mixedOrders = true := Try.checked.mixed
 refine FnOK.of_body Try.func22 (by kernel_rfl) rfl (C := (mkCtx tyL [(75, eqStats_sp)])) hC.ty (by kernel_rfl) ?_
 intro (a : List Sta) (b : List Sta) hwf hpre E
 have hpre : True := hpre
 have hw_a : Wf ⟨(.slice (.named 3)), (a : List Sta)⟩ := hwf _ (List.Mem.head _)
 have hl_a : ((List.length a : Nat) : Int) ≤ 9223372036854775807 := hw_a.len
 have hw_b : Wf ⟨(.slice (.named 3)), (b : List Sta)⟩ := hwf _ (List.Mem.tail _ (List.Mem.head _))
 have hl_b : ((List.length b : Nat) : Int) ≤ 9223372036854775807 := hw_b.len
 have e0 : eqStatsS a b = eqStatsS a b := rfl
 refine AW.seq (AW.r1 hC [0, 1] [] ⟨[(0, sD11 a), (1, sD11 b)], []⟩ ?_)
 refine AW.seq (AW.seq (AW.r1 hC [0, 1, 10] [] ⟨[(0, sD11 a), (1, sD11 b), (10, sB (((List.length a : Nat) : Int) != ((List.length b : Nat) : Int)))], []⟩ ?_))
 refine AW.cd (((List.length a : Nat) : Int) != ((List.length b : Nat) : Int)) ?_ ?_
 ·
  intro h1
  have h1q := (Go.Am.bne_pos h1)
  have e2 := e0.trans (Go.Am.bif_t h1)
  refine AW.seq (AW.r1 hC [4] [] ⟨[(4, sB false)], []⟩ ?_)
  exact AW.ret (AW.rB false e2)
 ·
  intro h3
  have h3q := (Go.Am.bne_neg h3)
  have e4 := e0.trans (Go.Am.bif_f h3)
  refine AW.kp [0, 1] [] ⟨[(0, sD11 a), (1, sD11 b)], []⟩ ?_
  refine AW.skip (AW.seq (AW.seq (AW.r1 hC [0, 1, 5] [] ⟨[(0, sD11 a), (1, sD11 b), (5, sI 0)], []⟩ ?_)))
  refine AW.cutQ (α := Unit) (fun x => ⟨[], []⟩) (fun x => (True) ∧ (eqStatsS_l0 a b ((List.length a) - 0 + 1) 0) = (.inl ())) ?_ ?_
  ·
   skip
   refine AW.block (AW.loop (α := Nat) (fun x => ⟨[(0, sD11 a), (1, sD11 b), (5, sI ((x : Nat) : Int))], []⟩) (fun x => (True) ∧ ∃ k, (List.length a) - x < k ∧ (eqStatsS_l0 a b ((List.length a) - 0 + 1) 0) = eqStatsS_l0 a b k x) (fun x => (List.length a) - x) 0 (by kernel_rfl) ⟨?_, _, Nat.lt_succ_self _, rfl⟩ ?_)
   ·
    show True
    exact trivial
   ·
    intro i hR
    obtain ⟨hI0, k34, hk32, e33⟩ := hR
    replace hI0 : True := hI0
    replace hk32 : (List.length a) - i < k34 := hk32
    obtain ⟨k34q, rfl⟩ : ∃ k, k34 = k + 1 := ⟨k34 - 1, by omega⟩
    refine AW.seq (AW.seq (AW.r1 hC [0, 1, 5, 14] [] ⟨[(0, sD11 a), (1, sD11 b), (5, sI ((i : Nat) : Int)), (14, sB (decide (((i : Nat) : Int) < ((List.length a : Nat) : Int))))], []⟩ ?_))
    refine AW.cd (decide (((i : Nat) : Int) < ((List.length a : Nat) : Int))) ?_ ?_
    ·
     intro h35
     have h35q := (of_decide_eq_true h35)
     have e36 := e33.trans (Go.Am.bif_t h35)
     refine AW.kp [0, 1, 5] [] ⟨[(0, sD11 a), (1, sD11 b), (5, sI ((i : Nat) : Int))], []⟩ ?_
     refine AW.skip (AW.seq (AW.block (AW.seq (AW.d0 hC hM [0, 1, 5, 26] [] ⟨[(0, sD11 a), (1, sD11 b), (5, sI ((i : Nat) : Int)), (26, sB (!(eqStats (List.getD a i Sta.zero) (List.getD b i Sta.zero))))], []⟩ [IX ((i : Nat) : Int) ((List.length a : Nat) : Int), IX ((i : Nat) : Int) ((List.length b : Nat) : Int), (True)] ?_ ?_))))
     ·
      refine ⟨?_, ?_, ?_, trivial⟩
      ·
       refine IX.of ?_
       omega
      ·
       refine IX.of ?_
       omega
      ·
       trivial
     refine AW.cd (!(eqStats (List.getD a i Sta.zero) (List.getD b i Sta.zero))) ?_ ?_
     ·
      intro h37
      have h37q := (Go.Am.not_pos h37)
      have e38 := e36.trans (Go.Am.bif_t h37)
      refine AW.seq (AW.r1 hC [4] [] ⟨[(4, sB false)], []⟩ ?_)
      refine AW.ret ?_
      have e39 := e4.trans (Go.Am.elim_r e38)
      exact AW.rB false e39
     ·
      intro h40
      have h40q := (Go.Am.not_neg h40)
      have e41 := e36.trans (Go.Am.bif_f h40)
      refine AW.kp [0, 1, 5] [] ⟨[(0, sD11 a), (1, sD11 b), (5, sI ((i : Nat) : Int))], []⟩ ?_
      refine AW.skip (AW.r0 hC [0, 1, 5] [] ⟨[(0, sD11 a), (1, sD11 b), (5, sI ((i + 1 : Nat) : Int))], []⟩ [R64 ((i + 1 : Nat) : Int)] ?_ ?_)
      ·
       refine ⟨?_, trivial⟩
       ·
        refine R64.of ?_
        omega
      refine AW.back (x := i) (i + 1) (by kernel_rfl) ⟨?_, k34q, ?_, e41⟩ ?_
      ·
       show True
       assumption
      ·
       show (List.length a) - (i + 1) < k34q
       omega
      ·
       show (List.length a) - (i + 1) < (List.length a) - i
       omega
    ·
     intro h42
     have h42q := (of_decide_eq_false h42)
     have e43 := e33.trans (Go.Am.bif_f h42)
     refine AW.kp [] [] ⟨[], []⟩ ?_
     refine AW.exit ?_
     refine AW.meet () (by kernel_rfl) ⟨?_, e43⟩
     show True
     assumption
  ·
   intro x hR
   obtain ⟨hJ0, e44⟩ := hR
   replace hJ0 : True := hJ0
   have e45 := e4.trans (Go.Am.elim_l e44)
   refine AW.seq (AW.r1 hC [4] [] ⟨[(4, sB true)], []⟩ ?_)
   exact AW.ret (AW.rB true e45)

theorem eqStats_self (a : Sta) : eqStats a a = true := by
 unfold eqStats
 simp [eqIntS_self]

theorem eqStatsS_self (a : List Sta) : eqStatsS a a = true := by
 unfold eqStatsS
 simp only [bne_self_eq_false, cond_false]
 rcases all_loop (eqStatsS_l0 a a) a.length (fun i => !(eqStats (List.getD a i Sta.zero) (List.getD a i Sta.zero))) (fun k i => rfl) (a.length - 0 + 1) 0 (by omega) with ⟨h1, _⟩ | ⟨_, j, _, hj, h2⟩
 ·
  rw [h1]; rfl
 ·
  rw [eqStats_self] at h2
  cases h2

theorem toStatsS_l0_len (a : List Sta) : ∀ (k i : Nat) (out : List Sta), (toStatsS_l0 a k i out).length = out.length := by
 intro k
 induction k with
 | zero => intro i out; rfl
 | succ k ih =>
  intro i out
  unfold toStatsS_l0
  cases decide (((i : Nat) : Int) < ((List.length a : Nat) : Int)) with
  | true => rw [cond_true, ih, List.length_set]
  | false => rfl

theorem toStatsS_len (a : List Sta) : (toStatsS a).length = a.length := by
 unfold toStatsS
 simp only [Go.Am.andThen]
 rw [toStatsS_l0_len]
 simp

end
end Go.Proofs.Ytodcdgolcbdkgaa
