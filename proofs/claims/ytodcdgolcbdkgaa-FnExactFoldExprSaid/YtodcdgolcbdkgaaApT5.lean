/-
  A part of the proof of this claim (ApT5): what functions of the program compute, and plain facts of that. No conditions.
-/
import Derived.Test.YtodcdgolcbdkgaaApT4
import Derived.Test.YtodcdgolcbdkgaaAp8
import Derived.Test.YtodcdgolcbdkgaaAnU
set_option linter.all false
namespace Go.Proofs.Ytodcdgolcbdkgaa
open Go Go.Am
noncomputable section

theorem kids_szL {a : List Xpr} {i : Nat} (hi : i < a.length) : SizeOf.sizeOf (List.getD a i Xpr.zero).Kids < SizeOf.sizeOf a := by
 have h1 := List.sizeOf_lt_of_mem (getD_mem a i Xpr.zero hi)
 generalize List.getD a i Xpr.zero = x at *
 cases x with
 | mk k c v ks => simp only [Xpr.mk.sizeOf_spec, Xpr.Kids] at *; omega


def markExprS_l0 (self : List Xpr → Int → List Xpr × Int) : Nat → Int → Nat → (List Xpr) → Int × (List Xpr)
 | 0, k1, i, a1 => (k1, a1)
 | k + 1, k1, i, a1 => (bif (decide (((i : Nat) : Int) < ((List.length a1 : Nat) : Int))) then (markExprS_l0 self k ((self (Xpr.Kids (List.getD (List.set a1 i (Xpr.mk k1 (IntKind.wrap .i64 (k1 + 1)) (Val.mk ((Int.tmod (IntKind.wrap .i64 ((IntKind.wrap .i64 (k1 + 1)) + 1)) 3) == 0) (IntKind.wrap .i64 ((IntKind.wrap .i64 ((IntKind.wrap .i64 (k1 + 1)) + 1)) + 1))) (Xpr.Kids (List.getD a1 i Xpr.zero)))) i Xpr.zero)) (IntKind.wrap .i64 ((IntKind.wrap .i64 ((IntKind.wrap .i64 ((IntKind.wrap .i64 (k1 + 1)) + 1)) + 1)) + 1))).2) (i + 1) (List.set a1 i (Xpr.mk k1 (IntKind.wrap .i64 (k1 + 1)) (Val.mk ((Int.tmod (IntKind.wrap .i64 ((IntKind.wrap .i64 (k1 + 1)) + 1)) 3) == 0) (IntKind.wrap .i64 ((IntKind.wrap .i64 ((IntKind.wrap .i64 (k1 + 1)) + 1)) + 1))) ((self (Xpr.Kids (List.getD a1 i Xpr.zero)) (IntKind.wrap .i64 ((IntKind.wrap .i64 ((IntKind.wrap .i64 ((IntKind.wrap .i64 (k1 + 1)) + 1)) + 1)) + 1))).1)))) else (k1, a1))

def markExprS_r : Nat → List Xpr → Int → List Xpr × Int
 | 0, a, k0 => (a, k0)
 | fuel + 1, a, k0 => (Go.Am.andThen (markExprS_l0 (markExprS_r fuel) ((List.length a) - 0 + 1) k0 0 a) (fun z => (fun (k1 : Int) (a1 : List Xpr) => (a1, k1)) z.1 z.2))

def markExprS (a : List Xpr) (k0 : Int) : List Xpr × Int := markExprS_r (SizeOf.sizeOf a + 1) a k0

theorem markExprS_l0_len (self : List Xpr → Int → List Xpr × Int) : ∀ (n : Nat) (k : Int) (i : Nat) (a : List Xpr), (markExprS_l0 self n k i a).2.length = a.length := by
 intro n
 induction n with
 | zero => intro k i a; rfl
 | succ n ih =>
  intro k i a
  unfold markExprS_l0
  cases decide (((i : Nat) : Int) < ((List.length a : Nat) : Int)) with
  | true => rw [cond_true, ih]; simp only [List.length_set]
  | false => rfl

theorem markExprS_okn (fuel : Nat) : MarkC Try.prog 81 (.named 1) (fun (a : List Xpr) _ => SizeOf.sizeOf a < fuel) (markExprS_r fuel) := by
 induction fuel with
 | zero => exact ⟨⟨_, _, Try.func81, by kernel_rfl, rfl⟩, fun _ _ => rfl, fun _ _ _ _ _ _ _ h _ => absurd h (Nat.not_lt_zero _)⟩
 | succ fuel ih => ?_
 have hC : CtxOK Try.prog { mkCtx tyL [] with deep := true } := CtxOK.deepen (CtxOK.nil tyOK)
 refine MarkC.of_body noGlob Try.func81 (by kernel_rfl) rfl (C := { mkCtx tyL [] with deep := true }) hC.ty (by kernel_rfl) (fun a k0 => markExprS_l0_len (markExprS_r fuel) _ k0 0 a) ?_
 intro (a : List Xpr) (k0 : Int) hl hk hpre E
 have hpre : SizeOf.sizeOf a < fuel + 1 := hpre
 have hl : ((List.length a : Nat) : Int) ≤ 4294967296 := hl
 have hk : -9223372036854775808 ≤ k0 ∧ k0 ≤ 9223372036854775807 := hk
 have e0 : markExprS_r (fuel + 1) a k0 = markExprS_r (fuel + 1) a k0 := rfl
 refine AW.seq ?_
 refine AW.reg hC  true [] [0, 1, 1000] [0]
  ⟨[(0, .tr 0 1), (1, sI k0), (1000, .tr 0 1)], [(0, .tree 1 (.named 1) (a : List Xpr))]⟩
  [] (by kernel_rfl) ?_ ?_
 ·
  exact trivial
 refine AW.seq (AW.seq (AW.r1 hC [0, 1, 5, 1000] [0] ⟨[(0, .tr 0 1), (1, sI k0), (5, sI 0), (1000, .tr 0 1)], [(0, .tree 1 (.named 1) (a : List Xpr))]⟩ ?_))
 refine AW.cutQ (α := Int × (List Xpr)) (fun x => ⟨[(1, sI x.1), (1000, .tr 0 1)], [(0, .tree 1 (.named 1) (x.2 : List Xpr))]⟩) (fun x => (List.length x.2 = List.length a) ∧ (markExprS_l0 (markExprS_r fuel) ((List.length a) - 0 + 1) k0 0 a) = x) ?_ ?_
 ·
  skip
  refine AW.block (AW.loop (α := Int × Nat × (List Xpr)) (fun x => ⟨[(0, .tr 0 1), (1, sI x.1), (5, sI ((x.2.1 : Nat) : Int)), (1000, .tr 0 1)], [(0, .tree 1 (.named 1) (x.2.2 : List Xpr))]⟩) (fun x => (List.length x.2.2 = List.length a ∧ ∀ j : Nat, x.2.1 ≤ j → List.getD x.2.2 j Xpr.zero = List.getD a j Xpr.zero) ∧ ∃ k, (List.length x.2.2) - x.2.1 < k ∧ (markExprS_l0 (markExprS_r fuel) ((List.length a) - 0 + 1) k0 0 a) = markExprS_l0 (markExprS_r fuel) k x.1 x.2.1 x.2.2) (fun x => (List.length x.2.2) - x.2.1) (k0, 0, a) (by kernel_rfl) ⟨?_, _, Nat.lt_succ_self _, rfl⟩ ?_)
  ·
   show List.length a = List.length a ∧ ∀ j : Nat, 0 ≤ j → List.getD a j Xpr.zero = List.getD a j Xpr.zero
   exact ⟨rfl, fun j _ => rfl⟩
  ·
   intro x hR
   obtain ⟨k1, i, a1⟩ := x
   obtain ⟨hI0, k15, hk13, e14⟩ := hR
   replace hI0 : List.length a1 = List.length a ∧ ∀ j : Nat, i ≤ j → List.getD a1 j Xpr.zero = List.getD a j Xpr.zero := hI0
   replace hk13 : (List.length a1) - i < k15 := hk13
   obtain ⟨k15q, rfl⟩ : ∃ k, k15 = k + 1 := ⟨k15 - 1, by omega⟩
   refine AW.seq (AW.seq ?_)
   refine AW.reg hC  true [] [0, 1, 5, 9, 1000] [0]
    ⟨[(0, .tr 0 1), (1, sI k1), (5, sI ((i : Nat) : Int)), (9, sB (decide (((i : Nat) : Int) < ((List.length a1 : Nat) : Int)))), (1000, .tr 0 1)], [(0, .tree 1 (.named 1) (a1 : List Xpr))]⟩
    [] (by kernel_rfl) ?_ ?_
   ·
    exact trivial
   refine AW.cd (decide (((i : Nat) : Int) < ((List.length a1 : Nat) : Int))) ?_ ?_
   ·
    intro h16
    have h16q := (of_decide_eq_true h16)
    have e17 := e14.trans (Go.Am.bif_t h16)
    refine AW.kp [0, 1, 5, 1000] [0] ⟨[(0, .tr 0 1), (1, sI k1), (5, sI ((i : Nat) : Int)), (1000, .tr 0 1)], [(0, .tree 1 (.named 1) (a1 : List Xpr))]⟩ ?_
    refine AW.skip (AW.seq (AW.block (AW.seq ?_)))
    refine AW.reg hC  true [] [0, 1, 5, 1000] [0]
     ⟨[(0, .tr 0 1), (1, sI k1), (5, sI ((i : Nat) : Int)), (1000, .tr 0 1)], [(0, .tree 1 (.named 1) ((List.set a1 i (Xpr.mk k1 (Xpr.Col (List.getD a1 i Xpr.zero)) (Xpr.V (List.getD a1 i Xpr.zero)) (Xpr.Kids (List.getD a1 i Xpr.zero)))) : List Xpr))]⟩
     [IX ((i : Nat) : Int) ((List.length a1 : Nat) : Int)] (by kernel_rfl) ?_ ?_
    ·
     refine ⟨?_, trivial⟩
     ·
      refine IX.of ?_
      omega
    refine AW.seq ?_
    refine AW.reg hC  true [] [0, 1, 5, 1000] [0]
     ⟨[(0, .tr 0 1), (1, sI (IntKind.wrap .i64 (k1 + 1))), (5, sI ((i : Nat) : Int)), (1000, .tr 0 1)], [(0, .tree 1 (.named 1) ((List.set a1 i (Xpr.mk k1 (Xpr.Col (List.getD a1 i Xpr.zero)) (Xpr.V (List.getD a1 i Xpr.zero)) (Xpr.Kids (List.getD a1 i Xpr.zero)))) : List Xpr))]⟩
     [] (by kernel_rfl) ?_ ?_
    ·
     exact trivial
    refine AW.seq ?_
    refine AW.reg hC  true [] [0, 1, 5, 1000] [0]
     ⟨[(0, .tr 0 1), (1, sI (IntKind.wrap .i64 (k1 + 1))), (5, sI ((i : Nat) : Int)), (1000, .tr 0 1)], [(0, .tree 1 (.named 1) ((List.set (List.set a1 i (Xpr.mk k1 (Xpr.Col (List.getD a1 i Xpr.zero)) (Xpr.V (List.getD a1 i Xpr.zero)) (Xpr.Kids (List.getD a1 i Xpr.zero)))) i (Xpr.mk (Xpr.Kind (List.getD (List.set a1 i (Xpr.mk k1 (Xpr.Col (List.getD a1 i Xpr.zero)) (Xpr.V (List.getD a1 i Xpr.zero)) (Xpr.Kids (List.getD a1 i Xpr.zero)))) i Xpr.zero)) (IntKind.wrap .i64 (k1 + 1)) (Xpr.V (List.getD (List.set a1 i (Xpr.mk k1 (Xpr.Col (List.getD a1 i Xpr.zero)) (Xpr.V (List.getD a1 i Xpr.zero)) (Xpr.Kids (List.getD a1 i Xpr.zero)))) i Xpr.zero)) (Xpr.Kids (List.getD (List.set a1 i (Xpr.mk k1 (Xpr.Col (List.getD a1 i Xpr.zero)) (Xpr.V (List.getD a1 i Xpr.zero)) (Xpr.Kids (List.getD a1 i Xpr.zero)))) i Xpr.zero)))) : List Xpr))]⟩
     [IX ((i : Nat) : Int) ((List.length (List.set a1 i (Xpr.mk k1 (Xpr.Col (List.getD a1 i Xpr.zero)) (Xpr.V (List.getD a1 i Xpr.zero)) (Xpr.Kids (List.getD a1 i Xpr.zero)))) : Nat) : Int)] (by kernel_rfl) ?_ ?_
    ·
     refine ⟨?_, trivial⟩
     ·
      refine IX.of ?_
      simp only [lens] at *; omega
    refine AW.seq (AW.retree (ys := ((List.set a1 i (Xpr.mk k1 (IntKind.wrap .i64 (k1 + 1)) (Xpr.V (List.getD a1 i Xpr.zero)) (Xpr.Kids (List.getD a1 i Xpr.zero)))) : List Xpr)) (set_twice (fun y : Xpr => (Xpr.mk (Xpr.Kind y) (IntKind.wrap .i64 (k1 + 1)) (Xpr.V y) (Xpr.Kids y))) (by first | omega | (simp only [List.length_set]; omega))) ?_)
    refine AW.reg hC  true [] [0, 1, 5, 1000] [0]
     ⟨[(0, .tr 0 1), (1, sI (IntKind.wrap .i64 ((IntKind.wrap .i64 (k1 + 1)) + 1))), (5, sI ((i : Nat) : Int)), (1000, .tr 0 1)], [(0, .tree 1 (.named 1) ((List.set a1 i (Xpr.mk k1 (IntKind.wrap .i64 (k1 + 1)) (Xpr.V (List.getD a1 i Xpr.zero)) (Xpr.Kids (List.getD a1 i Xpr.zero)))) : List Xpr))]⟩
     [] (by kernel_rfl) ?_ ?_
    ·
     exact trivial
    refine AW.seq ?_
    refine AW.reg hC  true [] [0, 1, 5, 1000] [0]
     ⟨[(0, .tr 0 1), (1, sI (IntKind.wrap .i64 ((IntKind.wrap .i64 (k1 + 1)) + 1))), (5, sI ((i : Nat) : Int)), (1000, .tr 0 1)], [(0, .tree 1 (.named 1) ((List.set (List.set a1 i (Xpr.mk k1 (IntKind.wrap .i64 (k1 + 1)) (Xpr.V (List.getD a1 i Xpr.zero)) (Xpr.Kids (List.getD a1 i Xpr.zero)))) i (Xpr.mk (Xpr.Kind (List.getD (List.set a1 i (Xpr.mk k1 (IntKind.wrap .i64 (k1 + 1)) (Xpr.V (List.getD a1 i Xpr.zero)) (Xpr.Kids (List.getD a1 i Xpr.zero)))) i Xpr.zero)) (Xpr.Col (List.getD (List.set a1 i (Xpr.mk k1 (IntKind.wrap .i64 (k1 + 1)) (Xpr.V (List.getD a1 i Xpr.zero)) (Xpr.Kids (List.getD a1 i Xpr.zero)))) i Xpr.zero)) (Val.mk ((Int.tmod (IntKind.wrap .i64 ((IntKind.wrap .i64 (k1 + 1)) + 1)) 3) == 0) (Val.N (Xpr.V (List.getD (List.set a1 i (Xpr.mk k1 (IntKind.wrap .i64 (k1 + 1)) (Xpr.V (List.getD a1 i Xpr.zero)) (Xpr.Kids (List.getD a1 i Xpr.zero)))) i Xpr.zero)))) (Xpr.Kids (List.getD (List.set a1 i (Xpr.mk k1 (IntKind.wrap .i64 (k1 + 1)) (Xpr.V (List.getD a1 i Xpr.zero)) (Xpr.Kids (List.getD a1 i Xpr.zero)))) i Xpr.zero)))) : List Xpr))]⟩
     [((3 : Int) ≠ 0), IX ((i : Nat) : Int) ((List.length (List.set a1 i (Xpr.mk k1 (IntKind.wrap .i64 (k1 + 1)) (Xpr.V (List.getD a1 i Xpr.zero)) (Xpr.Kids (List.getD a1 i Xpr.zero)))) : Nat) : Int)] (by kernel_rfl) ?_ ?_
    ·
     refine ⟨?_, ?_, trivial⟩
     ·
      omega
     ·
      refine IX.of ?_
      simp only [lens] at *; omega
    refine AW.seq (AW.retree (ys := ((List.set a1 i (Xpr.mk k1 (IntKind.wrap .i64 (k1 + 1)) (Val.mk ((Int.tmod (IntKind.wrap .i64 ((IntKind.wrap .i64 (k1 + 1)) + 1)) 3) == 0) (Val.N (Xpr.V (List.getD a1 i Xpr.zero)))) (Xpr.Kids (List.getD a1 i Xpr.zero)))) : List Xpr)) (set_twice (fun y : Xpr => (Xpr.mk (Xpr.Kind y) (Xpr.Col y) (Val.mk ((Int.tmod (IntKind.wrap .i64 ((IntKind.wrap .i64 (k1 + 1)) + 1)) 3) == 0) (Val.N (Xpr.V y))) (Xpr.Kids y))) (by first | omega | (simp only [List.length_set]; omega))) ?_)
    refine AW.reg hC  true [] [0, 1, 5, 1000] [0]
     ⟨[(0, .tr 0 1), (1, sI (IntKind.wrap .i64 ((IntKind.wrap .i64 ((IntKind.wrap .i64 (k1 + 1)) + 1)) + 1))), (5, sI ((i : Nat) : Int)), (1000, .tr 0 1)], [(0, .tree 1 (.named 1) ((List.set a1 i (Xpr.mk k1 (IntKind.wrap .i64 (k1 + 1)) (Val.mk ((Int.tmod (IntKind.wrap .i64 ((IntKind.wrap .i64 (k1 + 1)) + 1)) 3) == 0) (Val.N (Xpr.V (List.getD a1 i Xpr.zero)))) (Xpr.Kids (List.getD a1 i Xpr.zero)))) : List Xpr))]⟩
     [] (by kernel_rfl) ?_ ?_
    ·
     exact trivial
    refine AW.seq ?_
    refine AW.reg hC  true [] [0, 1, 5, 1000] [0]
     ⟨[(0, .tr 0 1), (1, sI (IntKind.wrap .i64 ((IntKind.wrap .i64 ((IntKind.wrap .i64 (k1 + 1)) + 1)) + 1))), (5, sI ((i : Nat) : Int)), (1000, .tr 0 1)], [(0, .tree 1 (.named 1) ((List.set (List.set a1 i (Xpr.mk k1 (IntKind.wrap .i64 (k1 + 1)) (Val.mk ((Int.tmod (IntKind.wrap .i64 ((IntKind.wrap .i64 (k1 + 1)) + 1)) 3) == 0) (Val.N (Xpr.V (List.getD a1 i Xpr.zero)))) (Xpr.Kids (List.getD a1 i Xpr.zero)))) i (Xpr.mk (Xpr.Kind (List.getD (List.set a1 i (Xpr.mk k1 (IntKind.wrap .i64 (k1 + 1)) (Val.mk ((Int.tmod (IntKind.wrap .i64 ((IntKind.wrap .i64 (k1 + 1)) + 1)) 3) == 0) (Val.N (Xpr.V (List.getD a1 i Xpr.zero)))) (Xpr.Kids (List.getD a1 i Xpr.zero)))) i Xpr.zero)) (Xpr.Col (List.getD (List.set a1 i (Xpr.mk k1 (IntKind.wrap .i64 (k1 + 1)) (Val.mk ((Int.tmod (IntKind.wrap .i64 ((IntKind.wrap .i64 (k1 + 1)) + 1)) 3) == 0) (Val.N (Xpr.V (List.getD a1 i Xpr.zero)))) (Xpr.Kids (List.getD a1 i Xpr.zero)))) i Xpr.zero)) (Val.mk (Val.Null (Xpr.V (List.getD (List.set a1 i (Xpr.mk k1 (IntKind.wrap .i64 (k1 + 1)) (Val.mk ((Int.tmod (IntKind.wrap .i64 ((IntKind.wrap .i64 (k1 + 1)) + 1)) 3) == 0) (Val.N (Xpr.V (List.getD a1 i Xpr.zero)))) (Xpr.Kids (List.getD a1 i Xpr.zero)))) i Xpr.zero))) (IntKind.wrap .i64 ((IntKind.wrap .i64 ((IntKind.wrap .i64 (k1 + 1)) + 1)) + 1))) (Xpr.Kids (List.getD (List.set a1 i (Xpr.mk k1 (IntKind.wrap .i64 (k1 + 1)) (Val.mk ((Int.tmod (IntKind.wrap .i64 ((IntKind.wrap .i64 (k1 + 1)) + 1)) 3) == 0) (Val.N (Xpr.V (List.getD a1 i Xpr.zero)))) (Xpr.Kids (List.getD a1 i Xpr.zero)))) i Xpr.zero)))) : List Xpr))]⟩
     [IX ((i : Nat) : Int) ((List.length (List.set a1 i (Xpr.mk k1 (IntKind.wrap .i64 (k1 + 1)) (Val.mk ((Int.tmod (IntKind.wrap .i64 ((IntKind.wrap .i64 (k1 + 1)) + 1)) 3) == 0) (Val.N (Xpr.V (List.getD a1 i Xpr.zero)))) (Xpr.Kids (List.getD a1 i Xpr.zero)))) : Nat) : Int)] (by kernel_rfl) ?_ ?_
    ·
     refine ⟨?_, trivial⟩
     ·
      refine IX.of ?_
      simp only [lens] at *; omega
    refine AW.seq (AW.retree (ys := ((List.set a1 i (Xpr.mk k1 (IntKind.wrap .i64 (k1 + 1)) (Val.mk ((Int.tmod (IntKind.wrap .i64 ((IntKind.wrap .i64 (k1 + 1)) + 1)) 3) == 0) (IntKind.wrap .i64 ((IntKind.wrap .i64 ((IntKind.wrap .i64 (k1 + 1)) + 1)) + 1))) (Xpr.Kids (List.getD a1 i Xpr.zero)))) : List Xpr)) (set_twice (fun y : Xpr => (Xpr.mk (Xpr.Kind y) (Xpr.Col y) (Val.mk (Val.Null (Xpr.V y)) (IntKind.wrap .i64 ((IntKind.wrap .i64 ((IntKind.wrap .i64 (k1 + 1)) + 1)) + 1))) (Xpr.Kids y))) (by first | omega | (simp only [List.length_set]; omega))) ?_)
    refine AW.reg hC  true [] [0, 1, 5, 1000] [0]
     ⟨[(0, .tr 0 1), (1, sI (IntKind.wrap .i64 ((IntKind.wrap .i64 ((IntKind.wrap .i64 ((IntKind.wrap .i64 (k1 + 1)) + 1)) + 1)) + 1))), (5, sI ((i : Nat) : Int)), (1000, .tr 0 1)], [(0, .tree 1 (.named 1) ((List.set a1 i (Xpr.mk k1 (IntKind.wrap .i64 (k1 + 1)) (Val.mk ((Int.tmod (IntKind.wrap .i64 ((IntKind.wrap .i64 (k1 + 1)) + 1)) 3) == 0) (IntKind.wrap .i64 ((IntKind.wrap .i64 ((IntKind.wrap .i64 (k1 + 1)) + 1)) + 1))) (Xpr.Kids (List.getD a1 i Xpr.zero)))) : List Xpr))]⟩
     [] (by kernel_rfl) ?_ ?_
    ·
     exact trivial
    refine AW.regionO [0, 1, 2, 3, 4, 5, 6, 7] (by rfl) ?_
    refine AWO.run hC false [] [0, 1, 2, 3] [4, 5, 6, 7] [0, 1, 5, 47, 1000] [0]
     ⟨[(0, .tr 0 1), (1, sI (IntKind.wrap .i64 ((IntKind.wrap .i64 ((IntKind.wrap .i64 ((IntKind.wrap .i64 (k1 + 1)) + 1)) + 1)) + 1))), (5, sI ((i : Nat) : Int)), (47, .tref 0 1 i [3]), (1000, .tr 0 1)], [(0, .tree 1 (.named 1) ((List.set a1 i (Xpr.mk k1 (IntKind.wrap .i64 (k1 + 1)) (Val.mk ((Int.tmod (IntKind.wrap .i64 ((IntKind.wrap .i64 (k1 + 1)) + 1)) 3) == 0) (IntKind.wrap .i64 ((IntKind.wrap .i64 ((IntKind.wrap .i64 (k1 + 1)) + 1)) + 1))) (Xpr.Kids (List.getD a1 i Xpr.zero)))) : List Xpr))]⟩
     [IX ((i : Nat) : Int) ((List.length (List.set a1 i (Xpr.mk k1 (IntKind.wrap .i64 (k1 + 1)) (Val.mk ((Int.tmod (IntKind.wrap .i64 ((IntKind.wrap .i64 (k1 + 1)) + 1)) 3) == 0) (IntKind.wrap .i64 ((IntKind.wrap .i64 ((IntKind.wrap .i64 (k1 + 1)) + 1)) + 1))) (Xpr.Kids (List.getD a1 i Xpr.zero)))) : Nat) : Int)] (by rfl) (by kernel_rfl) ?_ ?_
    ·
     refine ⟨?_, trivial⟩
     ·
      refine IX.of ?_
      simp only [lens] at *; omega
    refine AWO.markAt (u := (.named 1)) (id := 0) (ep := 1) (i := i) (p := [3]) (xs := ((List.set a1 i (Xpr.mk k1 (IntKind.wrap .i64 (k1 + 1)) (Val.mk ((Int.tmod (IntKind.wrap .i64 ((IntKind.wrap .i64 (k1 + 1)) + 1)) 3) == 0) (IntKind.wrap .i64 ((IntKind.wrap .i64 ((IntKind.wrap .i64 (k1 + 1)) + 1)) + 1))) (Xpr.Kids (List.getD a1 i Xpr.zero)))) : List Xpr)) (ys := ((Xpr.Kids (List.getD (List.set a1 i (Xpr.mk k1 (IntKind.wrap .i64 (k1 + 1)) (Val.mk ((Int.tmod (IntKind.wrap .i64 ((IntKind.wrap .i64 (k1 + 1)) + 1)) 3) == 0) (IntKind.wrap .i64 ((IntKind.wrap .i64 ((IntKind.wrap .i64 (k1 + 1)) + 1)) + 1))) (Xpr.Kids (List.getD a1 i Xpr.zero)))) i Xpr.zero)) : List Xpr)) (k := (IntKind.wrap .i64 ((IntKind.wrap .i64 ((IntKind.wrap .i64 ((IntKind.wrap .i64 (k1 + 1)) + 1)) + 1)) + 1))) ih hC.ty ((Xpr.mk (Xpr.Kind (List.getD (List.set a1 i (Xpr.mk k1 (IntKind.wrap .i64 (k1 + 1)) (Val.mk ((Int.tmod (IntKind.wrap .i64 ((IntKind.wrap .i64 (k1 + 1)) + 1)) 3) == 0) (IntKind.wrap .i64 ((IntKind.wrap .i64 ((IntKind.wrap .i64 (k1 + 1)) + 1)) + 1))) (Xpr.Kids (List.getD a1 i Xpr.zero)))) i Xpr.zero)) (Xpr.Col (List.getD (List.set a1 i (Xpr.mk k1 (IntKind.wrap .i64 (k1 + 1)) (Val.mk ((Int.tmod (IntKind.wrap .i64 ((IntKind.wrap .i64 (k1 + 1)) + 1)) 3) == 0) (IntKind.wrap .i64 ((IntKind.wrap .i64 ((IntKind.wrap .i64 (k1 + 1)) + 1)) + 1))) (Xpr.Kids (List.getD a1 i Xpr.zero)))) i Xpr.zero)) (Xpr.V (List.getD (List.set a1 i (Xpr.mk k1 (IntKind.wrap .i64 (k1 + 1)) (Val.mk ((Int.tmod (IntKind.wrap .i64 ((IntKind.wrap .i64 (k1 + 1)) + 1)) 3) == 0) (IntKind.wrap .i64 ((IntKind.wrap .i64 ((IntKind.wrap .i64 (k1 + 1)) + 1)) + 1))) (Xpr.Kids (List.getD a1 i Xpr.zero)))) i Xpr.zero)) (((markExprS_r fuel) (Xpr.Kids (List.getD (List.set a1 i (Xpr.mk k1 (IntKind.wrap .i64 (k1 + 1)) (Val.mk ((Int.tmod (IntKind.wrap .i64 ((IntKind.wrap .i64 (k1 + 1)) + 1)) 3) == 0) (IntKind.wrap .i64 ((IntKind.wrap .i64 ((IntKind.wrap .i64 (k1 + 1)) + 1)) + 1))) (Xpr.Kids (List.getD a1 i Xpr.zero)))) i Xpr.zero)) (IntKind.wrap .i64 ((IntKind.wrap .i64 ((IntKind.wrap .i64 ((IntKind.wrap .i64 (k1 + 1)) + 1)) + 1)) + 1))).1)) : Xpr) (by rfl) (by rfl) (by rfl) (by rfl) (by kernel_rfl) (by kernel_rfl) (by kernel_rfl) (by kernel_rfl) (by kernel_rfl) (by kernel_rfl) (by kernel_rfl) (by kernel_rfl) (by kernel_rfl) (by kernel_rfl) ?_ ?_
    ·
     show SizeOf.sizeOf (Xpr.Kids (List.getD (List.set a1 i (Xpr.mk k1 (IntKind.wrap .i64 (k1 + 1)) (Val.mk ((Int.tmod (IntKind.wrap .i64 ((IntKind.wrap .i64 (k1 + 1)) + 1)) 3) == 0) (IntKind.wrap .i64 ((IntKind.wrap .i64 ((IntKind.wrap .i64 (k1 + 1)) + 1)) + 1))) (Xpr.Kids (List.getD a1 i Xpr.zero)))) i Xpr.zero)) < fuel
     have hi : i < a1.length := by omega
     simp only [lgetD_set_eq, List.length_set, hi, Xpr.Kids]
     have hi2 := hI0.1
     rw [hI0.2 i (Nat.le_refl _)]
     exact Nat.lt_of_lt_of_le (kids_szL (by omega)) (Nat.le_of_lt_succ hpre)
    refine AWO.keep [0, 5, 50, 1000] [0] ⟨[(0, .tr 0 1), (5, sI ((i : Nat) : Int)), (50, sI (((markExprS_r fuel) (Xpr.Kids (List.getD (List.set a1 i (Xpr.mk k1 (IntKind.wrap .i64 (k1 + 1)) (Val.mk ((Int.tmod (IntKind.wrap .i64 ((IntKind.wrap .i64 (k1 + 1)) + 1)) 3) == 0) (IntKind.wrap .i64 ((IntKind.wrap .i64 ((IntKind.wrap .i64 (k1 + 1)) + 1)) + 1))) (Xpr.Kids (List.getD a1 i Xpr.zero)))) i Xpr.zero)) (IntKind.wrap .i64 ((IntKind.wrap .i64 ((IntKind.wrap .i64 ((IntKind.wrap .i64 (k1 + 1)) + 1)) + 1)) + 1))).2)), (1000, .tr 0 1)], [(0, .tree 1 (.named 1) ((List.set (List.set a1 i (Xpr.mk k1 (IntKind.wrap .i64 (k1 + 1)) (Val.mk ((Int.tmod (IntKind.wrap .i64 ((IntKind.wrap .i64 (k1 + 1)) + 1)) 3) == 0) (IntKind.wrap .i64 ((IntKind.wrap .i64 ((IntKind.wrap .i64 (k1 + 1)) + 1)) + 1))) (Xpr.Kids (List.getD a1 i Xpr.zero)))) i (Xpr.mk (Xpr.Kind (List.getD (List.set a1 i (Xpr.mk k1 (IntKind.wrap .i64 (k1 + 1)) (Val.mk ((Int.tmod (IntKind.wrap .i64 ((IntKind.wrap .i64 (k1 + 1)) + 1)) 3) == 0) (IntKind.wrap .i64 ((IntKind.wrap .i64 ((IntKind.wrap .i64 (k1 + 1)) + 1)) + 1))) (Xpr.Kids (List.getD a1 i Xpr.zero)))) i Xpr.zero)) (Xpr.Col (List.getD (List.set a1 i (Xpr.mk k1 (IntKind.wrap .i64 (k1 + 1)) (Val.mk ((Int.tmod (IntKind.wrap .i64 ((IntKind.wrap .i64 (k1 + 1)) + 1)) 3) == 0) (IntKind.wrap .i64 ((IntKind.wrap .i64 ((IntKind.wrap .i64 (k1 + 1)) + 1)) + 1))) (Xpr.Kids (List.getD a1 i Xpr.zero)))) i Xpr.zero)) (Xpr.V (List.getD (List.set a1 i (Xpr.mk k1 (IntKind.wrap .i64 (k1 + 1)) (Val.mk ((Int.tmod (IntKind.wrap .i64 ((IntKind.wrap .i64 (k1 + 1)) + 1)) 3) == 0) (IntKind.wrap .i64 ((IntKind.wrap .i64 ((IntKind.wrap .i64 (k1 + 1)) + 1)) + 1))) (Xpr.Kids (List.getD a1 i Xpr.zero)))) i Xpr.zero)) (((markExprS_r fuel) (Xpr.Kids (List.getD (List.set a1 i (Xpr.mk k1 (IntKind.wrap .i64 (k1 + 1)) (Val.mk ((Int.tmod (IntKind.wrap .i64 ((IntKind.wrap .i64 (k1 + 1)) + 1)) 3) == 0) (IntKind.wrap .i64 ((IntKind.wrap .i64 ((IntKind.wrap .i64 (k1 + 1)) + 1)) + 1))) (Xpr.Kids (List.getD a1 i Xpr.zero)))) i Xpr.zero)) (IntKind.wrap .i64 ((IntKind.wrap .i64 ((IntKind.wrap .i64 ((IntKind.wrap .i64 (k1 + 1)) + 1)) + 1)) + 1))).1))) : List Xpr))]⟩ (by kernel_rfl) ?_
    refine AWO.run hC false [] [7] [] [0, 1, 5, 1000] [0]
     ⟨[(0, .tr 0 1), (1, sI (((markExprS_r fuel) (Xpr.Kids (List.getD (List.set a1 i (Xpr.mk k1 (IntKind.wrap .i64 (k1 + 1)) (Val.mk ((Int.tmod (IntKind.wrap .i64 ((IntKind.wrap .i64 (k1 + 1)) + 1)) 3) == 0) (IntKind.wrap .i64 ((IntKind.wrap .i64 ((IntKind.wrap .i64 (k1 + 1)) + 1)) + 1))) (Xpr.Kids (List.getD a1 i Xpr.zero)))) i Xpr.zero)) (IntKind.wrap .i64 ((IntKind.wrap .i64 ((IntKind.wrap .i64 ((IntKind.wrap .i64 (k1 + 1)) + 1)) + 1)) + 1))).2)), (5, sI ((i : Nat) : Int)), (1000, .tr 0 1)], [(0, .tree 1 (.named 1) ((List.set (List.set a1 i (Xpr.mk k1 (IntKind.wrap .i64 (k1 + 1)) (Val.mk ((Int.tmod (IntKind.wrap .i64 ((IntKind.wrap .i64 (k1 + 1)) + 1)) 3) == 0) (IntKind.wrap .i64 ((IntKind.wrap .i64 ((IntKind.wrap .i64 (k1 + 1)) + 1)) + 1))) (Xpr.Kids (List.getD a1 i Xpr.zero)))) i (Xpr.mk (Xpr.Kind (List.getD (List.set a1 i (Xpr.mk k1 (IntKind.wrap .i64 (k1 + 1)) (Val.mk ((Int.tmod (IntKind.wrap .i64 ((IntKind.wrap .i64 (k1 + 1)) + 1)) 3) == 0) (IntKind.wrap .i64 ((IntKind.wrap .i64 ((IntKind.wrap .i64 (k1 + 1)) + 1)) + 1))) (Xpr.Kids (List.getD a1 i Xpr.zero)))) i Xpr.zero)) (Xpr.Col (List.getD (List.set a1 i (Xpr.mk k1 (IntKind.wrap .i64 (k1 + 1)) (Val.mk ((Int.tmod (IntKind.wrap .i64 ((IntKind.wrap .i64 (k1 + 1)) + 1)) 3) == 0) (IntKind.wrap .i64 ((IntKind.wrap .i64 ((IntKind.wrap .i64 (k1 + 1)) + 1)) + 1))) (Xpr.Kids (List.getD a1 i Xpr.zero)))) i Xpr.zero)) (Xpr.V (List.getD (List.set a1 i (Xpr.mk k1 (IntKind.wrap .i64 (k1 + 1)) (Val.mk ((Int.tmod (IntKind.wrap .i64 ((IntKind.wrap .i64 (k1 + 1)) + 1)) 3) == 0) (IntKind.wrap .i64 ((IntKind.wrap .i64 ((IntKind.wrap .i64 (k1 + 1)) + 1)) + 1))) (Xpr.Kids (List.getD a1 i Xpr.zero)))) i Xpr.zero)) (((markExprS_r fuel) (Xpr.Kids (List.getD (List.set a1 i (Xpr.mk k1 (IntKind.wrap .i64 (k1 + 1)) (Val.mk ((Int.tmod (IntKind.wrap .i64 ((IntKind.wrap .i64 (k1 + 1)) + 1)) 3) == 0) (IntKind.wrap .i64 ((IntKind.wrap .i64 ((IntKind.wrap .i64 (k1 + 1)) + 1)) + 1))) (Xpr.Kids (List.getD a1 i Xpr.zero)))) i Xpr.zero)) (IntKind.wrap .i64 ((IntKind.wrap .i64 ((IntKind.wrap .i64 ((IntKind.wrap .i64 (k1 + 1)) + 1)) + 1)) + 1))).1))) : List Xpr))]⟩
     [] (by rfl) (by kernel_rfl) ?_ ?_
    ·
     exact trivial
    refine AWO.nil ?_
    refine AW.retree (ys := ((List.set a1 i (Xpr.mk k1 (IntKind.wrap .i64 (k1 + 1)) (Val.mk ((Int.tmod (IntKind.wrap .i64 ((IntKind.wrap .i64 (k1 + 1)) + 1)) 3) == 0) (IntKind.wrap .i64 ((IntKind.wrap .i64 ((IntKind.wrap .i64 (k1 + 1)) + 1)) + 1))) (((markExprS_r fuel) (Xpr.Kids (List.getD a1 i Xpr.zero)) (IntKind.wrap .i64 ((IntKind.wrap .i64 ((IntKind.wrap .i64 ((IntKind.wrap .i64 (k1 + 1)) + 1)) + 1)) + 1))).1))) : List Xpr)) (set_twice (fun y : Xpr => (Xpr.mk (Xpr.Kind y) (Xpr.Col y) (Xpr.V y) (((markExprS_r fuel) (Xpr.Kids y) (IntKind.wrap .i64 ((IntKind.wrap .i64 ((IntKind.wrap .i64 ((IntKind.wrap .i64 (k1 + 1)) + 1)) + 1)) + 1))).1))) (by first | omega | (simp only [List.length_set]; omega))) ?_
    refine AW.r0 hC [0, 1, 5, 1000] [0] ⟨[(0, .tr 0 1), (1, sI (((markExprS_r fuel) (Xpr.Kids (List.getD (List.set a1 i (Xpr.mk k1 (IntKind.wrap .i64 (k1 + 1)) (Val.mk ((Int.tmod (IntKind.wrap .i64 ((IntKind.wrap .i64 (k1 + 1)) + 1)) 3) == 0) (IntKind.wrap .i64 ((IntKind.wrap .i64 ((IntKind.wrap .i64 (k1 + 1)) + 1)) + 1))) (Xpr.Kids (List.getD a1 i Xpr.zero)))) i Xpr.zero)) (IntKind.wrap .i64 ((IntKind.wrap .i64 ((IntKind.wrap .i64 ((IntKind.wrap .i64 (k1 + 1)) + 1)) + 1)) + 1))).2)), (5, sI ((i + 1 : Nat) : Int)), (1000, .tr 0 1)], [(0, .tree 1 (.named 1) ((List.set a1 i (Xpr.mk k1 (IntKind.wrap .i64 (k1 + 1)) (Val.mk ((Int.tmod (IntKind.wrap .i64 ((IntKind.wrap .i64 (k1 + 1)) + 1)) 3) == 0) (IntKind.wrap .i64 ((IntKind.wrap .i64 ((IntKind.wrap .i64 (k1 + 1)) + 1)) + 1))) (((markExprS_r fuel) (Xpr.Kids (List.getD a1 i Xpr.zero)) (IntKind.wrap .i64 ((IntKind.wrap .i64 ((IntKind.wrap .i64 ((IntKind.wrap .i64 (k1 + 1)) + 1)) + 1)) + 1))).1))) : List Xpr))]⟩ [R64 ((i + 1 : Nat) : Int)] ?_ ?_
    ·
     refine ⟨?_, trivial⟩
     ·
      refine R64.of ?_
      omega
    refine AW.back (x := (k1, i, a1)) (((markExprS_r fuel) (Xpr.Kids (List.getD (List.set a1 i (Xpr.mk k1 (IntKind.wrap .i64 (k1 + 1)) (Val.mk ((Int.tmod (IntKind.wrap .i64 ((IntKind.wrap .i64 (k1 + 1)) + 1)) 3) == 0) (IntKind.wrap .i64 ((IntKind.wrap .i64 ((IntKind.wrap .i64 (k1 + 1)) + 1)) + 1))) (Xpr.Kids (List.getD a1 i Xpr.zero)))) i Xpr.zero)) (IntKind.wrap .i64 ((IntKind.wrap .i64 ((IntKind.wrap .i64 ((IntKind.wrap .i64 (k1 + 1)) + 1)) + 1)) + 1))).2, i + 1, (List.set a1 i (Xpr.mk k1 (IntKind.wrap .i64 (k1 + 1)) (Val.mk ((Int.tmod (IntKind.wrap .i64 ((IntKind.wrap .i64 (k1 + 1)) + 1)) 3) == 0) (IntKind.wrap .i64 ((IntKind.wrap .i64 ((IntKind.wrap .i64 (k1 + 1)) + 1)) + 1))) (((markExprS_r fuel) (Xpr.Kids (List.getD a1 i Xpr.zero)) (IntKind.wrap .i64 ((IntKind.wrap .i64 ((IntKind.wrap .i64 ((IntKind.wrap .i64 (k1 + 1)) + 1)) + 1)) + 1))).1)))) (by kernel_rfl) ⟨?_, k15q, ?_, e17⟩ ?_
    ·
     show List.length (List.set a1 i (Xpr.mk k1 (IntKind.wrap .i64 (k1 + 1)) (Val.mk ((Int.tmod (IntKind.wrap .i64 ((IntKind.wrap .i64 (k1 + 1)) + 1)) 3) == 0) (IntKind.wrap .i64 ((IntKind.wrap .i64 ((IntKind.wrap .i64 (k1 + 1)) + 1)) + 1))) (((markExprS_r fuel) (Xpr.Kids (List.getD a1 i Xpr.zero)) (IntKind.wrap .i64 ((IntKind.wrap .i64 ((IntKind.wrap .i64 ((IntKind.wrap .i64 (k1 + 1)) + 1)) + 1)) + 1))).1))) = List.length a ∧ ∀ j : Nat, (i + 1) ≤ j → List.getD (List.set a1 i (Xpr.mk k1 (IntKind.wrap .i64 (k1 + 1)) (Val.mk ((Int.tmod (IntKind.wrap .i64 ((IntKind.wrap .i64 (k1 + 1)) + 1)) 3) == 0) (IntKind.wrap .i64 ((IntKind.wrap .i64 ((IntKind.wrap .i64 (k1 + 1)) + 1)) + 1))) (((markExprS_r fuel) (Xpr.Kids (List.getD a1 i Xpr.zero)) (IntKind.wrap .i64 ((IntKind.wrap .i64 ((IntKind.wrap .i64 ((IntKind.wrap .i64 (k1 + 1)) + 1)) + 1)) + 1))).1))) j Xpr.zero = List.getD a j Xpr.zero
     refine ⟨by simp only [List.length_set]; exact hI0.1, fun j hj => ?_⟩
     repeat rw [lgetD_set_ne (by omega)]
     exact hI0.2 j (by omega)
    ·
     show (List.length (List.set a1 i (Xpr.mk k1 (IntKind.wrap .i64 (k1 + 1)) (Val.mk ((Int.tmod (IntKind.wrap .i64 ((IntKind.wrap .i64 (k1 + 1)) + 1)) 3) == 0) (IntKind.wrap .i64 ((IntKind.wrap .i64 ((IntKind.wrap .i64 (k1 + 1)) + 1)) + 1))) (((markExprS_r fuel) (Xpr.Kids (List.getD a1 i Xpr.zero)) (IntKind.wrap .i64 ((IntKind.wrap .i64 ((IntKind.wrap .i64 ((IntKind.wrap .i64 (k1 + 1)) + 1)) + 1)) + 1))).1)))) - (i + 1) < k15q
     simp only [lens]; omega
    ·
     show (List.length (List.set a1 i (Xpr.mk k1 (IntKind.wrap .i64 (k1 + 1)) (Val.mk ((Int.tmod (IntKind.wrap .i64 ((IntKind.wrap .i64 (k1 + 1)) + 1)) 3) == 0) (IntKind.wrap .i64 ((IntKind.wrap .i64 ((IntKind.wrap .i64 (k1 + 1)) + 1)) + 1))) (((markExprS_r fuel) (Xpr.Kids (List.getD a1 i Xpr.zero)) (IntKind.wrap .i64 ((IntKind.wrap .i64 ((IntKind.wrap .i64 ((IntKind.wrap .i64 (k1 + 1)) + 1)) + 1)) + 1))).1)))) - (i + 1) < (List.length a1) - i
     simp only [lens]; omega
   ·
    intro h18
    have h18q := (of_decide_eq_false h18)
    have e19 := e14.trans (Go.Am.bif_f h18)
    refine AW.kp [1, 1000] [0] ⟨[(1, sI k1), (1000, .tr 0 1)], [(0, .tree 1 (.named 1) (a1 : List Xpr))]⟩ ?_
    refine AW.exit ?_
    refine AW.meet (k1, a1) (by kernel_rfl) ⟨?_, e19⟩
    show List.length a1 = List.length a
    omega
 ·
  intro x hR
  obtain ⟨k1, a1⟩ := x
  obtain ⟨hJ0, e20⟩ := hR
  replace hJ0 : List.length a1 = List.length a := hJ0
  have e21 := e0.trans (Go.Am.then_eq e20)
  refine AW.seq ?_
  refine AW.reg hC  true [] [4, 1000] [0]
   ⟨[(4, sI k1), (1000, .tr 0 1)], [(0, .tree 1 (.named 1) (a1 : List Xpr))]⟩
   [] (by kernel_rfl) ?_ ?_
  ·
   exact trivial
  exact AW.ret (AW.retM (ys := a1) (k := k1) e21 (by kernel_rfl) (by kernel_rfl) (by kernel_rfl))

theorem markExprS_ok : MarkC Try.prog 81 (.named 1) (fun _ _ => True) markExprS := MarkC.of_fuel markExprS_okn (fun (a : List Xpr) => SizeOf.sizeOf a)

end
end Go.Proofs.Ytodcdgolcbdkgaa
