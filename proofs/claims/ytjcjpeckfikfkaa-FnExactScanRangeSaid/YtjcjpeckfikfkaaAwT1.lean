/-
  A part of the proof of this claim (AwT1): what functions of the program compute, and plain facts of that. No conditions.
-/
import Derived.Test.YtjcjpeckfikfkaaAw7
import Derived.Test.YtjcjpeckfikfkaaAnS
set_option linter.all false
namespace Go.Proofs.Ytjcjpeckfikfkaa
open Go Go.Am
noncomputable section

def markValueS_l0 : Nat → Int → Nat → (List Val) → Int × (List Val)
 | 0, k1, i, a1 => (k1, a1)
 | k + 1, k1, i, a1 => (bif (decide (((i : Nat) : Int) < ((List.length a1 : Nat) : Int))) then (markValueS_l0 k (IntKind.wrap .i64 ((IntKind.wrap .i64 (k1 + 1)) + 1)) (i + 1) (List.set (List.set a1 i (Val.mk ((Int.tmod k1 3) == 0) (Val.N (List.getD a1 i Val.zero)))) i (Val.mk (Val.Null (List.getD (List.set a1 i (Val.mk ((Int.tmod k1 3) == 0) (Val.N (List.getD a1 i Val.zero)))) i Val.zero)) (IntKind.wrap .i64 (k1 + 1))))) else (k1, a1))

def markValueS (a : List Val) (k0 : Int) : List Val × Int := (Go.Am.andThen (markValueS_l0 ((List.length a) - 0 + 1) k0 0 a) (fun z => (fun (k1 : Int) (a1 : List Val) => (a1, k1)) z.1 z.2))

theorem markValueS_l0_len : ∀ (n : Nat) (k : Int) (i : Nat) (a : List Val), (markValueS_l0 n k i a).2.length = a.length := by
 intro n
 induction n with
 | zero => intro k i a; rfl
 | succ n ih =>
  intro k i a
  unfold markValueS_l0
  cases decide (((i : Nat) : Int) < ((List.length a : Nat) : Int)) with
  | true => rw [cond_true, ih]; simp only [List.length_set]
  | false => rfl

theorem markValueS_ok : MarkC Try.prog 72 (.named 1) (fun _ _ => True) markValueS := by
 have hC : CtxOK Try.prog { mkCtx tyL [] with deep := true } := CtxOK.deepen (CtxOK.nil tyOK)
 refine MarkC.of_body noGlob Try.func72 (by kernel_rfl) rfl (C := { mkCtx tyL [] with deep := true }) hC.ty (by kernel_rfl) (fun a k0 => by unfold markValueS Go.Am.andThen; exact markValueS_l0_len _ _ _ _) ?_
 intro (a : List Val) (k0 : Int) hl hk hpre E
 have hl : ((List.length a : Nat) : Int) ≤ 4294967296 := hl
 have hk : -9223372036854775808 ≤ k0 ∧ k0 ≤ 9223372036854775807 := hk
 have e0 : markValueS a k0 = markValueS a k0 := rfl
 refine AW.seq ?_
 refine AW.reg hC  true [] [0, 1, 1000] [0]
  ⟨[(0, .tr 0 1), (1, .int .i64 k0), (1000, .tr 0 1)], [(0, .tree 1 (.named 1) (a : List Val))]⟩
  [] (by kernel_rfl) ?_ ?_
 ·
  exact trivial
 refine AW.seq (AW.seq (AW.r1 hC [0, 1, 5, 1000] [0] ⟨[(0, .tr 0 1), (1, .int .i64 k0), (5, .int .i64 0), (1000, .tr 0 1)], [(0, .tree 1 (.named 1) (a : List Val))]⟩ ?_))
 refine AW.cutQ (α := Int × (List Val)) (fun x => ⟨[(1, .int .i64 x.1), (1000, .tr 0 1)], [(0, .tree 1 (.named 1) (x.2 : List Val))]⟩) (fun x => (x.2.length = (List.length a)) ∧ (markValueS_l0 ((List.length a) - 0 + 1) k0 0 a) = x) ?_ ?_
 ·
  skip
  refine AW.block (AW.loop (α := Int × Nat × (List Val)) (fun x => ⟨[(0, .tr 0 1), (1, .int .i64 x.1), (5, .int .i64 ((x.2.1 : Nat) : Int)), (1000, .tr 0 1)], [(0, .tree 1 (.named 1) (x.2.2 : List Val))]⟩) (fun x => (x.2.2.length = (List.length a)) ∧ ∃ k, (List.length x.2.2) - x.2.1 < k ∧ (markValueS_l0 ((List.length a) - 0 + 1) k0 0 a) = markValueS_l0 k x.1 x.2.1 x.2.2) (fun x => (List.length x.2.2) - x.2.1) (k0, 0, a) (by kernel_rfl) ⟨?_, _, Nat.lt_succ_self _, rfl⟩ ?_)
  ·
   show a.length = (List.length a)
   omega
  ·
   intro x hR
   obtain ⟨k1, i, a1⟩ := x
   obtain ⟨hI0, k15, hk13, e14⟩ := hR
   replace hI0 : a1.length = (List.length a) := hI0
   replace hk13 : (List.length a1) - i < k15 := hk13
   obtain ⟨k15q, rfl⟩ : ∃ k, k15 = k + 1 := ⟨k15 - 1, by omega⟩
   refine AW.seq (AW.seq ?_)
   refine AW.reg hC  true [] [0, 1, 5, 9, 1000] [0]
    ⟨[(0, .tr 0 1), (1, .int .i64 k1), (5, .int .i64 ((i : Nat) : Int)), (9, .bool (decide (((i : Nat) : Int) < ((List.length a1 : Nat) : Int)))), (1000, .tr 0 1)], [(0, .tree 1 (.named 1) (a1 : List Val))]⟩
    [] (by kernel_rfl) ?_ ?_
   ·
    exact trivial
   refine AW.cd (decide (((i : Nat) : Int) < ((List.length a1 : Nat) : Int))) ?_ ?_
   ·
    intro h16
    have h16q : ((i : Nat) : Int) < ((List.length a1 : Nat) : Int) := (of_decide_eq_true h16)
    have e17 := e14.trans (Go.Am.bif_t h16)
    refine AW.kp [0, 1, 5, 1000] [0] ⟨[(0, .tr 0 1), (1, .int .i64 k1), (5, .int .i64 ((i : Nat) : Int)), (1000, .tr 0 1)], [(0, .tree 1 (.named 1) (a1 : List Val))]⟩ ?_
    refine AW.skip (AW.seq (AW.block (AW.seq ?_)))
    refine AW.reg hC  true [] [0, 1, 5, 1000] [0]
     ⟨[(0, .tr 0 1), (1, .int .i64 k1), (5, .int .i64 ((i : Nat) : Int)), (1000, .tr 0 1)], [(0, .tree 1 (.named 1) ((List.set a1 i (Val.mk ((Int.tmod k1 3) == 0) (Val.N (List.getD a1 i Val.zero)))) : List Val))]⟩
     [((3 : Int) ≠ 0), (0 ≤ ((i : Nat) : Int) ∧ ((i : Nat) : Int) < ((List.length a1 : Nat) : Int))] (by kernel_rfl) ?_ ?_
    ·
     refine ⟨?_, ?_, trivial⟩
     ·
      omega
     ·
      omega
    refine AW.seq ?_
    refine AW.reg hC  true [] [0, 1, 5, 1000] [0]
     ⟨[(0, .tr 0 1), (1, .int .i64 (IntKind.wrap .i64 (k1 + 1))), (5, .int .i64 ((i : Nat) : Int)), (1000, .tr 0 1)], [(0, .tree 1 (.named 1) ((List.set a1 i (Val.mk ((Int.tmod k1 3) == 0) (Val.N (List.getD a1 i Val.zero)))) : List Val))]⟩
     [] (by kernel_rfl) ?_ ?_
    ·
     exact trivial
    refine AW.seq ?_
    refine AW.reg hC  true [] [0, 1, 5, 1000] [0]
     ⟨[(0, .tr 0 1), (1, .int .i64 (IntKind.wrap .i64 (k1 + 1))), (5, .int .i64 ((i : Nat) : Int)), (1000, .tr 0 1)], [(0, .tree 1 (.named 1) ((List.set (List.set a1 i (Val.mk ((Int.tmod k1 3) == 0) (Val.N (List.getD a1 i Val.zero)))) i (Val.mk (Val.Null (List.getD (List.set a1 i (Val.mk ((Int.tmod k1 3) == 0) (Val.N (List.getD a1 i Val.zero)))) i Val.zero)) (IntKind.wrap .i64 (k1 + 1)))) : List Val))]⟩
     [(0 ≤ ((i : Nat) : Int) ∧ ((i : Nat) : Int) < ((List.length (List.set a1 i (Val.mk ((Int.tmod k1 3) == 0) (Val.N (List.getD a1 i Val.zero)))) : Nat) : Int))] (by kernel_rfl) ?_ ?_
    ·
     refine ⟨?_, trivial⟩
     ·
      simp only [lens] at *; omega
    refine AW.reg hC  true [] [0, 1, 5, 1000] [0]
     ⟨[(0, .tr 0 1), (1, .int .i64 (IntKind.wrap .i64 ((IntKind.wrap .i64 (k1 + 1)) + 1))), (5, .int .i64 ((i : Nat) : Int)), (1000, .tr 0 1)], [(0, .tree 1 (.named 1) ((List.set (List.set a1 i (Val.mk ((Int.tmod k1 3) == 0) (Val.N (List.getD a1 i Val.zero)))) i (Val.mk (Val.Null (List.getD (List.set a1 i (Val.mk ((Int.tmod k1 3) == 0) (Val.N (List.getD a1 i Val.zero)))) i Val.zero)) (IntKind.wrap .i64 (k1 + 1)))) : List Val))]⟩
     [] (by kernel_rfl) ?_ ?_
    ·
     exact trivial
    refine AW.r0 hC [0, 1, 5, 1000] [0] ⟨[(0, .tr 0 1), (1, .int .i64 (IntKind.wrap .i64 ((IntKind.wrap .i64 (k1 + 1)) + 1))), (5, .int .i64 ((i + 1 : Nat) : Int)), (1000, .tr 0 1)], [(0, .tree 1 (.named 1) ((List.set (List.set a1 i (Val.mk ((Int.tmod k1 3) == 0) (Val.N (List.getD a1 i Val.zero)))) i (Val.mk (Val.Null (List.getD (List.set a1 i (Val.mk ((Int.tmod k1 3) == 0) (Val.N (List.getD a1 i Val.zero)))) i Val.zero)) (IntKind.wrap .i64 (k1 + 1)))) : List Val))]⟩ [(-9223372036854775808 ≤ ((i + 1 : Nat) : Int) ∧ ((i + 1 : Nat) : Int) ≤ 9223372036854775807)] ?_ ?_
    ·
     refine ⟨?_, trivial⟩
     ·
      omega
    refine AW.back (x := (k1, i, a1)) ((IntKind.wrap .i64 ((IntKind.wrap .i64 (k1 + 1)) + 1)), i + 1, (List.set (List.set a1 i (Val.mk ((Int.tmod k1 3) == 0) (Val.N (List.getD a1 i Val.zero)))) i (Val.mk (Val.Null (List.getD (List.set a1 i (Val.mk ((Int.tmod k1 3) == 0) (Val.N (List.getD a1 i Val.zero)))) i Val.zero)) (IntKind.wrap .i64 (k1 + 1))))) (by kernel_rfl) ⟨?_, k15q, ?_, e17⟩ ?_
    ·
     show (List.set (List.set a1 i (Val.mk ((Int.tmod k1 3) == 0) (Val.N (List.getD a1 i Val.zero)))) i (Val.mk (Val.Null (List.getD (List.set a1 i (Val.mk ((Int.tmod k1 3) == 0) (Val.N (List.getD a1 i Val.zero)))) i Val.zero)) (IntKind.wrap .i64 (k1 + 1)))).length = (List.length a)
     simp only [lens] at *; omega
    ·
     show (List.length (List.set (List.set a1 i (Val.mk ((Int.tmod k1 3) == 0) (Val.N (List.getD a1 i Val.zero)))) i (Val.mk (Val.Null (List.getD (List.set a1 i (Val.mk ((Int.tmod k1 3) == 0) (Val.N (List.getD a1 i Val.zero)))) i Val.zero)) (IntKind.wrap .i64 (k1 + 1))))) - (i + 1) < k15q
     simp only [lens]; omega
    ·
     show (List.length (List.set (List.set a1 i (Val.mk ((Int.tmod k1 3) == 0) (Val.N (List.getD a1 i Val.zero)))) i (Val.mk (Val.Null (List.getD (List.set a1 i (Val.mk ((Int.tmod k1 3) == 0) (Val.N (List.getD a1 i Val.zero)))) i Val.zero)) (IntKind.wrap .i64 (k1 + 1))))) - (i + 1) < (List.length a1) - i
     simp only [lens]; omega
   ·
    intro h18
    have h18q : ¬ (((i : Nat) : Int) < ((List.length a1 : Nat) : Int)) := (of_decide_eq_false h18)
    have e19 := e14.trans (Go.Am.bif_f h18)
    refine AW.kp [1, 1000] [0] ⟨[(1, .int .i64 k1), (1000, .tr 0 1)], [(0, .tree 1 (.named 1) (a1 : List Val))]⟩ ?_
    refine AW.exit ?_
    refine AW.meet (k1, a1) (by kernel_rfl) ⟨?_, e19⟩
    show a1.length = (List.length a)
    assumption
 ·
  intro x hR
  obtain ⟨k1, a1⟩ := x
  obtain ⟨hJ0, e20⟩ := hR
  replace hJ0 : a1.length = (List.length a) := hJ0
  have e21 := e0.trans (Go.Am.then_eq e20)
  refine AW.seq ?_
  refine AW.reg hC  true [] [4, 1000] [0]
   ⟨[(4, .int .i64 k1), (1000, .tr 0 1)], [(0, .tree 1 (.named 1) (a1 : List Val))]⟩
   [] (by kernel_rfl) ?_ ?_
  ·
   exact trivial
  exact AW.ret (AW.retM (ys := a1) (k := k1) e21 (by kernel_rfl) (by kernel_rfl) (by kernel_rfl))

def markValueSS_l0 : Nat → Int → Nat → (List (List Val)) → Int × (List (List Val))
 | 0, k1, i, a1 => (k1, a1)
 | k + 1, k1, i, a1 => (bif (decide (((i : Nat) : Int) < ((List.length a1 : Nat) : Int))) then (markValueSS_l0 k ((markValueS (List.getD a1 i []) k1).2) (i + 1) (List.set a1 i ((markValueS (List.getD a1 i []) k1).1))) else (k1, a1))

def markValueSS (a : List (List Val)) (k0 : Int) : List (List Val) × Int := (Go.Am.andThen (markValueSS_l0 ((List.length a) - 0 + 1) k0 0 a) (fun z => (fun (k1 : Int) (a1 : List (List Val)) => (a1, k1)) z.1 z.2))

theorem markValueSS_l0_len : ∀ (n : Nat) (k : Int) (i : Nat) (a : List (List Val)), (markValueSS_l0 n k i a).2.length = a.length := by
 intro n
 induction n with
 | zero => intro k i a; rfl
 | succ n ih =>
  intro k i a
  unfold markValueSS_l0
  cases decide (((i : Nat) : Int) < ((List.length a : Nat) : Int)) with
  | true => rw [cond_true, ih]; simp only [List.length_set]
  | false => rfl

theorem markValueSS_ok : MarkC Try.prog 24 (.slice (.named 1)) (fun _ _ => True) markValueSS := by
 have hC : CtxOK Try.prog { mkCtx tyL [] with deep := true } := CtxOK.deepen (CtxOK.nil tyOK)
 refine MarkC.of_body noGlob Try.func24 (by kernel_rfl) rfl (C := { mkCtx tyL [] with deep := true }) hC.ty (by kernel_rfl) (fun a k0 => by unfold markValueSS Go.Am.andThen; exact markValueSS_l0_len _ _ _ _) ?_
 intro (a : List (List Val)) (k0 : Int) hl hk hpre E
 have hl : ((List.length a : Nat) : Int) ≤ 4294967296 := hl
 have hk : -9223372036854775808 ≤ k0 ∧ k0 ≤ 9223372036854775807 := hk
 have e0 : markValueSS a k0 = markValueSS a k0 := rfl
 refine AW.seq ?_
 refine AW.reg hC  true [] [0, 1, 1000] [0]
  ⟨[(0, .tr 0 1), (1, .int .i64 k0), (1000, .tr 0 1)], [(0, .tree 1 (.slice (.named 1)) (a : List (List Val)))]⟩
  [] (by kernel_rfl) ?_ ?_
 ·
  exact trivial
 refine AW.seq (AW.seq (AW.r1 hC [0, 1, 5, 1000] [0] ⟨[(0, .tr 0 1), (1, .int .i64 k0), (5, .int .i64 0), (1000, .tr 0 1)], [(0, .tree 1 (.slice (.named 1)) (a : List (List Val)))]⟩ ?_))
 refine AW.cutQ (α := Int × (List (List Val))) (fun x => ⟨[(1, .int .i64 x.1), (1000, .tr 0 1)], [(0, .tree 1 (.slice (.named 1)) (x.2 : List (List Val)))]⟩) (fun x => (x.2.length = (List.length a)) ∧ (markValueSS_l0 ((List.length a) - 0 + 1) k0 0 a) = x) ?_ ?_
 ·
  skip
  refine AW.block (AW.loop (α := Int × Nat × (List (List Val))) (fun x => ⟨[(0, .tr 0 1), (1, .int .i64 x.1), (5, .int .i64 ((x.2.1 : Nat) : Int)), (1000, .tr 0 1)], [(0, .tree 1 (.slice (.named 1)) (x.2.2 : List (List Val)))]⟩) (fun x => (x.2.2.length = (List.length a)) ∧ ∃ k, (List.length x.2.2) - x.2.1 < k ∧ (markValueSS_l0 ((List.length a) - 0 + 1) k0 0 a) = markValueSS_l0 k x.1 x.2.1 x.2.2) (fun x => (List.length x.2.2) - x.2.1) (k0, 0, a) (by kernel_rfl) ⟨?_, _, Nat.lt_succ_self _, rfl⟩ ?_)
  ·
   show a.length = (List.length a)
   omega
  ·
   intro x hR
   obtain ⟨k1, i, a1⟩ := x
   obtain ⟨hI0, k15, hk13, e14⟩ := hR
   replace hI0 : a1.length = (List.length a) := hI0
   replace hk13 : (List.length a1) - i < k15 := hk13
   obtain ⟨k15q, rfl⟩ : ∃ k, k15 = k + 1 := ⟨k15 - 1, by omega⟩
   refine AW.seq (AW.seq ?_)
   refine AW.reg hC  true [] [0, 1, 5, 9, 1000] [0]
    ⟨[(0, .tr 0 1), (1, .int .i64 k1), (5, .int .i64 ((i : Nat) : Int)), (9, .bool (decide (((i : Nat) : Int) < ((List.length a1 : Nat) : Int)))), (1000, .tr 0 1)], [(0, .tree 1 (.slice (.named 1)) (a1 : List (List Val)))]⟩
    [] (by kernel_rfl) ?_ ?_
   ·
    exact trivial
   refine AW.cd (decide (((i : Nat) : Int) < ((List.length a1 : Nat) : Int))) ?_ ?_
   ·
    intro h16
    have h16q : ((i : Nat) : Int) < ((List.length a1 : Nat) : Int) := (of_decide_eq_true h16)
    have e17 := e14.trans (Go.Am.bif_t h16)
    refine AW.kp [0, 1, 5, 1000] [0] ⟨[(0, .tr 0 1), (1, .int .i64 k1), (5, .int .i64 ((i : Nat) : Int)), (1000, .tr 0 1)], [(0, .tree 1 (.slice (.named 1)) (a1 : List (List Val)))]⟩ ?_
    refine AW.skip (AW.seq (AW.block (AW.regionO [0, 1, 2, 3, 4, 5, 6] (by rfl) ?_)))
    refine AWO.run hC false [] [0, 1, 2] [3, 4, 5, 6] [0, 1, 5, 14, 1000] [0]
     ⟨[(0, .tr 0 1), (1, .int .i64 k1), (5, .int .i64 ((i : Nat) : Int)), (14, .tref 0 1 i []), (1000, .tr 0 1)], [(0, .tree 1 (.slice (.named 1)) (a1 : List (List Val)))]⟩
     [(0 ≤ ((i : Nat) : Int) ∧ ((i : Nat) : Int) < ((List.length a1 : Nat) : Int))] (by rfl) (by kernel_rfl) ?_ ?_
    ·
     refine ⟨?_, trivial⟩
     ·
      omega
    refine AWO.markAt (u := (.slice (.named 1))) (id := 0) (ep := 1) (i := i) (p := []) (xs := (a1 : List (List Val))) (ys := ((List.getD a1 i []) : List Val)) (k := k1) markValueS_ok hC.ty ((markValueS (List.getD a1 i []) k1).1 : List Val) (by rfl) (by rfl) (by rfl) (by rfl) (by kernel_rfl) (by kernel_rfl) (by kernel_rfl) (by kernel_rfl) (by kernel_rfl) (by kernel_rfl) (by kernel_rfl) (by kernel_rfl) (by kernel_rfl) (by kernel_rfl) ?_ ?_
    ·
     show True
     assumption
    refine AWO.keep [0, 5, 17, 1000] [0] ⟨[(0, .tr 0 1), (5, .int .i64 ((i : Nat) : Int)), (17, .int .i64 (markValueS (List.getD a1 i []) k1).2), (1000, .tr 0 1)], [(0, .tree 1 (.slice (.named 1)) ((List.set a1 i ((markValueS (List.getD a1 i []) k1).1)) : List (List Val)))]⟩ (by kernel_rfl) ?_
    refine AWO.run hC false [] [6] [] [0, 1, 5, 1000] [0]
     ⟨[(0, .tr 0 1), (1, .int .i64 (markValueS (List.getD a1 i []) k1).2), (5, .int .i64 ((i : Nat) : Int)), (1000, .tr 0 1)], [(0, .tree 1 (.slice (.named 1)) ((List.set a1 i ((markValueS (List.getD a1 i []) k1).1)) : List (List Val)))]⟩
     [] (by rfl) (by kernel_rfl) ?_ ?_
    ·
     exact trivial
    refine AWO.nil ?_
    refine AW.r0 hC [0, 1, 5, 1000] [0] ⟨[(0, .tr 0 1), (1, .int .i64 (markValueS (List.getD a1 i []) k1).2), (5, .int .i64 ((i + 1 : Nat) : Int)), (1000, .tr 0 1)], [(0, .tree 1 (.slice (.named 1)) ((List.set a1 i ((markValueS (List.getD a1 i []) k1).1)) : List (List Val)))]⟩ [(-9223372036854775808 ≤ ((i + 1 : Nat) : Int) ∧ ((i + 1 : Nat) : Int) ≤ 9223372036854775807)] ?_ ?_
    ·
     refine ⟨?_, trivial⟩
     ·
      omega
    refine AW.back (x := (k1, i, a1)) ((markValueS (List.getD a1 i []) k1).2, i + 1, (List.set a1 i ((markValueS (List.getD a1 i []) k1).1))) (by kernel_rfl) ⟨?_, k15q, ?_, e17⟩ ?_
    ·
     show (List.set a1 i ((markValueS (List.getD a1 i []) k1).1)).length = (List.length a)
     simp only [lens] at *; omega
    ·
     show (List.length (List.set a1 i ((markValueS (List.getD a1 i []) k1).1))) - (i + 1) < k15q
     simp only [lens]; omega
    ·
     show (List.length (List.set a1 i ((markValueS (List.getD a1 i []) k1).1))) - (i + 1) < (List.length a1) - i
     simp only [lens]; omega
   ·
    intro h18
    have h18q : ¬ (((i : Nat) : Int) < ((List.length a1 : Nat) : Int)) := (of_decide_eq_false h18)
    have e19 := e14.trans (Go.Am.bif_f h18)
    refine AW.kp [1, 1000] [0] ⟨[(1, .int .i64 k1), (1000, .tr 0 1)], [(0, .tree 1 (.slice (.named 1)) (a1 : List (List Val)))]⟩ ?_
    refine AW.exit ?_
    refine AW.meet (k1, a1) (by kernel_rfl) ⟨?_, e19⟩
    show a1.length = (List.length a)
    assumption
 ·
  intro x hR
  obtain ⟨k1, a1⟩ := x
  obtain ⟨hJ0, e20⟩ := hR
  replace hJ0 : a1.length = (List.length a) := hJ0
  have e21 := e0.trans (Go.Am.then_eq e20)
  refine AW.seq ?_
  refine AW.reg hC  true [] [4, 1000] [0]
   ⟨[(4, .int .i64 k1), (1000, .tr 0 1)], [(0, .tree 1 (.slice (.named 1)) (a1 : List (List Val)))]⟩
   [] (by kernel_rfl) ?_ ?_
  ·
   exact trivial
  exact AW.ret (AW.retM (ys := a1) (k := k1) e21 (by kernel_rfl) (by kernel_rfl) (by kernel_rfl))

end
end Go.Proofs.Ytjcjpeckfikfkaa
