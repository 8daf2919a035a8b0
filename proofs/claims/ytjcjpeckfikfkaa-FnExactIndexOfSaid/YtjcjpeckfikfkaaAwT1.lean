/-
  A part of the proof of this claim (AwT1): what functions of the program compute, and plain facts of that. No conditions.
-/
import Derived.Test.YtjcjpeckfikfkaaAw7
import Derived.Test.YtjcjpeckfikfkaaAnS
set_option linter.all false
namespace Go.Proofs.Ytjcjpeckfikfkaa
open Go Go.Am
open Go.Am.AW (seq r1U ret kpU cdE r0U meet block bk exit lpB)
open List (length getD set)
noncomputable section

def markValueS_l0 : Nat → Int → Nat → (List Val) → Int × (List Val)
 | 0, k1, i, a1 => (k1, a1)
 | k + 1, k1, i, a1 => (bif (decide ((i : Int) < (length a1 : Int))) then (markValueS_l0 k (IntKind.wrap .i64 ((IntKind.wrap .i64 (k1 + 1)) + 1)) (i + 1) (set (set a1 i (Val.mk ((Int.tmod k1 3) == 0) (Val.N (getD a1 i Val.zero)))) i (Val.mk (Val.Null (getD (set a1 i (Val.mk ((Int.tmod k1 3) == 0) (Val.N (getD a1 i Val.zero)))) i Val.zero)) (IntKind.wrap .i64 (k1 + 1))))) else (k1, a1))

def markValueS (a : List Val) (k0 : Int) : List Val × Int := (andThen (markValueS_l0 ((length a) - 0 + 1) k0 0 a) (fun z => (fun (k1 : Int) (a1 : List Val) => (a1, k1)) z.1 z.2))

theorem markValueS_l0_len : ∀ (n : Nat) (k : Int) (i : Nat) (a : List Val), (markValueS_l0 n k i a).2.length = a.length := by
 intro n
 induction n with
 | zero => intro k i a; rfl
 | succ n ih =>
  intro k i a; unfold markValueS_l0
  cases decide ((i : Int) < (length a : Int)) with
  | true => rw [cond_true, ih]; simp only [List.length_set]
  | false => rfl

theorem markValueS_ok : MarkC Try.prog 72 (.named 1) (fun _ _ => True) markValueS := by
 have hC : CtxOK Try.prog { mkCtx tyL [] with deep := true } := CtxOK.deepen (CtxOK.nil tyOK); refine MarkC.of_body noGlob Try.func72 (by kernel_rfl) rfl (C := { mkCtx tyL [] with deep := true }) hC.ty (by kernel_rfl) (fun a k0 => by unfold markValueS andThen; exact markValueS_l0_len _ _ _ _) ?_; intro (a : List Val) (k0 : Int) hl hk hpre E; have hl : (length a : Int) ≤ 4294967296 := hl; have hk : -9223372036854775808 ≤ k0 ∧ k0 ≤ 9223372036854775807 := hk; have e0 : markValueS a k0 = markValueS a k0 := rfl; refine seq ?_
 refine AW.regU hC  true [] [0, 1, 1000] [0]
  [] []
  [] (by kernel_rfl) ?_ ?_
 · exact trivial
 refine seq (seq (r1U hC [0, 1, 5, 1000] [0] [(5, .int .i64 0)] [] ?_)); refine lpB (ζ := Int × (List Val)) (fun x => ⟨[(1, .int .i64 x.1), (1000, .tr 0 1)], [(0, .tree 1 (.named 1) (x.2 : List Val))]⟩) (fun x => x.2.length = (length a)) (fun x => x) (α := Int × Nat × (List Val)) (fun x => ⟨[(0, .tr 0 1), (1, .int .i64 x.1), (5, .int .i64 ((x.2.1 : Nat) : Int)), (1000, .tr 0 1)], [(0, .tree 1 (.named 1) (x.2.2 : List Val))]⟩) (fun x => x.2.2.length = (length a)) (fun x => (length x.2.2) - x.2.1) (fun k x => markValueS_l0 k x.1 x.2.1 x.2.2) (k0, 0, a) (by kernel_rfl) ?_ ?_ ?_
 · simp; done
 ·
  intro x k15q hI0 hk13 e14; obtain ⟨k1, i, a1⟩ := x; dsimp only at e14; replace hI0 : a1.length = (length a) := hI0; refine seq (seq ?_)
  refine AW.regU hC  true [] [0, 1, 5, 9, 1000] [0]
   [(9, .bool (decide ((i : Int) < (length a1 : Int))))] []
   [] (by kernel_rfl) ?_ ?_
  · exact trivial
  refine cdE e14 ?_ ?_
  ·
   intro h16q e17; refine kpU [0, 1, 5, 1000] [0] [] [] ?_; refine AW.skip (seq (block (seq ?_)))
   refine AW.regU hC  true [] [0, 1, 5, 1000] [0]
    [] [(0, .tree 1 (.named 1) ((set a1 i (Val.mk ((Int.tmod k1 3) == 0) (Val.N (getD a1 i Val.zero)))) : List Val))]
    [((3 : Int) ≠ 0), (0 ≤ (i : Int) ∧ (i : Int) < (length a1 : Int))] (by kernel_rfl) ?_ ?_
   ·
    exact ⟨(by omega), (by omega), trivial⟩
   refine seq ?_
   refine AW.regU hC  true [] [0, 1, 5, 1000] [0]
    [(1, .int .i64 (IntKind.wrap .i64 (k1 + 1)))] []
    [] (by kernel_rfl) ?_ ?_
   · exact trivial
   refine seq ?_
   refine AW.regU hC  true [] [0, 1, 5, 1000] [0]
    [] [(0, .tree 1 (.named 1) ((set (set a1 i (Val.mk ((Int.tmod k1 3) == 0) (Val.N (getD a1 i Val.zero)))) i (Val.mk (Val.Null (getD (set a1 i (Val.mk ((Int.tmod k1 3) == 0) (Val.N (getD a1 i Val.zero)))) i Val.zero)) (IntKind.wrap .i64 (k1 + 1)))) : List Val))]
    [(0 ≤ (i : Int) ∧ (i : Int) < (length (set a1 i (Val.mk ((Int.tmod k1 3) == 0) (Val.N (getD a1 i Val.zero)))) : Int))] (by kernel_rfl) ?_ ?_
   ·
    exact ⟨(by (simp only [lens] at *; omega)), trivial⟩
   refine AW.regU hC  true [] [0, 1, 5, 1000] [0]
    [(1, .int .i64 (IntKind.wrap .i64 ((IntKind.wrap .i64 (k1 + 1)) + 1)))] []
    [] (by kernel_rfl) ?_ ?_
   · exact trivial
   refine r0U hC [0, 1, 5, 1000] [0] [(5, .int .i64 ((i + 1 : Nat) : Int))] [] [(-9223372036854775808 ≤ ((i + 1 : Nat) : Int) ∧ ((i + 1 : Nat) : Int) ≤ 9223372036854775807)] ?_ ?_
   ·
    exact ⟨(by omega), trivial⟩
   refine bk ((IntKind.wrap .i64 ((IntKind.wrap .i64 (k1 + 1)) + 1)), i + 1, (set (set a1 i (Val.mk ((Int.tmod k1 3) == 0) (Val.N (getD a1 i Val.zero)))) i (Val.mk (Val.Null (getD (set a1 i (Val.mk ((Int.tmod k1 3) == 0) (Val.N (getD a1 i Val.zero)))) i Val.zero)) (IntKind.wrap .i64 (k1 + 1))))) e17 hk13 ?_ ?_
   · simp only [lens] at *; omega
   · simp only [lens]; omega
  · intro h18q e19; refine kpU [1, 1000] [0] [] [] ?_; refine exit ?_; refine meet (k1, a1) (by kernel_rfl) ⟨?_, e19⟩; assumption
 ·
  intro x hJ0 e20; obtain ⟨k1, a1⟩ := x; have e21 := e0.trans (then_eq e20); dsimp only at e21; refine seq ?_
  refine AW.regU hC  true [] [4, 1000] [0]
   [(4, .int .i64 k1)] []
   [] (by kernel_rfl) ?_ ?_
  · exact trivial
  exact ret (AW.retM (ys := a1) (k := k1) e21 (by kernel_rfl) (by kernel_rfl) (by kernel_rfl))

def markValueSS_l0 : Nat → Int → Nat → (List (List Val)) → Int × (List (List Val))
 | 0, k1, i, a1 => (k1, a1)
 | k + 1, k1, i, a1 => (bif (decide ((i : Int) < (length a1 : Int))) then (markValueSS_l0 k ((markValueS (getD a1 i []) k1).2) (i + 1) (set a1 i ((markValueS (getD a1 i []) k1).1))) else (k1, a1))

def markValueSS (a : List (List Val)) (k0 : Int) : List (List Val) × Int := (andThen (markValueSS_l0 ((length a) - 0 + 1) k0 0 a) (fun z => (fun (k1 : Int) (a1 : List (List Val)) => (a1, k1)) z.1 z.2))

theorem markValueSS_l0_len : ∀ (n : Nat) (k : Int) (i : Nat) (a : List (List Val)), (markValueSS_l0 n k i a).2.length = a.length := by
 intro n
 induction n with
 | zero => intro k i a; rfl
 | succ n ih =>
  intro k i a; unfold markValueSS_l0
  cases decide ((i : Int) < (length a : Int)) with
  | true => rw [cond_true, ih]; simp only [List.length_set]
  | false => rfl

theorem markValueSS_ok : MarkC Try.prog 24 (.slice (.named 1)) (fun _ _ => True) markValueSS := by
 have hC : CtxOK Try.prog { mkCtx tyL [] with deep := true } := CtxOK.deepen (CtxOK.nil tyOK); refine MarkC.of_body noGlob Try.func24 (by kernel_rfl) rfl (C := { mkCtx tyL [] with deep := true }) hC.ty (by kernel_rfl) (fun a k0 => by unfold markValueSS andThen; exact markValueSS_l0_len _ _ _ _) ?_; intro (a : List (List Val)) (k0 : Int) hl hk hpre E; have hl : (length a : Int) ≤ 4294967296 := hl; have hk : -9223372036854775808 ≤ k0 ∧ k0 ≤ 9223372036854775807 := hk; have e0 : markValueSS a k0 = markValueSS a k0 := rfl; refine seq ?_
 refine AW.regU hC  true [] [0, 1, 1000] [0]
  [] []
  [] (by kernel_rfl) ?_ ?_
 · exact trivial
 refine seq (seq (r1U hC [0, 1, 5, 1000] [0] [(5, .int .i64 0)] [] ?_)); refine lpB (ζ := Int × (List (List Val))) (fun x => ⟨[(1, .int .i64 x.1), (1000, .tr 0 1)], [(0, .tree 1 (.slice (.named 1)) (x.2 : List (List Val)))]⟩) (fun x => x.2.length = (length a)) (fun x => x) (α := Int × Nat × (List (List Val))) (fun x => ⟨[(0, .tr 0 1), (1, .int .i64 x.1), (5, .int .i64 ((x.2.1 : Nat) : Int)), (1000, .tr 0 1)], [(0, .tree 1 (.slice (.named 1)) (x.2.2 : List (List Val)))]⟩) (fun x => x.2.2.length = (length a)) (fun x => (length x.2.2) - x.2.1) (fun k x => markValueSS_l0 k x.1 x.2.1 x.2.2) (k0, 0, a) (by kernel_rfl) ?_ ?_ ?_
 · simp; done
 ·
  intro x k15q hI0 hk13 e14; obtain ⟨k1, i, a1⟩ := x; dsimp only at e14; replace hI0 : a1.length = (length a) := hI0; refine seq (seq ?_)
  refine AW.regU hC  true [] [0, 1, 5, 9, 1000] [0]
   [(9, .bool (decide ((i : Int) < (length a1 : Int))))] []
   [] (by kernel_rfl) ?_ ?_
  · exact trivial
  refine cdE e14 ?_ ?_
  ·
   intro h16q e17; refine kpU [0, 1, 5, 1000] [0] [] [] ?_; refine AW.skip (seq (block (AW.regionO [0, 1, 2, 3, 4, 5, 6] (by rfl) ?_)))
   refine AWO.runU hC false [] [0, 1, 2] [3, 4, 5, 6] [0, 1, 5, 14, 1000] [0]
    [(14, .tref 0 1 i [])] []
    [(0 ≤ (i : Int) ∧ (i : Int) < (length a1 : Int))] (by rfl) (by kernel_rfl) ?_ ?_
   ·
    exact ⟨(by omega), trivial⟩
   refine AWO.markAt (u := (.slice (.named 1))) (id := 0) (ep := 1) (i := i) (p := []) (xs := (a1 : List (List Val))) (ys := ((getD a1 i []) : List Val)) (k := k1) markValueS_ok hC.ty ((markValueS (getD a1 i []) k1).1 : List Val) (by rfl) (by rfl) (by rfl) (by rfl) (by kernel_rfl) (by kernel_rfl) (by kernel_rfl) (by kernel_rfl) (by kernel_rfl) (by kernel_rfl) (by kernel_rfl) (by kernel_rfl) (by kernel_rfl) (by kernel_rfl) ?_ ?_
   · assumption
   refine AWO.keepU [0, 5, 17, 1000] [0] [(17, .int .i64 (markValueS (getD a1 i []) k1).2)] [(0, .tree 1 (.slice (.named 1)) ((set a1 i ((markValueS (getD a1 i []) k1).1)) : List (List Val)))] (by kernel_rfl) ?_
   refine AWO.runU hC false [] [6] [] [0, 1, 5, 1000] [0]
    [(1, .int .i64 (markValueS (getD a1 i []) k1).2)] []
    [] (by rfl) (by kernel_rfl) ?_ ?_
   · exact trivial
   refine AWO.nil ?_; refine r0U hC [0, 1, 5, 1000] [0] [(5, .int .i64 ((i + 1 : Nat) : Int))] [] [(-9223372036854775808 ≤ ((i + 1 : Nat) : Int) ∧ ((i + 1 : Nat) : Int) ≤ 9223372036854775807)] ?_ ?_
   ·
    exact ⟨(by omega), trivial⟩
   refine bk ((markValueS (getD a1 i []) k1).2, i + 1, (set a1 i ((markValueS (getD a1 i []) k1).1))) e17 hk13 ?_ ?_
   · simp only [lens] at *; omega
   · simp only [lens]; omega
  · intro h18q e19; refine kpU [1, 1000] [0] [] [] ?_; refine exit ?_; refine meet (k1, a1) (by kernel_rfl) ⟨?_, e19⟩; assumption
 ·
  intro x hJ0 e20; obtain ⟨k1, a1⟩ := x; have e21 := e0.trans (then_eq e20); dsimp only at e21; refine seq ?_
  refine AW.regU hC  true [] [4, 1000] [0]
   [(4, .int .i64 k1)] []
   [] (by kernel_rfl) ?_ ?_
  · exact trivial
  exact ret (AW.retM (ys := a1) (k := k1) e21 (by kernel_rfl) (by kernel_rfl) (by kernel_rfl))

end
end Go.Proofs.Ytjcjpeckfikfkaa
