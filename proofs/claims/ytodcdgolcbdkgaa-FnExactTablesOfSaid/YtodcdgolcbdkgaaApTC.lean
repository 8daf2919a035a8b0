/-
  A part of the proof of this claim (ApTC): what functions of the program compute, and plain facts of that. No conditions.
-/
import Derived.Test.YtodcdgolcbdkgaaApT5
set_option linter.all false
namespace Go.Proofs.Ytodcdgolcbdkgaa
open Go Go.Am
open Go.Am.AW (seq r1U ret kpU cdE r0U meet block bk exit lpB)
open List (length getD set)
noncomputable section

def markIntS_l0 : Nat → Int → Nat → (List Int) → Int × (List Int)
 | 0, k1, i, a1 => (k1, a1)
 | k + 1, k1, i, a1 => (bif (decide ((i : Int) < (length a1 : Int))) then (markIntS_l0 k (IntKind.wrap .i64 (k1 + 1)) (i + 1) (set a1 i k1)) else (k1, a1))

def markIntS (a : List Int) (k0 : Int) : List Int × Int := (andThen (markIntS_l0 ((length a) - 0 + 1) k0 0 a) (fun z => (fun (k1 : Int) (a1 : List Int) => (a1, k1)) z.1 z.2))

theorem markIntS_l0_len : ∀ (n : Nat) (k : Int) (i : Nat) (a : List Int), (markIntS_l0 n k i a).2.length = a.length := by
 intro n
 induction n with
 | zero => intro k i a; rfl
 | succ n ih =>
  intro k i a; unfold markIntS_l0
  cases decide ((i : Int) < (length a : Int)) with
  | true => rw [cond_true, ih]; simp only [List.length_set]
  | false => rfl

theorem markIntS_ok : MarkC Try.prog 37 (.int .i64) (fun _ _ => True) markIntS := by
 have hC : CtxOK Try.prog { mkCtx tyL [] with deep := true } := CtxOK.deepen (CtxOK.nil tyOK); refine MarkC.of_body noGlob Try.func37 (by kernel_rfl) rfl (C := { mkCtx tyL [] with deep := true }) hC.ty (by kernel_rfl) (fun a k0 => by unfold markIntS andThen; exact markIntS_l0_len _ _ _ _) ?_; intro (a : List Int) (k0 : Int) hl hk hpre E; have hl : (length a : Int) ≤ 4294967296 := hl; have hk : -9223372036854775808 ≤ k0 ∧ k0 ≤ 9223372036854775807 := hk; have e0 : markIntS a k0 = markIntS a k0 := rfl; refine seq ?_
 refine AW.regU hC  true [] [0, 1, 1000] [0]
  [] []
  [] (by kernel_rfl) ?_ ?_
 · exact trivial
 refine seq (seq (r1U hC [0, 1, 5, 1000] [0] [(5, sI 0)] [] ?_)); refine lpB (ζ := Int × (List Int)) (fun x => ⟨[(1, sI x.1), (1000, .tr 0 1)], [(0, .tree 1 (.int .i64) (x.2 : List Int))]⟩) (fun x => x.2.length = (length a)) (fun x => x) (α := Int × Nat × (List Int)) (fun x => ⟨[(0, .tr 0 1), (1, sI x.1), (5, sI ((x.2.1 : Nat) : Int)), (1000, .tr 0 1)], [(0, .tree 1 (.int .i64) (x.2.2 : List Int))]⟩) (fun x => x.2.2.length = (length a)) (fun x => (length x.2.2) - x.2.1) (fun k x => markIntS_l0 k x.1 x.2.1 x.2.2) (k0, 0, a) (by kernel_rfl) ?_ ?_ ?_
 · simp
 ·
  intro x k15q hI0 hk13 e14; obtain ⟨k1, i, a1⟩ := x; dsimp only at e14; replace hI0 : a1.length = (length a) := hI0; refine seq (seq ?_)
  refine AW.regU hC  true [] [0, 1, 5, 9, 1000] [0]
   [(9, sB (decide ((i : Int) < (length a1 : Int))))] []
   [] (by kernel_rfl) ?_ ?_
  · exact trivial
  refine cdE e14 ?_ ?_
  ·
   intro h16q e17; refine kpU [0, 1, 5, 1000] [0] [] [] ?_; refine AW.skip (seq (block (seq ?_)))
   refine AW.regU hC  true [] [0, 1, 5, 1000] [0]
    [] [(0, .tree 1 (.int .i64) ((set a1 i k1) : List Int))]
    [IX (i : Int) (length a1 : Int)] (by kernel_rfl) ?_ ?_
   ·
    exact ⟨IX.of (by omega), trivial⟩
   refine AW.regU hC  true [] [0, 1, 5, 1000] [0]
    [(1, sI (IntKind.wrap .i64 (k1 + 1)))] []
    [] (by kernel_rfl) ?_ ?_
   · exact trivial
   refine r0U hC [0, 1, 5, 1000] [0] [(5, sI ((i + 1 : Nat) : Int))] [] [R64 ((i + 1 : Nat) : Int)] ?_ ?_
   ·
    exact ⟨R64.of (by omega), trivial⟩
   refine bk ((IntKind.wrap .i64 (k1 + 1)), i + 1, (set a1 i k1)) e17 hk13 ?_ ?_
   · simp only [lens] at *; omega
   · simp only [lens]; omega
  · intro h18q e19; refine kpU [1, 1000] [0] [] [] ?_; refine exit ?_; refine meet (k1, a1) (by kernel_rfl) ⟨?_, e19⟩; assumption
 ·
  intro x hJ0 e20; obtain ⟨k1, a1⟩ := x; have e21 := e0.trans (then_eq e20); dsimp only at e21; refine seq ?_
  refine AW.regU hC  true [] [4, 1000] [0]
   [(4, sI k1)] []
   [] (by kernel_rfl) ?_ ?_
  · exact trivial
  exact ret (AW.retM (ys := a1) (k := k1) e21 (by kernel_rfl) (by kernel_rfl) (by kernel_rfl))

theorem pkids_szL {a : List Pln} {i : Nat} (hi : i < a.length) : SizeOf.sizeOf (getD a i Pln.zero).Kids < SizeOf.sizeOf a := by
 have h1 := List.sizeOf_lt_of_mem (getD_mem a i Pln.zero hi); generalize getD a i Pln.zero = x at *
 cases x with
 | mk k c e v ks => simp only [Pln.mk.sizeOf_spec, Pln.Kids] at *; omega


def markPlanS_l0 (self : List Pln → Int → List Pln × Int) : Nat → Int → Nat → (List Pln) → Int × (List Pln)
 | 0, k1, i, a1 => (k1, a1)
 | k + 1, k1, i, a1 => (bif (decide ((i : Int) < (length a1 : Int))) then (markPlanS_l0 self k ((self (Pln.Kids (getD (set a1 i (Pln.mk k1 (IntKind.wrap .i64 (k1 + 1)) ((markExprS (Pln.Exprs (getD a1 i Pln.zero)) (IntKind.wrap .i64 ((IntKind.wrap .i64 (k1 + 1)) + 1))).1) ((markIntS (Pln.Cols (getD a1 i Pln.zero)) ((markExprS (Pln.Exprs (getD (set a1 i (Pln.mk k1 (IntKind.wrap .i64 (k1 + 1)) (Pln.Exprs (getD a1 i Pln.zero)) (Pln.Cols (getD a1 i Pln.zero)) (Pln.Kids (getD a1 i Pln.zero)))) i Pln.zero)) (IntKind.wrap .i64 ((IntKind.wrap .i64 (k1 + 1)) + 1))).2)).1) (Pln.Kids (getD a1 i Pln.zero)))) i Pln.zero)) ((markIntS (Pln.Cols (getD (set a1 i (Pln.mk k1 (IntKind.wrap .i64 (k1 + 1)) ((markExprS (Pln.Exprs (getD a1 i Pln.zero)) (IntKind.wrap .i64 ((IntKind.wrap .i64 (k1 + 1)) + 1))).1) (Pln.Cols (getD a1 i Pln.zero)) (Pln.Kids (getD a1 i Pln.zero)))) i Pln.zero)) ((markExprS (Pln.Exprs (getD (set a1 i (Pln.mk k1 (IntKind.wrap .i64 (k1 + 1)) (Pln.Exprs (getD a1 i Pln.zero)) (Pln.Cols (getD a1 i Pln.zero)) (Pln.Kids (getD a1 i Pln.zero)))) i Pln.zero)) (IntKind.wrap .i64 ((IntKind.wrap .i64 (k1 + 1)) + 1))).2)).2)).2) (i + 1) (set a1 i (Pln.mk k1 (IntKind.wrap .i64 (k1 + 1)) ((markExprS (Pln.Exprs (getD a1 i Pln.zero)) (IntKind.wrap .i64 ((IntKind.wrap .i64 (k1 + 1)) + 1))).1) ((markIntS (Pln.Cols (getD a1 i Pln.zero)) ((markExprS (Pln.Exprs (getD (set a1 i (Pln.mk k1 (IntKind.wrap .i64 (k1 + 1)) (Pln.Exprs (getD a1 i Pln.zero)) (Pln.Cols (getD a1 i Pln.zero)) (Pln.Kids (getD a1 i Pln.zero)))) i Pln.zero)) (IntKind.wrap .i64 ((IntKind.wrap .i64 (k1 + 1)) + 1))).2)).1) ((self (Pln.Kids (getD a1 i Pln.zero)) ((markIntS (Pln.Cols (getD (set a1 i (Pln.mk k1 (IntKind.wrap .i64 (k1 + 1)) ((markExprS (Pln.Exprs (getD a1 i Pln.zero)) (IntKind.wrap .i64 ((IntKind.wrap .i64 (k1 + 1)) + 1))).1) (Pln.Cols (getD a1 i Pln.zero)) (Pln.Kids (getD a1 i Pln.zero)))) i Pln.zero)) ((markExprS (Pln.Exprs (getD (set a1 i (Pln.mk k1 (IntKind.wrap .i64 (k1 + 1)) (Pln.Exprs (getD a1 i Pln.zero)) (Pln.Cols (getD a1 i Pln.zero)) (Pln.Kids (getD a1 i Pln.zero)))) i Pln.zero)) (IntKind.wrap .i64 ((IntKind.wrap .i64 (k1 + 1)) + 1))).2)).2)).1)))) else (k1, a1))

def markPlanS_r : Nat → List Pln → Int → List Pln × Int
 | 0, a, k0 => (a, k0)
 | fuel + 1, a, k0 => (andThen (markPlanS_l0 (markPlanS_r fuel) ((length a) - 0 + 1) k0 0 a) (fun z => (fun (k1 : Int) (a1 : List Pln) => (a1, k1)) z.1 z.2))

def markPlanS (a : List Pln) (k0 : Int) : List Pln × Int := markPlanS_r (SizeOf.sizeOf a + 1) a k0

theorem markPlanS_l0_len (self : List Pln → Int → List Pln × Int) : ∀ (n : Nat) (k : Int) (i : Nat) (a : List Pln), (markPlanS_l0 self n k i a).2.length = a.length := by
 intro n
 induction n with
 | zero => intro k i a; rfl
 | succ n ih =>
  intro k i a; unfold markPlanS_l0
  cases decide ((i : Int) < (length a : Int)) with
  | true => rw [cond_true, ih]; simp only [List.length_set]
  | false => rfl

abbrev wi (k1 : Int) : Int := (IntKind.wrap .i64 (k1 + 1))
abbrev w2 (k1 : Int) : Int := (IntKind.wrap .i64 ((wi k1) + 1))
abbrev x0 (a1 : List Pln) (i : Nat) : Pln := (getD a1 i Pln.zero)
abbrev xE (a1 : List Pln) (i : Nat) : List Xpr := (Pln.Exprs (x0 a1 i))
abbrev xC (a1 : List Pln) (i : Nat) : List Int := (Pln.Cols (x0 a1 i))
abbrev xK (a1 : List Pln) (i : Nat) : List Pln := (Pln.Kids (x0 a1 i))
abbrev z2 (a1 : List Pln) (i : Nat) (k1 : Int) : List Pln := (set a1 i (Pln.mk k1 (wi k1) (xE a1 i) (xC a1 i) (xK a1 i)))
abbrev e2 (a1 : List Pln) (i : Nat) (k1 : Int) : Int := ((markExprS (Pln.Exprs (getD (z2 a1 i k1) i Pln.zero)) (w2 k1)).2)
abbrev z3 (a1 : List Pln) (i : Nat) (k1 : Int) : List Pln := (set a1 i (Pln.mk k1 (wi k1) ((markExprS (xE a1 i) (w2 k1)).1) (xC a1 i) (xK a1 i)))
abbrev z4 (a1 : List Pln) (i : Nat) (k1 : Int) : List Pln := (set a1 i (Pln.mk k1 (wi k1) ((markExprS (xE a1 i) (w2 k1)).1) ((markIntS (xC a1 i) (e2 a1 i k1)).1) (xK a1 i)))
abbrev c2 (a1 : List Pln) (i : Nat) (k1 : Int) : Int := ((markIntS (Pln.Cols (getD (z3 a1 i k1) i Pln.zero)) (e2 a1 i k1)).2)

theorem markPlanS_okn (fuel : Nat) : MarkC Try.prog 82 (.named 2) (fun (a : List Pln) _ => SizeOf.sizeOf a < fuel) (markPlanS_r fuel) := by
 induction fuel with
 | zero => exact ⟨⟨_, _, Try.func82, by kernel_rfl, rfl⟩, fun _ _ => rfl, fun _ _ _ _ _ _ _ h _ => absurd h (Nat.not_lt_zero _)⟩
 | succ fuel ih => ?_
 have hC : CtxOK Try.prog { mkCtx tyL [] with deep := true } := CtxOK.deepen (CtxOK.nil tyOK); refine MarkC.of_body noGlob Try.func82 (by kernel_rfl) rfl (C := { mkCtx tyL [] with deep := true }) hC.ty (by kernel_rfl) (fun a k0 => markPlanS_l0_len (markPlanS_r fuel) _ k0 0 a) ?_; intro (a : List Pln) (k0 : Int) hl hk hpre E; have hl : (length a : Int) ≤ 4294967296 := hl; have hk : -9223372036854775808 ≤ k0 ∧ k0 ≤ 9223372036854775807 := hk; have e0 : markPlanS_r (fuel + 1) a k0 = markPlanS_r (fuel + 1) a k0 := rfl; refine seq ?_
 refine AW.regU hC  true [] [0, 1, 1000] [0]
  [] []
  [] (by kernel_rfl) ?_ ?_
 · exact trivial
 refine seq (seq (r1U hC [0, 1, 5, 1000] [0] [(5, sI 0)] [] ?_)); refine lpB (ζ := Int × (List Pln)) (fun x => ⟨[(1, sI x.1), (1000, .tr 0 1)], [(0, .tree 1 (.named 2) (x.2 : List Pln))]⟩) (fun x => length x.2 = length a) (fun x => x) (α := Int × Nat × (List Pln)) (fun x => ⟨[(0, .tr 0 1), (1, sI x.1), (5, sI ((x.2.1 : Nat) : Int)), (1000, .tr 0 1)], [(0, .tree 1 (.named 2) (x.2.2 : List Pln))]⟩) (fun x => length x.2.2 = length a ∧ ∀ j : Nat, x.2.1 ≤ j → getD x.2.2 j Pln.zero = getD a j Pln.zero) (fun x => (length x.2.2) - x.2.1) (fun k x => markPlanS_l0 (markPlanS_r fuel) k x.1 x.2.1 x.2.2) (k0, 0, a) (by kernel_rfl) ?_ ?_ ?_
 · exact ⟨rfl, fun j _ => rfl⟩
 ·
  intro x k15q hI0 hk13 e14; obtain ⟨k1, i, a1⟩ := x; dsimp only at e14; replace hI0 : length a1 = length a ∧ ∀ j : Nat, i ≤ j → getD a1 j Pln.zero = getD a j Pln.zero := hI0; refine seq (seq ?_)
  refine AW.regU hC  true [] [0, 1, 5, 9, 1000] [0]
   [(9, sB (decide ((i : Int) < (length a1 : Int))))] []
   [] (by kernel_rfl) ?_ ?_
  · exact trivial
  refine cdE e14 ?_ ?_
  ·
   intro h16q e17; refine kpU [0, 1, 5, 1000] [0] [] [] ?_; refine AW.skip (seq (block (seq ?_)))
   refine AW.regU hC  true [] [0, 1, 5, 1000] [0]
    [] [(0, .tree 1 (.named 2) ((set a1 i (Pln.mk k1 (Pln.Table (x0 a1 i)) (xE a1 i) (xC a1 i) (xK a1 i))) : List Pln))]
    [IX (i : Int) (length a1 : Int)] (by kernel_rfl) ?_ ?_
   ·
    exact ⟨IX.of (by omega), trivial⟩
   refine seq ?_
   refine AW.regU hC  true [] [0, 1, 5, 1000] [0]
    [(1, sI (wi k1))] []
    [] (by kernel_rfl) ?_ ?_
   · exact trivial
   refine seq ?_
   refine AW.regU hC  true [] [0, 1, 5, 1000] [0]
    [] [(0, .tree 1 (.named 2) ((set (set a1 i (Pln.mk k1 (Pln.Table (x0 a1 i)) (xE a1 i) (xC a1 i) (xK a1 i))) i (Pln.mk (Pln.Kind (getD (set a1 i (Pln.mk k1 (Pln.Table (x0 a1 i)) (xE a1 i) (xC a1 i) (xK a1 i))) i Pln.zero)) (wi k1) (Pln.Exprs (getD (set a1 i (Pln.mk k1 (Pln.Table (x0 a1 i)) (xE a1 i) (xC a1 i) (xK a1 i))) i Pln.zero)) (Pln.Cols (getD (set a1 i (Pln.mk k1 (Pln.Table (x0 a1 i)) (xE a1 i) (xC a1 i) (xK a1 i))) i Pln.zero)) (Pln.Kids (getD (set a1 i (Pln.mk k1 (Pln.Table (x0 a1 i)) (xE a1 i) (xC a1 i) (xK a1 i))) i Pln.zero)))) : List Pln))]
    [IX (i : Int) (length (set a1 i (Pln.mk k1 (Pln.Table (x0 a1 i)) (xE a1 i) (xC a1 i) (xK a1 i))) : Int)] (by kernel_rfl) ?_ ?_
   ·
    exact ⟨IX.of (by (simp only [lens] at *; omega)), trivial⟩
   refine seq (AW.retree (ys := ((z2 a1 i k1) : List Pln)) (set_twice (fun y : Pln => (Pln.mk (Pln.Kind y) (wi k1) (Pln.Exprs y) (Pln.Cols y) (Pln.Kids y))) (by first | omega | (simp only [List.length_set]; omega))) ?_)
   refine AW.regU hC  true [] [0, 1, 5, 1000] [0]
    [(1, sI (w2 k1))] []
    [] (by kernel_rfl) ?_ ?_
   · exact trivial
   refine seq (AW.regionO [0, 1, 2, 3, 4, 5, 6, 7] (by rfl) ?_)
   refine AWO.runU hC false [] [0, 1, 2, 3] [4, 5, 6, 7] [0, 1, 5, 29, 1000] [0]
    [(29, .tref 0 1 i [2])] []
    [IX (i : Int) (length (z2 a1 i k1) : Int)] (by rfl) (by kernel_rfl) ?_ ?_
   ·
    exact ⟨IX.of (by (simp only [lens] at *; omega)), trivial⟩
   refine AWO.markAt (u := (.named 2)) (id := 0) (ep := 1) (i := i) (p := [2]) (xs := ((z2 a1 i k1) : List Pln)) (ys := ((Pln.Exprs (getD (z2 a1 i k1) i Pln.zero)) : List Xpr)) (k := (w2 k1)) markExprS_ok hC.ty ((Pln.mk (Pln.Kind (getD (z2 a1 i k1) i Pln.zero)) (Pln.Table (getD (z2 a1 i k1) i Pln.zero)) ((markExprS (Pln.Exprs (getD (z2 a1 i k1) i Pln.zero)) (w2 k1)).1) (Pln.Cols (getD (z2 a1 i k1) i Pln.zero)) (Pln.Kids (getD (z2 a1 i k1) i Pln.zero))) : Pln) (by rfl) (by rfl) (by rfl) (by rfl) (by kernel_rfl) (by kernel_rfl) (by kernel_rfl) (by kernel_rfl) (by kernel_rfl) (by kernel_rfl) (by kernel_rfl) (by kernel_rfl) (by kernel_rfl) (by kernel_rfl) ?_ ?_
   · (have hi : i < a1.length := by omega); exact trivial
   refine AWO.keepU [0, 5, 32, 1000] [0] [(32, sI (e2 a1 i k1))] [(0, .tree 1 (.named 2) ((set (z2 a1 i k1) i (Pln.mk (Pln.Kind (getD (z2 a1 i k1) i Pln.zero)) (Pln.Table (getD (z2 a1 i k1) i Pln.zero)) ((markExprS (Pln.Exprs (getD (z2 a1 i k1) i Pln.zero)) (w2 k1)).1) (Pln.Cols (getD (z2 a1 i k1) i Pln.zero)) (Pln.Kids (getD (z2 a1 i k1) i Pln.zero)))) : List Pln))] (by kernel_rfl) ?_
   refine AWO.runU hC false [] [7] [] [0, 1, 5, 1000] [0]
    [(1, sI (e2 a1 i k1))] []
    [] (by rfl) (by kernel_rfl) ?_ ?_
   · exact trivial
   refine AWO.nil ?_; (refine seq (AW.retree (ys := ((z3 a1 i k1) : List Pln)) (set_twice (fun y : Pln => (Pln.mk (Pln.Kind y) (Pln.Table y) ((markExprS (Pln.Exprs y) (w2 k1)).1) (Pln.Cols y) (Pln.Kids y))) (by first | omega | (simp only [List.length_set]; omega))) ?_)); refine AW.regionO [0, 1, 2, 3, 4, 5, 6, 7] (by rfl) ?_
   refine AWO.runU hC false [] [0, 1, 2, 3] [4, 5, 6, 7] [0, 1, 5, 36, 1000] [0]
    [(36, .tref 0 1 i [3])] []
    [IX (i : Int) (length (z3 a1 i k1) : Int)] (by rfl) (by kernel_rfl) ?_ ?_
   ·
    exact ⟨IX.of (by (simp only [lens] at *; omega)), trivial⟩
   refine AWO.markAt (u := (.named 2)) (id := 0) (ep := 1) (i := i) (p := [3]) (xs := ((z3 a1 i k1) : List Pln)) (ys := ((Pln.Cols (getD (z3 a1 i k1) i Pln.zero)) : List Int)) (k := (markExprS (Pln.Exprs (getD (z2 a1 i k1) i Pln.zero)) (w2 k1)).2) markIntS_ok hC.ty ((Pln.mk (Pln.Kind (getD (z3 a1 i k1) i Pln.zero)) (Pln.Table (getD (z3 a1 i k1) i Pln.zero)) (Pln.Exprs (getD (z3 a1 i k1) i Pln.zero)) ((markIntS (Pln.Cols (getD (z3 a1 i k1) i Pln.zero)) (e2 a1 i k1)).1) (Pln.Kids (getD (z3 a1 i k1) i Pln.zero))) : Pln) (by rfl) (by rfl) (by rfl) (by rfl) (by kernel_rfl) (by kernel_rfl) (by kernel_rfl) (by kernel_rfl) (by kernel_rfl) (by kernel_rfl) (by kernel_rfl) (by kernel_rfl) (by kernel_rfl) (by kernel_rfl) ?_ ?_
   · (have hi : i < a1.length := by omega); exact trivial
   refine AWO.keep [0, 5, 39, 1000] [0] ⟨[(0, .tr 0 1), (5, sI (i : Int)), (39, sI (c2 a1 i k1)), (1000, .tr 0 1)], [(0, .tree 1 (.named 2) ((set (z3 a1 i k1) i (Pln.mk (Pln.Kind (getD (z3 a1 i k1) i Pln.zero)) (Pln.Table (getD (z3 a1 i k1) i Pln.zero)) (Pln.Exprs (getD (z3 a1 i k1) i Pln.zero)) ((markIntS (Pln.Cols (getD (z3 a1 i k1) i Pln.zero)) (e2 a1 i k1)).1) (Pln.Kids (getD (z3 a1 i k1) i Pln.zero)))) : List Pln))]⟩ (by kernel_rfl) ?_
   refine AWO.runU hC false [] [7] [] [0, 1, 5, 1000] [0]
    [(1, sI (c2 a1 i k1))] []
    [] (by rfl) (by kernel_rfl) ?_ ?_
   · exact trivial
   refine AWO.nil ?_; (refine AW.retree (ys := ((z4 a1 i k1) : List Pln)) (set_twice (fun y : Pln => (Pln.mk (Pln.Kind y) (Pln.Table y) (Pln.Exprs y) ((markIntS (Pln.Cols y) (e2 a1 i k1)).1) (Pln.Kids y))) (by first | omega | (simp only [List.length_set]; omega))) ?_); refine AW.regionO [0, 1, 2, 3, 4, 5, 6, 7] (by rfl) ?_
   refine AWO.runU hC false [] [0, 1, 2, 3] [4, 5, 6, 7] [0, 1, 5, 43, 1000] [0]
    [(43, .tref 0 1 i [4])] []
    [IX (i : Int) (length (z4 a1 i k1) : Int)] (by rfl) (by kernel_rfl) ?_ ?_
   ·
    exact ⟨IX.of (by (simp only [lens] at *; omega)), trivial⟩
   refine AWO.markAt (u := (.named 2)) (id := 0) (ep := 1) (i := i) (p := [4]) (xs := ((z4 a1 i k1) : List Pln)) (ys := ((Pln.Kids (getD (z4 a1 i k1) i Pln.zero)) : List Pln)) (k := (markIntS (Pln.Cols (getD (z3 a1 i k1) i Pln.zero)) (e2 a1 i k1)).2) ih hC.ty ((Pln.mk (Pln.Kind (getD (z4 a1 i k1) i Pln.zero)) (Pln.Table (getD (z4 a1 i k1) i Pln.zero)) (Pln.Exprs (getD (z4 a1 i k1) i Pln.zero)) (Pln.Cols (getD (z4 a1 i k1) i Pln.zero)) (((markPlanS_r fuel) (Pln.Kids (getD (z4 a1 i k1) i Pln.zero)) (c2 a1 i k1)).1)) : Pln) (by rfl) (by rfl) (by rfl) (by rfl) (by kernel_rfl) (by kernel_rfl) (by kernel_rfl) (by kernel_rfl) (by kernel_rfl) (by kernel_rfl) (by kernel_rfl) (by kernel_rfl) (by kernel_rfl) (by kernel_rfl) ?_ ?_
   · (have hi : i < a1.length := by omega); simp only [lgetD_set_eq, List.length_set, hi, Pln.Kids]; have hi2 := hI0.1; show SizeOf.sizeOf (a1.getD i Pln.zero).Kids < fuel; rw [hI0.2 i (Nat.le_refl _)]; exact Nat.lt_of_lt_of_le (pkids_szL (by omega)) (Nat.le_of_lt_succ hpre)
   refine AWO.keepU [0, 5, 46, 1000] [0] [(46, sI (((markPlanS_r fuel) (Pln.Kids (getD (z4 a1 i k1) i Pln.zero)) (c2 a1 i k1)).2))] [(0, .tree 1 (.named 2) ((set (z4 a1 i k1) i (Pln.mk (Pln.Kind (getD (z4 a1 i k1) i Pln.zero)) (Pln.Table (getD (z4 a1 i k1) i Pln.zero)) (Pln.Exprs (getD (z4 a1 i k1) i Pln.zero)) (Pln.Cols (getD (z4 a1 i k1) i Pln.zero)) (((markPlanS_r fuel) (Pln.Kids (getD (z4 a1 i k1) i Pln.zero)) (c2 a1 i k1)).1))) : List Pln))] (by kernel_rfl) ?_
   refine AWO.runU hC false [] [7] [] [0, 1, 5, 1000] [0]
    [(1, sI (((markPlanS_r fuel) (Pln.Kids (getD (z4 a1 i k1) i Pln.zero)) (c2 a1 i k1)).2))] []
    [] (by rfl) (by kernel_rfl) ?_ ?_
   · exact trivial
   refine AWO.nil ?_; (refine AW.retree (ys := ((set a1 i (Pln.mk k1 (wi k1) ((markExprS (xE a1 i) (w2 k1)).1) ((markIntS (xC a1 i) (e2 a1 i k1)).1) (((markPlanS_r fuel) (xK a1 i) (c2 a1 i k1)).1))) : List Pln)) (set_twice (fun y : Pln => (Pln.mk (Pln.Kind y) (Pln.Table y) (Pln.Exprs y) (Pln.Cols y) (((markPlanS_r fuel) (Pln.Kids y) (c2 a1 i k1)).1))) (by first | omega | (simp only [List.length_set]; omega))) ?_); refine r0U hC [0, 1, 5, 1000] [0] [(5, sI ((i + 1 : Nat) : Int))] [] [R64 ((i + 1 : Nat) : Int)] ?_ ?_
   ·
    exact ⟨R64.of (by omega), trivial⟩
   refine bk (((markPlanS_r fuel) (Pln.Kids (getD (z4 a1 i k1) i Pln.zero)) (c2 a1 i k1)).2, i + 1, (set a1 i (Pln.mk k1 (wi k1) ((markExprS (xE a1 i) (w2 k1)).1) ((markIntS (xC a1 i) (e2 a1 i k1)).1) (((markPlanS_r fuel) (xK a1 i) (c2 a1 i k1)).1)))) e17 hk13 ?_ ?_
   · dsimp only; refine ⟨by simp only [List.length_set]; exact hI0.1, fun j hj => ?_⟩; (repeat rw [lgetD_set_ne (by omega)]); exact hI0.2 j (by omega)
   · simp only [lens]; omega
  · intro h18q e19; refine kpU [1, 1000] [0] [] [] ?_; refine exit ?_; refine meet (k1, a1) (by kernel_rfl) ⟨?_, e19⟩; dsimp only; omega
 ·
  intro x hJ0 e20; obtain ⟨k1, a1⟩ := x; have e21 := e0.trans (then_eq e20); dsimp only at e21; refine seq ?_
  refine AW.regU hC  true [] [4, 1000] [0]
   [(4, sI k1)] []
   [] (by kernel_rfl) ?_ ?_
  · exact trivial
  exact ret (AW.retM (ys := a1) (k := k1) e21 (by kernel_rfl) (by kernel_rfl) (by kernel_rfl))

theorem markPlanS_ok : MarkC Try.prog 82 (.named 2) (fun _ _ => True) markPlanS := MarkC.of_fuel markPlanS_okn (fun (a : List Pln) => SizeOf.sizeOf a)

end
end Go.Proofs.Ytodcdgolcbdkgaa
