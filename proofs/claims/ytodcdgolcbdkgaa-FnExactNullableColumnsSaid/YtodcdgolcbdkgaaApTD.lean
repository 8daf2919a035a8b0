/-
  A part of the proof of this claim (ApTD): what functions of the program compute, and plain facts of that. No conditions.
-/
import Derived.Test.YtodcdgolcbdkgaaApT5
import Derived.Test.YtodcdgolcbdkgaaApT6
import Derived.Test.YtodcdgolcbdkgaaApI
set_option linter.all false
namespace Go.Proofs.Ytodcdgolcbdkgaa
open Go Go.Am
open Go.Am.AW (seq r1U ret kpU cdE r0U meet block bk exit lpB)
open List (length getD set)
noncomputable section

def markIntS_l0 : Nat → Int → Nat → (List Int) → Int × (List Int)
 | 0, k1, i, a1 => (k1, a1)
 | k + 1, k1, i, a1 => (bif (decide ((i : Int) < (length a1 : Int))) then (markIntS_l0 k (IntKind.wrap .i64 (k1 + 1)) (i + 1) (set a1 i k1)) else (k1, a1))

def markIntS (a : List Int) (k0 : Int) : List Int × Int := (andThen (markIntS_l0 ((length a) - 0 + 1) k0 0 a) (fun z => (fun (k1 : Int) (a1 : List Int) => (a1, k1)) z.1 z.2))

theorem markIntS_l0_len : ∀ (n : Nat) (k : Int) (i : Nat) (a : List Int), (markIntS_l0 n k i a).2.length = a.length := by
 intro n
 induction n with
 | zero => intro k i a; rfl
 | succ n ih =>
  intro k i a; unfold markIntS_l0
  cases decide ((i : Int) < (length a : Int)) with
  | true => rw [cond_true, ih]; simp only [List.length_set]
  | false => rfl

theorem markIntS_ok : MarkC Try.prog 37 (.int .i64) (fun _ _ => True) markIntS := by
 have hC : CtxOK Try.prog { mkCtx tyL [] with deep := true } := CtxOK.deepen (CtxOK.nil tyOK); refine MarkC.of_body noGlob Try.func37 (by kernel_rfl) rfl (C := { mkCtx tyL [] with deep := true }) hC.ty (by kernel_rfl) (fun a k0 => by unfold markIntS andThen; exact markIntS_l0_len _ _ _ _) ?_; intro (a : List Int) (k0 : Int) hl hk hpre E; have hl : (length a : Int) ≤ 4294967296 := hl; have hk : -9223372036854775808 ≤ k0 ∧ k0 ≤ 9223372036854775807 := hk; have e0 : markIntS a k0 = markIntS a k0 := rfl; refine seq ?_
 refine AW.regU hC  true [] [0, 1, 1000] [0]
  [] []
  [] (by kernel_rfl) ?_ ?_
 · exact trivial
 refine seq (seq (r1U hC [0, 1, 5, 1000] [0] [(5, sI 0)] [] ?_)); refine lpB (ζ := Int × (List Int)) (fun x => ⟨[(1, sI x.1), (1000, .tr 0 1)], [(0, .tree 1 (.int .i64) (x.2 : List Int))]⟩) (fun x => x.2.length = (length a)) (fun x => x) (α := Int × Nat × (List Int)) (fun x => ⟨[(0, .tr 0 1), (1, sI x.1), (5, sI ((x.2.1 : Nat) : Int)), (1000, .tr 0 1)], [(0, .tree 1 (.int .i64) (x.2.2 : List Int))]⟩) (fun x => x.2.2.length = (length a)) (fun x => (length x.2.2) - x.2.1) (fun k x => markIntS_l0 k x.1 x.2.1 x.2.2) (k0, 0, a) (by kernel_rfl) ?_ ?_ ?_
 · simp
 ·
  intro x k15q hI0 hk13 e14; obtain ⟨k1, i, a1⟩ := x; dsimp only at e14; replace hI0 : a1.length = (length a) := hI0; refine seq (seq ?_)
  refine AW.regU hC  true [] [0, 1, 5, 9, 1000] [0]
   [(9, sB (decide ((i : Int) < (length a1 : Int))))] []
   [] (by kernel_rfl) ?_ ?_
  · exact trivial
  refine cdE e14 ?_ ?_
  ·
   intro h16q e17; refine kpU [0, 1, 5, 1000] [0] [] [] ?_; refine AW.skip (seq (block (seq ?_)))
   refine AW.regU hC  true [] [0, 1, 5, 1000] [0]
    [] [(0, .tree 1 (.int .i64) ((set a1 i k1) : List Int))]
    [IX (i : Int) (length a1 : Int)] (by kernel_rfl) ?_ ?_
   ·
    exact ⟨IX.of (by omega), trivial⟩
   refine AW.regU hC  true [] [0, 1, 5, 1000] [0]
    [(1, sI (IntKind.wrap .i64 (k1 + 1)))] []
    [] (by kernel_rfl) ?_ ?_
   · exact trivial
   refine r0U hC [0, 1, 5, 1000] [0] [(5, sI ((i + 1 : Nat) : Int))] [] [R64 ((i + 1 : Nat) : Int)] ?_ ?_
   ·
    exact ⟨R64.of (by omega), trivial⟩
   refine bk ((IntKind.wrap .i64 (k1 + 1)), i + 1, (set a1 i k1)) e17 hk13 ?_ ?_
   · simp only [lens] at *; omega
   · simp only [lens]; omega
  · intro h18q e19; refine kpU [1, 1000] [0] [] [] ?_; refine exit ?_; refine meet (k1, a1) (by kernel_rfl) ⟨?_, e19⟩; assumption
 ·
  intro x hJ0 e20; obtain ⟨k1, a1⟩ := x; have e21 := e0.trans (then_eq e20); dsimp only at e21; refine seq ?_
  refine AW.regU hC  true [] [4, 1000] [0]
   [(4, sI k1)] []
   [] (by kernel_rfl) ?_ ?_
  · exact trivial
  exact ret (AW.retM (ys := a1) (k := k1) e21 (by kernel_rfl) (by kernel_rfl) (by kernel_rfl))

theorem pkids_szL {a : List Pln} {i : Nat} (hi : i < a.length) : SizeOf.sizeOf (getD a i Pln.zero).Kids < SizeOf.sizeOf a := by
 have h1 := List.sizeOf_lt_of_mem (getD_mem a i Pln.zero hi); generalize getD a i Pln.zero = x at *
 cases x with
 | mk k c e v ks => simp only [Pln.mk.sizeOf_spec, Pln.Kids] at *; omega


def markPlanS_l0 (self : List Pln → Int → List Pln × Int) : Nat → Int → Nat → (List Pln) → Int × (List Pln)
 | 0, k1, i, a1 => (k1, a1)
 | k + 1, k1, i, a1 => (bif (decide ((i : Int) < (length a1 : Int))) then (markPlanS_l0 self k ((self (Pln.Kids (getD (set a1 i (Pln.mk k1 (IntKind.wrap .i64 (k1 + 1)) ((markExprS (Pln.Exprs (getD a1 i Pln.zero)) (IntKind.wrap .i64 ((IntKind.wrap .i64 (k1 + 1)) + 1))).1) ((markIntS (Pln.Cols (getD a1 i Pln.zero)) ((markExprS (Pln.Exprs (getD (set a1 i (Pln.mk k1 (IntKind.wrap .i64 (k1 + 1)) (Pln.Exprs (getD a1 i Pln.zero)) (Pln.Cols (getD a1 i Pln.zero)) (Pln.Kids (getD a1 i Pln.zero)))) i Pln.zero)) (IntKind.wrap .i64 ((IntKind.wrap .i64 (k1 + 1)) + 1))).2)).1) (Pln.Kids (getD a1 i Pln.zero)))) i Pln.zero)) ((markIntS (Pln.Cols (getD (set a1 i (Pln.mk k1 (IntKind.wrap .i64 (k1 + 1)) ((markExprS (Pln.Exprs (getD a1 i Pln.zero)) (IntKind.wrap .i64 ((IntKind.wrap .i64 (k1 + 1)) + 1))).1) (Pln.Cols (getD a1 i Pln.zero)) (Pln.Kids (getD a1 i Pln.zero)))) i Pln.zero)) ((markExprS (Pln.Exprs (getD (set a1 i (Pln.mk k1 (IntKind.wrap .i64 (k1 + 1)) (Pln.Exprs (getD a1 i Pln.zero)) (Pln.Cols (getD a1 i Pln.zero)) (Pln.Kids (getD a1 i Pln.zero)))) i Pln.zero)) (IntKind.wrap .i64 ((IntKind.wrap .i64 (k1 + 1)) + 1))).2)).2)).2) (i + 1) (set a1 i (Pln.mk k1 (IntKind.wrap .i64 (k1 + 1)) ((markExprS (Pln.Exprs (getD a1 i Pln.zero)) (IntKind.wrap .i64 ((IntKind.wrap .i64 (k1 + 1)) + 1))).1) ((markIntS (Pln.Cols (getD a1 i Pln.zero)) ((markExprS (Pln.Exprs (getD (set a1 i (Pln.mk k1 (IntKind.wrap .i64 (k1 + 1)) (Pln.Exprs (getD a1 i Pln.zero)) (Pln.Cols (getD a1 i Pln.zero)) (Pln.Kids (getD a1 i Pln.zero)))) i Pln.zero)) (IntKind.wrap .i64 ((IntKind.wrap .i64 (k1 + 1)) + 1))).2)).1) ((self (Pln.Kids (getD a1 i Pln.zero)) ((markIntS (Pln.Cols (getD (set a1 i (Pln.mk k1 (IntKind.wrap .i64 (k1 + 1)) ((markExprS (Pln.Exprs (getD a1 i Pln.zero)) (IntKind.wrap .i64 ((IntKind.wrap .i64 (k1 + 1)) + 1))).1) (Pln.Cols (getD a1 i Pln.zero)) (Pln.Kids (getD a1 i Pln.zero)))) i Pln.zero)) ((markExprS (Pln.Exprs (getD (set a1 i (Pln.mk k1 (IntKind.wrap .i64 (k1 + 1)) (Pln.Exprs (getD a1 i Pln.zero)) (Pln.Cols (getD a1 i Pln.zero)) (Pln.Kids (getD a1 i Pln.zero)))) i Pln.zero)) (IntKind.wrap .i64 ((IntKind.wrap .i64 (k1 + 1)) + 1))).2)).2)).1)))) else (k1, a1))

def markPlanS_r : Nat → List Pln → Int → List Pln × Int
 | 0, a, k0 => (a, k0)
 | fuel + 1, a, k0 => (andThen (markPlanS_l0 (markPlanS_r fuel) ((length a) - 0 + 1) k0 0 a) (fun z => (fun (k1 : Int) (a1 : List Pln) => (a1, k1)) z.1 z.2))

def markPlanS (a : List Pln) (k0 : Int) : List Pln × Int := markPlanS_r (SizeOf.sizeOf a + 1) a k0

theorem markPlanS_l0_len (self : List Pln → Int → List Pln × Int) : ∀ (n : Nat) (k : Int) (i : Nat) (a : List Pln), (markPlanS_l0 self n k i a).2.length = a.length := by
 intro n
 induction n with
 | zero => intro k i a; rfl
 | succ n ih =>
  intro k i a; unfold markPlanS_l0
  cases decide ((i : Int) < (length a : Int)) with
  | true => rw [cond_true, ih]; simp only [List.length_set]
  | false => rfl

abbrev wi (k1 : Int) : Int := (IntKind.wrap .i64 (k1 + 1))
abbrev w2 (k1 : Int) : Int := (IntKind.wrap .i64 ((wi k1) + 1))
abbrev x0 (a1 : List Pln) (i : Nat) : Pln := (getD a1 i Pln.zero)
abbrev xE (a1 : List Pln) (i : Nat) : List Xpr := (Pln.Exprs (x0 a1 i))
abbrev xC (a1 : List Pln) (i : Nat) : List Int := (Pln.Cols (x0 a1 i))
abbrev xK (a1 : List Pln) (i : Nat) : List Pln := (Pln.Kids (x0 a1 i))
abbrev z2 (a1 : List Pln) (i : Nat) (k1 : Int) : List Pln := (set a1 i (Pln.mk k1 (wi k1) (xE a1 i) (xC a1 i) (xK a1 i)))
abbrev e2 (a1 : List Pln) (i : Nat) (k1 : Int) : Int := ((markExprS (Pln.Exprs (getD (z2 a1 i k1) i Pln.zero)) (w2 k1)).2)
abbrev z3 (a1 : List Pln) (i : Nat) (k1 : Int) : List Pln := (set a1 i (Pln.mk k1 (wi k1) ((markExprS (xE a1 i) (w2 k1)).1) (xC a1 i) (xK a1 i)))
abbrev z4 (a1 : List Pln) (i : Nat) (k1 : Int) : List Pln := (set a1 i (Pln.mk k1 (wi k1) ((markExprS (xE a1 i) (w2 k1)).1) ((markIntS (xC a1 i) (e2 a1 i k1)).1) (xK a1 i)))
abbrev c2 (a1 : List Pln) (i : Nat) (k1 : Int) : Int := ((markIntS (Pln.Cols (getD (z3 a1 i k1) i Pln.zero)) (e2 a1 i k1)).2)

theorem markPlanS_okn (fuel : Nat) : MarkC Try.prog 82 (.named 2) (fun (a : List Pln) _ => SizeOf.sizeOf a < fuel) (markPlanS_r fuel) := by
 induction fuel with
 | zero => exact ⟨⟨_, _, Try.func82, by kernel_rfl, rfl⟩, fun _ _ => rfl, fun _ _ _ _ _ _ _ h _ => absurd h (Nat.not_lt_zero _)⟩
 | succ fuel ih => ?_
 have hC : CtxOK Try.prog { mkCtx tyL [] with deep := true } := CtxOK.deepen (CtxOK.nil tyOK); refine MarkC.of_body noGlob Try.func82 (by kernel_rfl) rfl (C := { mkCtx tyL [] with deep := true }) hC.ty (by kernel_rfl) (fun a k0 => markPlanS_l0_len (markPlanS_r fuel) _ k0 0 a) ?_; intro (a : List Pln) (k0 : Int) hl hk hpre E; have hl : (length a : Int) ≤ 4294967296 := hl; have hk : -9223372036854775808 ≤ k0 ∧ k0 ≤ 9223372036854775807 := hk; have e0 : markPlanS_r (fuel + 1) a k0 = markPlanS_r (fuel + 1) a k0 := rfl; refine seq ?_
 refine AW.regU hC  true [] [0, 1, 1000] [0]
  [] []
  [] (by kernel_rfl) ?_ ?_
 · exact trivial
 refine seq (seq (r1U hC [0, 1, 5, 1000] [0] [(5, sI 0)] [] ?_)); refine lpB (ζ := Int × (List Pln)) (fun x => ⟨[(1, sI x.1), (1000, .tr 0 1)], [(0, .tree 1 (.named 2) (x.2 : List Pln))]⟩) (fun x => length x.2 = length a) (fun x => x) (α := Int × Nat × (List Pln)) (fun x => ⟨[(0, .tr 0 1), (1, sI x.1), (5, sI ((x.2.1 : Nat) : Int)), (1000, .tr 0 1)], [(0, .tree 1 (.named 2) (x.2.2 : List Pln))]⟩) (fun x => length x.2.2 = length a ∧ ∀ j : Nat, x.2.1 ≤ j → getD x.2.2 j Pln.zero = getD a j Pln.zero) (fun x => (length x.2.2) - x.2.1) (fun k x => markPlanS_l0 (markPlanS_r fuel) k x.1 x.2.1 x.2.2) (k0, 0, a) (by kernel_rfl) ?_ ?_ ?_
 · exact ⟨rfl, fun j _ => rfl⟩
 ·
  intro x k15q hI0 hk13 e14; obtain ⟨k1, i, a1⟩ := x; dsimp only at e14; replace hI0 : length a1 = length a ∧ ∀ j : Nat, i ≤ j → getD a1 j Pln.zero = getD a j Pln.zero := hI0; refine seq (seq ?_)
  refine AW.regU hC  true [] [0, 1, 5, 9, 1000] [0]
   [(9, sB (decide ((i : Int) < (length a1 : Int))))] []
   [] (by kernel_rfl) ?_ ?_
  · exact trivial
  refine cdE e14 ?_ ?_
  ·
   intro h16q e17; refine kpU [0, 1, 5, 1000] [0] [] [] ?_; refine AW.skip (seq (block (seq ?_)))
   refine AW.regU hC  true [] [0, 1, 5, 1000] [0]
    [] [(0, .tree 1 (.named 2) ((set a1 i (Pln.mk k1 (Pln.Table (x0 a1 i)) (xE a1 i) (xC a1 i) (xK a1 i))) : List Pln))]
    [IX (i : Int) (length a1 : Int)] (by kernel_rfl) ?_ ?_
   ·
    exact ⟨IX.of (by omega), trivial⟩
   refine seq ?_
   refine AW.regU hC  true [] [0, 1, 5, 1000] [0]
    [(1, sI (wi k1))] []
    [] (by kernel_rfl) ?_ ?_
   · exact trivial
   refine seq ?_
   refine AW.regU hC  true [] [0, 1, 5, 1000] [0]
    [] [(0, .tree 1 (.named 2) ((set (set a1 i (Pln.mk k1 (Pln.Table (x0 a1 i)) (xE a1 i) (xC a1 i) (xK a1 i))) i (Pln.mk (Pln.Kind (getD (set a1 i (Pln.mk k1 (Pln.Table (x0 a1 i)) (xE a1 i) (xC a1 i) (xK a1 i))) i Pln.zero)) (wi k1) (Pln.Exprs (getD (set a1 i (Pln.mk k1 (Pln.Table (x0 a1 i)) (xE a1 i) (xC a1 i) (xK a1 i))) i Pln.zero)) (Pln.Cols (getD (set a1 i (Pln.mk k1 (Pln.Table (x0 a1 i)) (xE a1 i) (xC a1 i) (xK a1 i))) i Pln.zero)) (Pln.Kids (getD (set a1 i (Pln.mk k1 (Pln.Table (x0 a1 i)) (xE a1 i) (xC a1 i) (xK a1 i))) i Pln.zero)))) : List Pln))]
    [IX (i : Int) (length (set a1 i (Pln.mk k1 (Pln.Table (x0 a1 i)) (xE a1 i) (xC a1 i) (xK a1 i))) : Int)] (by kernel_rfl) ?_ ?_
   ·
    exact ⟨IX.of (by (simp only [lens] at *; omega)), trivial⟩
   refine seq (AW.retree (ys := ((z2 a1 i k1) : List Pln)) (set_twice (fun y : Pln => (Pln.mk (Pln.Kind y) (wi k1) (Pln.Exprs y) (Pln.Cols y) (Pln.Kids y))) (by first | omega | (simp only [List.length_set]; omega))) ?_)
   refine AW.regU hC  true [] [0, 1, 5, 1000] [0]
    [(1, sI (w2 k1))] []
    [] (by kernel_rfl) ?_ ?_
   · exact trivial
   refine seq (AW.regionO [0, 1, 2, 3, 4, 5, 6, 7] (by rfl) ?_)
   refine AWO.runU hC false [] [0, 1, 2, 3] [4, 5, 6, 7] [0, 1, 5, 29, 1000] [0]
    [(29, .tref 0 1 i [2])] []
    [IX (i : Int) (length (z2 a1 i k1) : Int)] (by rfl) (by kernel_rfl) ?_ ?_
   ·
    exact ⟨IX.of (by (simp only [lens] at *; omega)), trivial⟩
   refine AWO.markAt (u := (.named 2)) (id := 0) (ep := 1) (i := i) (p := [2]) (xs := ((z2 a1 i k1) : List Pln)) (ys := ((Pln.Exprs (getD (z2 a1 i k1) i Pln.zero)) : List Xpr)) (k := (w2 k1)) markExprS_ok hC.ty ((Pln.mk (Pln.Kind (getD (z2 a1 i k1) i Pln.zero)) (Pln.Table (getD (z2 a1 i k1) i Pln.zero)) ((markExprS (Pln.Exprs (getD (z2 a1 i k1) i Pln.zero)) (w2 k1)).1) (Pln.Cols (getD (z2 a1 i k1) i Pln.zero)) (Pln.Kids (getD (z2 a1 i k1) i Pln.zero))) : Pln) (by rfl) (by rfl) (by rfl) (by rfl) (by kernel_rfl) (by kernel_rfl) (by kernel_rfl) (by kernel_rfl) (by kernel_rfl) (by kernel_rfl) (by kernel_rfl) (by kernel_rfl) (by kernel_rfl) (by kernel_rfl) ?_ ?_
   · (have hi : i < a1.length := by omega); exact trivial
   refine AWO.keepU [0, 5, 32, 1000] [0] [(32, sI (e2 a1 i k1))] [(0, .tree 1 (.named 2) ((set (z2 a1 i k1) i (Pln.mk (Pln.Kind (getD (z2 a1 i k1) i Pln.zero)) (Pln.Table (getD (z2 a1 i k1) i Pln.zero)) ((markExprS (Pln.Exprs (getD (z2 a1 i k1) i Pln.zero)) (w2 k1)).1) (Pln.Cols (getD (z2 a1 i k1) i Pln.zero)) (Pln.Kids (getD (z2 a1 i k1) i Pln.zero)))) : List Pln))] (by kernel_rfl) ?_
   refine AWO.runU hC false [] [7] [] [0, 1, 5, 1000] [0]
    [(1, sI (e2 a1 i k1))] []
    [] (by rfl) (by kernel_rfl) ?_ ?_
   · exact trivial
   refine AWO.nil ?_; (refine seq (AW.retree (ys := ((z3 a1 i k1) : List Pln)) (set_twice (fun y : Pln => (Pln.mk (Pln.Kind y) (Pln.Table y) ((markExprS (Pln.Exprs y) (w2 k1)).1) (Pln.Cols y) (Pln.Kids y))) (by first | omega | (simp only [List.length_set]; omega))) ?_)); refine AW.regionO [0, 1, 2, 3, 4, 5, 6, 7] (by rfl) ?_
   refine AWO.runU hC false [] [0, 1, 2, 3] [4, 5, 6, 7] [0, 1, 5, 36, 1000] [0]
    [(36, .tref 0 1 i [3])] []
    [IX (i : Int) (length (z3 a1 i k1) : Int)] (by rfl) (by kernel_rfl) ?_ ?_
   ·
    exact ⟨IX.of (by (simp only [lens] at *; omega)), trivial⟩
   refine AWO.markAt (u := (.named 2)) (id := 0) (ep := 1) (i := i) (p := [3]) (xs := ((z3 a1 i k1) : List Pln)) (ys := ((Pln.Cols (getD (z3 a1 i k1) i Pln.zero)) : List Int)) (k := (markExprS (Pln.Exprs (getD (z2 a1 i k1) i Pln.zero)) (w2 k1)).2) markIntS_ok hC.ty ((Pln.mk (Pln.Kind (getD (z3 a1 i k1) i Pln.zero)) (Pln.Table (getD (z3 a1 i k1) i Pln.zero)) (Pln.Exprs (getD (z3 a1 i k1) i Pln.zero)) ((markIntS (Pln.Cols (getD (z3 a1 i k1) i Pln.zero)) (e2 a1 i k1)).1) (Pln.Kids (getD (z3 a1 i k1) i Pln.zero))) : Pln) (by rfl) (by rfl) (by rfl) (by rfl) (by kernel_rfl) (by kernel_rfl) (by kernel_rfl) (by kernel_rfl) (by kernel_rfl) (by kernel_rfl) (by kernel_rfl) (by kernel_rfl) (by kernel_rfl) (by kernel_rfl) ?_ ?_
   · (have hi : i < a1.length := by omega); exact trivial
   refine AWO.keep [0, 5, 39, 1000] [0] ⟨[(0, .tr 0 1), (5, sI (i : Int)), (39, sI (c2 a1 i k1)), (1000, .tr 0 1)], [(0, .tree 1 (.named 2) ((set (z3 a1 i k1) i (Pln.mk (Pln.Kind (getD (z3 a1 i k1) i Pln.zero)) (Pln.Table (getD (z3 a1 i k1) i Pln.zero)) (Pln.Exprs (getD (z3 a1 i k1) i Pln.zero)) ((markIntS (Pln.Cols (getD (z3 a1 i k1) i Pln.zero)) (e2 a1 i k1)).1) (Pln.Kids (getD (z3 a1 i k1) i Pln.zero)))) : List Pln))]⟩ (by kernel_rfl) ?_
   refine AWO.runU hC false [] [7] [] [0, 1, 5, 1000] [0]
    [(1, sI (c2 a1 i k1))] []
    [] (by rfl) (by kernel_rfl) ?_ ?_
   · exact trivial
   refine AWO.nil ?_; (refine AW.retree (ys := ((z4 a1 i k1) : List Pln)) (set_twice (fun y : Pln => (Pln.mk (Pln.Kind y) (Pln.Table y) (Pln.Exprs y) ((markIntS (Pln.Cols y) (e2 a1 i k1)).1) (Pln.Kids y))) (by first | omega | (simp only [List.length_set]; omega))) ?_); refine AW.regionO [0, 1, 2, 3, 4, 5, 6, 7] (by rfl) ?_
   refine AWO.runU hC false [] [0, 1, 2, 3] [4, 5, 6, 7] [0, 1, 5, 43, 1000] [0]
    [(43, .tref 0 1 i [4])] []
    [IX (i : Int) (length (z4 a1 i k1) : Int)] (by rfl) (by kernel_rfl) ?_ ?_
   ·
    exact ⟨IX.of (by (simp only [lens] at *; omega)), trivial⟩
   refine AWO.markAt (u := (.named 2)) (id := 0) (ep := 1) (i := i) (p := [4]) (xs := ((z4 a1 i k1) : List Pln)) (ys := ((Pln.Kids (getD (z4 a1 i k1) i Pln.zero)) : List Pln)) (k := (markIntS (Pln.Cols (getD (z3 a1 i k1) i Pln.zero)) (e2 a1 i k1)).2) ih hC.ty ((Pln.mk (Pln.Kind (getD (z4 a1 i k1) i Pln.zero)) (Pln.Table (getD (z4 a1 i k1) i Pln.zero)) (Pln.Exprs (getD (z4 a1 i k1) i Pln.zero)) (Pln.Cols (getD (z4 a1 i k1) i Pln.zero)) (((markPlanS_r fuel) (Pln.Kids (getD (z4 a1 i k1) i Pln.zero)) (c2 a1 i k1)).1)) : Pln) (by rfl) (by rfl) (by rfl) (by rfl) (by kernel_rfl) (by kernel_rfl) (by kernel_rfl) (by kernel_rfl) (by kernel_rfl) (by kernel_rfl) (by kernel_rfl) (by kernel_rfl) (by kernel_rfl) (by kernel_rfl) ?_ ?_
   · (have hi : i < a1.length := by omega); simp only [lgetD_set_eq, List.length_set, hi, Pln.Kids]; have hi2 := hI0.1; show SizeOf.sizeOf (a1.getD i Pln.zero).Kids < fuel; rw [hI0.2 i (Nat.le_refl _)]; exact Nat.lt_of_lt_of_le (pkids_szL (by omega)) (Nat.le_of_lt_succ hpre)
   refine AWO.keepU [0, 5, 46, 1000] [0] [(46, sI (((markPlanS_r fuel) (Pln.Kids (getD (z4 a1 i k1) i Pln.zero)) (c2 a1 i k1)).2))] [(0, .tree 1 (.named 2) ((set (z4 a1 i k1) i (Pln.mk (Pln.Kind (getD (z4 a1 i k1) i Pln.zero)) (Pln.Table (getD (z4 a1 i k1) i Pln.zero)) (Pln.Exprs (getD (z4 a1 i k1) i Pln.zero)) (Pln.Cols (getD (z4 a1 i k1) i Pln.zero)) (((markPlanS_r fuel) (Pln.Kids (getD (z4 a1 i k1) i Pln.zero)) (c2 a1 i k1)).1))) : List Pln))] (by kernel_rfl) ?_
   refine AWO.runU hC false [] [7] [] [0, 1, 5, 1000] [0]
    [(1, sI (((markPlanS_r fuel) (Pln.Kids (getD (z4 a1 i k1) i Pln.zero)) (c2 a1 i k1)).2))] []
    [] (by rfl) (by kernel_rfl) ?_ ?_
   · exact trivial
   refine AWO.nil ?_; (refine AW.retree (ys := ((set a1 i (Pln.mk k1 (wi k1) ((markExprS (xE a1 i) (w2 k1)).1) ((markIntS (xC a1 i) (e2 a1 i k1)).1) (((markPlanS_r fuel) (xK a1 i) (c2 a1 i k1)).1))) : List Pln)) (set_twice (fun y : Pln => (Pln.mk (Pln.Kind y) (Pln.Table y) (Pln.Exprs y) (Pln.Cols y) (((markPlanS_r fuel) (Pln.Kids y) (c2 a1 i k1)).1))) (by first | omega | (simp only [List.length_set]; omega))) ?_); refine r0U hC [0, 1, 5, 1000] [0] [(5, sI ((i + 1 : Nat) : Int))] [] [R64 ((i + 1 : Nat) : Int)] ?_ ?_
   ·
    exact ⟨R64.of (by omega), trivial⟩
   refine bk (((markPlanS_r fuel) (Pln.Kids (getD (z4 a1 i k1) i Pln.zero)) (c2 a1 i k1)).2, i + 1, (set a1 i (Pln.mk k1 (wi k1) ((markExprS (xE a1 i) (w2 k1)).1) ((markIntS (xC a1 i) (e2 a1 i k1)).1) (((markPlanS_r fuel) (xK a1 i) (c2 a1 i k1)).1)))) e17 hk13 ?_ ?_
   · dsimp only; refine ⟨by simp only [List.length_set]; exact hI0.1, fun j hj => ?_⟩; (repeat rw [lgetD_set_ne (by omega)]); exact hI0.2 j (by omega)
   · simp only [lens]; omega
  · intro h18q e19; refine kpU [1, 1000] [0] [] [] ?_; refine exit ?_; refine meet (k1, a1) (by kernel_rfl) ⟨?_, e19⟩; dsimp only; omega
 ·
  intro x hJ0 e20; obtain ⟨k1, a1⟩ := x; have e21 := e0.trans (then_eq e20); dsimp only at e21; refine seq ?_
  refine AW.regU hC  true [] [4, 1000] [0]
   [(4, sI k1)] []
   [] (by kernel_rfl) ?_ ?_
  · exact trivial
  exact ret (AW.retM (ys := a1) (k := k1) e21 (by kernel_rfl) (by kernel_rfl) (by kernel_rfl))

theorem markPlanS_ok : MarkC Try.prog 82 (.named 2) (fun _ _ => True) markPlanS := MarkC.of_fuel markPlanS_okn (fun (a : List Pln) => SizeOf.sizeOf a)

end
end Go.Proofs.Ytodcdgolcbdkgaa


namespace Go.Proofs.Ytodcdgolcbdkgaa
open Go Go.Am
open Go.Am.AW (seq r1U ret kpU cdE r0U r1 meet block rS bk exit lpB)
open List (length getD set replicate)
noncomputable section

def toExprSD_l0 (a : List Xpr) : Nat → Nat → (List Xpr) → (List Xpr)
 | 0, i, out => out
 | k + 1, i, out => (bif (decide ((i : Int) < (length a : Int))) then (toExprSD_l0 a k (i + 1) (set out i (Xpr.mk (Xpr.Kind (toExprD (getD a i Xpr.zero))) (Xpr.Col (toExprD (getD a i Xpr.zero))) (Xpr.V (toExprD (getD a i Xpr.zero))) (Xpr.Kids (toExprD (getD a i Xpr.zero)))))) else out)

def toExprSD (a : List Xpr) : (List Xpr) := (andThen (toExprSD_l0 a ((length a) - 0 + 1) 0 (replicate (length a) Xpr.zero : List Xpr)) (fun z => (fun (out : List Xpr) => out) z))

def toExprSD_sp : FnSpec := mkSpec [.val (.slice (.named 1))] [.deep (.slice (.named 1))] (fun (a : List Xpr) => FitS a) (fun (a : List Xpr) => [⟨(.slice (.named 1)), (toExprSD a)⟩])

theorem toExprSD_ok : FnOK Try.prog 71 toExprSD_sp := by
 have hC : CtxOK Try.prog { (mkCtx tyL [(57, toExprD_sp)]) with deep := true } := CtxOK.deepen (CtxOK.cons toExprD_ok (CtxOK.nil tyOK)); refine FnOK.of_body Try.func71 (by kernel_rfl) rfl (C := { (mkCtx tyL [(57, toExprD_sp)]) with deep := true }) hC.ty (by kernel_rfl) ?_; intro (a : List Xpr) hwf hpre E; have hpre : FitS a := hpre; have e0 : toExprSD a = toExprSD a := rfl; refine seq (r1U hC [0] [] [] [] ?_); refine seq (r0U hC [0, 3] [28] [(3, .tr 28 1)] [(28, .tree 1 (.named 1) ((replicate (length a) Xpr.zero : List Xpr) : List Xpr))] [(0 ≤ (length a : Int) ∧ (length a : Int) ≤ (length a : Int) ∧ (length a : Int) ≤ 4294967296)] ?_ ?_)
 ·
  exact ⟨(by have := hpre.len; omega), trivial⟩
 refine seq (seq (r1U hC [0, 3, 4] [28] [(4, sI 0)] [] ?_)); refine lpB (ζ := (List Xpr)) (fun x => ⟨[(3, .tr 28 1)], [(28, .tree 1 (.named 1) (x : List Xpr))]⟩) (fun x => length x = length a) (fun x => x) (α := Nat × (List Xpr)) (fun x => ⟨[(0, sD9 a), (3, .tr 28 1), (4, sI ((x.1 : Nat) : Int))], [(28, .tree 1 (.named 1) (x.2 : List Xpr))]⟩) (fun x => length x.2 = length a) (fun x => (length a) - x.1) (fun k x => toExprSD_l0 a k x.1 x.2) (0, (replicate (length a) Xpr.zero : List Xpr)) (by kernel_rfl) ?_ ?_ ?_
 · simp
 ·
  intro x k15q hI0 hk13 e14; obtain ⟨i, out⟩ := x; replace hI0 : length out = length a := hI0; refine seq (seq (r1U hC [0, 3, 4, 11] [28] [(11, sB (decide ((i : Int) < (length a : Int))))] [] ?_)); refine cdE e14 ?_ ?_
  ·
   intro h16q e17; refine kpU [0, 3, 4] [28] [] [] ?_; refine AW.skip (seq (block (r0U hC [0, 3, 4] [28] [] [(28, .tree 1 (.named 1) ((set out i (Xpr.mk (Xpr.Kind (toExprD (getD a i Xpr.zero))) (Xpr.Col (toExprD (getD a i Xpr.zero))) (Xpr.V (toExprD (getD a i Xpr.zero))) (Xpr.Kids (toExprD (getD a i Xpr.zero))))) : List Xpr))] [IX (i : Int) (length a : Int), (Fits (getD a i Xpr.zero)), IX (i : Int) (length out : Int)] ?_ ?_)))
   ·
    exact ⟨IX.of (by have := hpre.len; omega), (hpre.el _ (by omega)), IX.of (by have := hpre.len; omega), trivial⟩
   refine r0U hC [0, 3, 4] [28] [(4, sI ((i + 1 : Nat) : Int))] [] [R64 ((i + 1 : Nat) : Int)] ?_ ?_
   ·
    exact ⟨R64.of (by have := hpre.len; omega), trivial⟩
   refine bk (i + 1, (set out i (Xpr.mk (Xpr.Kind (toExprD (getD a i Xpr.zero))) (Xpr.Col (toExprD (getD a i Xpr.zero))) (Xpr.V (toExprD (getD a i Xpr.zero))) (Xpr.Kids (toExprD (getD a i Xpr.zero)))))) e17 hk13 ?_ ?_
   · simp only [lens] at *; omega
   · omega
  · intro h18q e19; refine kpU [3] [28] [] [] ?_; refine exit ?_; refine meet out (by kernel_rfl) ⟨?_, e19⟩; assumption
 · intro out hJ0 e20; have e21 := e0.trans (then_eq e20); refine seq (r1U hC [2] [28] [(2, .tr 28 1)] [] ?_); exact ret (rS (.slice (.named 1)) e21)

def toPlanD_l0 (self : Pln → Pln) (a : Pln) : Nat → Nat → (List Pln) → (List Pln)
 | 0, i, out => out
 | k + 1, i, out => (bif (decide ((i : Int) < (length (Pln.Kids a) : Int))) then (toPlanD_l0 self a k (i + 1) (set out i (Pln.mk (Pln.Kind (self (getD (Pln.Kids a) i Pln.zero))) (Pln.Table (self (getD (Pln.Kids a) i Pln.zero))) (Pln.Exprs (self (getD (Pln.Kids a) i Pln.zero))) (Pln.Cols (self (getD (Pln.Kids a) i Pln.zero))) (Pln.Kids (self (getD (Pln.Kids a) i Pln.zero)))))) else out)

def toPlanD_r : Nat → Pln → Pln
 | 0, a => Pln.zero
 | fuel + 1, a => (andThen (toPlanD_l0 (toPlanD_r fuel) a ((length (Pln.Kids a)) - 0 + 1) 0 (replicate (length (Pln.Kids a)) Pln.zero : List Pln)) (fun z => (fun (out : List Pln) => (Pln.mk (Pln.Kind a) (Pln.Table a) (toExprSD (Pln.Exprs a)) (toIntS (Pln.Cols a)) out)) z))

def toPlanD (a : Pln) : Pln := toPlanD_r (SizeOf.sizeOf a + 1) a

def toPlanD_spn (fuel : Nat) : FnSpec := mkSpec [.val (.named 2)] [.deep (.named 2)] (fun (a : Pln) => (FitsP a) ∧ SizeOf.sizeOf a < fuel) (fun (a : Pln) => [⟨(.named 2), (toPlanD_r fuel a)⟩])

def toPlanD_sp : FnSpec := mkSpec [.val (.named 2)] [.deep (.named 2)] (fun (a : Pln) => FitsP a) (fun (a : Pln) => [⟨(.named 2), (toPlanD a)⟩])

theorem toPlanD_okn (fuel : Nat) : FnOK Try.prog 18 (toPlanD_spn fuel) := by
 induction fuel with
 | zero => exact FnOK.never Try.func18 (by kernel_rfl) rfl (fun _ h => absurd h.2 (Nat.not_lt_zero _))
 | succ fuel ih => ?_
 have hC : CtxOK Try.prog { (mkCtx tyL [(18, (toPlanD_spn fuel)), (30, toIntS_sp), (71, toExprSD_sp)]) with deep := true } := CtxOK.deepen (CtxOK.cons ih (CtxOK.cons toIntS_ok (CtxOK.cons toExprSD_ok (CtxOK.nil tyOK)))); have hC1 := hC.rebase 1000; refine FnOK.of_body Try.func18 (by kernel_rfl) rfl (C := { (mkCtx tyL [(18, (toPlanD_spn fuel)), (30, toIntS_sp), (71, toExprSD_sp)]) with deep := true }) hC.ty (by kernel_rfl) ?_; intro (a : Pln) hwf hpre E; have hpre : (FitsP a) ∧ SizeOf.sizeOf a < fuel + 1 := hpre; have hw_a : Wf ⟨(.named 2), (a : Pln)⟩ := hwf _ (List.Mem.head _); obtain ⟨hr_a_Kind, hr_a_Table, hl_a_Exprs, hl_a_Cols, hl_a_Kids⟩ := Pln.wfl hw_a; have e0 : toPlanD_r (fuel + 1) a = toPlanD_r (fuel + 1) a := rfl; refine seq (r1 hC [1, 2] [4, 8] ⟨[(1, .ref 4 1 0), (2, .ref 8 1 0)], [(4, .box 1 [sI (Pln.Kind a), sI (Pln.Table a), sD9 (Pln.Exprs a), sD7 (Pln.Cols a), sD10 (Pln.Kids a)]), (8, .box 1 [sI 0, sI 0, .nilsl, .nilsl, .nilsl])]⟩ ?_); refine seq (r1U hC [1, 2, 3] [4, 8, 12] [(3, .ref 12 1 0)] [(12, .box 1 [sI 0, sI 0, .nilsl, .nilsl, .nilsl])] ?_); refine seq (r1U hC [1, 2, 3] [4, 8, 12] [] [(12, .box 1 [sI (Pln.Kind a), sI 0, .nilsl, .nilsl, .nilsl])] ?_); refine seq (r1U hC [1, 2, 3] [4, 8, 12] [] [(12, .box 1 [sI (Pln.Kind a), sI (Pln.Table a), .nilsl, .nilsl, .nilsl])] ?_); refine seq (r0U hC [1, 2, 3] [4, 8, 12, 48] [] [(12, .box 1 [sI (Pln.Kind a), sI (Pln.Table a), .tr 48 1, .nilsl, .nilsl]), (48, .tree 1 (.named 1) ((toExprSD (Pln.Exprs a)) : List Xpr))] [(FitS (Pln.Exprs a))] ?_ ?_)
 ·
  exact ⟨hpre.1.parts.exprs, trivial⟩
 refine seq (r0U hC [1, 2, 3] [4, 8, 12, 48, 64] [] [(12, .box 1 [sI (Pln.Kind a), sI (Pln.Table a), .tr 48 1, .arr 64 1, .nilsl]), (64, .arr 1 (.int .i64) ((toIntS (Pln.Cols a)) : List Int))] [((length (Pln.Cols a) : Int) ≤ 1048576)] ?_ ?_)
 ·
  exact ⟨hpre.1.parts.cols, trivial⟩
 refine seq (AW.regionO [0, 1, 2, 3, 4] (by rfl) ?_)
 refine AWO.runU hC false [] [0, 1] [2, 3, 4] [2, 3, 19] [8, 12, 48, 64]
  [(19, sD10 (Pln.Kids a))] []
  [] (by rfl) (by kernel_rfl) ?_ ?_
 · exact trivial
 refine AWO.call hC.ty (vs := [sD10 (Pln.Kids a)]) (caps := []) (by rfl) rfl (.inl rfl) (by decide) (by kernel_rfl) (by kernel_rfl) Try.func25 (by kernel_rfl) rfl (by kernel_rfl) ?_; intro o1 ho1; refine kpU [0, 1002, 1003] [8, 12, 48, 64] [] [] ?_; refine seq (r1U hC1 [0, 1002, 1003] [8, 12, 48, 64] [] [] ?_); refine seq (r0U hC1 [0, 3, 1002, 1003] [8, 12, 48, 64, 4028] [(3, .tr 4028 1)] [(4028, .tree 1 (.named 2) ((replicate (length (Pln.Kids a)) Pln.zero : List Pln) : List Pln))] [(0 ≤ (length (Pln.Kids a) : Int) ∧ (length (Pln.Kids a) : Int) ≤ (length (Pln.Kids a) : Int) ∧ (length (Pln.Kids a) : Int) ≤ 4294967296)] ?_ ?_)
 ·
  exact ⟨(by have := hpre.1.parts.kids; omega), trivial⟩
 refine seq (seq (r1U hC1 [0, 3, 4, 1002, 1003] [8, 12, 48, 64, 4028] [(4, sI 0)] [] ?_)); refine lpB (ζ := (List Pln)) (fun x => ⟨[(3, .tr 4028 1), (1002, .ref 8 1 0), (1003, .ref 12 1 0)], [(8, .box 1 [sI 0, sI 0, .nilsl, .nilsl, .nilsl]), (12, .box 1 [sI (Pln.Kind a), sI (Pln.Table a), .tr 48 1, .arr 64 1, .nilsl]), (48, .tree 1 (.named 1) ((toExprSD (Pln.Exprs a)) : List Xpr)), (64, .arr 1 (.int .i64) ((toIntS (Pln.Cols a)) : List Int)), (4028, .tree 1 (.named 2) (x : List Pln))]⟩) (fun x => length x = length (Pln.Kids a)) (fun x => x) (α := Nat × (List Pln)) (fun x => ⟨[(0, sD10 (Pln.Kids a)), (3, .tr 4028 1), (4, sI ((x.1 : Nat) : Int)), (1002, .ref 8 1 0), (1003, .ref 12 1 0)], [(8, .box 1 [sI 0, sI 0, .nilsl, .nilsl, .nilsl]), (12, .box 1 [sI (Pln.Kind a), sI (Pln.Table a), .tr 48 1, .arr 64 1, .nilsl]), (48, .tree 1 (.named 1) ((toExprSD (Pln.Exprs a)) : List Xpr)), (64, .arr 1 (.int .i64) ((toIntS (Pln.Cols a)) : List Int)), (4028, .tree 1 (.named 2) (x.2 : List Pln))]⟩) (fun x => length x.2 = length (Pln.Kids a)) (fun x => (length (Pln.Kids a)) - x.1) (fun k x => toPlanD_l0 (toPlanD_r fuel) a k x.1 x.2) (0, (replicate (length (Pln.Kids a)) Pln.zero : List Pln)) (by kernel_rfl) ?_ ?_ ?_
 · simp
 ·
  intro x k20q hI0 hk18 e19; obtain ⟨i, out⟩ := x; replace hI0 : length out = length (Pln.Kids a) := hI0; have hF := hpre.1.parts; refine seq (seq (r1U hC1 [0, 3, 4, 11, 1002, 1003] [8, 12, 48, 64, 4028] [(11, sB (decide ((i : Int) < (length (Pln.Kids a) : Int))))] [] ?_)); refine cdE e19 ?_ ?_
  ·
   intro h21q e22; refine kpU [0, 3, 4, 1002, 1003] [8, 12, 48, 64, 4028] [] [] ?_; refine AW.skip (seq (block (r0U hC1 [0, 3, 4, 1002, 1003] [8, 12, 48, 64, 4028] [] [(4028, .tree 1 (.named 2) ((set out i (Pln.mk (Pln.Kind ((toPlanD_r fuel) (getD (Pln.Kids a) i Pln.zero))) (Pln.Table ((toPlanD_r fuel) (getD (Pln.Kids a) i Pln.zero))) (Pln.Exprs ((toPlanD_r fuel) (getD (Pln.Kids a) i Pln.zero))) (Pln.Cols ((toPlanD_r fuel) (getD (Pln.Kids a) i Pln.zero))) (Pln.Kids ((toPlanD_r fuel) (getD (Pln.Kids a) i Pln.zero))))) : List Pln))] [IX (i : Int) (length (Pln.Kids a) : Int), ((FitsP (getD (Pln.Kids a) i Pln.zero)) ∧ SizeOf.sizeOf (getD (Pln.Kids a) i Pln.zero) < fuel), IX (i : Int) (length out : Int)] ?_ ?_)))
   ·
    exact ⟨IX.of (by omega), (⟨hpre.1.parts.el _ (by omega), Nat.lt_of_lt_of_le (pkid_lt (by omega)) (Nat.le_of_lt_succ hpre.2)⟩), IX.of (by omega), trivial⟩
   refine r0U hC1 [0, 3, 4, 1002, 1003] [8, 12, 48, 64, 4028] [(4, sI ((i + 1 : Nat) : Int))] [] [R64 ((i + 1 : Nat) : Int)] ?_ ?_
   ·
    exact ⟨R64.of (by omega), trivial⟩
   refine bk (i + 1, (set out i (Pln.mk (Pln.Kind ((toPlanD_r fuel) (getD (Pln.Kids a) i Pln.zero))) (Pln.Table ((toPlanD_r fuel) (getD (Pln.Kids a) i Pln.zero))) (Pln.Exprs ((toPlanD_r fuel) (getD (Pln.Kids a) i Pln.zero))) (Pln.Cols ((toPlanD_r fuel) (getD (Pln.Kids a) i Pln.zero))) (Pln.Kids ((toPlanD_r fuel) (getD (Pln.Kids a) i Pln.zero)))))) e22 hk18 ?_ ?_
   · simp only [lens] at *; omega
   · omega
  · intro h23q e24; refine kpU [3, 1002, 1003] [8, 12, 48, 64, 4028] [] [] ?_; refine exit ?_; refine meet out (by kernel_rfl) ⟨?_, e24⟩; assumption
 ·
  intro out hJ0 e25; have e26 := e0.trans (then_eq e25); refine seq (r1U hC1 [2, 1002, 1003] [8, 12, 48, 64, 4028] [(2, .tr 4028 1)] [] ?_); refine ret ?_; refine ⟨[.tr 4028 1], by kernel_rfl, ?_⟩; refine AWO.keep [2, 3, 20] [8, 12, 48, 64, 4028] ⟨[(2, .ref 8 1 0), (3, .ref 12 1 0), (20, .tr 4028 1)], [(8, .box 1 [sI 0, sI 0, .nilsl, .nilsl, .nilsl]), (12, .box 1 [sI (Pln.Kind a), sI (Pln.Table a), .tr 48 1, .arr 64 1, .nilsl]), (48, .tree 1 (.named 1) ((toExprSD (Pln.Exprs a)) : List Xpr)), (64, .arr 1 (.int .i64) ((toIntS (Pln.Cols a)) : List Int)), (4028, .tree 1 (.named 2) (out : List Pln))]⟩ (by kernel_rfl) ?_
  refine AWO.runU hC false [] [3, 4] [] [2, 3] [8, 12, 48, 64, 4028]
   [] [(12, .box 1 [sI (Pln.Kind a), sI (Pln.Table a), .tr 48 1, .arr 64 1, .tr 4028 1])]
   [] (by rfl) (by kernel_rfl) ?_ ?_
  · exact trivial
  refine AWO.nil ?_; refine seq (r1U hC [2] [8, 48, 64, 4028] [] [(8, .box 1 [sI (Pln.Kind a), sI (Pln.Table a), .tr 48 1, .arr 64 1, .tr 4028 1])] ?_); exact ret (rS (.named 2) e26)

theorem toPlanD_fu : AllTV (toPlanD_sp.ps.map PK.ty) (fun tvs => toPlanD_sp.pre tvs → ∃ k, (toPlanD_spn k).pre tvs ∧ (toPlanD_spn k).fn tvs = toPlanD_sp.fn tvs ∧ (toPlanD_spn k).bx tvs = toPlanD_sp.bx tvs) :=
 (fun (a : Pln) h => ⟨SizeOf.sizeOf a + 1, (show (FitsP a) ∧ SizeOf.sizeOf a < SizeOf.sizeOf a + 1 from ⟨h, Nat.lt_succ_self _⟩), (show (toPlanD_spn (SizeOf.sizeOf a + 1)).fn [⟨(.named 2), (a : Pln)⟩] = ([⟨(.named 2), (toPlanD_r (SizeOf.sizeOf a + 1) a)⟩] : List TV) from by kernel_rfl).trans (show ([⟨(.named 2), (toPlanD_r (SizeOf.sizeOf a + 1) a)⟩] : List TV) = toPlanD_sp.fn [⟨(.named 2), (a : Pln)⟩] from by kernel_rfl), by kernel_rfl⟩)

theorem toPlanD_ok : FnOK Try.prog 18 toPlanD_sp := FnOK.of_fuel toPlanD_okn (fun _ => rfl) (fun _ => rfl) (AllTV.get toPlanD_fu)

end
end Go.Proofs.Ytodcdgolcbdkgaa
