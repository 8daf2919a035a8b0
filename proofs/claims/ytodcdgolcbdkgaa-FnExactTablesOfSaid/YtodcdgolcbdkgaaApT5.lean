/-
  A part of the proof of this claim (ApT5): what functions of the program compute, and plain facts of that. No conditions.
-/
import Derived.Test.YtodcdgolcbdkgaaAp4
import Derived.Test.YtodcdgolcbdkgaaAp8
import Derived.Test.YtodcdgolcbdkgaaAnU
set_option linter.all false
namespace Go.Proofs.Ytodcdgolcbdkgaa
open Go Go.Am
open Go.Am.AW (seq r1U ret kpU cdE r0U block rS d0)
open List (length getD)
noncomputable section

def VRw (row : List Val) : Prop := ∀ j, j < row.length → VV (row.getD j Val.zero)
def VXr (row : List Val) (e : Xpr) : Prop := VRw row ∧ ∃ l, VE (row.length : Int) l e

theorem VXr.kid {row : List Val} {e : Xpr} (h : VXr row e) {i : Nat} (hi : i < e.Kids.length) : VXr row (e.Kids.getD i Xpr.zero) := by
 obtain ⟨h1, l, h2⟩ := h; exact ⟨h1, h2.kid hi⟩

theorem VXr.node {row : List Val} {e : Xpr} (h : VXr row e) : Node (row.length : Int) e := by
 obtain ⟨h1, l, h2⟩ := h; exact h2.node

theorem VV.n {v : Val} (h : VV v) : -9999 ≤ v.N ∧ v.N ≤ 9999 := by
 unfold VV at h; split at h
 · omega
 · exact h

def value_r : Nat → Xpr → (List Val) → Val
 | 0, e, row => Val.zero
 | fuel + 1, e, row => (bif ((Xpr.Kind e) == 1) then (getD row (Int.toNat (Xpr.Col e)) Val.zero) else (bif ((Xpr.Kind e) == 2) then (Xpr.V e) else (bif ((Xpr.Kind e) == 10) then (truthValue (2 - (truthOf ((value_r fuel) (getD (Xpr.Kids e) 0 Xpr.zero) row)))) else (bif ((Xpr.Kind e) == 11) then (flag (Val.Null ((value_r fuel) (getD (Xpr.Kids e) 0 Xpr.zero) row))) else (combined (Xpr.Kind e) ((value_r fuel) (getD (Xpr.Kids e) 0 Xpr.zero) row) ((value_r fuel) (getD (Xpr.Kids e) 1 Xpr.zero) row))))))

def value (e : Xpr) (row : List Val) : Val := value_r (SizeOf.sizeOf e + 1) e row

end
end Go.Proofs.Ytodcdgolcbdkgaa


namespace Go.Proofs.Ytodcdgolcbdkgaa
open Go Go.Am
open Go.Am.AW (seq r1U ret kpU cdE r0U r1 meet block rB rS bk exit lpB r0 kp d0U)
open List (length getD)
noncomputable section

def VL (w : Int) (e : Xpr) : Prop := ∃ l, l ≤ 8 ∧ VE w l e

theorem VE.kids2 {w : Int} {l : Nat} {e : Xpr} (h : VE w l e) : e.Kids.length ≤ 2 := by
 have := h.node.kids; have := kids_cases e.Kind; omega

theorem VE.two {w : Int} {l : Nat} {e : Xpr} (h : VE w l e) (hk : 3 ≤ e.Kind ∧ e.Kind ≤ 9) : e.Kids.length = 2 := by
 have := h.node.kids; have := kids_cases e.Kind; omega

theorem VE.down {w : Int} {l : Nat} {e : Xpr} (h : VE w (l + 1) e) {i : Nat} (hi : i < e.Kids.length) : VE w l (e.Kids.getD i Xpr.zero) := h.2 i hi

theorem VE.flat {w : Int} {e : Xpr} (h : VE w 0 e) : e.Kids.length = 0 := h.2

theorem VL.kid {w : Int} {e : Xpr} (h : VL w e) {i : Nat} (hi : i < e.Kids.length) : VL w (e.Kids.getD i Xpr.zero) := by
 obtain ⟨l, hl, h⟩ := h
 cases l with
 | zero => have := h.flat; omega
 | succ l => exact ⟨l, by omega, h.down hi⟩

theorem VL.kids2 {w : Int} {e : Xpr} (h : VL w e) : e.Kids.length ≤ 2 := by
 obtain ⟨l, hl, h⟩ := h; exact h.kids2

theorem VL.two {w : Int} {e : Xpr} (h : VL w e) (hk : 3 ≤ e.Kind ∧ e.Kind ≤ 9) : e.Kids.length = 2 := by
 obtain ⟨l, hl, h⟩ := h; exact h.two hk

theorem VL.val {w : Int} {e : Xpr} (h : VL w e) (hk : e.Kind = 2) : -9999 ≤ e.V.N ∧ e.V.N ≤ 9999 := by
 obtain ⟨l, hl, h⟩ := h; have := h.node.val hk
 unfold VV at this
 split at this <;> omega

end
end Go.Proofs.Ytodcdgolcbdkgaa


namespace Go.Proofs.Ytodcdgolcbdkgaa
open Go Go.Am
open Go.Am.AW (seq r1U ret kpU cdE r0U r1 meet block rS bk exit lpB kp)
open List (length getD take)
noncomputable section

theorem VE.const {w w' : Int} {l : Nat} {x : Xpr} (h : VE w l x) (hk : x.Kind = 2) : VE w' l x := by
 obtain ⟨n1, n2, n3, n4, n5⟩ := Node_iff.1 h.node
 have hz : x.Kids.length = 0 := by
  rw [hk] at n1; have := kids_cases 2; omega
 exact VE_iff.2 ⟨⟨Node_iff.2 ⟨n1, fun e => by omega, n3, n4, n5⟩, fun e => by omega⟩, fun i hi => by omega⟩

theorem VE.up {w : Int} {l k : Int} {n : Nat} {ks : List Xpr} (hk : (ks.length : Int) = kidsOfKind k) (h0 : ks.length ≠ 0) (hks : ∀ i, i < ks.length → VE w n (ks.getD i Xpr.zero)) : VE w (n + 1) (Xpr.mk k 0 (Val.mk false 0) ks) := by
 have hc := kids_cases k; exact VE_iff.2 ⟨⟨Node_iff.2 ⟨hk, fun e => by have e : k = 1 := e; omega, fun _ => rfl, fun e => by have e : k = 2 := e; omega, fun _ => rfl⟩, fun _ => by omega⟩, hks⟩

end
end Go.Proofs.Ytodcdgolcbdkgaa


namespace Go.Proofs.Ytodcdgolcbdkgaa
open Go Go.Am
open Go.Am.AW (seq r1U ret kpU cdE r0U meet block bk exit lpB)
open List (length getD set)
noncomputable section

theorem kids_szL {a : List Xpr} {i : Nat} (hi : i < a.length) : SizeOf.sizeOf (getD a i Xpr.zero).Kids < SizeOf.sizeOf a := by
 have h1 := List.sizeOf_lt_of_mem (getD_mem a i Xpr.zero hi); generalize getD a i Xpr.zero = x at *
 cases x with
 | mk k c v ks => simp only [Xpr.mk.sizeOf_spec, Xpr.Kids] at *; omega


def markExprS_l0 (self : List Xpr → Int → List Xpr × Int) : Nat → Int → Nat → (List Xpr) → Int × (List Xpr)
 | 0, k1, i, a1 => (k1, a1)
 | k + 1, k1, i, a1 => (bif (decide ((i : Int) < (length a1 : Int))) then (markExprS_l0 self k ((self (Xpr.Kids (getD (set a1 i (Xpr.mk k1 (IntKind.wrap .i64 (k1 + 1)) (Val.mk ((Int.tmod (IntKind.wrap .i64 ((IntKind.wrap .i64 (k1 + 1)) + 1)) 3) == 0) (IntKind.wrap .i64 ((IntKind.wrap .i64 ((IntKind.wrap .i64 (k1 + 1)) + 1)) + 1))) (Xpr.Kids (getD a1 i Xpr.zero)))) i Xpr.zero)) (IntKind.wrap .i64 ((IntKind.wrap .i64 ((IntKind.wrap .i64 ((IntKind.wrap .i64 (k1 + 1)) + 1)) + 1)) + 1))).2) (i + 1) (set a1 i (Xpr.mk k1 (IntKind.wrap .i64 (k1 + 1)) (Val.mk ((Int.tmod (IntKind.wrap .i64 ((IntKind.wrap .i64 (k1 + 1)) + 1)) 3) == 0) (IntKind.wrap .i64 ((IntKind.wrap .i64 ((IntKind.wrap .i64 (k1 + 1)) + 1)) + 1))) ((self (Xpr.Kids (getD a1 i Xpr.zero)) (IntKind.wrap .i64 ((IntKind.wrap .i64 ((IntKind.wrap .i64 ((IntKind.wrap .i64 (k1 + 1)) + 1)) + 1)) + 1))).1)))) else (k1, a1))

def markExprS_r : Nat → List Xpr → Int → List Xpr × Int
 | 0, a, k0 => (a, k0)
 | fuel + 1, a, k0 => (andThen (markExprS_l0 (markExprS_r fuel) ((length a) - 0 + 1) k0 0 a) (fun z => (fun (k1 : Int) (a1 : List Xpr) => (a1, k1)) z.1 z.2))

def markExprS (a : List Xpr) (k0 : Int) : List Xpr × Int := markExprS_r (SizeOf.sizeOf a + 1) a k0

theorem markExprS_l0_len (self : List Xpr → Int → List Xpr × Int) : ∀ (n : Nat) (k : Int) (i : Nat) (a : List Xpr), (markExprS_l0 self n k i a).2.length = a.length := by
 intro n
 induction n with
 | zero => intro k i a; rfl
 | succ n ih =>
  intro k i a; unfold markExprS_l0
  cases decide ((i : Int) < (length a : Int)) with
  | true => rw [cond_true, ih]; simp only [List.length_set]
  | false => rfl

theorem markExprS_okn (fuel : Nat) : MarkC Try.prog 81 (.named 1) (fun (a : List Xpr) _ => SizeOf.sizeOf a < fuel) (markExprS_r fuel) := by
 induction fuel with
 | zero => exact ⟨⟨_, _, Try.func81, by kernel_rfl, rfl⟩, fun _ _ => rfl, fun _ _ _ _ _ _ _ h _ => absurd h (Nat.not_lt_zero _)⟩
 | succ fuel ih => ?_
 have hC : CtxOK Try.prog { mkCtx tyL [] with deep := true } := CtxOK.deepen (CtxOK.nil tyOK); refine MarkC.of_body noGlob Try.func81 (by kernel_rfl) rfl (C := { mkCtx tyL [] with deep := true }) hC.ty (by kernel_rfl) (fun a k0 => markExprS_l0_len (markExprS_r fuel) _ k0 0 a) ?_; intro (a : List Xpr) (k0 : Int) hl hk hpre E; have hl : (length a : Int) ≤ 4294967296 := hl; have hk : -9223372036854775808 ≤ k0 ∧ k0 ≤ 9223372036854775807 := hk; have e0 : markExprS_r (fuel + 1) a k0 = markExprS_r (fuel + 1) a k0 := rfl; refine seq ?_
 refine AW.regU hC  true [] [0, 1, 1000] [0]
  [] []
  [] (by kernel_rfl) ?_ ?_
 · exact trivial
 refine seq (seq (r1U hC [0, 1, 5, 1000] [0] [(5, sI 0)] [] ?_)); refine lpB (ζ := Int × (List Xpr)) (fun x => ⟨[(1, sI x.1), (1000, .tr 0 1)], [(0, .tree 1 (.named 1) (x.2 : List Xpr))]⟩) (fun x => length x.2 = length a) (fun x => x) (α := Int × Nat × (List Xpr)) (fun x => ⟨[(0, .tr 0 1), (1, sI x.1), (5, sI ((x.2.1 : Nat) : Int)), (1000, .tr 0 1)], [(0, .tree 1 (.named 1) (x.2.2 : List Xpr))]⟩) (fun x => length x.2.2 = length a ∧ ∀ j : Nat, x.2.1 ≤ j → getD x.2.2 j Xpr.zero = getD a j Xpr.zero) (fun x => (length x.2.2) - x.2.1) (fun k x => markExprS_l0 (markExprS_r fuel) k x.1 x.2.1 x.2.2) (k0, 0, a) (by kernel_rfl) ?_ ?_ ?_
 · exact ⟨rfl, fun j _ => rfl⟩
 ·
  intro x k15q hI0 hk13 e14; obtain ⟨k1, i, a1⟩ := x; dsimp only at e14; replace hI0 : length a1 = length a ∧ ∀ j : Nat, i ≤ j → getD a1 j Xpr.zero = getD a j Xpr.zero := hI0; refine seq (seq ?_)
  refine AW.regU hC  true [] [0, 1, 5, 9, 1000] [0]
   [(9, sB (decide ((i : Int) < (length a1 : Int))))] []
   [] (by kernel_rfl) ?_ ?_
  · exact trivial
  refine cdE e14 ?_ ?_
  ·
   intro h16q e17; refine kpU [0, 1, 5, 1000] [0] [] [] ?_; refine AW.skip (seq (block (seq ?_)))
   refine AW.regU hC  true [] [0, 1, 5, 1000] [0]
    [] [(0, .tree 1 (.named 1) ((set a1 i (Xpr.mk k1 (Xpr.Col (getD a1 i Xpr.zero)) (Xpr.V (getD a1 i Xpr.zero)) (Xpr.Kids (getD a1 i Xpr.zero)))) : List Xpr))]
    [IX (i : Int) (length a1 : Int)] (by kernel_rfl) ?_ ?_
   ·
    exact ⟨IX.of (by omega), trivial⟩
   refine seq ?_
   refine AW.regU hC  true [] [0, 1, 5, 1000] [0]
    [(1, sI (IntKind.wrap .i64 (k1 + 1)))] []
    [] (by kernel_rfl) ?_ ?_
   · exact trivial
   refine seq ?_
   refine AW.regU hC  true [] [0, 1, 5, 1000] [0]
    [] [(0, .tree 1 (.named 1) ((set (set a1 i (Xpr.mk k1 (Xpr.Col (getD a1 i Xpr.zero)) (Xpr.V (getD a1 i Xpr.zero)) (Xpr.Kids (getD a1 i Xpr.zero)))) i (Xpr.mk (Xpr.Kind (getD (set a1 i (Xpr.mk k1 (Xpr.Col (getD a1 i Xpr.zero)) (Xpr.V (getD a1 i Xpr.zero)) (Xpr.Kids (getD a1 i Xpr.zero)))) i Xpr.zero)) (IntKind.wrap .i64 (k1 + 1)) (Xpr.V (getD (set a1 i (Xpr.mk k1 (Xpr.Col (getD a1 i Xpr.zero)) (Xpr.V (getD a1 i Xpr.zero)) (Xpr.Kids (getD a1 i Xpr.zero)))) i Xpr.zero)) (Xpr.Kids (getD (set a1 i (Xpr.mk k1 (Xpr.Col (getD a1 i Xpr.zero)) (Xpr.V (getD a1 i Xpr.zero)) (Xpr.Kids (getD a1 i Xpr.zero)))) i Xpr.zero)))) : List Xpr))]
    [IX (i : Int) (length (set a1 i (Xpr.mk k1 (Xpr.Col (getD a1 i Xpr.zero)) (Xpr.V (getD a1 i Xpr.zero)) (Xpr.Kids (getD a1 i Xpr.zero)))) : Int)] (by kernel_rfl) ?_ ?_
   ·
    exact ⟨IX.of (by (simp only [lens] at *; omega)), trivial⟩
   refine seq (AW.retree (ys := ((set a1 i (Xpr.mk k1 (IntKind.wrap .i64 (k1 + 1)) (Xpr.V (getD a1 i Xpr.zero)) (Xpr.Kids (getD a1 i Xpr.zero)))) : List Xpr)) (set_twice (fun y : Xpr => (Xpr.mk (Xpr.Kind y) (IntKind.wrap .i64 (k1 + 1)) (Xpr.V y) (Xpr.Kids y))) (by first | omega | (simp only [List.length_set]; omega))) ?_)
   refine AW.regU hC  true [] [0, 1, 5, 1000] [0]
    [(1, sI (IntKind.wrap .i64 ((IntKind.wrap .i64 (k1 + 1)) + 1)))] []
    [] (by kernel_rfl) ?_ ?_
   · exact trivial
   refine seq ?_
   refine AW.regU hC  true [] [0, 1, 5, 1000] [0]
    [] [(0, .tree 1 (.named 1) ((set (set a1 i (Xpr.mk k1 (IntKind.wrap .i64 (k1 + 1)) (Xpr.V (getD a1 i Xpr.zero)) (Xpr.Kids (getD a1 i Xpr.zero)))) i (Xpr.mk (Xpr.Kind (getD (set a1 i (Xpr.mk k1 (IntKind.wrap .i64 (k1 + 1)) (Xpr.V (getD a1 i Xpr.zero)) (Xpr.Kids (getD a1 i Xpr.zero)))) i Xpr.zero)) (Xpr.Col (getD (set a1 i (Xpr.mk k1 (IntKind.wrap .i64 (k1 + 1)) (Xpr.V (getD a1 i Xpr.zero)) (Xpr.Kids (getD a1 i Xpr.zero)))) i Xpr.zero)) (Val.mk ((Int.tmod (IntKind.wrap .i64 ((IntKind.wrap .i64 (k1 + 1)) + 1)) 3) == 0) (Val.N (Xpr.V (getD (set a1 i (Xpr.mk k1 (IntKind.wrap .i64 (k1 + 1)) (Xpr.V (getD a1 i Xpr.zero)) (Xpr.Kids (getD a1 i Xpr.zero)))) i Xpr.zero)))) (Xpr.Kids (getD (set a1 i (Xpr.mk k1 (IntKind.wrap .i64 (k1 + 1)) (Xpr.V (getD a1 i Xpr.zero)) (Xpr.Kids (getD a1 i Xpr.zero)))) i Xpr.zero)))) : List Xpr))]
    [((3 : Int) ≠ 0), IX (i : Int) (length (set a1 i (Xpr.mk k1 (IntKind.wrap .i64 (k1 + 1)) (Xpr.V (getD a1 i Xpr.zero)) (Xpr.Kids (getD a1 i Xpr.zero)))) : Int)] (by kernel_rfl) ?_ ?_
   ·
    exact ⟨(by omega), IX.of (by (simp only [lens] at *; omega)), trivial⟩
   refine seq (AW.retree (ys := ((set a1 i (Xpr.mk k1 (IntKind.wrap .i64 (k1 + 1)) (Val.mk ((Int.tmod (IntKind.wrap .i64 ((IntKind.wrap .i64 (k1 + 1)) + 1)) 3) == 0) (Val.N (Xpr.V (getD a1 i Xpr.zero)))) (Xpr.Kids (getD a1 i Xpr.zero)))) : List Xpr)) (set_twice (fun y : Xpr => (Xpr.mk (Xpr.Kind y) (Xpr.Col y) (Val.mk ((Int.tmod (IntKind.wrap .i64 ((IntKind.wrap .i64 (k1 + 1)) + 1)) 3) == 0) (Val.N (Xpr.V y))) (Xpr.Kids y))) (by first | omega | (simp only [List.length_set]; omega))) ?_)
   refine AW.regU hC  true [] [0, 1, 5, 1000] [0]
    [(1, sI (IntKind.wrap .i64 ((IntKind.wrap .i64 ((IntKind.wrap .i64 (k1 + 1)) + 1)) + 1)))] []
    [] (by kernel_rfl) ?_ ?_
   · exact trivial
   refine seq ?_
   refine AW.regU hC  true [] [0, 1, 5, 1000] [0]
    [] [(0, .tree 1 (.named 1) ((set (set a1 i (Xpr.mk k1 (IntKind.wrap .i64 (k1 + 1)) (Val.mk ((Int.tmod (IntKind.wrap .i64 ((IntKind.wrap .i64 (k1 + 1)) + 1)) 3) == 0) (Val.N (Xpr.V (getD a1 i Xpr.zero)))) (Xpr.Kids (getD a1 i Xpr.zero)))) i (Xpr.mk (Xpr.Kind (getD (set a1 i (Xpr.mk k1 (IntKind.wrap .i64 (k1 + 1)) (Val.mk ((Int.tmod (IntKind.wrap .i64 ((IntKind.wrap .i64 (k1 + 1)) + 1)) 3) == 0) (Val.N (Xpr.V (getD a1 i Xpr.zero)))) (Xpr.Kids (getD a1 i Xpr.zero)))) i Xpr.zero)) (Xpr.Col (getD (set a1 i (Xpr.mk k1 (IntKind.wrap .i64 (k1 + 1)) (Val.mk ((Int.tmod (IntKind.wrap .i64 ((IntKind.wrap .i64 (k1 + 1)) + 1)) 3) == 0) (Val.N (Xpr.V (getD a1 i Xpr.zero)))) (Xpr.Kids (getD a1 i Xpr.zero)))) i Xpr.zero)) (Val.mk (Val.Null (Xpr.V (getD (set a1 i (Xpr.mk k1 (IntKind.wrap .i64 (k1 + 1)) (Val.mk ((Int.tmod (IntKind.wrap .i64 ((IntKind.wrap .i64 (k1 + 1)) + 1)) 3) == 0) (Val.N (Xpr.V (getD a1 i Xpr.zero)))) (Xpr.Kids (getD a1 i Xpr.zero)))) i Xpr.zero))) (IntKind.wrap .i64 ((IntKind.wrap .i64 ((IntKind.wrap .i64 (k1 + 1)) + 1)) + 1))) (Xpr.Kids (getD (set a1 i (Xpr.mk k1 (IntKind.wrap .i64 (k1 + 1)) (Val.mk ((Int.tmod (IntKind.wrap .i64 ((IntKind.wrap .i64 (k1 + 1)) + 1)) 3) == 0) (Val.N (Xpr.V (getD a1 i Xpr.zero)))) (Xpr.Kids (getD a1 i Xpr.zero)))) i Xpr.zero)))) : List Xpr))]
    [IX (i : Int) (length (set a1 i (Xpr.mk k1 (IntKind.wrap .i64 (k1 + 1)) (Val.mk ((Int.tmod (IntKind.wrap .i64 ((IntKind.wrap .i64 (k1 + 1)) + 1)) 3) == 0) (Val.N (Xpr.V (getD a1 i Xpr.zero)))) (Xpr.Kids (getD a1 i Xpr.zero)))) : Int)] (by kernel_rfl) ?_ ?_
   ·
    exact ⟨IX.of (by (simp only [lens] at *; omega)), trivial⟩
   refine seq (AW.retree (ys := ((set a1 i (Xpr.mk k1 (IntKind.wrap .i64 (k1 + 1)) (Val.mk ((Int.tmod (IntKind.wrap .i64 ((IntKind.wrap .i64 (k1 + 1)) + 1)) 3) == 0) (IntKind.wrap .i64 ((IntKind.wrap .i64 ((IntKind.wrap .i64 (k1 + 1)) + 1)) + 1))) (Xpr.Kids (getD a1 i Xpr.zero)))) : List Xpr)) (set_twice (fun y : Xpr => (Xpr.mk (Xpr.Kind y) (Xpr.Col y) (Val.mk (Val.Null (Xpr.V y)) (IntKind.wrap .i64 ((IntKind.wrap .i64 ((IntKind.wrap .i64 (k1 + 1)) + 1)) + 1))) (Xpr.Kids y))) (by first | omega | (simp only [List.length_set]; omega))) ?_)
   refine AW.regU hC  true [] [0, 1, 5, 1000] [0]
    [(1, sI (IntKind.wrap .i64 ((IntKind.wrap .i64 ((IntKind.wrap .i64 ((IntKind.wrap .i64 (k1 + 1)) + 1)) + 1)) + 1)))] []
    [] (by kernel_rfl) ?_ ?_
   · exact trivial
   refine AW.regionO [0, 1, 2, 3, 4, 5, 6, 7] (by rfl) ?_
   refine AWO.run hC false [] [0, 1, 2, 3] [4, 5, 6, 7] [0, 1, 5, 47, 1000] [0]
    ⟨[(0, .tr 0 1), (1, sI (IntKind.wrap .i64 ((IntKind.wrap .i64 ((IntKind.wrap .i64 ((IntKind.wrap .i64 (k1 + 1)) + 1)) + 1)) + 1))), (5, sI (i : Int)), (47, .tref 0 1 i [3]), (1000, .tr 0 1)], [(0, .tree 1 (.named 1) ((set a1 i (Xpr.mk k1 (IntKind.wrap .i64 (k1 + 1)) (Val.mk ((Int.tmod (IntKind.wrap .i64 ((IntKind.wrap .i64 (k1 + 1)) + 1)) 3) == 0) (IntKind.wrap .i64 ((IntKind.wrap .i64 ((IntKind.wrap .i64 (k1 + 1)) + 1)) + 1))) (Xpr.Kids (getD a1 i Xpr.zero)))) : List Xpr))]⟩
    [IX (i : Int) (length (set a1 i (Xpr.mk k1 (IntKind.wrap .i64 (k1 + 1)) (Val.mk ((Int.tmod (IntKind.wrap .i64 ((IntKind.wrap .i64 (k1 + 1)) + 1)) 3) == 0) (IntKind.wrap .i64 ((IntKind.wrap .i64 ((IntKind.wrap .i64 (k1 + 1)) + 1)) + 1))) (Xpr.Kids (getD a1 i Xpr.zero)))) : Int)] (by rfl) (by kernel_rfl) ?_ ?_
   ·
    exact ⟨IX.of (by (simp only [lens] at *; omega)), trivial⟩
   refine AWO.markAt (u := (.named 1)) (id := 0) (ep := 1) (i := i) (p := [3]) (xs := ((set a1 i (Xpr.mk k1 (IntKind.wrap .i64 (k1 + 1)) (Val.mk ((Int.tmod (IntKind.wrap .i64 ((IntKind.wrap .i64 (k1 + 1)) + 1)) 3) == 0) (IntKind.wrap .i64 ((IntKind.wrap .i64 ((IntKind.wrap .i64 (k1 + 1)) + 1)) + 1))) (Xpr.Kids (getD a1 i Xpr.zero)))) : List Xpr)) (ys := ((Xpr.Kids (getD (set a1 i (Xpr.mk k1 (IntKind.wrap .i64 (k1 + 1)) (Val.mk ((Int.tmod (IntKind.wrap .i64 ((IntKind.wrap .i64 (k1 + 1)) + 1)) 3) == 0) (IntKind.wrap .i64 ((IntKind.wrap .i64 ((IntKind.wrap .i64 (k1 + 1)) + 1)) + 1))) (Xpr.Kids (getD a1 i Xpr.zero)))) i Xpr.zero)) : List Xpr)) (k := (IntKind.wrap .i64 ((IntKind.wrap .i64 ((IntKind.wrap .i64 ((IntKind.wrap .i64 (k1 + 1)) + 1)) + 1)) + 1))) ih hC.ty ((Xpr.mk (Xpr.Kind (getD (set a1 i (Xpr.mk k1 (IntKind.wrap .i64 (k1 + 1)) (Val.mk ((Int.tmod (IntKind.wrap .i64 ((IntKind.wrap .i64 (k1 + 1)) + 1)) 3) == 0) (IntKind.wrap .i64 ((IntKind.wrap .i64 ((IntKind.wrap .i64 (k1 + 1)) + 1)) + 1))) (Xpr.Kids (getD a1 i Xpr.zero)))) i Xpr.zero)) (Xpr.Col (getD (set a1 i (Xpr.mk k1 (IntKind.wrap .i64 (k1 + 1)) (Val.mk ((Int.tmod (IntKind.wrap .i64 ((IntKind.wrap .i64 (k1 + 1)) + 1)) 3) == 0) (IntKind.wrap .i64 ((IntKind.wrap .i64 ((IntKind.wrap .i64 (k1 + 1)) + 1)) + 1))) (Xpr.Kids (getD a1 i Xpr.zero)))) i Xpr.zero)) (Xpr.V (getD (set a1 i (Xpr.mk k1 (IntKind.wrap .i64 (k1 + 1)) (Val.mk ((Int.tmod (IntKind.wrap .i64 ((IntKind.wrap .i64 (k1 + 1)) + 1)) 3) == 0) (IntKind.wrap .i64 ((IntKind.wrap .i64 ((IntKind.wrap .i64 (k1 + 1)) + 1)) + 1))) (Xpr.Kids (getD a1 i Xpr.zero)))) i Xpr.zero)) (((markExprS_r fuel) (Xpr.Kids (getD (set a1 i (Xpr.mk k1 (IntKind.wrap .i64 (k1 + 1)) (Val.mk ((Int.tmod (IntKind.wrap .i64 ((IntKind.wrap .i64 (k1 + 1)) + 1)) 3) == 0) (IntKind.wrap .i64 ((IntKind.wrap .i64 ((IntKind.wrap .i64 (k1 + 1)) + 1)) + 1))) (Xpr.Kids (getD a1 i Xpr.zero)))) i Xpr.zero)) (IntKind.wrap .i64 ((IntKind.wrap .i64 ((IntKind.wrap .i64 ((IntKind.wrap .i64 (k1 + 1)) + 1)) + 1)) + 1))).1)) : Xpr) (by rfl) (by rfl) (by rfl) (by rfl) (by kernel_rfl) (by kernel_rfl) (by kernel_rfl) (by kernel_rfl) (by kernel_rfl) (by kernel_rfl) (by kernel_rfl) (by kernel_rfl) (by kernel_rfl) (by kernel_rfl) ?_ ?_
   · (have hi : i < a1.length := by omega); simp only [lgetD_set_eq, List.length_set, hi, Xpr.Kids]; have hi2 := hI0.1; rw [hI0.2 i (Nat.le_refl _)]; exact Nat.lt_of_lt_of_le (kids_szL (by omega)) (Nat.le_of_lt_succ hpre)
   refine AWO.keepU [0, 5, 50, 1000] [0] [(50, sI (((markExprS_r fuel) (Xpr.Kids (getD (set a1 i (Xpr.mk k1 (IntKind.wrap .i64 (k1 + 1)) (Val.mk ((Int.tmod (IntKind.wrap .i64 ((IntKind.wrap .i64 (k1 + 1)) + 1)) 3) == 0) (IntKind.wrap .i64 ((IntKind.wrap .i64 ((IntKind.wrap .i64 (k1 + 1)) + 1)) + 1))) (Xpr.Kids (getD a1 i Xpr.zero)))) i Xpr.zero)) (IntKind.wrap .i64 ((IntKind.wrap .i64 ((IntKind.wrap .i64 ((IntKind.wrap .i64 (k1 + 1)) + 1)) + 1)) + 1))).2))] [(0, .tree 1 (.named 1) ((set (set a1 i (Xpr.mk k1 (IntKind.wrap .i64 (k1 + 1)) (Val.mk ((Int.tmod (IntKind.wrap .i64 ((IntKind.wrap .i64 (k1 + 1)) + 1)) 3) == 0) (IntKind.wrap .i64 ((IntKind.wrap .i64 ((IntKind.wrap .i64 (k1 + 1)) + 1)) + 1))) (Xpr.Kids (getD a1 i Xpr.zero)))) i (Xpr.mk (Xpr.Kind (getD (set a1 i (Xpr.mk k1 (IntKind.wrap .i64 (k1 + 1)) (Val.mk ((Int.tmod (IntKind.wrap .i64 ((IntKind.wrap .i64 (k1 + 1)) + 1)) 3) == 0) (IntKind.wrap .i64 ((IntKind.wrap .i64 ((IntKind.wrap .i64 (k1 + 1)) + 1)) + 1))) (Xpr.Kids (getD a1 i Xpr.zero)))) i Xpr.zero)) (Xpr.Col (getD (set a1 i (Xpr.mk k1 (IntKind.wrap .i64 (k1 + 1)) (Val.mk ((Int.tmod (IntKind.wrap .i64 ((IntKind.wrap .i64 (k1 + 1)) + 1)) 3) == 0) (IntKind.wrap .i64 ((IntKind.wrap .i64 ((IntKind.wrap .i64 (k1 + 1)) + 1)) + 1))) (Xpr.Kids (getD a1 i Xpr.zero)))) i Xpr.zero)) (Xpr.V (getD (set a1 i (Xpr.mk k1 (IntKind.wrap .i64 (k1 + 1)) (Val.mk ((Int.tmod (IntKind.wrap .i64 ((IntKind.wrap .i64 (k1 + 1)) + 1)) 3) == 0) (IntKind.wrap .i64 ((IntKind.wrap .i64 ((IntKind.wrap .i64 (k1 + 1)) + 1)) + 1))) (Xpr.Kids (getD a1 i Xpr.zero)))) i Xpr.zero)) (((markExprS_r fuel) (Xpr.Kids (getD (set a1 i (Xpr.mk k1 (IntKind.wrap .i64 (k1 + 1)) (Val.mk ((Int.tmod (IntKind.wrap .i64 ((IntKind.wrap .i64 (k1 + 1)) + 1)) 3) == 0) (IntKind.wrap .i64 ((IntKind.wrap .i64 ((IntKind.wrap .i64 (k1 + 1)) + 1)) + 1))) (Xpr.Kids (getD a1 i Xpr.zero)))) i Xpr.zero)) (IntKind.wrap .i64 ((IntKind.wrap .i64 ((IntKind.wrap .i64 ((IntKind.wrap .i64 (k1 + 1)) + 1)) + 1)) + 1))).1))) : List Xpr))] (by kernel_rfl) ?_
   refine AWO.runU hC false [] [7] [] [0, 1, 5, 1000] [0]
    [(1, sI (((markExprS_r fuel) (Xpr.Kids (getD (set a1 i (Xpr.mk k1 (IntKind.wrap .i64 (k1 + 1)) (Val.mk ((Int.tmod (IntKind.wrap .i64 ((IntKind.wrap .i64 (k1 + 1)) + 1)) 3) == 0) (IntKind.wrap .i64 ((IntKind.wrap .i64 ((IntKind.wrap .i64 (k1 + 1)) + 1)) + 1))) (Xpr.Kids (getD a1 i Xpr.zero)))) i Xpr.zero)) (IntKind.wrap .i64 ((IntKind.wrap .i64 ((IntKind.wrap .i64 ((IntKind.wrap .i64 (k1 + 1)) + 1)) + 1)) + 1))).2))] []
    [] (by rfl) (by kernel_rfl) ?_ ?_
   · exact trivial
   refine AWO.nil ?_; (refine AW.retree (ys := ((set a1 i (Xpr.mk k1 (IntKind.wrap .i64 (k1 + 1)) (Val.mk ((Int.tmod (IntKind.wrap .i64 ((IntKind.wrap .i64 (k1 + 1)) + 1)) 3) == 0) (IntKind.wrap .i64 ((IntKind.wrap .i64 ((IntKind.wrap .i64 (k1 + 1)) + 1)) + 1))) (((markExprS_r fuel) (Xpr.Kids (getD a1 i Xpr.zero)) (IntKind.wrap .i64 ((IntKind.wrap .i64 ((IntKind.wrap .i64 ((IntKind.wrap .i64 (k1 + 1)) + 1)) + 1)) + 1))).1))) : List Xpr)) (set_twice (fun y : Xpr => (Xpr.mk (Xpr.Kind y) (Xpr.Col y) (Xpr.V y) (((markExprS_r fuel) (Xpr.Kids y) (IntKind.wrap .i64 ((IntKind.wrap .i64 ((IntKind.wrap .i64 ((IntKind.wrap .i64 (k1 + 1)) + 1)) + 1)) + 1))).1))) (by first | omega | (simp only [List.length_set]; omega))) ?_); refine r0U hC [0, 1, 5, 1000] [0] [(5, sI ((i + 1 : Nat) : Int))] [] [R64 ((i + 1 : Nat) : Int)] ?_ ?_
   ·
    exact ⟨R64.of (by omega), trivial⟩
   refine bk (((markExprS_r fuel) (Xpr.Kids (getD (set a1 i (Xpr.mk k1 (IntKind.wrap .i64 (k1 + 1)) (Val.mk ((Int.tmod (IntKind.wrap .i64 ((IntKind.wrap .i64 (k1 + 1)) + 1)) 3) == 0) (IntKind.wrap .i64 ((IntKind.wrap .i64 ((IntKind.wrap .i64 (k1 + 1)) + 1)) + 1))) (Xpr.Kids (getD a1 i Xpr.zero)))) i Xpr.zero)) (IntKind.wrap .i64 ((IntKind.wrap .i64 ((IntKind.wrap .i64 ((IntKind.wrap .i64 (k1 + 1)) + 1)) + 1)) + 1))).2, i + 1, (set a1 i (Xpr.mk k1 (IntKind.wrap .i64 (k1 + 1)) (Val.mk ((Int.tmod (IntKind.wrap .i64 ((IntKind.wrap .i64 (k1 + 1)) + 1)) 3) == 0) (IntKind.wrap .i64 ((IntKind.wrap .i64 ((IntKind.wrap .i64 (k1 + 1)) + 1)) + 1))) (((markExprS_r fuel) (Xpr.Kids (getD a1 i Xpr.zero)) (IntKind.wrap .i64 ((IntKind.wrap .i64 ((IntKind.wrap .i64 ((IntKind.wrap .i64 (k1 + 1)) + 1)) + 1)) + 1))).1)))) e17 hk13 ?_ ?_
   · dsimp only; refine ⟨by simp only [List.length_set]; exact hI0.1, fun j hj => ?_⟩; (repeat rw [lgetD_set_ne (by omega)]); exact hI0.2 j (by omega)
   · simp only [lens]; omega
  · intro h18q e19; refine kpU [1, 1000] [0] [] [] ?_; refine exit ?_; refine meet (k1, a1) (by kernel_rfl) ⟨?_, e19⟩; dsimp only; omega
 ·
  intro x hJ0 e20; obtain ⟨k1, a1⟩ := x; have e21 := e0.trans (then_eq e20); dsimp only at e21; refine seq ?_
  refine AW.regU hC  true [] [4, 1000] [0]
   [(4, sI k1)] []
   [] (by kernel_rfl) ?_ ?_
  · exact trivial
  exact ret (AW.retM (ys := a1) (k := k1) e21 (by kernel_rfl) (by kernel_rfl) (by kernel_rfl))

theorem markExprS_ok : MarkC Try.prog 81 (.named 1) (fun _ _ => True) markExprS := MarkC.of_fuel markExprS_okn (fun (a : List Xpr) => SizeOf.sizeOf a)

end
end Go.Proofs.Ytodcdgolcbdkgaa
