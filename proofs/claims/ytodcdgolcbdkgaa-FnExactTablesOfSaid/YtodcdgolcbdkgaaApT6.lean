/-
  A part of the proof of this claim (ApT6): what functions of the program compute, and plain facts of that. No conditions.
-/
import Derived.Test.YtodcdgolcbdkgaaApT5
set_option linter.all false
namespace Go.Proofs.Ytodcdgolcbdkgaa
open Go Go.Am
open Go.Am.AW (seq r1U ret kpU cdE r0U r1 meet rI block rS bk exit lpB r0)
open List (length getD set replicate)
noncomputable section

def toExprD_l0 (self : Xpr → Xpr) (a : Xpr) : Nat → Nat → (List Xpr) → (List Xpr)
 | 0, i, out => out
 | k + 1, i, out => (bif (decide ((i : Int) < (length (Xpr.Kids a) : Int))) then (toExprD_l0 self a k (i + 1) (set out i (Xpr.mk (Xpr.Kind (self (getD (Xpr.Kids a) i Xpr.zero))) (Xpr.Col (self (getD (Xpr.Kids a) i Xpr.zero))) (Xpr.V (self (getD (Xpr.Kids a) i Xpr.zero))) (Xpr.Kids (self (getD (Xpr.Kids a) i Xpr.zero)))))) else out)

def toExprD_r : Nat → Xpr → Xpr
 | 0, a => Xpr.zero
 | fuel + 1, a => (andThen (toExprD_l0 (toExprD_r fuel) a ((length (Xpr.Kids a)) - 0 + 1) 0 (replicate (length (Xpr.Kids a)) Xpr.zero : List Xpr)) (fun z => (fun (out : List Xpr) => (Xpr.mk (Xpr.Kind a) (Xpr.Col a) (toValue (Xpr.V a)) out)) z))

def toExprD (a : Xpr) : Xpr := toExprD_r (SizeOf.sizeOf a + 1) a

def toExprD_spn (fuel : Nat) : FnSpec := mkSpec [.val (.named 1)] [.deep (.named 1)] (fun (a : Xpr) => (Fits a) ∧ SizeOf.sizeOf a < fuel) (fun (a : Xpr) => [⟨(.named 1), (toExprD_r fuel a)⟩])

def toExprD_sp : FnSpec := mkSpec [.val (.named 1)] [.deep (.named 1)] (fun (a : Xpr) => Fits a) (fun (a : Xpr) => [⟨(.named 1), (toExprD a)⟩])

theorem toExprD_okn (fuel : Nat) : FnOK Try.prog 57 (toExprD_spn fuel) := by
 induction fuel with
 | zero => exact FnOK.never Try.func57 (by kernel_rfl) rfl (fun _ h => absurd h.2 (Nat.not_lt_zero _))
 | succ fuel ih => ?_
 have hC : CtxOK Try.prog { (mkCtx tyL [(57, (toExprD_spn fuel)), (98, toValue_sp)]) with deep := true } := CtxOK.deepen (CtxOK.cons ih (CtxOK.cons toValue_ok (CtxOK.nil tyOK))); have hC1 := hC.rebase 1000; refine FnOK.of_body Try.func57 (by kernel_rfl) rfl (C := { (mkCtx tyL [(57, (toExprD_spn fuel)), (98, toValue_sp)]) with deep := true }) hC.ty (by kernel_rfl) ?_; intro (a : Xpr) hwf hpre E; have hpre : (Fits a) ∧ SizeOf.sizeOf a < fuel + 1 := hpre; have e0 : toExprD_r (fuel + 1) a = toExprD_r (fuel + 1) a := rfl; refine seq (r1 hC [1, 2] [4, 8] ⟨[(1, .ref 4 1 0), (2, .ref 8 1 0)], [(4, .box 1 [sI (Xpr.Kind a), sI (Xpr.Col a), sB (Val.Null (Xpr.V a)), sI (Val.N (Xpr.V a)), sD9 (Xpr.Kids a)]), (8, .box 1 [sI 0, sI 0, sB false, sI 0, .nilsl])]⟩ ?_); refine seq (r1U hC [1, 2, 3] [4, 8, 12] [(3, .ref 12 1 0)] [(12, .box 1 [sI 0, sI 0, sB false, sI 0, .nilsl])] ?_); refine seq (r1U hC [1, 2, 3] [4, 8, 12] [] [(12, .box 1 [sI (Xpr.Kind a), sI 0, sB false, sI 0, .nilsl])] ?_); refine seq (r1U hC [1, 2, 3] [4, 8, 12] [] [(12, .box 1 [sI (Xpr.Kind a), sI (Xpr.Col a), sB false, sI 0, .nilsl])] ?_); refine seq (r0U hC [1, 2, 3] [4, 8, 12] [] [(12, .box 1 [sI (Xpr.Kind a), sI (Xpr.Col a), sB (Val.Null (toValue (Xpr.V a))), sI (Val.N (toValue (Xpr.V a))), .nilsl])] [(True)] ?_ ?_)
 ·
  exact ⟨trivial, trivial⟩
 refine seq (AW.regionO [0, 1, 2, 3, 4] (by rfl) ?_)
 refine AWO.runU hC false [] [0, 1] [2, 3, 4] [2, 3, 15] [8, 12]
  [(15, sD9 (Xpr.Kids a))] []
  [] (by rfl) (by kernel_rfl) ?_ ?_
 · exact trivial
 refine AWO.call hC.ty (vs := [sD9 (Xpr.Kids a)]) (caps := []) (by rfl) rfl (.inl rfl) (by decide) (by kernel_rfl) (by kernel_rfl) Try.func71 (by kernel_rfl) rfl (by kernel_rfl) ?_; intro o1 ho1; refine kpU [0, 1002, 1003] [8, 12] [] [] ?_; refine seq (r1U hC1 [0, 1002, 1003] [8, 12] [] [] ?_); refine seq (r0U hC1 [0, 3, 1002, 1003] [8, 12, 4028] [(3, .tr 4028 1)] [(4028, .tree 1 (.named 1) ((replicate (length (Xpr.Kids a)) Xpr.zero : List Xpr) : List Xpr))] [(0 ≤ (length (Xpr.Kids a) : Int) ∧ (length (Xpr.Kids a) : Int) ≤ (length (Xpr.Kids a) : Int) ∧ (length (Xpr.Kids a) : Int) ≤ 4294967296)] ?_ ?_)
 ·
  exact ⟨(by have := hpre.1.kids.1; omega), trivial⟩
 refine seq (seq (r1U hC1 [0, 3, 4, 1002, 1003] [8, 12, 4028] [(4, sI 0)] [] ?_)); refine lpB (ζ := (List Xpr)) (fun x => ⟨[(3, .tr 4028 1), (1002, .ref 8 1 0), (1003, .ref 12 1 0)], [(8, .box 1 [sI 0, sI 0, sB false, sI 0, .nilsl]), (12, .box 1 [sI (Xpr.Kind a), sI (Xpr.Col a), sB (Val.Null (toValue (Xpr.V a))), sI (Val.N (toValue (Xpr.V a))), .nilsl]), (4028, .tree 1 (.named 1) (x : List Xpr))]⟩) (fun x => length x = length (Xpr.Kids a)) (fun x => x) (α := Nat × (List Xpr)) (fun x => ⟨[(0, sD9 (Xpr.Kids a)), (3, .tr 4028 1), (4, sI ((x.1 : Nat) : Int)), (1002, .ref 8 1 0), (1003, .ref 12 1 0)], [(8, .box 1 [sI 0, sI 0, sB false, sI 0, .nilsl]), (12, .box 1 [sI (Xpr.Kind a), sI (Xpr.Col a), sB (Val.Null (toValue (Xpr.V a))), sI (Val.N (toValue (Xpr.V a))), .nilsl]), (4028, .tree 1 (.named 1) (x.2 : List Xpr))]⟩) (fun x => length x.2 = length (Xpr.Kids a)) (fun x => (length (Xpr.Kids a)) - x.1) (fun k x => toExprD_l0 (toExprD_r fuel) a k x.1 x.2) (0, (replicate (length (Xpr.Kids a)) Xpr.zero : List Xpr)) (by kernel_rfl) ?_ ?_ ?_
 · simp
 ·
  intro x k20q hI0 hk18 e19; obtain ⟨i, out⟩ := x; replace hI0 : length out = length (Xpr.Kids a) := hI0; have hF := hpre.1.kids; refine seq (seq (r1U hC1 [0, 3, 4, 11, 1002, 1003] [8, 12, 4028] [(11, sB (decide ((i : Int) < (length (Xpr.Kids a) : Int))))] [] ?_)); refine cdE e19 ?_ ?_
  ·
   intro h21q e22; refine kpU [0, 3, 4, 1002, 1003] [8, 12, 4028] [] [] ?_; refine AW.skip (seq (block (r0U hC1 [0, 3, 4, 1002, 1003] [8, 12, 4028] [] [(4028, .tree 1 (.named 1) ((set out i (Xpr.mk (Xpr.Kind ((toExprD_r fuel) (getD (Xpr.Kids a) i Xpr.zero))) (Xpr.Col ((toExprD_r fuel) (getD (Xpr.Kids a) i Xpr.zero))) (Xpr.V ((toExprD_r fuel) (getD (Xpr.Kids a) i Xpr.zero))) (Xpr.Kids ((toExprD_r fuel) (getD (Xpr.Kids a) i Xpr.zero))))) : List Xpr))] [IX (i : Int) (length (Xpr.Kids a) : Int), ((Fits (getD (Xpr.Kids a) i Xpr.zero)) ∧ SizeOf.sizeOf (getD (Xpr.Kids a) i Xpr.zero) < fuel), IX (i : Int) (length out : Int)] ?_ ?_)))
   ·
    exact ⟨IX.of (by omega), (⟨hpre.1.kids.2 _ (by omega), Nat.lt_of_lt_of_le (kid_lt (by omega)) (Nat.le_of_lt_succ hpre.2)⟩), IX.of (by omega), trivial⟩
   refine r0U hC1 [0, 3, 4, 1002, 1003] [8, 12, 4028] [(4, sI ((i + 1 : Nat) : Int))] [] [R64 ((i + 1 : Nat) : Int)] ?_ ?_
   ·
    exact ⟨R64.of (by omega), trivial⟩
   refine bk (i + 1, (set out i (Xpr.mk (Xpr.Kind ((toExprD_r fuel) (getD (Xpr.Kids a) i Xpr.zero))) (Xpr.Col ((toExprD_r fuel) (getD (Xpr.Kids a) i Xpr.zero))) (Xpr.V ((toExprD_r fuel) (getD (Xpr.Kids a) i Xpr.zero))) (Xpr.Kids ((toExprD_r fuel) (getD (Xpr.Kids a) i Xpr.zero)))))) e22 hk18 ?_ ?_
   · simp only [lens] at *; omega
   · omega
  · intro h23q e24; refine kpU [3, 1002, 1003] [8, 12, 4028] [] [] ?_; refine exit ?_; refine meet out (by kernel_rfl) ⟨?_, e24⟩; assumption
 ·
  intro out hJ0 e25; have e26 := e0.trans (then_eq e25); refine seq (r1U hC1 [2, 1002, 1003] [8, 12, 4028] [(2, .tr 4028 1)] [] ?_); refine ret ?_; refine ⟨[.tr 4028 1], by kernel_rfl, ?_⟩; refine AWO.keep [2, 3, 16] [8, 12, 4028] ⟨[(2, .ref 8 1 0), (3, .ref 12 1 0), (16, .tr 4028 1)], [(8, .box 1 [sI 0, sI 0, sB false, sI 0, .nilsl]), (12, .box 1 [sI (Xpr.Kind a), sI (Xpr.Col a), sB (Val.Null (toValue (Xpr.V a))), sI (Val.N (toValue (Xpr.V a))), .nilsl]), (4028, .tree 1 (.named 1) (out : List Xpr))]⟩ (by kernel_rfl) ?_
  refine AWO.runU hC false [] [3, 4] [] [2, 3] [8, 12, 4028]
   [] [(12, .box 1 [sI (Xpr.Kind a), sI (Xpr.Col a), sB (Val.Null (toValue (Xpr.V a))), sI (Val.N (toValue (Xpr.V a))), .tr 4028 1])]
   [] (by rfl) (by kernel_rfl) ?_ ?_
  · exact trivial
  refine AWO.nil ?_; refine seq (r1U hC [2] [8, 4028] [] [(8, .box 1 [sI (Xpr.Kind a), sI (Xpr.Col a), sB (Val.Null (toValue (Xpr.V a))), sI (Val.N (toValue (Xpr.V a))), .tr 4028 1])] ?_); exact ret (rS (.named 1) e26)

theorem toExprD_fu : AllTV (toExprD_sp.ps.map PK.ty) (fun tvs => toExprD_sp.pre tvs → ∃ k, (toExprD_spn k).pre tvs ∧ (toExprD_spn k).fn tvs = toExprD_sp.fn tvs ∧ (toExprD_spn k).bx tvs = toExprD_sp.bx tvs) :=
 (fun (a : Xpr) h => ⟨SizeOf.sizeOf a + 1, (show (Fits a) ∧ SizeOf.sizeOf a < SizeOf.sizeOf a + 1 from ⟨h, Nat.lt_succ_self _⟩), (show (toExprD_spn (SizeOf.sizeOf a + 1)).fn [⟨(.named 1), (a : Xpr)⟩] = ([⟨(.named 1), (toExprD_r (SizeOf.sizeOf a + 1) a)⟩] : List TV) from by kernel_rfl).trans (show ([⟨(.named 1), (toExprD_r (SizeOf.sizeOf a + 1) a)⟩] : List TV) = toExprD_sp.fn [⟨(.named 1), (a : Xpr)⟩] from by kernel_rfl), by kernel_rfl⟩)

theorem toExprD_ok : FnOK Try.prog 57 toExprD_sp := FnOK.of_fuel toExprD_okn (fun _ => rfl) (fun _ => rfl) (AllTV.get toExprD_fu)

def heldExprS_l0 (self : (List Xpr) → Int → Int) (a : List Xpr) : Nat → Int → Nat → Int ⊕ Int
 | 0, k1, i => .inl k1
 | k + 1, k1, i => (bif (decide ((i : Int) < (length a : Int))) then (bif ((Xpr.Kind (getD a i Xpr.zero)) != k1) then (.inr (-1)) else (bif ((Xpr.Col (getD a i Xpr.zero)) != (IntKind.wrap .i64 (k1 + 1))) then (.inr (-1)) else (bif ((Val.Null (Xpr.V (getD a i Xpr.zero))) != ((Int.tmod (IntKind.wrap .i64 ((IntKind.wrap .i64 (k1 + 1)) + 1)) 3) == 0)) then (.inr (-1)) else (bif ((Val.N (Xpr.V (getD a i Xpr.zero))) != (IntKind.wrap .i64 ((IntKind.wrap .i64 ((IntKind.wrap .i64 (k1 + 1)) + 1)) + 1))) then (.inr (-1)) else (bif (decide ((self (Xpr.Kids (getD a i Xpr.zero)) (IntKind.wrap .i64 ((IntKind.wrap .i64 ((IntKind.wrap .i64 ((IntKind.wrap .i64 (k1 + 1)) + 1)) + 1)) + 1))) < 0)) then (.inr (-1)) else (heldExprS_l0 self a k (self (Xpr.Kids (getD a i Xpr.zero)) (IntKind.wrap .i64 ((IntKind.wrap .i64 ((IntKind.wrap .i64 ((IntKind.wrap .i64 (k1 + 1)) + 1)) + 1)) + 1))) (i + 1))))))) else (.inl k1))

def heldExprS_r : Nat → (List Xpr) → Int → Int
 | 0, a, k0 => 0
 | fuel + 1, a, k0 => (Sum.elim (fun z => (fun (k1 : Int) => k1) z) (fun r => r) (heldExprS_l0 (heldExprS_r fuel) a ((length a) - 0 + 1) k0 0))

def heldExprS (a : List Xpr) (k0 : Int) : Int := heldExprS_r (SizeOf.sizeOf a + 1) a k0

end
end Go.Proofs.Ytodcdgolcbdkgaa
