/-
  A part of the proof of this claim (ApTD): what functions of the program compute, and plain facts of that. No conditions.
-/
import Derived.Test.YtodcdgolcbdkgaaApTC
import Derived.Test.YtodcdgolcbdkgaaApT6
import Derived.Test.YtodcdgolcbdkgaaApI
set_option linter.all false
namespace Go.Proofs.Ytodcdgolcbdkgaa
open Go Go.Am
open Go.Am.AW (seq r1U ret kpU cdE r0U r1 meet block rS bk exit lpB)
open List (length getD set replicate)
noncomputable section

def toExprSD_l0 (a : List Xpr) : Nat → Nat → (List Xpr) → (List Xpr)
 | 0, i, out => out
 | k + 1, i, out => (bif (decide ((i : Int) < (length a : Int))) then (toExprSD_l0 a k (i + 1) (set out i (Xpr.mk (Xpr.Kind (toExprD (getD a i Xpr.zero))) (Xpr.Col (toExprD (getD a i Xpr.zero))) (Xpr.V (toExprD (getD a i Xpr.zero))) (Xpr.Kids (toExprD (getD a i Xpr.zero)))))) else out)

def toExprSD (a : List Xpr) : (List Xpr) := (andThen (toExprSD_l0 a ((length a) - 0 + 1) 0 (replicate (length a) Xpr.zero : List Xpr)) (fun z => (fun (out : List Xpr) => out) z))

def toExprSD_sp : FnSpec := mkSpec [.val (.slice (.named 1))] [.deep (.slice (.named 1))] (fun (a : List Xpr) => FitS a) (fun (a : List Xpr) => [⟨(.slice (.named 1)), (toExprSD a)⟩])

theorem toExprSD_ok : FnOK Try.prog 71 toExprSD_sp := by
 have hC : CtxOK Try.prog { (mkCtx tyL [(57, toExprD_sp)]) with deep := true } := CtxOK.deepen (CtxOK.cons toExprD_ok (CtxOK.nil tyOK)); refine FnOK.of_body Try.func71 (by kernel_rfl) rfl (C := { (mkCtx tyL [(57, toExprD_sp)]) with deep := true }) hC.ty (by kernel_rfl) ?_; intro (a : List Xpr) hwf hpre E; have hpre : FitS a := hpre; have e0 : toExprSD a = toExprSD a := rfl; refine seq (r1U hC [0] [] [] [] ?_); refine seq (r0U hC [0, 3] [28] [(3, .tr 28 1)] [(28, .tree 1 (.named 1) ((replicate (length a) Xpr.zero : List Xpr) : List Xpr))] [(0 ≤ (length a : Int) ∧ (length a : Int) ≤ (length a : Int) ∧ (length a : Int) ≤ 4294967296)] ?_ ?_)
 ·
  exact ⟨(by have := hpre.len; omega), trivial⟩
 refine seq (seq (r1U hC [0, 3, 4] [28] [(4, sI 0)] [] ?_)); refine lpB (ζ := (List Xpr)) (fun x => ⟨[(3, .tr 28 1)], [(28, .tree 1 (.named 1) (x : List Xpr))]⟩) (fun x => length x = length a) (fun x => x) (α := Nat × (List Xpr)) (fun x => ⟨[(0, sD9 a), (3, .tr 28 1), (4, sI ((x.1 : Nat) : Int))], [(28, .tree 1 (.named 1) (x.2 : List Xpr))]⟩) (fun x => length x.2 = length a) (fun x => (length a) - x.1) (fun k x => toExprSD_l0 a k x.1 x.2) (0, (replicate (length a) Xpr.zero : List Xpr)) (by kernel_rfl) ?_ ?_ ?_
 · simp
 ·
  intro x k15q hI0 hk13 e14; obtain ⟨i, out⟩ := x; replace hI0 : length out = length a := hI0; refine seq (seq (r1U hC [0, 3, 4, 11] [28] [(11, sB (decide ((i : Int) < (length a : Int))))] [] ?_)); refine cdE e14 ?_ ?_
  ·
   intro h16q e17; refine kpU [0, 3, 4] [28] [] [] ?_; refine AW.skip (seq (block (r0U hC [0, 3, 4] [28] [] [(28, .tree 1 (.named 1) ((set out i (Xpr.mk (Xpr.Kind (toExprD (getD a i Xpr.zero))) (Xpr.Col (toExprD (getD a i Xpr.zero))) (Xpr.V (toExprD (getD a i Xpr.zero))) (Xpr.Kids (toExprD (getD a i Xpr.zero))))) : List Xpr))] [IX (i : Int) (length a : Int), (Fits (getD a i Xpr.zero)), IX (i : Int) (length out : Int)] ?_ ?_)))
   ·
    exact ⟨IX.of (by have := hpre.len; omega), (hpre.el _ (by omega)), IX.of (by have := hpre.len; omega), trivial⟩
   refine r0U hC [0, 3, 4] [28] [(4, sI ((i + 1 : Nat) : Int))] [] [R64 ((i + 1 : Nat) : Int)] ?_ ?_
   ·
    exact ⟨R64.of (by have := hpre.len; omega), trivial⟩
   refine bk (i + 1, (set out i (Xpr.mk (Xpr.Kind (toExprD (getD a i Xpr.zero))) (Xpr.Col (toExprD (getD a i Xpr.zero))) (Xpr.V (toExprD (getD a i Xpr.zero))) (Xpr.Kids (toExprD (getD a i Xpr.zero)))))) e17 hk13 ?_ ?_
   · simp only [lens] at *; omega
   · omega
  · intro h18q e19; refine kpU [3] [28] [] [] ?_; refine exit ?_; refine meet out (by kernel_rfl) ⟨?_, e19⟩; assumption
 · intro out hJ0 e20; have e21 := e0.trans (then_eq e20); refine seq (r1U hC [2] [28] [(2, .tr 28 1)] [] ?_); exact ret (rS (.slice (.named 1)) e21)

def toPlanD_l0 (self : Pln → Pln) (a : Pln) : Nat → Nat → (List Pln) → (List Pln)
 | 0, i, out => out
 | k + 1, i, out => (bif (decide ((i : Int) < (length (Pln.Kids a) : Int))) then (toPlanD_l0 self a k (i + 1) (set out i (Pln.mk (Pln.Kind (self (getD (Pln.Kids a) i Pln.zero))) (Pln.Table (self (getD (Pln.Kids a) i Pln.zero))) (Pln.Exprs (self (getD (Pln.Kids a) i Pln.zero))) (Pln.Cols (self (getD (Pln.Kids a) i Pln.zero))) (Pln.Kids (self (getD (Pln.Kids a) i Pln.zero)))))) else out)

def toPlanD_r : Nat → Pln → Pln
 | 0, a => Pln.zero
 | fuel + 1, a => (andThen (toPlanD_l0 (toPlanD_r fuel) a ((length (Pln.Kids a)) - 0 + 1) 0 (replicate (length (Pln.Kids a)) Pln.zero : List Pln)) (fun z => (fun (out : List Pln) => (Pln.mk (Pln.Kind a) (Pln.Table a) (toExprSD (Pln.Exprs a)) (toIntS (Pln.Cols a)) out)) z))

def toPlanD (a : Pln) : Pln := toPlanD_r (SizeOf.sizeOf a + 1) a

def toPlanD_spn (fuel : Nat) : FnSpec := mkSpec [.val (.named 2)] [.deep (.named 2)] (fun (a : Pln) => (FitsP a) ∧ SizeOf.sizeOf a < fuel) (fun (a : Pln) => [⟨(.named 2), (toPlanD_r fuel a)⟩])

def toPlanD_sp : FnSpec := mkSpec [.val (.named 2)] [.deep (.named 2)] (fun (a : Pln) => FitsP a) (fun (a : Pln) => [⟨(.named 2), (toPlanD a)⟩])

theorem toPlanD_okn (fuel : Nat) : FnOK Try.prog 18 (toPlanD_spn fuel) := by
 induction fuel with
 | zero => exact FnOK.never Try.func18 (by kernel_rfl) rfl (fun _ h => absurd h.2 (Nat.not_lt_zero _))
 | succ fuel ih => ?_
 have hC : CtxOK Try.prog { (mkCtx tyL [(18, (toPlanD_spn fuel)), (30, toIntS_sp), (71, toExprSD_sp)]) with deep := true } := CtxOK.deepen (CtxOK.cons ih (CtxOK.cons toIntS_ok (CtxOK.cons toExprSD_ok (CtxOK.nil tyOK)))); have hC1 := hC.rebase 1000; refine FnOK.of_body Try.func18 (by kernel_rfl) rfl (C := { (mkCtx tyL [(18, (toPlanD_spn fuel)), (30, toIntS_sp), (71, toExprSD_sp)]) with deep := true }) hC.ty (by kernel_rfl) ?_; intro (a : Pln) hwf hpre E; have hpre : (FitsP a) ∧ SizeOf.sizeOf a < fuel + 1 := hpre; have hw_a : Wf ⟨(.named 2), (a : Pln)⟩ := hwf _ (List.Mem.head _); obtain ⟨hr_a_Kind, hr_a_Table, hl_a_Exprs, hl_a_Cols, hl_a_Kids⟩ := Pln.wfl hw_a; have e0 : toPlanD_r (fuel + 1) a = toPlanD_r (fuel + 1) a := rfl; refine seq (r1 hC [1, 2] [4, 8] ⟨[(1, .ref 4 1 0), (2, .ref 8 1 0)], [(4, .box 1 [sI (Pln.Kind a), sI (Pln.Table a), sD9 (Pln.Exprs a), sD7 (Pln.Cols a), sD10 (Pln.Kids a)]), (8, .box 1 [sI 0, sI 0, .nilsl, .nilsl, .nilsl])]⟩ ?_); refine seq (r1U hC [1, 2, 3] [4, 8, 12] [(3, .ref 12 1 0)] [(12, .box 1 [sI 0, sI 0, .nilsl, .nilsl, .nilsl])] ?_); refine seq (r1U hC [1, 2, 3] [4, 8, 12] [] [(12, .box 1 [sI (Pln.Kind a), sI 0, .nilsl, .nilsl, .nilsl])] ?_); refine seq (r1U hC [1, 2, 3] [4, 8, 12] [] [(12, .box 1 [sI (Pln.Kind a), sI (Pln.Table a), .nilsl, .nilsl, .nilsl])] ?_); refine seq (r0U hC [1, 2, 3] [4, 8, 12, 48] [] [(12, .box 1 [sI (Pln.Kind a), sI (Pln.Table a), .tr 48 1, .nilsl, .nilsl]), (48, .tree 1 (.named 1) ((toExprSD (Pln.Exprs a)) : List Xpr))] [(FitS (Pln.Exprs a))] ?_ ?_)
 ·
  exact ⟨hpre.1.parts.exprs, trivial⟩
 refine seq (r0U hC [1, 2, 3] [4, 8, 12, 48, 64] [] [(12, .box 1 [sI (Pln.Kind a), sI (Pln.Table a), .tr 48 1, .arr 64 1, .nilsl]), (64, .arr 1 (.int .i64) ((toIntS (Pln.Cols a)) : List Int))] [((length (Pln.Cols a) : Int) ≤ 1048576)] ?_ ?_)
 ·
  exact ⟨hpre.1.parts.cols, trivial⟩
 refine seq (AW.regionO [0, 1, 2, 3, 4] (by rfl) ?_)
 refine AWO.runU hC false [] [0, 1] [2, 3, 4] [2, 3, 19] [8, 12, 48, 64]
  [(19, sD10 (Pln.Kids a))] []
  [] (by rfl) (by kernel_rfl) ?_ ?_
 · exact trivial
 refine AWO.call hC.ty (vs := [sD10 (Pln.Kids a)]) (caps := []) (by rfl) rfl (.inl rfl) (by decide) (by kernel_rfl) (by kernel_rfl) Try.func25 (by kernel_rfl) rfl (by kernel_rfl) ?_; intro o1 ho1; refine kpU [0, 1002, 1003] [8, 12, 48, 64] [] [] ?_; refine seq (r1U hC1 [0, 1002, 1003] [8, 12, 48, 64] [] [] ?_); refine seq (r0U hC1 [0, 3, 1002, 1003] [8, 12, 48, 64, 4028] [(3, .tr 4028 1)] [(4028, .tree 1 (.named 2) ((replicate (length (Pln.Kids a)) Pln.zero : List Pln) : List Pln))] [(0 ≤ (length (Pln.Kids a) : Int) ∧ (length (Pln.Kids a) : Int) ≤ (length (Pln.Kids a) : Int) ∧ (length (Pln.Kids a) : Int) ≤ 4294967296)] ?_ ?_)
 ·
  exact ⟨(by have := hpre.1.parts.kids; omega), trivial⟩
 refine seq (seq (r1U hC1 [0, 3, 4, 1002, 1003] [8, 12, 48, 64, 4028] [(4, sI 0)] [] ?_)); refine lpB (ζ := (List Pln)) (fun x => ⟨[(3, .tr 4028 1), (1002, .ref 8 1 0), (1003, .ref 12 1 0)], [(8, .box 1 [sI 0, sI 0, .nilsl, .nilsl, .nilsl]), (12, .box 1 [sI (Pln.Kind a), sI (Pln.Table a), .tr 48 1, .arr 64 1, .nilsl]), (48, .tree 1 (.named 1) ((toExprSD (Pln.Exprs a)) : List Xpr)), (64, .arr 1 (.int .i64) ((toIntS (Pln.Cols a)) : List Int)), (4028, .tree 1 (.named 2) (x : List Pln))]⟩) (fun x => length x = length (Pln.Kids a)) (fun x => x) (α := Nat × (List Pln)) (fun x => ⟨[(0, sD10 (Pln.Kids a)), (3, .tr 4028 1), (4, sI ((x.1 : Nat) : Int)), (1002, .ref 8 1 0), (1003, .ref 12 1 0)], [(8, .box 1 [sI 0, sI 0, .nilsl, .nilsl, .nilsl]), (12, .box 1 [sI (Pln.Kind a), sI (Pln.Table a), .tr 48 1, .arr 64 1, .nilsl]), (48, .tree 1 (.named 1) ((toExprSD (Pln.Exprs a)) : List Xpr)), (64, .arr 1 (.int .i64) ((toIntS (Pln.Cols a)) : List Int)), (4028, .tree 1 (.named 2) (x.2 : List Pln))]⟩) (fun x => length x.2 = length (Pln.Kids a)) (fun x => (length (Pln.Kids a)) - x.1) (fun k x => toPlanD_l0 (toPlanD_r fuel) a k x.1 x.2) (0, (replicate (length (Pln.Kids a)) Pln.zero : List Pln)) (by kernel_rfl) ?_ ?_ ?_
 · simp
 ·
  intro x k20q hI0 hk18 e19; obtain ⟨i, out⟩ := x; replace hI0 : length out = length (Pln.Kids a) := hI0; have hF := hpre.1.parts; refine seq (seq (r1U hC1 [0, 3, 4, 11, 1002, 1003] [8, 12, 48, 64, 4028] [(11, sB (decide ((i : Int) < (length (Pln.Kids a) : Int))))] [] ?_)); refine cdE e19 ?_ ?_
  ·
   intro h21q e22; refine kpU [0, 3, 4, 1002, 1003] [8, 12, 48, 64, 4028] [] [] ?_; refine AW.skip (seq (block (r0U hC1 [0, 3, 4, 1002, 1003] [8, 12, 48, 64, 4028] [] [(4028, .tree 1 (.named 2) ((set out i (Pln.mk (Pln.Kind ((toPlanD_r fuel) (getD (Pln.Kids a) i Pln.zero))) (Pln.Table ((toPlanD_r fuel) (getD (Pln.Kids a) i Pln.zero))) (Pln.Exprs ((toPlanD_r fuel) (getD (Pln.Kids a) i Pln.zero))) (Pln.Cols ((toPlanD_r fuel) (getD (Pln.Kids a) i Pln.zero))) (Pln.Kids ((toPlanD_r fuel) (getD (Pln.Kids a) i Pln.zero))))) : List Pln))] [IX (i : Int) (length (Pln.Kids a) : Int), ((FitsP (getD (Pln.Kids a) i Pln.zero)) ∧ SizeOf.sizeOf (getD (Pln.Kids a) i Pln.zero) < fuel), IX (i : Int) (length out : Int)] ?_ ?_)))
   ·
    exact ⟨IX.of (by omega), (⟨hpre.1.parts.el _ (by omega), Nat.lt_of_lt_of_le (pkid_lt (by omega)) (Nat.le_of_lt_succ hpre.2)⟩), IX.of (by omega), trivial⟩
   refine r0U hC1 [0, 3, 4, 1002, 1003] [8, 12, 48, 64, 4028] [(4, sI ((i + 1 : Nat) : Int))] [] [R64 ((i + 1 : Nat) : Int)] ?_ ?_
   ·
    exact ⟨R64.of (by omega), trivial⟩
   refine bk (i + 1, (set out i (Pln.mk (Pln.Kind ((toPlanD_r fuel) (getD (Pln.Kids a) i Pln.zero))) (Pln.Table ((toPlanD_r fuel) (getD (Pln.Kids a) i Pln.zero))) (Pln.Exprs ((toPlanD_r fuel) (getD (Pln.Kids a) i Pln.zero))) (Pln.Cols ((toPlanD_r fuel) (getD (Pln.Kids a) i Pln.zero))) (Pln.Kids ((toPlanD_r fuel) (getD (Pln.Kids a) i Pln.zero)))))) e22 hk18 ?_ ?_
   · simp only [lens] at *; omega
   · omega
  · intro h23q e24; refine kpU [3, 1002, 1003] [8, 12, 48, 64, 4028] [] [] ?_; refine exit ?_; refine meet out (by kernel_rfl) ⟨?_, e24⟩; assumption
 ·
  intro out hJ0 e25; have e26 := e0.trans (then_eq e25); refine seq (r1U hC1 [2, 1002, 1003] [8, 12, 48, 64, 4028] [(2, .tr 4028 1)] [] ?_); refine ret ?_; refine ⟨[.tr 4028 1], by kernel_rfl, ?_⟩; refine AWO.keep [2, 3, 20] [8, 12, 48, 64, 4028] ⟨[(2, .ref 8 1 0), (3, .ref 12 1 0), (20, .tr 4028 1)], [(8, .box 1 [sI 0, sI 0, .nilsl, .nilsl, .nilsl]), (12, .box 1 [sI (Pln.Kind a), sI (Pln.Table a), .tr 48 1, .arr 64 1, .nilsl]), (48, .tree 1 (.named 1) ((toExprSD (Pln.Exprs a)) : List Xpr)), (64, .arr 1 (.int .i64) ((toIntS (Pln.Cols a)) : List Int)), (4028, .tree 1 (.named 2) (out : List Pln))]⟩ (by kernel_rfl) ?_
  refine AWO.runU hC false [] [3, 4] [] [2, 3] [8, 12, 48, 64, 4028]
   [] [(12, .box 1 [sI (Pln.Kind a), sI (Pln.Table a), .tr 48 1, .arr 64 1, .tr 4028 1])]
   [] (by rfl) (by kernel_rfl) ?_ ?_
  · exact trivial
  refine AWO.nil ?_; refine seq (r1U hC [2] [8, 48, 64, 4028] [] [(8, .box 1 [sI (Pln.Kind a), sI (Pln.Table a), .tr 48 1, .arr 64 1, .tr 4028 1])] ?_); exact ret (rS (.named 2) e26)

theorem toPlanD_fu : AllTV (toPlanD_sp.ps.map PK.ty) (fun tvs => toPlanD_sp.pre tvs → ∃ k, (toPlanD_spn k).pre tvs ∧ (toPlanD_spn k).fn tvs = toPlanD_sp.fn tvs ∧ (toPlanD_spn k).bx tvs = toPlanD_sp.bx tvs) :=
 (fun (a : Pln) h => ⟨SizeOf.sizeOf a + 1, (show (FitsP a) ∧ SizeOf.sizeOf a < SizeOf.sizeOf a + 1 from ⟨h, Nat.lt_succ_self _⟩), (show (toPlanD_spn (SizeOf.sizeOf a + 1)).fn [⟨(.named 2), (a : Pln)⟩] = ([⟨(.named 2), (toPlanD_r (SizeOf.sizeOf a + 1) a)⟩] : List TV) from by kernel_rfl).trans (show ([⟨(.named 2), (toPlanD_r (SizeOf.sizeOf a + 1) a)⟩] : List TV) = toPlanD_sp.fn [⟨(.named 2), (a : Pln)⟩] from by kernel_rfl), by kernel_rfl⟩)

theorem toPlanD_ok : FnOK Try.prog 18 toPlanD_sp := FnOK.of_fuel toPlanD_okn (fun _ => rfl) (fun _ => rfl) (AllTV.get toPlanD_fu)

end
end Go.Proofs.Ytodcdgolcbdkgaa
