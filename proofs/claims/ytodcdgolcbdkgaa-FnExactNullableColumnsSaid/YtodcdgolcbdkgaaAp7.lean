/-
  A part of the proof of this claim (Ap7): what functions of the program compute, and plain facts of that. No conditions.
-/
import Derived.Test.YtodcdgolcbdkgaaAp5
set_option linter.all false
namespace Go.Proofs.Ytodcdgolcbdkgaa
open Go Go.Am
open Go.Am.AW (seq r1U ret kpU cdE r0U r1 rI block r0 d0)
open List (length getD)
noncomputable section

def VS (st : List Int) : Prop := ∀ j, j < st.length → 1 ≤ st.getD j 0 ∧ st.getD j 0 ≤ 7

def VX (st : List Int) (e : Xpr) : Prop := VS st ∧ ∃ l, VE (st.length : Int) l e

theorem VX.kid {st : List Int} {e : Xpr} (h : VX st e) {i : Nat} (hi : i < e.Kids.length) : VX st (e.Kids.getD i Xpr.zero) := by
 obtain ⟨h1, l, h2⟩ := h; exact ⟨h1, h2.kid hi⟩

theorem VX.node {st : List Int} {e : Xpr} (h : VX st e) : Node (st.length : Int) e := by
 obtain ⟨h1, l, h2⟩ := h; exact h2.node

theorem cs8 : ∀ a b : Fin 8, decide (0 ≤ combinedStates 8 (a.val : Int) (b.val : Int) ∧ combinedStates 8 (a.val : Int) (b.val : Int) ≤ 7) = true := by decide +kernel
theorem cs9 : ∀ a b : Fin 8, decide (0 ≤ combinedStates 9 (a.val : Int) (b.val : Int) ∧ combinedStates 9 (a.val : Int) (b.val : Int) ≤ 7) = true := by decide +kernel

theorem combinedStates_b (k : Int) {a b : Int} (ha : 0 ≤ a ∧ a ≤ 7) (hb : 0 ≤ b ∧ b ≤ 7) : 0 ≤ combinedStates k a b ∧ combinedStates k a b ≤ 7 := by
 obtain ⟨n, rfl⟩ := Int.eq_ofNat_of_zero_le ha.1; obtain ⟨m, rfl⟩ := Int.eq_ofNat_of_zero_le hb.1; by_cases h8 : k = 8
 · subst h8; exact of_decide_eq_true (cs8 ⟨n, by omega⟩ ⟨m, by omega⟩)
 ·
  by_cases h9 : k = 9
  · subst h9; exact of_decide_eq_true (cs9 ⟨n, by omega⟩ ⟨m, by omega⟩)
  · unfold combinedStates; rw [show (k == 8) = false by simp [h8], show (k == 9) = false by simp [h9], cond_false, cond_false]; generalize ((bits .and .i64 (bits .or .i64 (n : Int) (m : Int)) 4) != 0) = p1; generalize (bif ((bits .andNot .i64 (n : Int) 4) != 0) then ((bits .andNot .i64 (m : Int) 4) != 0) else false) = p2; generalize (bif (bif (k == 3) then true else (k == 4)) then true else (k == 5)) = p3; revert p1 p2 p3; decide +kernel

theorem andOneAll : ∀ a : Fin 8, decide (0 ≤ bits .and .i64 (a.val : Int) 1 ∧ bits .and .i64 (a.val : Int) 1 ≤ 1) = true := by decide +kernel

theorem andOneB {a : Int} (h : 0 ≤ a ∧ a ≤ 7) : 0 ≤ bits .and .i64 a 1 ∧ bits .and .i64 a 1 ≤ 1 := by
 obtain ⟨n, rfl⟩ := Int.eq_ofNat_of_zero_le h.1; exact of_decide_eq_true (andOneAll ⟨n, by omega⟩)

def notStates (a : Int) : Int := (bits .or .i64 (bits .or .i64 (bits .and .i64 a 4) ((bits .and .i64 a 1) * 2 ^ 1)) ((bits .and .i64 a 2) / 2 ^ 1))

theorem notStates_all : ∀ a : Fin 8, decide (0 ≤ notStates (a.val : Int) ∧ notStates (a.val : Int) ≤ 7) = true := by decide +kernel

theorem notStates_b {a : Int} (h : 0 ≤ a ∧ a ≤ 7) : 0 ≤ notStates a ∧ notStates a ≤ 7 := by
 obtain ⟨n, rfl⟩ := Int.eq_ofNat_of_zero_le h.1; exact of_decide_eq_true (notStates_all ⟨n, by omega⟩)

def nullTest (p q : Bool) : Int := (bif p then (bif q then (bits .or .i64 (bits .or .i64 0 2) 1) else (bits .or .i64 0 2)) else (bif q then (bits .or .i64 0 1) else 0))

theorem nullTest_b : ∀ p q : Bool, 0 ≤ nullTest p q ∧ nullTest p q ≤ 7 := by decide +kernel

def ioutcomes_r : Nat → Xpr → (List Int) → Int
 | 0, e, st => 0
 | fuel + 1, e, st => (bif ((Xpr.Kind e) == 1) then (getD st (Int.toNat (Xpr.Col e)) 0) else (bif ((Xpr.Kind e) == 2) then (istateOf (Xpr.V e)) else (bif ((Xpr.Kind e) == 10) then (bits .or .i64 (bits .or .i64 (bits .and .i64 ((ioutcomes_r fuel) (getD (Xpr.Kids e) 0 Xpr.zero) st) 4) ((bits .and .i64 ((ioutcomes_r fuel) (getD (Xpr.Kids e) 0 Xpr.zero) st) 1) * 2 ^ 1)) ((bits .and .i64 ((ioutcomes_r fuel) (getD (Xpr.Kids e) 0 Xpr.zero) st) 2) / 2 ^ 1)) else (bif ((Xpr.Kind e) == 11) then (bif ((bits .and .i64 ((ioutcomes_r fuel) (getD (Xpr.Kids e) 0 Xpr.zero) st) 4) != 0) then (bif ((bits .andNot .i64 ((ioutcomes_r fuel) (getD (Xpr.Kids e) 0 Xpr.zero) st) 4) != 0) then (bits .or .i64 (bits .or .i64 0 2) 1) else (bits .or .i64 0 2)) else (bif ((bits .andNot .i64 ((ioutcomes_r fuel) (getD (Xpr.Kids e) 0 Xpr.zero) st) 4) != 0) then (bits .or .i64 0 1) else 0)) else (combinedStates (Xpr.Kind e) ((ioutcomes_r fuel) (getD (Xpr.Kids e) 0 Xpr.zero) st) ((ioutcomes_r fuel) (getD (Xpr.Kids e) 1 Xpr.zero) st))))))

def ioutcomes (e : Xpr) (st : List Int) : Int := ioutcomes_r (SizeOf.sizeOf e + 1) e st

def ioutcomes_spn (fuel : Nat) : FnSpec := mkSpec [.rd (.named 1), .val (.slice (.int .i64))] [.val (.int .i64)] (fun (e : Xpr) (st : List Int) => (VX st e) ∧ SizeOf.sizeOf e < fuel) (fun (e : Xpr) (st : List Int) => [⟨(.int .i64), (ioutcomes_r fuel e st)⟩])

def ioutcomes_sp : FnSpec := mkSpec [.rd (.named 1), .val (.slice (.int .i64))] [.val (.int .i64)] (fun (e : Xpr) (st : List Int) => VX st e) (fun (e : Xpr) (st : List Int) => [⟨(.int .i64), (ioutcomes e st)⟩])

theorem ioutcomes_b : ∀ (f : Nat) (e : Xpr) (st : List Int), VX st e → 0 ≤ ioutcomes_r f e st ∧ ioutcomes_r f e st ≤ 7 := by
 intro f
 induction f with
 | zero => intro e st h; exact ⟨by show (0 : Int) ≤ 0; decide, by show (0 : Int) ≤ 7; decide⟩
 | succ f ih =>
  intro e st h; have hn := h.node; have hnk := hn.kids; have hkc := kids_cases (Xpr.Kind e); unfold ioutcomes_r; by_cases h1 : e.Kind = 1
  · rw [show (e.Kind == 1) = true by simp [h1], cond_true]; have hc := hn.col h1; have := h.1 e.Col.toNat (by omega); omega
  ·
   rw [show (e.Kind == 1) = false by simp [h1], cond_false]; by_cases h2 : e.Kind = 2
   · rw [show (e.Kind == 2) = true by simp [h2], cond_true]; have := stateOf_b e.V; rw [stateOf_eq]; omega
   ·
    rw [show (e.Kind == 2) = false by simp [h2], cond_false]; have a := ih _ st (h.kid (i := 0) (by omega)); by_cases h3 : e.Kind = 10
    · rw [show (e.Kind == 10) = true by simp [h3], cond_true]; exact notStates_b a
    ·
     rw [show (e.Kind == 10) = false by simp [h3], cond_false]; by_cases h4 : e.Kind = 11
     · rw [show (e.Kind == 11) = true by simp [h4], cond_true]; exact nullTest_b _ _
     · rw [show (e.Kind == 11) = false by simp [h4], cond_false]; exact combinedStates_b _ a (ih _ st (h.kid (i := 1) (by omega)))

theorem ioutcomes_okn (fuel : Nat) : FnOK Try.prog 105 (ioutcomes_spn fuel) := by
 induction fuel with
 | zero => exact FnOK.never Try.func105 (by kernel_rfl) rfl (fun _ _ h => absurd h.2 (Nat.not_lt_zero _))
 | succ fuel ih => ?_
 have hC : CtxOK Try.prog (mkCtx tyL [(105, (ioutcomes_spn fuel)), (139, istateOf_sp), (140, combinedStates_sp)]) := CtxOK.cons ih (CtxOK.cons istateOf_ok (CtxOK.cons combinedStates_ok (CtxOK.nil tyOK))); have hM : Try.prog.follows .mixedOrders = true := Try.checked.mixed; refine FnOK.of_body Try.func105 (by kernel_rfl) rfl (C := (mkCtx tyL [(105, (ioutcomes_spn fuel)), (139, istateOf_sp), (140, combinedStates_sp)])) hC.ty (by kernel_rfl) ?_; intro (e : Xpr) (st : List Int) hwf hpre E; have hpre : (VX st e) ∧ SizeOf.sizeOf e < fuel + 1 := hpre; have hn := hpre.1.node; have hnk := hn.kids; have hkc := kids_cases (Xpr.Kind e); have hcol := hn.col; have e0 : ioutcomes_r (fuel + 1) e st = ioutcomes_r (fuel + 1) e st := rfl; refine seq (r1U hC [0, 1] [] [] [] ?_); refine seq (seq (r1U hC [0, 1, 10] [] [(10, sI (Xpr.Kind e))] [] ?_)); refine block (seq (r1U hC [0, 1, 10, 11] [] [(11, sB ((Xpr.Kind e) == 1))] [] ?_)); refine cdE e0 ?_ ?_
 ·
  intro h1q e2; refine seq (r0 hC [4] [] ⟨[(4, sI (getD st (Int.toNat (Xpr.Col e)) 0))], []⟩ [IX (Xpr.Col e) (length st : Int)] ?_ ?_)
  ·
   exact ⟨IX.of (by omega), trivial⟩
  exact ret (rI _ e2)
 ·
  intro h3q e4; refine seq (r1U hC [0, 1, 20] [] [(20, sB ((Xpr.Kind e) == 2))] [] ?_); refine cdE e4 ?_ ?_
  ·
   intro h5q e6; refine seq (r0 hC [4] [] ⟨[(4, sI (istateOf (Xpr.V e)))], []⟩ [(True)] ?_ ?_)
   ·
    exact ⟨trivial, trivial⟩
   exact ret (rI _ e6)
  ·
   intro h7q e8; refine kpU [0, 1] [] [] [] ?_; refine AW.skip (seq (r0U hC [0, 1, 5] [] [(5, sI ((ioutcomes_r fuel) (getD (Xpr.Kids e) 0 Xpr.zero) st))] [] [IX (0 : Int) (length (Xpr.Kids e) : Int), ((VX st (getD (Xpr.Kids e) 0 Xpr.zero)) ∧ SizeOf.sizeOf (getD (Xpr.Kids e) 0 Xpr.zero) < fuel)] ?_ ?_))
   ·
    exact ⟨IX.of (by omega), (⟨hpre.1.kid (by omega), Nat.lt_of_lt_of_le (kid_lt (by omega)) (Nat.le_of_lt_succ hpre.2)⟩), trivial⟩
   refine seq (seq (r1U hC [0, 1, 5, 37] [] [(37, sI (Xpr.Kind e))] [] ?_)); refine block (seq (r1U hC [0, 1, 5, 37, 38] [] [(38, sB ((Xpr.Kind e) == 10))] [] ?_)); refine cdE e8 ?_ ?_
   ·
    intro h9q e10; refine seq (r0 hC [4] [] ⟨[(4, sI (bits .or .i64 (bits .or .i64 (bits .and .i64 ((ioutcomes_r fuel) (getD (Xpr.Kids e) 0 Xpr.zero) st) 4) ((bits .and .i64 ((ioutcomes_r fuel) (getD (Xpr.Kids e) 0 Xpr.zero) st) 1) * 2 ^ 1)) ((bits .and .i64 ((ioutcomes_r fuel) (getD (Xpr.Kids e) 0 Xpr.zero) st) 2) / 2 ^ 1)))], []⟩ [(0 ≤ (1 : Int) ∧ (1 : Int) ≤ 64), R64 ((bits .and .i64 ((ioutcomes_r fuel) (getD (Xpr.Kids e) 0 Xpr.zero) st) 1) * 2 ^ 1), (0 ≤ (1 : Int) ∧ (1 : Int) ≤ 64)] ?_ ?_)
    ·
     exact ⟨(by omega), R64.of (by have ha := andOneB (ioutcomes_b fuel _ _ (hpre.1.kid (i := 0) (by omega))); omega), (by omega), trivial⟩
    exact ret (rI _ e10)
   ·
    intro h11q e12; refine seq (r1U hC [0, 1, 5, 50] [] [(50, sB ((Xpr.Kind e) == 11))] [] ?_); refine cdE e12 ?_ ?_
    ·
     intro h13q e14; refine seq (r1U hC [5, 6] [] [(6, sI 0)] [] ?_); refine seq (seq (r1 hC [5, 6, 54] [] ⟨[(5, sI ((ioutcomes_r fuel) (getD (Xpr.Kids e) 0 Xpr.zero) st)), (6, sI 0), (54, sB ((bits .and .i64 ((ioutcomes_r fuel) (getD (Xpr.Kids e) 0 Xpr.zero) st) 4) != 0))], []⟩ ?_)); refine cdE e14 ?_ ?_
     ·
      intro h15q e16; refine r1U hC [5, 6] [] [(6, sI (bits .or .i64 0 2))] [] ?_; refine seq (seq (r1U hC [6, 59] [] [(59, sB ((bits .andNot .i64 ((ioutcomes_r fuel) (getD (Xpr.Kids e) 0 Xpr.zero) st) 4) != 0))] [] ?_)); refine cdE e16 ?_ ?_
      · intro h17q e18; refine r1 hC [6] [] ⟨[(6, sI (bits .or .i64 (bits .or .i64 0 2) 1))], []⟩ ?_; refine seq (r1 hC [4] [] ⟨[(4, sI (bits .or .i64 (bits .or .i64 0 2) 1))], []⟩ ?_); exact ret (rI _ e18)
      · intro h19q e20; refine kpU [6] [] [] [] ?_; refine AW.skip (seq (r1 hC [4] [] ⟨[(4, sI (bits .or .i64 0 2))], []⟩ ?_)); exact ret (rI _ e20)
     ·
      intro h21q e22; refine kpU [5, 6] [] [] [] ?_; refine AW.skip (seq (seq (r1U hC [6, 59] [] [(59, sB ((bits .andNot .i64 ((ioutcomes_r fuel) (getD (Xpr.Kids e) 0 Xpr.zero) st) 4) != 0))] [] ?_))); refine cdE e22 ?_ ?_
      · intro h23q e24; refine r1 hC [6] [] ⟨[(6, sI (bits .or .i64 0 1))], []⟩ ?_; refine seq (r1 hC [4] [] ⟨[(4, sI (bits .or .i64 0 1))], []⟩ ?_); exact ret (rI _ e24)
      · intro h25q e26; refine kpU [6] [] [] [] ?_; refine AW.skip (seq (r1 hC [4] [] ⟨[(4, sI 0)], []⟩ ?_)); exact ret (rI 0 e26)
    ·
     intro h27q e28; refine kpU [0, 1, 5] [] [] [] ?_; refine AW.skip (seq (d0 hC hM [4] [] ⟨[(4, sI (combinedStates (Xpr.Kind e) ((ioutcomes_r fuel) (getD (Xpr.Kids e) 0 Xpr.zero) st) ((ioutcomes_r fuel) (getD (Xpr.Kids e) 1 Xpr.zero) st)))], []⟩ [IX (1 : Int) (length (Xpr.Kids e) : Int), ((VX st (getD (Xpr.Kids e) 1 Xpr.zero)) ∧ SizeOf.sizeOf (getD (Xpr.Kids e) 1 Xpr.zero) < fuel), ((0 ≤ ((ioutcomes_r fuel) (getD (Xpr.Kids e) 0 Xpr.zero) st) ∧ ((ioutcomes_r fuel) (getD (Xpr.Kids e) 0 Xpr.zero) st) ≤ 7) ∧ (0 ≤ ((ioutcomes_r fuel) (getD (Xpr.Kids e) 1 Xpr.zero) st) ∧ ((ioutcomes_r fuel) (getD (Xpr.Kids e) 1 Xpr.zero) st) ≤ 7))] ?_ ?_))
     ·
      exact ⟨IX.of (by omega), (⟨hpre.1.kid (by omega), Nat.lt_of_lt_of_le (kid_lt (by omega)) (Nat.le_of_lt_succ hpre.2)⟩), (⟨ioutcomes_b fuel _ _ (hpre.1.kid (by omega)), ioutcomes_b fuel _ _ (hpre.1.kid (by omega))⟩), trivial⟩
     exact ret (rI _ e28)

theorem ioutcomes_fu : AllTV (ioutcomes_sp.ps.map PK.ty) (fun tvs => ioutcomes_sp.pre tvs → ∃ k, (ioutcomes_spn k).pre tvs ∧ (ioutcomes_spn k).fn tvs = ioutcomes_sp.fn tvs ∧ (ioutcomes_spn k).bx tvs = ioutcomes_sp.bx tvs) :=
 (fun (e : Xpr) (st : List Int) h => ⟨SizeOf.sizeOf e + 1, (show (VX st e) ∧ SizeOf.sizeOf e < SizeOf.sizeOf e + 1 from ⟨h, Nat.lt_succ_self _⟩), (show (ioutcomes_spn (SizeOf.sizeOf e + 1)).fn [⟨(.named 1), (e : Xpr)⟩, ⟨(.slice (.int .i64)), (st : List Int)⟩] = ([⟨(.int .i64), (ioutcomes_r (SizeOf.sizeOf e + 1) e st)⟩] : List TV) from by kernel_rfl).trans (show ([⟨(.int .i64), (ioutcomes_r (SizeOf.sizeOf e + 1) e st)⟩] : List TV) = ioutcomes_sp.fn [⟨(.named 1), (e : Xpr)⟩, ⟨(.slice (.int .i64)), (st : List Int)⟩] from by kernel_rfl), by kernel_rfl⟩)

theorem ioutcomes_ok : FnOK Try.prog 105 ioutcomes_sp := FnOK.of_fuel ioutcomes_okn (fun _ => rfl) (fun _ => rfl) (AllTV.get ioutcomes_fu)

end
end Go.Proofs.Ytodcdgolcbdkgaa


namespace Go.Proofs.Ytodcdgolcbdkgaa
open Go Go.Am
open Go.Am.AW (seq r1U ret kpU cdE r0U r1 meet rI block rB bk exit lpB r0 kp)
open List (length getD)
noncomputable section

theorem ts8 : ∀ a b : Fin 8, (truthStates 8 (a.val : Int) (b.val : Int) == combinedStates 8 (a.val : Int) (b.val : Int)) = true := by decide +kernel
theorem ts9 : ∀ a b : Fin 8, (truthStates 9 (a.val : Int) (b.val : Int) == combinedStates 9 (a.val : Int) (b.val : Int)) = true := by decide +kernel
theorem an_all : ∀ a : Fin 8, ((bits .andNot .i64 (a.val : Int) 4 != 0) == (bits .and .i64 (a.val : Int) 3 != 0)) = true := by decide +kernel
theorem an_eq {a : Int} (h : 0 ≤ a ∧ a ≤ 7) : (bits .andNot .i64 a 4 != 0) = (bits .and .i64 a 3 != 0) := by
 obtain ⟨n, rfl⟩ := Int.eq_ofNat_of_zero_le h.1; exact beq_iff_eq.1 (an_all ⟨n, by omega⟩)

def outcomes_r : Nat → Xpr → (List Int) → Int
 | 0, e, st => 0
 | fuel + 1, e, st => (bif ((Xpr.Kind e) == 1) then (getD st (Int.toNat (Xpr.Col e)) 0) else (bif ((Xpr.Kind e) == 2) then (stateOf (Xpr.V e)) else (bif ((Xpr.Kind e) == 10) then (bits .or .i64 (bits .or .i64 (bits .and .i64 ((outcomes_r fuel) (getD (Xpr.Kids e) 0 Xpr.zero) st) 4) ((bits .and .i64 ((outcomes_r fuel) (getD (Xpr.Kids e) 0 Xpr.zero) st) 1) * 2 ^ 1)) ((bits .and .i64 ((outcomes_r fuel) (getD (Xpr.Kids e) 0 Xpr.zero) st) 2) / 2 ^ 1)) else (bif ((Xpr.Kind e) == 11) then (bif ((bits .and .i64 ((outcomes_r fuel) (getD (Xpr.Kids e) 0 Xpr.zero) st) 4) != 0) then (bif ((bits .and .i64 ((outcomes_r fuel) (getD (Xpr.Kids e) 0 Xpr.zero) st) 3) != 0) then (bits .or .i64 2 1) else 2) else (bif ((bits .and .i64 ((outcomes_r fuel) (getD (Xpr.Kids e) 0 Xpr.zero) st) 3) != 0) then (bits .or .i64 0 1) else 0)) else (bif (bif ((Xpr.Kind e) == 8) then true else ((Xpr.Kind e) == 9)) then (truthStates (Xpr.Kind e) ((outcomes_r fuel) (getD (Xpr.Kids e) 0 Xpr.zero) st) ((outcomes_r fuel) (getD (Xpr.Kids e) 1 Xpr.zero) st)) else (bif ((bits .and .i64 (bits .or .i64 ((outcomes_r fuel) (getD (Xpr.Kids e) 0 Xpr.zero) st) ((outcomes_r fuel) (getD (Xpr.Kids e) 1 Xpr.zero) st)) 4) != 0) then (bif (bif ((bits .and .i64 ((outcomes_r fuel) (getD (Xpr.Kids e) 0 Xpr.zero) st) 3) != 0) then ((bits .and .i64 ((outcomes_r fuel) (getD (Xpr.Kids e) 1 Xpr.zero) st) 3) != 0) else false) then (bif (decide ((Xpr.Kind e) < 6)) then (bits .or .i64 (bits .or .i64 4 3) 4) else (bits .or .i64 4 3)) else 4) else (bif (bif ((bits .and .i64 ((outcomes_r fuel) (getD (Xpr.Kids e) 0 Xpr.zero) st) 3) != 0) then ((bits .and .i64 ((outcomes_r fuel) (getD (Xpr.Kids e) 1 Xpr.zero) st) 3) != 0) else false) then (bif (decide ((Xpr.Kind e) < 6)) then (bits .or .i64 (bits .or .i64 0 3) 4) else (bits .or .i64 0 3)) else 0)))))))

def outcomes (e : Xpr) (st : List Int) : Int := outcomes_r (SizeOf.sizeOf e + 1) e st

def outcomes_spn (fuel : Nat) : FnSpec := mkSpec [.val (.named 1), .val (.slice (.int .i64))] [.val (.int .i64)] (fun (e : Xpr) (st : List Int) => (VX st e) ∧ SizeOf.sizeOf e < fuel) (fun (e : Xpr) (st : List Int) => [⟨(.int .i64), (outcomes_r fuel e st)⟩])

def outcomes_sp : FnSpec := mkSpec [.val (.named 1), .val (.slice (.int .i64))] [.val (.int .i64)] (fun (e : Xpr) (st : List Int) => VX st e) (fun (e : Xpr) (st : List Int) => [⟨(.int .i64), (outcomes e st)⟩])

theorem outcomes_eq : ∀ (f : Nat) (e : Xpr) (st : List Int), VX st e → outcomes_r f e st = ioutcomes_r f e st := by
 intro f
 induction f with
 | zero => intro e st h; rfl
 | succ f ih =>
  intro e st h; have hn := h.node; have hnk := hn.kids; have hkc := kids_cases (Xpr.Kind e); unfold ioutcomes_r outcomes_r; by_cases h1 : e.Kind = 1
  · rw [show (e.Kind == 1) = true by simp [h1], cond_true, cond_true]
  ·
   rw [show (e.Kind == 1) = false by simp [h1], cond_false, cond_false]; by_cases h2 : e.Kind = 2
   · rw [show (e.Kind == 2) = true by simp [h2], cond_true, cond_true, stateOf_eq]
   ·
    rw [show (e.Kind == 2) = false by simp [h2], cond_false, cond_false]; have a := ioutcomes_b f _ st (h.kid (i := 0) (by omega)); rw [ih _ st (h.kid (i := 0) (by omega))]; generalize ioutcomes_r f (getD e.Kids 0 Xpr.zero) st = x at *; by_cases h3 : e.Kind = 10
    · rw [show (e.Kind == 10) = true by simp [h3], cond_true, cond_true]
    ·
     rw [show (e.Kind == 10) = false by simp [h3], cond_false, cond_false]; by_cases h4 : e.Kind = 11
     · rw [show (e.Kind == 11) = true by simp [h4], cond_true, cond_true, an_eq a]; generalize (bits .and .i64 x 4 != 0) = p; generalize (bits .and .i64 x 3 != 0) = q; revert p q; decide +kernel
     ·
      rw [show (e.Kind == 11) = false by simp [h4], cond_false, cond_false]; have b := ioutcomes_b f _ st (h.kid (i := 1) (by omega)); rw [ih _ st (h.kid (i := 1) (by omega))]; generalize ioutcomes_r f (getD e.Kids 1 Xpr.zero) st = y at *; obtain ⟨n, rfl⟩ := Int.eq_ofNat_of_zero_le a.1; obtain ⟨m, rfl⟩ := Int.eq_ofNat_of_zero_le b.1; by_cases h8 : e.Kind = 8
      · rw [h8]; rw [show ((8 : Int) == 8) = true from rfl, cond_true, cond_true]; exact beq_iff_eq.1 (ts8 ⟨n, by omega⟩ ⟨m, by omega⟩)
      ·
       by_cases h9 : e.Kind = 9
       · rw [h9]; rw [show ((9 : Int) == 8) = false from rfl, show ((9 : Int) == 9) = true from rfl, cond_false, cond_true]; exact beq_iff_eq.1 (ts9 ⟨n, by omega⟩ ⟨m, by omega⟩)
       · unfold combinedStates; rw [an_eq a, an_eq b, show (e.Kind == 8) = false by simp [h8], show (e.Kind == 9) = false by simp [h9], cond_false, cond_false, cond_false]; (have hk : e.Kind = 3 ∨ e.Kind = 4 ∨ e.Kind = 5 ∨ e.Kind = 6 ∨ e.Kind = 7 := by omega); generalize ((bits .and .i64 (bits .or .i64 (n : Int) (m : Int)) 4) != 0) = p1; generalize (bif ((bits .and .i64 (n : Int) 3) != 0) then ((bits .and .i64 (m : Int) 3) != 0) else false) = p2; revert p1 p2; rcases hk with hk | hk | hk | hk | hk <;> rw [hk] <;> decide +kernel

theorem outcomes_b (f : Nat) (e : Xpr) (st : List Int) (h : VX st e) : 0 ≤ outcomes_r f e st ∧ outcomes_r f e st ≤ 7 := by
 rw [outcomes_eq f e st h]; exact ioutcomes_b f e st h

theorem outcomes_okn (fuel : Nat) : FnOK Try.prog 104 (outcomes_spn fuel) := by
 induction fuel with
 | zero => exact FnOK.never Try.func104 (by kernel_rfl) rfl (fun _ _ h => absurd h.2 (Nat.not_lt_zero _))
 | succ fuel ih => ?_
 have hC : CtxOK Try.prog (mkCtx tyL [(104, (outcomes_spn fuel)), (137, stateOf_sp), (138, truthStates_sp)]) := CtxOK.cons ih (CtxOK.cons stateOf_ok (CtxOK.cons truthStates_ok (CtxOK.nil tyOK))); refine FnOK.of_body Try.func104 (by kernel_rfl) rfl (C := (mkCtx tyL [(104, (outcomes_spn fuel)), (137, stateOf_sp), (138, truthStates_sp)])) hC.ty (by kernel_rfl) ?_; intro (e : Xpr) (st : List Int) hwf hpre E; have hpre : (VX st e) ∧ SizeOf.sizeOf e < fuel + 1 := hpre; have hn := hpre.1.node; have hnk := hn.kids; have hkc := kids_cases (Xpr.Kind e); have hcol := hn.col; have e0 : outcomes_r (fuel + 1) e st = outcomes_r (fuel + 1) e st := rfl; refine seq (r1U hC [1, 2] [8] [(2, .ref 8 1 0)] [(8, .box 1 [sI (Xpr.Kind e), sI (Xpr.Col e), sB (Val.Null (Xpr.V e)), sI (Val.N (Xpr.V e)), sD9 (Xpr.Kids e)])] ?_); refine seq (seq (r1U hC [1, 2, 9] [8] [(9, sI (Xpr.Kind e))] [] ?_)); refine block (seq (r1U hC [1, 2, 9, 10] [8] [(10, sB ((Xpr.Kind e) == 1))] [] ?_)); refine cdE e0 ?_ ?_
 ·
  intro h1q e2; refine seq (r0 hC [4] [] ⟨[(4, sI (getD st (Int.toNat (Xpr.Col e)) 0))], []⟩ [IX (Xpr.Col e) (length st : Int)] ?_ ?_)
  ·
   exact ⟨IX.of (by omega), trivial⟩
  exact ret (rI _ e2)
 ·
  intro h3q e4; refine seq (r1U hC [1, 2, 17] [8] [(17, sB ((Xpr.Kind e) == 2))] [] ?_); refine cdE e4 ?_ ?_
  ·
   intro h5q e6; refine seq (r0 hC [4] [] ⟨[(4, sI (stateOf (Xpr.V e)))], []⟩ [(True)] ?_ ?_)
   ·
    exact ⟨trivial, trivial⟩
   exact ret (rI _ e6)
  ·
   intro h7q e8; refine kpU [1, 2] [8] [] [] ?_; refine AW.skip (seq (r0U hC [1, 2, 5] [8] [(5, sI ((outcomes_r fuel) (getD (Xpr.Kids e) 0 Xpr.zero) st))] [] [IX (0 : Int) (length (Xpr.Kids e) : Int), ((VX st (getD (Xpr.Kids e) 0 Xpr.zero)) ∧ SizeOf.sizeOf (getD (Xpr.Kids e) 0 Xpr.zero) < fuel)] ?_ ?_))
   ·
    exact ⟨IX.of (by omega), (⟨hpre.1.kid (by omega), Nat.lt_of_lt_of_le (kid_lt (by omega)) (Nat.le_of_lt_succ hpre.2)⟩), trivial⟩
   refine seq (r1U hC [1, 2, 5, 6] [8] [(6, sI 0)] [] ?_); refine seq (seq (r1U hC [1, 2, 5, 6, 29] [8] [(29, sI (Xpr.Kind e))] [] ?_)); refine block (seq (r1U hC [1, 2, 5, 6, 29, 30] [8] [(30, sB ((Xpr.Kind e) == 10))] [] ?_)); refine cdE e8 ?_ ?_
   ·
    intro h9q e10; refine seq (r0 hC [4] [] ⟨[(4, sI (bits .or .i64 (bits .or .i64 (bits .and .i64 ((outcomes_r fuel) (getD (Xpr.Kids e) 0 Xpr.zero) st) 4) ((bits .and .i64 ((outcomes_r fuel) (getD (Xpr.Kids e) 0 Xpr.zero) st) 1) * 2 ^ 1)) ((bits .and .i64 ((outcomes_r fuel) (getD (Xpr.Kids e) 0 Xpr.zero) st) 2) / 2 ^ 1)))], []⟩ [(0 ≤ (1 : Int) ∧ (1 : Int) ≤ 64), R64 ((bits .and .i64 ((outcomes_r fuel) (getD (Xpr.Kids e) 0 Xpr.zero) st) 1) * 2 ^ 1), (0 ≤ (1 : Int) ∧ (1 : Int) ≤ 64)] ?_ ?_)
    ·
     exact ⟨(by omega), R64.of (by have ha := andOneB (outcomes_b fuel _ _ (hpre.1.kid (i := 0) (by omega))); omega), (by omega), trivial⟩
    exact ret (rI _ e10)
   ·
    intro h11q e12; refine seq (r1U hC [1, 2, 5, 6, 42] [8] [(42, sB ((Xpr.Kind e) == 11))] [] ?_); refine cdE e12 ?_ ?_
    ·
     intro h13q e14; refine seq (seq (r1 hC [5, 6, 46] [] ⟨[(5, sI ((outcomes_r fuel) (getD (Xpr.Kids e) 0 Xpr.zero) st)), (6, sI 0), (46, sB ((bits .and .i64 ((outcomes_r fuel) (getD (Xpr.Kids e) 0 Xpr.zero) st) 4) != 0))], []⟩ ?_)); refine cdE e14 ?_ ?_
     ·
      intro h15q e16; refine r1U hC [5, 6] [] [(6, sI 2)] [] ?_; refine seq (seq (r1U hC [6, 49] [] [(49, sB ((bits .and .i64 ((outcomes_r fuel) (getD (Xpr.Kids e) 0 Xpr.zero) st) 3) != 0))] [] ?_)); refine cdE e16 ?_ ?_
      · intro h17q e18; refine r1 hC [6] [] ⟨[(6, sI (bits .or .i64 2 1))], []⟩ ?_; refine seq (r1 hC [4] [] ⟨[(4, sI (bits .or .i64 2 1))], []⟩ ?_); exact ret (rI _ e18)
      · intro h19q e20; refine kpU [6] [] [] [] ?_; refine AW.skip (seq (r1 hC [4] [] ⟨[(4, sI 2)], []⟩ ?_)); exact ret (rI 2 e20)
     ·
      intro h21q e22; refine kpU [5, 6] [] [] [] ?_; refine AW.skip (seq (seq (r1U hC [6, 49] [] [(49, sB ((bits .and .i64 ((outcomes_r fuel) (getD (Xpr.Kids e) 0 Xpr.zero) st) 3) != 0))] [] ?_))); refine cdE e22 ?_ ?_
      · intro h23q e24; refine r1 hC [6] [] ⟨[(6, sI (bits .or .i64 0 1))], []⟩ ?_; refine seq (r1 hC [4] [] ⟨[(4, sI (bits .or .i64 0 1))], []⟩ ?_); exact ret (rI _ e24)
      · intro h25q e26; refine kpU [6] [] [] [] ?_; refine AW.skip (seq (r1 hC [4] [] ⟨[(4, sI 0)], []⟩ ?_)); exact ret (rI 0 e26)
    ·
     intro h27q e28; refine kp [1, 2, 5, 6] [8] ⟨[(1, sD7 st), (2, .ref 8 1 0), (5, sI ((outcomes_r fuel) (getD (Xpr.Kids e) 0 Xpr.zero) st)), (6, sI 0)], [(8, .box 1 [sI (Xpr.Kind e), sI (Xpr.Col e), sB (Val.Null (Xpr.V e)), sI (Val.N (Xpr.V e)), sD9 (Xpr.Kids e)])]⟩ ?_; refine AW.skip (seq (r0U hC [2, 5, 6, 7] [8] [(7, sI ((outcomes_r fuel) (getD (Xpr.Kids e) 1 Xpr.zero) st))] [] [IX (1 : Int) (length (Xpr.Kids e) : Int), ((VX st (getD (Xpr.Kids e) 1 Xpr.zero)) ∧ SizeOf.sizeOf (getD (Xpr.Kids e) 1 Xpr.zero) < fuel)] ?_ ?_))
     ·
      exact ⟨IX.of (by omega), (⟨hpre.1.kid (by omega), Nat.lt_of_lt_of_le (kid_lt (by omega)) (Nat.le_of_lt_succ hpre.2)⟩), trivial⟩
     refine seq (seq (r0U hC [2, 5, 6, 7, 66] [8] [(66, sB (bif ((Xpr.Kind e) == 8) then true else ((Xpr.Kind e) == 9)))] [] [((((Xpr.Kind e) == 8) = false) → ((((Xpr.Kind e) == 8) = false))), ((((Xpr.Kind e) == 8) = false) → ((((Xpr.Kind e) == 8) = false))), ((((Xpr.Kind e) == 8) = false) → ((((Xpr.Kind e) == 8) = false)))] ?_ ?_))
     ·
      exact ⟨(by intro g29; assumption), (by intro g30; assumption), (by intro g31; assumption), trivial⟩
     refine cdE e28 ?_ ?_
     ·
      intro h32q e33; refine seq (r0 hC [4] [] ⟨[(4, sI (truthStates (Xpr.Kind e) ((outcomes_r fuel) (getD (Xpr.Kids e) 0 Xpr.zero) st) ((outcomes_r fuel) (getD (Xpr.Kids e) 1 Xpr.zero) st)))], []⟩ [((0 ≤ ((outcomes_r fuel) (getD (Xpr.Kids e) 0 Xpr.zero) st) ∧ ((outcomes_r fuel) (getD (Xpr.Kids e) 0 Xpr.zero) st) ≤ 7) ∧ (0 ≤ ((outcomes_r fuel) (getD (Xpr.Kids e) 1 Xpr.zero) st) ∧ ((outcomes_r fuel) (getD (Xpr.Kids e) 1 Xpr.zero) st) ≤ 7))] ?_ ?_)
      ·
       exact ⟨(⟨outcomes_b fuel _ _ (hpre.1.kid (by omega)), outcomes_b fuel _ _ (hpre.1.kid (by omega))⟩), trivial⟩
      exact ret (rI _ e33)
     ·
      intro h34q e35; refine kpU [2, 5, 6, 7] [8] [] [] ?_; refine AW.skip (seq (seq (r1U hC [2, 5, 6, 7, 76] [8] [(76, sB ((bits .and .i64 (bits .or .i64 ((outcomes_r fuel) (getD (Xpr.Kids e) 0 Xpr.zero) st) ((outcomes_r fuel) (getD (Xpr.Kids e) 1 Xpr.zero) st)) 4) != 0))] [] ?_))); refine cdE e35 ?_ ?_
      ·
       intro h36q e37; refine r1U hC [2, 5, 6, 7] [8] [(6, sI 4)] [] ?_; refine seq (seq (r0U hC [2, 6, 84] [8] [(84, sB (bif ((bits .and .i64 ((outcomes_r fuel) (getD (Xpr.Kids e) 0 Xpr.zero) st) 3) != 0) then ((bits .and .i64 ((outcomes_r fuel) (getD (Xpr.Kids e) 1 Xpr.zero) st) 3) != 0) else false))] [] [((((bits .and .i64 ((outcomes_r fuel) (getD (Xpr.Kids e) 0 Xpr.zero) st) 3) != 0) = true) → ((((bits .and .i64 ((outcomes_r fuel) (getD (Xpr.Kids e) 0 Xpr.zero) st) 3) != 0) = true))), ((((bits .and .i64 ((outcomes_r fuel) (getD (Xpr.Kids e) 0 Xpr.zero) st) 3) != 0) = true) → ((((bits .and .i64 ((outcomes_r fuel) (getD (Xpr.Kids e) 0 Xpr.zero) st) 3) != 0) = true))), ((((bits .and .i64 ((outcomes_r fuel) (getD (Xpr.Kids e) 0 Xpr.zero) st) 3) != 0) = true) → ((((bits .and .i64 ((outcomes_r fuel) (getD (Xpr.Kids e) 0 Xpr.zero) st) 3) != 0) = true)))] ?_ ?_))
       ·
        exact ⟨(by intro g38; assumption), (by intro g39; assumption), (by intro g40; assumption), trivial⟩
       refine cdE e37 ?_ ?_
       ·
        intro h41q e42; refine seq (r1U hC [2, 6] [8] [(6, sI (bits .or .i64 4 3))] [] ?_); refine seq (r1U hC [6, 89] [] [(89, sB (decide ((Xpr.Kind e) < 6)))] [] ?_); refine cdE e42 ?_ ?_
        · intro h43q e44; refine r1 hC [6] [] ⟨[(6, sI (bits .or .i64 (bits .or .i64 4 3) 4))], []⟩ ?_; refine seq (r1 hC [4] [] ⟨[(4, sI (bits .or .i64 (bits .or .i64 4 3) 4))], []⟩ ?_); exact ret (rI _ e44)
        · intro h45q e46; refine kpU [6] [] [] [] ?_; refine AW.skip (seq (r1 hC [4] [] ⟨[(4, sI (bits .or .i64 4 3))], []⟩ ?_)); exact ret (rI _ e46)
       · intro h47q e48; refine kpU [6] [] [] [] ?_; refine AW.skip (seq (r1 hC [4] [] ⟨[(4, sI 4)], []⟩ ?_)); exact ret (rI 4 e48)
      ·
       intro h49q e50; refine kpU [2, 5, 6, 7] [8] [] [] ?_; refine AW.skip (seq (seq (r0U hC [2, 6, 84] [8] [(84, sB (bif ((bits .and .i64 ((outcomes_r fuel) (getD (Xpr.Kids e) 0 Xpr.zero) st) 3) != 0) then ((bits .and .i64 ((outcomes_r fuel) (getD (Xpr.Kids e) 1 Xpr.zero) st) 3) != 0) else false))] [] [((((bits .and .i64 ((outcomes_r fuel) (getD (Xpr.Kids e) 0 Xpr.zero) st) 3) != 0) = true) → ((((bits .and .i64 ((outcomes_r fuel) (getD (Xpr.Kids e) 0 Xpr.zero) st) 3) != 0) = true))), ((((bits .and .i64 ((outcomes_r fuel) (getD (Xpr.Kids e) 0 Xpr.zero) st) 3) != 0) = true) → ((((bits .and .i64 ((outcomes_r fuel) (getD (Xpr.Kids e) 0 Xpr.zero) st) 3) != 0) = true))), ((((bits .and .i64 ((outcomes_r fuel) (getD (Xpr.Kids e) 0 Xpr.zero) st) 3) != 0) = true) → ((((bits .and .i64 ((outcomes_r fuel) (getD (Xpr.Kids e) 0 Xpr.zero) st) 3) != 0) = true)))] ?_ ?_)))
       ·
        exact ⟨(by intro g51; assumption), (by intro g52; assumption), (by intro g53; assumption), trivial⟩
       refine cdE e50 ?_ ?_
       ·
        intro h54q e55; refine seq (r1U hC [2, 6] [8] [(6, sI (bits .or .i64 0 3))] [] ?_); refine seq (r1U hC [6, 89] [] [(89, sB (decide ((Xpr.Kind e) < 6)))] [] ?_); refine cdE e55 ?_ ?_
        · intro h56q e57; refine r1 hC [6] [] ⟨[(6, sI (bits .or .i64 (bits .or .i64 0 3) 4))], []⟩ ?_; refine seq (r1 hC [4] [] ⟨[(4, sI (bits .or .i64 (bits .or .i64 0 3) 4))], []⟩ ?_); exact ret (rI _ e57)
        · intro h58q e59; refine kpU [6] [] [] [] ?_; refine AW.skip (seq (r1 hC [4] [] ⟨[(4, sI (bits .or .i64 0 3))], []⟩ ?_)); exact ret (rI _ e59)
       · intro h60q e61; refine kpU [6] [] [] [] ?_; refine AW.skip (seq (r1 hC [4] [] ⟨[(4, sI 0)], []⟩ ?_)); exact ret (rI 0 e61)

theorem outcomes_fu : AllTV (outcomes_sp.ps.map PK.ty) (fun tvs => outcomes_sp.pre tvs → ∃ k, (outcomes_spn k).pre tvs ∧ (outcomes_spn k).fn tvs = outcomes_sp.fn tvs ∧ (outcomes_spn k).bx tvs = outcomes_sp.bx tvs) :=
 (fun (e : Xpr) (st : List Int) h => ⟨SizeOf.sizeOf e + 1, (show (VX st e) ∧ SizeOf.sizeOf e < SizeOf.sizeOf e + 1 from ⟨h, Nat.lt_succ_self _⟩), (show (outcomes_spn (SizeOf.sizeOf e + 1)).fn [⟨(.named 1), (e : Xpr)⟩, ⟨(.slice (.int .i64)), (st : List Int)⟩] = ([⟨(.int .i64), (outcomes_r (SizeOf.sizeOf e + 1) e st)⟩] : List TV) from by kernel_rfl).trans (show ([⟨(.int .i64), (outcomes_r (SizeOf.sizeOf e + 1) e st)⟩] : List TV) = outcomes_sp.fn [⟨(.named 1), (e : Xpr)⟩, ⟨(.slice (.int .i64)), (st : List Int)⟩] from by kernel_rfl), by kernel_rfl⟩)

theorem outcomes_ok : FnOK Try.prog 104 outcomes_sp := FnOK.of_fuel outcomes_okn (fun _ => rfl) (fun _ => rfl) (AllTV.get outcomes_fu)

theorem outcomes_same {e : Xpr} {st : List Int} (h : VX st e) : outcomes e st = ioutcomes e st := outcomes_eq _ e st h

end
end Go.Proofs.Ytodcdgolcbdkgaa
