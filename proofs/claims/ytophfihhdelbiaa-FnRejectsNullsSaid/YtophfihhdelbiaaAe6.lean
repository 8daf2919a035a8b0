/-
  A part of the proof of this claim (Ae6): what functions of the program compute, and plain facts of that. No conditions.
-/
import Derived.Test.YtophfihhdelbiaaAe5
set_option linter.all false
namespace Go.Proofs.Ytophfihhdelbiaa
open Go Go.Am
noncomputable section

def VS (st : List Int) : Prop := ∀ j, j < st.length → 1 ≤ st.getD j 0 ∧ st.getD j 0 ≤ 7

/-- An expression that is valid for states. -/
def VX (st : List Int) (e : Xpr) : Prop := VS st ∧ ∃ l, VE ((st.length : Nat) : Int) l e

theorem VX.kid {st : List Int} {e : Xpr} (h : VX st e) {i : Nat} (hi : i < e.Kids.length) : VX st (e.Kids.getD i Xpr.zero) := by
 obtain ⟨h1, l, h2⟩ := h
 exact ⟨h1, h2.kid hi⟩

theorem VX.node {st : List Int} {e : Xpr} (h : VX st e) : Node ((st.length : Nat) : Int) e := by
 obtain ⟨h1, l, h2⟩ := h
 exact h2.node

theorem cs8 : ∀ a b : Fin 8, decide (0 ≤ combinedStates 8 (a.val : Int) (b.val : Int) ∧ combinedStates 8 (a.val : Int) (b.val : Int) ≤ 7) = true := by decide +kernel
theorem cs9 : ∀ a b : Fin 8, decide (0 ≤ combinedStates 9 (a.val : Int) (b.val : Int) ∧ combinedStates 9 (a.val : Int) (b.val : Int) ≤ 7) = true := by decide +kernel

theorem combinedStates_b (k : Int) {a b : Int} (ha : 0 ≤ a ∧ a ≤ 7) (hb : 0 ≤ b ∧ b ≤ 7) : 0 ≤ combinedStates k a b ∧ combinedStates k a b ≤ 7 := by
 obtain ⟨n, rfl⟩ := Int.eq_ofNat_of_zero_le ha.1
 obtain ⟨m, rfl⟩ := Int.eq_ofNat_of_zero_le hb.1
 by_cases h8 : k = 8
 ·
  subst h8
  exact of_decide_eq_true (cs8 ⟨n, by omega⟩ ⟨m, by omega⟩)
 ·
  by_cases h9 : k = 9
  ·
   subst h9
   exact of_decide_eq_true (cs9 ⟨n, by omega⟩ ⟨m, by omega⟩)
  ·
   unfold combinedStates
   rw [show (k == 8) = false by simp [h8], show (k == 9) = false by simp [h9], cond_false, cond_false]
   generalize ((bits .and .i64 (bits .or .i64 (n : Int) (m : Int)) 4) != 0) = p1
   generalize (bif ((bits .andNot .i64 (n : Int) 4) != 0) then ((bits .andNot .i64 (m : Int) 4) != 0) else false) = p2
   generalize (bif (bif (k == 3) then true else (k == 4)) then true else (k == 5)) = p3
   revert p1 p2 p3
   decide +kernel

theorem andOneAll : ∀ a : Fin 8, decide (0 ≤ bits .and .i64 (a.val : Int) 1 ∧ bits .and .i64 (a.val : Int) 1 ≤ 1) = true := by decide +kernel

theorem andOneB {a : Int} (h : 0 ≤ a ∧ a ≤ 7) : 0 ≤ bits .and .i64 a 1 ∧ bits .and .i64 a 1 ≤ 1 := by
 obtain ⟨n, rfl⟩ := Int.eq_ofNat_of_zero_le h.1
 exact of_decide_eq_true (andOneAll ⟨n, by omega⟩)

def notStates (a : Int) : Int := (bits .or .i64 (bits .or .i64 (bits .and .i64 a 4) ((bits .and .i64 a 1) * 2 ^ 1)) ((bits .and .i64 a 2) / 2 ^ 1))

theorem notStates_all : ∀ a : Fin 8, decide (0 ≤ notStates (a.val : Int) ∧ notStates (a.val : Int) ≤ 7) = true := by decide +kernel

theorem notStates_b {a : Int} (h : 0 ≤ a ∧ a ≤ 7) : 0 ≤ notStates a ∧ notStates a ≤ 7 := by
 obtain ⟨n, rfl⟩ := Int.eq_ofNat_of_zero_le h.1
 exact of_decide_eq_true (notStates_all ⟨n, by omega⟩)

def nullTest (p q : Bool) : Int := (bif p then (bif q then (bits .or .i64 (bits .or .i64 0 2) 1) else (bits .or .i64 0 2)) else (bif q then (bits .or .i64 0 1) else 0))

theorem nullTest_b : ∀ p q : Bool, 0 ≤ nullTest p q ∧ nullTest p q ≤ 7 := by decide +kernel

def ioutcomes_r : Nat → Xpr → (List Int) → Int
 | 0, e, st => 0
 | fuel + 1, e, st => (bif ((Xpr.Kind e) == 1) then (List.getD st (Int.toNat (Xpr.Col e)) 0) else (bif ((Xpr.Kind e) == 2) then (istateOf (Xpr.V e)) else (bif ((Xpr.Kind e) == 10) then (bits .or .i64 (bits .or .i64 (bits .and .i64 ((ioutcomes_r fuel) (List.getD (Xpr.Kids e) 0 Xpr.zero) st) 4) ((bits .and .i64 ((ioutcomes_r fuel) (List.getD (Xpr.Kids e) 0 Xpr.zero) st) 1) * 2 ^ 1)) ((bits .and .i64 ((ioutcomes_r fuel) (List.getD (Xpr.Kids e) 0 Xpr.zero) st) 2) / 2 ^ 1)) else (bif ((Xpr.Kind e) == 11) then (bif ((bits .and .i64 ((ioutcomes_r fuel) (List.getD (Xpr.Kids e) 0 Xpr.zero) st) 4) != 0) then (bif ((bits .andNot .i64 ((ioutcomes_r fuel) (List.getD (Xpr.Kids e) 0 Xpr.zero) st) 4) != 0) then (bits .or .i64 (bits .or .i64 0 2) 1) else (bits .or .i64 0 2)) else (bif ((bits .andNot .i64 ((ioutcomes_r fuel) (List.getD (Xpr.Kids e) 0 Xpr.zero) st) 4) != 0) then (bits .or .i64 0 1) else 0)) else (combinedStates (Xpr.Kind e) ((ioutcomes_r fuel) (List.getD (Xpr.Kids e) 0 Xpr.zero) st) ((ioutcomes_r fuel) (List.getD (Xpr.Kids e) 1 Xpr.zero) st))))))

def ioutcomes (e : Xpr) (st : List Int) : Int := ioutcomes_r (SizeOf.sizeOf e + 1) e st

def ioutcomes_spn (fuel : Nat) : FnSpec := mkSpec [.rd (.named 1), .val (.slice (.int .i64))] [.val (.int .i64)] (fun (e : Xpr) (st : List Int) => (VX st e) ∧ SizeOf.sizeOf e < fuel) (fun (e : Xpr) (st : List Int) => [⟨(.int .i64), (ioutcomes_r fuel e st)⟩])

def ioutcomes_sp : FnSpec := mkSpec [.rd (.named 1), .val (.slice (.int .i64))] [.val (.int .i64)] (fun (e : Xpr) (st : List Int) => VX st e) (fun (e : Xpr) (st : List Int) => [⟨(.int .i64), (ioutcomes e st)⟩])

theorem ioutcomes_b : ∀ (f : Nat) (e : Xpr) (st : List Int), VX st e → 0 ≤ ioutcomes_r f e st ∧ ioutcomes_r f e st ≤ 7 := by
 intro f
 induction f with
 | zero => intro e st h; exact ⟨by show (0 : Int) ≤ 0; decide, by show (0 : Int) ≤ 7; decide⟩
 | succ f ih =>
  intro e st h
  have hn := h.node
  have hnk := hn.kids
  have hkc := kids_cases (Xpr.Kind e)
  unfold ioutcomes_r
  by_cases h1 : e.Kind = 1
  ·
   rw [show (e.Kind == 1) = true by simp [h1], cond_true]
   have hc := hn.col h1
   have := h.1 e.Col.toNat (by omega)
   omega
  ·
   rw [show (e.Kind == 1) = false by simp [h1], cond_false]
   by_cases h2 : e.Kind = 2
   ·
    rw [show (e.Kind == 2) = true by simp [h2], cond_true]
    have := stateOf_b e.V
    rw [stateOf_eq]
    omega
   ·
    rw [show (e.Kind == 2) = false by simp [h2], cond_false]
    have a := ih _ st (h.kid (i := 0) (by omega))
    by_cases h3 : e.Kind = 10
    ·
     rw [show (e.Kind == 10) = true by simp [h3], cond_true]
     exact notStates_b a
    ·
     rw [show (e.Kind == 10) = false by simp [h3], cond_false]
     by_cases h4 : e.Kind = 11
     ·
      rw [show (e.Kind == 11) = true by simp [h4], cond_true]
      exact nullTest_b _ _
     ·
      rw [show (e.Kind == 11) = false by simp [h4], cond_false]
      exact combinedStates_b _ a (ih _ st (h.kid (i := 1) (by omega)))

theorem ioutcomes_okn (fuel : Nat) : FnOK Try.prog 21 (ioutcomes_spn fuel) := by
 induction fuel with
 | zero => exact FnOK.never Try.func21 (by kernel_rfl) rfl (fun _ _ h => absurd h.2 (Nat.not_lt_zero _))
 | succ fuel ih => ?_
 have hC : CtxOK Try.prog (mkCtx tyL [(21, (ioutcomes_spn fuel)), (33, istateOf_sp), (34, combinedStates_sp)]) := CtxOK.cons ih (CtxOK.cons istateOf_ok (CtxOK.cons combinedStates_ok (CtxOK.nil tyOK)))
 have hM : Try.prog.follows .mixedOrders = true := Try.checked.mixed
 refine FnOK.of_body Try.func21 (by kernel_rfl) rfl (C := (mkCtx tyL [(21, (ioutcomes_spn fuel)), (33, istateOf_sp), (34, combinedStates_sp)])) hC.ty (by kernel_rfl) ?_
 intro (e : Xpr) (st : List Int) hwf hpre E
 have hpre : (VX st e) ∧ SizeOf.sizeOf e < fuel + 1 := hpre
 have hw_e : Wf ⟨(.named 1), (e : Xpr)⟩ := hwf _ (List.Mem.head _)
 obtain ⟨hr_e_Kind, hr_e_Col, hl_e_Kids⟩ := Xpr.wfl hw_e
 have hw_st : Wf ⟨(.slice (.int .i64)), (st : List Int)⟩ := hwf _ (List.Mem.tail _ (List.Mem.head _))
 have hl_st : ((List.length st : Nat) : Int) ≤ 9223372036854775807 := hw_st.len
 have hn := hpre.1.node
 have hnk := hn.kids
 have hkc := kids_cases (Xpr.Kind e)
 have hcol := hn.col
 have e0 : ioutcomes_r (fuel + 1) e st = ioutcomes_r (fuel + 1) e st := rfl
 refine AW.seq (AW.r1 hC [0, 1] [] ⟨[(0, sR4 e), (1, sD6 st)], []⟩ ?_)
 refine AW.seq (AW.seq (AW.r1 hC [0, 1, 10] [] ⟨[(0, sR4 e), (1, sD6 st), (10, sI (Xpr.Kind e))], []⟩ ?_))
 refine AW.block (AW.seq (AW.r1 hC [0, 1, 10, 11] [] ⟨[(0, sR4 e), (1, sD6 st), (10, sI (Xpr.Kind e)), (11, sB ((Xpr.Kind e) == 1))], []⟩ ?_))
 refine AW.cd ((Xpr.Kind e) == 1) ?_ ?_
 ·
  intro h1
  have h1q := (Go.Am.beq_pos h1)
  have e2 := e0.trans (Go.Am.bif_t h1)
  refine AW.seq (AW.r0 hC [4] [] ⟨[(4, sI (List.getD st (Int.toNat (Xpr.Col e)) 0))], []⟩ [IX (Xpr.Col e) ((List.length st : Nat) : Int)] ?_ ?_)
  ·
   refine ⟨?_, trivial⟩
   ·
    refine IX.of ?_
    first | omega | (dsimp only; omega) | (simp only [lens] at *; omega)
  exact AW.ret (AW.rI (List.getD st (Int.toNat (Xpr.Col e)) 0) e2)
 ·
  intro h3
  have h3q := (Go.Am.beq_neg h3)
  have e4 := e0.trans (Go.Am.bif_f h3)
  refine AW.seq (AW.r1 hC [0, 1, 20] [] ⟨[(0, sR4 e), (1, sD6 st), (20, sB ((Xpr.Kind e) == 2))], []⟩ ?_)
  refine AW.cd ((Xpr.Kind e) == 2) ?_ ?_
  ·
   intro h5
   have h5q := (Go.Am.beq_pos h5)
   have e6 := e4.trans (Go.Am.bif_t h5)
   refine AW.seq (AW.r0 hC [4] [] ⟨[(4, sI (istateOf (Xpr.V e)))], []⟩ [(True)] ?_ ?_)
   ·
    refine ⟨?_, trivial⟩
    ·
     trivial
   exact AW.ret (AW.rI (istateOf (Xpr.V e)) e6)
  ·
   intro h7
   have h7q := (Go.Am.beq_neg h7)
   have e8 := e4.trans (Go.Am.bif_f h7)
   refine AW.kp [0, 1] [] ⟨[(0, sR4 e), (1, sD6 st)], []⟩ ?_
   refine AW.skip (AW.seq (AW.r0 hC [0, 1, 5] [] ⟨[(0, sR4 e), (1, sD6 st), (5, sI ((ioutcomes_r fuel) (List.getD (Xpr.Kids e) 0 Xpr.zero) st))], []⟩ [IX (0 : Int) ((List.length (Xpr.Kids e) : Nat) : Int), ((VX st (List.getD (Xpr.Kids e) 0 Xpr.zero)) ∧ SizeOf.sizeOf (List.getD (Xpr.Kids e) 0 Xpr.zero) < fuel)] ?_ ?_))
   ·
    refine ⟨?_, ?_, trivial⟩
    ·
     refine IX.of ?_
     first | omega | (dsimp only; omega) | (simp only [lens] at *; omega)
    ·
     exact ⟨hpre.1.kid (by omega), Nat.lt_of_lt_of_le (kid_lt (by omega)) (Nat.le_of_lt_succ hpre.2)⟩
   refine AW.seq (AW.seq (AW.r1 hC [0, 1, 5, 37] [] ⟨[(0, sR4 e), (1, sD6 st), (5, sI ((ioutcomes_r fuel) (List.getD (Xpr.Kids e) 0 Xpr.zero) st)), (37, sI (Xpr.Kind e))], []⟩ ?_))
   refine AW.block (AW.seq (AW.r1 hC [0, 1, 5, 37, 38] [] ⟨[(0, sR4 e), (1, sD6 st), (5, sI ((ioutcomes_r fuel) (List.getD (Xpr.Kids e) 0 Xpr.zero) st)), (37, sI (Xpr.Kind e)), (38, sB ((Xpr.Kind e) == 10))], []⟩ ?_))
   refine AW.cd ((Xpr.Kind e) == 10) ?_ ?_
   ·
    intro h9
    have h9q := (Go.Am.beq_pos h9)
    have e10 := e8.trans (Go.Am.bif_t h9)
    refine AW.seq (AW.r0 hC [4] [] ⟨[(4, sI (bits .or .i64 (bits .or .i64 (bits .and .i64 ((ioutcomes_r fuel) (List.getD (Xpr.Kids e) 0 Xpr.zero) st) 4) ((bits .and .i64 ((ioutcomes_r fuel) (List.getD (Xpr.Kids e) 0 Xpr.zero) st) 1) * 2 ^ 1)) ((bits .and .i64 ((ioutcomes_r fuel) (List.getD (Xpr.Kids e) 0 Xpr.zero) st) 2) / 2 ^ 1)))], []⟩ [(0 ≤ (1 : Int) ∧ (1 : Int) ≤ 64), R64 ((bits .and .i64 ((ioutcomes_r fuel) (List.getD (Xpr.Kids e) 0 Xpr.zero) st) 1) * 2 ^ 1), (0 ≤ (1 : Int) ∧ (1 : Int) ≤ 64)] ?_ ?_)
    ·
     refine ⟨?_, ?_, ?_, trivial⟩
     ·
      first | omega | (dsimp only; omega) | (simp only [lens] at *; omega)
     ·
      refine R64.of ?_
      have ha := andOneB (ioutcomes_b fuel _ _ (hpre.1.kid (i := 0) (by omega)))
      omega
     ·
      first | omega | (dsimp only; omega) | (simp only [lens] at *; omega)
    exact AW.ret (AW.rI (bits .or .i64 (bits .or .i64 (bits .and .i64 ((ioutcomes_r fuel) (List.getD (Xpr.Kids e) 0 Xpr.zero) st) 4) ((bits .and .i64 ((ioutcomes_r fuel) (List.getD (Xpr.Kids e) 0 Xpr.zero) st) 1) * 2 ^ 1)) ((bits .and .i64 ((ioutcomes_r fuel) (List.getD (Xpr.Kids e) 0 Xpr.zero) st) 2) / 2 ^ 1)) e10)
   ·
    intro h11
    have h11q := (Go.Am.beq_neg h11)
    have e12 := e8.trans (Go.Am.bif_f h11)
    refine AW.seq (AW.r1 hC [0, 1, 5, 50] [] ⟨[(0, sR4 e), (1, sD6 st), (5, sI ((ioutcomes_r fuel) (List.getD (Xpr.Kids e) 0 Xpr.zero) st)), (50, sB ((Xpr.Kind e) == 11))], []⟩ ?_)
    refine AW.cd ((Xpr.Kind e) == 11) ?_ ?_
    ·
     intro h13
     have h13q := (Go.Am.beq_pos h13)
     have e14 := e12.trans (Go.Am.bif_t h13)
     refine AW.seq (AW.r1 hC [5, 6] [] ⟨[(5, sI ((ioutcomes_r fuel) (List.getD (Xpr.Kids e) 0 Xpr.zero) st)), (6, sI 0)], []⟩ ?_)
     refine AW.seq (AW.seq (AW.r1 hC [5, 6, 54] [] ⟨[(5, sI ((ioutcomes_r fuel) (List.getD (Xpr.Kids e) 0 Xpr.zero) st)), (6, sI 0), (54, sB ((bits .and .i64 ((ioutcomes_r fuel) (List.getD (Xpr.Kids e) 0 Xpr.zero) st) 4) != 0))], []⟩ ?_))
     refine AW.cd ((bits .and .i64 ((ioutcomes_r fuel) (List.getD (Xpr.Kids e) 0 Xpr.zero) st) 4) != 0) ?_ ?_
     ·
      intro h15
      have h15q := (Go.Am.bne_pos h15)
      have e16 := e14.trans (Go.Am.bif_t h15)
      refine AW.r1 hC [5, 6] [] ⟨[(5, sI ((ioutcomes_r fuel) (List.getD (Xpr.Kids e) 0 Xpr.zero) st)), (6, sI (bits .or .i64 0 2))], []⟩ ?_
      refine AW.seq (AW.seq (AW.r1 hC [6, 59] [] ⟨[(6, sI (bits .or .i64 0 2)), (59, sB ((bits .andNot .i64 ((ioutcomes_r fuel) (List.getD (Xpr.Kids e) 0 Xpr.zero) st) 4) != 0))], []⟩ ?_))
      refine AW.cd ((bits .andNot .i64 ((ioutcomes_r fuel) (List.getD (Xpr.Kids e) 0 Xpr.zero) st) 4) != 0) ?_ ?_
      ·
       intro h17
       have h17q := (Go.Am.bne_pos h17)
       have e18 := e16.trans (Go.Am.bif_t h17)
       refine AW.r1 hC [6] [] ⟨[(6, sI (bits .or .i64 (bits .or .i64 0 2) 1))], []⟩ ?_
       refine AW.seq (AW.r1 hC [4] [] ⟨[(4, sI (bits .or .i64 (bits .or .i64 0 2) 1))], []⟩ ?_)
       exact AW.ret (AW.rI (bits .or .i64 (bits .or .i64 0 2) 1) e18)
      ·
       intro h19
       have h19q := (Go.Am.bne_neg h19)
       have e20 := e16.trans (Go.Am.bif_f h19)
       refine AW.kp [6] [] ⟨[(6, sI (bits .or .i64 0 2))], []⟩ ?_
       refine AW.skip (AW.seq (AW.r1 hC [4] [] ⟨[(4, sI (bits .or .i64 0 2))], []⟩ ?_))
       exact AW.ret (AW.rI (bits .or .i64 0 2) e20)
     ·
      intro h21
      have h21q := (Go.Am.bne_neg h21)
      have e22 := e14.trans (Go.Am.bif_f h21)
      refine AW.kp [5, 6] [] ⟨[(5, sI ((ioutcomes_r fuel) (List.getD (Xpr.Kids e) 0 Xpr.zero) st)), (6, sI 0)], []⟩ ?_
      refine AW.skip (AW.seq (AW.seq (AW.r1 hC [6, 59] [] ⟨[(6, sI 0), (59, sB ((bits .andNot .i64 ((ioutcomes_r fuel) (List.getD (Xpr.Kids e) 0 Xpr.zero) st) 4) != 0))], []⟩ ?_)))
      refine AW.cd ((bits .andNot .i64 ((ioutcomes_r fuel) (List.getD (Xpr.Kids e) 0 Xpr.zero) st) 4) != 0) ?_ ?_
      ·
       intro h23
       have h23q := (Go.Am.bne_pos h23)
       have e24 := e22.trans (Go.Am.bif_t h23)
       refine AW.r1 hC [6] [] ⟨[(6, sI (bits .or .i64 0 1))], []⟩ ?_
       refine AW.seq (AW.r1 hC [4] [] ⟨[(4, sI (bits .or .i64 0 1))], []⟩ ?_)
       exact AW.ret (AW.rI (bits .or .i64 0 1) e24)
      ·
       intro h25
       have h25q := (Go.Am.bne_neg h25)
       have e26 := e22.trans (Go.Am.bif_f h25)
       refine AW.kp [6] [] ⟨[(6, sI 0)], []⟩ ?_
       refine AW.skip (AW.seq (AW.r1 hC [4] [] ⟨[(4, sI 0)], []⟩ ?_))
       exact AW.ret (AW.rI 0 e26)
    ·
     intro h27
     have h27q := (Go.Am.beq_neg h27)
     have e28 := e12.trans (Go.Am.bif_f h27)
     refine AW.kp [0, 1, 5] [] ⟨[(0, sR4 e), (1, sD6 st), (5, sI ((ioutcomes_r fuel) (List.getD (Xpr.Kids e) 0 Xpr.zero) st))], []⟩ ?_
     refine AW.skip (AW.seq (AW.d0 hC hM [4] [] ⟨[(4, sI (combinedStates (Xpr.Kind e) ((ioutcomes_r fuel) (List.getD (Xpr.Kids e) 0 Xpr.zero) st) ((ioutcomes_r fuel) (List.getD (Xpr.Kids e) 1 Xpr.zero) st)))], []⟩ [IX (1 : Int) ((List.length (Xpr.Kids e) : Nat) : Int), ((VX st (List.getD (Xpr.Kids e) 1 Xpr.zero)) ∧ SizeOf.sizeOf (List.getD (Xpr.Kids e) 1 Xpr.zero) < fuel), ((0 ≤ ((ioutcomes_r fuel) (List.getD (Xpr.Kids e) 0 Xpr.zero) st) ∧ ((ioutcomes_r fuel) (List.getD (Xpr.Kids e) 0 Xpr.zero) st) ≤ 7) ∧ (0 ≤ ((ioutcomes_r fuel) (List.getD (Xpr.Kids e) 1 Xpr.zero) st) ∧ ((ioutcomes_r fuel) (List.getD (Xpr.Kids e) 1 Xpr.zero) st) ≤ 7))] ?_ ?_))
     ·
      refine ⟨?_, ?_, ?_, trivial⟩
      ·
       refine IX.of ?_
       first | omega | (dsimp only; omega) | (simp only [lens] at *; omega)
      ·
       exact ⟨hpre.1.kid (by omega), Nat.lt_of_lt_of_le (kid_lt (by omega)) (Nat.le_of_lt_succ hpre.2)⟩
      ·
       exact ⟨ioutcomes_b fuel _ _ (hpre.1.kid (by omega)), ioutcomes_b fuel _ _ (hpre.1.kid (by omega))⟩
     exact AW.ret (AW.rI (combinedStates (Xpr.Kind e) ((ioutcomes_r fuel) (List.getD (Xpr.Kids e) 0 Xpr.zero) st) ((ioutcomes_r fuel) (List.getD (Xpr.Kids e) 1 Xpr.zero) st)) e28)

theorem ioutcomes_fu : AllTV (ioutcomes_sp.ps.map PK.ty) (fun tvs => ioutcomes_sp.pre tvs → ∃ k, (ioutcomes_spn k).pre tvs ∧ (ioutcomes_spn k).fn tvs = ioutcomes_sp.fn tvs ∧ (ioutcomes_spn k).bx tvs = ioutcomes_sp.bx tvs) :=
 (fun (e : Xpr) (st : List Int) h => ⟨SizeOf.sizeOf e + 1, (show (VX st e) ∧ SizeOf.sizeOf e < SizeOf.sizeOf e + 1 from ⟨h, Nat.lt_succ_self _⟩), (show (ioutcomes_spn (SizeOf.sizeOf e + 1)).fn [⟨(.named 1), (e : Xpr)⟩, ⟨(.slice (.int .i64)), (st : List Int)⟩] = ([⟨(.int .i64), (ioutcomes_r (SizeOf.sizeOf e + 1) e st)⟩] : List TV) from by kernel_rfl).trans (show ([⟨(.int .i64), (ioutcomes_r (SizeOf.sizeOf e + 1) e st)⟩] : List TV) = ioutcomes_sp.fn [⟨(.named 1), (e : Xpr)⟩, ⟨(.slice (.int .i64)), (st : List Int)⟩] from by kernel_rfl), by kernel_rfl⟩)

theorem ioutcomes_ok : FnOK Try.prog 21 ioutcomes_sp := FnOK.of_fuel ioutcomes_okn (fun _ => rfl) (fun _ => rfl) (AllTV.get ioutcomes_fu)

end
end Go.Proofs.Ytophfihhdelbiaa
